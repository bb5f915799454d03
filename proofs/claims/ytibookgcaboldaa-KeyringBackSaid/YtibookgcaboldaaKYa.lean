/- The walk's rules on arrays of structs, and on structs that are compared. -/
import Derived.Test.YtibookgcaboldaaSHc
import Derived.Test.YtibookgcaboldaaVLc
import Derived.Test.YtibookgcaboldaaVA
import Derived.Test.YtibookgcaboldaaRD
import Derived.Test.YtibookgcaboldaaSHx
import Derived.Test.YtibookgcaboldaaBXB
set_option maxRecDepth 10000
set_option linter.unusedVariables false
namespace Go.Proofs.Ytibookgcaboldaa.V
open Go.Proofs.Ytibookgcaboldaa.VL Go.Proofs.Ytibookgcaboldaa.VL.View Go.RowKit
section
variable {q : View} {fn : Func} {R : Value → HProp} {k kt : List It} {σ σ' : Facts} {A A' L : List HProp} {f : HProp → List HProp} {st : Bool} {md : Md} {ds : List (Option Tmp)} {os : List SOp} {dst : Option Tmp} {type : TypeId} {gd : Option (Nat × Bool)}
theorem s_ixs {_ : DS} {t e m kk : Nat} {ti ei : TyI} {x y : Operand} {k : IntKind} {i : Int} {xs vs : List Value} (hc : (xs.drop (i.toNat * kk)).take kk = vs) (hkk : Run Try.prog q fn R (.ops md ds os :: kt) σ' A) (hg : guardOf σ ds gd = some true := by exact rfl) (hx : ev σ x = some (.agg ⟨xs⟩) := by exact rfl) (hy : ev σ y = some (.int k i) := by exact rfl) (ht : lookupT tab t = some ti := by exact rfl) (hu : ti.und = .array m e := by exact rfl) (he : lookupT tab e = some ei := by exact rfl) (ha : isAggD ei.und = true := by exact rfl) (hs : ei.size = kk := by exact rfl) (h0 : 0 ≤ i := by omega) (h1 : i < m := by omega) (hp : putF fn.ntmps dst (.agg ⟨vs⟩) σ = some σ' := by exact rfl) : Run Try.prog q fn R (.ops md ds (⟨dst, .index t x y, type, gd⟩ :: os) :: kt) σ A :=
  w_ixs (hT := tabOk) (hc := hc) (hg := hg) (hx := hx) (hy := hy) (ht := ht) (hu := hu) (he := he) (ha := ha) (hs := hs) (h0 := h0) (h1 := h1) (hp := hp) (hkk := hkk)
theorem s_idr {_ : DS} {t e m kk : Nat} {ti ei : TyI} {x y : Operand} {b o : Nat} {k : IntKind} {i : Int} (o' : Nat) (hkk : Run Try.prog q fn R (.ops md ds os :: kt) σ' A) (hg : guardOf σ ds gd = some true := by exact rfl) (hx : ev σ x = some (.pointer (some ⟨b, o, none⟩)) := by exact rfl) (hy : ev σ y = some (.int k i) := by exact rfl) (ht : lookupT tab t = some ti := by exact rfl) (hu : ti.und = .array m e := by exact rfl) (he : lookupT tab e = some ei := by exact rfl) (hs : ei.size = kk := by exact rfl) (h0 : 0 ≤ i := by omega) (h1 : i < m := by omega) (ho : o + i.toNat * kk = o' := by (first | exact rfl | omega)) (hp : putF fn.ntmps dst (.pointer (some ⟨b, o', none⟩)) σ = some σ' := by exact rfl) : Run Try.prog q fn R (.ops md ds (⟨dst, .indexAddr t x y, type, gd⟩ :: os) :: kt) σ A :=
  w_idr (o' := o') (hT := tabOk) (hg := hg) (hx := hx) (hy := hy) (ht := ht) (hu := hu) (he := he) (hs := hs) (h0 := h0) (h1 := h1) (ho := ho) (hp := hp) (hkk := hkk)
theorem s_eqk {_ : DS} {t yt : Nat} {x y : Operand} {xs ys : Array Value} {la lb : List Lit} (m : Nat) (D : Nat) (c : Bool) (hc : c = true ↔ la = lb) (hkk : Run Try.prog q fn R (.ops md ds os :: k) σ' A) (hw : guardOf σ ds gd = some true := by exact rfl) (hx : ev σ x = some (.agg xs) := by exact rfl) (hy : ev σ y = some (.agg ys) := by exact rfl) (hm : m ≤ 10000 := by decide) (hg : Try.prog.eqGuardType Try.prog.depth t = false := by kernel_rfl) (hk : Try.prog.keyTypeAt m t = true := by kernel_rfl) (fa : (Value.agg xs).formed Try.prog t = true := by (first | exact rfl | kernel_rfl)) (fb : (Value.agg ys).formed Try.prog t = true := by (first | exact rfl | kernel_rfl)) (ka : Try.prog.keyLits D t xs.toList = some la := by exact rfl) (kb : Try.prog.keyLits D t ys.toList = some lb := by exact rfl) (hp : putF fn.ntmps dst (.bool c) σ = some σ' := by exact rfl) : Run Try.prog q fn R (.ops md ds (⟨dst, .binOp .eql t x y yt, type, gd⟩ :: os) :: k) σ A :=
  w_eqk (m := m) (D := D) (c := c) (hc := hc) (hw := hw) (hx := hx) (hy := hy) (hm := hm) (hg := hg) (hk := hk) (fa := fa) (fb := fb) (ka := ka) (kb := kb) (hp := hp) (hkk := hkk)
end
end Go.Proofs.Ytibookgcaboldaa.V
namespace Go.Proofs.Ytibookgcaboldaa.V
open Go.Proofs.Ytibookgcaboldaa.VL Go.Proofs.Ytibookgcaboldaa.VL.View Go.RowKit
section
variable {q : View} {fn : Func} {R : Value → HProp} {k kt : List It} {σ σ' : Facts} {A A' L : List HProp} {f : HProp → List HProp} {st : Bool} {md : Md} {ds : List (Option Tmp)} {os : List SOp} {dst : Option Tmp} {type : TypeId} {gd : Option (Nat × Bool)}
theorem s_tounsafe {_ : DS} {src dt t b i : Nat} {si di ti : TyI} {x : Operand} {tc : TypeId} {c : Array Value}  (hkk : Run Try.prog q fn R (.ops (.mem st) ds os :: kt) σ' A) (hg : guardOf σ ds gd = some true := by exact rfl) (hx : ev σ x = some (.pointer (some ⟨b, i, none⟩)) := by exact rfl) (hs : lookupT tab src = some si := by exact rfl) (hsu : si.und = .pointer t := by exact rfl) (hd : lookupT tab dt = some di := by exact rfl) (hdu : di.und = .unsafePointer := by exact rfl) (ht : lookupT tab t = some ti := by exact rfl) (hz : ti.size ≠ 0 := by decide) (hA : At A (cells b tc c) f := by repeat (first | (with_reducible exact At.head) | apply At.tail)) (hi : i < c.size := by (first | exact Nat.succ_pos _ | decide | omega)) (hp : putF fn.ntmps dst (.pointer (some ⟨b, i, none⟩)) σ = some σ' := by exact rfl) : Run Try.prog q fn R (.ops (.mem st) ds (⟨dst, .convert src dt x, type, gd⟩ :: os) :: kt) σ A :=
  w_tounsafe (hT := tabOk) (hg := hg) (hx := hx) (hs := hs) (hsu := hsu) (hd := hd) (hdu := hdu) (ht := ht) (hz := hz) (hA := hA) (hi := hi) (hp := hp) (hkk := hkk)
theorem s_fromunsafe {_ : DS} {src dt u b i : Nat} {si di ui : TyI} {x : Operand} {tc : TypeId} {c : Array Value}  (hkk : Run Try.prog q fn R (.ops (.mem st) ds os :: kt) σ' A) (hg : guardOf σ ds gd = some true := by exact rfl) (hx : ev σ x = some (.pointer (some ⟨b, i, none⟩)) := by exact rfl) (hs : lookupT tab src = some si := by exact rfl) (hsu : si.und = .unsafePointer := by exact rfl) (hd : lookupT tab dt = some di := by exact rfl) (hdu : di.und = .pointer u := by exact rfl) (hu : lookupT tab u = some ui := by exact rfl) (hA : At A (cells b tc c) f := by repeat (first | (with_reducible exact At.head) | apply At.tail)) (hl : liesAt Try.prog Try.prog.depth tc (c.size / Try.prog.cellsOf tc) i u 1 = true := by kernel_rfl) (hp : putF fn.ntmps dst (.pointer (some ⟨b, i, none⟩)) σ = some σ' := by exact rfl) : Run Try.prog q fn R (.ops (.mem st) ds (⟨dst, .convert src dt x, type, gd⟩ :: os) :: kt) σ A :=
  w_fromunsafe (hT := tabOk) (hg := hg) (hx := hx) (hs := hs) (hsu := hsu) (hd := hd) (hdu := hdu) (hu := hu) (hA := hA) (hl := hl) (hp := hp) (hkk := hkk)
theorem s_neqp {_ : DS} {t te yt : Nat} {ti ei : TyI} {x y : Operand} {a : Addr}  (hkk : Run Try.prog q fn R (.ops md ds os :: kt) σ' A) (hg : guardOf σ ds gd = some true := by exact rfl) (hx : ev σ x = some (.pointer (some a)) := by exact rfl) (hy : ev σ y = some (.pointer (some a)) := by exact rfl) (ht : lookupT tab t = some ti := by exact rfl) (hu : ti.und = .pointer te := by exact rfl) (he : lookupT tab te = some ei := by exact rfl) (hp : putF fn.ntmps dst (.bool false) σ = some σ' := by exact rfl) : Run Try.prog q fn R (.ops md ds (⟨dst, .binOp .neq t x y yt, type, gd⟩ :: os) :: kt) σ A :=
  w_neqp (hT := tabOk) (hg := hg) (hx := hx) (hy := hy) (ht := ht) (hu := hu) (he := he) (hp := hp) (hkk := hkk)
theorem s_extern {_ : DS} {c : Call} {fi : FuncId} {fd : Func} {vs : List Value} {e : Array Value → Sem Value} {v : Value} (hr : ∀ w, (e vs.toArray).run Try.prog w = .ok v w) (hf : Try.prog.funcs[fi]? = some fd) (hkk : Run Try.prog q fn R (.ops md ds os :: kt) σ' A) (hg : guardOf σ ds gd = some true := by exact rfl) (hv : calleeV σ c = some (fi, vs) := by exact rfl) (hname : (fd.name == "runtime.NumGoroutine") = false := by kernel_rfl) (hb : fd.body.isNone = true := by kernel_rfl) (hn : Extern.findNext fd = none := by kernel_rfl) (he : Extern.find fd = some e := by kernel_rfl) (hp : putF fn.ntmps dst v σ = some σ' := by exact rfl) : Run Try.prog q fn R (.ops md ds (⟨dst, .call c, type, gd⟩ :: os) :: kt) σ A :=
  w_extern (hr := hr) (hg := hg) (hv := hv) (hf := hf) (hname := hname) (hb := hb) (hn := hn) (he := he) (hp := hp) (hkk := hkk)
theorem s_sdata {_ : DS} {c : Call} {x : Operand} {t len cap k : Nat} {e : TypeId} {p : Option Addr} {xs : List Value}  (hkk : Run Try.prog q fn R (.ops (.mem st) ds os :: kt) σ' A) (hA : At A (sl p len cap e k xs) f := by repeat (first | (with_reducible exact At.head) | apply At.tail)) (hz : len ≠ 0) (hg : guardOf σ ds gd = some true := by exact rfl) (hc : c = { callee := .builtin .unsafeSliceData, args := ⟨[x]⟩, argTypes := ⟨[t]⟩ } := by exact rfl) (hx : ev σ x = some (.slice p len cap) := by exact rfl) (hp : putF fn.ntmps dst (.pointer p) σ = some σ' := by exact rfl) : Run Try.prog q fn R (.ops (.mem st) ds (⟨dst, .call c, type, gd⟩ :: os) :: kt) σ A :=
  w_sdata (hA := hA) (hz := hz) (hg := hg) (hc := hc) (hx := hx) (hp := hp) (hkk := hkk)
theorem s_ustr {_ : DS} {c : Call} {x y : Operand} {pt it len cap e : Nat} {pi ei : TyI} {p : Option Addr} {l : List UInt8}  (hkk : Run Try.prog q fn R (.ops (.mem false) ds os :: kt) σ' (f hemp)) (hes : Try.prog.cellsOf e = 1 := by kernel_rfl) (h63 : l.length ≤ 9223372036854775807 := by omega) (hA : At A (sl p len cap e 1 (bv l)) f := by repeat (first | (with_reducible exact At.head) | apply At.tail)) (hg : guardOf σ ds gd = some true := by exact rfl) (hc : c = { callee := .builtin .unsafeString, args := ⟨[x, y]⟩, argTypes := ⟨[pt, it]⟩ } := by exact rfl) (hx : ev σ x = some (.pointer p) := by exact rfl) (hy : ev σ y = some (.int .i64 (len : Int)) := by exact rfl) (hpt : lookupT tab pt = some pi := by exact rfl) (hpu : pi.und = .pointer e := by exact rfl) (he : lookupT tab e = some ei := by exact rfl) (hp : putF fn.ntmps dst (.string ⟨l.toArray⟩) σ = some σ' := by exact rfl) : Run Try.prog q fn R (.ops (.mem false) ds (⟨dst, .call c, type, gd⟩ :: os) :: kt) σ A :=
  w_ustr (hT := tabOk) (hes := hes) (h63 := h63) (hA := hA) (hg := hg) (hc := hc) (hx := hx) (hy := hy) (hpt := hpt) (hpu := hpu) (he := he) (hp := hp) (hkk := hkk)
theorem s_eqnil {_ : DS} {t yt : Nat} {x : Operand} {z : Value} {ms : Array (String × TypeId)}  (hkk : Run Try.prog q fn R (.ops md ds os :: kt) σ' A) (hg : guardOf σ ds gd = some true := by exact rfl) (hx : ev σ x = some .nilIface := by exact rfl) (hz : z = .nilIface := by exact rfl) (hu : Try.prog.underlying t = some (.interface ms) := by kernel_rfl) (hp : putF fn.ntmps dst (.bool true) σ = some σ' := by exact rfl) : Run Try.prog q fn R (.ops md ds (⟨dst, .binOp .eql t x (.const z) yt, type, gd⟩ :: os) :: kt) σ A :=
  w_eqnil (hg := hg) (hx := hx) (hz := hz) (hu := hu) (hp := hp) (hkk := hkk)
theorem s_defer {D : DS} {c : Call} {d : Deferred} (hk : @Run ⟨d :: D.default⟩ Try.prog q fn R (.ops (.mem false) ds os :: k) σ' A) (hd : deferV σ c = some d := by exact rfl) (hg : guardOf σ ds gd = some true := by exact rfl) (hp : putF fn.ntmps dst undef σ = some σ' := by exact rfl) : Run Try.prog q fn R (.ops (.mem false) ds (⟨dst, .defer c, type, gd⟩ :: os) :: k) σ A :=
  run_defer hd hg hp hk
theorem d_skip {_ : DS} {S : List HProp} {ops : Array Oper} {mm : Nat} {listed : Array Bool} (i : Nat) {o : Oper} (h : RunA Try.prog q fn R kt ops mm (listed.setIfInBounds i true) S σ' A) (hi : nthG ops.toList i = some o := by exact rfl) (hr : Region.ready .any ops listed = [i] := by kernel_rfl) (hg : guardOf σ (ops.toList.map (·.dst)) o.guard = some false := by exact rfl) (hp : putF fn.ntmps o.dst undef σ = some σ' := by exact rfl) : RunA Try.prog q fn R kt ops (mm + 1) listed S σ A :=
  a_skip i hi hr hg hp h
end
end Go.Proofs.Ytibookgcaboldaa.V
namespace Go.Proofs.Ytibookgcaboldaa.V
open Go.Proofs.Ytibookgcaboldaa.VL Go.Proofs.Ytibookgcaboldaa.VL.RD
attribute [local irreducible] Run
def writerAt (b : Nat) (l : List UInt8) (bad : Bool) : HProp := hex fun x : Option Addr × Nat => star [cells b 101 ⟨[.slice x.1 l.length x.2, .bool bad]⟩, sl x.1 l.length x.2 5 1 (bv l)]
section
variable {P : Program} {q : View} {fn : Func} {R : Value → HProp} {k : List It} {σ : Facts} {A B : List HProp} {F : HProp} {b : Nat} {l : List UInt8} {bad : Bool}
theorem run_writer (hk : ∀ p c, Run P q fn R k σ (cells b 101 ⟨[.slice p l.length c, .bool bad]⟩ :: sl p l.length c 5 1 (bv l) :: A)) : Run P q fn R k σ (writerAt b l bad :: A) :=
  run_hex fun x => run_star (hk _ _)
theorem imp_writer {p : Option Addr} {c : Nat} (h : Imp F (star (cells b 101 ⟨[.slice p l.length c, .bool bad]⟩ :: sl p l.length c 5 1 (bv l) :: B))) : Imp F (star (writerAt b l bad :: B)) := by
  refine imp_ex (p, c) ?_
  exact imp_star h
end
def leb (n k : Nat) : List UInt8 := (List.range k).map fun j => UInt8.ofNat (n / 256 ^ j % 256)
theorem leb_length (n k : Nat) : (leb n k).length = k := by simp [leb]
theorem leb_succ (n k : Nat) : leb n (k + 1) = leb n k ++ [UInt8.ofNat (n / 256 ^ k % 256)] := by simp [leb, List.range_succ]
section
variable {P : Program} {q : View} {fn : Func} {R : Value → HProp} {k : List It} {σ : Facts} {A : List HProp} {b : Nat}
theorem run_to_writer {l : List UInt8} {bad : Bool} {p : Option Addr} {c : Nat} (h : Run P q fn R k σ (writerAt b l bad :: A)) : Run P q fn R k σ (cells b 101 ⟨[.slice p l.length c, .bool bad]⟩ :: sl p l.length c 5 1 (bv l) :: A) :=
  h.imp (imp_writer (p := p) (c := c) (Imp.refl _))
theorem run_intro_writer (h : Run P q fn R k σ (writerAt b [] false :: A)) : Run P q fn R k σ (cells b 101 ⟨[.slice none 0 0, .bool false]⟩ :: A) :=
  h.imp (imp_writer (p := none) (c := 0) (imp_pick Pull.head (imp_sl_nil (Imp.refl _))))
end
/-- A number is laid. -/
def wput (l : List UInt8) (bad : Bool) (n : Int) (w : Nat) : List UInt8 × Bool := if n < 0 ∨ n / 2 ^ (8 * w) ≠ 0 then (l, true) else (l ++ leb n.toNat w, bad)
theorem byte_at (n i : Nat) : ((n : Int) / 2 ^ (8 * i) % 256 : Int) = ((n / 256 ^ i % 256 : Nat) : Int) := by
  rw [Int.pow_mul]
  norm_cast
theorem wput_spec (q : View) (b : Nat) (l : List UInt8) (bad : Bool) (n : Int) (w : Nat) (hw : w ≤ 6) (hn : n ≤ 9223372036854775807) (hl : l.length ≤ 1000000) :
    FnD Try.prog q 77 [.pointer (some ⟨b, 0, none⟩), .int .i64 n, .int .i64 w] [writerAt b l bad] (.tuple #[]) [writerAt b (wput l bad n w).1 (wput l bad n w).2] := by
  unfold wput
  (first | refine FnD.go Try.call77 Try.func77 rfl rfl rfl ?_ | refine FnX.go Try.call77 Try.func77 rfl rfl rfl ?_)
  refine run_writer fun p c => ?_
  by_cases h0 : n < 0
  · rw [if_pos (.inl h0)]
    (repeat (first | refine g ?_))
    exact run_ret rfl (imp_RD rfl (imp_writer shut))
  obtain ⟨m, rfl⟩ : ∃ m : Nat, n = m := ⟨n.toNat, by omega⟩
  by_cases h1 : (m : Int) / 2 ^ (8 * w) ≠ 0
  · rw [if_pos (.inr h1)]
    (repeat (first | refine g ?_))
    exact run_ret rfl (imp_RD rfl (imp_writer shut))
  · rw [if_neg (by rintro (h | h); exact h0 h; exact h1 h)]
    (repeat (first | refine g ?_))
    refine run_loopI (X := Nat × Option Addr × Nat) (fun x => x.1 ≤ w) (fun x => [(0, .pointer (some ⟨b, 0, none⟩)), (1, .int .i64 (m : Int)), (19, .int .i64 (w : Int)), (20, .int .i64 (x.1 : Int))])
      (fun x => [cells b 101 ⟨[.slice x.2.1 (l ++ leb m x.1).length x.2.2, .bool bad]⟩, sl x.2.1 (l ++ leb m x.1).length x.2.2 5 1 (bv (l ++ leb m x.1))]) (fun x => w - x.1) (0, p, c) (Nat.zero_le _) fct (by rw [show leb m 0 = [] from rfl, List.append_nil]; exact shut) ?_
    intro ⟨i, p, c⟩ hi
    dsimp only at *
    (repeat (first | refine g ?_))
    refine run_cond_dec rfl ?_ ?_
    · intro h2
      have h2' : i < w := by omega
      have hll : (l ++ leb m i).length = l.length + i := by rw [List.length_append, leb_length]
      (repeat (first | refine g ?_))
      have eb : (((m : Int) / 2 ^ ((8 : Int) * i).toNat) % 256) = ((UInt8.ofNat (m / 256 ^ i % 256)).toNat : Int) := by
        rw [show ((8 : Int) * i).toNat = 8 * i by omega, byte_at, UInt8.toNat_ofNat']; omega
      have el : bv (l ++ leb m (i + 1)) = bv (l ++ leb m i) ++ [Value.int .u8 (((m : Int) / 2 ^ ((8 : Int) * i).toNat) % 256)] := by
        rw [leb_succ, ← List.append_assoc, bv_append _ [_], eb]; rfl
      have ell : (l ++ leb m (i + 1)).length = (l ++ leb m i).length + 1 := by
        rw [leb_succ, ← List.append_assoc]; exact List.length_append
      refine d_all ?_
      (refine d_pure 0 ?_)
      (refine d_pure 1 ?_)
      (refine d_pure 2 ?_)
      (refine d_fieldat 3 ?_)
      (refine d_pure 5 ?_)
      (refine d_pure 6 ?_)
      (refine d_arith 7 ?_)
      (refine d_shrv 8 ?_)
      (refine d_pure 9 ?_)
      refine d_two 4 10 ?_ ?_
      · refine d_ovia1 4 (h1 := by refine s_load ?_; exact run_fin1) (h := ?_)
        refine d_via 10 (X := Nat) (h1 := by refine s_built fun r => ?_; exact run_fin r) (h := fun r => ?_)
        refine d_via 11 (X := Option Addr × Nat) (h1 := by refine s_app 1 1 (reads_own At.head rfl) (hxl := by rw [bv_length, Nat.mul_one]) fun r2 => ?_; exact run_fin r2) (h := fun r2 => ?_)
        (refine d_pure 12 ?_)
        (refine d_fieldat 13 ?_)
        refine d_via1 14 (h1 := by refine s_store ?_; exact run_fin1) (h := ?_)
        refine d_done ?_
        (repeat (first | refine g ?_))
        refine run_stop_loop (i + 1, r2.1, r2.2) ⟨h2', by dsimp only; omega⟩ fct ?_
        dsimp only
        rw [el, ell]
        exact shut
      · refine d_ovia 10 (X := Nat) (h1 := by refine s_built fun r => ?_; exact run_fin r) (h := fun r => ?_)
        refine d_via1 4 (h1 := by refine s_load ?_; exact run_fin1) (h := ?_)
        refine d_via 11 (X := Option Addr × Nat) (h1 := by refine s_app 1 1 (reads_own At.head rfl) (hxl := by rw [bv_length, Nat.mul_one]) fun r2 => ?_; exact run_fin r2) (h := fun r2 => ?_)
        (refine d_pure 12 ?_)
        (refine d_fieldat 13 ?_)
        refine d_via1 14 (h1 := by refine s_store ?_; exact run_fin1) (h := ?_)
        refine d_done ?_
        (repeat (first | refine g ?_))
        refine run_stop_loop (i + 1, r2.1, r2.2) ⟨h2', by dsimp only; omega⟩ fct ?_
        dsimp only
        rw [el, ell]
        exact shut
    · intro h2
      obtain rfl : i = w := by omega
      (repeat (first | refine g ?_))
      exact run_end rfl (imp_RD rfl (imp_writer shut))
/-- A number as so many bytes. -/
def putF (n w : Int) : ByteArray × Int := if w < 1 ∨ 6 < w then (⟨#[]⟩, 1) else if n < 0 ∨ n / 2 ^ (8 * w.toNat) ≠ 0 then (⟨#[]⟩, 2) else (⟨(leb n.toNat w.toNat).toArray⟩, 0)
theorem put_spec (q : View) (n w : Int) (hn : n ≤ 9223372036854775807) : FnD Try.prog q 50 [.int .i64 n, .int .i64 w] [] (.tuple #[.string (V.putF n w).1, .int .i64 (V.putF n w).2]) [] := by
  unfold V.putF
  (first | refine FnD.go Try.call50 Try.func50 rfl rfl rfl ?_ | refine FnX.go Try.call50 Try.func50 rfl rfl rfl ?_)
  by_cases h0 : w < 1
  · rw [if_pos (.inl h0)]
    (repeat (first | refine g ?_))
    exact run_ret rfl (imp_RD rfl shut)
  by_cases h1 : 6 < w
  · rw [if_pos (.inr h1)]
    (repeat (first | refine g ?_))
    exact run_ret rfl (imp_RD rfl shut)
  rw [if_neg (by omega)]
  obtain ⟨k, rfl⟩ : ∃ k : Nat, w = k := ⟨w.toNat, by omega⟩
  rw [Int.toNat_natCast]
  (repeat (first | refine g ?_))
  refine s_alloc fun r => ?_
  (repeat (first | refine g ?_))
  have c := wput_spec q r [] false n k (by omega) hn (Nat.zero_le _)
  unfold wput at c
  refine run_pull (X := cells r 101 ⟨[.slice none 0 0, .bool false]⟩) (by (repeat (first | (with_reducible exact Pull.head) | apply Pull.tail))) ?_
  refine run_intro_writer ?_
  by_cases h2 : n < 0 ∨ n / 2 ^ (8 * k) ≠ 0
  · rw [if_pos h2] at c ⊢
    refine s_call c ?_
    refine run_writer fun p c => ?_
    (repeat (first | refine g ?_))
    exact run_ret rfl (imp_RD rfl shut)
  · rw [if_neg h2] at c ⊢
    refine s_call c ?_
    refine run_writer fun p c => ?_
    rw [List.nil_append]
    (repeat (first | refine g ?_))
    refine s_string ?_
    (repeat (first | refine g ?_))
    exact run_ret rfl (imp_RD rfl shut)
def pad0 (l : List UInt8) (n : Nat) : List UInt8 := l ++ List.replicate (n - l.length) 0
theorem full_spec (q : View) (b : Nat) (l : List UInt8) (bad : Bool) (n : Nat) (hn : n ≤ 1000000) (hl : l.length ≤ 1000000) :
    FnD Try.prog q 79 [.pointer (some ⟨b, 0, none⟩), .int .i64 n] [writerAt b l bad] (.string ⟨(pad0 l n).toArray⟩) [writerAt b (pad0 l n) bad] := by
  unfold pad0
  (first | refine FnD.go Try.call79 Try.func79 rfl rfl rfl ?_ | refine FnX.go Try.call79 Try.func79 rfl rfl rfl ?_)
  refine run_writer fun p c => ?_
  (repeat (first | refine g ?_))
  refine run_loopI (X := Nat × Option Addr × Nat) (fun x => x.1 ≤ n - l.length) (fun x => [(0, .pointer (some ⟨b, 0, none⟩)), (1, .int .i64 (n : Int))])
    (fun x => [cells b 101 ⟨[.slice x.2.1 (l ++ List.replicate x.1 0).length x.2.2, .bool bad]⟩, sl x.2.1 (l ++ List.replicate x.1 0).length x.2.2 5 1 (bv (l ++ List.replicate x.1 0))]) (fun x => n - l.length - x.1) (0, p, c) (Nat.zero_le _) fct (by rw [List.replicate_zero, List.append_nil]; exact shut) ?_
  intro ⟨i, p, c⟩ hi
  dsimp only at *
  have hll : (l ++ List.replicate i (0 : UInt8)).length = l.length + i := by rw [List.length_append, List.length_replicate]
  (repeat (first | refine g ?_))
  refine run_cond_dec rfl ?_ ?_
  · intro h2
    have h2' : i < n - l.length := by omega
    have el : bv (l ++ List.replicate (i + 1) 0) = bv (l ++ List.replicate i 0) ++ [Value.int .u8 0] := by
      rw [List.replicate_succ', ← List.append_assoc, bv_append _ [_]]; rfl
    have ell : (l ++ List.replicate (i + 1) (0 : UInt8)).length = (l ++ List.replicate i (0 : UInt8)).length + 1 := by
      rw [List.replicate_succ', ← List.append_assoc]; exact List.length_append
    (repeat (first | refine g ?_))
    refine s_built fun r => ?_
    (repeat (first | refine g ?_))
    refine s_app 1 1 (reads_own At.head rfl) (hxl := by rw [bv_length, Nat.mul_one]) fun r2 => ?_
    (repeat (first | refine g ?_))
    refine run_stop_loop (i + 1, r2.1, r2.2) ⟨h2', by dsimp only; omega⟩ fct ?_
    dsimp only
    rw [el, ell]
    exact shut
  · intro h2
    obtain rfl : i = n - l.length := by omega
    (repeat (first | refine g ?_))
    refine s_string ?_
    (repeat (first | refine g ?_))
    exact run_ret rfl (imp_RD rfl (imp_writer shut))
/-- A text, filled up. -/
def padF (s : ByteArray) (n : Int) : ByteArray × Int := if n < 0 ∨ 4096 < n then (⟨#[]⟩, 1) else if n < s.size then (⟨#[]⟩, 4) else (⟨(pad0 s.data.toList n.toNat).toArray⟩, 0)
theorem pad_spec (q : View) (s : ByteArray) (n : Int) (hs : s.size ≤ 140737488351232) : FnD Try.prog q 54 [.string s, .int .i64 n] [] (.tuple #[.string (padF s n).1, .int .i64 (padF s n).2]) [] := by
  unfold padF
  (first | refine FnD.go Try.call54 Try.func54 rfl rfl rfl ?_ | refine FnX.go Try.call54 Try.func54 rfl rfl rfl ?_)
  by_cases h0 : n < 0
  · rw [if_pos (.inl h0)]
    (repeat (first | refine g ?_))
    exact run_ret rfl (imp_RD rfl shut)
  by_cases h1 : 4096 < n
  · rw [if_pos (.inr h1)]
    (repeat (first | refine g ?_))
    exact run_ret rfl (imp_RD rfl shut)
  rw [if_neg (by omega)]
  obtain ⟨k, rfl⟩ : ∃ k : Nat, n = k := ⟨n.toNat, by omega⟩
  rw [Int.toNat_natCast]
  by_cases h2 : (k : Int) < s.size
  · rw [if_pos h2]
    (repeat (first | refine g ?_))
    exact run_ret rfl (imp_RD rfl shut)
  rw [if_neg h2]
  (repeat (first | refine g ?_))
  refine s_bytes fun r => ?_
  (repeat (first | refine g ?_))
  refine s_alloc fun b => ?_
  (repeat (first | refine g ?_))
  have hl : s.data.toList.length ≤ 1000000 := by
    have : s.data.toList.length = s.size := rfl
    omega
  refine run_to_writer (l := s.data.toList) ?_
  refine s_call (full_spec q b s.data.toList false k (by omega) hl) ?_
  (repeat (first | refine g ?_))
  exact run_ret rfl (imp_RD rfl shut)
end Go.Proofs.Ytibookgcaboldaa.V
namespace Go.Proofs.Ytibookgcaboldaa.V
open Go.Proofs.Ytibookgcaboldaa.VL Go.Proofs.Ytibookgcaboldaa.VL.RD
attribute [local irreducible] Run
end Go.Proofs.Ytibookgcaboldaa.V
namespace Go.Proofs.Ytibookgcaboldaa.V
open Go.Proofs.Ytibookgcaboldaa.VL
attribute [local irreducible] Run
structure SlotT where
  used : Bool
  rounds : Int
  salt : ByteArray
  nonce : ByteArray
  sealed : ByteArray
  deriving DecidableEq
def encS (s : SlotT) : List Value := [.bool s.used, .int .i64 s.rounds, .string s.salt, .string s.nonce, .string s.sealed]
def zeroS : SlotT := ⟨false, 0, ⟨#[]⟩, ⟨#[]⟩, ⟨#[]⟩⟩
structure KeysT where
  gen : Int
  sl : List SlotT
  deriving DecidableEq
def encKs (l : List SlotT) : List Value := l.flatMap encS
def encKeys (k : KeysT) : List Value := .int .i64 k.gen :: encKs k.sl
structure SlotOk (s : SlotT) : Prop where
  r0 : -9223372036854775808 ≤ s.rounds
  r1 : s.rounds ≤ 9223372036854775807
  sa : s.salt.size ≤ 9223372036854775807
  no : s.nonce.size ≤ 9223372036854775807
  se : s.sealed.size ≤ 9223372036854775807
structure KeysOk (k : KeysT) : Prop where
  g0 : -9223372036854775808 ≤ k.gen
  g1 : k.gen ≤ 9223372036854775807
  len : k.sl.length = 4
  ok : ∀ s ∈ k.sl, SlotOk s
def goodS (s : SlotT) : Prop := 1 ≤ s.rounds ∧ s.rounds ≤ 1000 ∧ s.salt.size = 16 ∧ s.nonce.size = 12 ∧ s.sealed.size = 48
instance (s : SlotT) : Decidable (goodS s) := by unfold goodS; infer_instance
def rightF (s : SlotT) : Bool := if s.used = true then decide (goodS s) else decide (s = zeroS)
theorem u23 : Try.prog.underlying 23 = some ty23.und := by kernel_rfl
theorem u4 : Try.prog.underlying 4 = some .bool := by kernel_rfl
theorem u3 : Try.prog.underlying 3 = some (.int .i64) := by kernel_rfl
theorem u9 : Try.prog.underlying 9 = some .string := by kernel_rfl
theorem c23 : Try.prog.cellsOf 23 = 5 := by kernel_rfl
theorem c4 : Try.prog.cellsOf 4 = 1 := by kernel_rfl
theorem c3 : Try.prog.cellsOf 3 = 1 := by kernel_rfl
theorem c9 : Try.prog.cellsOf 9 = 1 := by kernel_rfl
theorem slot_lits (d : Nat) (s : SlotT) (hs : SlotOk s) : Try.prog.keyLits (d + 2) 23 (encS s) = some [.bool s.used, .int .i64 s.rounds, .string s.salt.data.toList, .string s.nonce.data.toList, .string s.sealed.data.toList] := by
  obtain ⟨u, r, sa, no, se⟩ := s
  obtain ⟨r0, r1, z1, z2, z3⟩ := hs
  dsimp only at *
  have lb : Try.prog.keyLits (d + 1) 4 [.bool u] = some [.bool u] := by unfold Program.keyLits; rw [u4]
  have li : Try.prog.keyLits (d + 1) 3 [.int .i64 r] = some [.int .i64 r] := by
    unfold Program.keyLits; rw [u3]
    show (if _ then _ else _) = _
    rw [if_pos ⟨rfl, by simp [Lit.wf, IntKind.min, IntKind.max, IntKind.signed, IntKind.bits]; omega⟩]
  have lt : ∀ s : ByteArray, s.size ≤ 9223372036854775807 → Try.prog.keyLits (d + 1) 9 [.string s] = some [.string s.data.toList] := fun s h => by
    unfold Program.keyLits; rw [u9]
    show (if _ then _ else _) = _
    rw [if_pos (show s.size ≤ maxLen from by unfold maxLen; omega)]
  unfold Program.keyLits
  rw [u23]
  show (if _ then _ else _) = _
  rw [if_pos ⟨by rw [c23]; rfl, by kernel_rfl⟩]
  unfold encS
  simp [List.mapM_cons, c4, c3, c9, lb, li, lt, z1, z2, z3]
def litsS (s : SlotT) : List Lit := [.bool s.used, .int .i64 s.rounds, .string s.salt.data.toList, .string s.nonce.data.toList, .string s.sealed.data.toList]
theorem bytes_toList (a b : ByteArray) : a.data.toList = b.data.toList ↔ a = b := ⟨fun h => by cases a; cases b; congr; exact Array.toList_inj.1 h, fun h => by rw [h]⟩
theorem litsS_inj (s t : SlotT) : litsS s = litsS t ↔ s = t := by
  unfold litsS
  constructor
  · intro h
    cases s; cases t
    simp only [List.cons.injEq, Lit.bool.injEq, Lit.int.injEq, Lit.string.injEq, true_and, and_true, bytes_toList] at h
    obtain ⟨h1, h2, h3, h4, h5⟩ := h
    subst h1 h2 h3 h4 h5
    rfl
  · intro h; rw [h]
theorem zeroOk : SlotOk zeroS := ⟨by decide, by decide, by decide, by decide, by decide⟩
theorem right_spec (q : View) (s : SlotT) (hs : SlotOk s) : FnD Try.prog q 37 [.agg ⟨encS s⟩] [] (.bool (rightF s)) [] := by
  obtain ⟨u, r, sa, no, se⟩ := s
  obtain ⟨r0, r1, z1, z2, z3⟩ := hs
  dsimp only at *
  unfold rightF encS
  dsimp only
  (first | refine FnD.go Try.call37 Try.func37 rfl rfl rfl ?_ | refine FnX.go Try.call37 Try.func37 rfl rfl rfl ?_)
  (repeat (first | refine g ?_))
  refine s_box fun b => ?_
  cases u with
  | true =>
    rw [if_pos rfl]
    (repeat (first | refine g ?_))
    by_cases h1 : 1 ≤ r
    · by_cases h2 : r ≤ 1000
      · by_cases h3 : (sa.size : Int) = 16
        · by_cases h4 : (no.size : Int) = 12
          · have e : decide (goodS ⟨true, r, sa, no, se⟩) = decide ((se.size : Int) = 48) := by
              rw [decide_eq_decide]; unfold goodS; dsimp only; omega
            rw [e]
            (repeat (first | refine g ?_))
            exact run_ret rfl (imp_RD rfl shut)
          · have e : decide (goodS ⟨true, r, sa, no, se⟩) = false := decide_eq_false (by unfold goodS; dsimp only; omega)
            rw [e]
            (repeat (first | refine g ?_))
            exact run_ret rfl (imp_RD rfl shut)
        · have e : decide (goodS ⟨true, r, sa, no, se⟩) = false := decide_eq_false (by unfold goodS; dsimp only; omega)
          rw [e]
          (repeat (first | refine g ?_))
          exact run_ret rfl (imp_RD rfl shut)
      · have e : decide (goodS ⟨true, r, sa, no, se⟩) = false := decide_eq_false (by unfold goodS; dsimp only; omega)
        rw [e]
        (repeat (first | refine g ?_))
        exact run_ret rfl (imp_RD rfl shut)
    · have e : decide (goodS ⟨true, r, sa, no, se⟩) = false := decide_eq_false (by unfold goodS; dsimp only; omega)
      rw [e]
      (repeat (first | refine g ?_))
      exact run_ret rfl (imp_RD rfl shut)
  | false =>
    rw [if_neg (by decide)]
    (repeat (first | refine g ?_))
    refine s_eqk 5 2 (decide ((⟨false, r, sa, no, se⟩ : SlotT) = zeroS)) (la := litsS ⟨false, r, sa, no, se⟩) (lb := litsS zeroS) ?_ ?_ (ka := slot_lits 0 ⟨false, r, sa, no, se⟩ ⟨r0, r1, z1, z2, z3⟩) (kb := slot_lits 0 zeroS zeroOk)
    · rw [decide_eq_true_iff, litsS_inj]
    (repeat (first | refine g ?_))
    exact run_ret rfl (imp_RD rfl shut)
end Go.Proofs.Ytibookgcaboldaa.V
namespace Go.Proofs.Ytibookgcaboldaa.V
open Go.Proofs.Ytibookgcaboldaa.VL
attribute [local irreducible] Run
theorem encKs_at (l : List SlotT) (i : Nat) (s : SlotT) (h : l[i]? = some s) (j : Nat) (hj : j < 5) : (encKs l)[i * 5 + j]? = (encS s)[j]? := by
  induction l generalizing i with
  | nil => cases h
  | cons y l ih =>
    unfold encKs
    rw [List.flatMap_cons]
    have e5 : (encS y).length = 5 := rfl
    cases i with
    | zero =>
      obtain rfl := Option.some.inj h
      rw [List.getElem?_append_left (by omega)]; congr 1; omega
    | succ i =>
      rw [List.getElem?_append_right (by omega), e5, show (i + 1) * 5 + j - 5 = i * 5 + j by omega]
      exact ih i h
theorem encKs_len (l : List SlotT) : (encKs l).length = l.length * 5 := by
  induction l with
  | nil => rfl
  | cons y l ih =>
    unfold encKs at *
    rw [List.flatMap_cons, List.length_append, ih, List.length_cons]; show 5 + _ = _; omega
theorem encKs_all (l : List SlotT) (i : Nat) (s : SlotT) (h : l[i]? = some s) : ((encKs l).drop (i * 5)).take 5 = encS s := by
  apply List.ext_getElem?
  intro j
  rw [List.getElem?_take, List.getElem?_drop]
  split
  · rename_i hj; exact encKs_at l i s h j hj
  · rename_i hj; rw [List.getElem?_eq_none]; show 5 ≤ j; omega
/-- How many of the first slots are used. -/
def cntU : List SlotT → Nat → Nat
  | _, 0 => 0
  | [], _ + 1 => 0
  | s :: l, n + 1 => (if s.used = true then 1 else 0) + cntU l n
theorem cntU_snoc (l : List SlotT) (i : Nat) (s : SlotT) (h : l[i]? = some s) : cntU l (i + 1) = cntU l i + if s.used = true then 1 else 0 := by
  induction l generalizing i with
  | nil => cases h
  | cons y l ih =>
    cases i with
    | zero =>
      obtain rfl := Option.some.inj h
      simp [cntU]
    | succ i =>
      have := ih i h
      simp only [cntU] at this ⊢
      omega
theorem cntU_le (l : List SlotT) (i : Nat) : cntU l i ≤ i := by
  induction l generalizing i with
  | nil => cases i <;> simp [cntU]
  | cons y l ih =>
    cases i with
    | zero => simp [cntU]
    | succ i =>
      have := ih i
      unfold cntU
      split <;> omega
def rightK (k : KeysT) : Bool := k.sl.all rightF && (decide (0 < cntU k.sl 4) && (decide (0 ≤ k.gen) && decide (k.gen < 4294967296)))
theorem all_false {l : List SlotT} {i : Nat} {s : SlotT} (h : l[i]? = some s) (hf : rightF s = false) : l.all rightF = false := by
  rw [Bool.eq_false_iff]
  intro ht
  have := List.all_eq_true.1 ht s (List.mem_of_getElem? h)
  rw [hf] at this; cases this
theorem all_true {l : List SlotT} (h : ∀ i, i < l.length → ∀ s, l[i]? = some s → rightF s = true) : l.all rightF = true := by
  rw [List.all_eq_true]
  intro s hs
  obtain ⟨i, hi⟩ := List.mem_iff_getElem?.1 hs
  exact h i (List.getElem?_eq_some_iff.1 hi).1 s hi
set_option maxHeartbeats 1000000 in
theorem rightK_spec (q : View) (k : KeysT) (hk : KeysOk k) : FnD Try.prog q 14 [.agg ⟨encKeys k⟩] [] (.bool (rightK k)) [] := by
  have hkl := encKs_len k.sl
  rw [hk.len] at hkl
  have hc0 : cntU k.sl 0 = 0 := by cases k.sl <;> rfl
  unfold rightK
  (first | refine FnD.go Try.call14 Try.func14 rfl rfl rfl ?_ | refine FnX.go Try.call14 Try.func14 rfl rfl rfl ?_)
  (repeat (first | refine g ?_))
  refine s_box fun b => ?_
  refine s_ceq b (.int .i64 k.gen :: encKs k.sl) ?_ ?_
  · rfl
  (repeat (first | refine g ?_))
  refine s_getat (vs := encKs k.sl) (m := 20) ?_ ?_
  · show (encKs k.sl).take 20 = _
    rw [List.take_of_length_le (by omega)]
  (repeat (first | refine g ?_))
  refine run_cutI (X := Unit) (fun _ => ∀ j, j < 4 → ∀ s, k.sl[j]? = some s → rightF s = true) (fun _ => [(1, .pointer (some ⟨b, 0, none⟩)), (3, .int .i64 (cntU k.sl 4 : Int))]) (fun _ => [cells b 26 ⟨.int .i64 k.gen :: encKs k.sl⟩]) ?_ fun _ hall => ?_
  · refine run_loopI (X := Nat) (fun i => i ≤ 4 ∧ ∀ j, j < i → ∀ s, k.sl[j]? = some s → rightF s = true) (fun i => [(1, .pointer (some ⟨b, 0, none⟩)), (3, .int .i64 (cntU k.sl i : Int)), (7, .agg ⟨encKs k.sl⟩), (8, .int .i64 (i : Int))]) (fun i => [cells b 26 ⟨.int .i64 k.gen :: encKs k.sl⟩]) (fun i => 4 - i) 0 ⟨Nat.zero_le _, fun j hj => absurd hj (Nat.not_lt_zero j)⟩ (by rw [hc0]; exact fct) shut ?_
    intro i ⟨hi, hall⟩
    have hc4 := cntU_le k.sl i
    (repeat (first | refine g ?_))
    refine run_cond_dec rfl ?_ ?_
    · intro h1
      obtain ⟨s, hs⟩ : ∃ s, k.sl[i]? = some s := ⟨_, List.getElem?_eq_getElem (by rw [hk.len]; omega)⟩
      have hso := hk.ok s (List.mem_of_getElem? hs)
      have hcs := cntU_snoc k.sl i s hs
      (repeat (first | refine g ?_))
      refine s_ixs (kk := 5) (vs := encS s) (by rw [Int.toNat_natCast]; exact encKs_all k.sl i s hs) ?_
      (repeat (first | refine g ?_))
      refine s_alloc fun r => ?_
      unfold encS
      (repeat (first | refine g ?_))
      have cr := right_spec q s hso
      cases hr : rightF s with
      | false =>
        rw [hr] at cr
        refine s_call cr ?_
        rw [all_false hs hr]
        (repeat (first | refine g ?_))
        exact run_ret rfl (imp_RD rfl shut)
      | true =>
        rw [hr] at cr
        refine s_call cr ?_
        have next : (i + 1 ≤ 4 ∧ ∀ j, j < i + 1 → ∀ s, k.sl[j]? = some s → rightF s = true) ∧ 4 - (i + 1) < 4 - i := by
          refine ⟨⟨by omega, fun j hj t ht => ?_⟩, by omega⟩
          rcases Nat.lt_or_ge j i with h | h
          · exact hall j h t ht
          · obtain rfl : j = i := by omega
            rw [hs] at ht
            obtain rfl := Option.some.inj ht
            exact hr
        (repeat (first | refine g ?_))
        cases hu : s.used with
        | true =>
          rw [hu, if_pos rfl] at hcs
          (repeat (first | refine g ?_))
          exact run_stop_loop (i + 1) next (by rw [hcs]; exact fct) shut
        | false =>
          rw [hu, if_neg (by decide), Nat.add_zero] at hcs
          (repeat (first | refine g ?_))
          exact run_stop_loop (i + 1) next (by rw [hcs]; exact fct) shut
    · intro h1
      obtain rfl : i = 4 := by omega
      (repeat (first | refine g ?_))
      exact run_stop_loop () hall fct shut
  rw [all_true (by rw [hk.len]; exact hall), Bool.true_and]
  have hg0 := hk.g0
  have hg1 := hk.g1
  by_cases h1 : 0 < cntU k.sl 4
  · rw [decide_eq_true h1, Bool.true_and]
    by_cases h2 : 0 ≤ k.gen
    · rw [decide_eq_true h2, Bool.true_and]
      have e : decide (k.gen ≤ 4294967295) = decide (k.gen < 4294967296) := by rw [decide_eq_decide]; omega
      skip
      (repeat (first | refine g ?_))
      exact run_ret rfl (imp_RD rfl shut)
    · rw [decide_eq_false h2, Bool.false_and]
      (repeat (first | refine g ?_))
      exact run_ret rfl (imp_RD rfl shut)
  · rw [decide_eq_false h1, Bool.false_and]
    (repeat (first | refine g ?_))
    exact run_ret rfl (imp_RD rfl shut)
end Go.Proofs.Ytibookgcaboldaa.V
namespace Go.Proofs.Ytibookgcaboldaa.V
open Go.Proofs.Ytibookgcaboldaa.VL Go.Proofs.Ytibookgcaboldaa.VL.RD Go.Proofs.Ytibookgcaboldaa.VL.Sha
attribute [local irreducible] Run sealB openB stretchB
def fitsF (sa no : ByteArray) (r : Int) : Bool := decide (sa.size = 16 ∧ no.size = 12 ∧ 1 ≤ r ∧ r ≤ 1000)
theorem fits_spec (q : View) (sa no : ByteArray) (r : Int) (r0 : -9223372036854775808 ≤ r) (r1 : r ≤ 9223372036854775807) : FnD Try.prog q 45 [.string sa, .string no, .int .i64 r] [] (.bool (fitsF sa no r)) [] := by
  (first | refine FnD.go Try.call45 Try.func45 rfl rfl rfl ?_ | refine FnX.go Try.call45 Try.func45 rfl rfl rfl ?_)
  by_cases h1 : (sa.size : Int) = 16
  · by_cases h2 : (no.size : Int) = 12
    · by_cases h3 : 1 ≤ r
      · have e : fitsF sa no r = decide (r ≤ 1000) := by unfold fitsF; rw [decide_eq_decide]; omega
        rw [e]
        (repeat (first | refine g ?_))
        exact run_ret rfl (imp_RD rfl shut)
      · have e : fitsF sa no r = false := decide_eq_false (by omega)
        rw [e]
        (repeat (first | refine g ?_))
        exact run_ret rfl (imp_RD rfl shut)
    · have e : fitsF sa no r = false := decide_eq_false (by omega)
      rw [e]
      (repeat (first | refine g ?_))
      exact run_ret rfl (imp_RD rfl shut)
  · have e : fitsF sa no r = false := decide_eq_false (by omega)
    rw [e]
    (repeat (first | refine g ?_))
    exact run_ret rfl (imp_RD rfl shut)
theorem fits_ok {sa no : ByteArray} {r : Int} (h : fitsF sa no r = true) : sa.size = 16 ∧ no.size = 12 ∧ 1 ≤ r ∧ r ≤ 1000 := of_decide_eq_true h
def bndB (i r : Nat) (sa : ByteArray) : ByteArray := (⟨#[115, 108, 111, 116, 32]⟩ : ByteArray) ++ ⟨[UInt8.ofNat (48 + i)].toArray⟩ ++ ⟨(leb r 4).toArray⟩ ++ sa
theorem bndB_size (i r : Nat) (sa : ByteArray) : (bndB i r sa).size = 10 + sa.size := by
  unfold bndB
  have h4 : (⟨(leb r 4).toArray⟩ : ByteArray).size = 4 := by show (leb r 4).toArray.size = 4; rw [List.size_toArray, leb_length]
  have h5 : (⟨#[115, 108, 111, 116, 32]⟩ : ByteArray).size = 5 := rfl
  have h1 : (⟨[UInt8.ofNat (48 + i)].toArray⟩ : ByteArray).size = 1 := rfl
  rw [ByteArray.size_append, ByteArray.size_append, ByteArray.size_append, h4, h5, h1]
theorem bound_spec (q : View) (i r : Nat) (hi : i < 4) (hr : r ≤ 1000) (u : Bool) (sa no se : ByteArray) (hs : sa.size ≤ 1000000) : FnD Try.prog q 41 [.int .i64 (i : Int), .agg ⟨encS ⟨u, (r : Int), sa, no, se⟩⟩] [] (.string (bndB i r sa)) [] := by
  have cp := put_spec q (r : Int) 4 (by omega)
  have ep : V.putF (r : Int) 4 = (⟨(leb r 4).toArray⟩, 0) := by
    unfold V.putF
    rw [if_neg (by omega), if_neg (by
      intro h
      rcases h with h | h
      · omega
      · apply h
        show (r : Int) / 4294967296 = 0
        omega)]
    rfl
  rw [ep] at cp
  dsimp only at cp
  (first | refine FnD.go Try.call41 Try.func41 rfl rfl rfl ?_ | refine FnX.go Try.call41 Try.func41 rfl rfl rfl ?_)
  have h4 : (⟨(leb r 4).toArray⟩ : ByteArray).size = 4 := by show (leb r 4).toArray.size = 4; rw [List.size_toArray, leb_length]
  have h5 : (⟨#[115, 108, 111, 116, 32]⟩ : ByteArray).size = 5 := rfl
  have h1 : (⟨[UInt8.ofNat (48 + i)].toArray⟩ : ByteArray).size = 1 := rfl
  have z1 : ((⟨#[115, 108, 111, 116, 32]⟩ : ByteArray) ++ ⟨[UInt8.ofNat (48 + i)].toArray⟩).size = 6 := by rw [ByteArray.size_append, h5, h1]
  have z2 : ((⟨#[115, 108, 111, 116, 32]⟩ : ByteArray) ++ ⟨[UInt8.ofNat (48 + i)].toArray⟩ ++ ⟨(leb r 4).toArray⟩).size = 10 := by rw [ByteArray.size_append, z1, h4]
  unfold encS
  dsimp only
  (repeat (first | refine g ?_))
  refine s_box fun b => ?_
  (repeat (first | refine g ?_))
  refine s_call cp ?_
  (repeat (first | refine g ?_))
  refine s_built fun rb => ?_
  (repeat (first | refine g ?_))
  refine s_stringc (m := 1) (o := 0) (l := [UInt8.ofNat (48 + i)]) rfl ?_ ?_
  · show [Value.int .u8 ((48 + (i : Int)) % 256)] = bv [UInt8.ofNat (48 + i)]
    unfold bv
    simp only [List.map_cons, List.map_nil]
    rw [UInt8.toNat_ofNat']
    congr 1
  (repeat (first | refine g ?_))
  exact run_ret rfl (imp_RD rfl shut)
end Go.Proofs.Ytibookgcaboldaa.V
namespace Go.Proofs.Ytibookgcaboldaa.V
open Go.Proofs.Ytibookgcaboldaa.VL Go.Proofs.Ytibookgcaboldaa.VL.RD Go.Proofs.Ytibookgcaboldaa.VL.Sha
attribute [local irreducible] Run sealB openB stretchB bndB
def sealedK (i : Nat) (ma pa sa no : ByteArray) (r : Nat) : SlotT := ⟨true, r, sa, no, (sealB (stretchB pa sa r) no (bndB i r sa) ma).1⟩
theorem sealed_spec (q : View) (i r : Nat) (hi : i < 4) (r1 : 1 ≤ r) (hr : r ≤ 1000) (ma pa sa no : ByteArray) (hm : ma.size ≤ 1000000) (hp : pa.size ≤ 1000000) (hs : sa.size ≤ 1000000) :
    FnD Try.prog q 46 [.int .i64 (i : Int), .string ma, .string pa, .string sa, .string no, .int .i64 (r : Int)] [] (.agg ⟨encS (sealedK i ma pa sa no r)⟩) [] := by
  have cs := sumStretch_spec q pa sa r (by omega) (by omega) ⟨by omega, by omega⟩
  have cb := bound_spec q i r hi hr true sa no ⟨#[]⟩ hs
  have cx := boxSeal_spec q (stretchB pa sa r) no (bndB i r sa) ma (by rw [bndB_size]; omega) (by omega)
  unfold encS at cb
  dsimp only at cb
  (first | refine FnD.go Try.call46 Try.func46 rfl rfl rfl ?_ | refine FnX.go Try.call46 Try.func46 rfl rfl rfl ?_)
  have zk := stretchB_size pa sa r
  have zb := bndB_size i r sa
  (repeat (first | refine g ?_))
  refine s_alloc fun rz => ?_
  (repeat (first | refine g ?_))
  refine s_alloc fun rs => ?_
  (repeat (first | refine g ?_))
  refine s_call cs ?_
  (repeat (first | refine g ?_))
  refine s_call cb ?_
  (repeat (first | refine g ?_))
  refine s_call cx ?_
  (repeat (first | refine g ?_))
  refine s_ret1 (imp_RD ?_ shut)
  rfl
end Go.Proofs.Ytibookgcaboldaa.V
namespace Go.Proofs.Ytibookgcaboldaa.V
open Go.Proofs.Ytibookgcaboldaa.VL Go.Proofs.Ytibookgcaboldaa.VL.RD Go.Proofs.Ytibookgcaboldaa.VL.Sha
attribute [local irreducible] Run sealB openB stretchB bndB
def tryS (pa : ByteArray) (i : Nat) (s : SlotT) : ByteArray × Int := openB (stretchB pa s.salt s.rounds.toNat) s.nonce (bndB i s.rounds.toNat s.salt) s.sealed
def openL (pa : ByteArray) : List SlotT → Nat → ByteArray × Int × Int
  | [], _ => (⟨#[]⟩, 0, 10)
  | s :: l, i => if s.used = true ∧ (tryS pa i s).2 = 0 then ((tryS pa i s).1, (i : Int), 0) else openL pa l (i + 1)
def openK (k : KeysT) (pa : ByteArray) : ByteArray × Int × Int := if rightK k = true then openL pa k.sl 0 else (⟨#[]⟩, 0, 1)
theorem openL_step (pa : ByteArray) (l : List SlotT) (i : Nat) (s : SlotT) (h : l[i]? = some s) : openL pa (l.drop i) i = if s.used = true ∧ (tryS pa i s).2 = 0 then ((tryS pa i s).1, (i : Int), 0) else openL pa (l.drop (i + 1)) (i + 1) := by
  obtain ⟨hi, e⟩ := List.getElem?_eq_some_iff.1 h
  rw [List.drop_eq_getElem_cons hi, e]; rfl
theorem rightK_slot {k : KeysT} (h : rightK k = true) {i : Nat} {s : SlotT} (hs : k.sl[i]? = some s) (hu : s.used = true) : goodS s := by
  unfold rightK at h
  rw [Bool.and_eq_true] at h
  have := List.all_eq_true.1 h.1 s (List.mem_of_getElem? hs)
  unfold rightF at this
  rw [if_pos hu] at this
  exact of_decide_eq_true this
set_option maxHeartbeats 2000000 in
theorem openK_spec (q : View) (k : KeysT) (hk : KeysOk k) (pa : ByteArray) (hp : pa.size ≤ 1000000) : FnD Try.prog q 18 [.agg ⟨encKeys k⟩, .string pa] [] (.tuple #[.string (openK k pa).1, .int .i64 (openK k pa).2.1, .int .i64 (openK k pa).2.2]) [] := by
  have hkl := encKs_len k.sl
  rw [hk.len] at hkl
  have cr := rightK_spec q k hk
  unfold openK
  (first | refine FnD.go Try.call18 Try.func18 rfl rfl rfl ?_ | refine FnX.go Try.call18 Try.func18 rfl rfl rfl ?_)
  (repeat (first | refine g ?_))
  refine s_box fun b => ?_
  refine s_ceq b (encKeys k) ?_ ?_
  · rfl
  (repeat (first | refine g ?_))
  refine s_getall (hz := by unfold encKeys; rw [List.length_cons, hkl]; rfl) ?_
  (repeat (first | refine g ?_))
  cases hr : rightK k with
  | false =>
    rw [hr] at cr
    refine s_call cr ?_
    (repeat (first | refine g ?_))
    exact run_ret rfl (imp_RD rfl shut)
  | true =>
    rw [hr] at cr
    rw [if_pos rfl]
    refine s_call cr ?_
    (repeat (first | refine g ?_))
    refine s_getat (vs := encKs k.sl) (m := 20) ?_ ?_ (hle := by unfold encKeys; rw [List.length_cons, hkl]; decide)
    · show (encKs k.sl).take 20 = _
      rw [List.take_of_length_le (by omega)]
    (repeat (first | refine g ?_))
    obtain ⟨O, hO⟩ : ∃ O, O = openL pa k.sl 0 := ⟨_, rfl⟩
    rw [← hO]
    refine run_cutI (X := Unit) (fun _ => O = (⟨#[]⟩, 0, 10)) (fun _ => []) (fun _ => []) ?_ fun _ hO2 => ?_
    · refine run_loopI (X := Nat) (fun i => i ≤ 4 ∧ openL pa (k.sl.drop i) i = O) (fun i => [(1, .string pa), (17, .agg ⟨encKs k.sl⟩), (18, .int .i64 (i : Int))]) (fun _ => []) (fun i => 4 - i) 0 ⟨Nat.zero_le _, hO.symm⟩ fct shut ?_
      intro i ⟨hi, hinv⟩
      (repeat (first | refine g ?_))
      refine run_cond_dec rfl ?_ ?_
      · intro h1
        obtain ⟨s, hs⟩ : ∃ s, k.sl[i]? = some s := ⟨_, List.getElem?_eq_getElem (by rw [hk.len]; omega)⟩
        have hso := hk.ok s (List.mem_of_getElem? hs)
        have hst := openL_step pa k.sl i s hs
        have hix : ((encKs k.sl).drop ((i : Int).toNat * 5)).take 5 = encS s := by rw [Int.toNat_natCast]; exact encKs_all k.sl i s hs
        obtain ⟨u, rr, sa, no, se⟩ := s
        unfold encS at hix
        dsimp only at hix
        (repeat (first | refine g ?_))
        refine s_ixs (kk := 5) hix ?_
        (repeat (first | refine g ?_))
        refine s_alloc fun rs => ?_
        (repeat (first | refine g ?_))
        cases u with
        | false =>
          rw [if_neg (by simp)] at hst
          (repeat (first | refine g ?_))
          exact run_stop_loop (i + 1) ⟨⟨by omega, by rw [← hinv, hst]⟩, by omega⟩ fct shut
        | true =>
          have hg := rightK_slot hr hs rfl
          unfold goodS at hg
          dsimp only at hg
          obtain ⟨r, rfl⟩ : ∃ r : Nat, rr = r := ⟨rr.toNat, by omega⟩
          have zk := stretchB_size pa sa r
          have zb := bndB_size i r sa
          have et : tryS pa i ⟨true, (r : Int), sa, no, se⟩ = openB (stretchB pa sa r) no (bndB i r sa) se := by unfold tryS; rw [Int.toNat_natCast]
          have cs := sumStretch_spec q pa sa r (by omega) (by omega) ⟨by omega, by omega⟩
          have cb := bound_spec q i r (by omega) (by omega) true sa no se (by omega)
          have cx := boxOpen_spec q (stretchB pa sa r) no (bndB i r sa) se (by omega) (by omega)
          rw [← et] at cx
          unfold encS at cb
          dsimp only at cb
          (repeat (first | refine g ?_))
          refine s_call cs ?_
          (repeat (first | refine g ?_))
          refine d_start [] ?_
          (first | refine d_pure 0 ?_ | refine d_load 0 ?_ | refine d_arith 0 ?_ | refine d_rem 0 ?_ | refine d_quo 0 ?_ | refine d_shrv 0 ?_ | refine d_fieldat 0 ?_ | refine d_idx1 0 ?_ | refine d_index 0 ?_ | refine d_conv64 0 ?_ | refine d_slices 0 ?_ | refine d_concat 0 ?_ | refine d_build 0 ?_)
          (first | refine d_pure 1 ?_ | refine d_load 1 ?_ | refine d_arith 1 ?_ | refine d_rem 1 ?_ | refine d_quo 1 ?_ | refine d_shrv 1 ?_ | refine d_fieldat 1 ?_ | refine d_idx1 1 ?_ | refine d_index 1 ?_ | refine d_conv64 1 ?_ | refine d_slices 1 ?_ | refine d_concat 1 ?_ | refine d_build 1 ?_)
          (first | refine d_pure 2 ?_ | refine d_load 2 ?_ | refine d_arith 2 ?_ | refine d_rem 2 ?_ | refine d_quo 2 ?_ | refine d_shrv 2 ?_ | refine d_fieldat 2 ?_ | refine d_idx1 2 ?_ | refine d_index 2 ?_ | refine d_conv64 2 ?_ | refine d_slices 2 ?_ | refine d_concat 2 ?_ | refine d_build 2 ?_)
          (first | refine d_pure 3 ?_ | refine d_load 3 ?_ | refine d_arith 3 ?_ | refine d_rem 3 ?_ | refine d_quo 3 ?_ | refine d_shrv 3 ?_ | refine d_fieldat 3 ?_ | refine d_idx1 3 ?_ | refine d_index 3 ?_ | refine d_conv64 3 ?_ | refine d_slices 3 ?_ | refine d_concat 3 ?_ | refine d_build 3 ?_)
          refine d_getall 4 rfl ?_
          (first | refine d_pure 6 ?_ | refine d_load 6 ?_ | refine d_arith 6 ?_ | refine d_rem 6 ?_ | refine d_quo 6 ?_ | refine d_shrv 6 ?_ | refine d_fieldat 6 ?_ | refine d_idx1 6 ?_ | refine d_index 6 ?_ | refine d_conv64 6 ?_ | refine d_slices 6 ?_ | refine d_concat 6 ?_ | refine d_build 6 ?_)
          (first | refine d_pure 7 ?_ | refine d_load 7 ?_ | refine d_arith 7 ?_ | refine d_rem 7 ?_ | refine d_quo 7 ?_ | refine d_shrv 7 ?_ | refine d_fieldat 7 ?_ | refine d_idx1 7 ?_ | refine d_index 7 ?_ | refine d_conv64 7 ?_ | refine d_slices 7 ?_ | refine d_concat 7 ?_ | refine d_build 7 ?_)
          refine d_call 5 cb ?_
          refine d_call 8 cx ?_
          (first | refine d_pure 9 ?_ | refine d_load 9 ?_ | refine d_arith 9 ?_ | refine d_rem 9 ?_ | refine d_quo 9 ?_ | refine d_shrv 9 ?_ | refine d_fieldat 9 ?_ | refine d_idx1 9 ?_ | refine d_index 9 ?_ | refine d_conv64 9 ?_ | refine d_slices 9 ?_ | refine d_concat 9 ?_ | refine d_build 9 ?_)
          (first | refine d_pure 10 ?_ | refine d_load 10 ?_ | refine d_arith 10 ?_ | refine d_rem 10 ?_ | refine d_quo 10 ?_ | refine d_shrv 10 ?_ | refine d_fieldat 10 ?_ | refine d_idx1 10 ?_ | refine d_index 10 ?_ | refine d_conv64 10 ?_ | refine d_slices 10 ?_ | refine d_concat 10 ?_ | refine d_build 10 ?_)
          (first | refine d_pure 11 ?_ | refine d_load 11 ?_ | refine d_arith 11 ?_ | refine d_rem 11 ?_ | refine d_quo 11 ?_ | refine d_shrv 11 ?_ | refine d_fieldat 11 ?_ | refine d_idx1 11 ?_ | refine d_index 11 ?_ | refine d_conv64 11 ?_ | refine d_slices 11 ?_ | refine d_concat 11 ?_ | refine d_build 11 ?_)
          (first | refine d_pure 12 ?_ | refine d_load 12 ?_ | refine d_arith 12 ?_ | refine d_rem 12 ?_ | refine d_quo 12 ?_ | refine d_shrv 12 ?_ | refine d_fieldat 12 ?_ | refine d_idx1 12 ?_ | refine d_index 12 ?_ | refine d_conv64 12 ?_ | refine d_slices 12 ?_ | refine d_concat 12 ?_ | refine d_build 12 ?_)
          (first | refine d_pure 13 ?_ | refine d_load 13 ?_ | refine d_arith 13 ?_ | refine d_rem 13 ?_ | refine d_quo 13 ?_ | refine d_shrv 13 ?_ | refine d_fieldat 13 ?_ | refine d_idx1 13 ?_ | refine d_index 13 ?_ | refine d_conv64 13 ?_ | refine d_slices 13 ?_ | refine d_concat 13 ?_ | refine d_build 13 ?_)
          refine d_done ?_
          (repeat (first | refine g ?_))
          by_cases ho : (tryS pa i ⟨true, (r : Int), sa, no, se⟩).2 = 0
          · rw [if_pos ⟨rfl, ho⟩] at hst
            rw [← hinv, hst]
            (repeat (first | refine g ?_))
            exact run_ret rfl (imp_RD rfl shut)
          · rw [if_neg (fun h => ho h.2)] at hst
            (repeat (first | refine g ?_))
            exact run_stop_loop (i + 1) ⟨⟨by omega, by rw [← hinv, hst]⟩, by omega⟩ fct shut
      · intro h1
        obtain rfl : i = 4 := by omega
        rw [List.drop_eq_nil_of_le (by rw [hk.len]; exact Nat.le_refl _)] at hinv
        (repeat (first | refine g ?_))
        exact run_stop_loop () hinv.symm fct shut
    · rw [hO2]
      (repeat (first | refine g ?_))
      exact run_ret rfl (imp_RD rfl shut)
end Go.Proofs.Ytibookgcaboldaa.V
namespace Go.Proofs.Ytibookgcaboldaa.V
open Go.Proofs.Ytibookgcaboldaa.VL Go.Proofs.Ytibookgcaboldaa.VL.RD Go.Proofs.Ytibookgcaboldaa.VL.Sha
attribute [local irreducible] Run sealB openB stretchB bndB
def zeroK : KeysT := ⟨0, [zeroS, zeroS, zeroS, zeroS]⟩
def firstOk (ma sa no : ByteArray) (r : Int) : Bool := decide (ma.size = 32) && fitsF sa no r
def firstK (ma pa sa no : ByteArray) (r : Int) : KeysT × Int := if firstOk ma sa no r = true then (⟨0, [sealedK 0 ma pa sa no r.toNat, zeroS, zeroS, zeroS]⟩, 0) else (zeroK, 1)
set_option maxHeartbeats 2000000 in
theorem firstK_spec (q : View) (ma pa sa no : ByteArray) (r : Int) (r0 : -9223372036854775808 ≤ r) (r1 : r ≤ 9223372036854775807) (hp : pa.size ≤ 1000000) :
    FnD Try.prog q 22 [.string ma, .string pa, .string sa, .string no, .int .i64 r] [] (.tuple #[.agg ⟨encKeys (firstK ma pa sa no r).1⟩, .int .i64 (firstK ma pa sa no r).2]) [] := by
  have cf := fits_spec q sa no r r0 r1
  unfold firstK firstOk
  (first | refine FnD.go Try.call22 Try.func22 rfl rfl rfl ?_ | refine FnX.go Try.call22 Try.func22 rfl rfl rfl ?_)
  (repeat (first | refine g ?_))
  refine s_alloc fun rk => ?_
  (repeat (first | refine g ?_))
  by_cases h1 : (ma.size : Int) = 32
  · have h1' : ma.size = 32 := by omega
    have h1n : ¬ ((ma.size : Int) ≠ 32) := fun h => h h1
    rw [decide_eq_true h1', Bool.true_and]
    (repeat (first | refine g ?_))
    cases hf : fitsF sa no r with
    | false =>
      rw [hf] at cf
      refine s_call cf ?_
      (repeat (first | refine g ?_))
      refine s_ret2 (imp_RD ?_ shut)
      rfl
    | true =>
      rw [hf] at cf
      rw [if_pos rfl]
      obtain ⟨f1, f2, f3, f4⟩ := fits_ok hf
      obtain ⟨m, rfl⟩ : ∃ m : Nat, r = m := ⟨r.toNat, by omega⟩
      have cs := sealed_spec q 0 m (by decide) (by omega) (by omega) ma pa sa no (by omega) hp (by omega)
      rw [Int.toNat_natCast]
      obtain ⟨S, hS⟩ : ∃ S, S = sealedK 0 ma pa sa no m := ⟨_, rfl⟩
      rw [← hS] at cs ⊢
      unfold encS at cs
      clear f1 f2 f3 f4 hf
      refine s_call cf ?_
      (repeat (first | refine g ?_))
      refine s_alloc fun rb => ?_
      (repeat (first | refine g ?_))
      refine s_call cs ?_
      (repeat (first | refine g ?_))
      refine s_idr (kk := 5) 1 ?_
      (repeat (first | refine g ?_))
      refine s_ret2 (imp_RD ?_ shut)
      rfl
  · have h1' : ¬ ma.size = 32 := by omega
    rw [decide_eq_false h1', Bool.false_and, if_neg (by decide)]
    (repeat (first | refine g ?_))
    refine s_ret2 (imp_RD ?_ shut)
    rfl
end Go.Proofs.Ytibookgcaboldaa.V
