/- More rules of the walk: all of a block as a value, a slice of bytes as a text, inside a drawn region. -/
import Derived.Test.YtaiocnpecaecdaaGreatDoorVB
import Derived.Test.YtaiocnpecaecdaaGreatDoorVLc
set_option maxRecDepth 10000
set_option linter.unusedVariables false
namespace Go.Proofs.YtaiocnpecaecdaaGreatDoor.V
open Go.Proofs.YtaiocnpecaecdaaGreatDoor.VL Go.Proofs.YtaiocnpecaecdaaGreatDoor.VL.View Go.RowKit
section
variable {q : View} {fn : Func} {R : Value → HProp} {k kt : List It} {σ σ' : Facts} {A A' L : List HProp} {f : HProp → List HProp} {dst : Option Tmp} {type : TypeId} {gd : Option (Nat × Bool)} {S : List HProp} {ops : Array Oper} {mm : Nat} {listed : Array Bool} {pos : String} {after : Array Edge}
theorem op_getall [DS] {P : Program} {T : Nat → Option TyI} {n : Nat} (hT : TabOk P T) {t : Nat} {x : Operand} {b : Nat} {ti : TyI} {tc : TypeId} {l : List Value} (hx : ev σ x = some (.pointer (some ⟨b, 0, none⟩))) (ht : T t = some ti) (ha : isAggD ti.und = true) (hA : At A (cells b tc ⟨l⟩) f) (hz : l.length = ti.size) :
    OpQ P q n σ (.load t x) A (.agg ⟨l⟩) := by
  have := op_load_agg (P := P) (q := q) (n := n) hT hx ht ha hA (by show 0 + ti.size ≤ l.toArray.size; simp; omega)
  have e : (⟨l⟩ : Array Value).extract 0 (0 + ti.size) = ⟨l⟩ := by
    apply Array.ext'
    simp
    rw [← hz, List.take_length]
  rw [e] at this
  exact this
theorem d_getall {_ : DS} (ii : Nat) {t : Nat} {x : Operand} {b : Nat} {ti : TyI} {tc : TypeId} {l : List Value} (hz : l.length = ti.size) (hkk : RunA Tryz.prog q fn R kt ops mm (listed.setIfInBounds ii true) S σ' A) (zi : nthG ops.toList ii = some ⟨dst, .load t x, type, pos, after, gd⟩ := by exact rfl) (zn : Region.noSelect ops = true := by kernel_rfl) (zf : Region.free .any ops listed ii = true := by kernel_rfl) (zr : (Region.ready .any ops listed).contains ii = true := by kernel_rfl) (zg : guardOf σ (ops.toList.map (·.dst)) gd = some true := by exact rfl) (hx : ev σ x = some (.pointer (some ⟨b, 0, none⟩)) := by exact rfl) (ht : lookupT tab t = some ti := by exact rfl) (ha : isAggD ti.und = true := by exact rfl) (hA : At S (cells b tc ⟨l⟩) f := by (repeat (first | (with_reducible exact At.head) | apply At.tail))) (hp : putF fn.ntmps dst (.agg ⟨l⟩) σ = some σ' := by exact rfl) : RunA Tryz.prog q fn R kt ops (mm + 1) listed S σ A :=
  any_look ii (nthG_arr zi) zn zf zr zg (op_getall tabOk hx ht ha hA hz) hp hkk
end
end Go.Proofs.YtaiocnpecaecdaaGreatDoor.V
namespace Go.Proofs.YtaiocnpecaecdaaGreatDoor.V
open Go.Proofs.YtaiocnpecaecdaaGreatDoor.VL Go.Proofs.YtaiocnpecaecdaaGreatDoor.VL.View Go.RowKit
section
variable {q : View} {fn : Func} {R : Value → HProp} {k kt : List It} {σ σ' : Facts} {A A' L : List HProp} {f : HProp → List HProp} {st : Bool} {md : Md} {ds : List (Option Tmp)} {os : List SOp} {dst : Option Tmp} {type : TypeId} {gd : Option (Nat × Bool)}
theorem s_eqk {_ : DS} {t yt : Nat} {x y : Operand} {xs ys : Array Value} {la lb : List Lit} (m : Nat) (D : Nat) (c : Bool) (hc : c = true ↔ la = lb) (hkk : Run Tryz.prog q fn R (.ops md ds os :: k) σ' A) (hw : guardOf σ ds gd = some true := by exact rfl) (hx : ev σ x = some (.agg xs) := by exact rfl) (hy : ev σ y = some (.agg ys) := by exact rfl) (hm : m ≤ 10000 := by decide) (hg : Tryz.prog.eqGuardType Tryz.prog.depth t = false := by kernel_rfl) (hk : Tryz.prog.keyTypeAt m t = true := by kernel_rfl) (fa : (Value.agg xs).formed Tryz.prog t = true := by (first | exact rfl | kernel_rfl)) (fb : (Value.agg ys).formed Tryz.prog t = true := by (first | exact rfl | kernel_rfl)) (ka : Tryz.prog.keyLits D t xs.toList = some la := by exact rfl) (kb : Tryz.prog.keyLits D t ys.toList = some lb := by exact rfl) (hp : putF fn.ntmps dst (.bool c) σ = some σ' := by exact rfl) : Run Tryz.prog q fn R (.ops md ds (⟨dst, .binOp .eql t x y yt, type, gd⟩ :: os) :: k) σ A :=
  w_eqk (m := m) (D := D) (c := c) (hc := hc) (hw := hw) (hx := hx) (hy := hy) (hm := hm) (hg := hg) (hk := hk) (fa := fa) (fb := fb) (ka := ka) (kb := kb) (hp := hp) (hkk := hkk)
end
end Go.Proofs.YtaiocnpecaecdaaGreatDoor.V
namespace Go.Proofs.YtaiocnpecaecdaaGreatDoor.V
open Go.Proofs.YtaiocnpecaecdaaGreatDoor.VL Go.Proofs.YtaiocnpecaecdaaGreatDoor.VL.View Go.RowKit
section
variable {q : View} {fn : Func} {R : Value → HProp} {k kt : List It} {σ σ' : Facts} {A A' L : List HProp} {f : HProp → List HProp} {st : Bool} {md : Md} {ds : List (Option Tmp)} {os : List SOp} {dst : Option Tmp} {type : TypeId} {gd : Option (Nat × Bool)}
theorem s_tounsafe {_ : DS} {src dt t b i : Nat} {si di ti : TyI} {x : Operand} {tc : TypeId} {c : Array Value}  (hkk : Run Tryz.prog q fn R (.ops (.mem st) ds os :: kt) σ' A) (hg : guardOf σ ds gd = some true := by exact rfl) (hx : ev σ x = some (.pointer (some ⟨b, i, none⟩)) := by exact rfl) (hs : lookupT tab src = some si := by exact rfl) (hsu : si.und = .pointer t := by exact rfl) (hd : lookupT tab dt = some di := by exact rfl) (hdu : di.und = .unsafePointer := by exact rfl) (ht : lookupT tab t = some ti := by exact rfl) (hz : ti.size ≠ 0 := by decide) (hA : At A (cells b tc c) f := by repeat (first | (with_reducible exact At.head) | apply At.tail)) (hi : i < c.size := by (first | exact Nat.succ_pos _ | decide | omega)) (hp : putF fn.ntmps dst (.pointer (some ⟨b, i, none⟩)) σ = some σ' := by exact rfl) : Run Tryz.prog q fn R (.ops (.mem st) ds (⟨dst, .convert src dt x, type, gd⟩ :: os) :: kt) σ A :=
  w_tounsafe (hT := tabOk) (hg := hg) (hx := hx) (hs := hs) (hsu := hsu) (hd := hd) (hdu := hdu) (ht := ht) (hz := hz) (hA := hA) (hi := hi) (hp := hp) (hkk := hkk)
theorem s_fromunsafe {_ : DS} {src dt u b i : Nat} {si di ui : TyI} {x : Operand} {tc : TypeId} {c : Array Value}  (hkk : Run Tryz.prog q fn R (.ops (.mem st) ds os :: kt) σ' A) (hg : guardOf σ ds gd = some true := by exact rfl) (hx : ev σ x = some (.pointer (some ⟨b, i, none⟩)) := by exact rfl) (hs : lookupT tab src = some si := by exact rfl) (hsu : si.und = .unsafePointer := by exact rfl) (hd : lookupT tab dt = some di := by exact rfl) (hdu : di.und = .pointer u := by exact rfl) (hu : lookupT tab u = some ui := by exact rfl) (hA : At A (cells b tc c) f := by repeat (first | (with_reducible exact At.head) | apply At.tail)) (hl : liesAt Tryz.prog Tryz.prog.depth tc (c.size / Tryz.prog.cellsOf tc) i u 1 = true := by kernel_rfl) (hp : putF fn.ntmps dst (.pointer (some ⟨b, i, none⟩)) σ = some σ' := by exact rfl) : Run Tryz.prog q fn R (.ops (.mem st) ds (⟨dst, .convert src dt x, type, gd⟩ :: os) :: kt) σ A :=
  w_fromunsafe (hT := tabOk) (hg := hg) (hx := hx) (hs := hs) (hsu := hsu) (hd := hd) (hdu := hdu) (hu := hu) (hA := hA) (hl := hl) (hp := hp) (hkk := hkk)
theorem s_neqp {_ : DS} {t te yt : Nat} {ti ei : TyI} {x y : Operand} {a : Addr}  (hkk : Run Tryz.prog q fn R (.ops md ds os :: kt) σ' A) (hg : guardOf σ ds gd = some true := by exact rfl) (hx : ev σ x = some (.pointer (some a)) := by exact rfl) (hy : ev σ y = some (.pointer (some a)) := by exact rfl) (ht : lookupT tab t = some ti := by exact rfl) (hu : ti.und = .pointer te := by exact rfl) (he : lookupT tab te = some ei := by exact rfl) (hp : putF fn.ntmps dst (.bool false) σ = some σ' := by exact rfl) : Run Tryz.prog q fn R (.ops md ds (⟨dst, .binOp .neq t x y yt, type, gd⟩ :: os) :: kt) σ A :=
  w_neqp (hT := tabOk) (hg := hg) (hx := hx) (hy := hy) (ht := ht) (hu := hu) (he := he) (hp := hp) (hkk := hkk)
theorem s_extern {_ : DS} {c : Call} {fi : FuncId} {fd : Func} {vs : List Value} {e : Array Value → Sem Value} {v : Value} (hr : ∀ w, (e vs.toArray).run Tryz.prog w = .ok v w) (hf : Tryz.prog.funcs[fi]? = some fd) (hkk : Run Tryz.prog q fn R (.ops md ds os :: kt) σ' A) (hg : guardOf σ ds gd = some true := by exact rfl) (hv : calleeV σ c = some (fi, vs) := by exact rfl) (hname : (fd.name == "runtime.NumGoroutine") = false := by kernel_rfl) (hb : fd.body.isNone = true := by kernel_rfl) (hn : Extern.findNext fd = none := by kernel_rfl) (he : Extern.find fd = some e := by kernel_rfl) (hp : putF fn.ntmps dst v σ = some σ' := by exact rfl) : Run Tryz.prog q fn R (.ops md ds (⟨dst, .call c, type, gd⟩ :: os) :: kt) σ A :=
  w_extern (hr := hr) (hg := hg) (hv := hv) (hf := hf) (hname := hname) (hb := hb) (hn := hn) (he := he) (hp := hp) (hkk := hkk)
theorem s_sdata {_ : DS} {c : Call} {x : Operand} {t len cap k : Nat} {e : TypeId} {p : Option Addr} {xs : List Value}  (hkk : Run Tryz.prog q fn R (.ops (.mem st) ds os :: kt) σ' A) (hA : At A (sl p len cap e k xs) f := by repeat (first | (with_reducible exact At.head) | apply At.tail)) (hz : len ≠ 0) (hg : guardOf σ ds gd = some true := by exact rfl) (hc : c = { callee := .builtin .unsafeSliceData, args := ⟨[x]⟩, argTypes := ⟨[t]⟩ } := by exact rfl) (hx : ev σ x = some (.slice p len cap) := by exact rfl) (hp : putF fn.ntmps dst (.pointer p) σ = some σ' := by exact rfl) : Run Tryz.prog q fn R (.ops (.mem st) ds (⟨dst, .call c, type, gd⟩ :: os) :: kt) σ A :=
  w_sdata (hA := hA) (hz := hz) (hg := hg) (hc := hc) (hx := hx) (hp := hp) (hkk := hkk)
theorem s_sdatan {_ : DS} {c : Call} {x : Operand} {t : Nat}  (hkk : Run Tryz.prog q fn R (.ops md ds os :: kt) σ' A) (hg : guardOf σ ds gd = some true := by exact rfl) (hc : c = { callee := .builtin .unsafeSliceData, args := ⟨[x]⟩, argTypes := ⟨[t]⟩ } := by exact rfl) (hx : ev σ x = some (.slice none 0 0) := by exact rfl) (hp : putF fn.ntmps dst (.pointer none) σ = some σ' := by exact rfl) : Run Tryz.prog q fn R (.ops md ds (⟨dst, .call c, type, gd⟩ :: os) :: kt) σ A :=
  w_sdatan (hg := hg) (hc := hc) (hx := hx) (hp := hp) (hkk := hkk)
theorem s_ustr {_ : DS} {c : Call} {x y : Operand} {pt it len cap e : Nat} {pi ei : TyI} {p : Option Addr} {l : List UInt8}  (hkk : Run Tryz.prog q fn R (.ops (.mem false) ds os :: kt) σ' (f hemp)) (hes : Tryz.prog.cellsOf e = 1 := by kernel_rfl) (h63 : l.length ≤ 9223372036854775807 := by omega) (hA : At A (sl p len cap e 1 (bv l)) f := by repeat (first | (with_reducible exact At.head) | apply At.tail)) (hg : guardOf σ ds gd = some true := by exact rfl) (hc : c = { callee := .builtin .unsafeString, args := ⟨[x, y]⟩, argTypes := ⟨[pt, it]⟩ } := by exact rfl) (hx : ev σ x = some (.pointer p) := by exact rfl) (hy : ev σ y = some (.int .i64 (len : Int)) := by exact rfl) (hpt : lookupT tab pt = some pi := by exact rfl) (hpu : pi.und = .pointer e := by exact rfl) (he : lookupT tab e = some ei := by exact rfl) (hp : putF fn.ntmps dst (.string ⟨l.toArray⟩) σ = some σ' := by exact rfl) : Run Tryz.prog q fn R (.ops (.mem false) ds (⟨dst, .call c, type, gd⟩ :: os) :: kt) σ A :=
  w_ustr (hT := tabOk) (hes := hes) (h63 := h63) (hA := hA) (hg := hg) (hc := hc) (hx := hx) (hy := hy) (hpt := hpt) (hpu := hpu) (he := he) (hp := hp) (hkk := hkk)
theorem s_nek {_ : DS} {t yt : Nat} {x y : Operand} {xs ys : Array Value} {la lb : List Lit} (m : Nat) (D : Nat) (c : Bool) (hc : c = true ↔ la = lb) (hkk : Run Tryz.prog q fn R (.ops md ds os :: k) σ' A) (hw : guardOf σ ds gd = some true := by exact rfl) (hx : ev σ x = some (.agg xs) := by exact rfl) (hy : ev σ y = some (.agg ys) := by exact rfl) (hm : m ≤ 10000 := by decide) (hg : Tryz.prog.eqGuardType Tryz.prog.depth t = false := by kernel_rfl) (hk : Tryz.prog.keyTypeAt m t = true := by kernel_rfl) (fa : (Value.agg xs).formed Tryz.prog t = true := by (first | exact rfl | kernel_rfl)) (fb : (Value.agg ys).formed Tryz.prog t = true := by (first | exact rfl | kernel_rfl)) (ka : Tryz.prog.keyLits D t xs.toList = some la := by exact rfl) (kb : Tryz.prog.keyLits D t ys.toList = some lb := by exact rfl) (hp : putF fn.ntmps dst (.bool (!c)) σ = some σ' := by exact rfl) : Run Tryz.prog q fn R (.ops md ds (⟨dst, .binOp .neq t x y yt, type, gd⟩ :: os) :: k) σ A :=
  w_nek (m := m) (D := D) (c := c) (hc := hc) (hw := hw) (hx := hx) (hy := hy) (hm := hm) (hg := hg) (hk := hk) (fa := fa) (fb := fb) (ka := ka) (kb := kb) (hp := hp) (hkk := hkk)
theorem s_mark {_ : DS} {t e b len cap : Nat} {x : Operand} {ti ei : TyI} {tc : TypeId} {c : Array Value}  (hkk : Run Tryz.prog q fn R (.ops (.mem false) ds os :: k) σ' (f (cells b tc c))) (hg : guardOf σ ds gd = some true := by exact rfl) (hx : ev σ x = some (.slice (some ⟨b, 0, none⟩) len cap) := by exact rfl) (ht : lookupT tab t = some ti := by exact rfl) (hu : ti.und = .slice e := by exact rfl) (he : lookupT tab e = some ei := by exact rfl) (heu : ei.und = .int .u8 := by exact rfl) (hA : At A (cells b tc c) f := by repeat (first | (with_reducible exact At.head) | apply At.tail)) (hp : putF fn.ntmps dst (.slice (some ⟨b, 0, none⟩) len cap) σ = some σ' := by exact rfl) : Run Tryz.prog q fn R (.ops (.mem false) ds (⟨dst, .convert t t x, type, gd⟩ :: os) :: k) σ A :=
  w_mark (hT := tabOk) (hg := hg) (hx := hx) (ht := ht) (hu := hu) (he := he) (heu := heu) (hA := hA) (hp := hp) (hkk := hkk)
theorem s_eqnil {_ : DS} {t yt : Nat} {x : Operand} {z : Value} {ms : Array (String × TypeId)}  (hkk : Run Tryz.prog q fn R (.ops md ds os :: kt) σ' A) (hg : guardOf σ ds gd = some true := by exact rfl) (hx : ev σ x = some .nilIface := by exact rfl) (hz : z = .nilIface := by exact rfl) (hu : Tryz.prog.underlying t = some (.interface ms) := by kernel_rfl) (hp : putF fn.ntmps dst (.bool true) σ = some σ' := by exact rfl) : Run Tryz.prog q fn R (.ops md ds (⟨dst, .binOp .eql t x (.const z) yt, type, gd⟩ :: os) :: kt) σ A :=
  w_eqnil (hg := hg) (hx := hx) (hz := hz) (hu := hu) (hp := hp) (hkk := hkk)
theorem s_defer {D : DS} {c : Call} {d : Deferred} (hk : @Run ⟨d :: D.default⟩ Tryz.prog q fn R (.ops (.mem false) ds os :: k) σ' A) (hd : deferV σ c = some d := by exact rfl) (hg : guardOf σ ds gd = some true := by exact rfl) (hp : putF fn.ntmps dst undef σ = some σ' := by exact rfl) : Run Tryz.prog q fn R (.ops (.mem false) ds (⟨dst, .defer c, type, gd⟩ :: os) :: k) σ A :=
  run_defer hd hg hp hk
theorem d_skip {_ : DS} {S : List HProp} {ops : Array Oper} {mm : Nat} {listed : Array Bool} (i : Nat) {o : Oper} (h : RunA Tryz.prog q fn R kt ops mm (listed.setIfInBounds i true) S σ' A) (hi : nthG ops.toList i = some o := by exact rfl) (hr : Region.ready .any ops listed = [i] := by kernel_rfl) (hg : guardOf σ (ops.toList.map (·.dst)) o.guard = some false := by exact rfl) (hp : putF fn.ntmps o.dst undef σ = some σ' := by exact rfl) : RunA Tryz.prog q fn R kt ops (mm + 1) listed S σ A :=
  a_skip i hi hr hg hp h
end
end Go.Proofs.YtaiocnpecaecdaaGreatDoor.V
namespace Go.Proofs.YtaiocnpecaecdaaGreatDoor.V
open Go.Proofs.YtaiocnpecaecdaaGreatDoor.VL Go.Proofs.YtaiocnpecaecdaaGreatDoor.VL.View Go.RowKit
section
variable {S : List HProp} {ops : Array Oper} {mm : Nat} {listed : Array Bool} {pos : String} {after : Array Edge} {q : View} {fn : Func} {R : Value → HProp} {k kt : List It} {σ σ' : Facts} {A A' L : List HProp} {f : HProp → List HProp} {st : Bool} {md : Md} {ds : List (Option Tmp)} {os : List SOp} {dst : Option Tmp} {type : TypeId} {gd : Option (Nat × Bool)}
theorem s_ifnil {_ : DS} {op : BinOp} {t yt : Nat} {x : Operand} {z v : Value} {r : Bool} {ms : Array (String × TypeId)} {ti : TyI}  (hkk : Run Tryz.prog q fn R (.ops md ds os :: kt) σ' A) (hg : guardOf σ ds gd = some true := by exact rfl) (hx : ev σ x = some v := by exact rfl) (hz : z = .nilIface := by exact rfl) (hv : ifNil op v = some r := by exact rfl) (ht : lookupT tab t = some ti := by exact rfl) (hi : ti.und = .interface ms := by exact rfl) (hp : putF fn.ntmps dst (.bool r) σ = some σ' := by exact rfl) : Run Tryz.prog q fn R (.ops md ds (⟨dst, .binOp op t x (.const z) yt, type, gd⟩ :: os) :: kt) σ A :=
  w_ifnil (hT := tabOk) (hg := hg) (hx := hx) (hz := hz) (hv := hv) (ht := ht) (hi := hi) (hp := hp) (hkk := hkk)
theorem s_mki {_ : DS} {t : Nat} {x : Operand} {v : Value} {ti : TyI}  (hkk : Run Tryz.prog q fn R (.ops md ds os :: kt) σ' A) (hg : guardOf σ ds gd = some true := by exact rfl) (hx : ev σ x = some v := by exact rfl) (ht : lookupT tab t = some ti := by exact rfl) (hn : noIface ti.und = true := by exact rfl) (hp : putF fn.ntmps dst (.iface t v) σ = some σ' := by exact rfl) : Run Tryz.prog q fn R (.ops md ds (⟨dst, .makeInterface t x, type, gd⟩ :: os) :: kt) σ A :=
  w_mki (hT := tabOk) (hg := hg) (hx := hx) (ht := ht) (hn := hn) (hp := hp) (hkk := hkk)
end
end Go.Proofs.YtaiocnpecaecdaaGreatDoor.V
namespace Go.Proofs.YtaiocnpecaecdaaGreatDoor.V
open Go.Proofs.YtaiocnpecaecdaaGreatDoor.VL Go.Proofs.YtaiocnpecaecdaaGreatDoor.VL.View Go.RowKit
section
variable {q : View} {fn : Func} {R : Value → HProp} {k kt : List It} {σ σ' : Facts} {A A' L : List HProp} {f : HProp → List HProp} {dst : Option Tmp} {type : TypeId} {gd : Option (Nat × Bool)}
end
end Go.Proofs.YtaiocnpecaecdaaGreatDoor.V
namespace Go.Proofs.YtaiocnpecaecdaaGreatDoor.V
open Go.Proofs.YtaiocnpecaecdaaGreatDoor.VL
attribute [local irreducible] Run
/-- Where a builder says it lies: nowhere yet, or here. -/
def selfP (own : Bool) (b : Nat) : Option Addr := if own then some ⟨b, 0, none⟩ else none
theorem copyCheck_spec (q : View) (b : Nat) (own : Bool) (v : Value) : FnD Tryz.prog q 155 [.pointer (some ⟨b, 0, none⟩)] [cells b 184 ⟨[.pointer (selfP own b), v]⟩] (.tuple #[]) [cells b 184 ⟨[.pointer (some ⟨b, 0, none⟩), v]⟩] := by
  cases own
  · show FnD _ _ _ _ [cells b 184 ⟨[.pointer none, v]⟩] _ _
    (first | refine FnD.go Tryz.call155 Tryz.func155 rfl rfl rfl ?_ | refine FnX.go Tryz.call155 Tryz.func155 rfl rfl rfl ?_)
    (repeat (first | refine g ?_))
    refine s_tounsafe ?_
    (repeat (first | refine g ?_))
    refine s_extern (e := Extern.AbiNoEscape.same) (vs := [.pointer (some ⟨b, 0, none⟩)]) (v := .pointer (some ⟨b, 0, none⟩)) (fun _ => rfl) Tryz.func183 ?_
    (repeat (first | refine g ?_))
    refine s_fromunsafe ?_
    (repeat (first | refine g ?_))
    refine run_end rfl (imp_RD rfl shut)
  · show FnD _ _ _ _ [cells b 184 ⟨[.pointer (some ⟨b, 0, none⟩), v]⟩] _ _
    (first | refine FnD.go Tryz.call155 Tryz.func155 rfl rfl rfl ?_ | refine FnX.go Tryz.call155 Tryz.func155 rfl rfl rfl ?_)
    (repeat (first | refine g ?_))
    refine s_neqp ?_
    (repeat (first | refine g ?_))
    refine run_end rfl (imp_RD rfl shut)
theorem writeString_spec (q : View) (b : Nat) (own : Bool) (p : Option Addr) (n cap : Nat) (l : List UInt8) (s : ByteArray) (hn : l.length = n) (hs : n + s.size ≤ 140737488355328) :
    FnX Tryz.prog q 112 [.pointer (some ⟨b, 0, none⟩), .string s] [cells b 184 ⟨[.pointer (selfP own b), .slice p n cap]⟩, sl p n cap 5 1 (bv l)]
      (fun _ : Option Addr × Nat => .tuple #[.int .i64 (s.size : Int), .nilIface]) fun r => [cells b 184 ⟨[.pointer (some ⟨b, 0, none⟩), .slice r.1 (n + s.size) r.2]⟩, sl r.1 (n + s.size) r.2 5 1 (bv (l ++ s.data.toList))] := by
  (first | refine FnD.go Tryz.call112 Tryz.func112 rfl rfl rfl ?_ | refine FnX.go Tryz.call112 Tryz.func112 rfl rfl rfl ?_)
  (repeat (first | refine g ?_))
  refine s_call (copyCheck_spec q b own (.slice p n cap)) ?_
  (repeat (first | refine g ?_))
  refine s_app 1 1 (fun g w0 w _ _ => reads_string s) (hxl := by rw [bv_length, hn, Nat.mul_one]) (h1 := bv_one _) fun r => ?_
  refine s_eq (bv_append _ _).symm ?_
  (repeat (first | refine g ?_))
  refine run_ret rfl (imp_RX r rfl shut)
theorem string_spec (q : View) (b : Nat) (pp : Option Addr) (p : Option Addr) (n cap : Nat) (l : List UInt8) (hn : l.length = n) (h0 : n ≠ 0) (h63 : n ≤ 9223372036854775807) :
    FnD Tryz.prog q 114 [.pointer (some ⟨b, 0, none⟩)] [cells b 184 ⟨[.pointer pp, .slice p n cap]⟩, sl p n cap 5 1 (bv l)]
      (.string ⟨l.toArray⟩) [cells b 184 ⟨[.pointer pp, .slice p n cap]⟩] := by
  (first | refine FnD.go Tryz.call114 Tryz.func114 rfl rfl rfl ?_ | refine FnX.go Tryz.call114 Tryz.func114 rfl rfl rfl ?_)
  (repeat (first | refine g ?_))
  refine d_start [sl p n cap 5 1 (bv l)] ?_
  (first | refine d_pure 0 ?_ | refine d_load 0 ?_ | refine d_arith 0 ?_ | refine d_rem 0 ?_ | refine d_quo 0 ?_ | refine d_shrv 0 ?_ | refine d_fieldat 0 ?_ | refine d_idx1 0 ?_ | refine d_index 0 ?_ | refine d_conv64 0 ?_ | refine d_slices 0 ?_ | refine d_concat 0 ?_ | refine d_build 0 ?_)
  (first | refine d_pure 1 ?_ | refine d_load 1 ?_ | refine d_arith 1 ?_ | refine d_rem 1 ?_ | refine d_quo 1 ?_ | refine d_shrv 1 ?_ | refine d_fieldat 1 ?_ | refine d_idx1 1 ?_ | refine d_index 1 ?_ | refine d_conv64 1 ?_ | refine d_slices 1 ?_ | refine d_concat 1 ?_ | refine d_build 1 ?_)
  (first | refine d_pure 2 ?_ | refine d_load 2 ?_ | refine d_arith 2 ?_ | refine d_rem 2 ?_ | refine d_quo 2 ?_ | refine d_shrv 2 ?_ | refine d_fieldat 2 ?_ | refine d_idx1 2 ?_ | refine d_index 2 ?_ | refine d_conv64 2 ?_ | refine d_slices 2 ?_ | refine d_concat 2 ?_ | refine d_build 2 ?_)
  (first | refine d_pure 3 ?_ | refine d_load 3 ?_ | refine d_arith 3 ?_ | refine d_rem 3 ?_ | refine d_quo 3 ?_ | refine d_shrv 3 ?_ | refine d_fieldat 3 ?_ | refine d_idx1 3 ?_ | refine d_index 3 ?_ | refine d_conv64 3 ?_ | refine d_slices 3 ?_ | refine d_concat 3 ?_ | refine d_build 3 ?_)
  (first | refine d_pure 5 ?_ | refine d_load 5 ?_ | refine d_arith 5 ?_ | refine d_rem 5 ?_ | refine d_quo 5 ?_ | refine d_shrv 5 ?_ | refine d_fieldat 5 ?_ | refine d_idx1 5 ?_ | refine d_index 5 ?_ | refine d_conv64 5 ?_ | refine d_slices 5 ?_ | refine d_concat 5 ?_ | refine d_build 5 ?_)
  (first | refine d_pure 6 ?_ | refine d_load 6 ?_ | refine d_arith 6 ?_ | refine d_rem 6 ?_ | refine d_quo 6 ?_ | refine d_shrv 6 ?_ | refine d_fieldat 6 ?_ | refine d_idx1 6 ?_ | refine d_index 6 ?_ | refine d_conv64 6 ?_ | refine d_slices 6 ?_ | refine d_concat 6 ?_ | refine d_build 6 ?_)
  (first | refine d_pure 7 ?_ | refine d_load 7 ?_ | refine d_arith 7 ?_ | refine d_rem 7 ?_ | refine d_quo 7 ?_ | refine d_shrv 7 ?_ | refine d_fieldat 7 ?_ | refine d_idx1 7 ?_ | refine d_index 7 ?_ | refine d_conv64 7 ?_ | refine d_slices 7 ?_ | refine d_concat 7 ?_ | refine d_build 7 ?_)
  (first | refine d_pure 8 ?_ | refine d_load 8 ?_ | refine d_arith 8 ?_ | refine d_rem 8 ?_ | refine d_quo 8 ?_ | refine d_shrv 8 ?_ | refine d_fieldat 8 ?_ | refine d_idx1 8 ?_ | refine d_index 8 ?_ | refine d_conv64 8 ?_ | refine d_slices 8 ?_ | refine d_concat 8 ?_ | refine d_build 8 ?_)
  (first | refine d_pure 9 ?_ | refine d_load 9 ?_ | refine d_arith 9 ?_ | refine d_rem 9 ?_ | refine d_quo 9 ?_ | refine d_shrv 9 ?_ | refine d_fieldat 9 ?_ | refine d_idx1 9 ?_ | refine d_index 9 ?_ | refine d_conv64 9 ?_ | refine d_slices 9 ?_ | refine d_concat 9 ?_ | refine d_build 9 ?_)
  refine d_via1 4 (h1 := by refine s_sdata (hz := h0) ?_; exact run_fin1) (h := ?_)
  refine d_via1 10 (h1 := by refine s_ustr (l := l) (h63 := by omega) ?_; exact run_fin1) (h := ?_)
  (first | refine d_pure 11 ?_ | refine d_load 11 ?_ | refine d_arith 11 ?_ | refine d_rem 11 ?_ | refine d_quo 11 ?_ | refine d_shrv 11 ?_ | refine d_fieldat 11 ?_ | refine d_idx1 11 ?_ | refine d_index 11 ?_ | refine d_conv64 11 ?_ | refine d_slices 11 ?_ | refine d_concat 11 ?_ | refine d_build 11 ?_)
  refine d_done ?_
  (repeat (first | refine g ?_))
  refine run_ret rfl (imp_RD rfl shut)
/-- Nothing was written. -/
theorem string_nil (q : View) (b : Nat) (pp : Option Addr) :
    FnD Tryz.prog q 114 [.pointer (some ⟨b, 0, none⟩)] [cells b 184 ⟨[.pointer pp, .slice none 0 0]⟩]
      (.string ⟨#[]⟩) [cells b 184 ⟨[.pointer pp, .slice none 0 0]⟩] := by
  (first | refine FnD.go Tryz.call114 Tryz.func114 rfl rfl rfl ?_ | refine FnX.go Tryz.call114 Tryz.func114 rfl rfl rfl ?_)
  refine run_nil0 (t := 5) (kk := 1) ?_
  (repeat (first | refine g ?_))
  refine d_start [sl none 0 0 5 1 []] ?_
  (first | refine d_pure 0 ?_ | refine d_load 0 ?_ | refine d_arith 0 ?_ | refine d_rem 0 ?_ | refine d_quo 0 ?_ | refine d_shrv 0 ?_ | refine d_fieldat 0 ?_ | refine d_idx1 0 ?_ | refine d_index 0 ?_ | refine d_conv64 0 ?_ | refine d_slices 0 ?_ | refine d_concat 0 ?_ | refine d_build 0 ?_)
  (first | refine d_pure 1 ?_ | refine d_load 1 ?_ | refine d_arith 1 ?_ | refine d_rem 1 ?_ | refine d_quo 1 ?_ | refine d_shrv 1 ?_ | refine d_fieldat 1 ?_ | refine d_idx1 1 ?_ | refine d_index 1 ?_ | refine d_conv64 1 ?_ | refine d_slices 1 ?_ | refine d_concat 1 ?_ | refine d_build 1 ?_)
  (first | refine d_pure 2 ?_ | refine d_load 2 ?_ | refine d_arith 2 ?_ | refine d_rem 2 ?_ | refine d_quo 2 ?_ | refine d_shrv 2 ?_ | refine d_fieldat 2 ?_ | refine d_idx1 2 ?_ | refine d_index 2 ?_ | refine d_conv64 2 ?_ | refine d_slices 2 ?_ | refine d_concat 2 ?_ | refine d_build 2 ?_)
  (first | refine d_pure 3 ?_ | refine d_load 3 ?_ | refine d_arith 3 ?_ | refine d_rem 3 ?_ | refine d_quo 3 ?_ | refine d_shrv 3 ?_ | refine d_fieldat 3 ?_ | refine d_idx1 3 ?_ | refine d_index 3 ?_ | refine d_conv64 3 ?_ | refine d_slices 3 ?_ | refine d_concat 3 ?_ | refine d_build 3 ?_)
  (first | refine d_pure 5 ?_ | refine d_load 5 ?_ | refine d_arith 5 ?_ | refine d_rem 5 ?_ | refine d_quo 5 ?_ | refine d_shrv 5 ?_ | refine d_fieldat 5 ?_ | refine d_idx1 5 ?_ | refine d_index 5 ?_ | refine d_conv64 5 ?_ | refine d_slices 5 ?_ | refine d_concat 5 ?_ | refine d_build 5 ?_)
  (first | refine d_pure 6 ?_ | refine d_load 6 ?_ | refine d_arith 6 ?_ | refine d_rem 6 ?_ | refine d_quo 6 ?_ | refine d_shrv 6 ?_ | refine d_fieldat 6 ?_ | refine d_idx1 6 ?_ | refine d_index 6 ?_ | refine d_conv64 6 ?_ | refine d_slices 6 ?_ | refine d_concat 6 ?_ | refine d_build 6 ?_)
  (first | refine d_pure 7 ?_ | refine d_load 7 ?_ | refine d_arith 7 ?_ | refine d_rem 7 ?_ | refine d_quo 7 ?_ | refine d_shrv 7 ?_ | refine d_fieldat 7 ?_ | refine d_idx1 7 ?_ | refine d_index 7 ?_ | refine d_conv64 7 ?_ | refine d_slices 7 ?_ | refine d_concat 7 ?_ | refine d_build 7 ?_)
  (first | refine d_pure 8 ?_ | refine d_load 8 ?_ | refine d_arith 8 ?_ | refine d_rem 8 ?_ | refine d_quo 8 ?_ | refine d_shrv 8 ?_ | refine d_fieldat 8 ?_ | refine d_idx1 8 ?_ | refine d_index 8 ?_ | refine d_conv64 8 ?_ | refine d_slices 8 ?_ | refine d_concat 8 ?_ | refine d_build 8 ?_)
  (first | refine d_pure 9 ?_ | refine d_load 9 ?_ | refine d_arith 9 ?_ | refine d_rem 9 ?_ | refine d_quo 9 ?_ | refine d_shrv 9 ?_ | refine d_fieldat 9 ?_ | refine d_idx1 9 ?_ | refine d_index 9 ?_ | refine d_conv64 9 ?_ | refine d_slices 9 ?_ | refine d_concat 9 ?_ | refine d_build 9 ?_)
  refine d_via1 4 (h1 := by refine s_sdatan ?_; exact run_fin1) (h := ?_)
  refine d_via1 10 (h1 := by refine s_ustr (l := []) (h63 := by decide) (hA := At.head) ?_; exact run_fin1) (h := ?_)
  (first | refine d_pure 11 ?_ | refine d_load 11 ?_ | refine d_arith 11 ?_ | refine d_rem 11 ?_ | refine d_quo 11 ?_ | refine d_shrv 11 ?_ | refine d_fieldat 11 ?_ | refine d_idx1 11 ?_ | refine d_index 11 ?_ | refine d_conv64 11 ?_ | refine d_slices 11 ?_ | refine d_concat 11 ?_ | refine d_build 11 ?_)
  refine d_done ?_
  (repeat (first | refine g ?_))
  refine run_ret rfl (imp_RD rfl shut)
end Go.Proofs.YtaiocnpecaecdaaGreatDoor.V
