/- The walk's rules on arrays of structs, and on structs that are compared. -/
import Derived.Test.YtajndpddlpnbkaaGreatDoorVB2
import Derived.Test.YtajndpddlpnbkaaGreatDoorVLc
import Derived.Test.YtajndpddlpnbkaaGreatDoorVA
import Derived.Test.YtajndpddlpnbkaaGreatDoorRD
set_option maxRecDepth 10000
set_option linter.unusedVariables false
namespace Go.Proofs.YtajndpddlpnbkaaGreatDoor.V
open Go.Proofs.YtajndpddlpnbkaaGreatDoor.VL Go.Proofs.YtajndpddlpnbkaaGreatDoor.VL.View Go.RowKit
section
variable {q : View} {fn : Func} {R : Value → HProp} {k kt : List It} {σ σ' : Facts} {A A' L : List HProp} {f : HProp → List HProp} {st : Bool} {md : Md} {ds : List (Option Tmp)} {os : List SOp} {dst : Option Tmp} {type : TypeId} {gd : Option (Nat × Bool)}
theorem s_ixs {_ : DS} {t e m kk : Nat} {ti ei : TyI} {x y : Operand} {k : IntKind} {i : Int} {xs vs : List Value} (hc : (xs.drop (i.toNat * kk)).take kk = vs) (hkk : Run Tryz.prog q fn R (.ops md ds os :: kt) σ' A) (hg : guardOf σ ds gd = some true := by exact rfl) (hx : ev σ x = some (.agg ⟨xs⟩) := by exact rfl) (hy : ev σ y = some (.int k i) := by exact rfl) (ht : lookupT tab t = some ti := by exact rfl) (hu : ti.und = .array m e := by exact rfl) (he : lookupT tab e = some ei := by exact rfl) (ha : isAggD ei.und = true := by exact rfl) (hs : ei.size = kk := by exact rfl) (h0 : 0 ≤ i := by omega) (h1 : i < m := by omega) (hp : putF fn.ntmps dst (.agg ⟨vs⟩) σ = some σ' := by exact rfl) : Run Tryz.prog q fn R (.ops md ds (⟨dst, .index t x y, type, gd⟩ :: os) :: kt) σ A :=
  w_ixs (hT := tabOk) (hc := hc) (hg := hg) (hx := hx) (hy := hy) (ht := ht) (hu := hu) (he := he) (ha := ha) (hs := hs) (h0 := h0) (h1 := h1) (hp := hp) (hkk := hkk)
theorem s_idr {_ : DS} {t e m kk : Nat} {ti ei : TyI} {x y : Operand} {b o : Nat} {k : IntKind} {i : Int} (o' : Nat) (hkk : Run Tryz.prog q fn R (.ops md ds os :: kt) σ' A) (hg : guardOf σ ds gd = some true := by exact rfl) (hx : ev σ x = some (.pointer (some ⟨b, o, none⟩)) := by exact rfl) (hy : ev σ y = some (.int k i) := by exact rfl) (ht : lookupT tab t = some ti := by exact rfl) (hu : ti.und = .array m e := by exact rfl) (he : lookupT tab e = some ei := by exact rfl) (hs : ei.size = kk := by exact rfl) (h0 : 0 ≤ i := by omega) (h1 : i < m := by omega) (ho : o + i.toNat * kk = o' := by (first | exact rfl | omega)) (hp : putF fn.ntmps dst (.pointer (some ⟨b, o', none⟩)) σ = some σ' := by exact rfl) : Run Tryz.prog q fn R (.ops md ds (⟨dst, .indexAddr t x y, type, gd⟩ :: os) :: kt) σ A :=
  w_idr (o' := o') (hT := tabOk) (hg := hg) (hx := hx) (hy := hy) (ht := ht) (hu := hu) (he := he) (hs := hs) (h0 := h0) (h1 := h1) (ho := ho) (hp := hp) (hkk := hkk)
theorem s_eqk {_ : DS} {t yt : Nat} {x y : Operand} {xs ys : Array Value} {la lb : List Lit} (m : Nat) (D : Nat) (c : Bool) (hc : c = true ↔ la = lb) (hkk : Run Tryz.prog q fn R (.ops md ds os :: k) σ' A) (hw : guardOf σ ds gd = some true := by exact rfl) (hx : ev σ x = some (.agg xs) := by exact rfl) (hy : ev σ y = some (.agg ys) := by exact rfl) (hm : m ≤ 10000 := by decide) (hg : Tryz.prog.eqGuardType Tryz.prog.depth t = false := by kernel_rfl) (hk : Tryz.prog.keyTypeAt m t = true := by kernel_rfl) (fa : (Value.agg xs).formed Tryz.prog t = true := by (first | exact rfl | kernel_rfl)) (fb : (Value.agg ys).formed Tryz.prog t = true := by (first | exact rfl | kernel_rfl)) (ka : Tryz.prog.keyLits D t xs.toList = some la := by exact rfl) (kb : Tryz.prog.keyLits D t ys.toList = some lb := by exact rfl) (hp : putF fn.ntmps dst (.bool c) σ = some σ' := by exact rfl) : Run Tryz.prog q fn R (.ops md ds (⟨dst, .binOp .eql t x y yt, type, gd⟩ :: os) :: k) σ A :=
  w_eqk (m := m) (D := D) (c := c) (hc := hc) (hw := hw) (hx := hx) (hy := hy) (hm := hm) (hg := hg) (hk := hk) (fa := fa) (fb := fb) (ka := ka) (kb := kb) (hp := hp) (hkk := hkk)
end
end Go.Proofs.YtajndpddlpnbkaaGreatDoor.V
/- The walk's rules for strings.Builder. -/
namespace Go.Proofs.YtajndpddlpnbkaaGreatDoor.V
open Go.Proofs.YtajndpddlpnbkaaGreatDoor.VL Go.Proofs.YtajndpddlpnbkaaGreatDoor.VL.View Go.RowKit
section
variable {q : View} {fn : Func} {R : Value → HProp} {k kt : List It} {σ σ' : Facts} {A A' L : List HProp} {f : HProp → List HProp} {st : Bool} {md : Md} {ds : List (Option Tmp)} {os : List SOp} {dst : Option Tmp} {type : TypeId} {gd : Option (Nat × Bool)}
theorem s_tounsafe {_ : DS} {src dt t b i : Nat} {si di ti : TyI} {x : Operand} {tc : TypeId} {c : Array Value}  (hkk : Run Tryz.prog q fn R (.ops (.mem st) ds os :: kt) σ' A) (hg : guardOf σ ds gd = some true := by exact rfl) (hx : ev σ x = some (.pointer (some ⟨b, i, none⟩)) := by exact rfl) (hs : lookupT tab src = some si := by exact rfl) (hsu : si.und = .pointer t := by exact rfl) (hd : lookupT tab dt = some di := by exact rfl) (hdu : di.und = .unsafePointer := by exact rfl) (ht : lookupT tab t = some ti := by exact rfl) (hz : ti.size ≠ 0 := by decide) (hA : At A (cells b tc c) f := by repeat (first | (with_reducible exact At.head) | apply At.tail)) (hi : i < c.size := by (first | exact Nat.succ_pos _ | decide | omega)) (hp : putF fn.ntmps dst (.pointer (some ⟨b, i, none⟩)) σ = some σ' := by exact rfl) : Run Tryz.prog q fn R (.ops (.mem st) ds (⟨dst, .convert src dt x, type, gd⟩ :: os) :: kt) σ A :=
  w_tounsafe (hT := tabOk) (hg := hg) (hx := hx) (hs := hs) (hsu := hsu) (hd := hd) (hdu := hdu) (ht := ht) (hz := hz) (hA := hA) (hi := hi) (hp := hp) (hkk := hkk)
theorem s_fromunsafe {_ : DS} {src dt u b i : Nat} {si di ui : TyI} {x : Operand} {tc : TypeId} {c : Array Value}  (hkk : Run Tryz.prog q fn R (.ops (.mem st) ds os :: kt) σ' A) (hg : guardOf σ ds gd = some true := by exact rfl) (hx : ev σ x = some (.pointer (some ⟨b, i, none⟩)) := by exact rfl) (hs : lookupT tab src = some si := by exact rfl) (hsu : si.und = .unsafePointer := by exact rfl) (hd : lookupT tab dt = some di := by exact rfl) (hdu : di.und = .pointer u := by exact rfl) (hu : lookupT tab u = some ui := by exact rfl) (hA : At A (cells b tc c) f := by repeat (first | (with_reducible exact At.head) | apply At.tail)) (hl : liesAt Tryz.prog Tryz.prog.depth tc (c.size / Tryz.prog.cellsOf tc) i u 1 = true := by kernel_rfl) (hp : putF fn.ntmps dst (.pointer (some ⟨b, i, none⟩)) σ = some σ' := by exact rfl) : Run Tryz.prog q fn R (.ops (.mem st) ds (⟨dst, .convert src dt x, type, gd⟩ :: os) :: kt) σ A :=
  w_fromunsafe (hT := tabOk) (hg := hg) (hx := hx) (hs := hs) (hsu := hsu) (hd := hd) (hdu := hdu) (hu := hu) (hA := hA) (hl := hl) (hp := hp) (hkk := hkk)
theorem s_neqp {_ : DS} {t te yt : Nat} {ti ei : TyI} {x y : Operand} {a : Addr}  (hkk : Run Tryz.prog q fn R (.ops md ds os :: kt) σ' A) (hg : guardOf σ ds gd = some true := by exact rfl) (hx : ev σ x = some (.pointer (some a)) := by exact rfl) (hy : ev σ y = some (.pointer (some a)) := by exact rfl) (ht : lookupT tab t = some ti := by exact rfl) (hu : ti.und = .pointer te := by exact rfl) (he : lookupT tab te = some ei := by exact rfl) (hp : putF fn.ntmps dst (.bool false) σ = some σ' := by exact rfl) : Run Tryz.prog q fn R (.ops md ds (⟨dst, .binOp .neq t x y yt, type, gd⟩ :: os) :: kt) σ A :=
  w_neqp (hT := tabOk) (hg := hg) (hx := hx) (hy := hy) (ht := ht) (hu := hu) (he := he) (hp := hp) (hkk := hkk)
theorem s_extern {_ : DS} {c : Call} {fi : FuncId} {fd : Func} {vs : List Value} {e : Array Value → Sem Value} {v : Value} (hr : ∀ w, (e vs.toArray).run Tryz.prog w = .ok v w) (hf : Tryz.prog.funcs[fi]? = some fd) (hkk : Run Tryz.prog q fn R (.ops md ds os :: kt) σ' A) (hg : guardOf σ ds gd = some true := by exact rfl) (hv : calleeV σ c = some (fi, vs) := by exact rfl) (hname : (fd.name == "runtime.NumGoroutine") = false := by kernel_rfl) (hb : fd.body.isNone = true := by kernel_rfl) (hn : Extern.findNext fd = none := by kernel_rfl) (he : Extern.find fd = some e := by kernel_rfl) (hp : putF fn.ntmps dst v σ = some σ' := by exact rfl) : Run Tryz.prog q fn R (.ops md ds (⟨dst, .call c, type, gd⟩ :: os) :: kt) σ A :=
  w_extern (hr := hr) (hg := hg) (hv := hv) (hf := hf) (hname := hname) (hb := hb) (hn := hn) (he := he) (hp := hp) (hkk := hkk)
theorem s_sdata {_ : DS} {c : Call} {x : Operand} {t len cap k : Nat} {e : TypeId} {p : Option Addr} {xs : List Value}  (hkk : Run Tryz.prog q fn R (.ops (.mem st) ds os :: kt) σ' A) (hA : At A (sl p len cap e k xs) f := by repeat (first | (with_reducible exact At.head) | apply At.tail)) (hz : len ≠ 0) (hg : guardOf σ ds gd = some true := by exact rfl) (hc : c = { callee := .builtin .unsafeSliceData, args := ⟨[x]⟩, argTypes := ⟨[t]⟩ } := by exact rfl) (hx : ev σ x = some (.slice p len cap) := by exact rfl) (hp : putF fn.ntmps dst (.pointer p) σ = some σ' := by exact rfl) : Run Tryz.prog q fn R (.ops (.mem st) ds (⟨dst, .call c, type, gd⟩ :: os) :: kt) σ A :=
  w_sdata (hA := hA) (hz := hz) (hg := hg) (hc := hc) (hx := hx) (hp := hp) (hkk := hkk)
theorem s_ustr {_ : DS} {c : Call} {x y : Operand} {pt it len cap e : Nat} {pi ei : TyI} {p : Option Addr} {l : List UInt8}  (hkk : Run Tryz.prog q fn R (.ops (.mem false) ds os :: kt) σ' (f hemp)) (hes : Tryz.prog.cellsOf e = 1 := by kernel_rfl) (h63 : l.length ≤ 9223372036854775807 := by omega) (hA : At A (sl p len cap e 1 (bv l)) f := by repeat (first | (with_reducible exact At.head) | apply At.tail)) (hg : guardOf σ ds gd = some true := by exact rfl) (hc : c = { callee := .builtin .unsafeString, args := ⟨[x, y]⟩, argTypes := ⟨[pt, it]⟩ } := by exact rfl) (hx : ev σ x = some (.pointer p) := by exact rfl) (hy : ev σ y = some (.int .i64 (len : Int)) := by exact rfl) (hpt : lookupT tab pt = some pi := by exact rfl) (hpu : pi.und = .pointer e := by exact rfl) (he : lookupT tab e = some ei := by exact rfl) (hp : putF fn.ntmps dst (.string ⟨l.toArray⟩) σ = some σ' := by exact rfl) : Run Tryz.prog q fn R (.ops (.mem false) ds (⟨dst, .call c, type, gd⟩ :: os) :: kt) σ A :=
  w_ustr (hT := tabOk) (hes := hes) (h63 := h63) (hA := hA) (hg := hg) (hc := hc) (hx := hx) (hy := hy) (hpt := hpt) (hpu := hpu) (he := he) (hp := hp) (hkk := hkk)
theorem s_nek {_ : DS} {t yt : Nat} {x y : Operand} {xs ys : Array Value} {la lb : List Lit} (m : Nat) (D : Nat) (c : Bool) (hc : c = true ↔ la = lb) (hkk : Run Tryz.prog q fn R (.ops md ds os :: k) σ' A) (hw : guardOf σ ds gd = some true := by exact rfl) (hx : ev σ x = some (.agg xs) := by exact rfl) (hy : ev σ y = some (.agg ys) := by exact rfl) (hm : m ≤ 10000 := by decide) (hg : Tryz.prog.eqGuardType Tryz.prog.depth t = false := by kernel_rfl) (hk : Tryz.prog.keyTypeAt m t = true := by kernel_rfl) (fa : (Value.agg xs).formed Tryz.prog t = true := by (first | exact rfl | kernel_rfl)) (fb : (Value.agg ys).formed Tryz.prog t = true := by (first | exact rfl | kernel_rfl)) (ka : Tryz.prog.keyLits D t xs.toList = some la := by exact rfl) (kb : Tryz.prog.keyLits D t ys.toList = some lb := by exact rfl) (hp : putF fn.ntmps dst (.bool (!c)) σ = some σ' := by exact rfl) : Run Tryz.prog q fn R (.ops md ds (⟨dst, .binOp .neq t x y yt, type, gd⟩ :: os) :: k) σ A :=
  w_nek (m := m) (D := D) (c := c) (hc := hc) (hw := hw) (hx := hx) (hy := hy) (hm := hm) (hg := hg) (hk := hk) (fa := fa) (fb := fb) (ka := ka) (kb := kb) (hp := hp) (hkk := hkk)
theorem s_mark {_ : DS} {t e b len cap : Nat} {x : Operand} {ti ei : TyI} {tc : TypeId} {c : Array Value}  (hkk : Run Tryz.prog q fn R (.ops (.mem false) ds os :: k) σ' (f (cells b tc c))) (hg : guardOf σ ds gd = some true := by exact rfl) (hx : ev σ x = some (.slice (some ⟨b, 0, none⟩) len cap) := by exact rfl) (ht : lookupT tab t = some ti := by exact rfl) (hu : ti.und = .slice e := by exact rfl) (he : lookupT tab e = some ei := by exact rfl) (heu : ei.und = .int .u8 := by exact rfl) (hA : At A (cells b tc c) f := by repeat (first | (with_reducible exact At.head) | apply At.tail)) (hp : putF fn.ntmps dst (.slice (some ⟨b, 0, none⟩) len cap) σ = some σ' := by exact rfl) : Run Tryz.prog q fn R (.ops (.mem false) ds (⟨dst, .convert t t x, type, gd⟩ :: os) :: k) σ A :=
  w_mark (hT := tabOk) (hg := hg) (hx := hx) (ht := ht) (hu := hu) (he := he) (heu := heu) (hA := hA) (hp := hp) (hkk := hkk)
theorem s_eqnil {_ : DS} {t yt : Nat} {x : Operand} {z : Value} {ms : Array (String × TypeId)}  (hkk : Run Tryz.prog q fn R (.ops md ds os :: kt) σ' A) (hg : guardOf σ ds gd = some true := by exact rfl) (hx : ev σ x = some .nilIface := by exact rfl) (hz : z = .nilIface := by exact rfl) (hu : Tryz.prog.underlying t = some (.interface ms) := by kernel_rfl) (hp : putF fn.ntmps dst (.bool true) σ = some σ' := by exact rfl) : Run Tryz.prog q fn R (.ops md ds (⟨dst, .binOp .eql t x (.const z) yt, type, gd⟩ :: os) :: kt) σ A :=
  w_eqnil (hg := hg) (hx := hx) (hz := hz) (hu := hu) (hp := hp) (hkk := hkk)
theorem s_defer {D : DS} {c : Call} {d : Deferred} (hk : @Run ⟨d :: D.default⟩ Tryz.prog q fn R (.ops (.mem false) ds os :: k) σ' A) (hd : deferV σ c = some d := by exact rfl) (hg : guardOf σ ds gd = some true := by exact rfl) (hp : putF fn.ntmps dst undef σ = some σ' := by exact rfl) : Run Tryz.prog q fn R (.ops (.mem false) ds (⟨dst, .defer c, type, gd⟩ :: os) :: k) σ A :=
  run_defer hd hg hp hk
theorem d_loadat {_ : DS} {S : List HProp} {ops : Array Oper} {mm : Nat} {listed : Array Bool} {pos : String} {after : Array Edge} (ii : Nat) {t : Nat} {x : Operand} {b i : Nat} {ti : TyI} {tc : TypeId} {l : List Value} {v : Value} (hc : l[i]? = some v) (hkk : RunA Tryz.prog q fn R kt ops mm (listed.setIfInBounds ii true) S σ' A) (zi : nthG ops.toList ii = some ⟨dst, .load t x, type, pos, after, gd⟩ := by exact rfl) (zn : Region.noSelect ops = true := by kernel_rfl) (zf : Region.free .any ops listed ii = true := by kernel_rfl) (zr : (Region.ready .any ops listed).contains ii = true := by kernel_rfl) (zg : guardOf σ (ops.toList.map (·.dst)) gd = some true := by exact rfl) (hx : ev σ x = some (.pointer (some ⟨b, i, none⟩)) := by exact rfl) (ht : lookupT tab t = some ti := by exact rfl) (ha : isAggD ti.und = false := by exact rfl) (hA : At S (cells b tc ⟨l⟩) f := by repeat (first | (with_reducible exact At.head) | apply At.tail)) (hp : putF fn.ntmps dst v σ = some σ' := by exact rfl) : RunA Tryz.prog q fn R kt ops (mm + 1) listed S σ A :=
  any_look ii (nthG_arr zi) zn zf zr zg (op_load tabOk hx ht ha hA (by simpa using hc)) hp hkk
theorem d_skip {_ : DS} {S : List HProp} {ops : Array Oper} {mm : Nat} {listed : Array Bool} (i : Nat) {o : Oper} (h : RunA Tryz.prog q fn R kt ops mm (listed.setIfInBounds i true) S σ' A) (hi : nthG ops.toList i = some o := by exact rfl) (hr : Region.ready .any ops listed = [i] := by kernel_rfl) (hg : guardOf σ (ops.toList.map (·.dst)) o.guard = some false := by exact rfl) (hp : putF fn.ntmps o.dst undef σ = some σ' := by exact rfl) : RunA Tryz.prog q fn R kt ops (mm + 1) listed S σ A :=
  a_skip i hi hr hg hp h
end
end Go.Proofs.YtajndpddlpnbkaaGreatDoor.V
/- More rules inside a drawn region: a struct out of a read-only row. -/
namespace Go.Proofs.YtajndpddlpnbkaaGreatDoor.V
open Go.Proofs.YtajndpddlpnbkaaGreatDoor.VL Go.Proofs.YtajndpddlpnbkaaGreatDoor.VL.View Go.RowKit
section
variable {q : View} {fn : Func} {R : Value → HProp} {k kt : List It} {σ σ' : Facts} {A A' L : List HProp} {dst : Option Tmp} {type : TypeId} {gd : Option (Nat × Bool)} {S : List HProp} {ops : Array Oper} {mm : Nat} {listed : Array Bool} {pos : String} {after : Array Edge}
theorem op_loadao [DS] {P : Program} {T : Nat → Option TyI} {n : Nat} (hT : TabOk P T) {t : Nat} {x : Operand} {b o i j m : Nat} {ti : TyI} {vs ls : List Value} (h : Old q b o vs) (hc : (vs.drop j).take m = ls) (hle : j + m ≤ vs.length) (h0 : 0 < m) (hx : ev σ x = some (.pointer (some ⟨b, i, none⟩))) (ht : T t = some ti) (ha : isAggD ti.und = true) (hm : ti.size = m) (hi : i = o + j) :
    OpQ P q n σ (.load t x) A (.agg ⟨ls⟩) := by
  obtain ⟨c, tc, fr, hb, hcc⟩ := h
  subst hi hm hc
  have hsz : ∀ i, i < vs.length → o + i < c.size := fun i hi => by
    have := hcc i hi
    rw [List.getElem?_eq_getElem hi] at this
    exact (Array.getElem?_eq_some_iff.1 this).1
  have h1 : o + j + ti.size ≤ c.size := by
    have := hsz (j + ti.size - 1) (by omega); omega
  have := op_load_agg_old (A := A) (n := n) hT hx ht ha hb h1
  have e : c.extract (o + j) (o + j + ti.size) = ⟨(vs.drop j).take ti.size⟩ := by
    apply Array.ext_getElem?
    intro i
    have e1 : (⟨(vs.drop j).take ti.size⟩ : Array Value)[i]? = ((vs.drop j).take ti.size)[i]? := by simp
    rw [e1, Array.getElem?_extract, List.getElem?_take, List.getElem?_drop]
    by_cases hi : i < ti.size
    · rw [if_pos hi, if_pos (by omega), Nat.add_assoc, hcc (j + i) (by omega)]
    · rw [if_neg hi, if_neg (by omega)]
  rw [e] at this
  exact this
theorem d_loadao {_ : DS} (ii : Nat) {t : Nat} {x : Operand} {b o i j m : Nat} {ti : TyI} {vs ls : List Value} (h : Old q b o vs) (hc : (vs.drop j).take m = ls) (hle : j + m ≤ vs.length) (h0 : 0 < m) (hkk : RunA Tryz.prog q fn R kt ops mm (listed.setIfInBounds ii true) S σ' A) (zi : nthG ops.toList ii = some ⟨dst, .load t x, type, pos, after, gd⟩ := by exact rfl) (zn : Region.noSelect ops = true := by kernel_rfl) (zf : Region.free .any ops listed ii = true := by kernel_rfl) (zr : (Region.ready .any ops listed).contains ii = true := by kernel_rfl) (zg : guardOf σ (ops.toList.map (·.dst)) gd = some true := by exact rfl) (hx : ev σ x = some (.pointer (some ⟨b, i, none⟩)) := by exact rfl) (ht : lookupT tab t = some ti := by exact rfl) (ha : isAggD ti.und = true := by exact rfl) (hm : ti.size = m := by exact rfl) (hi : i = o + j := by (first | exact rfl | omega)) (hp : putF fn.ntmps dst (.agg ⟨ls⟩) σ = some σ' := by exact rfl) : RunA Tryz.prog q fn R kt ops (mm + 1) listed S σ A :=
  any_look ii (nthG_arr zi) zn zf zr zg (op_loadao tabOk h hc hle h0 hx ht ha hm hi) hp hkk
end
end Go.Proofs.YtajndpddlpnbkaaGreatDoor.V
/- The walk's rule for values of interface types that are compared with nil. -/
namespace Go.Proofs.YtajndpddlpnbkaaGreatDoor.V
open Go.Proofs.YtajndpddlpnbkaaGreatDoor.VL Go.Proofs.YtajndpddlpnbkaaGreatDoor.VL.View Go.RowKit
section
variable {S : List HProp} {ops : Array Oper} {mm : Nat} {listed : Array Bool} {pos : String} {after : Array Edge} {q : View} {fn : Func} {R : Value → HProp} {k kt : List It} {σ σ' : Facts} {A A' L : List HProp} {f : HProp → List HProp} {st : Bool} {md : Md} {ds : List (Option Tmp)} {os : List SOp} {dst : Option Tmp} {type : TypeId} {gd : Option (Nat × Bool)}
theorem s_ifnil {_ : DS} {op : BinOp} {t yt : Nat} {x : Operand} {z v : Value} {r : Bool} {ms : Array (String × TypeId)} {ti : TyI}  (hkk : Run Tryz.prog q fn R (.ops md ds os :: kt) σ' A) (hg : guardOf σ ds gd = some true := by exact rfl) (hx : ev σ x = some v := by exact rfl) (hz : z = .nilIface := by exact rfl) (hv : ifNil op v = some r := by exact rfl) (ht : lookupT tab t = some ti := by exact rfl) (hi : ti.und = .interface ms := by exact rfl) (hp : putF fn.ntmps dst (.bool r) σ = some σ' := by exact rfl) : Run Tryz.prog q fn R (.ops md ds (⟨dst, .binOp op t x (.const z) yt, type, gd⟩ :: os) :: kt) σ A :=
  w_ifnil (hT := tabOk) (hg := hg) (hx := hx) (hz := hz) (hv := hv) (ht := ht) (hi := hi) (hp := hp) (hkk := hkk)
theorem s_mki {_ : DS} {t : Nat} {x : Operand} {v : Value} {ti : TyI}  (hkk : Run Tryz.prog q fn R (.ops md ds os :: kt) σ' A) (hg : guardOf σ ds gd = some true := by exact rfl) (hx : ev σ x = some v := by exact rfl) (ht : lookupT tab t = some ti := by exact rfl) (hn : noIface ti.und = true := by exact rfl) (hp : putF fn.ntmps dst (.iface t v) σ = some σ' := by exact rfl) : Run Tryz.prog q fn R (.ops md ds (⟨dst, .makeInterface t x, type, gd⟩ :: os) :: kt) σ A :=
  w_mki (hT := tabOk) (hg := hg) (hx := hx) (ht := ht) (hn := hn) (hp := hp) (hkk := hkk)
theorem d_getpart {_ : DS} (ii : Nat) {t : Nat} {x : Operand} {b i : Nat} {ti : TyI} {tc : TypeId} {l vs : List Value} (hkk : RunA Tryz.prog q fn R kt ops mm (listed.setIfInBounds ii true) S σ' A) (zi : nthG ops.toList ii = some ⟨dst, .load t x, type, pos, after, gd⟩ := by exact rfl) (zn : Region.noSelect ops = true := by kernel_rfl) (zf : Region.free .any ops listed ii = true := by kernel_rfl) (zr : (Region.ready .any ops listed).contains ii = true := by kernel_rfl) (zg : guardOf σ (ops.toList.map (·.dst)) gd = some true := by exact rfl) (hx : ev σ x = some (.pointer (some ⟨b, i, none⟩)) := by exact rfl) (ht : lookupT tab t = some ti := by exact rfl) (ha : isAggD ti.und = true := by exact rfl) (hA : At S (cells b tc ⟨l⟩) f := by (repeat (first | (with_reducible exact At.head) | apply At.tail))) (hc : dropTake i ti.size l = some vs := by exact rfl) (hp : putF fn.ntmps dst (.agg ⟨vs⟩) σ = some σ' := by exact rfl) : RunA Tryz.prog q fn R kt ops (mm + 1) listed S σ A :=
  any_look ii (nthG_arr zi) zn zf zr zg (opl_load_agg tabOk hx ht ha hA hc) hp hkk
end
end Go.Proofs.YtajndpddlpnbkaaGreatDoor.V
/- strings.Builder: copyCheck, WriteString, String. -/
namespace Go.Proofs.YtajndpddlpnbkaaGreatDoor.V
open Go.Proofs.YtajndpddlpnbkaaGreatDoor.VL
attribute [local irreducible] Run
/-- Where a builder says it lies: nowhere yet, or here. -/
def selfP (own : Bool) (b : Nat) : Option Addr := if own then some ⟨b, 0, none⟩ else none
theorem copyCheck_spec (q : View) (b : Nat) (own : Bool) (v : Value) : FnD Tryz.prog q 68 [.pointer (some ⟨b, 0, none⟩)] [cells b 96 ⟨[.pointer (selfP own b), v]⟩] (.tuple #[]) [cells b 96 ⟨[.pointer (some ⟨b, 0, none⟩), v]⟩] := by
  cases own
  · show FnD _ _ _ _ [cells b 96 ⟨[.pointer none, v]⟩] _ _
    (first | refine FnD.go Tryz.call68 Tryz.func68 rfl rfl rfl ?_ | refine FnX.go Tryz.call68 Tryz.func68 rfl rfl rfl ?_)
    (repeat (first | refine g ?_))
    refine s_tounsafe ?_
    (repeat (first | refine g ?_))
    refine s_extern (e := Extern.AbiNoEscape.same) (vs := [.pointer (some ⟨b, 0, none⟩)]) (v := .pointer (some ⟨b, 0, none⟩)) (fun _ => rfl) Tryz.func88 ?_
    (repeat (first | refine g ?_))
    refine s_fromunsafe ?_
    (repeat (first | refine g ?_))
    refine run_end rfl (imp_RD rfl shut)
  · show FnD _ _ _ _ [cells b 96 ⟨[.pointer (some ⟨b, 0, none⟩), v]⟩] _ _
    (first | refine FnD.go Tryz.call68 Tryz.func68 rfl rfl rfl ?_ | refine FnX.go Tryz.call68 Tryz.func68 rfl rfl rfl ?_)
    (repeat (first | refine g ?_))
    refine s_neqp ?_
    (repeat (first | refine g ?_))
    refine run_end rfl (imp_RD rfl shut)
theorem writeString_spec (q : View) (b : Nat) (own : Bool) (p : Option Addr) (n cap : Nat) (l : List UInt8) (s : ByteArray) (hn : l.length = n) (hs : n + s.size ≤ 140737488355328) :
    FnX Tryz.prog q 43 [.pointer (some ⟨b, 0, none⟩), .string s] [cells b 96 ⟨[.pointer (selfP own b), .slice p n cap]⟩, sl p n cap 5 1 (bv l)]
      (fun _ : Option Addr × Nat => .tuple #[.int .i64 (s.size : Int), .nilIface]) fun r => [cells b 96 ⟨[.pointer (some ⟨b, 0, none⟩), .slice r.1 (n + s.size) r.2]⟩, sl r.1 (n + s.size) r.2 5 1 (bv (l ++ s.data.toList))] := by
  (first | refine FnD.go Tryz.call43 Tryz.func43 rfl rfl rfl ?_ | refine FnX.go Tryz.call43 Tryz.func43 rfl rfl rfl ?_)
  (repeat (first | refine g ?_))
  refine s_call (copyCheck_spec q b own (.slice p n cap)) ?_
  (repeat (first | refine g ?_))
  refine s_app 1 1 (fun g w0 w _ _ => reads_string s) (hxl := by rw [bv_length, hn, Nat.mul_one]) (h1 := bv_one _) fun r => ?_
  refine s_eq (bv_append _ _).symm ?_
  (repeat (first | refine g ?_))
  refine run_ret rfl (imp_RX r rfl shut)
theorem string_spec (q : View) (b : Nat) (pp : Option Addr) (p : Option Addr) (n cap : Nat) (l : List UInt8) (hn : l.length = n) (h0 : n ≠ 0) (h63 : n ≤ 9223372036854775807) :
    FnD Tryz.prog q 44 [.pointer (some ⟨b, 0, none⟩)] [cells b 96 ⟨[.pointer pp, .slice p n cap]⟩, sl p n cap 5 1 (bv l)]
      (.string ⟨l.toArray⟩) [cells b 96 ⟨[.pointer pp, .slice p n cap]⟩] := by
  (first | refine FnD.go Tryz.call44 Tryz.func44 rfl rfl rfl ?_ | refine FnX.go Tryz.call44 Tryz.func44 rfl rfl rfl ?_)
  (repeat (first | refine g ?_))
  refine d_start [sl p n cap 5 1 (bv l)] ?_
  (first | refine d_pure 0 ?_ | refine d_load 0 ?_ | refine d_arith 0 ?_ | refine d_rem 0 ?_ | refine d_quo 0 ?_ | refine d_shrv 0 ?_ | refine d_fieldat 0 ?_ | refine d_idx1 0 ?_ | refine d_index 0 ?_ | refine d_conv64 0 ?_ | refine d_slices 0 ?_ | refine d_concat 0 ?_ | refine d_build 0 ?_)
  (first | refine d_pure 1 ?_ | refine d_load 1 ?_ | refine d_arith 1 ?_ | refine d_rem 1 ?_ | refine d_quo 1 ?_ | refine d_shrv 1 ?_ | refine d_fieldat 1 ?_ | refine d_idx1 1 ?_ | refine d_index 1 ?_ | refine d_conv64 1 ?_ | refine d_slices 1 ?_ | refine d_concat 1 ?_ | refine d_build 1 ?_)
  (first | refine d_pure 2 ?_ | refine d_load 2 ?_ | refine d_arith 2 ?_ | refine d_rem 2 ?_ | refine d_quo 2 ?_ | refine d_shrv 2 ?_ | refine d_fieldat 2 ?_ | refine d_idx1 2 ?_ | refine d_index 2 ?_ | refine d_conv64 2 ?_ | refine d_slices 2 ?_ | refine d_concat 2 ?_ | refine d_build 2 ?_)
  (first | refine d_pure 3 ?_ | refine d_load 3 ?_ | refine d_arith 3 ?_ | refine d_rem 3 ?_ | refine d_quo 3 ?_ | refine d_shrv 3 ?_ | refine d_fieldat 3 ?_ | refine d_idx1 3 ?_ | refine d_index 3 ?_ | refine d_conv64 3 ?_ | refine d_slices 3 ?_ | refine d_concat 3 ?_ | refine d_build 3 ?_)
  (first | refine d_pure 5 ?_ | refine d_load 5 ?_ | refine d_arith 5 ?_ | refine d_rem 5 ?_ | refine d_quo 5 ?_ | refine d_shrv 5 ?_ | refine d_fieldat 5 ?_ | refine d_idx1 5 ?_ | refine d_index 5 ?_ | refine d_conv64 5 ?_ | refine d_slices 5 ?_ | refine d_concat 5 ?_ | refine d_build 5 ?_)
  (first | refine d_pure 6 ?_ | refine d_load 6 ?_ | refine d_arith 6 ?_ | refine d_rem 6 ?_ | refine d_quo 6 ?_ | refine d_shrv 6 ?_ | refine d_fieldat 6 ?_ | refine d_idx1 6 ?_ | refine d_index 6 ?_ | refine d_conv64 6 ?_ | refine d_slices 6 ?_ | refine d_concat 6 ?_ | refine d_build 6 ?_)
  (first | refine d_pure 7 ?_ | refine d_load 7 ?_ | refine d_arith 7 ?_ | refine d_rem 7 ?_ | refine d_quo 7 ?_ | refine d_shrv 7 ?_ | refine d_fieldat 7 ?_ | refine d_idx1 7 ?_ | refine d_index 7 ?_ | refine d_conv64 7 ?_ | refine d_slices 7 ?_ | refine d_concat 7 ?_ | refine d_build 7 ?_)
  (first | refine d_pure 8 ?_ | refine d_load 8 ?_ | refine d_arith 8 ?_ | refine d_rem 8 ?_ | refine d_quo 8 ?_ | refine d_shrv 8 ?_ | refine d_fieldat 8 ?_ | refine d_idx1 8 ?_ | refine d_index 8 ?_ | refine d_conv64 8 ?_ | refine d_slices 8 ?_ | refine d_concat 8 ?_ | refine d_build 8 ?_)
  (first | refine d_pure 9 ?_ | refine d_load 9 ?_ | refine d_arith 9 ?_ | refine d_rem 9 ?_ | refine d_quo 9 ?_ | refine d_shrv 9 ?_ | refine d_fieldat 9 ?_ | refine d_idx1 9 ?_ | refine d_index 9 ?_ | refine d_conv64 9 ?_ | refine d_slices 9 ?_ | refine d_concat 9 ?_ | refine d_build 9 ?_)
  refine d_via1 4 (h1 := by refine s_sdata (hz := h0) ?_; exact run_fin1) (h := ?_)
  refine d_via1 10 (h1 := by refine s_ustr (l := l) (h63 := by omega) ?_; exact run_fin1) (h := ?_)
  (first | refine d_pure 11 ?_ | refine d_load 11 ?_ | refine d_arith 11 ?_ | refine d_rem 11 ?_ | refine d_quo 11 ?_ | refine d_shrv 11 ?_ | refine d_fieldat 11 ?_ | refine d_idx1 11 ?_ | refine d_index 11 ?_ | refine d_conv64 11 ?_ | refine d_slices 11 ?_ | refine d_concat 11 ?_ | refine d_build 11 ?_)
  refine d_done ?_
  (repeat (first | refine g ?_))
  refine run_ret rfl (imp_RD rfl shut)
end Go.Proofs.YtajndpddlpnbkaaGreatDoor.V
/- pack: numbers as bytes; texts filled up. -/
namespace Go.Proofs.YtajndpddlpnbkaaGreatDoor.V
open Go.Proofs.YtajndpddlpnbkaaGreatDoor.VL Go.Proofs.YtajndpddlpnbkaaGreatDoor.VL.RD
attribute [local irreducible] Run
def writerAt (b : Nat) (l : List UInt8) (bad : Bool) : HProp := hex fun x : Option Addr × Nat => star [cells b 129 ⟨[.slice x.1 l.length x.2, .bool bad]⟩, sl x.1 l.length x.2 5 1 (bv l)]
section
variable {P : Program} {q : View} {fn : Func} {R : Value → HProp} {k : List It} {σ : Facts} {A B : List HProp} {F : HProp} {b : Nat} {l : List UInt8} {bad : Bool}
theorem run_writer (hk : ∀ p c, Run P q fn R k σ (cells b 129 ⟨[.slice p l.length c, .bool bad]⟩ :: sl p l.length c 5 1 (bv l) :: A)) : Run P q fn R k σ (writerAt b l bad :: A) :=
  run_hex fun x => run_star (hk _ _)
theorem imp_writer {p : Option Addr} {c : Nat} (h : Imp F (star (cells b 129 ⟨[.slice p l.length c, .bool bad]⟩ :: sl p l.length c 5 1 (bv l) :: B))) : Imp F (star (writerAt b l bad :: B)) := by
  refine imp_ex (p, c) ?_
  exact imp_star h
end
def leb (n k : Nat) : List UInt8 := (List.range k).map fun j => UInt8.ofNat (n / 256 ^ j % 256)
theorem leb_length (n k : Nat) : (leb n k).length = k := by simp [leb]
theorem leb_succ (n k : Nat) : leb n (k + 1) = leb n k ++ [UInt8.ofNat (n / 256 ^ k % 256)] := by simp [leb, List.range_succ]
section
variable {P : Program} {q : View} {fn : Func} {R : Value → HProp} {k : List It} {σ : Facts} {A : List HProp} {b : Nat}
theorem run_to_writer {l : List UInt8} {bad : Bool} {p : Option Addr} {c : Nat} (h : Run P q fn R k σ (writerAt b l bad :: A)) : Run P q fn R k σ (cells b 129 ⟨[.slice p l.length c, .bool bad]⟩ :: sl p l.length c 5 1 (bv l) :: A) :=
  h.imp (imp_writer (p := p) (c := c) (Imp.refl _))
theorem run_intro_writer (h : Run P q fn R k σ (writerAt b [] false :: A)) : Run P q fn R k σ (cells b 129 ⟨[.slice none 0 0, .bool false]⟩ :: A) :=
  h.imp (imp_writer (p := none) (c := 0) (imp_pick Pull.head (imp_sl_nil (Imp.refl _))))
end
/-- A number is laid. -/
def wput (l : List UInt8) (bad : Bool) (n : Int) (w : Nat) : List UInt8 × Bool := if n < 0 ∨ n / 2 ^ (8 * w) ≠ 0 then (l, true) else (l ++ leb n.toNat w, bad)
theorem byte_at (n i : Nat) : ((n : Int) / 2 ^ (8 * i) % 256 : Int) = ((n / 256 ^ i % 256 : Nat) : Int) := by
  rw [Int.pow_mul]
  norm_cast
theorem wput_spec (q : View) (b : Nat) (l : List UInt8) (bad : Bool) (n : Int) (w : Nat) (hw : w ≤ 6) (hn : n ≤ 9223372036854775807) (hl : l.length ≤ 1000000) :
    FnD Tryz.prog q 69 [.pointer (some ⟨b, 0, none⟩), .int .i64 n, .int .i64 w] [writerAt b l bad] (.tuple #[]) [writerAt b (wput l bad n w).1 (wput l bad n w).2] := by
  unfold wput
  (first | refine FnD.go Tryz.call69 Tryz.func69 rfl rfl rfl ?_ | refine FnX.go Tryz.call69 Tryz.func69 rfl rfl rfl ?_)
  refine run_writer fun p c => ?_
  by_cases h0 : n < 0
  · rw [if_pos (.inl h0)]
    (repeat (first | refine g ?_))
    exact run_ret rfl (imp_RD rfl (imp_writer shut))
  obtain ⟨m, rfl⟩ : ∃ m : Nat, n = m := ⟨n.toNat, by omega⟩
  by_cases h1 : (m : Int) / 2 ^ (8 * w) ≠ 0
  · rw [if_pos (.inr h1)]
    (repeat (first | refine g ?_))
    exact run_ret rfl (imp_RD rfl (imp_writer shut))
  · rw [if_neg (by rintro (h | h); exact h0 h; exact h1 h)]
    (repeat (first | refine g ?_))
    refine run_loopI (X := Nat × Option Addr × Nat) (fun x => x.1 ≤ w) (fun x => [(0, .pointer (some ⟨b, 0, none⟩)), (1, .int .i64 (m : Int)), (19, .int .i64 (w : Int)), (20, .int .i64 (x.1 : Int))])
      (fun x => [cells b 129 ⟨[.slice x.2.1 (l ++ leb m x.1).length x.2.2, .bool bad]⟩, sl x.2.1 (l ++ leb m x.1).length x.2.2 5 1 (bv (l ++ leb m x.1))]) (fun x => w - x.1) (0, p, c) (Nat.zero_le _) fct (by rw [show leb m 0 = [] from rfl, List.append_nil]; exact shut) ?_
    intro ⟨i, p, c⟩ hi
    dsimp only at *
    (repeat (first | refine g ?_))
    refine run_cond_dec rfl ?_ ?_
    · intro h2
      have h2' : i < w := by omega
      have hll : (l ++ leb m i).length = l.length + i := by rw [List.length_append, leb_length]
      (repeat (first | refine g ?_))
      have eb : (((m : Int) / 2 ^ ((8 : Int) * i).toNat) % 256) = ((UInt8.ofNat (m / 256 ^ i % 256)).toNat : Int) := by
        rw [show ((8 : Int) * i).toNat = 8 * i by omega, byte_at, UInt8.toNat_ofNat']; omega
      have el : bv (l ++ leb m (i + 1)) = bv (l ++ leb m i) ++ [Value.int .u8 (((m : Int) / 2 ^ ((8 : Int) * i).toNat) % 256)] := by
        rw [leb_succ, ← List.append_assoc, bv_append _ [_], eb]; rfl
      have ell : (l ++ leb m (i + 1)).length = (l ++ leb m i).length + 1 := by
        rw [leb_succ, ← List.append_assoc]; exact List.length_append
      refine d_all ?_
      (refine d_pure 0 ?_)
      (refine d_pure 1 ?_)
      (refine d_pure 2 ?_)
      (refine d_fieldat 3 ?_)
      (refine d_pure 5 ?_)
      (refine d_pure 6 ?_)
      (refine d_arith 7 ?_)
      (refine d_shrv 8 ?_)
      (refine d_pure 9 ?_)
      refine d_two 4 10 ?_ ?_
      · refine d_ovia1 4 (h1 := by refine s_load ?_; exact run_fin1) (h := ?_)
        refine d_via 10 (X := Nat) (h1 := by refine s_built fun r => ?_; exact run_fin r) (h := fun r => ?_)
        refine d_via 11 (X := Option Addr × Nat) (h1 := by refine s_app 1 1 (reads_own At.head rfl) (hxl := by rw [bv_length, Nat.mul_one]) fun r2 => ?_; exact run_fin r2) (h := fun r2 => ?_)
        (refine d_pure 12 ?_)
        (refine d_fieldat 13 ?_)
        refine d_via1 14 (h1 := by refine s_store ?_; exact run_fin1) (h := ?_)
        refine d_done ?_
        (repeat (first | refine g ?_))
        refine run_stop_loop (i + 1, r2.1, r2.2) ⟨h2', by dsimp only; omega⟩ fct ?_
        dsimp only
        rw [el, ell]
        exact shut
      · refine d_ovia 10 (X := Nat) (h1 := by refine s_built fun r => ?_; exact run_fin r) (h := fun r => ?_)
        refine d_via1 4 (h1 := by refine s_load ?_; exact run_fin1) (h := ?_)
        refine d_via 11 (X := Option Addr × Nat) (h1 := by refine s_app 1 1 (reads_own At.head rfl) (hxl := by rw [bv_length, Nat.mul_one]) fun r2 => ?_; exact run_fin r2) (h := fun r2 => ?_)
        (refine d_pure 12 ?_)
        (refine d_fieldat 13 ?_)
        refine d_via1 14 (h1 := by refine s_store ?_; exact run_fin1) (h := ?_)
        refine d_done ?_
        (repeat (first | refine g ?_))
        refine run_stop_loop (i + 1, r2.1, r2.2) ⟨h2', by dsimp only; omega⟩ fct ?_
        dsimp only
        rw [el, ell]
        exact shut
    · intro h2
      obtain rfl : i = w := by omega
      (repeat (first | refine g ?_))
      exact run_end rfl (imp_RD rfl (imp_writer shut))
/-- A number as so many bytes. -/
def putF (n w : Int) : ByteArray × Int := if w < 1 ∨ 6 < w then (⟨#[]⟩, 1) else if n < 0 ∨ n / 2 ^ (8 * w.toNat) ≠ 0 then (⟨#[]⟩, 2) else (⟨(leb n.toNat w.toNat).toArray⟩, 0)
theorem put_spec (q : View) (n w : Int) (hn : n ≤ 9223372036854775807) : FnD Tryz.prog q 65 [.int .i64 n, .int .i64 w] [] (.tuple #[.string (V.putF n w).1, .int .i64 (V.putF n w).2]) [] := by
  unfold V.putF
  (first | refine FnD.go Tryz.call65 Tryz.func65 rfl rfl rfl ?_ | refine FnX.go Tryz.call65 Tryz.func65 rfl rfl rfl ?_)
  by_cases h0 : w < 1
  · rw [if_pos (.inl h0)]
    (repeat (first | refine g ?_))
    exact run_ret rfl (imp_RD rfl shut)
  by_cases h1 : 6 < w
  · rw [if_pos (.inr h1)]
    (repeat (first | refine g ?_))
    exact run_ret rfl (imp_RD rfl shut)
  rw [if_neg (by omega)]
  obtain ⟨k, rfl⟩ : ∃ k : Nat, w = k := ⟨w.toNat, by omega⟩
  rw [Int.toNat_natCast]
  (repeat (first | refine g ?_))
  refine s_alloc fun r => ?_
  (repeat (first | refine g ?_))
  have c := wput_spec q r [] false n k (by omega) hn (Nat.zero_le _)
  unfold wput at c
  refine run_pull (X := cells r 129 ⟨[.slice none 0 0, .bool false]⟩) (by (repeat (first | (with_reducible exact Pull.head) | apply Pull.tail))) ?_
  refine run_intro_writer ?_
  by_cases h2 : n < 0 ∨ n / 2 ^ (8 * k) ≠ 0
  · rw [if_pos h2] at c ⊢
    refine s_call c ?_
    refine run_writer fun p c => ?_
    (repeat (first | refine g ?_))
    exact run_ret rfl (imp_RD rfl shut)
  · rw [if_neg h2] at c ⊢
    refine s_call c ?_
    refine run_writer fun p c => ?_
    rw [List.nil_append]
    (repeat (first | refine g ?_))
    refine s_string ?_
    (repeat (first | refine g ?_))
    exact run_ret rfl (imp_RD rfl shut)
def pad0 (l : List UInt8) (n : Nat) : List UInt8 := l ++ List.replicate (n - l.length) 0
theorem full_spec (q : View) (b : Nat) (l : List UInt8) (bad : Bool) (n : Nat) (hn : n ≤ 1000000) (hl : l.length ≤ 1000000) :
    FnD Tryz.prog q 70 [.pointer (some ⟨b, 0, none⟩), .int .i64 n] [writerAt b l bad] (.string ⟨(pad0 l n).toArray⟩) [writerAt b (pad0 l n) bad] := by
  unfold pad0
  (first | refine FnD.go Tryz.call70 Tryz.func70 rfl rfl rfl ?_ | refine FnX.go Tryz.call70 Tryz.func70 rfl rfl rfl ?_)
  refine run_writer fun p c => ?_
  (repeat (first | refine g ?_))
  refine run_loopI (X := Nat × Option Addr × Nat) (fun x => x.1 ≤ n - l.length) (fun x => [(0, .pointer (some ⟨b, 0, none⟩)), (1, .int .i64 (n : Int))])
    (fun x => [cells b 129 ⟨[.slice x.2.1 (l ++ List.replicate x.1 0).length x.2.2, .bool bad]⟩, sl x.2.1 (l ++ List.replicate x.1 0).length x.2.2 5 1 (bv (l ++ List.replicate x.1 0))]) (fun x => n - l.length - x.1) (0, p, c) (Nat.zero_le _) fct (by rw [List.replicate_zero, List.append_nil]; exact shut) ?_
  intro ⟨i, p, c⟩ hi
  dsimp only at *
  have hll : (l ++ List.replicate i (0 : UInt8)).length = l.length + i := by rw [List.length_append, List.length_replicate]
  (repeat (first | refine g ?_))
  refine run_cond_dec rfl ?_ ?_
  · intro h2
    have h2' : i < n - l.length := by omega
    have el : bv (l ++ List.replicate (i + 1) 0) = bv (l ++ List.replicate i 0) ++ [Value.int .u8 0] := by
      rw [List.replicate_succ', ← List.append_assoc, bv_append _ [_]]; rfl
    have ell : (l ++ List.replicate (i + 1) (0 : UInt8)).length = (l ++ List.replicate i (0 : UInt8)).length + 1 := by
      rw [List.replicate_succ', ← List.append_assoc]; exact List.length_append
    (repeat (first | refine g ?_))
    refine s_built fun r => ?_
    (repeat (first | refine g ?_))
    refine s_app 1 1 (reads_own At.head rfl) (hxl := by rw [bv_length, Nat.mul_one]) fun r2 => ?_
    (repeat (first | refine g ?_))
    refine run_stop_loop (i + 1, r2.1, r2.2) ⟨h2', by dsimp only; omega⟩ fct ?_
    dsimp only
    rw [el, ell]
    exact shut
  · intro h2
    obtain rfl : i = n - l.length := by omega
    (repeat (first | refine g ?_))
    refine s_string ?_
    (repeat (first | refine g ?_))
    exact run_ret rfl (imp_RD rfl (imp_writer shut))
/-- A text, filled up. -/
def padF (s : ByteArray) (n : Int) : ByteArray × Int := if n < 0 ∨ 4096 < n then (⟨#[]⟩, 1) else if n < s.size then (⟨#[]⟩, 4) else (⟨(pad0 s.data.toList n.toNat).toArray⟩, 0)
theorem pad_spec (q : View) (s : ByteArray) (n : Int) (hs : s.size ≤ 140737488351232) : FnD Tryz.prog q 94 [.string s, .int .i64 n] [] (.tuple #[.string (padF s n).1, .int .i64 (padF s n).2]) [] := by
  unfold padF
  (first | refine FnD.go Tryz.call94 Tryz.func94 rfl rfl rfl ?_ | refine FnX.go Tryz.call94 Tryz.func94 rfl rfl rfl ?_)
  by_cases h0 : n < 0
  · rw [if_pos (.inl h0)]
    (repeat (first | refine g ?_))
    exact run_ret rfl (imp_RD rfl shut)
  by_cases h1 : 4096 < n
  · rw [if_pos (.inr h1)]
    (repeat (first | refine g ?_))
    exact run_ret rfl (imp_RD rfl shut)
  rw [if_neg (by omega)]
  obtain ⟨k, rfl⟩ : ∃ k : Nat, n = k := ⟨n.toNat, by omega⟩
  rw [Int.toNat_natCast]
  by_cases h2 : (k : Int) < s.size
  · rw [if_pos h2]
    (repeat (first | refine g ?_))
    exact run_ret rfl (imp_RD rfl shut)
  rw [if_neg h2]
  (repeat (first | refine g ?_))
  refine s_bytes fun r => ?_
  (repeat (first | refine g ?_))
  refine s_alloc fun b => ?_
  (repeat (first | refine g ?_))
  have hl : s.data.toList.length ≤ 1000000 := by
    have : s.data.toList.length = s.size := rfl
    omega
  refine run_to_writer (l := s.data.toList) ?_
  refine s_call (full_spec q b s.data.toList false k (by omega) hl) ?_
  (repeat (first | refine g ?_))
  exact run_ret rfl (imp_RD rfl shut)
/-- A number, and noughts behind it. -/
theorem leb_div (n k : Nat) (h : n < 256 ^ k) : (n : Int) / 2 ^ (8 * k) = 0 := by
  have e : (2 : Int) ^ (8 * k) = ((256 ^ k : Nat) : Int) := by rw [Int.pow_mul]; norm_cast
  rw [e]
  exact_mod_cast congrArg Nat.cast (Nat.div_eq_of_lt h)
def numB (n size : Nat) : ByteArray := ⟨(pad0 (leb n 6) size).toArray⟩
theorem numbered_spec (q : View) (n size : Nat) (hn : n < 281474976710656) (h6 : 6 ≤ size) (hs : size ≤ 4096) : FnD Tryz.prog q 78 [.int .i64 n, .int .i64 size] [] (.string (numB n size)) [] := by
  have c1 := put_spec q n 6 (by omega)
  have c2 := pad_spec q ⟨(leb n 6).toArray⟩ size (by show (leb n 6).toArray.size ≤ _; rw [List.size_toArray, leb_length]; decide)
  unfold V.putF at c1
  unfold padF at c2
  have e1 : (⟨(leb n 6).toArray⟩ : ByteArray).size = 6 := by show (leb n 6).toArray.size = 6; rw [List.size_toArray, leb_length]
  have ed := leb_div n 6 hn
  rw [if_neg (by decide), if_neg (by rintro (h | h); omega; exact h ed)] at c1
  rw [e1, if_neg (by omega), if_neg (by omega)] at c2
  dsimp only at c1 c2
  (first | refine FnD.go Tryz.call78 Tryz.func78 rfl rfl rfl ?_ | refine FnX.go Tryz.call78 Tryz.func78 rfl rfl rfl ?_)
  (repeat (first | refine g ?_))
  refine s_call c1 ?_
  (repeat (first | refine g ?_))
  refine s_call c2 ?_
  (repeat (first | refine g ?_))
  exact run_ret rfl (imp_RD rfl shut)
end Go.Proofs.YtajndpddlpnbkaaGreatDoor.V
/- The ideal vault: what it numbers. -/
namespace Go.Proofs.YtajndpddlpnbkaaGreatDoor.V
open Go.Proofs.YtajndpddlpnbkaaGreatDoor.VL Go.Proofs.YtajndpddlpnbkaaGreatDoor.VL.RD
attribute [local irreducible] Run
section
variable {α : Type} [DecidableEq α]
def numdF (l : List α) (i : Nat) : List (α × Value) := (l.zipIdx i).map fun x => (x.1, .int .i64 ((x.2 + 1 : Nat) : Int))
def pos (l : List α) (k : α) : Option Nat := match l with
  | [] => none
  | b :: l => if k = b then some 0 else (pos l k).map (· + 1)
theorem findK_numd (l : List α) (k : α) (i j : Nat) : findK (numdF l i) k j = (pos l k).map fun n => (j + n, Value.int .i64 ((i + n + 1 : Nat) : Int)) := by
  induction l generalizing i j with
  | nil => rfl
  | cons b l ih =>
    have e : numdF (b :: l) i = (b, .int .i64 ((i + 1 : Nat) : Int)) :: numdF l (i + 1) := by simp [numdF, List.zipIdx_cons]
    rw [e]
    unfold findK pos
    by_cases h : k = b
    · rw [if_pos h, if_pos h]; rfl
    · rw [if_neg h, if_neg h, ih]
      cases pos l k with
      | none => rfl
      | some n => simp; omega
omit [DecidableEq α] in
theorem numdF_snoc (l : List α) (k : α) : numdF (l ++ [k]) 0 = numdF l 0 ++ [(k, .int .i64 ((l.length + 1 : Nat) : Int))] := by
  simp [numdF, List.zipIdx_append]
omit [DecidableEq α] in
theorem numdF_length (l : List α) (i : Nat) : (numdF l i).length = l.length := by simp [numdF]
omit [DecidableEq α] in
theorem numdF_mem (l : List α) (i : Nat) (x : α × Value) (h : x ∈ numdF l i) : x.1 ∈ l := by
  unfold numdF at h
  obtain ⟨y, hy, rfl⟩ := List.mem_map.1 h
  exact (List.mem_zipIdx hy).2.2 ▸ List.getElem_mem _
theorem pos_lt (l : List α) (k : α) (n : Nat) (h : pos l k = some n) : n < l.length ∧ l[n]? = some k := by
  induction l generalizing n with
  | nil => cases h
  | cons b l ih =>
    unfold pos at h
    split at h
    · rename_i e; obtain rfl := Option.some.inj h; exact ⟨Nat.succ_pos _, by simp [e]⟩
    · cases hp : pos l k with
      | none => rw [hp] at h; cases h
      | some m =>
        rw [hp] at h
        obtain rfl := Option.some.inj h
        have := ih m hp
        exact ⟨by simp; omega, by simpa using this.2⟩
/-- The number of a thing: the next one, if it is new. -/
def cntN (l : List α) (k : α) : Nat := match pos l k with | some n => n + 1 | none => l.length + 1
def cntL (l : List α) (k : α) : List α := match pos l k with | some _ => l | none => l ++ [k]
end
def mapS (b : Nat) (l : List ByteArray) : HProp := mapc b ((numdF l 0).map fun x => (.string x.1, x.2))
def mapK (b : Nat) (l : List (List KV)) : HProp := mapc b ((numdF l 0).map fun x => (encK x.1, x.2))
/-- Keys of the maps of structs. -/
def markedK (l s : ByteArray) : List KV := [.s l, .s s]
def sealedK (n : Int) (a b c : ByteArray) : List KV := [.i .i64 n, .s a, .s b, .s c]
def MarkedOk (k : List KV) : Prop := ∃ a b, k = markedK a b
def SealedOk (k : List KV) : Prop := ∃ n a b c, k = sealedK n a b c
theorem marked_fits (a b : ByteArray) : RowFits Tryz.prog (Tryz.prog.fieldsOf 226).toList (markedK a b) := by
  unfold Program.fieldsOf
  rw [Tryz.underlying226]
  refine ⟨rfl, fun j f x hf hx => ?_⟩
  match j, hf, hx with
  | 0, hf, hx => obtain rfl := Option.some.inj hf; obtain rfl := Option.some.inj hx; exact ⟨by decide, rfl, Tryz.underlying9⟩
  | 1, hf, hx => obtain rfl := Option.some.inj hf; obtain rfl := Option.some.inj hx; exact ⟨by decide, rfl, Tryz.underlying9⟩
  | j + 2, hf, hx => cases hx
theorem sealed_fits (n : Int) (a b c : ByteArray) : RowFits Tryz.prog (Tryz.prog.fieldsOf 150).toList (sealedK n a b c) := by
  unfold Program.fieldsOf
  rw [Tryz.underlying150]
  refine ⟨rfl, fun j f x hf hx => ?_⟩
  match j, hf, hx with
  | 0, hf, hx => obtain rfl := Option.some.inj hf; obtain rfl := Option.some.inj hx; exact ⟨by decide, rfl, Tryz.underlying3⟩
  | 1, hf, hx => obtain rfl := Option.some.inj hf; obtain rfl := Option.some.inj hx; exact ⟨by decide, rfl, Tryz.underlying9⟩
  | 2, hf, hx => obtain rfl := Option.some.inj hf; obtain rfl := Option.some.inj hx; exact ⟨by decide, rfl, Tryz.underlying9⟩
  | 3, hf, hx => obtain rfl := Option.some.inj hf; obtain rfl := Option.some.inj hx; exact ⟨by decide, rfl, Tryz.underlying9⟩
  | j + 4, hf, hx => cases hx
theorem marked_find (l : List (List KV)) (hl : ∀ k ∈ l, MarkedOk k) (a b : ByteArray) : KeyFind Tryz.prog 226 (encK (markedK a b)) ((numdF l 0).map fun x => (encK x.1, x.2)) (findK (numdF l 0) (markedK a b) 0) := by
  have e : Tryz.prog.underlying 226 = some (.struct (Tryz.prog.fieldsOf 226)) := by unfold Program.fieldsOf; rw [Tryz.underlying226]
  exact keyFind_agg e (by kernel_rfl) _ _ (marked_fits a b) fun x hx => by
    obtain ⟨c, d, e⟩ := hl x.1 (numdF_mem _ _ _ hx)
    rw [e]; exact marked_fits c d
theorem sealed_find (l : List (List KV)) (hl : ∀ k ∈ l, SealedOk k) (n : Int) (a b c : ByteArray) : KeyFind Tryz.prog 150 (encK (sealedK n a b c)) ((numdF l 0).map fun x => (encK x.1, x.2)) (findK (numdF l 0) (sealedK n a b c) 0) := by
  have e : Tryz.prog.underlying 150 = some (.struct (Tryz.prog.fieldsOf 150)) := by unfold Program.fieldsOf; rw [Tryz.underlying150]
  exact keyFind_agg e (by kernel_rfl) _ _ (sealed_fits n a b c) fun x hx => by
    obtain ⟨m, c, d, f, e⟩ := hl x.1 (numdF_mem _ _ _ hx)
    rw [e]; exact sealed_fits m c d f
theorem countE_spec (q : View) (b : Nat) (l : List (List KV)) (hlo : ∀ k ∈ l, SealedOk k) (n : Int) (a c d : ByteArray) (hl : l.length ≤ 1000000) :
    FnD Tryz.prog q 89 [.map (some b), encK (sealedK n a c d)] [mapK b l] (.int .i64 ((cntN l (sealedK n a c d) : Nat) : Int)) [mapK b (cntL l (sealedK n a c d))] := by
  (first | refine FnD.go Tryz.call89 Tryz.func89 rfl rfl rfl ?_ | refine FnX.go Tryz.call89 Tryz.func89 rfl rfl rfl ?_)
  (repeat (first | refine g ?_))
  refine s_box fun r => ?_
  unfold mapK
  have hk := sealed_find l hlo n a c d
  rw [findK_numd] at hk
  unfold cntN cntL
  cases hp : pos l (sealedK n a c d) with
  | some nn =>
    rw [hp] at hk
    have hlt := (pos_lt l (sealedK n a c d) nn hp).1
    simp only [Option.map_some, Nat.zero_add] at hk
    (repeat (first | refine g ?_))
    refine s_look2s hk ?_
    (repeat (first | refine g ?_))
    exact run_ret rfl (imp_RD rfl shut)
  | none =>
    rw [hp] at hk
    simp only [Option.map_none] at hk
    (repeat (first | refine g ?_))
    refine s_look2n hk ?_
    (repeat (first | refine g ?_))
    refine s_lenMap ?_
    rw [List.length_map, numdF_length]
    (repeat (first | refine g ?_))
    refine s_mapNew hk ?_
    (repeat (first | refine g ?_))
    refine run_ret rfl (imp_RD rfl ?_)
    dsimp only
    rw [numdF_snoc, List.map_append]
    exact shut
end Go.Proofs.YtajndpddlpnbkaaGreatDoor.V
/- The ideal vault's methods. -/
namespace Go.Proofs.YtajndpddlpnbkaaGreatDoor.V
open Go.Proofs.YtajndpddlpnbkaaGreatDoor.VL Go.Proofs.YtajndpddlpnbkaaGreatDoor.VL.RD
attribute [local irreducible] Run
structure VSt where
  hs : List ByteArray
  ms : List (List KV)
  es : List (List KV)
structure VOk (n : Nat) (s : VSt) : Prop where
  hs : s.hs.length ≤ n
  ms : s.ms.length ≤ n
  es : s.es.length ≤ n
  mo : ∀ k ∈ s.ms, MarkedOk k
  eo : ∀ k ∈ s.es, SealedOk k
@[reducible] def iParts (i h m e : Nat) (s : VSt) (A : List HProp) : List HProp :=
  cells i 90 ⟨[.map (some h), .map (some m), .map (some e)]⟩ :: mapS h s.hs :: mapK m s.ms :: mapK e s.es :: A
@[reducible] def vParts (v i h m e : Nat) (s : VSt) (A : List HProp) : List HProp :=
  cells v 93 ⟨[.pointer none, .pointer (some ⟨i, 0, none⟩)]⟩ :: iParts i h m e s A
def vaultAt (v : Nat) (s : VSt) : HProp := hex fun x : Nat × Nat × Nat × Nat => star (vParts v x.1 x.2.1 x.2.2.1 x.2.2.2 s [])
section
variable {P : Program} {q : View} {fn : Func} {R : Value → HProp} {k : List It} {σ : Facts} {A B : List HProp} {F : HProp} {v : Nat} {s : VSt}
theorem run_vault (hk : ∀ i h m e, Run P q fn R k σ (vParts v i h m e s A)) : Run P q fn R k σ (vaultAt v s :: A) :=
  run_hex fun x => run_star (hk _ _ _ _)
theorem imp_vault {i h m e : Nat} (hh : Imp F (star (vParts v i h m e s B))) : Imp F (star (vaultAt v s :: B)) := by
  refine imp_ex (i, h, m, e) ?_
  exact imp_star hh
end
theorem ideal_new (q : View) : FnX Tryz.prog q 17 [] [] (fun v : Nat => .pointer (some ⟨v, 0, none⟩)) fun v => [vaultAt v ⟨[], [], []⟩] := by
  (first | refine FnD.go Tryz.call17 Tryz.func17 rfl rfl rfl ?_ | refine FnX.go Tryz.call17 Tryz.func17 rfl rfl rfl ?_)
  (repeat (first | refine g ?_))
  refine s_makeMap fun h => ?_
  (repeat (first | refine g ?_))
  refine s_makeMap fun m => ?_
  (repeat (first | refine g ?_))
  refine s_makeMap fun e => ?_
  (repeat (first | refine g ?_))
  refine s_box fun i => ?_
  (repeat (first | refine g ?_))
  refine s_box fun v => ?_
  (repeat (first | refine g ?_))
  refine run_ret rfl (imp_RX v rfl (imp_vault (i := i) (h := h) (m := m) (e := e) ?_))
  unfold vParts iParts mapS mapK
  exact shut
theorem vnone_spec (q : View) (v i : Nat) : FnD Tryz.prog q 60 [.pointer (some ⟨v, 0, none⟩)] [cells v 93 ⟨[.pointer none, .pointer (some ⟨i, 0, none⟩)]⟩] (.bool false) [cells v 93 ⟨[.pointer none, .pointer (some ⟨i, 0, none⟩)]⟩] := by
  (first | refine FnD.go Tryz.call60 Tryz.func60 rfl rfl rfl ?_ | refine FnX.go Tryz.call60 Tryz.func60 rfl rfl rfl ?_)
  (repeat (first | refine g ?_))
  exact run_ret rfl (imp_RD rfl shut)
end Go.Proofs.YtajndpddlpnbkaaGreatDoor.V
/- Chapter 5's law: cut, the example; VaultHashes. -/
namespace Go.Proofs.YtajndpddlpnbkaaGreatDoor.V
open Go.Proofs.YtajndpddlpnbkaaGreatDoor.VL Go.Proofs.YtajndpddlpnbkaaGreatDoor.VL.RD
attribute [local irreducible] Run
def cutB (s : ByteArray) (n : Nat) : ByteArray := if n < s.size then s.extract 0 n else s
theorem cutB_size (s : ByteArray) (n : Nat) : (cutB s n).size ≤ n := by
  unfold cutB; split
  · rw [ByteArray.size_extract]; omega
  · omega
theorem leb6 (n : Nat) (h : n < 281474976710656) (i : Nat) (hi : i < 6) : (leb n 6)[i]? = some (UInt8.ofNat (n / 256 ^ i % 256)) := by
  unfold leb; rw [List.getElem?_map, List.getElem?_range hi]; rfl
theorem numB_size (n k : Nat) (h : 6 ≤ k) : (numB n k).size = k := by
  show (pad0 (leb n 6) k).toArray.size = k
  rw [List.size_toArray]; unfold pad0
  rw [List.length_append, leb_length, List.length_replicate]; omega
theorem leb_inj (k : Nat) : ∀ (n m : Nat), n < 256 ^ k → m < 256 ^ k → leb n k = leb m k → n = m := by
  have key : ∀ k n, n < 256 ^ k → ((leb n k).map UInt8.toNat).foldr (fun d a => d + 256 * a) 0 = n := by
    intro k
    induction k with
    | zero => intro n h; simp [leb] at *; omega
    | succ k ih =>
      intro n h
      have e : leb n (k + 1) = UInt8.ofNat (n % 256) :: leb (n / 256) k := by
        unfold leb
        rw [List.range_succ_eq_map, List.map_cons, List.map_map]
        congr 1
        · rw [Nat.pow_zero, Nat.div_one]
        · apply List.map_congr_left
          intro j _
          show UInt8.ofNat (n / 256 ^ (j + 1) % 256) = UInt8.ofNat (n / 256 / 256 ^ j % 256)
          rw [Nat.div_div_eq_div_mul, ← Nat.pow_succ']
      rw [e, List.map_cons, List.foldr_cons, ih (n / 256) (by rw [Nat.pow_succ] at h; omega), UInt8.toNat_ofNat']
      omega
  intro n m hn hm h
  rw [← key k n hn, ← key k m hm, h]
theorem numB_inj (n m k : Nat) (hn : n < 281474976710656) (hm : m < 281474976710656) (h : numB n k = numB m k) : n = m := by
  unfold numB at h
  have h := congrArg (fun b : ByteArray => b.data.toList) h
  simp only at h
  unfold pad0 at h
  have h2 := (List.append_inj h (by rw [leb_length, leb_length])).1
  exact leb_inj 6 n m hn hm h2
theorem cnt_le {α : Type} [DecidableEq α] (l : List α) (k : α) : cntN l k ≤ l.length + 1 ∧ (cntL l k).length ≤ l.length + 1 := by
  unfold cntN cntL
  cases hp : pos l k with
  | none => simp
  | some n => have := (pos_lt _ _ _ hp).1; simp only; omega
/-- What the hashes number: of each text its number. -/
theorem pos_snoc {α : Type} [DecidableEq α] (l : List α) (k b : α) : pos (l ++ [b]) k = match pos l k with | some n => some n | none => if k = b then some l.length else none := by
  induction l with
  | nil => rfl
  | cons c l ih =>
    rw [List.cons_append]
    unfold pos
    by_cases h : k = c
    · rw [if_pos h, if_pos h]
    · rw [if_neg h, if_neg h, ih]
      cases pos l k with
      | some n => rfl
      | none => by_cases h2 : k = b <;> simp [h2]
/-- A number that was given stays. -/
theorem pos_cnt {α : Type} [DecidableEq α] (l : List α) (k b : α) (n : Nat) (h : pos l k = some n) : pos (cntL l b) k = some n := by
  unfold cntL
  cases hb : pos l b with
  | some m => exact h
  | none => rw [pos_snoc, h]
theorem pos_new {α : Type} [DecidableEq α] (l : List α) (k : α) : pos (cntL l k) k = some (cntN l k - 1) ∧ 1 ≤ cntN l k := by
  unfold cntL cntN
  cases hb : pos l k with
  | some m => exact ⟨hb, by simp⟩
  | none => exact ⟨by simp only; rw [pos_snoc, hb]; simp, by simp⟩
theorem pos_inj {α : Type} [DecidableEq α] (l : List α) (a b : α) (n : Nat) (ha : pos l a = some n) (hb : pos l b = some n) : a = b := by
  have h1 := (pos_lt _ _ _ ha).2
  have h2 := (pos_lt _ _ _ hb).2
  rw [h1] at h2
  exact Option.some.inj h2
end Go.Proofs.YtajndpddlpnbkaaGreatDoor.V
/- Marks: the ideal vault's Mac and Made; the law VaultMarks. -/
namespace Go.Proofs.YtajndpddlpnbkaaGreatDoor.V
open Go.Proofs.YtajndpddlpnbkaaGreatDoor.VL Go.Proofs.YtajndpddlpnbkaaGreatDoor.VL.RD
attribute [local irreducible] Run
theorem pos_cnt_ne {α : Type} [DecidableEq α] (l : List α) (k b : α) (h : k ≠ b) : pos (cntL l b) k = pos l k := by
  unfold cntL
  cases hb : pos l b with
  | some m => rfl
  | none =>
    show pos (l ++ [b]) k = _
    rw [pos_snoc]
    cases pos l k with
    | some n => rfl
    | none => simp [h]
/-- Was that mark made? -/
def madeF (s : VSt) (l t tg : ByteArray) : Bool := match pos s.ms (markedK l t) with | some n => decide (tg = numB (n + 1) 16) | none => false
end Go.Proofs.YtajndpddlpnbkaaGreatDoor.V
/- The law VaultMarks. -/
namespace Go.Proofs.YtajndpddlpnbkaaGreatDoor.V
open Go.Proofs.YtajndpddlpnbkaaGreatDoor.VL Go.Proofs.YtajndpddlpnbkaaGreatDoor.VL.RD
attribute [local irreducible] Run
/-- A step of a script. -/
structure OpT where
  kind : Int
  salt : Int
  nonce : ByteArray
  label : ByteArray
  text : ByteArray
  tag : ByteArray
def encOp (x : OpT) : List Value := [.int .i64 x.kind, .int .i64 x.salt, .string x.nonce, .string x.label, .string x.text, .string x.tag]
structure OpOk (x : OpT) : Prop where
  k0 : -9223372036854775808 ≤ x.kind
  k1 : x.kind ≤ 9223372036854775807
  s0 : -9223372036854775808 ≤ x.salt
  s1 : x.salt ≤ 9223372036854775807
  n : x.nonce.size ≤ 9223372036854775807
  l : x.label.size ≤ 9223372036854775807
  t : x.text.size ≤ 9223372036854775807
  g : x.tag.size ≤ 9223372036854775807
def OpsQ (q : View) (p : Option Addr) (l : List OpT) : Prop := RowQ q p l.length 6 (l.flatMap encOp) ∧ ∀ x ∈ l, OpOk x
theorem enc6 (l : List OpT) (i : Nat) (x : OpT) (h : l[i]? = some x) (j : Nat) (hj : j < 6) : (l.flatMap encOp)[i * 6 + j]? = (encOp x)[j]? := by
  induction l generalizing i with
  | nil => cases h
  | cons y l ih =>
    rw [List.flatMap_cons]
    have e5 : (encOp y).length = 6 := rfl
    cases i with
    | zero =>
      obtain rfl := Option.some.inj h
      rw [List.getElem?_append_left (by omega)]; congr 1; omega
    | succ i =>
      rw [List.getElem?_append_right (by omega), e5, show (i + 1) * 6 + j - 6 = i * 6 + j by omega]
      exact ih i h
theorem enc6_len (l : List OpT) : (l.flatMap encOp).length = l.length * 6 := by
  induction l with
  | nil => rfl
  | cons y l ih => rw [List.flatMap_cons, List.length_append, ih, List.length_cons]; show 6 + _ = _; omega
theorem enc6_all (l : List OpT) (i : Nat) (x : OpT) (h : l[i]? = some x) : ((l.flatMap encOp).drop (i * 6)).take 6 = encOp x := by
  apply List.ext_getElem?
  intro j
  rw [List.getElem?_take, List.getElem?_drop]
  split
  · rename_i hj; exact enc6 l i x h j hj
  · rename_i hj; rw [List.getElem?_eq_none]; show 6 ≤ j; omega
theorem OpsQ.at {q : View} {p : Option Addr} {l : List OpT} (h : OpsQ q p l) (i : Nat) (hi : i < l.length) : ∃ x b o, l[i]? = some x ∧ OpOk x ∧ p = some ⟨b, o, none⟩ ∧ Old q b o (l.flatMap encOp) ∧ ((l.flatMap encOp).drop (i * 6)).take 6 = encOp x ∧ i * 6 + 6 ≤ (l.flatMap encOp).length := by
  obtain ⟨x, hx⟩ : ∃ x, l[i]? = some x := ⟨_, List.getElem?_eq_getElem hi⟩
  obtain ⟨b, o, ep, ho⟩ := h.1.old (by omega)
  exact ⟨x, b, o, hx, h.2 x (List.mem_of_getElem? hx), ep, ho, enc6_all l i x hx, by rw [enc6_len]; omega⟩
theorem marked_inj {a b c d : ByteArray} (h : markedK a b = markedK c d) : a = c ∧ b = d := by
  unfold markedK at h
  simp at h
  exact h
theorem made_mac (s : VSt) (l t a b tg : ByteArray) : madeF { s with ms := cntL s.ms (markedK l t) } a b tg = (madeF s a b tg || (decide (l = a) && decide (t = b) && decide (numB (cntN s.ms (markedK l t)) 16 = tg))) := by
  unfold madeF
  dsimp only
  by_cases h : l = a ∧ t = b
  · obtain ⟨rfl, rfl⟩ := h
    have hp := pos_new s.ms (markedK l t)
    rw [hp.1]
    have e : cntN s.ms (markedK l t) - 1 + 1 = cntN s.ms (markedK l t) := by omega
    dsimp only
    rw [e]
    cases h0 : pos s.ms (markedK l t) with
    | none => simp [eq_comm]
    | some n =>
      have : cntN s.ms (markedK l t) = n + 1 := by unfold cntN; rw [h0]
      rw [this]
      by_cases h1 : tg = numB (n + 1) 16
      · simp [h1]
      · simp [h1, Ne.symm h1]
  · rw [pos_cnt_ne _ _ _ (fun e => h ⟨(marked_inj e).1.symm, (marked_inj e).2.symm⟩)]
    have : (decide (l = a) && decide (t = b)) = false := by
      by_cases h1 : l = a
      · rw [decide_eq_false (fun h2 => h ⟨h1, h2⟩)]; simp
      · rw [decide_eq_false h1]; simp
    rw [this]; simp
theorem made_self (s : VSt) (l t : ByteArray) : madeF { s with ms := cntL s.ms (markedK l t) } l t (numB (cntN s.ms (markedK l t)) 16) = true := by
  rw [made_mac]; simp
theorem VOk.mac {n : Nat} {s : VSt} (h : VOk n s) (l t : ByteArray) : VOk (n + 1) { s with ms := cntL s.ms (markedK l t) } := by
  have hc := (cnt_le s.ms (markedK l t)).2
  have hm := h.ms
  refine ⟨Nat.le_succ_of_le h.hs, by show (cntL s.ms (markedK l t)).length ≤ _; omega, Nat.le_succ_of_le h.es, ?_, h.eo⟩
  intro k hk
  have hk : k ∈ cntL s.ms (markedK l t) := hk
  unfold cntL at hk
  split at hk
  · exact h.mo k hk
  · rcases List.mem_append.1 hk with hk | hk
    · exact h.mo k hk
    · obtain rfl : k = markedK l t := by simpa using hk
      exact ⟨l, t, rfl⟩
theorem VOk.mono {n m : Nat} {s : VSt} (h : VOk n s) (hm : n ≤ m) : VOk m s := ⟨Nat.le_trans h.hs hm, Nat.le_trans h.ms hm, Nat.le_trans h.es hm, h.mo, h.eo⟩
end Go.Proofs.YtajndpddlpnbkaaGreatDoor.V
/- Seals: the ideal vault's Seal and Open. -/
namespace Go.Proofs.YtajndpddlpnbkaaGreatDoor.V
open Go.Proofs.YtajndpddlpnbkaaGreatDoor.VL Go.Proofs.YtajndpddlpnbkaaGreatDoor.VL.RD
attribute [local irreducible] Run numB
theorem iseal_spec (q : View) (i h m e : Nat) (s : VSt) (hs : VOk 1000000 s) (n : Int) (no ad t : ByteArray) (ht : t.size ≤ 1000000) :
    FnD Tryz.prog q 71 [.pointer (some ⟨i, 0, none⟩), .int .i64 n, .string no, .string ad, .string t] (iParts i h m e s []) (.string (t ++ numB (cntN s.es (sealedK n no ad t)) 16)) (iParts i h m e { s with es := cntL s.es (sealedK n no ad t) } []) := by
  have hc := (cnt_le s.es (sealedK n no ad t)).1
  have hl := hs.es
  have hz := numB_size (cntN s.es (sealedK n no ad t)) 16 (by decide)
  (first | refine FnD.go Tryz.call71 Tryz.func71 rfl rfl rfl ?_ | refine FnX.go Tryz.call71 Tryz.func71 rfl rfl rfl ?_)
  unfold iParts
  (repeat (first | refine g ?_))
  refine s_call (countE_spec q e s.es hs.eo n no ad t (by omega)) ?_
  (repeat (first | refine g ?_))
  refine s_call (numbered_spec q (cntN s.es (sealedK n no ad t)) 16 (by omega) (by omega) (by omega)) ?_
  (repeat (first | refine g ?_))
  exact run_ret rfl (imp_RD rfl shut)
def wrongF (n : Int) (no : ByteArray) : Bool := decide (n < 0 ∨ 281474976710656 ≤ n ∨ no.size ≠ 12)
theorem vwrong_spec (q : View) (n : Int) (no : ByteArray) : FnD Tryz.prog q 61 [.int .i64 n, .string no] [] (.bool (wrongF n no)) [] := by
  unfold wrongF
  (first | refine FnD.go Tryz.call61 Tryz.func61 rfl rfl rfl ?_ | refine FnX.go Tryz.call61 Tryz.func61 rfl rfl rfl ?_)
  by_cases h0 : n < 0
  · rw [decide_eq_true (.inl h0)]
    (repeat (first | refine g ?_))
    exact run_ret rfl (imp_RD rfl shut)
  by_cases h1 : 281474976710656 ≤ n
  · rw [decide_eq_true (.inr (.inl h1))]
    (repeat (first | refine g ?_))
    exact run_ret rfl (imp_RD rfl shut)
  · have e : decide (n < 0 ∨ 281474976710656 ≤ n ∨ no.size ≠ 12) = decide ((no.size : Int) ≠ 12) := by rw [decide_eq_decide]; omega
    rw [e]
    (repeat (first | refine g ?_))
    exact run_ret rfl (imp_RD rfl shut)
def sealF (s : VSt) (n : Int) (no ad t : ByteArray) : (ByteArray × Int) × VSt := if wrongF n no = true then ((⟨#[]⟩, 1), s) else ((t ++ numB (cntN s.es (sealedK n no ad t)) 16, 0), { s with es := cntL s.es (sealedK n no ad t) })
theorem seal_spec (q : View) (v : Nat) (s : VSt) (hs : VOk 1000000 s) (n : Int) (no ad t : ByteArray) (ht : t.size ≤ 1000000) :
    FnD Tryz.prog q 46 [.pointer (some ⟨v, 0, none⟩), .int .i64 n, .string no, .string ad, .string t] [vaultAt v s] (.tuple #[.string (sealF s n no ad t).1.1, .int .i64 (sealF s n no ad t).1.2]) [vaultAt v (sealF s n no ad t).2] := by
  unfold sealF
  (first | refine FnD.go Tryz.call46 Tryz.func46 rfl rfl rfl ?_ | refine FnX.go Tryz.call46 Tryz.func46 rfl rfl rfl ?_)
  refine run_vault fun i h m e => ?_
  unfold vParts iParts
  (repeat (first | refine g ?_))
  refine s_call (vnone_spec q v i) ?_
  (repeat (first | refine g ?_))
  have cw := vwrong_spec q n no
  cases hw : wrongF n no with
  | true =>
    rw [hw] at cw
    refine s_call cw ?_
    (repeat (first | refine g ?_))
    exact run_ret rfl (imp_RD rfl (imp_vault shut))
  | false =>
    rw [hw] at cw
    refine s_call cw ?_
    (repeat (first | refine g ?_))
    refine s_call (iseal_spec q i h m e s hs n no ad t ht) ?_
    (repeat (first | refine g ?_))
    exact run_ret rfl (imp_RD rfl (imp_vault shut))
def iopenF (s : VSt) (n : Int) (no ad t : ByteArray) : ByteArray × Int :=
  match pos s.es (sealedK n no ad (t.extract 0 (t.size - 16))) with
  | some m => if t.extract (t.size - 16) t.size = numB (m + 1) 16 then (t.extract 0 (t.size - 16), 0) else (⟨#[]⟩, 10)
  | none => (⟨#[]⟩, 10)
set_option maxHeartbeats 1000000 in
theorem iopen_spec (q : View) (i h m e : Nat) (s : VSt) (hs : VOk 1000000 s) (n : Int) (no ad t : ByteArray) (h16 : 16 ≤ t.size) (ht : t.size ≤ 1000000) :
    FnD Tryz.prog q 62 [.pointer (some ⟨i, 0, none⟩), .int .i64 n, .string no, .string ad, .string t] (iParts i h m e s []) (.tuple #[.string (iopenF s n no ad t).1, .int .i64 (iopenF s n no ad t).2]) (iParts i h m e s []) := by
  have hl := hs.es
  have hk := sealed_find s.es hs.eo n no ad (t.extract 0 (t.size - 16))
  rw [findK_numd] at hk
  unfold iopenF
  have e1 : t.extract (0 : Int).toNat ((t.size : Int) - 16).toNat = t.extract 0 (t.size - 16) := by rw [show (0 : Int).toNat = 0 from rfl, show ((t.size : Int) - 16).toNat = t.size - 16 by omega]
  have e2 : t.extract ((t.size : Int) - 16).toNat (t.size : Int).toNat = t.extract (t.size - 16) t.size := by rw [Int.toNat_natCast, show ((t.size : Int) - 16).toNat = t.size - 16 by omega]
  (first | refine FnD.go Tryz.call62 Tryz.func62 rfl rfl rfl ?_ | refine FnX.go Tryz.call62 Tryz.func62 rfl rfl rfl ?_)
  unfold iParts mapK
  (repeat (first | refine g ?_ | refine s_flat 2 [(.pure, [0, 1, 2, 4, 5, 6, 7, 8, 9, 10]), (.mem true, [3, 11]), (.pure, [12, 13, 14, 15, 16])] ?_ | refine s_flat 3 [(.pure, [0, 1, 2, 3, 4, 5, 6]), (.mem false, [7]), (.pure, [8, 9])] ?_))
  rw [e1]
  (repeat (first | refine g ?_ | refine s_flat 2 [(.pure, [0, 1, 2, 4, 5, 6, 7, 8, 9, 10]), (.mem true, [3, 11]), (.pure, [12, 13, 14, 15, 16])] ?_ | refine s_flat 3 [(.pure, [0, 1, 2, 3, 4, 5, 6]), (.mem false, [7]), (.pure, [8, 9])] ?_))
  cases hp : pos s.es (sealedK n no ad (t.extract 0 (t.size - 16))) with
  | some mm =>
    rw [hp] at hk
    have hlt := (pos_lt s.es _ mm hp).1
    simp only [Option.map_some, Nat.zero_add] at hk
    dsimp only
    refine s_look2s (k := encK (sealedK n no ad (t.extract 0 (t.size - 16)))) hk ?_
    by_cases hn : t.extract (t.size - 16) t.size = numB (mm + 1) 16
    · rw [if_pos hn]
      (repeat (first | refine g ?_ | refine s_flat 2 [(.pure, [0, 1, 2, 4, 5, 6, 7, 8, 9, 10]), (.mem true, [3, 11]), (.pure, [12, 13, 14, 15, 16])] ?_ | refine s_flat 3 [(.pure, [0, 1, 2, 3, 4, 5, 6]), (.mem false, [7]), (.pure, [8, 9])] ?_))
      rw [e2]
      (repeat (first | refine g ?_ | refine s_flat 2 [(.pure, [0, 1, 2, 4, 5, 6, 7, 8, 9, 10]), (.mem true, [3, 11]), (.pure, [12, 13, 14, 15, 16])] ?_ | refine s_flat 3 [(.pure, [0, 1, 2, 3, 4, 5, 6]), (.mem false, [7]), (.pure, [8, 9])] ?_))
      refine s_call (numbered_spec q (mm + 1) 16 (by omega) (by omega) (by omega)) ?_
      have hx : ¬ (t.extract (t.size - 16) t.size ≠ numB (mm + 1) 16) := fun h => h hn
      (repeat (first | refine g ?_ | refine s_flat 2 [(.pure, [0, 1, 2, 4, 5, 6, 7, 8, 9, 10]), (.mem true, [3, 11]), (.pure, [12, 13, 14, 15, 16])] ?_ | refine s_flat 3 [(.pure, [0, 1, 2, 3, 4, 5, 6]), (.mem false, [7]), (.pure, [8, 9])] ?_))
      rw [e1]
      (repeat (first | refine g ?_ | refine s_flat 2 [(.pure, [0, 1, 2, 4, 5, 6, 7, 8, 9, 10]), (.mem true, [3, 11]), (.pure, [12, 13, 14, 15, 16])] ?_ | refine s_flat 3 [(.pure, [0, 1, 2, 3, 4, 5, 6]), (.mem false, [7]), (.pure, [8, 9])] ?_))
      exact run_ret rfl (imp_RD rfl shut)
    · rw [if_neg hn]
      have hx : t.extract (t.size - 16) t.size ≠ numB (mm + 1) 16 := hn
      (repeat (first | refine g ?_ | refine s_flat 2 [(.pure, [0, 1, 2, 4, 5, 6, 7, 8, 9, 10]), (.mem true, [3, 11]), (.pure, [12, 13, 14, 15, 16])] ?_ | refine s_flat 3 [(.pure, [0, 1, 2, 3, 4, 5, 6]), (.mem false, [7]), (.pure, [8, 9])] ?_))
      rw [e2]
      (repeat (first | refine g ?_ | refine s_flat 2 [(.pure, [0, 1, 2, 4, 5, 6, 7, 8, 9, 10]), (.mem true, [3, 11]), (.pure, [12, 13, 14, 15, 16])] ?_ | refine s_flat 3 [(.pure, [0, 1, 2, 3, 4, 5, 6]), (.mem false, [7]), (.pure, [8, 9])] ?_))
      refine s_call (numbered_spec q (mm + 1) 16 (by omega) (by omega) (by omega)) ?_
      (repeat (first | refine g ?_ | refine s_flat 2 [(.pure, [0, 1, 2, 4, 5, 6, 7, 8, 9, 10]), (.mem true, [3, 11]), (.pure, [12, 13, 14, 15, 16])] ?_ | refine s_flat 3 [(.pure, [0, 1, 2, 3, 4, 5, 6]), (.mem false, [7]), (.pure, [8, 9])] ?_))
      exact run_ret rfl (imp_RD rfl shut)
  | none =>
    rw [hp] at hk
    simp only [Option.map_none] at hk
    dsimp only
    refine s_look2n (k := encK (sealedK n no ad (t.extract 0 (t.size - 16)))) hk ?_
    (repeat (first | refine g ?_ | refine s_flat 2 [(.pure, [0, 1, 2, 4, 5, 6, 7, 8, 9, 10]), (.mem true, [3, 11]), (.pure, [12, 13, 14, 15, 16])] ?_ | refine s_flat 3 [(.pure, [0, 1, 2, 3, 4, 5, 6]), (.mem false, [7]), (.pure, [8, 9])] ?_))
    exact run_ret rfl (imp_RD rfl shut)
end Go.Proofs.YtajndpddlpnbkaaGreatDoor.V
/- Open of the ideal vault. -/
namespace Go.Proofs.YtajndpddlpnbkaaGreatDoor.V
open Go.Proofs.YtajndpddlpnbkaaGreatDoor.VL Go.Proofs.YtajndpddlpnbkaaGreatDoor.VL.RD
attribute [local irreducible] Run numB
def openF (s : VSt) (n : Int) (no ad t : ByteArray) : ByteArray × Int := if wrongF n no = true then (⟨#[]⟩, 1) else if t.size < 16 then (⟨#[]⟩, 3) else iopenF s n no ad t
theorem open_spec (q : View) (v : Nat) (s : VSt) (hs : VOk 1000000 s) (n : Int) (no ad t : ByteArray) (ht : t.size ≤ 1000000) :
    FnD Tryz.prog q 40 [.pointer (some ⟨v, 0, none⟩), .int .i64 n, .string no, .string ad, .string t] [vaultAt v s] (.tuple #[.string (openF s n no ad t).1, .int .i64 (openF s n no ad t).2]) [vaultAt v s] := by
  unfold openF
  (first | refine FnD.go Tryz.call40 Tryz.func40 rfl rfl rfl ?_ | refine FnX.go Tryz.call40 Tryz.func40 rfl rfl rfl ?_)
  refine run_vault fun i h m e => ?_
  unfold vParts iParts
  (repeat (first | refine g ?_))
  refine s_call (vnone_spec q v i) ?_
  (repeat (first | refine g ?_))
  have cw := vwrong_spec q n no
  cases hw : wrongF n no with
  | true =>
    rw [hw] at cw
    refine s_call cw ?_
    (repeat (first | refine g ?_))
    exact run_ret rfl (imp_RD rfl (imp_vault shut))
  | false =>
    rw [hw] at cw
    refine s_call cw ?_
    by_cases h16 : t.size < 16
    · rw [if_neg (by decide), if_pos h16]
      (repeat (first | refine g ?_))
      exact run_ret rfl (imp_RD rfl (imp_vault shut))
    · rw [if_neg (by decide), if_neg h16]
      have c := iopen_spec q i h m e s hs n no ad t (by omega) ht
      (repeat (first | refine g ?_))
      refine s_call c ?_
      (repeat (first | refine g ?_))
      exact run_ret rfl (imp_RD rfl (imp_vault shut))
end Go.Proofs.YtajndpddlpnbkaaGreatDoor.V
/- The document's numbers as bytes: ref01.Put, Noughts, ref05.numbered. -/
namespace Go.Proofs.YtajndpddlpnbkaaGreatDoor.V
open Go.Proofs.YtajndpddlpnbkaaGreatDoor.VL Go.Proofs.YtajndpddlpnbkaaGreatDoor.VL.RD
attribute [local irreducible] Run
end Go.Proofs.YtajndpddlpnbkaaGreatDoor.V
/- The law VaultHonest. -/
namespace Go.Proofs.YtajndpddlpnbkaaGreatDoor.V
open Go.Proofs.YtajndpddlpnbkaaGreatDoor.VL Go.Proofs.YtajndpddlpnbkaaGreatDoor.VL.RD
attribute [local irreducible] Run numB
theorem open_ok (s : VSt) (n : Int) (no ad x : ByteArray) : (openF s n no ad x).2 = 0 ↔ wrongF n no = false ∧ 16 ≤ x.size ∧ ∃ m, pos s.es (sealedK n no ad (x.extract 0 (x.size - 16))) = some m ∧ x.extract (x.size - 16) x.size = numB (m + 1) 16 := by
  unfold openF
  by_cases hw : wrongF n no = true
  · rw [if_pos hw, hw]; simp
  have hw' : wrongF n no = false := by simpa using hw
  rw [if_neg hw, hw']
  by_cases h16 : x.size < 16
  · rw [if_pos h16]
    constructor
    · intro h; simp at h
    · intro ⟨_, h, _⟩; omega
  rw [if_neg h16]
  unfold iopenF
  cases hp : pos s.es (sealedK n no ad (x.extract 0 (x.size - 16))) with
  | none => simp
  | some m =>
    by_cases hn : x.extract (x.size - 16) x.size = numB (m + 1) 16
    · simp [hn]; omega
    · simp [hn]
theorem split16 (x : ByteArray) (h : 16 ≤ x.size) : x.extract 0 (x.size - 16) ++ x.extract (x.size - 16) x.size = x := by
  rw [ByteArray.extract_append_extract, show min 0 (x.size - 16) = 0 by omega, show max (x.size - 16) x.size = x.size by omega, ByteArray.extract_zero_size]
theorem sealed_inj {n m : Int} {a b c d e f : ByteArray} (h : sealedK n a b c = sealedK m d e f) : n = m ∧ a = d ∧ b = e ∧ c = f := by
  unfold sealedK at h
  simp at h
  exact h
theorem app16 (t w : ByteArray) (hw : w.size = 16) : (t ++ w).size = t.size + 16 ∧ (t ++ w).extract 0 ((t ++ w).size - 16) = t ∧ (t ++ w).extract ((t ++ w).size - 16) (t ++ w).size = w := by
  have hs : (t ++ w).size = t.size + 16 := by rw [ByteArray.size_append, hw]
  refine ⟨hs, ?_, ?_⟩
  · rw [hs, show t.size + 16 - 16 = t.size by omega, ByteArray.extract_append]
    rw [show 0 - t.size = 0 by omega, show t.size - t.size = 0 by omega]
    simp
  · rw [hs, show t.size + 16 - 16 = t.size by omega, ByteArray.extract_append]
    rw [show t.size - t.size = 0 by omega, show t.size + 16 - t.size = 16 by omega, ← hw]
    rw [show t.extract t.size (t.size + w.size) = ⟨#[]⟩ from ByteArray.extract_eq_empty_iff.2 (by omega)]
    simp only [ByteArray.extract_zero_size]
    exact ByteArray.empty_append
def okF (s : VSt) (n : Int) (no ad x : ByteArray) : Bool := decide ((openF s n no ad x).2 = 0)
theorem open_seal (s : VSt) (n : Int) (no ad t : ByteArray) (hw : wrongF n no = false) (n2 : Int) (no2 ad2 x : ByteArray) :
    okF { s with es := cntL s.es (sealedK n no ad t) } n2 no2 ad2 x = (okF s n2 no2 ad2 x || (decide (n = n2) && (decide (no = no2) && (decide (ad = ad2) && decide (t ++ numB (cntN s.es (sealedK n no ad t)) 16 = x))))) := by
  have hz := numB_size (cntN s.es (sealedK n no ad t)) 16 (by decide)
  unfold okF
  rw [Bool.eq_iff_iff]
  simp only [Bool.or_eq_true, Bool.and_eq_true, decide_eq_true_eq]
  rw [open_ok, open_ok]
  dsimp only
  by_cases hk : sealedK n2 no2 ad2 (x.extract 0 (x.size - 16)) = sealedK n no ad t
  · obtain ⟨rfl, rfl, rfl, e4⟩ := sealed_inj hk
    rw [e4]
    have hp := pos_new s.es (sealedK n2 no2 ad2 t)
    rw [hp.1]
    have e : cntN s.es (sealedK n2 no2 ad2 t) - 1 + 1 = cntN s.es (sealedK n2 no2 ad2 t) := by omega
    constructor
    · intro ⟨_, h16, m, hm, hx⟩
      obtain rfl := Option.some.inj hm
      rw [e] at hx
      refine .inr ⟨rfl, rfl, rfl, ?_⟩
      rw [← hx, ← e4, split16 x h16]
    · intro h
      rcases h with ⟨_, h16, m, hm, hx⟩ | ⟨_, _, _, hx⟩
      · refine ⟨hw, h16, _, rfl, ?_⟩
        have : cntN s.es (sealedK n2 no2 ad2 t) = m + 1 := by unfold cntN; rw [hm]
        rw [e, this, hx]
      · have ha := app16 t _ hz
        rw [hx] at ha
        exact ⟨hw, by omega, _, rfl, by rw [e, ha.2.2]⟩
  · rw [pos_cnt_ne _ _ _ hk]
    constructor
    · intro h; exact .inl h
    · intro h
      rcases h with h | ⟨rfl, rfl, rfl, hx⟩
      · exact h
      · have ha := app16 t _ hz
        rw [hx] at ha
        exact absurd (by rw [ha.2.1]) hk
theorem open_self (s : VSt) (n : Int) (no ad t : ByteArray) (hw : wrongF n no = false) :
    openF { s with es := cntL s.es (sealedK n no ad t) } n no ad (t ++ numB (cntN s.es (sealedK n no ad t)) 16) = (t, 0) := by
  have hz := numB_size (cntN s.es (sealedK n no ad t)) 16 (by decide)
  obtain ⟨h1, h2, h3⟩ := app16 t _ hz
  unfold openF
  rw [hw, if_neg (by decide), if_neg (by omega)]
  unfold iopenF
  rw [h2, h3]
  have hp := pos_new s.es (sealedK n no ad t)
  dsimp only
  rw [hp.1]
  dsimp only
  rw [if_pos (by congr 1; omega)]
end Go.Proofs.YtajndpddlpnbkaaGreatDoor.V
