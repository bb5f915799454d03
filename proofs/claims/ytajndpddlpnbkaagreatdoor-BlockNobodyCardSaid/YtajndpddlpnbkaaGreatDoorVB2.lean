/- More rules of the walk: all of a block as a value, a slice of bytes as a text, inside a drawn region. -/
import Derived.Test.YtajndpddlpnbkaaGreatDoorVB
set_option maxRecDepth 10000
set_option linter.unusedVariables false
namespace Go.Proofs.YtajndpddlpnbkaaGreatDoor.V
open Go.Proofs.YtajndpddlpnbkaaGreatDoor.VL Go.Proofs.YtajndpddlpnbkaaGreatDoor.VL.View Go.RowKit
section
variable {q : View} {fn : Func} {R : Value → HProp} {k kt : List It} {σ σ' : Facts} {A A' L : List HProp} {f : HProp → List HProp} {dst : Option Tmp} {type : TypeId} {gd : Option (Nat × Bool)} {S : List HProp} {ops : Array Oper} {mm : Nat} {listed : Array Bool} {pos : String} {after : Array Edge}
theorem op_getall [DS] {P : Program} {T : Nat → Option TyI} {n : Nat} (hT : TabOk P T) {t : Nat} {x : Operand} {b : Nat} {ti : TyI} {tc : TypeId} {l : List Value} (hx : ev σ x = some (.pointer (some ⟨b, 0, none⟩))) (ht : T t = some ti) (ha : isAggD ti.und = true) (hA : At A (cells b tc ⟨l⟩) f) (hz : l.length = ti.size) :
    OpQ P q n σ (.load t x) A (.agg ⟨l⟩) := by
  have := op_load_agg (P := P) (q := q) (n := n) hT hx ht ha hA (by show 0 + ti.size ≤ l.toArray.size; simp; omega)
  have e : (⟨l⟩ : Array Value).extract 0 (0 + ti.size) = ⟨l⟩ := by
    apply Array.ext'
    simp
    rw [← hz, List.take_length]
  rw [e] at this
  exact this
theorem d_getall {_ : DS} (ii : Nat) {t : Nat} {x : Operand} {b : Nat} {ti : TyI} {tc : TypeId} {l : List Value} (hz : l.length = ti.size) (hkk : RunA Tryz.prog q fn R kt ops mm (listed.setIfInBounds ii true) S σ' A) (zi : nthG ops.toList ii = some ⟨dst, .load t x, type, pos, after, gd⟩ := by exact rfl) (zn : Region.noSelect ops = true := by kernel_rfl) (zf : Region.free .any ops listed ii = true := by kernel_rfl) (zr : (Region.ready .any ops listed).contains ii = true := by kernel_rfl) (zg : guardOf σ (ops.toList.map (·.dst)) gd = some true := by exact rfl) (hx : ev σ x = some (.pointer (some ⟨b, 0, none⟩)) := by exact rfl) (ht : lookupT tab t = some ti := by exact rfl) (ha : isAggD ti.und = true := by exact rfl) (hA : At S (cells b tc ⟨l⟩) f := by (repeat (first | (with_reducible exact At.head) | apply At.tail))) (hp : putF fn.ntmps dst (.agg ⟨l⟩) σ = some σ' := by exact rfl) : RunA Tryz.prog q fn R kt ops (mm + 1) listed S σ A :=
  any_look ii (nthG_arr zi) zn zf zr zg (op_getall tabOk hx ht ha hA hz) hp hkk
theorem d_strs {_ : DS} (ii : Nat) {src dt e : Nat} {x : Operand} {si di ei : TyI} {p : Option Addr} {m cap : Nat} {l : List UInt8} (hkk : RunA Tryz.prog q fn R kt ops mm (listed.setIfInBounds ii true) S σ' A) (zi : nthG ops.toList ii = some ⟨dst, .convert src dt x, type, pos, after, gd⟩ := by exact rfl) (zn : Region.noSelect ops = true := by kernel_rfl) (zf : Region.free .any ops listed ii = true := by kernel_rfl) (zr : (Region.ready .any ops listed).contains ii = true := by kernel_rfl) (zg : guardOf σ (ops.toList.map (·.dst)) gd = some true := by exact rfl) (hs : lookupT tab src = some si := by exact rfl) (hsu : si.und = .slice e := by exact rfl) (hd : lookupT tab dt = some di := by exact rfl) (hdu : di.und = .string := by exact rfl) (he : lookupT tab e = some ei := by exact rfl) (heu : ei.und = .int .u8 := by exact rfl) (hx : ev σ x = some (.slice p m cap) := by exact rfl) (hA : At S (sl p m cap e 1 (bv l)) f := by (repeat (first | (with_reducible exact At.head) | apply At.tail))) (hp : putF fn.ntmps dst (.string ⟨l.toArray⟩) σ = some σ' := by exact rfl) : RunA Tryz.prog q fn R kt ops (mm + 1) listed S σ A :=
  any_look ii (nthG_arr zi) zn zf zr zg (op_string tabOk hs hsu hd hdu he heu hx hA) hp hkk
end
end Go.Proofs.YtajndpddlpnbkaaGreatDoor.V
