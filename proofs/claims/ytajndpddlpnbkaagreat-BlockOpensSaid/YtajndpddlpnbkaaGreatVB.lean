/- The walk's rules on words and bytes for this seat's program. -/
import Derived.Test.YtajndpddlpnbkaaGreatVA
import Derived.Test.YtajndpddlpnbkaaGreatVLc
set_option maxRecDepth 10000
set_option linter.unusedVariables false
namespace Go.Proofs.YtajndpddlpnbkaaGreat.V
open Go.Proofs.YtajndpddlpnbkaaGreat.VL Go.Proofs.YtajndpddlpnbkaaGreat.VL.View Go.RowKit
section
variable {q : View} {fn : Func} {R : Value → HProp} {k kt : List It} {σ σ' : Facts} {A A' L : List HProp} {f : HProp → List HProp} {st : Bool} {md : Md} {ds : List (Option Tmp)} {os : List SOp} {dst : Option Tmp} {type : TypeId} {gd : Option (Nat × Bool)}
theorem s_w8 {_ : DS} {op : BinOp} {t yt : Nat} {x y : Operand} {u v r : UInt8}  (hkk : Run Tryz.prog q fn R (.ops (md) ds os :: kt) σ' A) (hg : guardOf σ ds gd = some true := by exact rfl) (hx : ev σ x = some (.int .u8 (u.toNat : Int)) := by exact rfl) (hy : ev σ y = some (.int .u8 (v.toNat : Int)) := by exact rfl) (h : bitB op u v = some r := by exact rfl) (hp : putF fn.ntmps dst (.int .u8 (r.toNat : Int)) σ = some σ' := by exact rfl) : Run Tryz.prog q fn R (.ops (md) ds (⟨dst, .binOp op t x y yt, type, gd⟩ :: os) :: kt) σ A :=
  w_w8 (hg := hg) (hx := hx) (hy := hy) (h := h) (hp := hp) (hkk := hkk)
theorem s_ceq {_ : DS} (b : Nat) {t : TypeId} {xs : List Value} (ys : List Value) (e : xs = ys) (hk : Run Tryz.prog q fn R k σ (f (cells b t ⟨ys⟩))) (hA : At A (cells b t ⟨xs⟩) f := by repeat (first | (with_reducible exact At.head) | apply At.tail)) : Run Tryz.prog q fn R k σ A := run_ceq b ys e hk hA
variable {S : List HProp} {ops : Array Oper} {mm : Nat} {listed : Array Bool} {pos : String} {after : Array Edge}
theorem s_to {_ : DS} (t : Nat) {v w : Value} (e : v = w) (h : Run Tryz.prog q fn R k σ' A) (hl : lookup σ t = some v := by exact rfl) (h1 : putF fn.ntmps (some t) w σ = some σ' := by exact rfl) : Run Tryz.prog q fn R k σ A := run_to t e hl h1 h
end
end Go.Proofs.YtajndpddlpnbkaaGreat.V
