/- The walk's rules on words and bytes for this seat's program. -/
import Derived.Test.YtajndpddlpnbkaaGreatDoorVA
import Derived.Test.YtajndpddlpnbkaaGreatDoorVLc
set_option maxRecDepth 10000
set_option linter.unusedVariables false
namespace Go.Proofs.YtajndpddlpnbkaaGreatDoor.V
open Go.Proofs.YtajndpddlpnbkaaGreatDoor.VL Go.Proofs.YtajndpddlpnbkaaGreatDoor.VL.View Go.RowKit
section
variable {q : View} {fn : Func} {R : Value → HProp} {k kt : List It} {σ σ' : Facts} {A A' L : List HProp} {f : HProp → List HProp} {st : Bool} {md : Md} {ds : List (Option Tmp)} {os : List SOp} {dst : Option Tmp} {type : TypeId} {gd : Option (Nat × Bool)}
theorem s_ceq {_ : DS} (b : Nat) {t : TypeId} {xs : List Value} (ys : List Value) (e : xs = ys) (hk : Run Tryz.prog q fn R k σ (f (cells b t ⟨ys⟩))) (hA : At A (cells b t ⟨xs⟩) f := by repeat (first | (with_reducible exact At.head) | apply At.tail)) : Run Tryz.prog q fn R k σ A := run_ceq b ys e hk hA
variable {S : List HProp} {ops : Array Oper} {mm : Nat} {listed : Array Bool} {pos : String} {after : Array Edge}
theorem s_to {_ : DS} (t : Nat) {v w : Value} (e : v = w) (h : Run Tryz.prog q fn R k σ' A) (hl : lookup σ t = some v := by exact rfl) (h1 : putF fn.ntmps (some t) w σ = some σ' := by exact rfl) : Run Tryz.prog q fn R k σ A := run_to t e hl h1 h
end
end Go.Proofs.YtajndpddlpnbkaaGreatDoor.V
