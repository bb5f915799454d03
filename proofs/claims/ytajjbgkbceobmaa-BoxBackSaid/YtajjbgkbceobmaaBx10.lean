/- Words and walks for the row that is claimed: what it needs of them. -/
import Derived.Test.YtajjbgkbceobmaaBx0
import Derived.Test.YtajjbgkbceobmaaBx1
import Derived.Test.YtajjbgkbceobmaaBx4
import Derived.Test.YtajjbgkbceobmaaBx5
import Derived.Test.YtajjbgkbceobmaaBx7
import Derived.Test.YtajjbgkbceobmaaBx8
import Derived.Test.YtajjbgkbceobmaaBx9
namespace Go.Proofs.Ytajjbgkbceobmaa.B
open Go.RowKit Go.Proofs.YtajjbgkbceobmaaW.PrintWords Go.Proofs.YtajjbgkbceobmaaW.PrintLast Go.Proofs.YtajjbgkbceobmaaW.PrintMore
attribute [local go_sem] max2_int min2_int max_two min_two max_three min_three max_four min_four   -- for this text's walks alone
set_option linter.unusedVariables false
set_option linter.unusedSimpArgs false
def grapnelref03_mark.f (k : Nat) (a0 : ByteArray) (a1 : ByteArray) (a2 : ByteArray) (a3 : ByteArray) : Option (ByteArray) := (grapnelref03_Block.f k a0 a1 0).bind fun t358 => (if 0 ≤ 32 then (if 32 ≤ (t358.size : Int) then ((grapnelref03_even.f k a2).bind fun t359 => ((grapnelref03_even.f k a3).bind fun t360 => (if t359.size + t360.size ≤ 9223372036854775807 then ((grapnelref03_long.f k (a2.size : Int)).bind fun t361 => (if (t359 ++ t360).size + t361.size ≤ 9223372036854775807 then ((grapnelref03_long.f k (a3.size : Int)).bind fun t362 => (if ((t359 ++ t360) ++ t361).size + t362.size ≤ 9223372036854775807 then ((grapnelref03_Tag.f k (t358.extract 0 32) (((t359 ++ t360) ++ t361) ++ t362)).bind fun bt363 => (some bt363.1)) else (none))) else (none))) else (none)))) else (none)) else (none))
def grapnelref03_Seal.f (k : Nat) (a0 : ByteArray) (a1 : ByteArray) (a2 : ByteArray) (a3 : ByteArray) : Option (ByteArray × Int) := (grapnelref03_Stream.f k a0 a1 1 a3).bind fun bt365 => (if bt365.2 = 0 then ((grapnelref03_mark.f k a0 a1 a2 bt365.1).bind fun t367 => (if bt365.1.size + t367.size ≤ 9223372036854775807 then (some (bt365.1 ++ t367, 0)) else (none))) else (some ((⟨#[]⟩ : ByteArray), bt365.2)))
def grapnellaw03_BoxSeals.f (k : Nat) (a0 : ByteArray) (a1 : ByteArray) (a2 : ByteArray) (a3 : ByteArray) : Option (Bool) := (grapnellaw03_cut.f a2 1024).bind fun t368 => ((grapnellaw03_cut.f a3 1024).bind fun t369 => ((box_Seal.f a0 a1 t368 t369).bind fun bt370 => ((grapnelref03_Seal.f k a0 a1 t368 t369).bind fun bt372 => (if bt370.1.toList = bt372.1.toList then (if bt370.2 = bt372.2 then ((grapnellaw03_awake.f).bind fun t374 => (some t374)) else (some false)) else (some false)))))
/-- THE ONE PURE STATEMENT of grapnellaw03_BoxSeals: yours. -/
def grapnellaw03_BoxSeals.Pure : Prop := ∀ (a0 : ByteArray) (a1 : ByteArray) (a2 : ByteArray) (a3 : ByteArray), a0.size ≤ 140737488351232 → a1.size ≤ 140737488351232 → a2.size ≤ 140737488351232 → a3.size ≤ 140737488351232 → ∃ k, grapnellaw03_BoxSeals.f k a0 a1 a2 a3 = some true
end Go.Proofs.Ytajjbgkbceobmaa.B
