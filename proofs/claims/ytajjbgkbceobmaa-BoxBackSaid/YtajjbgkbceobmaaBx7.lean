/- Words and walks for the row that is claimed: what it needs of them. -/
import Derived.Test.YtajjbgkbceobmaaBx0
import Derived.Test.YtajjbgkbceobmaaBx5
import Derived.Test.YtajjbgkbceobmaaBx6
namespace Go.Proofs.Ytajjbgkbceobmaa.B
open Go.RowKit Go.Proofs.YtajjbgkbceobmaaW.PrintWords Go.Proofs.YtajjbgkbceobmaaW.PrintLast Go.Proofs.YtajjbgkbceobmaaW.PrintMore
attribute [local go_sem] max2_int min2_int max_two min_two max_three min_three max_four min_four   -- for this text's walks alone
set_option linter.unusedVariables false
set_option linter.unusedSimpArgs false
mutual
def grapnelref03_Block.l0 : Nat → ByteArray → ByteArray → Int → List Int → Int → Option (ByteArray)
  | 0, _, _, _, _, _ => none
  | k + 1, x0, x1, x2, x7, x8 => if x8 < 8 then ((grapnelref03_word.f x0 (wrap64 (4 * x8))).bind fun t241 => (if x7.length < 17592186044416 then (grapnelref03_Block.l0 k x0 x1 x2 (x7 ++ [t241]) (wrap64 (x8 + 1))) else (none))) else ((grapnelref03_word.f x1 0).bind fun t245 => ((grapnelref03_word.f x1 4).bind fun t246 => ((grapnelref03_word.f x1 8).bind fun t247 => ((some (([x2, t245, t246, t247] : List Int) : List Int)).bind fun y248 => (if x7.length + y248.length < 17592186044416 then ((some (x7 ++ y248 : List Int)).bind fun y251 => ((some (([] : List Int) : List Int)).bind fun y254 => (if y254.length + y251.length < 17592186044416 then (grapnelref03_Block.l1 k y251 (y254 ++ y251) 0) else (none)))) else (none))))))
def grapnelref03_Block.l1 : Nat → List Int → List Int → Int → Option (ByteArray)
  | 0, _, _, _ => none
  | k + 1, x7, x9, x10 => if x10 < 10 then ((grapnelref03_quarter.f x9 0 4 8 12).bind fun t260 => ((grapnelref03_quarter.f t260 1 5 9 13).bind fun t263 => ((grapnelref03_quarter.f t263 2 6 10 14).bind fun t266 => ((grapnelref03_quarter.f t266 3 7 11 15).bind fun t269 => ((grapnelref03_quarter.f t269 0 5 10 15).bind fun t272 => ((grapnelref03_quarter.f t272 1 6 11 12).bind fun t275 => ((grapnelref03_quarter.f t275 2 7 8 13).bind fun t278 => ((grapnelref03_quarter.f t278 3 4 9 14).bind fun t281 => (grapnelref03_Block.l1 k x7 t281 (wrap64 (x10 + 1))))))))))) else (grapnelref03_Block.l2 k x7 x9 ([] : List Int) 0)
def grapnelref03_Block.l2 : Nat → List Int → List Int → List Int → Int → Option (ByteArray)
  | 0, _, _, _, _ => none
  | k + 1, x7, x9, x11, x12 => if x12 < 16 then (if 0 ≤ x12 then (if x12 < (x9.length : Int) then (if x12 < (x7.length : Int) then ((grapnelref03_low.f (wrap64 ((rd x9 x12) + (rd x7 x12)))).bind fun t286 => ((some (([(Go.bits .and .i64 t286 255) % 256, (Go.bits .and .i64 (t286 / 256) 255) % 256, (Go.bits .and .i64 (t286 / 65536) 255) % 256, (t286 / 16777216) % 256] : List Int) : List Int)).bind fun y287 => (if x11.length + y287.length < 140737488355328 then (grapnelref03_Block.l2 k x7 x9 (x11 ++ y287) (wrap64 (x12 + 1))) else (none)))) else (none)) else (none)) else (none)) else (some (strOfNums x11))
end
def grapnelref03_Block.f (k : Nat) (a0 : ByteArray) (a1 : ByteArray) (a2 : Int) : Option (ByteArray) := grapnelref03_Block.l0 k a0 a1 a2 (([1634760805, 857760878, 2036477234, 1797285236] : List Int)) 0
end Go.Proofs.Ytajjbgkbceobmaa.B
