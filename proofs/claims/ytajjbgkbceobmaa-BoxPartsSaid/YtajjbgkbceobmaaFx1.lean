/- Words and walks for the row that is claimed: what it needs of them. -/
import Derived.Test.YtajjbgkbceobmaaFx0
namespace Go.Proofs.Ytajjbgkbceobmaa.F
open Go.RowKit Go.Proofs.YtajjbgkbceobmaaW.PrintWords Go.Proofs.YtajjbgkbceobmaaW.PrintLast Go.Proofs.YtajjbgkbceobmaaW.PrintMore
attribute [local go_sem] max2_int min2_int max_two min_two max_three min_three max_four min_four   -- for this text's walks alone
set_option linter.unusedVariables false
set_option linter.unusedSimpArgs false
mutual
def box_framed.l0 : Nat → List Int → List Int → Int → Int → Option (ByteArray)
  | 0, _, _, _, _ => none
  | k + 1, x5, x33, x34, x35 => if x35 < x34 then (if 0 ≤ x35 then (if x35 < (x33.length : Int) then (box_framed.l1 k x5 (rd x33 x35) x33 x34 x35 0) else (none)) else (none)) else (some (strOfNums x5))
def box_framed.l1 : Nat → List Int → Int → List Int → Int → Int → Int → Option (ByteArray)
  | 0, _, _, _, _, _, _ => none
  | k + 1, x5, x7, x33, x34, x35, x39 => if x39 < 8 then (if 0 ≤ (wrap64 (8 * x39)) then (if x5.length < 140737488355328 then (box_framed.l1 k (x5 ++ [(shr .i64 x7 (wrap64 (8 * x39))) % 256]) x7 x33 x34 x35 (wrap64 (x39 + 1))) else (none)) else (none)) else (box_framed.l0 k x5 x33 x34 (wrap64 (x35 + 1)))
end
def box_framed.f (k : Nat) (a0 : ByteArray) (a1 : ByteArray) : Option (ByteArray) := (some (([] : List Int) : List Int)).bind fun y101 => (if y101.length + a0.size < 140737488355328 then ((some (y101 ++ bytesOf a0 : List Int)).bind fun y104 => (if 0 ≤ ((16 - ((a0.size : Int) % 16)) % 16) then (if y104.length + ((16 - ((a0.size : Int) % 16)) % 16 : Int).toNat < 140737488355328 then ((some (y104 ++ List.replicate ((16 - ((a0.size : Int) % 16)) % 16 : Int).toNat 0 : List Int)).bind fun y107 => (if y107.length + a1.size < 140737488355328 then ((some (y107 ++ bytesOf a1 : List Int)).bind fun y110 => (if 0 ≤ ((16 - ((a1.size : Int) % 16)) % 16) then (if y110.length + ((16 - ((a1.size : Int) % 16)) % 16 : Int).toNat < 140737488355328 then ((some (([(a0.size : Int), (a1.size : Int)] : List Int) : List Int)).bind fun y116 => (box_framed.l0 k (y110 ++ List.replicate ((16 - ((a1.size : Int) % 16)) % 16 : Int).toNat 0) y116 (y116.length : Int) 0)) else (none)) else (none))) else (none))) else (none)) else (none))) else (none))
end Go.Proofs.Ytajjbgkbceobmaa.F
