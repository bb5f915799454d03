/- Words and walks for the row that is claimed: what it needs of them. -/
import Derived.Test.YtajjbgkbceobmaaBx0
import Derived.Test.YtajjbgkbceobmaaBx1
namespace Go.Proofs.Ytajjbgkbceobmaa.B
open Go.RowKit Go.Proofs.YtajjbgkbceobmaaW.PrintWords Go.Proofs.YtajjbgkbceobmaaW.PrintLast Go.Proofs.YtajjbgkbceobmaaW.PrintMore
attribute [local go_sem] max2_int min2_int max_two min_two max_three min_three max_four min_four   -- for this text's walks alone
set_option linter.unusedVariables false
set_option linter.unusedSimpArgs false
mutual
def grapnelref03_reduced.l0 : Nat → List Int → Int → Option (List Int)
  | 0, _, _ => none
  | k + 1, x0, x3 => if x3 < 8 then (if 13 ≤ 35184372088832 then (grapnelref03_reduced.l1 k x0 x3 (List.replicate 13 0) 0) else (none)) else (if 13 ≤ (x0.length : Int) then ((some (x0.take (13 : Int).toNat : List Int)).bind fun y131 => ((grapnelref03_prime.f k).bind fun t134 => ((grapnelref03_less.f k y131 t134).bind fun t137 => (if t137 = true then (some y131) else (grapnelref03_reduced.l3 k y131 t134 0 0))))) else (none))
def grapnelref03_reduced.l1 : Nat → List Int → Int → List Int → Int → Option (List Int)
  | 0, _, _, _, _ => none
  | k + 1, x0, x3, x4, x5 => if x5 < (x0.length : Int) then (if x5 < 13 then (if 0 ≤ x5 then (if x5 < (x4.length : Int) then (grapnelref03_reduced.l1 k x0 x3 (x4.set (x5 : Int).toNat (wrap64 ((rd x4 x5) + (rd x0 x5)))) (wrap64 (x5 + 1))) else (none)) else (none)) else (if 0 ≤ (Int.tmod (wrap64 (x5 - 13)) 13) then (if (Int.tmod (wrap64 (x5 - 13)) 13) < (x4.length : Int) then (if 0 ≤ x5 then (grapnelref03_reduced.l1 k x0 x3 (x4.set ((Int.tmod (wrap64 (x5 - 13)) 13) : Int).toNat (wrap64 ((rd x4 (Int.tmod (wrap64 (x5 - 13)) 13)) + (wrap64 (5 * (rd x0 x5)))))) (wrap64 (x5 + 1))) else (none)) else (none)) else (none))) else (grapnelref03_reduced.l2 k x3 x4 0 0)
def grapnelref03_reduced.l2 : Nat → Int → List Int → Int → Int → Option (List Int)
  | 0, _, _, _, _ => none
  | k + 1, x3, x4, x6, x7 => if x7 < 13 then (if 0 ≤ x7 then (if x7 < (x4.length : Int) then (grapnelref03_reduced.l2 k x3 (x4.set (x7 : Int).toNat (Int.tmod (wrap64 (x6 + (rd x4 x7))) 1024)) (wrap64 (Int.tdiv (wrap64 (x6 + (rd x4 x7))) 1024)) (wrap64 (x7 + 1))) else (none)) else (none)) else ((some (([Int.tmod x6 1024, Int.tmod (wrap64 (Int.tdiv x6 1024)) 1024, wrap64 (Int.tdiv x6 1048576)] : List Int) : List Int)).bind fun y125 => (if x4.length + y125.length < 17592186044416 then (grapnelref03_reduced.l0 k (x4 ++ y125) (wrap64 (x3 + 1))) else (none)))
def grapnelref03_reduced.l3 : Nat → List Int → List Int → Int → Int → Option (List Int)
  | 0, _, _, _, _ => none
  | k + 1, x0, x8, x9, x10 => if x10 < 13 then (if 0 ≤ x10 then (if x10 < (x0.length : Int) then (if x10 < (x8.length : Int) then (if (wrap64 ((wrap64 ((rd x0 x10) - (rd x8 x10))) + x9)) < 0 then (grapnelref03_reduced.l3 k (x0.set (x10 : Int).toNat (wrap64 ((wrap64 ((wrap64 ((rd x0 x10) - (rd x8 x10))) + x9)) + 1024))) x8 (-1) (wrap64 (x10 + 1))) else (grapnelref03_reduced.l3 k (x0.set (x10 : Int).toNat (wrap64 ((wrap64 ((rd x0 x10) - (rd x8 x10))) + x9))) x8 0 (wrap64 (x10 + 1)))) else (none)) else (none)) else (none)) else (some x0)
end
def grapnelref03_reduced.f (k : Nat) (l0 : List Int) : Option (List Int) := grapnelref03_reduced.l0 k l0 0
def grapnelref03_reduced.T9 : Bool × List (List Nat × List Nat) := (true, [([], []), ([], []), ([], []), ([], []), ([2, 3], [2, 3]), ([4], [4]), ([], []), ([], []), ([6, 7], [6, 7]), ([8], [8]), ([5, 9], [5, 9]), ([0, 1, 0, 1, 2, 3, 4, 5, 6, 7, 8, 9, 10], [0, 1]), ([11, 10, 0, 1, 2, 3, 4, 5, 6, 7, 8, 9, 10], [10, 11])])
def grapnelref03_reduced.B9 : List Nat := [0, 0, 0, 0, 12, 28, 0, 0, 192, 448, 1020, 2047, 4095]
end Go.Proofs.Ytajjbgkbceobmaa.B
