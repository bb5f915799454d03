/- Words and walks for the row that is claimed: what it needs of them. -/
import Derived.Test.YtajjbgkbceobmaaBx0
import Derived.Test.YtajjbgkbceobmaaBx1
import Derived.Test.YtajjbgkbceobmaaBx2
import Derived.Test.YtajjbgkbceobmaaBx3
import Derived.Test.YtajjbgkbceobmaaHClamped
namespace Go.Proofs.Ytajjbgkbceobmaa.B
open Go.RowKit Go.Proofs.YtajjbgkbceobmaaW.PrintWords Go.Proofs.YtajjbgkbceobmaaW.PrintLast Go.Proofs.YtajjbgkbceobmaaW.PrintMore
attribute [local go_sem] max2_int min2_int max_two min_two max_three min_three max_four min_four   -- for this text's walks alone
set_option linter.unusedVariables false
set_option linter.unusedSimpArgs false
mutual
def grapnelref03_Tag.l0 : Nat → ByteArray → ByteArray → List Int → List Int → Int → Option (ByteArray × Int)
  | 0, _, _, _, _, _ => none
  | k + 1, x0, x1, x6, x7, x8 => if x8 < (x1.size : Int) then (if (wrap64 (x8 + 16)) > (x1.size : Int) then (grapnelref03_Tag.j1 k x0 x1 x6 x7 x8 (x1.size : Int)) else (grapnelref03_Tag.j1 k x0 x1 x6 x7 x8 (wrap64 (x8 + 16)))) else (if 16 ≤ (x0.size : Int) then ((grapnelref03_digits.f k (x0.extract 16 x0.size) 13).bind fun t176 => (grapnelref03_Tag.l2 k x7 t176 0 ([] : List Int) 0)) else (none))
def grapnelref03_Tag.j1 : Nat → ByteArray → ByteArray → List Int → List Int → Int → Int → Option (ByteArray × Int)
  | 0, _, _, _, _, _, _ => none
  | k + 1, x0, x1, x6, x7, x8, x9 => if 0 ≤ x8 then (if x8 ≤ x9 then (if x9 ≤ (x1.size : Int) then (if (x1.extract (x8 : Int).toNat (x9 : Int).toNat).size + 1 ≤ 9223372036854775807 then ((grapnelref03_digits.f k ((x1.extract (x8 : Int).toNat (x9 : Int).toNat) ++ (⟨#[1]⟩ : ByteArray)) 14).bind fun t159 => (if 14 ≤ 35184372088832 then (grapnelref03_Tag.l1 k x0 x1 x6 x7 x8 t159 (List.replicate 14 0) 0) else (none))) else (none)) else (none)) else (none)) else (none)
def grapnelref03_Tag.l1 : Nat → ByteArray → ByteArray → List Int → List Int → Int → List Int → List Int → Int → Option (ByteArray × Int)
  | 0, _, _, _, _, _, _, _, _ => none
  | k + 1, x0, x1, x6, x7, x8, x10, x11, x12 => if x12 < 14 then (if 0 ≤ x12 then (if x12 < (x10.length : Int) then (if x12 < (x11.length : Int) then ((some (x11.set (x12 : Int).toNat (rd x10 x12) : List Int)).bind fun y166 => (if x12 < 13 then (if x12 < (x7.length : Int) then (grapnelref03_Tag.l1 k x0 x1 x6 x7 x8 x10 (y166.set (x12 : Int).toNat (wrap64 ((rd y166 x12) + (rd x7 x12)))) (wrap64 (x12 + 1))) else (none)) else (grapnelref03_Tag.l1 k x0 x1 x6 x7 x8 x10 y166 (wrap64 (x12 + 1))))) else (none)) else (none)) else (none)) else ((grapnelref03_reduced.f k x11).bind fun t170 => ((grapnelref03_times.f k t170 x6).bind fun t173 => (grapnelref03_Tag.l0 k x0 x1 x6 t173 (wrap64 (x8 + 16)))))
def grapnelref03_Tag.l2 : Nat → List Int → List Int → Int → List Int → Int → Option (ByteArray × Int)
  | 0, _, _, _, _, _ => none
  | k + 1, x7, x13, x14, x15, x16 => if x16 < 13 then (if 0 ≤ x16 then (if x16 < (x7.length : Int) then (if x16 < (x13.length : Int) then (grapnelref03_Tag.l3 k x7 x13 (wrap64 ((wrap64 (x14 + (rd x7 x16))) + (rd x13 x16))) x15 x16 0) else (none)) else (none)) else (none)) else (grapnelref03_Tag.l4 k x15 ([] : List Int) 0)
def grapnelref03_Tag.l3 : Nat → List Int → List Int → Int → List Int → Int → Int → Option (ByteArray × Int)
  | 0, _, _, _, _, _, _ => none
  | k + 1, x7, x13, x14, x15, x16, x17 => if x17 < 10 then (if 0 ≤ x17 then (if x15.length < 17592186044416 then (grapnelref03_Tag.l3 k x7 x13 x14 (x15 ++ [Go.bits .and .i64 (shr .i64 (Int.tmod x14 1024) x17) 1]) x16 (wrap64 (x17 + 1))) else (none)) else (none)) else (grapnelref03_Tag.l2 k x7 x13 (wrap64 (Int.tdiv x14 1024)) x15 (wrap64 (x16 + 1)))
def grapnelref03_Tag.l4 : Nat → List Int → List Int → Int → Option (ByteArray × Int)
  | 0, _, _, _ => none
  | k + 1, x15, x18, x19 => if x19 < 16 then (grapnelref03_Tag.l5 k x15 x18 x19 0 7) else (some (strOfNums x18, 0))
def grapnelref03_Tag.l5 : Nat → List Int → List Int → Int → Int → Int → Option (ByteArray × Int)
  | 0, _, _, _, _, _ => none
  | k + 1, x15, x18, x19, x20, x21 => if x21 ≥ 0 then (if 0 ≤ (wrap64 ((wrap64 (8 * x19)) + x21)) then (if (wrap64 ((wrap64 (8 * x19)) + x21)) < (x15.length : Int) then (grapnelref03_Tag.l5 k x15 x18 x19 (wrap64 ((wrap64 (2 * x20)) + (rd x15 (wrap64 ((wrap64 (8 * x19)) + x21))))) (wrap64 (x21 - 1))) else (none)) else (none)) else (if x18.length < 140737488355328 then (grapnelref03_Tag.l4 k x15 (x18 ++ [(x20) % 256]) (wrap64 (x19 + 1))) else (none))
end
def grapnelref03_Tag.f (k : Nat) (a0 : ByteArray) (a1 : ByteArray) : Option (ByteArray × Int) := if (a0.size : Int) = 32 then ((grapnelref03_clamped.f a0).bind fun t152 => ((grapnelref03_digits.f k t152 13).bind fun t153 => (if 13 ≤ 35184372088832 then (grapnelref03_Tag.l0 k a0 a1 t153 (List.replicate 13 0) 0) else (none)))) else (some ((⟨#[]⟩ : ByteArray), 1))
end Go.Proofs.Ytajjbgkbceobmaa.B
