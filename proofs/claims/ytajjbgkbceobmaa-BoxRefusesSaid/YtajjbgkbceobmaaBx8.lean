/- Words and walks for the row that is claimed: what it needs of them. -/
import Derived.Test.YtajjbgkbceobmaaBx0
import Derived.Test.YtajjbgkbceobmaaBx1
import Derived.Test.YtajjbgkbceobmaaBx5
import Derived.Test.YtajjbgkbceobmaaBx7
import Derived.Test.YtajjbgkbceobmaaHStream
namespace Go.Proofs.Ytajjbgkbceobmaa.B
open Go.RowKit Go.Proofs.YtajjbgkbceobmaaW.PrintWords Go.Proofs.YtajjbgkbceobmaaW.PrintLast Go.Proofs.YtajjbgkbceobmaaW.PrintMore
attribute [local go_sem] max2_int min2_int max_two min_two max_three min_three max_four min_four   -- for this text's walks alone
set_option linter.unusedVariables false
set_option linter.unusedSimpArgs false
mutual
def grapnelref03_Stream.j0 : Nat → ByteArray → ByteArray → Int → ByteArray → Bool → Option (ByteArray × Int)
  | 0, _, _, _, _, _ => none
  | k + 1, x0, x1, x2, x3, x20 => if x20 = true then (some ((⟨#[]⟩ : ByteArray), 1)) else (if x2 < 0 then (grapnelref03_Stream.j1 k x0 x1 x2 x3 true) else (if x2 > 4294967295 then (grapnelref03_Stream.j1 k x0 x1 x2 x3 true) else (grapnelref03_Stream.j1 k x0 x1 x2 x3 (decide ((wrap64 (Int.tdiv (wrap64 ((x3.size : Int) + 63)) 64)) > (wrap64 (4294967296 - x2)))))))
def grapnelref03_Stream.j1 : Nat → ByteArray → ByteArray → Int → ByteArray → Bool → Option (ByteArray × Int)
  | 0, _, _, _, _, _ => none
  | k + 1, x0, x1, x2, x3, x35 => if x35 = true then (some ((⟨#[]⟩ : ByteArray), 2)) else (grapnelref03_Stream.l0 k x0 x1 x2 x3 ([] : List Int) (⟨#[]⟩ : ByteArray) 0)
def grapnelref03_Stream.l0 : Nat → ByteArray → ByteArray → Int → ByteArray → List Int → ByteArray → Int → Option (ByteArray × Int)
  | 0, _, _, _, _, _, _, _ => none
  | k + 1, x0, x1, x2, x3, x10, x11, x12 => if x12 < (x3.size : Int) then (if (Int.tmod x12 64) = 0 then ((grapnelref03_Block.f k x0 x1 (wrap64 (x2 + (wrap64 (Int.tdiv x12 64))))).bind fun t293 => (if 0 ≤ x12 then (if 0 ≤ (Int.tmod x12 64) then (if (Int.tmod x12 64) < (t293.size : Int) then (if x10.length < 140737488355328 then (grapnelref03_Stream.l0 k x0 x1 x2 x3 (x10 ++ [Go.bits .xor .u8 (bt x3 x12) (bt t293 (Int.tmod x12 64))]) t293 (wrap64 (x12 + 1))) else (none)) else (none)) else (none)) else (none))) else (if 0 ≤ x12 then (if 0 ≤ (Int.tmod x12 64) then (if (Int.tmod x12 64) < (x11.size : Int) then (if x10.length < 140737488355328 then (grapnelref03_Stream.l0 k x0 x1 x2 x3 (x10 ++ [Go.bits .xor .u8 (bt x3 x12) (bt x11 (Int.tmod x12 64))]) x11 (wrap64 (x12 + 1))) else (none)) else (none)) else (none)) else (none))) else (some (strOfNums x10, 0))
end
def grapnelref03_Stream.f (k : Nat) (a0 : ByteArray) (a1 : ByteArray) (a2 : Int) (a3 : ByteArray) : Option (ByteArray × Int) := if (a0.size : Int) = 32 then (grapnelref03_Stream.j0 k a0 a1 a2 a3 ((a1.size : Int) != 12)) else (grapnelref03_Stream.j0 k a0 a1 a2 a3 true)
def grapnellaw03_BoxStreams.f (k : Nat) (a0 : ByteArray) (a1 : ByteArray) (a2 : Int) (a3 : ByteArray) : Option (Bool) := (grapnellaw03_cut.f a3 4096).bind fun t300 => ((box_Stream.f a0 a1 a2 t300).bind fun bt301 => ((grapnelref03_Stream.f k a0 a1 a2 t300).bind fun bt303 => (if bt301.1.toList = bt303.1.toList then (if bt301.2 = bt303.2 then ((grapnellaw03_awake.f).bind fun t305 => (some t305)) else (some false)) else (some false))))
/-- THE ONE PURE STATEMENT of grapnellaw03_BoxStreams: yours. -/
def grapnellaw03_BoxStreams.Pure : Prop := ∀ (a0 : ByteArray) (a1 : ByteArray) (a2 : Int) (a3 : ByteArray), a0.size ≤ 140737488351232 → a1.size ≤ 140737488351232 → (Lit.int .i64 a2).wf = true → a3.size ≤ 140737488351232 → ∃ k, grapnellaw03_BoxStreams.f k a0 a1 a2 a3 = some true
def grapnellaw03_whole.f (a0 : ByteArray) (a1 : Int) : Option (ByteArray) := (grapnellaw03_cut.f a0 a1).bind fun t306 => (if 0 ≤ (wrap64 (a1 - (t306.size : Int))) then (if (wrap64 (a1 - (t306.size : Int)) : Int).toNat ≤ 281474976710656 then ((some (List.replicate (wrap64 (a1 - (t306.size : Int)) : Int).toNat 0 : List Int)).bind fun y307 => (if t306.size + (strOfNums y307).size ≤ 9223372036854775807 then (some (t306 ++ (strOfNums y307))) else (none))) else (none)) else (none))
end Go.Proofs.Ytajjbgkbceobmaa.B
