/- Words and walks for the row that is claimed: what it needs of them. -/
import Derived.Test.YtajjbgkbceobmaaBx0
namespace Go.Proofs.Ytajjbgkbceobmaa.B
open Go.RowKit Go.Proofs.YtajjbgkbceobmaaW.PrintWords Go.Proofs.YtajjbgkbceobmaaW.PrintLast Go.Proofs.YtajjbgkbceobmaaW.PrintMore
attribute [local go_sem] max2_int min2_int max_two min_two max_three min_three max_four min_four   -- for this text's walks alone
set_option linter.unusedVariables false
set_option linter.unusedSimpArgs false
def grapnellaw03_cut.f (a0 : ByteArray) (a1 : Int) : Option (ByteArray) := if (a0.size : Int) > a1 then (if 0 ≤ a1 then (if a1 ≤ (a0.size : Int) then (some (a0.extract 0 (a1 : Int).toNat)) else (none)) else (none)) else (some a0)
set_option maxHeartbeats 8000000 in
set_option maxRecDepth 100000 in
theorem grapnellaw03_cut.calls (a0 : ByteArray) (a1 : Int) (r : ByteArray) (w : World) (h : grapnellaw03_cut.f a0 a1 = some r) :
    Calls Try.prog 12 #[.string a0, .int .i64 a1] w fun e w' => e = .returned (.string r) ∧ Drawn0 w w' := by
  have H : (if (a0.size : Int) > a1 then (if 0 ≤ a1 then (if a1 ≤ (a0.size : Int) then (some (a0.extract 0 (a1 : Int).toNat)) else (none)) else (none)) else (some a0)) = some r := h
  clear h
  by_cases c3 : (a0.size : Int) > a1
  · rw [if_pos c3] at H
    have c3b0 : decide (a1 < (a0.size : Int)) = true := decide_eq_true c3
    clear c3
    by_cases c4 : 0 ≤ a1
    · rw [if_pos c4] at H
      have c4b0 := eq_true c4
      have c4b1 : decide (0 ≤ a1) = true := decide_eq_true c4
      clear c4
      by_cases c5 : a1 ≤ (a0.size : Int)
      · rw [if_pos c5] at H
        have c5b0 := eq_true c5
        have c5b1 : decide (a1 ≤ (a0.size : Int)) = true := decide_eq_true c5
        clear c5
        obtain rfl := Option.some.inj H
        go_enter Try.func12, Try.ntmps12
        go_wp2
        go_ret
        exact ⟨by first | rfl | (simp; done) | (simp [*]; done), by repeat (first | exact Drawn0.refl _ | apply Drawn0.step)⟩
      · rw [if_neg c5] at H
        exact absurd H (by simp)
    · rw [if_neg c4] at H
      exact absurd H (by simp)
  · rw [if_neg c3] at H
    have c3b0 : decide (a1 < (a0.size : Int)) = false := decide_eq_false c3
    clear c3
    obtain rfl := Option.some.inj H
    go_enter Try.func12, Try.ntmps12
    go_wp2
    go_ret
    exact ⟨by first | rfl | (simp; done) | (simp [*]; done), by repeat (first | exact Drawn0.refl _ | apply Drawn0.step)⟩
mutual
def grapnelref03_digits.l0 : Nat → ByteArray → Int → List Int → Int → Option (List Int)
  | 0, _, _, _, _ => none
  | k + 1, x0, x1, x5, x6 => if x6 < x1 then (grapnelref03_digits.l1 k x0 x1 x5 x6 0 9) else (some x5)
def grapnelref03_digits.l1 : Nat → ByteArray → Int → List Int → Int → Int → Int → Option (List Int)
  | 0, _, _, _, _, _, _ => none
  | k + 1, x0, x1, x5, x6, x7, x8 => if x8 ≥ 0 then (if (wrap64 (Int.tdiv (wrap64 ((wrap64 (10 * x6)) + x8)) 8)) < (x0.size : Int) then (if 0 ≤ (wrap64 (Int.tdiv (wrap64 ((wrap64 (10 * x6)) + x8)) 8)) then (if 0 ≤ (Int.tmod (wrap64 ((wrap64 (10 * x6)) + x8)) 8) then (grapnelref03_digits.l1 k x0 x1 x5 x6 (wrap64 ((wrap64 (2 * x7)) + (Go.bits .and .i64 (shr .i64 (wrap64 (bt x0 (wrap64 (Int.tdiv (wrap64 ((wrap64 (10 * x6)) + x8)) 8)))) (Int.tmod (wrap64 ((wrap64 (10 * x6)) + x8)) 8)) 1))) (wrap64 (x8 - 1))) else (none)) else (none)) else (grapnelref03_digits.l1 k x0 x1 x5 x6 (wrap64 (2 * x7)) (wrap64 (x8 - 1)))) else (if x5.length < 17592186044416 then (grapnelref03_digits.l0 k x0 x1 (x5 ++ [x7]) (wrap64 (x6 + 1))) else (none))
end
def grapnelref03_digits.f (k : Nat) (a0 : ByteArray) (a1 : Int) : Option (List Int) := grapnelref03_digits.l0 k a0 a1 ([] : List Int) 0
def grapnelref03_prime.l0 : Nat → List Int → Int → Option (List Int)
  | 0, _, _ => none
  | k + 1, x1, x2 => if x2 < 13 then (if x1.length < 17592186044416 then (grapnelref03_prime.l0 k (x1 ++ [1023]) (wrap64 (x2 + 1))) else (none)) else (some x1)
def grapnelref03_prime.f (k : Nat)  : Option (List Int) := grapnelref03_prime.l0 k (([1019] : List Int)) 1
def grapnelref03_less.l0 : Nat → List Int → List Int → Int → Option (Bool)
  | 0, _, _, _ => none
  | k + 1, x0, x1, x5 => if x5 ≥ 0 then (if 0 ≤ x5 then (if x5 < (x0.length : Int) then (if x5 < (x1.length : Int) then (if (rd x0 x5) = (rd x1 x5) then (grapnelref03_less.l0 k x0 x1 (wrap64 (x5 - 1))) else (some (decide ((rd x0 x5) < (rd x1 x5))))) else (none)) else (none)) else (none)) else (some false)
def grapnelref03_less.f (k : Nat) (l0 : List Int) (l1 : List Int) : Option (Bool) := grapnelref03_less.l0 k l0 l1 (wrap64 ((l0.length : Int) - 1))
end Go.Proofs.Ytajjbgkbceobmaa.B
