/- box.Same tells two texts to be one just if they are. -/
import Derived.Test.YtajjbgkbceobmaaHAwake
import Derived.Test.YtajjbgkbceobmaaHStream
namespace Go.Proofs.Ytajjbgkbceobmaa.Pure
open Go.RowKit Go.Proofs.Ytajjbgkbceobmaa.B Go.Proofs.Ytajjbgkbceobmaa.Spec Go.Proofs.YtajjbgkbceobmaaW.PrintWords Go.Proofs.YtajjbgkbceobmaaW.PrintLast
theorem or_xor_zero (x a b : Nat) : ((x ||| (a ^^^ b)) = 0) ↔ (x = 0 ∧ a = b) := by
  rw [Nat.or_eq_zero_iff]
  constructor
  · rintro ⟨h1, h2⟩; exact ⟨h1, by rw [← Nat.xor_zero a, ← Nat.xor_self b, ← Nat.xor_assoc, h2, Nat.zero_xor]⟩
  · rintro ⟨h1, rfl⟩; exact ⟨h1, Nat.xor_self _⟩
theorem bt_nat (s : ByteArray) (i : Nat) (h : i < s.size) : bt s (i : Int) = (byteAt s i : Int) := by
  rw [← bt_at s (i : Int) (by simpa using h)]
  exact nat_at s i h
/-- The rounds from byte i on. -/
theorem same_l0 (a b : ByteArray) (hs : a.size = b.size) (ha : a.size ≤ 140737488351232) : ∀ (c i x k : Nat), i + c = a.size → x < 256 → c < k →
    box_Same.l0 k a b (x : Int) (a.size : Int) (i : Int) = some (decide (x = 0 ∧ ∀ j, j < a.size → i ≤ j → byteAt a j = byteAt b j)) := by
  intro c
  induction c with
  | zero =>
    intro i x k hi hx hk
    obtain ⟨k, rfl⟩ : ∃ m, k = m + 1 := ⟨k - 1, by omega⟩
    rw [box_Same.l0, if_neg (by omega)]
    congr 1
    rw [show (((x : Int) == 0) = decide (x = 0)) from by
      by_cases h : x = 0
      · subst h; rfl
      · rw [decide_eq_false h, beq_eq_false_iff_ne]; omega]
    apply decide_eq_decide.2
    exact ⟨fun h => ⟨h, fun j h1 h2 => by omega⟩, fun h => h.1⟩
  | succ c ih =>
    intro i x k hi hx hk
    obtain ⟨k, rfl⟩ : ∃ m, k = m + 1 := ⟨k - 1, by omega⟩
    have h1 : wrap64 ((i : Int) + 1) = ((i + 1 : Nat) : Int) := by unfold wrap64; omega
    have la := byteAt_lt a i
    have lb := byteAt_lt b i
    have lx : byteAt a i ^^^ byteAt b i < 256 := Nat.xor_lt_two_pow (n := 8) la lb
    have lo : x ||| (byteAt a i ^^^ byteAt b i) < 256 := Nat.or_lt_two_pow (n := 8) hx lx
    rw [box_Same.l0, if_pos (by omega), if_pos (by omega), if_pos (by omega), if_pos (by omega), h1, bt_nat a i (by omega), bt_nat b i (by omega), u8_xor_nat _ _ la lb, u8_or_nat _ _ hx lx]
    rw [ih (i + 1) _ k (by omega) lo (by omega)]
    congr 1
    apply decide_eq_decide.2
    rw [or_xor_zero]
    constructor
    · rintro ⟨⟨h2, h3⟩, h4⟩
      refine ⟨h2, fun j h6 h5 => ?_⟩
      by_cases h7 : j = i
      · subst h7; exact h3
      · exact h4 j h6 (by omega)
    · rintro ⟨h2, h3⟩
      exact ⟨⟨h2, h3 i (by omega) (Nat.le_refl _)⟩, fun j h6 h5 => h3 j h6 (by omega)⟩
theorem bytes_of_at {a b : ByteArray} (hs : a.size = b.size) (h : ∀ j, j < a.size → byteAt a j = byteAt b j) : a = b := by
  have hn : nats a = nats b := by
    rw [nats_eq, nats_eq, ← hs]
    apply List.map_congr_left
    intro k hk
    exact h k (by simpa using hk)
  apply bytes_ext
  exact (List.map_inj_right (fun _ _ h => UInt8.toNat.inj h)).1 hn
theorem same_f (a b : ByteArray) (ha : a.size ≤ 140737488351232) (k : Nat) (hk : a.size < k) : box_Same.f k a b = some (decide (a = b)) := by
  unfold box_Same.f
  by_cases hs : a.size = b.size
  · rw [if_pos (by omega)]
    have := same_l0 a b hs ha a.size 0 0 k (by omega) (by omega) hk
    rw [show ((0 : Nat) : Int) = 0 from rfl] at this
    rw [this]
    congr 1
    apply decide_eq_decide.2
    constructor
    · rintro ⟨_, h⟩; exact bytes_of_at hs fun j hj => h j hj (by omega)
    · rintro rfl; exact ⟨rfl, fun _ _ _ => rfl⟩
  · rw [if_neg (by omega), decide_eq_false]
    rintro rfl; exact hs rfl
end Go.Proofs.Ytajjbgkbceobmaa.Pure
