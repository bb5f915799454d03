/- The reference's key stream: words, quarters. -/
import Derived.Test.YtajjbgkbceobmaaVA
import Derived.Test.YtajjbgkbceobmaaSpec
set_option maxRecDepth 10000
set_option linter.unusedVariables false
namespace Go.Proofs.Ytajjbgkbceobmaa.V
open Go.Proofs.Ytajjbgkbceobmaa.VL
attribute [local irreducible] Run
theorem low_spec (q : View) (n : Nat) (h : n < 9223372036854775808) : FnD Try.prog q 42 [.int .i64 n] [] (.int .i64 ((n % 4294967296 : Nat) : Int)) [] := by
  (first | refine FnD.go Try.call42 Try.func42 rfl rfl rfl ?_ | refine FnX.go Try.call42 Try.func42 rfl rfl rfl ?_)
  (repeat (first | refine g ?_))
  exact run_ret rfl (imp_RD rfl shut)
theorem low_spec' (q : View) (a : Int) (n : Nat) (e : a = n) (h : n < 9223372036854775808) : FnD Try.prog q 42 [.int .i64 a] [] (.int .i64 ((n % 4294967296 : Nat) : Int)) [] := by
  rw [e]; exact low_spec q n h
theorem or_mod32 (a b : Nat) (hb : b < 4294967296) : (a ||| b) % 4294967296 = (a % 4294967296) ||| b := by
  have e : (4294967296 : Nat) = 2 ^ 32 := rfl
  rw [e] at *
  apply Nat.eq_of_testBit_eq
  intro i
  simp only [Nat.testBit_mod_two_pow, Nat.testBit_or]
  by_cases h : i < 32
  · simp [h]
  · have : b.testBit i = false := Nat.testBit_lt_two_pow (Nat.lt_of_lt_of_le hb (Nat.pow_le_pow_right (n := 2) (by decide) (show 32 ≤ i by omega)))
    simp [h, this]
theorem rotl_lt (x n : Nat) (hx : x < 4294967296) : Spec.rotl x n < 4294967296 := by
  unfold Spec.rotl
  have h1 : (x * 2 ^ n) % Spec.M32 < 2 ^ 32 := Nat.mod_lt _ (by decide)
  have h2 : x / 2 ^ (32 - n) < 2 ^ 32 := Nat.lt_of_le_of_lt (Nat.div_le_self _ _) hx
  exact Nat.or_lt_two_pow h1 h2
theorem left_spec (q : View) (x n : Nat) (hx : x < 4294967296) (hn : n = 7 ∨ n = 8 ∨ n = 12 ∨ n = 16) : FnD Try.prog q 47 [.int .i64 x, .int .i64 n] [] (.int .i64 ((Spec.rotl x n : Nat) : Int)) [] := by
  have key : ∀ m d : Nat, m ≤ 65536 → 0 < d → x / d < 4294967296 → ((x * m ||| x / d) % 4294967296 = (x * m % 4294967296) ||| x / d) ∧ (x * m ||| x / d) < 9223372036854775808 := fun m d hm hd hx2 => by
    refine ⟨or_mod32 _ _ hx2, ?_⟩
    have : x * m ≤ 4294967296 * 65536 := Nat.mul_le_mul (Nat.le_of_lt hx) hm
    exact Nat.or_lt_two_pow (n := 63) (Nat.lt_of_le_of_lt this (by decide)) (Nat.lt_trans hx2 (by decide))
  rcases hn with rfl | rfl | rfl | rfl
  · have e1 : ((x : Int) * 128).toNat = x * 128 := by omega
    have e2 : ((x : Int) / 33554432).toNat = x / 33554432 := by omega
    obtain ⟨k1, k2⟩ := key 128 33554432 (by decide) (by decide) (by omega)
    rw [← e1, ← e2] at k2
    (first | refine FnD.go Try.call47 Try.func47 rfl rfl rfl ?_ | refine FnX.go Try.call47 Try.func47 rfl rfl rfl ?_)
    (repeat (first | refine g ?_ | refine s_flat 1 [(.pure, [0, 1, 2, 3, 4, 5, 6, 7]), (.mem false, [8]), (.pure, [9])] ?_))
    refine s_call (low_spec q (((x : Int) * 128).toNat ||| ((x : Int) / 33554432).toNat) k2) ?_
    (repeat (first | refine g ?_ | refine s_flat 1 [(.pure, [0, 1, 2, 3, 4, 5, 6, 7]), (.mem false, [8]), (.pure, [9])] ?_))
    refine run_ret rfl (imp_RD ?_ shut)
    rw [e1, e2, k1]; rfl
  · have e1 : ((x : Int) * 256).toNat = x * 256 := by omega
    have e2 : ((x : Int) / 16777216).toNat = x / 16777216 := by omega
    obtain ⟨k1, k2⟩ := key 256 16777216 (by decide) (by decide) (by omega)
    rw [← e1, ← e2] at k2
    (first | refine FnD.go Try.call47 Try.func47 rfl rfl rfl ?_ | refine FnX.go Try.call47 Try.func47 rfl rfl rfl ?_)
    (repeat (first | refine g ?_ | refine s_flat 1 [(.pure, [0, 1, 2, 3, 4, 5, 6, 7]), (.mem false, [8]), (.pure, [9])] ?_))
    refine s_call (low_spec q (((x : Int) * 256).toNat ||| ((x : Int) / 16777216).toNat) k2) ?_
    (repeat (first | refine g ?_ | refine s_flat 1 [(.pure, [0, 1, 2, 3, 4, 5, 6, 7]), (.mem false, [8]), (.pure, [9])] ?_))
    refine run_ret rfl (imp_RD ?_ shut)
    rw [e1, e2, k1]; rfl
  · have e1 : ((x : Int) * 4096).toNat = x * 4096 := by omega
    have e2 : ((x : Int) / 1048576).toNat = x / 1048576 := by omega
    obtain ⟨k1, k2⟩ := key 4096 1048576 (by decide) (by decide) (by omega)
    rw [← e1, ← e2] at k2
    (first | refine FnD.go Try.call47 Try.func47 rfl rfl rfl ?_ | refine FnX.go Try.call47 Try.func47 rfl rfl rfl ?_)
    (repeat (first | refine g ?_ | refine s_flat 1 [(.pure, [0, 1, 2, 3, 4, 5, 6, 7]), (.mem false, [8]), (.pure, [9])] ?_))
    refine s_call (low_spec q (((x : Int) * 4096).toNat ||| ((x : Int) / 1048576).toNat) k2) ?_
    (repeat (first | refine g ?_ | refine s_flat 1 [(.pure, [0, 1, 2, 3, 4, 5, 6, 7]), (.mem false, [8]), (.pure, [9])] ?_))
    refine run_ret rfl (imp_RD ?_ shut)
    rw [e1, e2, k1]; rfl
  · have e1 : ((x : Int) * 65536).toNat = x * 65536 := by omega
    have e2 : ((x : Int) / 65536).toNat = x / 65536 := by omega
    obtain ⟨k1, k2⟩ := key 65536 65536 (by decide) (by decide) (by omega)
    rw [← e1, ← e2] at k2
    (first | refine FnD.go Try.call47 Try.func47 rfl rfl rfl ?_ | refine FnX.go Try.call47 Try.func47 rfl rfl rfl ?_)
    (repeat (first | refine g ?_ | refine s_flat 1 [(.pure, [0, 1, 2, 3, 4, 5, 6, 7]), (.mem false, [8]), (.pure, [9])] ?_))
    refine s_call (low_spec q (((x : Int) * 65536).toNat ||| ((x : Int) / 65536).toNat) k2) ?_
    (repeat (first | refine g ?_ | refine s_flat 1 [(.pure, [0, 1, 2, 3, 4, 5, 6, 7]), (.mem false, [8]), (.pure, [9])] ?_))
    refine run_ret rfl (imp_RD ?_ shut)
    rw [e1, e2, k1]; rfl
theorem word_lt (s : ByteArray) (i : Nat) : Spec.byteAt s i < 256 := by
  unfold Spec.byteAt Spec.at_ Spec.nats
  rw [List.getD_eq_getElem?_getD, List.getElem?_map]
  cases h : s.data.toList[i]? with
  | none => decide
  | some u => exact u.toNat_lt
theorem bAt_byteAt (s : ByteArray) (i : Nat) : bAt s i = (Spec.byteAt s i : Int) := by
  unfold bAt Spec.byteAt Spec.at_ Spec.nats
  rw [List.getD_eq_getElem?_getD, List.getD_eq_getElem?_getD, List.getElem?_map]
  cases s.data.toList[i]? <;> rfl
theorem word_spec (q : View) (s : ByteArray) (i : Nat) (hi : i + 3 < s.size) (hs : s.size ≤ 1000000) : FnD Try.prog q 40 [.string s, .int .i64 i] [] (.int .i64 ((Spec.word (Spec.nats s) i : Nat) : Int)) [] := by
  have h0 := bAt_lt s (i : Int).toNat
  have h1 := bAt_lt s ((i : Int) + 1).toNat
  have h2 := bAt_lt s ((i : Int) + 2).toNat
  have h3 := bAt_lt s ((i : Int) + 3).toNat
  (first | refine FnD.go Try.call40 Try.func40 rfl rfl rfl ?_ | refine FnX.go Try.call40 Try.func40 rfl rfl rfl ?_)
  (repeat (first | refine g ?_ | refine s_flat 1 [(.pure, [0, 1, 2, 3, 4, 5, 6, 7, 8, 9, 10, 11, 12, 13, 14, 15, 16, 17, 18, 19, 20, 21, 22, 23, 24, 25])] ?_))
  refine run_ret rfl (imp_RD ?_ shut)
  congr 1
  rw [show (i : Int).toNat = i from rfl, show ((i : Int) + 1).toNat = i + 1 by omega, show ((i : Int) + 2).toNat = i + 2 by omega, show ((i : Int) + 3).toNat = i + 3 by omega, bAt_byteAt, bAt_byteAt, bAt_byteAt, bAt_byteAt]
  unfold Spec.word
  show _ = ((Spec.byteAt s i + 256 * Spec.byteAt s (i + 1) + 65536 * Spec.byteAt s (i + 2) + 16777216 * Spec.byteAt s (i + 3) : Nat) : Int)
  omega
end Go.Proofs.Ytajjbgkbceobmaa.V
