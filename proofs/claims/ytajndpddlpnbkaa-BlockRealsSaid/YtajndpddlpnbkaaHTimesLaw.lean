/- What times reckons, without a program: the five sums, and their value modulo 2^130 - 5. -/
import Derived.Test.YtajndpddlpnbkaaHPoly
namespace Go.Proofs.Ytajndpddlpnbkaa.B
open Go.RowKit Go.Proofs.YtajndpddlpnbkaaW.PrintWords
def w64 (x : Int) : Int := IntKind.u64.wrap x
theorem w64_in (x : Int) (h0 : 0 ≤ x) (h1 : x < 18446744073709551616) : w64 x = x := by unfold w64; rw [IntKind.wrap_u64]; omega
/-- One round of times. -/
def tstep (a b t : List Int) (i j : Nat) : List Int :=
  t.set ((i + j) % 5) (w64 (el t ((i + j) % 5) + (if 4 < i + j then w64 (w64 (el a i * el b j) * 5) else w64 (el a i * el b j))))
def trow (a b t : List Int) (i : Nat) : Nat → List Int
  | 0 => t
  | j + 1 => tstep a b (trow a b t i j) i j
def tall (a b : List Int) : Nat → List Int
  | 0 => [0, 0, 0, 0, 0]
  | i + 1 => trow a b (tall a b i) i 5
theorem trow_length (a b t : List Int) (i j : Nat) : (trow a b t i j).length = t.length := by
  induction j with
  | zero => rfl
  | succ j ih => simp [trow, tstep, ih]
theorem tall_length (a b : List Int) (i : Nat) : (tall a b i).length = 5 := by
  induction i with
  | zero => rfl
  | succ i ih => simp [tall, trow_length, ih]
theorem tstep_hi (a b t : List Int) (i j : Nat) (h : 4 < i + j) : tstep a b t i j = t.set ((i + j) % 5) (IntKind.u64.wrap (el t ((i + j) % 5) + IntKind.u64.wrap (IntKind.u64.wrap (el a i * el b j) * 5))) := by simp [tstep, h, w64]
theorem tstep_lo (a b t : List Int) (i j : Nat) (h : ¬ 4 < i + j) : tstep a b t i j = t.set ((i + j) % 5) (IntKind.u64.wrap (el t ((i + j) % 5) + IntKind.u64.wrap (el a i * el b j))) := by simp [tstep, h, w64]
/-- Five numbers below m. -/
def Small (m : Int) (a0 a1 a2 a3 a4 : Int) : Prop := (0 ≤ a0 ∧ a0 < m) ∧ (0 ≤ a1 ∧ a1 < m) ∧ (0 ≤ a2 ∧ a2 < m) ∧ (0 ≤ a3 ∧ a3 < m) ∧ (0 ≤ a4 ∧ a4 < m)
theorem mul_in {x y : Int} (hx : 0 ≤ x ∧ x < 268435456) (hy : 0 ≤ y ∧ y < 67108864) : 0 ≤ x * y ∧ x * y < 18014398509481984 := by
  refine ⟨Int.mul_nonneg hx.1 hy.1, ?_⟩
  have h1 : x * y ≤ 268435455 * y := Int.mul_le_mul_of_nonneg_right (by omega) hy.1
  omega
theorem val5_mul (x b0 b1 b2 b3 b4 : Int) : x * val5 b0 b1 b2 b3 b4 = val5 (x * b0) (x * b1) (x * b2) (x * b3) (x * b4) := by
  unfold val5; simp only [Int.mul_add, Int.mul_left_comm]
theorem mul_val5 (v a0 a1 a2 a3 a4 : Int) : val5 a0 a1 a2 a3 a4 * v = val5 (a0 * v) (a1 * v) (a2 * v) (a3 * v) (a4 * v) := by
  unfold val5; simp only [Int.add_mul, Int.mul_assoc]
structure IsTimes (a0 a1 a2 a3 a4 b0 b1 b2 b3 b4 s0 s1 s2 s3 s4 c : Int) : Prop where
  val : val5 s0 s1 s2 s3 s4 + c * P5 = val5 a0 a1 a2 a3 a4 * val5 b0 b1 b2 b3 b4
  small : Small 576460752303423488 s0 s1 s2 s3 s4
set_option maxHeartbeats 4000000 in
theorem times_plain (a0 a1 a2 a3 a4 b0 b1 b2 b3 b4 : Int) (ha : Small 268435456 a0 a1 a2 a3 a4) (hb : Small 67108864 b0 b1 b2 b3 b4) :
    ∃ s0 s1 s2 s3 s4 c, tall [a0, a1, a2, a3, a4] [b0, b1, b2, b3, b4] 5 = [s0, s1, s2, s3, s4] ∧ IsTimes a0 a1 a2 a3 a4 b0 b1 b2 b3 b4 s0 s1 s2 s3 s4 c := by
  obtain ⟨A0, A1, A2, A3, A4⟩ := ha
  obtain ⟨B0, B1, B2, B3, B4⟩ := hb
  have hv : val5 a0 a1 a2 a3 a4 * val5 b0 b1 b2 b3 b4 = val5 (val5 (a0 * b0) (a0 * b1) (a0 * b2) (a0 * b3) (a0 * b4)) (val5 (a1 * b0) (a1 * b1) (a1 * b2) (a1 * b3) (a1 * b4)) (val5 (a2 * b0) (a2 * b1) (a2 * b2) (a2 * b3) (a2 * b4)) (val5 (a3 * b0) (a3 * b1) (a3 * b2) (a3 * b3) (a3 * b4)) (val5 (a4 * b0) (a4 * b1) (a4 * b2) (a4 * b3) (a4 * b4)) := by
    rw [mul_val5]; simp only [val5_mul]
  have p00 := mul_in A0 B0; have p01 := mul_in A0 B1; have p02 := mul_in A0 B2; have p03 := mul_in A0 B3; have p04 := mul_in A0 B4
  have p10 := mul_in A1 B0; have p11 := mul_in A1 B1; have p12 := mul_in A1 B2; have p13 := mul_in A1 B3; have p14 := mul_in A1 B4
  have p20 := mul_in A2 B0; have p21 := mul_in A2 B1; have p22 := mul_in A2 B2; have p23 := mul_in A2 B3; have p24 := mul_in A2 B4
  have p30 := mul_in A3 B0; have p31 := mul_in A3 B1; have p32 := mul_in A3 B2; have p33 := mul_in A3 B3; have p34 := mul_in A3 B4
  have p40 := mul_in A4 B0; have p41 := mul_in A4 B1; have p42 := mul_in A4 B2; have p43 := mul_in A4 B3; have p44 := mul_in A4 B4
  clear A0 A1 A2 A3 A4 B0 B1 B2 B3 B4
  refine ⟨a0 * b0 + (a1 * b4 * 5 + a2 * b3 * 5 + a3 * b2 * 5 + a4 * b1 * 5), a0 * b1 + a1 * b0 + (a2 * b4 * 5 + a3 * b3 * 5 + a4 * b2 * 5), a0 * b2 + a1 * b1 + a2 * b0 + (a3 * b4 * 5 + a4 * b3 * 5), a0 * b3 + a1 * b2 + a2 * b1 + a3 * b0 + a4 * b4 * 5, a0 * b4 + a1 * b3 + a2 * b2 + a3 * b1 + a4 * b0,
    (a1 * b4 + a2 * b3 + a3 * b2 + a4 * b1) + 67108864 * (a2 * b4 + a3 * b3 + a4 * b2) + 4503599627370496 * (a3 * b4 + a4 * b3) + 302231454903657293676544 * (a4 * b4), ?_, ?_, ?_⟩
  · simp only [tall, trow, tstep, el, List.getD_eq_getElem?_getD, List.getElem?_cons_zero, List.getElem?_cons_succ, List.set_cons_zero, List.set_cons_succ, Option.getD_some, Nat.reduceAdd, Nat.reduceMod, Nat.reduceLT, if_true, if_false, Nat.zero_add, Nat.add_zero, Nat.lt_irrefl]
    generalize a0 * b0 = m00 at *; generalize a0 * b1 = m01 at *; generalize a0 * b2 = m02 at *; generalize a0 * b3 = m03 at *; generalize a0 * b4 = m04 at *
    generalize a1 * b0 = m10 at *; generalize a1 * b1 = m11 at *; generalize a1 * b2 = m12 at *; generalize a1 * b3 = m13 at *; generalize a1 * b4 = m14 at *
    generalize a2 * b0 = m20 at *; generalize a2 * b1 = m21 at *; generalize a2 * b2 = m22 at *; generalize a2 * b3 = m23 at *; generalize a2 * b4 = m24 at *
    generalize a3 * b0 = m30 at *; generalize a3 * b1 = m31 at *; generalize a3 * b2 = m32 at *; generalize a3 * b3 = m33 at *; generalize a3 * b4 = m34 at *
    generalize a4 * b0 = m40 at *; generalize a4 * b1 = m41 at *; generalize a4 * b2 = m42 at *; generalize a4 * b3 = m43 at *; generalize a4 * b4 = m44 at *
    clear hv
    simp (disch := omega) only [w64_in]
    simp only [List.cons.injEq, and_true]
    refine ⟨?_, ?_, ?_, ?_, ?_⟩ <;> omega
  · rw [hv]; unfold val5 P5; omega
  · unfold Small; omega
end Go.Proofs.Ytajndpddlpnbkaa.B
