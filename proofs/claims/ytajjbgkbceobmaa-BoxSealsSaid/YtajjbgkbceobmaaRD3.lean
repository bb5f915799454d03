/- The reference's product modulo 2^130 - 5, and the key that is clamped. -/
import Derived.Test.YtajjbgkbceobmaaRD2
set_option maxRecDepth 10000
set_option linter.unusedVariables false
namespace Go.Proofs.Ytajjbgkbceobmaa.V
open Go.Proofs.Ytajjbgkbceobmaa.VL Go.Proofs.Ytajjbgkbceobmaa.VL.RD
attribute [local irreducible] Run
theorem times_spec (q : View) (ba ca bb cb : Nat) (a b : List Nat) (la : a.length = 13) (lb : b.length = 13) (ha : ∀ x ∈ a, x < 1024) (hb : ∀ x ∈ b, x < 1024) :
    FnX Try.prog q 29 [.slice (some ⟨ba, 0, none⟩) 13 ca, .slice (some ⟨bb, 0, none⟩) 13 cb] [sl (some ⟨ba, 0, none⟩) 13 ca 3 1 (iv a), sl (some ⟨bb, 0, none⟩) 13 cb 3 1 (iv b)] (fun r : Nat × Nat => .slice (some ⟨r.1, 0, none⟩) 13 r.2)
      fun r => [sl (some ⟨r.1, 0, none⟩) 13 r.2 3 1 (iv (dgs (val a * val b % P130) 13)), sl (some ⟨bb, 0, none⟩) 13 cb 3 1 (iv b)] := by
  (first | refine FnD.go Try.call29 Try.func29 rfl rfl rfl ?_ | refine FnX.go Try.call29 Try.func29 rfl rfl rfl ?_)
  (repeat (first | refine g ?_ | refine s_flat 8 [(.pure, [0, 1, 2, 3, 4, 5, 6, 7, 8, 10, 11, 12, 14, 15, 16]), (.mem true, [9, 13, 17]), (.pure, [18, 19, 20]), (.mem false, [21])] ?_))
  refine s_made 8 26 26 fun ro => ?_
  (repeat (first | refine g ?_ | refine s_flat 8 [(.pure, [0, 1, 2, 3, 4, 5, 6, 7, 8, 10, 11, 12, 14, 15, 16]), (.mem true, [9, 13, 17]), (.pure, [18, 19, 20]), (.mem false, [21])] ?_))
  rw [zero_iv]
  refine run_to_sl (n := 26) (kk := 1) rfl ?_
  refine run_loopI (X := Nat × List Nat) (fun x => x.1 ≤ 13 ∧ x.2.length = 26 ∧ val x.2 = val (a.take x.1) * val b ∧ ∀ d ∈ x.2, d ≤ x.1 * 13631488) (fun x => [(0, .slice (some ⟨ba, 0, none⟩) 13 ca), (1, .slice (some ⟨bb, 0, none⟩) 13 cb), (5, .slice (some ⟨ro, 0, none⟩) 26 26), (6, .int .i64 (x.1 : Int))])
    (fun x => [sl (some ⟨ro, 0, none⟩) 26 26 3 1 (iv x.2), sl (some ⟨ba, 0, none⟩) 13 ca 3 1 (iv a), sl (some ⟨bb, 0, none⟩) 13 cb 3 1 (iv b)]) (fun x => 13 - x.1) (0, List.replicate 26 0) ⟨Nat.zero_le _, rfl, by simp [val], by decide⟩ fct shut ?_
  intro ⟨i, S⟩ ⟨hi, lS, vS, bS⟩
  dsimp only at *
  (repeat (first | refine g ?_ | refine s_flat 8 [(.pure, [0, 1, 2, 3, 4, 5, 6, 7, 8, 10, 11, 12, 14, 15, 16]), (.mem true, [9, 13, 17]), (.pure, [18, 19, 20]), (.mem false, [21])] ?_))
  refine run_cond_dec rfl ?_ ?_
  · intro h
    obtain ⟨x, hx⟩ : ∃ x, a[i]? = some x := ⟨_, List.getElem?_eq_getElem (by omega)⟩
    have hxM := ha x (List.mem_of_getElem? hx)
    (repeat (first | refine g ?_ | refine s_flat 8 [(.pure, [0, 1, 2, 3, 4, 5, 6, 7, 8, 10, 11, 12, 14, 15, 16]), (.mem true, [9, 13, 17]), (.pure, [18, 19, 20]), (.mem false, [21])] ?_))
    refine run_loopI (X := Nat × List Nat) (fun y => y.1 ≤ 13 ∧ y.2.length = 26 ∧ val y.2 = val S + 1024 ^ i * (x * val (b.take y.1)) ∧ ∀ d ∈ y.2, d ≤ i * 13631488 + y.1 * 1048576) (fun y => [(0, .slice (some ⟨ba, 0, none⟩) 13 ca), (1, .slice (some ⟨bb, 0, none⟩) 13 cb), (5, .slice (some ⟨ro, 0, none⟩) 26 26), (6, .int .i64 (i : Int)), (7, .int .i64 (y.1 : Int))])
      (fun y => [sl (some ⟨ro, 0, none⟩) 26 26 3 1 (iv y.2), sl (some ⟨ba, 0, none⟩) 13 ca 3 1 (iv a), sl (some ⟨bb, 0, none⟩) 13 cb 3 1 (iv b)]) (fun y => 13 - y.1) (0, S) ⟨Nat.zero_le _, lS, by simp [val], by simpa using bS⟩ fct shut ?_
    intro ⟨j, U⟩ ⟨hj, lU, vU, bU⟩
    dsimp only at *
    (repeat (first | refine g ?_ | refine s_flat 8 [(.pure, [0, 1, 2, 3, 4, 5, 6, 7, 8, 10, 11, 12, 14, 15, 16]), (.mem true, [9, 13, 17]), (.pure, [18, 19, 20]), (.mem false, [21])] ?_))
    refine run_cond_dec rfl ?_ ?_
    · intro h2
      obtain ⟨y, hy⟩ : ∃ y, b[j]? = some y := ⟨_, List.getElem?_eq_getElem (by omega)⟩
      obtain ⟨z, hz⟩ : ∃ z, U[i + j]? = some z := ⟨_, List.getElem?_eq_getElem (by omega)⟩
      have hyM := hb y (List.mem_of_getElem? hy)
      have hzM := bU z (List.mem_of_getElem? hz)
      have hxy : x * y ≤ 1048576 := Nat.le_trans (Nat.mul_le_mul (show x ≤ 1024 by omega) (show y ≤ 1024 by omega)) (by decide)
      have hxyI : (x : Int) * (y : Int) = ((x * y : Nat) : Int) := by push_cast; rfl
      have hxy0 : 0 ≤ (x : Int) * (y : Int) := by omega
      have ei : ((i : Int) + (j : Int)).toNat = i + j := by omega
      have hz' : U[((i : Int) + (j : Int)).toNat]? = some z := by rw [ei]; exact hz
      (repeat (first | refine g ?_ | refine s_flat 8 [(.pure, [0, 1, 2, 3, 4, 5, 6, 7, 8, 10, 11, 12, 14, 15, 16]), (.mem true, [9, 13, 17]), (.pure, [18, 19, 20]), (.mem false, [21])] ?_ | refine s_loadsl (iv_at a i x hx) ?_ | refine s_loadsl (iv_at b j y hy) ?_ | refine s_loadsl (iv_at U _ z hz') ?_ | refine s_storesl ?_))
      have e : (iv U).set ((i : Int) + (j : Int)).toNat (Value.int .i64 ((z : Int) + (x : Int) * (y : Int))) = iv (U.set (i + j) (z + x * y)) := by
        rw [ei, hxyI]; exact iv_set U (i + j) (z + x * y)
      refine s_eq e ?_
      refine run_stop_loop (j + 1, U.set (i + j) (z + x * y)) ?_ fct shut
      refine ⟨⟨by dsimp only; omega, by simpa using lU, ?_, ?_⟩, by dsimp only; omega⟩
      · dsimp only
        rw [val_set U (i + j) z (x * y) hz, vU, val_take_succ b j y hy, Nat.mul_add, Nat.mul_add, Nat.pow_add]
        rw [show 1024 ^ i * (x * (y * 1024 ^ j)) = x * y * (1024 ^ i * 1024 ^ j) by
          rw [← Nat.mul_assoc x y, Nat.mul_comm (x * y), ← Nat.mul_assoc, Nat.mul_comm (1024 ^ i * 1024 ^ j)]]
        omega
      · intro d hd
        dsimp only
        rcases List.mem_or_eq_of_mem_set hd with h | h
        · exact Nat.le_trans (bU d h) (Nat.add_le_add_left (Nat.mul_le_mul_right _ (Nat.le_succ j)) _)
        · omega
    · intro h2
      obtain rfl : j = 13 := by omega
      (repeat (first | refine g ?_ | refine s_flat 8 [(.pure, [0, 1, 2, 3, 4, 5, 6, 7, 8, 10, 11, 12, 14, 15, 16]), (.mem true, [9, 13, 17]), (.pure, [18, 19, 20]), (.mem false, [21])] ?_))
      refine run_stop_loop (i + 1, U) ?_ fct shut
      refine ⟨⟨by dsimp only; omega, lU, ?_, ?_⟩, by dsimp only; omega⟩
      · dsimp only
        rw [vU, List.take_of_length_le (by omega), val_take_succ a i x hx, Nat.add_mul, vS, ← Nat.mul_assoc, Nat.mul_comm (1024 ^ i)]
      · intro d hd
        have := bU d hd
        dsimp only; omega
  · intro h
    obtain rfl : i = 13 := by omega
    rw [List.take_of_length_le (by omega)] at vS
    (repeat (first | refine g ?_ | refine s_flat 8 [(.pure, [0, 1, 2, 3, 4, 5, 6, 7, 8, 10, 11, 12, 14, 15, 16]), (.mem true, [9, 13, 17]), (.pure, [18, 19, 20]), (.mem false, [21])] ?_))
    refine s_callx (reduced_spec q ro 26 26 S lS (by decide) (by decide) (by decide) fun d hd => by have := bS d hd; unfold M36; omega) fun r => ?_
    rw [vS]
    (repeat (first | refine g ?_ | refine s_flat 8 [(.pure, [0, 1, 2, 3, 4, 5, 6, 7, 8, 10, 11, 12, 14, 15, 16]), (.mem true, [9, 13, 17]), (.pure, [18, 19, 20]), (.mem false, [21])] ?_))
    exact run_ret rfl (imp_RX r rfl shut)
end Go.Proofs.Ytajjbgkbceobmaa.V
