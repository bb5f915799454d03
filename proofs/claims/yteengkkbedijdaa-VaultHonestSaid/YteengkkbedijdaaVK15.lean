/- The document's ideal vault: Seal, Open. -/
import Derived.Test.YteengkkbedijdaaVK14
set_option maxRecDepth 10000
set_option linter.unusedVariables false
namespace Go.Proofs.Yteengkkbedijdaa.V
open Go.Proofs.Yteengkkbedijdaa.VL Go.Proofs.Yteengkkbedijdaa.VL.RD
attribute [local irreducible] Run numB
set_option maxHeartbeats 1000000 in
theorem rseal_spec (q : View) (b : Nat) (s : VSt) (hs : VOk 1000000 s) (n : Int) (no ad t : ByteArray) (ht : t.size ≤ 1000000) :
    FnD Try.prog q 38 [.pointer (some ⟨b, 0, none⟩), .int .i64 n, .string no, .string ad, .string t] [rAt b s] (.tuple #[.string (sealF s n no ad t).1.1, .int .i64 (sealF s n no ad t).1.2]) [rAt b (sealF s n no ad t).2] := by
  have hl := hs.es
  have hlen : ∀ x ∈ s.es, x.length = 4 := fun x hx => sealed_len (hs.eo x hx)
  have hrl := rowsK_length 4 s.es hlen
  have hz := fun m => numB_size m 16 (by decide)
  have cw := rwrong_spec q n no
  unfold sealF
  (first | refine FnD.go Try.call38 Try.func38 rfl rfl rfl ?_ | refine FnX.go Try.call38 Try.func38 rfl rfl rfl ?_)
  refine run_r fun ph ch pm cm pe ce => ?_
  unfold rParts
  (repeat (first | refine g ?_))
  cases hw : wrongF n no with
  | true =>
    rw [hw] at cw
    refine s_call cw ?_
    (repeat (first | refine g ?_))
    exact run_ret rfl (imp_RD rfl (imp_r shut))
  | false =>
    rw [hw] at cw
    refine s_call cw ?_
    (repeat (first | refine g ?_))
    have c := four_parts q b s hs n no ad t ph ch pm cm pe ce
    cases hp : pos s.es (sealedK n no ad t) with
    | some m =>
      have hlt := (pos_lt _ _ _ hp).1
      have e1 : cntN s.es (sealedK n no ad t) = m + 1 := by unfold cntN; rw [hp]
      have e2 : cntL s.es (sealedK n no ad t) = s.es := by unfold cntL; rw [hp]
      rw [posI_some hp] at c
      rw [e1, e2]
      have hz1 := hz (m + 1)
      refine s_call c ?_
      (repeat (first | refine g ?_))
      refine s_call (refNumbered_spec q (m + 1) 16 (by omega) (by omega) (by omega)) ?_
      (repeat (first | refine g ?_))
      exact run_ret rfl (imp_RD rfl (imp_r shut))
    | none =>
      have e1 : cntN s.es (sealedK n no ad t) = s.es.length + 1 := by unfold cntN; rw [hp]
      have e2 : cntL s.es (sealedK n no ad t) = s.es ++ [sealedK n no ad t] := by unfold cntL; rw [hp]
      rw [posI_none hp] at c
      rw [e1, e2, if_neg (by decide)]
      have hz1 := hz (s.es.length + 1)
      refine s_call c ?_
      (repeat (first | refine g ?_))
      refine s_built fun r => ?_
      (repeat (first | refine g ?_))
      refine s_app 4 56 (reads_own At.head rfl) fun r2 => ?_
      (repeat (first | refine g ?_))
      refine s_call (refNumbered_spec q (s.es.length + 1) 16 (by omega) (by omega) (by omega)) ?_
      (repeat (first | refine g ?_))
      refine run_ret rfl (imp_RD rfl ?_)
      refine imp_r (ph := ph) (ch := ch) (pm := pm) (cm := cm) (pe := r2.1) (ce := r2.2) ?_
      unfold rParts
      dsimp only
      rw [List.length_append, show rowsK (s.es ++ [sealedK n no ad t]) = rowsK s.es ++ [.int .i64 n, .string no, .string ad, .string t] by unfold rowsK; rw [List.flatMap_append]; rfl]
      exact shut
set_option maxHeartbeats 1000000 in
theorem ropen_spec (q : View) (b : Nat) (s : VSt) (hs : VOk 1000000 s) (n : Int) (no ad t : ByteArray) (ht : t.size ≤ 1000000) :
    FnD Try.prog q 39 [.pointer (some ⟨b, 0, none⟩), .int .i64 n, .string no, .string ad, .string t] [rAt b s] (.tuple #[.string (openF s n no ad t).1, .int .i64 (openF s n no ad t).2]) [rAt b s] := by
  have hl := hs.es
  have cw := rwrong_spec q n no
  unfold openF
  (first | refine FnD.go Try.call39 Try.func39 rfl rfl rfl ?_ | refine FnX.go Try.call39 Try.func39 rfl rfl rfl ?_)
  refine run_r fun ph ch pm cm pe ce => ?_
  unfold rParts
  (repeat (first | refine g ?_ | refine s_flat 9 [(.pure, [0, 1, 2, 3, 4, 5, 6, 7, 8]), (.mem false, [9]), (.pure, [10, 11])] ?_))
  cases hw : wrongF n no with
  | true =>
    rw [hw] at cw
    refine s_call cw ?_
    (repeat (first | refine g ?_ | refine s_flat 9 [(.pure, [0, 1, 2, 3, 4, 5, 6, 7, 8]), (.mem false, [9]), (.pure, [10, 11])] ?_))
    exact run_ret rfl (imp_RD rfl (imp_r shut))
  | false =>
    rw [hw] at cw
    refine s_call cw ?_
    by_cases h16 : t.size < 16
    · rw [if_neg (by decide), if_pos h16]
      (repeat (first | refine g ?_ | refine s_flat 9 [(.pure, [0, 1, 2, 3, 4, 5, 6, 7, 8]), (.mem false, [9]), (.pure, [10, 11])] ?_))
      exact run_ret rfl (imp_RD rfl (imp_r shut))
    · rw [if_neg (by decide), if_neg h16]
      have e1 : t.extract (0 : Int).toNat ((t.size : Int) - 16).toNat = t.extract 0 (t.size - 16) := by rw [show (0 : Int).toNat = 0 from rfl, show ((t.size : Int) - 16).toNat = t.size - 16 by omega]
      have z1 : (t.extract 0 (t.size - 16)).size = t.size - 16 := by rw [ByteArray.size_extract]; omega
      unfold iopenF
      obtain ⟨u, hu⟩ : ∃ u, u = t.extract 0 (t.size - 16) := ⟨_, rfl⟩
      rw [← hu] at z1 e1 ⊢
      have e2 : t.extract (u.size : Int).toNat (t.size : Int).toNat = t.extract (t.size - 16) t.size := by rw [Int.toNat_natCast, Int.toNat_natCast, z1]
      have c := four_parts q b s hs n no ad u ph ch pm cm pe ce
      (repeat (first | refine g ?_ | refine s_flat 9 [(.pure, [0, 1, 2, 3, 4, 5, 6, 7, 8]), (.mem false, [9]), (.pure, [10, 11])] ?_))
      rw [e1]
      (repeat (first | refine g ?_ | refine s_flat 9 [(.pure, [0, 1, 2, 3, 4, 5, 6, 7, 8]), (.mem false, [9]), (.pure, [10, 11])] ?_))
      cases hp : pos s.es (sealedK n no ad u) with
      | some m =>
        have hlt := (pos_lt _ _ _ hp).1
        rw [posI_some hp] at c
        dsimp only
        refine s_call c ?_
        by_cases hn : t.extract (t.size - 16) t.size = numB (m + 1) 16
        · rw [if_pos hn]
          have hx : ¬ (t.extract (t.size - 16) t.size ≠ numB (m + 1) 16) := fun h => h hn
          (repeat (first | refine g ?_ | refine s_flat 9 [(.pure, [0, 1, 2, 3, 4, 5, 6, 7, 8]), (.mem false, [9]), (.pure, [10, 11])] ?_))
          rw [e2]
          (repeat (first | refine g ?_ | refine s_flat 9 [(.pure, [0, 1, 2, 3, 4, 5, 6, 7, 8]), (.mem false, [9]), (.pure, [10, 11])] ?_))
          refine s_call (refNumbered_spec q (m + 1) 16 (by omega) (by omega) (by omega)) ?_
          (repeat (first | refine g ?_ | refine s_flat 9 [(.pure, [0, 1, 2, 3, 4, 5, 6, 7, 8]), (.mem false, [9]), (.pure, [10, 11])] ?_))
          exact run_ret rfl (imp_RD rfl (imp_r shut))
        · rw [if_neg hn]
          have hx : t.extract (t.size - 16) t.size ≠ numB (m + 1) 16 := hn
          (repeat (first | refine g ?_ | refine s_flat 9 [(.pure, [0, 1, 2, 3, 4, 5, 6, 7, 8]), (.mem false, [9]), (.pure, [10, 11])] ?_))
          rw [e2]
          (repeat (first | refine g ?_ | refine s_flat 9 [(.pure, [0, 1, 2, 3, 4, 5, 6, 7, 8]), (.mem false, [9]), (.pure, [10, 11])] ?_))
          refine s_call (refNumbered_spec q (m + 1) 16 (by omega) (by omega) (by omega)) ?_
          (repeat (first | refine g ?_ | refine s_flat 9 [(.pure, [0, 1, 2, 3, 4, 5, 6, 7, 8]), (.mem false, [9]), (.pure, [10, 11])] ?_))
          exact run_ret rfl (imp_RD rfl (imp_r shut))
      | none =>
        rw [posI_none hp] at c
        dsimp only
        refine s_call c ?_
        (repeat (first | refine g ?_ | refine s_flat 9 [(.pure, [0, 1, 2, 3, 4, 5, 6, 7, 8]), (.mem false, [9]), (.pure, [10, 11])] ?_))
        exact run_ret rfl (imp_RD rfl (imp_r shut))
end Go.Proofs.Yteengkkbedijdaa.V
