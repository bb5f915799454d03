/- Seals: the ideal vault's Seal and Open. -/
import Derived.Test.YteengkkbedijdaaVK7
set_option maxRecDepth 10000
set_option linter.unusedVariables false
namespace Go.Proofs.Yteengkkbedijdaa.V
open Go.Proofs.Yteengkkbedijdaa.VL Go.Proofs.Yteengkkbedijdaa.VL.RD
attribute [local irreducible] Run numB
theorem iseal_spec (q : View) (i h m e : Nat) (s : VSt) (hs : VOk 1000000 s) (n : Int) (no ad t : ByteArray) (ht : t.size ≤ 1000000) :
    FnD Try.prog q 30 [.pointer (some ⟨i, 0, none⟩), .int .i64 n, .string no, .string ad, .string t] (iParts i h m e s []) (.string (t ++ numB (cntN s.es (sealedK n no ad t)) 16)) (iParts i h m e { s with es := cntL s.es (sealedK n no ad t) } []) := by
  have hc := (cnt_le s.es (sealedK n no ad t)).1
  have hl := hs.es
  have hz := numB_size (cntN s.es (sealedK n no ad t)) 16 (by decide)
  (first | refine FnD.go Try.call30 Try.func30 rfl rfl rfl ?_ | refine FnX.go Try.call30 Try.func30 rfl rfl rfl ?_)
  unfold iParts
  (repeat (first | refine g ?_))
  refine s_call (countE_spec q e s.es hs.eo n no ad t (by omega)) ?_
  (repeat (first | refine g ?_))
  refine s_call (numbered_spec q (cntN s.es (sealedK n no ad t)) 16 (by omega) (by omega) (by omega)) ?_
  (repeat (first | refine g ?_))
  exact run_ret rfl (imp_RD rfl shut)
def wrongF (n : Int) (no : ByteArray) : Bool := decide (n < 0 ∨ 281474976710656 ≤ n ∨ no.size ≠ 12)
theorem wrong_spec (q : View) (n : Int) (no : ByteArray) : FnD Try.prog q 29 [.int .i64 n, .string no] [] (.bool (wrongF n no)) [] := by
  unfold wrongF
  (first | refine FnD.go Try.call29 Try.func29 rfl rfl rfl ?_ | refine FnX.go Try.call29 Try.func29 rfl rfl rfl ?_)
  by_cases h0 : n < 0
  · rw [decide_eq_true (.inl h0)]
    (repeat (first | refine g ?_))
    exact run_ret rfl (imp_RD rfl shut)
  by_cases h1 : 281474976710656 ≤ n
  · rw [decide_eq_true (.inr (.inl h1))]
    (repeat (first | refine g ?_))
    exact run_ret rfl (imp_RD rfl shut)
  · have e : decide (n < 0 ∨ 281474976710656 ≤ n ∨ no.size ≠ 12) = decide ((no.size : Int) ≠ 12) := by rw [decide_eq_decide]; omega
    rw [e]
    (repeat (first | refine g ?_))
    exact run_ret rfl (imp_RD rfl shut)
def sealF (s : VSt) (n : Int) (no ad t : ByteArray) : (ByteArray × Int) × VSt := if wrongF n no = true then ((⟨#[]⟩, 1), s) else ((t ++ numB (cntN s.es (sealedK n no ad t)) 16, 0), { s with es := cntL s.es (sealedK n no ad t) })
theorem seal_spec (q : View) (v : Nat) (s : VSt) (hs : VOk 1000000 s) (n : Int) (no ad t : ByteArray) (ht : t.size ≤ 1000000) :
    FnD Try.prog q 17 [.pointer (some ⟨v, 0, none⟩), .int .i64 n, .string no, .string ad, .string t] [vaultAt v s] (.tuple #[.string (sealF s n no ad t).1.1, .int .i64 (sealF s n no ad t).1.2]) [vaultAt v (sealF s n no ad t).2] := by
  unfold sealF
  (first | refine FnD.go Try.call17 Try.func17 rfl rfl rfl ?_ | refine FnX.go Try.call17 Try.func17 rfl rfl rfl ?_)
  refine run_vault fun i h m e => ?_
  unfold vParts iParts
  (repeat (first | refine g ?_))
  refine s_call (none_spec q v i) ?_
  (repeat (first | refine g ?_))
  have cw := wrong_spec q n no
  cases hw : wrongF n no with
  | true =>
    rw [hw] at cw
    refine s_call cw ?_
    (repeat (first | refine g ?_))
    exact run_ret rfl (imp_RD rfl (imp_vault shut))
  | false =>
    rw [hw] at cw
    refine s_call cw ?_
    (repeat (first | refine g ?_))
    refine s_call (iseal_spec q i h m e s hs n no ad t ht) ?_
    (repeat (first | refine g ?_))
    exact run_ret rfl (imp_RD rfl (imp_vault shut))
def iopenF (s : VSt) (n : Int) (no ad t : ByteArray) : ByteArray × Int :=
  match pos s.es (sealedK n no ad (t.extract 0 (t.size - 16))) with
  | some m => if t.extract (t.size - 16) t.size = numB (m + 1) 16 then (t.extract 0 (t.size - 16), 0) else (⟨#[]⟩, 10)
  | none => (⟨#[]⟩, 10)
set_option maxHeartbeats 1000000 in
theorem iopen_spec (q : View) (i h m e : Nat) (s : VSt) (hs : VOk 1000000 s) (n : Int) (no ad t : ByteArray) (h16 : 16 ≤ t.size) (ht : t.size ≤ 1000000) :
    FnD Try.prog q 32 [.pointer (some ⟨i, 0, none⟩), .int .i64 n, .string no, .string ad, .string t] (iParts i h m e s []) (.tuple #[.string (iopenF s n no ad t).1, .int .i64 (iopenF s n no ad t).2]) (iParts i h m e s []) := by
  have hl := hs.es
  have hk := sealed_find s.es hs.eo n no ad (t.extract 0 (t.size - 16))
  rw [findK_numd] at hk
  unfold iopenF
  have e1 : t.extract (0 : Int).toNat ((t.size : Int) - 16).toNat = t.extract 0 (t.size - 16) := by rw [show (0 : Int).toNat = 0 from rfl, show ((t.size : Int) - 16).toNat = t.size - 16 by omega]
  have e2 : t.extract ((t.size : Int) - 16).toNat (t.size : Int).toNat = t.extract (t.size - 16) t.size := by rw [Int.toNat_natCast, show ((t.size : Int) - 16).toNat = t.size - 16 by omega]
  (first | refine FnD.go Try.call32 Try.func32 rfl rfl rfl ?_ | refine FnX.go Try.call32 Try.func32 rfl rfl rfl ?_)
  unfold iParts mapK
  (repeat (first | refine g ?_ | refine s_flat 2 [(.pure, [0, 1, 2, 4, 5, 6, 7, 8, 9, 10]), (.mem true, [3, 11]), (.pure, [12, 13, 14, 15, 16])] ?_ | refine s_flat 3 [(.pure, [0, 1, 2, 3, 4, 5, 6]), (.mem false, [7]), (.pure, [8, 9])] ?_))
  rw [e1]
  (repeat (first | refine g ?_ | refine s_flat 2 [(.pure, [0, 1, 2, 4, 5, 6, 7, 8, 9, 10]), (.mem true, [3, 11]), (.pure, [12, 13, 14, 15, 16])] ?_ | refine s_flat 3 [(.pure, [0, 1, 2, 3, 4, 5, 6]), (.mem false, [7]), (.pure, [8, 9])] ?_))
  cases hp : pos s.es (sealedK n no ad (t.extract 0 (t.size - 16))) with
  | some mm =>
    rw [hp] at hk
    have hlt := (pos_lt s.es _ mm hp).1
    simp only [Option.map_some, Nat.zero_add] at hk
    dsimp only
    refine s_look2s (k := encK (sealedK n no ad (t.extract 0 (t.size - 16)))) hk ?_
    by_cases hn : t.extract (t.size - 16) t.size = numB (mm + 1) 16
    · rw [if_pos hn]
      (repeat (first | refine g ?_ | refine s_flat 2 [(.pure, [0, 1, 2, 4, 5, 6, 7, 8, 9, 10]), (.mem true, [3, 11]), (.pure, [12, 13, 14, 15, 16])] ?_ | refine s_flat 3 [(.pure, [0, 1, 2, 3, 4, 5, 6]), (.mem false, [7]), (.pure, [8, 9])] ?_))
      rw [e2]
      (repeat (first | refine g ?_ | refine s_flat 2 [(.pure, [0, 1, 2, 4, 5, 6, 7, 8, 9, 10]), (.mem true, [3, 11]), (.pure, [12, 13, 14, 15, 16])] ?_ | refine s_flat 3 [(.pure, [0, 1, 2, 3, 4, 5, 6]), (.mem false, [7]), (.pure, [8, 9])] ?_))
      refine s_call (numbered_spec q (mm + 1) 16 (by omega) (by omega) (by omega)) ?_
      have hx : ¬ (t.extract (t.size - 16) t.size ≠ numB (mm + 1) 16) := fun h => h hn
      (repeat (first | refine g ?_ | refine s_flat 2 [(.pure, [0, 1, 2, 4, 5, 6, 7, 8, 9, 10]), (.mem true, [3, 11]), (.pure, [12, 13, 14, 15, 16])] ?_ | refine s_flat 3 [(.pure, [0, 1, 2, 3, 4, 5, 6]), (.mem false, [7]), (.pure, [8, 9])] ?_))
      rw [e1]
      (repeat (first | refine g ?_ | refine s_flat 2 [(.pure, [0, 1, 2, 4, 5, 6, 7, 8, 9, 10]), (.mem true, [3, 11]), (.pure, [12, 13, 14, 15, 16])] ?_ | refine s_flat 3 [(.pure, [0, 1, 2, 3, 4, 5, 6]), (.mem false, [7]), (.pure, [8, 9])] ?_))
      exact run_ret rfl (imp_RD rfl shut)
    · rw [if_neg hn]
      have hx : t.extract (t.size - 16) t.size ≠ numB (mm + 1) 16 := hn
      (repeat (first | refine g ?_ | refine s_flat 2 [(.pure, [0, 1, 2, 4, 5, 6, 7, 8, 9, 10]), (.mem true, [3, 11]), (.pure, [12, 13, 14, 15, 16])] ?_ | refine s_flat 3 [(.pure, [0, 1, 2, 3, 4, 5, 6]), (.mem false, [7]), (.pure, [8, 9])] ?_))
      rw [e2]
      (repeat (first | refine g ?_ | refine s_flat 2 [(.pure, [0, 1, 2, 4, 5, 6, 7, 8, 9, 10]), (.mem true, [3, 11]), (.pure, [12, 13, 14, 15, 16])] ?_ | refine s_flat 3 [(.pure, [0, 1, 2, 3, 4, 5, 6]), (.mem false, [7]), (.pure, [8, 9])] ?_))
      refine s_call (numbered_spec q (mm + 1) 16 (by omega) (by omega) (by omega)) ?_
      (repeat (first | refine g ?_ | refine s_flat 2 [(.pure, [0, 1, 2, 4, 5, 6, 7, 8, 9, 10]), (.mem true, [3, 11]), (.pure, [12, 13, 14, 15, 16])] ?_ | refine s_flat 3 [(.pure, [0, 1, 2, 3, 4, 5, 6]), (.mem false, [7]), (.pure, [8, 9])] ?_))
      exact run_ret rfl (imp_RD rfl shut)
  | none =>
    rw [hp] at hk
    simp only [Option.map_none] at hk
    dsimp only
    refine s_look2n (k := encK (sealedK n no ad (t.extract 0 (t.size - 16)))) hk ?_
    (repeat (first | refine g ?_ | refine s_flat 2 [(.pure, [0, 1, 2, 4, 5, 6, 7, 8, 9, 10]), (.mem true, [3, 11]), (.pure, [12, 13, 14, 15, 16])] ?_ | refine s_flat 3 [(.pure, [0, 1, 2, 3, 4, 5, 6]), (.mem false, [7]), (.pure, [8, 9])] ?_))
    exact run_ret rfl (imp_RD rfl shut)
end Go.Proofs.Yteengkkbedijdaa.V
