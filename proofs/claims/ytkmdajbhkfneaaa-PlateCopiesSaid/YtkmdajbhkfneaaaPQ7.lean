/- Both tell the same. -/
import Derived.Test.YtkmdajbhkfneaaaPQ6
set_option maxRecDepth 10000
set_option linter.unusedVariables false
namespace Go.Proofs.Ytkmdajbhkfneaaa.V
open Go.Proofs.Ytkmdajbhkfneaaa.VL
attribute [local irreducible] Run
theorem stands_spec (q : View) (b c : Nat) (s : PSt) (t : QSt) (n : Nat) (h : Both n s t) :
    FnD Try.prog q 30 [.pointer (some ⟨b, 0, none⟩), .pointer (some ⟨c, 0, none⟩)] [plateAt b s, qAt c t] (.bool true) [plateAt b s, qAt c t] := by
  have hq := h.qw
  have h1 := h.sec
  have h2 := h.down
  have h3 := h.reads
  have h4 := h.writes
  have h5 : t.wait.length = s.cache.length := congrArg _ h.cache
  have hsec := hq.sec
  (first | refine FnD.go Try.call30 Try.func30 rfl rfl rfl ?_ | refine FnX.go Try.call30 Try.func30 rfl rfl rfl ?_)
  refine run_pull (X := qAt c t) (by (repeat (first | (with_reducible exact Pull.head) | apply Pull.tail))) ?_
  refine run_q fun pk ck pd cd pw cw => ?_
  unfold qParts
  (repeat (first | refine g ?_))
  refine d_start [plateAt b s] ?_
  (first | refine d_pure 0 ?_ | refine d_load 0 ?_ | refine d_arith 0 ?_ | refine d_rem 0 ?_ | refine d_quo 0 ?_ | refine d_fieldat 0 ?_ | refine d_idx1 0 ?_ | refine d_index 0 ?_ | refine d_conv64 0 ?_ | refine d_slices 0 ?_ | refine d_concat 0 ?_ | refine d_build 0 ?_)
  (first | refine d_pure 2 ?_ | refine d_load 2 ?_ | refine d_arith 2 ?_ | refine d_rem 2 ?_ | refine d_quo 2 ?_ | refine d_fieldat 2 ?_ | refine d_idx1 2 ?_ | refine d_index 2 ?_ | refine d_conv64 2 ?_ | refine d_slices 2 ?_ | refine d_concat 2 ?_ | refine d_build 2 ?_)
  (first | refine d_pure 3 ?_ | refine d_load 3 ?_ | refine d_arith 3 ?_ | refine d_rem 3 ?_ | refine d_quo 3 ?_ | refine d_fieldat 3 ?_ | refine d_idx1 3 ?_ | refine d_index 3 ?_ | refine d_conv64 3 ?_ | refine d_slices 3 ?_ | refine d_concat 3 ?_ | refine d_build 3 ?_)
  (first | refine d_pure 4 ?_ | refine d_load 4 ?_ | refine d_arith 4 ?_ | refine d_rem 4 ?_ | refine d_quo 4 ?_ | refine d_fieldat 4 ?_ | refine d_idx1 4 ?_ | refine d_index 4 ?_ | refine d_conv64 4 ?_ | refine d_slices 4 ?_ | refine d_concat 4 ?_ | refine d_build 4 ?_)
  (first | refine d_pure 5 ?_ | refine d_load 5 ?_ | refine d_arith 5 ?_ | refine d_rem 5 ?_ | refine d_quo 5 ?_ | refine d_fieldat 5 ?_ | refine d_idx1 5 ?_ | refine d_index 5 ?_ | refine d_conv64 5 ?_ | refine d_slices 5 ?_ | refine d_concat 5 ?_ | refine d_build 5 ?_)
  (first | refine d_pure 6 ?_ | refine d_load 6 ?_ | refine d_arith 6 ?_ | refine d_rem 6 ?_ | refine d_quo 6 ?_ | refine d_fieldat 6 ?_ | refine d_idx1 6 ?_ | refine d_index 6 ?_ | refine d_conv64 6 ?_ | refine d_slices 6 ?_ | refine d_concat 6 ?_ | refine d_build 6 ?_)
  refine d_call 1 (sectors_spec q b s) ?_
  (first | refine d_pure 7 ?_ | refine d_load 7 ?_ | refine d_arith 7 ?_ | refine d_rem 7 ?_ | refine d_quo 7 ?_ | refine d_fieldat 7 ?_ | refine d_idx1 7 ?_ | refine d_index 7 ?_ | refine d_conv64 7 ?_ | refine d_slices 7 ?_ | refine d_concat 7 ?_ | refine d_build 7 ?_)
  (refine d_pure 8 ?_); refine d_is 18 (c := false) (decide_eq_false (p := s.sectors ≠ (t.kept.length : Int)) (by omega)) ?_
  (first | refine d_pure 9 ?_ | refine d_load 9 ?_ | refine d_arith 9 ?_ | refine d_rem 9 ?_ | refine d_quo 9 ?_ | refine d_fieldat 9 ?_ | refine d_idx1 9 ?_ | refine d_index 9 ?_ | refine d_conv64 9 ?_ | refine d_slices 9 ?_ | refine d_concat 9 ?_ | refine d_build 9 ?_)
  (first | refine d_pure 11 ?_ | refine d_load 11 ?_ | refine d_arith 11 ?_ | refine d_rem 11 ?_ | refine d_quo 11 ?_ | refine d_fieldat 11 ?_ | refine d_idx1 11 ?_ | refine d_index 11 ?_ | refine d_conv64 11 ?_ | refine d_slices 11 ?_ | refine d_concat 11 ?_ | refine d_build 11 ?_)
  (first | refine d_pure 12 ?_ | refine d_load 12 ?_ | refine d_arith 12 ?_ | refine d_rem 12 ?_ | refine d_quo 12 ?_ | refine d_fieldat 12 ?_ | refine d_idx1 12 ?_ | refine d_index 12 ?_ | refine d_conv64 12 ?_ | refine d_slices 12 ?_ | refine d_concat 12 ?_ | refine d_build 12 ?_)
  (first | refine d_pure 13 ?_ | refine d_load 13 ?_ | refine d_arith 13 ?_ | refine d_rem 13 ?_ | refine d_quo 13 ?_ | refine d_fieldat 13 ?_ | refine d_idx1 13 ?_ | refine d_index 13 ?_ | refine d_conv64 13 ?_ | refine d_slices 13 ?_ | refine d_concat 13 ?_ | refine d_build 13 ?_)
  (first | refine d_pure 14 ?_ | refine d_load 14 ?_ | refine d_arith 14 ?_ | refine d_rem 14 ?_ | refine d_quo 14 ?_ | refine d_fieldat 14 ?_ | refine d_idx1 14 ?_ | refine d_index 14 ?_ | refine d_conv64 14 ?_ | refine d_slices 14 ?_ | refine d_concat 14 ?_ | refine d_build 14 ?_)
  refine d_call 10 (up_spec q b s) ?_
  (first | refine d_pure 15 ?_ | refine d_load 15 ?_ | refine d_arith 15 ?_ | refine d_rem 15 ?_ | refine d_quo 15 ?_ | refine d_fieldat 15 ?_ | refine d_idx1 15 ?_ | refine d_index 15 ?_ | refine d_conv64 15 ?_ | refine d_slices 15 ?_ | refine d_concat 15 ?_ | refine d_build 15 ?_)
  (first | refine d_pure 16 ?_ | refine d_load 16 ?_ | refine d_arith 16 ?_ | refine d_rem 16 ?_ | refine d_quo 16 ?_ | refine d_fieldat 16 ?_ | refine d_idx1 16 ?_ | refine d_index 16 ?_ | refine d_conv64 16 ?_ | refine d_slices 16 ?_ | refine d_concat 16 ?_ | refine d_build 16 ?_)
  (refine d_pure 17 ?_); refine d_is 27 (b := (!s.down) == t.down) (c := false) (by rw [h2]; cases s.down <;> rfl) ?_
  (first | refine d_pure 18 ?_ | refine d_load 18 ?_ | refine d_arith 18 ?_ | refine d_rem 18 ?_ | refine d_quo 18 ?_ | refine d_fieldat 18 ?_ | refine d_idx1 18 ?_ | refine d_index 18 ?_ | refine d_conv64 18 ?_ | refine d_slices 18 ?_ | refine d_concat 18 ?_ | refine d_build 18 ?_)
  (first | refine d_pure 20 ?_ | refine d_load 20 ?_ | refine d_arith 20 ?_ | refine d_rem 20 ?_ | refine d_quo 20 ?_ | refine d_fieldat 20 ?_ | refine d_idx1 20 ?_ | refine d_index 20 ?_ | refine d_conv64 20 ?_ | refine d_slices 20 ?_ | refine d_concat 20 ?_ | refine d_build 20 ?_)
  (first | refine d_pure 21 ?_ | refine d_load 21 ?_ | refine d_arith 21 ?_ | refine d_rem 21 ?_ | refine d_quo 21 ?_ | refine d_fieldat 21 ?_ | refine d_idx1 21 ?_ | refine d_index 21 ?_ | refine d_conv64 21 ?_ | refine d_slices 21 ?_ | refine d_concat 21 ?_ | refine d_build 21 ?_)
  (first | refine d_pure 22 ?_ | refine d_load 22 ?_ | refine d_arith 22 ?_ | refine d_rem 22 ?_ | refine d_quo 22 ?_ | refine d_fieldat 22 ?_ | refine d_idx1 22 ?_ | refine d_index 22 ?_ | refine d_conv64 22 ?_ | refine d_slices 22 ?_ | refine d_concat 22 ?_ | refine d_build 22 ?_)
  (first | refine d_pure 23 ?_ | refine d_load 23 ?_ | refine d_arith 23 ?_ | refine d_rem 23 ?_ | refine d_quo 23 ?_ | refine d_fieldat 23 ?_ | refine d_idx1 23 ?_ | refine d_index 23 ?_ | refine d_conv64 23 ?_ | refine d_slices 23 ?_ | refine d_concat 23 ?_ | refine d_build 23 ?_)
  (first | refine d_pure 24 ?_ | refine d_load 24 ?_ | refine d_arith 24 ?_ | refine d_rem 24 ?_ | refine d_quo 24 ?_ | refine d_fieldat 24 ?_ | refine d_idx1 24 ?_ | refine d_index 24 ?_ | refine d_conv64 24 ?_ | refine d_slices 24 ?_ | refine d_concat 24 ?_ | refine d_build 24 ?_)
  refine d_call 19 (pending_spec q b s) ?_
  (first | refine d_pure 25 ?_ | refine d_load 25 ?_ | refine d_arith 25 ?_ | refine d_rem 25 ?_ | refine d_quo 25 ?_ | refine d_fieldat 25 ?_ | refine d_idx1 25 ?_ | refine d_index 25 ?_ | refine d_conv64 25 ?_ | refine d_slices 25 ?_ | refine d_concat 25 ?_ | refine d_build 25 ?_)
  (first | refine d_pure 26 ?_ | refine d_load 26 ?_ | refine d_arith 26 ?_ | refine d_rem 26 ?_ | refine d_quo 26 ?_ | refine d_fieldat 26 ?_ | refine d_idx1 26 ?_ | refine d_index 26 ?_ | refine d_conv64 26 ?_ | refine d_slices 26 ?_ | refine d_concat 26 ?_ | refine d_build 26 ?_)
  (refine d_pure 27 ?_); refine d_is 37 (c := false) (decide_eq_false (p := (s.cache.length : Int) ≠ (t.wait.length : Int)) (by omega)) ?_
  (first | refine d_pure 28 ?_ | refine d_load 28 ?_ | refine d_arith 28 ?_ | refine d_rem 28 ?_ | refine d_quo 28 ?_ | refine d_fieldat 28 ?_ | refine d_idx1 28 ?_ | refine d_index 28 ?_ | refine d_conv64 28 ?_ | refine d_slices 28 ?_ | refine d_concat 28 ?_ | refine d_build 28 ?_)
  (first | refine d_pure 30 ?_ | refine d_load 30 ?_ | refine d_arith 30 ?_ | refine d_rem 30 ?_ | refine d_quo 30 ?_ | refine d_fieldat 30 ?_ | refine d_idx1 30 ?_ | refine d_index 30 ?_ | refine d_conv64 30 ?_ | refine d_slices 30 ?_ | refine d_concat 30 ?_ | refine d_build 30 ?_)
  (first | refine d_pure 31 ?_ | refine d_load 31 ?_ | refine d_arith 31 ?_ | refine d_rem 31 ?_ | refine d_quo 31 ?_ | refine d_fieldat 31 ?_ | refine d_idx1 31 ?_ | refine d_index 31 ?_ | refine d_conv64 31 ?_ | refine d_slices 31 ?_ | refine d_concat 31 ?_ | refine d_build 31 ?_)
  (first | refine d_pure 32 ?_ | refine d_load 32 ?_ | refine d_arith 32 ?_ | refine d_rem 32 ?_ | refine d_quo 32 ?_ | refine d_fieldat 32 ?_ | refine d_idx1 32 ?_ | refine d_index 32 ?_ | refine d_conv64 32 ?_ | refine d_slices 32 ?_ | refine d_concat 32 ?_ | refine d_build 32 ?_)
  (first | refine d_pure 33 ?_ | refine d_load 33 ?_ | refine d_arith 33 ?_ | refine d_rem 33 ?_ | refine d_quo 33 ?_ | refine d_fieldat 33 ?_ | refine d_idx1 33 ?_ | refine d_index 33 ?_ | refine d_conv64 33 ?_ | refine d_slices 33 ?_ | refine d_concat 33 ?_ | refine d_build 33 ?_)
  refine d_call 29 (reads_spec q b s) ?_
  (first | refine d_pure 34 ?_ | refine d_load 34 ?_ | refine d_arith 34 ?_ | refine d_rem 34 ?_ | refine d_quo 34 ?_ | refine d_fieldat 34 ?_ | refine d_idx1 34 ?_ | refine d_index 34 ?_ | refine d_conv64 34 ?_ | refine d_slices 34 ?_ | refine d_concat 34 ?_ | refine d_build 34 ?_)
  (first | refine d_pure 35 ?_ | refine d_load 35 ?_ | refine d_arith 35 ?_ | refine d_rem 35 ?_ | refine d_quo 35 ?_ | refine d_fieldat 35 ?_ | refine d_idx1 35 ?_ | refine d_index 35 ?_ | refine d_conv64 35 ?_ | refine d_slices 35 ?_ | refine d_concat 35 ?_ | refine d_build 35 ?_)
  (refine d_pure 36 ?_); refine d_is 46 (c := false) (decide_eq_false (p := s.reads ≠ t.reads) (by omega)) ?_
  (first | refine d_pure 37 ?_ | refine d_load 37 ?_ | refine d_arith 37 ?_ | refine d_rem 37 ?_ | refine d_quo 37 ?_ | refine d_fieldat 37 ?_ | refine d_idx1 37 ?_ | refine d_index 37 ?_ | refine d_conv64 37 ?_ | refine d_slices 37 ?_ | refine d_concat 37 ?_ | refine d_build 37 ?_)
  (first | refine d_pure 39 ?_ | refine d_load 39 ?_ | refine d_arith 39 ?_ | refine d_rem 39 ?_ | refine d_quo 39 ?_ | refine d_fieldat 39 ?_ | refine d_idx1 39 ?_ | refine d_index 39 ?_ | refine d_conv64 39 ?_ | refine d_slices 39 ?_ | refine d_concat 39 ?_ | refine d_build 39 ?_)
  (first | refine d_pure 40 ?_ | refine d_load 40 ?_ | refine d_arith 40 ?_ | refine d_rem 40 ?_ | refine d_quo 40 ?_ | refine d_fieldat 40 ?_ | refine d_idx1 40 ?_ | refine d_index 40 ?_ | refine d_conv64 40 ?_ | refine d_slices 40 ?_ | refine d_concat 40 ?_ | refine d_build 40 ?_)
  (first | refine d_pure 41 ?_ | refine d_load 41 ?_ | refine d_arith 41 ?_ | refine d_rem 41 ?_ | refine d_quo 41 ?_ | refine d_fieldat 41 ?_ | refine d_idx1 41 ?_ | refine d_index 41 ?_ | refine d_conv64 41 ?_ | refine d_slices 41 ?_ | refine d_concat 41 ?_ | refine d_build 41 ?_)
  (first | refine d_pure 42 ?_ | refine d_load 42 ?_ | refine d_arith 42 ?_ | refine d_rem 42 ?_ | refine d_quo 42 ?_ | refine d_fieldat 42 ?_ | refine d_idx1 42 ?_ | refine d_index 42 ?_ | refine d_conv64 42 ?_ | refine d_slices 42 ?_ | refine d_concat 42 ?_ | refine d_build 42 ?_)
  refine d_call 38 (writes_spec q b s) ?_
  (first | refine d_pure 43 ?_ | refine d_load 43 ?_ | refine d_arith 43 ?_ | refine d_rem 43 ?_ | refine d_quo 43 ?_ | refine d_fieldat 43 ?_ | refine d_idx1 43 ?_ | refine d_index 43 ?_ | refine d_conv64 43 ?_ | refine d_slices 43 ?_ | refine d_concat 43 ?_ | refine d_build 43 ?_)
  (first | refine d_pure 44 ?_ | refine d_load 44 ?_ | refine d_arith 44 ?_ | refine d_rem 44 ?_ | refine d_quo 44 ?_ | refine d_fieldat 44 ?_ | refine d_idx1 44 ?_ | refine d_index 44 ?_ | refine d_conv64 44 ?_ | refine d_slices 44 ?_ | refine d_concat 44 ?_ | refine d_build 44 ?_)
  refine d_done ?_
  (repeat (first | refine g ?_))
  refine run_loopI (X := Nat) (fun i => i ≤ t.kept.length) (fun i => [(0, .pointer (some ⟨b, 0, none⟩)), (1, .pointer (some ⟨c, 0, none⟩)), (5, .int .i64 (i : Int))])
    (fun i => plateAt b s :: qParts c t pk ck pd cd pw cw []) (fun i => t.kept.length - i) 0 (Nat.zero_le _) fct shut ?_
  intro i hi
  unfold qParts
  (repeat (first | refine g ?_))
  refine run_cond_dec rfl ?_ ?_
  · intro h1
    have c1 := held_spec q b s h.wf i
    have c2 := qheld_parts q c t hq.dumb hq.sec pk ck pd cd pw cw i
    rw [h.held] at c2
    (repeat (first | refine g ?_))
    refine s_call c1 ?_
    (repeat (first | refine g ?_))
    refine s_call c2 ?_
    have e1 : ¬ ((heldF s i).1 ≠ (heldF s i).1) := fun h => h rfl
    (repeat (first | refine g ?_))
    exact run_stop_loop (i + 1) ⟨by omega, by omega⟩ fct shut
  · intro h1
    (repeat (first | refine g ?_))
    refine run_ret rfl (imp_RD rfl ?_)
    refine imp_pick (X := plateAt b s) (by (repeat (first | (with_reducible exact Pull.head) | apply Pull.tail))) ?_
    exact imp_q shut
end Go.Proofs.Ytkmdajbhkfneaaa.V
