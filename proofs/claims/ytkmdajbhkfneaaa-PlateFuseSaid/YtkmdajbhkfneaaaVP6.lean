/- The device: New. -/
import Derived.Test.YtkmdajbhkfneaaaVP5
set_option maxRecDepth 10000
set_option linter.unusedVariables false
namespace Go.Proofs.Ytkmdajbhkfneaaa.V
open Go.Proofs.Ytkmdajbhkfneaaa.VL
def blank (n : Nat) : PSt := ⟨n, List.replicate n ⟨#[]⟩, List.replicate n false, [], -1, false, 0, 0⟩
theorem blank_wf (n : Nat) (h : n ≤ 32768) : WF (blank n) := ⟨by simp [blank], by simp [blank], by simp [blank]; omega, by simp [blank], by simp [blank], by simp [blank], by simp [blank], by simp [blank]⟩
theorem new_bad (q : View) (n : Int) (h : n < 0 ∨ 32768 < n) : FnD Try.prog q 11 [.int .i64 n] [] (.tuple #[.pointer none, .int .i64 1]) [] := by
  refine FnD.of_run Try.call11 Try.func11 rfl [(0, .int .i64 n)] (Nat.le_of_ble_eq_true rfl) (by simp) ?_
  repeat (first | (with_reducible refine run_seq ?_) | (refine run_region rfl rfl ?_) | (with_reducible refine run_ops_nil ?_) | (refine run_pure1 tabOk rfl ?_) | (with_reducible refine run_block ?_) | (with_reducible refine run_blk ?_) | (with_reducible refine run_label ?_) | (with_reducible refine run_skip ?_) | (refine run_exit rfl ?_) | (apply w_fieldat tabOk; rfl; rfl; rfl; rfl) | (apply w_load tabOk rfl rfl rfl rfl; (repeat (first | (with_reducible exact At.head) | apply At.tail)); rfl; rfl) | (apply w_store tabOk rfl rfl rfl rfl rfl rfl rfl rfl; (repeat (first | (with_reducible exact At.head) | apply At.tail)); rfl; rfl) | (apply w_arith; rfl; rfl; rfl; rfl; omega; omega; rfl))
  refine run_split_dec rfl rfl rfl rfl rfl ?_ ?_
  · intro h1
    repeat (first | (with_reducible refine run_seq ?_) | (refine run_region rfl rfl ?_) | (with_reducible refine run_ops_nil ?_) | (refine run_pure1 tabOk rfl ?_) | (with_reducible refine run_block ?_) | (with_reducible refine run_blk ?_) | (with_reducible refine run_label ?_) | (with_reducible refine run_skip ?_) | (refine run_exit rfl ?_) | (apply w_fieldat tabOk; rfl; rfl; rfl; rfl) | (apply w_load tabOk rfl rfl rfl rfl; (repeat (first | (with_reducible exact At.head) | apply At.tail)); rfl; rfl) | (apply w_store tabOk rfl rfl rfl rfl rfl rfl rfl rfl; (repeat (first | (with_reducible exact At.head) | apply At.tail)); rfl; rfl) | (apply w_arith; rfl; rfl; rfl; rfl; omega; omega; rfl))
    refine run_cond_true rfl ?_
    repeat (first | (with_reducible refine run_seq ?_) | (refine run_region rfl rfl ?_) | (with_reducible refine run_ops_nil ?_) | (refine run_pure1 tabOk rfl ?_) | (with_reducible refine run_block ?_) | (with_reducible refine run_blk ?_) | (with_reducible refine run_label ?_) | (with_reducible refine run_skip ?_) | (refine run_exit rfl ?_) | (apply w_fieldat tabOk; rfl; rfl; rfl; rfl) | (apply w_load tabOk rfl rfl rfl rfl; (repeat (first | (with_reducible exact At.head) | apply At.tail)); rfl; rfl) | (apply w_store tabOk rfl rfl rfl rfl rfl rfl rfl rfl; (repeat (first | (with_reducible exact At.head) | apply At.tail)); rfl; rfl) | (apply w_arith; rfl; rfl; rfl; rfl; omega; omega; rfl))
    refine run_ret rfl (imp_RD rfl ?_)
    (repeat (first | exact imp_nil | (apply imp_pick; (repeat (first | (with_reducible exact Pull.head) | apply Pull.tail)))))
  · intro h1
    have h2 : 32768 < n := by omega
    repeat (first | (with_reducible refine run_seq ?_) | (refine run_region rfl rfl ?_) | (with_reducible refine run_ops_nil ?_) | (refine run_pure1 tabOk rfl ?_) | (with_reducible refine run_block ?_) | (with_reducible refine run_blk ?_) | (with_reducible refine run_label ?_) | (with_reducible refine run_skip ?_) | (refine run_exit rfl ?_) | (apply w_fieldat tabOk; rfl; rfl; rfl; rfl) | (apply w_load tabOk rfl rfl rfl rfl; (repeat (first | (with_reducible exact At.head) | apply At.tail)); rfl; rfl) | (apply w_store tabOk rfl rfl rfl rfl rfl rfl rfl rfl; (repeat (first | (with_reducible exact At.head) | apply At.tail)); rfl; rfl) | (apply w_arith; rfl; rfl; rfl; rfl; omega; omega; rfl))
    refine run_cond_dec rfl ?_ ?_
    · intro h3
      repeat (first | (with_reducible refine run_seq ?_) | (refine run_region rfl rfl ?_) | (with_reducible refine run_ops_nil ?_) | (refine run_pure1 tabOk rfl ?_) | (with_reducible refine run_block ?_) | (with_reducible refine run_blk ?_) | (with_reducible refine run_label ?_) | (with_reducible refine run_skip ?_) | (refine run_exit rfl ?_) | (apply w_fieldat tabOk; rfl; rfl; rfl; rfl) | (apply w_load tabOk rfl rfl rfl rfl; (repeat (first | (with_reducible exact At.head) | apply At.tail)); rfl; rfl) | (apply w_store tabOk rfl rfl rfl rfl rfl rfl rfl rfl; (repeat (first | (with_reducible exact At.head) | apply At.tail)); rfl; rfl) | (apply w_arith; rfl; rfl; rfl; rfl; omega; omega; rfl))
      refine run_ret rfl (imp_RD rfl ?_)
      (repeat (first | exact imp_nil | (apply imp_pick; (repeat (first | (with_reducible exact Pull.head) | apply Pull.tail)))))
    · intro h3
      exact absurd h2 (by omega)
theorem new_spec (q : View) (n : Nat) (h : n ≤ 32768) : FnX Try.prog q 11 [.int .i64 n] [] (fun b => .tuple #[.pointer (some ⟨b, 0, none⟩), .int .i64 0]) fun b => [plateAt b (blank n)] := by
  refine FnX.of_run Try.call11 Try.func11 rfl [(0, .int .i64 n)] (Nat.le_of_ble_eq_true rfl) (by simp) ?_
  repeat (first | (with_reducible refine run_seq ?_) | (refine run_region rfl rfl ?_) | (with_reducible refine run_ops_nil ?_) | (refine run_pure1 tabOk rfl ?_) | (with_reducible refine run_block ?_) | (with_reducible refine run_blk ?_) | (with_reducible refine run_label ?_) | (with_reducible refine run_skip ?_) | (refine run_exit rfl ?_) | (apply w_fieldat tabOk; rfl; rfl; rfl; rfl) | (apply w_load tabOk rfl rfl rfl rfl; (repeat (first | (with_reducible exact At.head) | apply At.tail)); rfl; rfl) | (apply w_store tabOk rfl rfl rfl rfl rfl rfl rfl rfl; (repeat (first | (with_reducible exact At.head) | apply At.tail)); rfl; rfl) | (apply w_arith; rfl; rfl; rfl; rfl; omega; omega; rfl))
  · refine run_cond_dec rfl ?_ ?_
    · intro h3
      exact absurd h3 (by omega)
    · intro h3
      repeat (first | (with_reducible refine run_seq ?_) | (refine run_region rfl rfl ?_) | (with_reducible refine run_ops_nil ?_) | (refine run_pure1 tabOk rfl ?_) | (with_reducible refine run_block ?_) | (with_reducible refine run_blk ?_) | (with_reducible refine run_label ?_) | (with_reducible refine run_skip ?_) | (refine run_exit rfl ?_) | (apply w_fieldat tabOk; rfl; rfl; rfl; rfl) | (apply w_load tabOk rfl rfl rfl rfl; (repeat (first | (with_reducible exact At.head) | apply At.tail)); rfl; rfl) | (apply w_store tabOk rfl rfl rfl rfl rfl rfl rfl rfl; (repeat (first | (with_reducible exact At.head) | apply At.tail)); rfl; rfl) | (apply w_arith; rfl; rfl; rfl; rfl; omega; omega; rfl))
      apply a_start (M := []) mixed
      (repeat (first | exact Pulls.nil | (apply Pulls.cons; (repeat (first | (with_reducible exact Pull.head) | apply Pull.tail)))))
      (apply a_pure 0 tabOk; rfl; kernel_rfl; kernel_rfl; kernel_rfl; rfl)
      (apply a_pure 1 tabOk; rfl; kernel_rfl; kernel_rfl; kernel_rfl; rfl)
      (apply a_pure 3 tabOk; rfl; kernel_rfl; kernel_rfl; kernel_rfl; rfl)
      refine any_two (i := 2) (j := 4) (by kernel_rfl) ?_ ?_
      · apply o_made (kb := 16) (lm := n) (lc := n) 2 tabOk; rfl; rfl; rfl; rfl; rfl; rfl; rfl; rfl; rfl; omega; omega; rfl; rfl; rfl; omega; omega; exact fun _ => rfl
        intro r1
        apply a_made (kb := 1) (lm := n) (lc := n) 4 tabOk; rfl; kernel_rfl; rfl; rfl; rfl; rfl; rfl; rfl; rfl; rfl; omega; omega; rfl; rfl; rfl; omega; omega; exact fun _ => rfl
        intro r2
        (apply a_build 5 tabOk; rfl; kernel_rfl; kernel_rfl; kernel_rfl; rfl; rfl; rfl)
        (apply a_box 6; rfl; kernel_rfl; rfl; rfl; rfl; exact fun _ => rfl)
        intro r
        (apply a_pure 7 tabOk; rfl; kernel_rfl; kernel_rfl; kernel_rfl; rfl)
        (apply a_pure 8 tabOk; rfl; kernel_rfl; kernel_rfl; kernel_rfl; rfl)
        (apply a_done; kernel_rfl; rfl)
        repeat (first | (with_reducible refine run_seq ?_) | (refine run_region rfl rfl ?_) | (with_reducible refine run_ops_nil ?_) | (refine run_pure1 tabOk rfl ?_) | (with_reducible refine run_block ?_) | (with_reducible refine run_blk ?_) | (with_reducible refine run_label ?_) | (with_reducible refine run_skip ?_) | (refine run_exit rfl ?_) | (apply w_fieldat tabOk; rfl; rfl; rfl; rfl) | (apply w_load tabOk rfl rfl rfl rfl; (repeat (first | (with_reducible exact At.head) | apply At.tail)); rfl; rfl) | (apply w_store tabOk rfl rfl rfl rfl rfl rfl rfl rfl; (repeat (first | (with_reducible exact At.head) | apply At.tail)); rfl; rfl) | (apply w_arith; rfl; rfl; rfl; rfl; omega; omega; rfl))
        refine run_ret rfl (imp_RX r rfl ?_)
        apply imp_plate (pc := none) (cc := 0); unfold plateParts plate3 blank; dsimp only [List.length_nil]
        rw [List.length_replicate, List.length_replicate, List.map_replicate, List.map_replicate, ← zeroL_one (.string ⟨#[]⟩) rfl n, ← zeroL_one (.bool false) rfl n]
        (iterate 3 (apply imp_pick; (repeat (first | (with_reducible exact Pull.head) | apply Pull.tail))))
        exact imp_sl_nil imp_nil
      · apply o_made (kb := 1) (lm := n) (lc := n) 4 tabOk; rfl; rfl; rfl; rfl; rfl; rfl; rfl; rfl; rfl; omega; omega; rfl; rfl; rfl; omega; omega; exact fun _ => rfl
        intro r1
        apply a_made (kb := 16) (lm := n) (lc := n) 2 tabOk; rfl; kernel_rfl; rfl; rfl; rfl; rfl; rfl; rfl; rfl; rfl; omega; omega; rfl; rfl; rfl; omega; omega; exact fun _ => rfl
        intro r2
        (apply a_build 5 tabOk; rfl; kernel_rfl; kernel_rfl; kernel_rfl; rfl; rfl; rfl)
        (apply a_box 6; rfl; kernel_rfl; rfl; rfl; rfl; exact fun _ => rfl)
        intro r
        (apply a_pure 7 tabOk; rfl; kernel_rfl; kernel_rfl; kernel_rfl; rfl)
        (apply a_pure 8 tabOk; rfl; kernel_rfl; kernel_rfl; kernel_rfl; rfl)
        (apply a_done; kernel_rfl; rfl)
        repeat (first | (with_reducible refine run_seq ?_) | (refine run_region rfl rfl ?_) | (with_reducible refine run_ops_nil ?_) | (refine run_pure1 tabOk rfl ?_) | (with_reducible refine run_block ?_) | (with_reducible refine run_blk ?_) | (with_reducible refine run_label ?_) | (with_reducible refine run_skip ?_) | (refine run_exit rfl ?_) | (apply w_fieldat tabOk; rfl; rfl; rfl; rfl) | (apply w_load tabOk rfl rfl rfl rfl; (repeat (first | (with_reducible exact At.head) | apply At.tail)); rfl; rfl) | (apply w_store tabOk rfl rfl rfl rfl rfl rfl rfl rfl; (repeat (first | (with_reducible exact At.head) | apply At.tail)); rfl; rfl) | (apply w_arith; rfl; rfl; rfl; rfl; omega; omega; rfl))
        refine run_ret rfl (imp_RX r rfl ?_)
        apply imp_plate (pc := none) (cc := 0); unfold plateParts plate3 blank; dsimp only [List.length_nil]
        rw [List.length_replicate, List.length_replicate, List.map_replicate, List.map_replicate, ← zeroL_one (.string ⟨#[]⟩) rfl n, ← zeroL_one (.bool false) rfl n]
        (iterate 3 (apply imp_pick; (repeat (first | (with_reducible exact Pull.head) | apply Pull.tail))))
        exact imp_sl_nil imp_nil
end Go.Proofs.Ytkmdajbhkfneaaa.V
