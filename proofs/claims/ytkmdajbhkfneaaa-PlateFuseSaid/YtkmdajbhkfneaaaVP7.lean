/- The device: Copy. -/
import Derived.Test.YtkmdajbhkfneaaaVP6
set_option maxRecDepth 10000
set_option linter.unusedVariables false
namespace Go.Proofs.Ytkmdajbhkfneaaa.V
open Go.Proofs.Ytkmdajbhkfneaaa.VL
theorem cacheV_one1 (l : List (Int × ByteArray)) : (cacheV l).all one1 = true := by
  rw [List.all_eq_true]
  intro v hv
  unfold cacheV at hv
  rw [List.mem_flatMap] at hv
  obtain ⟨x, _, hx⟩ := hv
  rcases List.mem_cons.1 hx with rfl | hx
  · rfl
  · rcases List.mem_cons.1 hx with rfl | hx
    · rfl
    · cases hx
theorem copy_spec (q : View) (b : Nat) (s : PSt) (hw : WF s) :
    FnX Try.prog q 28 [.pointer (some ⟨b, 0, none⟩)] [plateAt b s] (fun b2 : Nat => .pointer (some ⟨b2, 0, none⟩)) fun b2 => [plateAt b s, plateAt b2 s] := by
  have hh := hw.held
  have hd := hw.dumb
  have hs := hw.sec
  have hn := hw.size
  refine FnX.of_run Try.call28 Try.func28 rfl [(0, .pointer (some ⟨b, 0, none⟩))] (Nat.le_of_ble_eq_true rfl) (by simp) ?_
  refine run_plate fun bh bd pc cc => ?_
  unfold plateParts plate3
  repeat (first | (with_reducible refine run_seq ?_) | (refine run_region rfl rfl ?_) | (with_reducible refine run_ops_nil ?_) | (refine run_pure1 tabOk rfl ?_) | (with_reducible refine run_block ?_) | (with_reducible refine run_blk ?_) | (with_reducible refine run_label ?_) | (with_reducible refine run_skip ?_) | (refine run_exit rfl ?_) | (apply w_fieldat tabOk; rfl; rfl; rfl; rfl) | (apply w_load tabOk rfl rfl rfl rfl; (repeat (first | (with_reducible exact At.head) | apply At.tail)); rfl; rfl) | (apply w_store tabOk rfl rfl rfl rfl rfl rfl rfl rfl; (repeat (first | (with_reducible exact At.head) | apply At.tail)); rfl; rfl) | (apply w_arith; rfl; rfl; rfl; rfl; omega; omega; rfl))
  refine run_cond_false rfl ?_
  repeat (first | (with_reducible refine run_seq ?_) | (refine run_region rfl rfl ?_) | (with_reducible refine run_ops_nil ?_) | (refine run_pure1 tabOk rfl ?_) | (with_reducible refine run_block ?_) | (with_reducible refine run_blk ?_) | (with_reducible refine run_label ?_) | (with_reducible refine run_skip ?_) | (refine run_exit rfl ?_) | (apply w_fieldat tabOk; rfl; rfl; rfl; rfl) | (apply w_load tabOk rfl rfl rfl rfl; (repeat (first | (with_reducible exact At.head) | apply At.tail)); rfl; rfl) | (apply w_store tabOk rfl rfl rfl rfl rfl rfl rfl rfl; (repeat (first | (with_reducible exact At.head) | apply At.tail)); rfl; rfl) | (apply w_arith; rfl; rfl; rfl; rfl; omega; omega; rfl))
  (apply w_load_agg tabOk rfl rfl rfl rfl; (repeat (first | (with_reducible exact At.head) | apply At.tail)); rfl; rfl)
  repeat (first | (with_reducible refine run_seq ?_) | (refine run_region rfl rfl ?_) | (with_reducible refine run_ops_nil ?_) | (refine run_pure1 tabOk rfl ?_) | (with_reducible refine run_block ?_) | (with_reducible refine run_blk ?_) | (with_reducible refine run_label ?_) | (with_reducible refine run_skip ?_) | (refine run_exit rfl ?_) | (apply w_fieldat tabOk; rfl; rfl; rfl; rfl) | (apply w_load tabOk rfl rfl rfl rfl; (repeat (first | (with_reducible exact At.head) | apply At.tail)); rfl; rfl) | (apply w_store tabOk rfl rfl rfl rfl rfl rfl rfl rfl; (repeat (first | (with_reducible exact At.head) | apply At.tail)); rfl; rfl) | (apply w_arith; rfl; rfl; rfl; rfl; omega; omega; rfl))
  (refine w_alloc tabOk rfl rfl rfl rfl (fun _ => rfl) ?_)
  intro r
  repeat (first | (with_reducible refine run_seq ?_) | (refine run_region rfl rfl ?_) | (with_reducible refine run_ops_nil ?_) | (refine run_pure1 tabOk rfl ?_) | (with_reducible refine run_block ?_) | (with_reducible refine run_blk ?_) | (with_reducible refine run_label ?_) | (with_reducible refine run_skip ?_) | (refine run_exit rfl ?_) | (apply w_fieldat tabOk; rfl; rfl; rfl; rfl) | (apply w_load tabOk rfl rfl rfl rfl; (repeat (first | (with_reducible exact At.head) | apply At.tail)); rfl; rfl) | (apply w_store tabOk rfl rfl rfl rfl rfl rfl rfl rfl; (repeat (first | (with_reducible exact At.head) | apply At.tail)); rfl; rfl) | (apply w_arith; rfl; rfl; rfl; rfl; omega; omega; rfl))
  (apply w_made (kb := 16) (lm := s.held.length) (lc := s.held.length) tabOk; rfl; rfl; rfl; rfl; rfl; rfl; rfl; rfl; omega; omega; rfl; rfl; rfl; omega; omega; exact fun _ => rfl)
  intro r1
  repeat (first | (with_reducible refine run_seq ?_) | (refine run_region rfl rfl ?_) | (with_reducible refine run_ops_nil ?_) | (refine run_pure1 tabOk rfl ?_) | (with_reducible refine run_block ?_) | (with_reducible refine run_blk ?_) | (with_reducible refine run_label ?_) | (with_reducible refine run_skip ?_) | (refine run_exit rfl ?_) | (apply w_fieldat tabOk; rfl; rfl; rfl; rfl) | (apply w_load tabOk rfl rfl rfl rfl; (repeat (first | (with_reducible exact At.head) | apply At.tail)); rfl; rfl) | (apply w_store tabOk rfl rfl rfl rfl rfl rfl rfl rfl; (repeat (first | (with_reducible exact At.head) | apply At.tail)); rfl; rfl) | (apply w_arith; rfl; rfl; rfl; rfl; omega; omega; rfl))
  apply a_start (M := [cells r1 9 ⟨zeroL (.string ⟨#[]⟩) s.held.length⟩, cells bh 9 ⟨s.held.map Value.string⟩]) mixed
  (repeat (first | exact Pulls.nil | (apply Pulls.cons; (repeat (first | (with_reducible exact Pull.head) | apply Pull.tail)))))
  (apply a_pure 0 tabOk; rfl; kernel_rfl; kernel_rfl; kernel_rfl; rfl)
  (apply a_load 1 tabOk; rfl; kernel_rfl; kernel_rfl; kernel_rfl; rfl; rfl; rfl; rfl; (repeat (first | (with_reducible exact At.head) | apply At.tail)); rfl; rfl)
  (apply a_pure 2 tabOk; rfl; kernel_rfl; kernel_rfl; kernel_rfl; rfl)
  (apply a_pure 3 tabOk; rfl; kernel_rfl; kernel_rfl; kernel_rfl; rfl)
  (apply a_pure 4 tabOk; rfl; kernel_rfl; kernel_rfl; kernel_rfl; rfl)
  (apply a_load 5 tabOk; rfl; kernel_rfl; kernel_rfl; kernel_rfl; rfl; rfl; rfl; rfl; (repeat (first | (with_reducible exact At.head) | apply At.tail)); rfl; rfl)
  (apply a_copy_all (size := 1) 6 tabOk; rfl; kernel_rfl; rfl; rfl; rfl; rfl; rfl; rfl; rfl; exact At.head; exact reads_own (At.tail At.head) (by simp); (simp [List.all_map, one1]); (simp); (rw [zeroL_length]; rfl); rfl)
  (apply a_done; kernel_rfl; rfl)
  repeat (first | (with_reducible refine run_seq ?_) | (refine run_region rfl rfl ?_) | (with_reducible refine run_ops_nil ?_) | (refine run_pure1 tabOk rfl ?_) | (with_reducible refine run_block ?_) | (with_reducible refine run_blk ?_) | (with_reducible refine run_label ?_) | (with_reducible refine run_skip ?_) | (refine run_exit rfl ?_) | (apply w_fieldat tabOk; rfl; rfl; rfl; rfl) | (apply w_load tabOk rfl rfl rfl rfl; (repeat (first | (with_reducible exact At.head) | apply At.tail)); rfl; rfl) | (apply w_store tabOk rfl rfl rfl rfl rfl rfl rfl rfl; (repeat (first | (with_reducible exact At.head) | apply At.tail)); rfl; rfl) | (apply w_arith; rfl; rfl; rfl; rfl; omega; omega; rfl))
  (apply w_made (kb := 1) (lm := s.dumb.length) (lc := s.dumb.length) tabOk; rfl; rfl; rfl; rfl; rfl; rfl; rfl; rfl; omega; omega; rfl; rfl; rfl; omega; omega; exact fun _ => rfl)
  intro r2
  repeat (first | (with_reducible refine run_seq ?_) | (refine run_region rfl rfl ?_) | (with_reducible refine run_ops_nil ?_) | (refine run_pure1 tabOk rfl ?_) | (with_reducible refine run_block ?_) | (with_reducible refine run_blk ?_) | (with_reducible refine run_label ?_) | (with_reducible refine run_skip ?_) | (refine run_exit rfl ?_) | (apply w_fieldat tabOk; rfl; rfl; rfl; rfl) | (apply w_load tabOk rfl rfl rfl rfl; (repeat (first | (with_reducible exact At.head) | apply At.tail)); rfl; rfl) | (apply w_store tabOk rfl rfl rfl rfl rfl rfl rfl rfl; (repeat (first | (with_reducible exact At.head) | apply At.tail)); rfl; rfl) | (apply w_arith; rfl; rfl; rfl; rfl; omega; omega; rfl))
  apply a_start (M := [cells r2 4 ⟨zeroL (.bool false) s.dumb.length⟩, cells bd 4 ⟨s.dumb.map Value.bool⟩]) mixed
  (repeat (first | exact Pulls.nil | (apply Pulls.cons; (repeat (first | (with_reducible exact Pull.head) | apply Pull.tail)))))
  (apply a_pure 0 tabOk; rfl; kernel_rfl; kernel_rfl; kernel_rfl; rfl)
  (apply a_load 1 tabOk; rfl; kernel_rfl; kernel_rfl; kernel_rfl; rfl; rfl; rfl; rfl; (repeat (first | (with_reducible exact At.head) | apply At.tail)); rfl; rfl)
  (apply a_pure 2 tabOk; rfl; kernel_rfl; kernel_rfl; kernel_rfl; rfl)
  (apply a_pure 3 tabOk; rfl; kernel_rfl; kernel_rfl; kernel_rfl; rfl)
  (apply a_pure 4 tabOk; rfl; kernel_rfl; kernel_rfl; kernel_rfl; rfl)
  (apply a_load 5 tabOk; rfl; kernel_rfl; kernel_rfl; kernel_rfl; rfl; rfl; rfl; rfl; (repeat (first | (with_reducible exact At.head) | apply At.tail)); rfl; rfl)
  (apply a_copy_all (size := 1) 6 tabOk; rfl; kernel_rfl; rfl; rfl; rfl; rfl; rfl; rfl; rfl; exact At.head; exact reads_own (At.tail At.head) (by simp); (simp [List.all_map, one1]); (simp); (rw [zeroL_length]; rfl); rfl)
  (apply a_done; kernel_rfl; rfl)
  repeat (first | (with_reducible refine run_seq ?_) | (refine run_region rfl rfl ?_) | (with_reducible refine run_ops_nil ?_) | (refine run_pure1 tabOk rfl ?_) | (with_reducible refine run_block ?_) | (with_reducible refine run_blk ?_) | (with_reducible refine run_label ?_) | (with_reducible refine run_skip ?_) | (refine run_exit rfl ?_) | (apply w_fieldat tabOk; rfl; rfl; rfl; rfl) | (apply w_load tabOk rfl rfl rfl rfl; (repeat (first | (with_reducible exact At.head) | apply At.tail)); rfl; rfl) | (apply w_store tabOk rfl rfl rfl rfl rfl rfl rfl rfl; (repeat (first | (with_reducible exact At.head) | apply At.tail)); rfl; rfl) | (apply w_arith; rfl; rfl; rfl; rfl; omega; omega; rfl))
  (apply w_made (kb := 24) (lm := s.cache.length) (lc := s.cache.length) tabOk; rfl; rfl; rfl; rfl; rfl; rfl; rfl; rfl; omega; omega; rfl; rfl; rfl; omega; omega; exact fun _ => rfl)
  intro r3
  repeat (first | (with_reducible refine run_seq ?_) | (refine run_region rfl rfl ?_) | (with_reducible refine run_ops_nil ?_) | (refine run_pure1 tabOk rfl ?_) | (with_reducible refine run_block ?_) | (with_reducible refine run_blk ?_) | (with_reducible refine run_label ?_) | (with_reducible refine run_skip ?_) | (refine run_exit rfl ?_) | (apply w_fieldat tabOk; rfl; rfl; rfl; rfl) | (apply w_load tabOk rfl rfl rfl rfl; (repeat (first | (with_reducible exact At.head) | apply At.tail)); rfl; rfl) | (apply w_store tabOk rfl rfl rfl rfl rfl rfl rfl rfl; (repeat (first | (with_reducible exact At.head) | apply At.tail)); rfl; rfl) | (apply w_arith; rfl; rfl; rfl; rfl; omega; omega; rfl))
  apply a_start (M := [cells r3 62 ⟨zeroL (.agg #[.int .i64 0, .string ⟨#[]⟩]) s.cache.length⟩, sl pc s.cache.length cc 62 2 (cacheV s.cache)]) mixed
  (repeat (first | exact Pulls.nil | (apply Pulls.cons; (repeat (first | (with_reducible exact Pull.head) | apply Pull.tail)))))
  (apply a_pure 0 tabOk; rfl; kernel_rfl; kernel_rfl; kernel_rfl; rfl)
  (apply a_load 1 tabOk; rfl; kernel_rfl; kernel_rfl; kernel_rfl; rfl; rfl; rfl; rfl; (repeat (first | (with_reducible exact At.head) | apply At.tail)); rfl; rfl)
  (apply a_pure 2 tabOk; rfl; kernel_rfl; kernel_rfl; kernel_rfl; rfl)
  (apply a_pure 3 tabOk; rfl; kernel_rfl; kernel_rfl; kernel_rfl; rfl)
  (apply a_pure 4 tabOk; rfl; kernel_rfl; kernel_rfl; kernel_rfl; rfl)
  (apply a_load 5 tabOk; rfl; kernel_rfl; kernel_rfl; kernel_rfl; rfl; rfl; rfl; rfl; (repeat (first | (with_reducible exact At.head) | apply At.tail)); rfl; rfl)
  (apply a_copy_all (size := 2) 6 tabOk; rfl; kernel_rfl; rfl; rfl; rfl; rfl; rfl; rfl; rfl; exact At.head; exact reads_slice (At.tail At.head); exact cacheV_one1 _; exact cacheV_length _; (rw [zeroL_length]; rfl); rfl)
  (apply a_done; kernel_rfl; rfl)
  repeat (first | (with_reducible refine run_seq ?_) | (refine run_region rfl rfl ?_) | (with_reducible refine run_ops_nil ?_) | (refine run_pure1 tabOk rfl ?_) | (with_reducible refine run_block ?_) | (with_reducible refine run_blk ?_) | (with_reducible refine run_label ?_) | (with_reducible refine run_skip ?_) | (refine run_exit rfl ?_) | (apply w_fieldat tabOk; rfl; rfl; rfl; rfl) | (apply w_load tabOk rfl rfl rfl rfl; (repeat (first | (with_reducible exact At.head) | apply At.tail)); rfl; rfl) | (apply w_store tabOk rfl rfl rfl rfl rfl rfl rfl rfl; (repeat (first | (with_reducible exact At.head) | apply At.tail)); rfl; rfl) | (apply w_arith; rfl; rfl; rfl; rfl; omega; omega; rfl))
  refine run_ret rfl (imp_RX r rfl ?_)
  apply imp_plate (b := b) (s := s); unfold plateParts plate3
  (iterate 4 (apply imp_pick; (repeat (first | (with_reducible exact Pull.head) | apply Pull.tail))))
  apply imp_plate (b := r) (s := s) (pc := some ⟨r3, 0, none⟩) (cc := s.cache.length); unfold plateParts plate3
  (iterate 3 (apply imp_pick; (repeat (first | (with_reducible exact Pull.head) | apply Pull.tail))))
  refine imp_sl_shut (spare := []) (cacheV_length _).symm (by rw [cacheV_length]; rfl) (Nat.le_refl _) ?_
  rw [List.append_nil]
  (repeat (first | exact imp_nil | (apply imp_pick; (repeat (first | (with_reducible exact Pull.head) | apply Pull.tail)))))
end Go.Proofs.Ytkmdajbhkfneaaa.V
