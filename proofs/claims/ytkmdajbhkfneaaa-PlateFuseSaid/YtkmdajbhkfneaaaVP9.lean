/- Texts of one byte, so many times; how long a step's text is; the first example. -/
import Derived.Test.YtkmdajbhkfneaaaVP8
set_option maxRecDepth 10000
set_option linter.unusedVariables false
namespace Go.Proofs.Ytkmdajbhkfneaaa.V
open Go.Proofs.Ytkmdajbhkfneaaa.VL
def bytesF (v : Int) (n : Nat) : ByteArray := ⟨(List.replicate n (UInt8.ofNat v.toNat)).toArray⟩
theorem bytesF_size (v : Int) (n : Nat) : (bytesF v n).size = n := by
  show (List.replicate n (UInt8.ofNat v.toNat)).toArray.size = n
  simp
theorem bv_bytes (v : Int) (n : Nat) (h0 : 0 ≤ v) (h1 : v ≤ 255) : bv (List.replicate n (UInt8.ofNat v.toNat)) = List.replicate n (Value.int .u8 v) := by
  unfold bv
  rw [List.map_replicate]
  congr 2
  rw [UInt8.toNat_ofNat']
  omega
theorem set_fill (n i : Nat) (a z : Value) (h : i < n) : (List.replicate i a ++ List.replicate (n - i) z).set i a = List.replicate (i + 1) a ++ List.replicate (n - (i + 1)) z := by
  rw [List.set_append_right _ _ (by simp), List.length_replicate, Nat.sub_self]
  obtain ⟨m, hm⟩ : ∃ m, n - i = m + 1 := ⟨n - i - 1, by omega⟩
  rw [hm, show n - (i + 1) = m by omega, List.replicate_succ, List.set_cons_zero, List.replicate_succ', List.append_assoc]
  rfl
theorem bytes_spec (q : View) (v : Int) (n : Nat) (h0 : 0 ≤ v) (h1 : v ≤ 255) (hn : n ≤ 16777216) :
    FnD Try.prog q 14 [.int .u8 v, .int .i64 n] [] (.string (bytesF v n)) [] := by
  refine FnD.of_run Try.call14 Try.func14 rfl [(0, .int .u8 v), (1, .int .i64 n)] (Nat.le_of_ble_eq_true rfl) (by simp) ?_
  repeat (first | (with_reducible refine run_seq ?_) | (refine run_region rfl rfl ?_) | (with_reducible refine run_ops_nil ?_) | (refine run_pure1 tabOk rfl ?_) | (with_reducible refine run_block ?_) | (with_reducible refine run_blk ?_) | (with_reducible refine run_label ?_) | (with_reducible refine run_skip ?_) | (refine run_exit rfl ?_) | (apply w_fieldat tabOk; rfl; rfl; rfl; rfl) | (apply w_load tabOk rfl rfl rfl rfl; (repeat (first | (with_reducible exact At.head) | apply At.tail)); rfl; rfl) | (apply w_store tabOk rfl rfl rfl rfl rfl rfl rfl rfl; (repeat (first | (with_reducible exact At.head) | apply At.tail)); rfl; rfl) | (apply w_arith; rfl; rfl; rfl; rfl; omega; omega; rfl))
  (apply w_made (kb := 1) (lm := n) (lc := n) tabOk; rfl; rfl; rfl; rfl; rfl; rfl; rfl; rfl; omega; omega; rfl; rfl; rfl; omega; omega; exact fun _ => rfl)
  intro r
  rw [zeroL_one _ rfl]
  repeat (first | (with_reducible refine run_seq ?_) | (refine run_region rfl rfl ?_) | (with_reducible refine run_ops_nil ?_) | (refine run_pure1 tabOk rfl ?_) | (with_reducible refine run_block ?_) | (with_reducible refine run_blk ?_) | (with_reducible refine run_label ?_) | (with_reducible refine run_skip ?_) | (refine run_exit rfl ?_) | (apply w_fieldat tabOk; rfl; rfl; rfl; rfl) | (apply w_load tabOk rfl rfl rfl rfl; (repeat (first | (with_reducible exact At.head) | apply At.tail)); rfl; rfl) | (apply w_store tabOk rfl rfl rfl rfl rfl rfl rfl rfl; (repeat (first | (with_reducible exact At.head) | apply At.tail)); rfl; rfl) | (apply w_arith; rfl; rfl; rfl; rfl; omega; omega; rfl))
  refine run_loop (X := { i : Nat // i ≤ n }) (fun i => [(0, .int .u8 v), (1, .int .i64 n), (5, .slice (some ⟨r, 0, none⟩) n n), (6, .int .i64 i.1)])
    (fun i => [cells r 5 ⟨List.replicate i.1 (.int .u8 v) ++ List.replicate (n - i.1) (.int .u8 0)⟩]) (fun i => n - i.1) ⟨0, Nat.zero_le _⟩ ?_ ?_ ?_
  · (repeat (first | exact facts_nil | (refine facts_cons rfl ?_)))
  · simp only [List.replicate_zero, List.nil_append, Nat.sub_zero]
    (repeat (first | exact imp_nil | (apply imp_pick; (repeat (first | (with_reducible exact Pull.head) | apply Pull.tail)))))
  · intro ⟨i, hi⟩
    repeat (first | (with_reducible refine run_seq ?_) | (refine run_region rfl rfl ?_) | (with_reducible refine run_ops_nil ?_) | (refine run_pure1 tabOk rfl ?_) | (with_reducible refine run_block ?_) | (with_reducible refine run_blk ?_) | (with_reducible refine run_label ?_) | (with_reducible refine run_skip ?_) | (refine run_exit rfl ?_) | (apply w_fieldat tabOk; rfl; rfl; rfl; rfl) | (apply w_load tabOk rfl rfl rfl rfl; (repeat (first | (with_reducible exact At.head) | apply At.tail)); rfl; rfl) | (apply w_store tabOk rfl rfl rfl rfl rfl rfl rfl rfl; (repeat (first | (with_reducible exact At.head) | apply At.tail)); rfl; rfl) | (apply w_arith; rfl; rfl; rfl; rfl; omega; omega; rfl))
    refine run_cond_dec rfl ?_ ?_
    · intro h2
      have h2' : i < n := Int.ofNat_lt.1 h2
      repeat (first | (with_reducible refine run_seq ?_) | (refine run_region rfl rfl ?_) | (with_reducible refine run_ops_nil ?_) | (refine run_pure1 tabOk rfl ?_) | (with_reducible refine run_block ?_) | (with_reducible refine run_blk ?_) | (with_reducible refine run_label ?_) | (with_reducible refine run_skip ?_) | (refine run_exit rfl ?_) | (apply w_fieldat tabOk; rfl; rfl; rfl; rfl) | (apply w_load tabOk rfl rfl rfl rfl; (repeat (first | (with_reducible exact At.head) | apply At.tail)); rfl; rfl) | (apply w_store tabOk rfl rfl rfl rfl rfl rfl rfl rfl; (repeat (first | (with_reducible exact At.head) | apply At.tail)); rfl; rfl) | (apply w_arith; rfl; rfl; rfl; rfl; omega; omega; rfl))
      (apply w_idx1 tabOk; rfl; rfl; rfl; rfl; rfl; rfl; rfl; omega; omega; rfl)
      (apply w_store_set tabOk rfl rfl rfl rfl rfl rfl rfl; (repeat (first | (with_reducible exact At.head) | apply At.tail)))
      · simp; omega
      · rfl
      repeat (first | (with_reducible refine run_seq ?_) | (refine run_region rfl rfl ?_) | (with_reducible refine run_ops_nil ?_) | (refine run_pure1 tabOk rfl ?_) | (with_reducible refine run_block ?_) | (with_reducible refine run_blk ?_) | (with_reducible refine run_label ?_) | (with_reducible refine run_skip ?_) | (refine run_exit rfl ?_) | (apply w_fieldat tabOk; rfl; rfl; rfl; rfl) | (apply w_load tabOk rfl rfl rfl rfl; (repeat (first | (with_reducible exact At.head) | apply At.tail)); rfl; rfl) | (apply w_store tabOk rfl rfl rfl rfl rfl rfl rfl rfl; (repeat (first | (with_reducible exact At.head) | apply At.tail)); rfl; rfl) | (apply w_arith; rfl; rfl; rfl; rfl; omega; omega; rfl))
      refine run_stop_loop ⟨i + 1, h2'⟩ (show n - (i + 1) < n - i by omega) ?_ ?_
      · (repeat (first | exact facts_nil | (refine facts_cons rfl ?_)))
      · have e := set_fill n i (.int .u8 v) (.int .u8 0) h2'
        rw [show ((i : Int)).toNat = i from rfl, e]
        (repeat (first | exact imp_nil | (apply imp_pick; (repeat (first | (with_reducible exact Pull.head) | apply Pull.tail)))))
    · intro h2
      have h2' : i = n := Nat.le_antisymm hi (Nat.le_of_not_lt fun h => h2 (Int.ofNat_lt.2 h))
      repeat (first | (with_reducible refine run_seq ?_) | (refine run_region rfl rfl ?_) | (with_reducible refine run_ops_nil ?_) | (refine run_pure1 tabOk rfl ?_) | (with_reducible refine run_block ?_) | (with_reducible refine run_blk ?_) | (with_reducible refine run_label ?_) | (with_reducible refine run_skip ?_) | (refine run_exit rfl ?_) | (apply w_fieldat tabOk; rfl; rfl; rfl; rfl) | (apply w_load tabOk rfl rfl rfl rfl; (repeat (first | (with_reducible exact At.head) | apply At.tail)); rfl; rfl) | (apply w_store tabOk rfl rfl rfl rfl rfl rfl rfl rfl; (repeat (first | (with_reducible exact At.head) | apply At.tail)); rfl; rfl) | (apply w_arith; rfl; rfl; rfl; rfl; omega; omega; rfl))
      apply w_string_cells tabOk rfl rfl rfl rfl rfl rfl rfl rfl At.head (l := List.replicate n (UInt8.ofNat v.toNat))
      · simp
      · subst h2'
        rw [bv_bytes v _ h0 h1]
        simp
      · rfl
      repeat (first | (with_reducible refine run_seq ?_) | (refine run_region rfl rfl ?_) | (with_reducible refine run_ops_nil ?_) | (refine run_pure1 tabOk rfl ?_) | (with_reducible refine run_block ?_) | (with_reducible refine run_blk ?_) | (with_reducible refine run_label ?_) | (with_reducible refine run_skip ?_) | (refine run_exit rfl ?_) | (apply w_fieldat tabOk; rfl; rfl; rfl; rfl) | (apply w_load tabOk rfl rfl rfl rfl; (repeat (first | (with_reducible exact At.head) | apply At.tail)); rfl; rfl) | (apply w_store tabOk rfl rfl rfl rfl rfl rfl rfl rfl; (repeat (first | (with_reducible exact At.head) | apply At.tail)); rfl; rfl) | (apply w_arith; rfl; rfl; rfl; rfl; omega; omega; rfl))
      refine run_ret rfl (imp_RD rfl ?_)
      (repeat (first | exact imp_nil | (apply imp_pick; (repeat (first | (with_reducible exact Pull.head) | apply Pull.tail)))))
def someF (n : Int) : Int := if n < 0 ∨ 200 < n then 64 else n
theorem some_spec (q : View) (n : Int) : FnD Try.prog q 36 [.int .i64 n] [] (.int .i64 (someF n)) [] := by
  refine FnD.of_run Try.call36 Try.func36 rfl [(0, .int .i64 n)] (Nat.le_of_ble_eq_true rfl) (by simp) ?_
  repeat (first | (with_reducible refine run_seq ?_) | (refine run_region rfl rfl ?_) | (with_reducible refine run_ops_nil ?_) | (refine run_pure1 tabOk rfl ?_) | (with_reducible refine run_block ?_) | (with_reducible refine run_blk ?_) | (with_reducible refine run_label ?_) | (with_reducible refine run_skip ?_) | (refine run_exit rfl ?_) | (apply w_fieldat tabOk; rfl; rfl; rfl; rfl) | (apply w_load tabOk rfl rfl rfl rfl; (repeat (first | (with_reducible exact At.head) | apply At.tail)); rfl; rfl) | (apply w_store tabOk rfl rfl rfl rfl rfl rfl rfl rfl; (repeat (first | (with_reducible exact At.head) | apply At.tail)); rfl; rfl) | (apply w_arith; rfl; rfl; rfl; rfl; omega; omega; rfl))
  refine run_split_dec rfl rfl rfl rfl rfl ?_ ?_
  · intro h1
    repeat (first | (with_reducible refine run_seq ?_) | (refine run_region rfl rfl ?_) | (with_reducible refine run_ops_nil ?_) | (refine run_pure1 tabOk rfl ?_) | (with_reducible refine run_block ?_) | (with_reducible refine run_blk ?_) | (with_reducible refine run_label ?_) | (with_reducible refine run_skip ?_) | (refine run_exit rfl ?_) | (apply w_fieldat tabOk; rfl; rfl; rfl; rfl) | (apply w_load tabOk rfl rfl rfl rfl; (repeat (first | (with_reducible exact At.head) | apply At.tail)); rfl; rfl) | (apply w_store tabOk rfl rfl rfl rfl rfl rfl rfl rfl; (repeat (first | (with_reducible exact At.head) | apply At.tail)); rfl; rfl) | (apply w_arith; rfl; rfl; rfl; rfl; omega; omega; rfl))
    refine run_cond_true rfl ?_
    repeat (first | (with_reducible refine run_seq ?_) | (refine run_region rfl rfl ?_) | (with_reducible refine run_ops_nil ?_) | (refine run_pure1 tabOk rfl ?_) | (with_reducible refine run_block ?_) | (with_reducible refine run_blk ?_) | (with_reducible refine run_label ?_) | (with_reducible refine run_skip ?_) | (refine run_exit rfl ?_) | (apply w_fieldat tabOk; rfl; rfl; rfl; rfl) | (apply w_load tabOk rfl rfl rfl rfl; (repeat (first | (with_reducible exact At.head) | apply At.tail)); rfl; rfl) | (apply w_store tabOk rfl rfl rfl rfl rfl rfl rfl rfl; (repeat (first | (with_reducible exact At.head) | apply At.tail)); rfl; rfl) | (apply w_arith; rfl; rfl; rfl; rfl; omega; omega; rfl))
    refine run_ret rfl (imp_RD (by unfold someF; rw [if_pos (.inl h1)]) ?_)
    (repeat (first | exact imp_nil | (apply imp_pick; (repeat (first | (with_reducible exact Pull.head) | apply Pull.tail)))))
  · intro h1
    repeat (first | (with_reducible refine run_seq ?_) | (refine run_region rfl rfl ?_) | (with_reducible refine run_ops_nil ?_) | (refine run_pure1 tabOk rfl ?_) | (with_reducible refine run_block ?_) | (with_reducible refine run_blk ?_) | (with_reducible refine run_label ?_) | (with_reducible refine run_skip ?_) | (refine run_exit rfl ?_) | (apply w_fieldat tabOk; rfl; rfl; rfl; rfl) | (apply w_load tabOk rfl rfl rfl rfl; (repeat (first | (with_reducible exact At.head) | apply At.tail)); rfl; rfl) | (apply w_store tabOk rfl rfl rfl rfl rfl rfl rfl rfl; (repeat (first | (with_reducible exact At.head) | apply At.tail)); rfl; rfl) | (apply w_arith; rfl; rfl; rfl; rfl; omega; omega; rfl))
    refine run_cond_dec rfl ?_ ?_
    · intro h2
      repeat (first | (with_reducible refine run_seq ?_) | (refine run_region rfl rfl ?_) | (with_reducible refine run_ops_nil ?_) | (refine run_pure1 tabOk rfl ?_) | (with_reducible refine run_block ?_) | (with_reducible refine run_blk ?_) | (with_reducible refine run_label ?_) | (with_reducible refine run_skip ?_) | (refine run_exit rfl ?_) | (apply w_fieldat tabOk; rfl; rfl; rfl; rfl) | (apply w_load tabOk rfl rfl rfl rfl; (repeat (first | (with_reducible exact At.head) | apply At.tail)); rfl; rfl) | (apply w_store tabOk rfl rfl rfl rfl rfl rfl rfl rfl; (repeat (first | (with_reducible exact At.head) | apply At.tail)); rfl; rfl) | (apply w_arith; rfl; rfl; rfl; rfl; omega; omega; rfl))
      refine run_ret rfl (imp_RD (by unfold someF; rw [if_pos (.inr h2)]) ?_)
      (repeat (first | exact imp_nil | (apply imp_pick; (repeat (first | (with_reducible exact Pull.head) | apply Pull.tail)))))
    · intro h2
      repeat (first | (with_reducible refine run_seq ?_) | (refine run_region rfl rfl ?_) | (with_reducible refine run_ops_nil ?_) | (refine run_pure1 tabOk rfl ?_) | (with_reducible refine run_block ?_) | (with_reducible refine run_blk ?_) | (with_reducible refine run_label ?_) | (with_reducible refine run_skip ?_) | (refine run_exit rfl ?_) | (apply w_fieldat tabOk; rfl; rfl; rfl; rfl) | (apply w_load tabOk rfl rfl rfl rfl; (repeat (first | (with_reducible exact At.head) | apply At.tail)); rfl; rfl) | (apply w_store tabOk rfl rfl rfl rfl rfl rfl rfl rfl; (repeat (first | (with_reducible exact At.head) | apply At.tail)); rfl; rfl) | (apply w_arith; rfl; rfl; rfl; rfl; omega; omega; rfl))
      refine run_ret rfl (imp_RD (by unfold someF; rw [if_neg (by omega)]) ?_)
      (repeat (first | exact imp_nil | (apply imp_pick; (repeat (first | (with_reducible exact Pull.head) | apply Pull.tail)))))
theorem blank_spec (q : View) : FnD Try.prog q 12 [] [] (.string zeros64) [] := by
  refine FnD.of_run Try.call12 Try.func12 rfl [] (Nat.le_of_ble_eq_true rfl) (by simp) ?_
  repeat (first | (with_reducible refine run_seq ?_) | (refine run_region rfl rfl ?_) | (with_reducible refine run_ops_nil ?_) | (refine run_pure1 tabOk rfl ?_) | (with_reducible refine run_block ?_) | (with_reducible refine run_blk ?_) | (with_reducible refine run_label ?_) | (with_reducible refine run_skip ?_) | (refine run_exit rfl ?_) | (apply w_fieldat tabOk; rfl; rfl; rfl; rfl) | (apply w_load tabOk rfl rfl rfl rfl; (repeat (first | (with_reducible exact At.head) | apply At.tail)); rfl; rfl) | (apply w_store tabOk rfl rfl rfl rfl rfl rfl rfl rfl; (repeat (first | (with_reducible exact At.head) | apply At.tail)); rfl; rfl) | (apply w_arith; rfl; rfl; rfl; rfl; omega; omega; rfl))
  (apply w_made (kb := 1) (lm := 64) (lc := 64) tabOk; rfl; rfl; rfl; rfl; rfl; rfl; rfl; rfl; omega; omega; rfl; rfl; rfl; omega; omega; exact fun _ => rfl)
  intro r
  rw [zeroL_one _ rfl]
  repeat (first | (with_reducible refine run_seq ?_) | (refine run_region rfl rfl ?_) | (with_reducible refine run_ops_nil ?_) | (refine run_pure1 tabOk rfl ?_) | (with_reducible refine run_block ?_) | (with_reducible refine run_blk ?_) | (with_reducible refine run_label ?_) | (with_reducible refine run_skip ?_) | (refine run_exit rfl ?_) | (apply w_fieldat tabOk; rfl; rfl; rfl; rfl) | (apply w_load tabOk rfl rfl rfl rfl; (repeat (first | (with_reducible exact At.head) | apply At.tail)); rfl; rfl) | (apply w_store tabOk rfl rfl rfl rfl rfl rfl rfl rfl; (repeat (first | (with_reducible exact At.head) | apply At.tail)); rfl; rfl) | (apply w_arith; rfl; rfl; rfl; rfl; omega; omega; rfl))
  apply w_string_cells tabOk rfl rfl rfl rfl rfl rfl rfl rfl At.head (l := List.replicate 64 0)
  · simp
  · simp [bv]
  · rfl
  repeat (first | (with_reducible refine run_seq ?_) | (refine run_region rfl rfl ?_) | (with_reducible refine run_ops_nil ?_) | (refine run_pure1 tabOk rfl ?_) | (with_reducible refine run_block ?_) | (with_reducible refine run_blk ?_) | (with_reducible refine run_label ?_) | (with_reducible refine run_skip ?_) | (refine run_exit rfl ?_) | (apply w_fieldat tabOk; rfl; rfl; rfl; rfl) | (apply w_load tabOk rfl rfl rfl rfl; (repeat (first | (with_reducible exact At.head) | apply At.tail)); rfl; rfl) | (apply w_store tabOk rfl rfl rfl rfl rfl rfl rfl rfl; (repeat (first | (with_reducible exact At.head) | apply At.tail)); rfl; rfl) | (apply w_arith; rfl; rfl; rfl; rfl; omega; omega; rfl))
  refine run_ret rfl (imp_RD rfl ?_)
  (repeat (first | exact imp_nil | (apply imp_pick; (repeat (first | (with_reducible exact Pull.head) | apply Pull.tail)))))
def aS : ByteArray := bytesF 120 64
def aS1 : PSt := ⟨2, [⟨#[]⟩, ⟨#[]⟩], [false, false], [(0, aS)], -1, false, 0, 1⟩
def aS2 : PSt := ⟨2, [aS, ⟨#[]⟩], [false, false], [], -1, false, 0, 1⟩
theorem aw1 : writeF (blank 2) 0 aS = (0, aS1) := by rfl
theorem aS1_wf : WF aS1 := ⟨rfl, rfl, by decide, by decide, by decide, by decide, by decide, by decide⟩
theorem aw2 : startF aS1 [true] = aS2 := by rfl
theorem aS2_wf : WF aS2 := ⟨rfl, rfl, by decide, by decide, by decide, by decide, by decide, by decide⟩
theorem aw3 : (readF aS2 0).1 = (aS, 0) := by rfl
theorem awake_spec (q : View) : FnD Try.prog q 17 [] [] (.bool true) [] := by
  refine FnD.of_run Try.call17 Try.func17 rfl [] (Nat.le_of_ble_eq_true rfl) (by simp) ?_
  repeat (first | (with_reducible refine run_seq ?_) | (refine run_region rfl rfl ?_) | (with_reducible refine run_ops_nil ?_) | (refine run_pure1 tabOk rfl ?_) | (with_reducible refine run_block ?_) | (with_reducible refine run_blk ?_) | (with_reducible refine run_label ?_) | (with_reducible refine run_skip ?_) | (refine run_exit rfl ?_) | (apply w_fieldat tabOk; rfl; rfl; rfl; rfl) | (apply w_load tabOk rfl rfl rfl rfl; (repeat (first | (with_reducible exact At.head) | apply At.tail)); rfl; rfl) | (apply w_store tabOk rfl rfl rfl rfl rfl rfl rfl rfl; (repeat (first | (with_reducible exact At.head) | apply At.tail)); rfl; rfl) | (apply w_arith; rfl; rfl; rfl; rfl; omega; omega; rfl))
  apply run_callx rfl rfl rfl (new_spec q 2 (by omega)); (repeat (first | exact Pulls.nil | (apply Pulls.cons; (repeat (first | (with_reducible exact Pull.head) | apply Pull.tail))))); exact fun _ => rfl; exact fun _ => rfl
  intro b
  repeat (first | (with_reducible refine run_seq ?_) | (refine run_region rfl rfl ?_) | (with_reducible refine run_ops_nil ?_) | (refine run_pure1 tabOk rfl ?_) | (with_reducible refine run_block ?_) | (with_reducible refine run_blk ?_) | (with_reducible refine run_label ?_) | (with_reducible refine run_skip ?_) | (refine run_exit rfl ?_) | (apply w_fieldat tabOk; rfl; rfl; rfl; rfl) | (apply w_load tabOk rfl rfl rfl rfl; (repeat (first | (with_reducible exact At.head) | apply At.tail)); rfl; rfl) | (apply w_store tabOk rfl rfl rfl rfl rfl rfl rfl rfl; (repeat (first | (with_reducible exact At.head) | apply At.tail)); rfl; rfl) | (apply w_arith; rfl; rfl; rfl; rfl; omega; omega; rfl))
  refine run_cond_false rfl ?_
  repeat (first | (with_reducible refine run_seq ?_) | (refine run_region rfl rfl ?_) | (with_reducible refine run_ops_nil ?_) | (refine run_pure1 tabOk rfl ?_) | (with_reducible refine run_block ?_) | (with_reducible refine run_blk ?_) | (with_reducible refine run_label ?_) | (with_reducible refine run_skip ?_) | (refine run_exit rfl ?_) | (apply w_fieldat tabOk; rfl; rfl; rfl; rfl) | (apply w_load tabOk rfl rfl rfl rfl; (repeat (first | (with_reducible exact At.head) | apply At.tail)); rfl; rfl) | (apply w_store tabOk rfl rfl rfl rfl rfl rfl rfl rfl; (repeat (first | (with_reducible exact At.head) | apply At.tail)); rfl; rfl) | (apply w_arith; rfl; rfl; rfl; rfl; omega; omega; rfl))
  apply run_calld rfl rfl rfl (bytes_spec q 120 64 (by omega) (by omega) (by omega)); (repeat (first | exact Pulls.nil | (apply Pulls.cons; (repeat (first | (with_reducible exact Pull.head) | apply Pull.tail))))); rfl; rfl
  repeat (first | (with_reducible refine run_seq ?_) | (refine run_region rfl rfl ?_) | (with_reducible refine run_ops_nil ?_) | (refine run_pure1 tabOk rfl ?_) | (with_reducible refine run_block ?_) | (with_reducible refine run_blk ?_) | (with_reducible refine run_label ?_) | (with_reducible refine run_skip ?_) | (refine run_exit rfl ?_) | (apply w_fieldat tabOk; rfl; rfl; rfl; rfl) | (apply w_load tabOk rfl rfl rfl rfl; (repeat (first | (with_reducible exact At.head) | apply At.tail)); rfl; rfl) | (apply w_store tabOk rfl rfl rfl rfl rfl rfl rfl rfl; (repeat (first | (with_reducible exact At.head) | apply At.tail)); rfl; rfl) | (apply w_arith; rfl; rfl; rfl; rfl; omega; omega; rfl))
  have h1 := write_spec q b (blank 2) (blank_wf 2 (by omega)) 0 aS
  rw [aw1] at h1
  apply run_calld rfl rfl rfl (h1); (repeat (first | exact Pulls.nil | (apply Pulls.cons; (repeat (first | (with_reducible exact Pull.head) | apply Pull.tail))))); rfl; rfl
  repeat (first | (with_reducible refine run_seq ?_) | (refine run_region rfl rfl ?_) | (with_reducible refine run_ops_nil ?_) | (refine run_pure1 tabOk rfl ?_) | (with_reducible refine run_block ?_) | (with_reducible refine run_blk ?_) | (with_reducible refine run_label ?_) | (with_reducible refine run_skip ?_) | (refine run_exit rfl ?_) | (apply w_fieldat tabOk; rfl; rfl; rfl; rfl) | (apply w_load tabOk rfl rfl rfl rfl; (repeat (first | (with_reducible exact At.head) | apply At.tail)); rfl; rfl) | (apply w_store tabOk rfl rfl rfl rfl rfl rfl rfl rfl; (repeat (first | (with_reducible exact At.head) | apply At.tail)); rfl; rfl) | (apply w_arith; rfl; rfl; rfl; rfl; omega; omega; rfl))
  apply run_calld rfl rfl rfl (pending_spec q b aS1); (repeat (first | exact Pulls.nil | (apply Pulls.cons; (repeat (first | (with_reducible exact Pull.head) | apply Pull.tail))))); rfl; rfl
  repeat (first | (with_reducible refine run_seq ?_) | (refine run_region rfl rfl ?_) | (with_reducible refine run_ops_nil ?_) | (refine run_pure1 tabOk rfl ?_) | (with_reducible refine run_block ?_) | (with_reducible refine run_blk ?_) | (with_reducible refine run_label ?_) | (with_reducible refine run_skip ?_) | (refine run_exit rfl ?_) | (apply w_fieldat tabOk; rfl; rfl; rfl; rfl) | (apply w_load tabOk rfl rfl rfl rfl; (repeat (first | (with_reducible exact At.head) | apply At.tail)); rfl; rfl) | (apply w_store tabOk rfl rfl rfl rfl rfl rfl rfl rfl; (repeat (first | (with_reducible exact At.head) | apply At.tail)); rfl; rfl) | (apply w_arith; rfl; rfl; rfl; rfl; omega; omega; rfl))
  (apply w_built tabOk; rfl; rfl; rfl; rfl; rfl; rfl; rfl; rfl; rfl; (intro v hv; simp at hv; subst hv; rfl); decide; exact fun _ => rfl)
  intro r
  repeat (first | (with_reducible refine run_seq ?_) | (refine run_region rfl rfl ?_) | (with_reducible refine run_ops_nil ?_) | (refine run_pure1 tabOk rfl ?_) | (with_reducible refine run_block ?_) | (with_reducible refine run_blk ?_) | (with_reducible refine run_label ?_) | (with_reducible refine run_skip ?_) | (refine run_exit rfl ?_) | (apply w_fieldat tabOk; rfl; rfl; rfl; rfl) | (apply w_load tabOk rfl rfl rfl rfl; (repeat (first | (with_reducible exact At.head) | apply At.tail)); rfl; rfl) | (apply w_store tabOk rfl rfl rfl rfl rfl rfl rfl rfl; (repeat (first | (with_reducible exact At.head) | apply At.tail)); rfl; rfl) | (apply w_arith; rfl; rfl; rfl; rfl; omega; omega; rfl))
  have h2 : FnD Try.prog q 15 [.pointer (some ⟨b, 0, none⟩), .slice (some ⟨r, 0, none⟩) 1 1] [cells r 4 ⟨[.bool true]⟩, plateAt b aS1] (.tuple #[]) [cells r 4 ⟨[.bool true]⟩, plateAt b aS2] :=
    FnD.lend Try.call15 fun q' hX hx hs hq => aw2 ▸ start_spec q' b aS1 aS1_wf (some ⟨r, 0, none⟩) 1 [true] (RowQ.of_cells hx hs rfl)
  apply run_calld rfl rfl rfl (h2); (repeat (first | exact Pulls.nil | (apply Pulls.cons; (repeat (first | (with_reducible exact Pull.head) | apply Pull.tail))))); rfl; rfl
  repeat (first | (with_reducible refine run_seq ?_) | (refine run_region rfl rfl ?_) | (with_reducible refine run_ops_nil ?_) | (refine run_pure1 tabOk rfl ?_) | (with_reducible refine run_block ?_) | (with_reducible refine run_blk ?_) | (with_reducible refine run_label ?_) | (with_reducible refine run_skip ?_) | (refine run_exit rfl ?_) | (apply w_fieldat tabOk; rfl; rfl; rfl; rfl) | (apply w_load tabOk rfl rfl rfl rfl; (repeat (first | (with_reducible exact At.head) | apply At.tail)); rfl; rfl) | (apply w_store tabOk rfl rfl rfl rfl rfl rfl rfl rfl; (repeat (first | (with_reducible exact At.head) | apply At.tail)); rfl; rfl) | (apply w_arith; rfl; rfl; rfl; rfl; omega; omega; rfl))
  have h3 := read_spec q b aS2 aS2_wf 0
  rw [aw3] at h3
  apply run_calld rfl rfl rfl (h3); (repeat (first | exact Pulls.nil | (apply Pulls.cons; (repeat (first | (with_reducible exact Pull.head) | apply Pull.tail))))); rfl; rfl
  repeat (first | (with_reducible refine run_seq ?_) | (refine run_region rfl rfl ?_) | (with_reducible refine run_ops_nil ?_) | (refine run_pure1 tabOk rfl ?_) | (with_reducible refine run_block ?_) | (with_reducible refine run_blk ?_) | (with_reducible refine run_label ?_) | (with_reducible refine run_skip ?_) | (refine run_exit rfl ?_) | (apply w_fieldat tabOk; rfl; rfl; rfl; rfl) | (apply w_load tabOk rfl rfl rfl rfl; (repeat (first | (with_reducible exact At.head) | apply At.tail)); rfl; rfl) | (apply w_store tabOk rfl rfl rfl rfl rfl rfl rfl rfl; (repeat (first | (with_reducible exact At.head) | apply At.tail)); rfl; rfl) | (apply w_arith; rfl; rfl; rfl; rfl; omega; omega; rfl))
  refine run_ret rfl (imp_RD rfl ?_)
  (repeat (first | exact imp_nil | (apply imp_pick; (repeat (first | (with_reducible exact Pull.head) | apply Pull.tail)))))
end Go.Proofs.Ytkmdajbhkfneaaa.V
