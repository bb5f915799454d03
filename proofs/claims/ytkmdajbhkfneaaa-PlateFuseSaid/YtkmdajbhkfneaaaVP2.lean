/- The device: a write that is kept. -/
import Derived.Test.YtkmdajbhkfneaaaVP1
set_option maxRecDepth 10000
set_option linter.unusedVariables false
namespace Go.Proofs.Ytkmdajbhkfneaaa.V
open Go.Proofs.Ytkmdajbhkfneaaa.VL
/-- A write is kept. -/
@[reducible] def keepH (h : List ByteArray × List Bool) (x : Int × ByteArray) : List ByteArray × List Bool := (h.1.set x.1.toNat x.2, h.2.set x.1.toNat false)
@[reducible] def withH (s : PSt) (h : List ByteArray × List Bool) : PSt := { s with held := h.1, dumb := h.2 }
@[reducible] def keepF (s : PSt) (x : Int × ByteArray) : PSt := withH s (keepH (s.held, s.dumb) x)
theorem keep_held (s : PSt) (x : Int × ByteArray) : (keepF s x).held.length = s.held.length := List.length_set
theorem keep_dumb (s : PSt) (x : Int × ByteArray) : (keepF s x).dumb.length = s.dumb.length := List.length_set
theorem keep_heldV (s : PSt) (x : Int × ByteArray) : (keepF s x).held.map Value.string = (s.held.map Value.string).set x.1.toNat (.string x.2) := List.map_set
theorem keep_dumbV (s : PSt) (x : Int × ByteArray) : (keepF s x).dumb.map Value.bool = (s.dumb.map Value.bool).set x.1.toNat (.bool false) := List.map_set
theorem keep_parts (q : View) (b : Nat) (s : PSt) (hh : (s.held.length : Int) = s.sectors) (hd : (s.dumb.length : Int) = s.sectors) (hs : s.sectors ≤ 32768) (x : Int × ByteArray) (h0 : 0 ≤ x.1) (h1 : x.1 < s.sectors) (bh bd : Nat) (pc : Option Addr) (cc : Nat) :
    FnD Try.prog q 34 [.pointer (some ⟨b, 0, none⟩), .agg ⟨[.int .i64 x.1, .string x.2]⟩] (plate3 b s bh bd pc cc []) (.tuple #[]) (plate3 b (keepF s x) bh bd pc cc []) := by
  refine FnD.of_run Try.call34 Try.func34 rfl [(0, .pointer (some ⟨b, 0, none⟩)), (1, .agg ⟨[.int .i64 x.1, .string x.2]⟩)] (Nat.le_of_ble_eq_true rfl) (by simp) ?_
  unfold plate3
  repeat (first | (with_reducible refine run_seq ?_) | (refine run_region rfl rfl ?_) | (with_reducible refine run_ops_nil ?_) | (refine run_pure1 tabOk rfl ?_) | (with_reducible refine run_block ?_) | (with_reducible refine run_blk ?_) | (with_reducible refine run_label ?_) | (with_reducible refine run_skip ?_) | (refine run_exit rfl ?_) | (apply w_fieldat tabOk; rfl; rfl; rfl; rfl) | (apply w_load tabOk rfl rfl rfl rfl; (repeat (first | (with_reducible exact At.head) | apply At.tail)); rfl; rfl) | (apply w_store tabOk rfl rfl rfl rfl rfl rfl rfl rfl; (repeat (first | (with_reducible exact At.head) | apply At.tail)); rfl; rfl) | (apply w_arith; rfl; rfl; rfl; rfl; omega; omega; rfl))
  (refine w_box rfl rfl rfl (fun _ => rfl) ?_)
  intro r
  repeat (first | (with_reducible refine run_seq ?_) | (refine run_region rfl rfl ?_) | (with_reducible refine run_ops_nil ?_) | (refine run_pure1 tabOk rfl ?_) | (with_reducible refine run_block ?_) | (with_reducible refine run_blk ?_) | (with_reducible refine run_label ?_) | (with_reducible refine run_skip ?_) | (refine run_exit rfl ?_) | (apply w_fieldat tabOk; rfl; rfl; rfl; rfl) | (apply w_load tabOk rfl rfl rfl rfl; (repeat (first | (with_reducible exact At.head) | apply At.tail)); rfl; rfl) | (apply w_store tabOk rfl rfl rfl rfl rfl rfl rfl rfl; (repeat (first | (with_reducible exact At.head) | apply At.tail)); rfl; rfl) | (apply w_arith; rfl; rfl; rfl; rfl; omega; omega; rfl))
  apply a_start (M := [cells bh 9 ⟨s.held.map Value.string⟩]) mixed
  (repeat (first | exact Pulls.nil | (apply Pulls.cons; (repeat (first | (with_reducible exact Pull.head) | apply Pull.tail)))))
  (apply a_pure 0 tabOk; rfl; kernel_rfl; kernel_rfl; kernel_rfl; rfl)
  (apply a_pure 1 tabOk; rfl; kernel_rfl; kernel_rfl; kernel_rfl; rfl)
  (apply a_pure 2 tabOk; rfl; kernel_rfl; kernel_rfl; kernel_rfl; rfl)
  (apply a_load 3 tabOk; rfl; kernel_rfl; kernel_rfl; kernel_rfl; rfl; rfl; rfl; rfl; (repeat (first | (with_reducible exact At.head) | apply At.tail)); rfl; rfl)
  (apply a_pure 4 tabOk; rfl; kernel_rfl; kernel_rfl; kernel_rfl; rfl)
  (apply a_load 5 tabOk; rfl; kernel_rfl; kernel_rfl; kernel_rfl; rfl; rfl; rfl; rfl; (repeat (first | (with_reducible exact At.head) | apply At.tail)); rfl; rfl)
  (apply a_pure 6 tabOk; rfl; kernel_rfl; kernel_rfl; kernel_rfl; rfl)
  (apply a_load 7 tabOk; rfl; kernel_rfl; kernel_rfl; kernel_rfl; rfl; rfl; rfl; rfl; (repeat (first | (with_reducible exact At.head) | apply At.tail)); rfl; rfl)
  (apply a_idx1 8 tabOk; rfl; kernel_rfl; kernel_rfl; kernel_rfl; rfl; rfl; rfl; rfl; rfl; rfl; rfl; omega; omega; rfl)
  (apply a_store_set 9 tabOk; rfl; kernel_rfl; rfl; rfl; rfl; rfl; rfl; rfl; rfl; apply At.head; (simp; omega); rfl)
  (apply a_done; kernel_rfl; rfl)
  repeat (first | (with_reducible refine run_seq ?_) | (refine run_region rfl rfl ?_) | (with_reducible refine run_ops_nil ?_) | (refine run_pure1 tabOk rfl ?_) | (with_reducible refine run_block ?_) | (with_reducible refine run_blk ?_) | (with_reducible refine run_label ?_) | (with_reducible refine run_skip ?_) | (refine run_exit rfl ?_) | (apply w_fieldat tabOk; rfl; rfl; rfl; rfl) | (apply w_load tabOk rfl rfl rfl rfl; (repeat (first | (with_reducible exact At.head) | apply At.tail)); rfl; rfl) | (apply w_store tabOk rfl rfl rfl rfl rfl rfl rfl rfl; (repeat (first | (with_reducible exact At.head) | apply At.tail)); rfl; rfl) | (apply w_arith; rfl; rfl; rfl; rfl; omega; omega; rfl))
  apply a_start (M := [cells bd 4 ⟨s.dumb.map Value.bool⟩]) mixed
  (repeat (first | exact Pulls.nil | (apply Pulls.cons; (repeat (first | (with_reducible exact Pull.head) | apply Pull.tail)))))
  (apply a_pure 0 tabOk; rfl; kernel_rfl; kernel_rfl; kernel_rfl; rfl)
  (apply a_pure 1 tabOk; rfl; kernel_rfl; kernel_rfl; kernel_rfl; rfl)
  (apply a_pure 2 tabOk; rfl; kernel_rfl; kernel_rfl; kernel_rfl; rfl)
  (apply a_load 3 tabOk; rfl; kernel_rfl; kernel_rfl; kernel_rfl; rfl; rfl; rfl; rfl; (repeat (first | (with_reducible exact At.head) | apply At.tail)); rfl; rfl)
  (apply a_pure 4 tabOk; rfl; kernel_rfl; kernel_rfl; kernel_rfl; rfl)
  (apply a_load 5 tabOk; rfl; kernel_rfl; kernel_rfl; kernel_rfl; rfl; rfl; rfl; rfl; (repeat (first | (with_reducible exact At.head) | apply At.tail)); rfl; rfl)
  (apply a_idx1 6 tabOk; rfl; kernel_rfl; kernel_rfl; kernel_rfl; rfl; rfl; rfl; rfl; rfl; rfl; rfl; omega; omega; rfl)
  (apply a_store_set 7 tabOk; rfl; kernel_rfl; rfl; rfl; rfl; rfl; rfl; rfl; rfl; apply At.head; (simp; omega); rfl)
  (apply a_done; kernel_rfl; rfl)
  repeat (first | (with_reducible refine run_seq ?_) | (refine run_region rfl rfl ?_) | (with_reducible refine run_ops_nil ?_) | (refine run_pure1 tabOk rfl ?_) | (with_reducible refine run_block ?_) | (with_reducible refine run_blk ?_) | (with_reducible refine run_label ?_) | (with_reducible refine run_skip ?_) | (refine run_exit rfl ?_) | (apply w_fieldat tabOk; rfl; rfl; rfl; rfl) | (apply w_load tabOk rfl rfl rfl rfl; (repeat (first | (with_reducible exact At.head) | apply At.tail)); rfl; rfl) | (apply w_store tabOk rfl rfl rfl rfl rfl rfl rfl rfl; (repeat (first | (with_reducible exact At.head) | apply At.tail)); rfl; rfl) | (apply w_arith; rfl; rfl; rfl; rfl; omega; omega; rfl))
  refine run_end rfl (imp_RD rfl ?_)
  rw [keep_held, keep_dumb, keep_heldV, keep_dumbV]
  (repeat (first | exact imp_nil | (apply imp_pick; (repeat (first | (with_reducible exact Pull.head) | apply Pull.tail)))))
/-- Flush. -/
theorem foldH_len (l : List (Int × ByteArray)) (h : List ByteArray × List Bool) : (l.foldl keepH h).1.length = h.1.length ∧ (l.foldl keepH h).2.length = h.2.length := by
  induction l generalizing h with
  | nil => exact ⟨rfl, rfl⟩
  | cons x l ih => have := ih (keepH h x); simpa [keepH] using this
def flushF (s : PSt) : PSt := if s.down then s else { s with held := (s.cache.foldl keepH (s.held, s.dumb)).1, dumb := (s.cache.foldl keepH (s.held, s.dumb)).2, cache := [] }
theorem flush_spec (q : View) (b : Nat) (s : PSt) (hw : WF s) :
    FnD Try.prog q 18 [.pointer (some ⟨b, 0, none⟩)] [plateAt b s] (.int .i64 (if s.down then 20 else 0)) [plateAt b (flushF s)] := by
  have hh := hw.held
  have hd := hw.dumb
  have hn := hw.size
  refine FnD.of_run Try.call18 Try.func18 rfl [(0, .pointer (some ⟨b, 0, none⟩))] (Nat.le_of_ble_eq_true rfl) (by simp) ?_
  refine run_plate fun bh bd pc cc => ?_
  unfold plateParts plate3
  repeat (first | (with_reducible refine run_seq ?_) | (refine run_region rfl rfl ?_) | (with_reducible refine run_ops_nil ?_) | (refine run_pure1 tabOk rfl ?_) | (with_reducible refine run_block ?_) | (with_reducible refine run_blk ?_) | (with_reducible refine run_label ?_) | (with_reducible refine run_skip ?_) | (refine run_exit rfl ?_) | (apply w_fieldat tabOk; rfl; rfl; rfl; rfl) | (apply w_load tabOk rfl rfl rfl rfl; (repeat (first | (with_reducible exact At.head) | apply At.tail)); rfl; rfl) | (apply w_store tabOk rfl rfl rfl rfl rfl rfl rfl rfl; (repeat (first | (with_reducible exact At.head) | apply At.tail)); rfl; rfl) | (apply w_arith; rfl; rfl; rfl; rfl; omega; omega; rfl))
  refine run_cond_false rfl ?_
  repeat (first | (with_reducible refine run_seq ?_) | (refine run_region rfl rfl ?_) | (with_reducible refine run_ops_nil ?_) | (refine run_pure1 tabOk rfl ?_) | (with_reducible refine run_block ?_) | (with_reducible refine run_blk ?_) | (with_reducible refine run_label ?_) | (with_reducible refine run_skip ?_) | (refine run_exit rfl ?_) | (apply w_fieldat tabOk; rfl; rfl; rfl; rfl) | (apply w_load tabOk rfl rfl rfl rfl; (repeat (first | (with_reducible exact At.head) | apply At.tail)); rfl; rfl) | (apply w_store tabOk rfl rfl rfl rfl rfl rfl rfl rfl; (repeat (first | (with_reducible exact At.head) | apply At.tail)); rfl; rfl) | (apply w_arith; rfl; rfl; rfl; rfl; omega; omega; rfl))
  refine run_cond rfl ?_ ?_
  · intro h
    repeat (first | (with_reducible refine run_seq ?_) | (refine run_region rfl rfl ?_) | (with_reducible refine run_ops_nil ?_) | (refine run_pure1 tabOk rfl ?_) | (with_reducible refine run_block ?_) | (with_reducible refine run_blk ?_) | (with_reducible refine run_label ?_) | (with_reducible refine run_skip ?_) | (refine run_exit rfl ?_) | (apply w_fieldat tabOk; rfl; rfl; rfl; rfl) | (apply w_load tabOk rfl rfl rfl rfl; (repeat (first | (with_reducible exact At.head) | apply At.tail)); rfl; rfl) | (apply w_store tabOk rfl rfl rfl rfl rfl rfl rfl rfl; (repeat (first | (with_reducible exact At.head) | apply At.tail)); rfl; rfl) | (apply w_arith; rfl; rfl; rfl; rfl; omega; omega; rfl))
    refine run_ret rfl (imp_RD ?_ ?_)
    · rw [if_pos h]
    · unfold flushF; rw [if_pos h]; (apply imp_plate; unfold plateParts plate3; (repeat (first | exact imp_nil | (apply imp_pick; (repeat (first | (with_reducible exact Pull.head) | apply Pull.tail))))))
  · intro h
    have h' : ¬ (s.down = true) := by rw [h]; decide
    repeat (first | (with_reducible refine run_seq ?_) | (refine run_region rfl rfl ?_) | (with_reducible refine run_ops_nil ?_) | (refine run_pure1 tabOk rfl ?_) | (with_reducible refine run_block ?_) | (with_reducible refine run_blk ?_) | (with_reducible refine run_label ?_) | (with_reducible refine run_skip ?_) | (refine run_exit rfl ?_) | (apply w_fieldat tabOk; rfl; rfl; rfl; rfl) | (apply w_load tabOk rfl rfl rfl rfl; (repeat (first | (with_reducible exact At.head) | apply At.tail)); rfl; rfl) | (apply w_store tabOk rfl rfl rfl rfl rfl rfl rfl rfl; (repeat (first | (with_reducible exact At.head) | apply At.tail)); rfl; rfl) | (apply w_arith; rfl; rfl; rfl; rfl; omega; omega; rfl))
    refine run_loop (X := { i : Nat // i ≤ s.cache.length }) (fun i => [(0, .pointer (some ⟨b, 0, none⟩)), (14, .slice pc s.cache.length cc), (15, .int .i64 s.cache.length), (16, .int .i64 i.1)])
      (fun i => plateParts b (withH s ((s.cache.take i.1).foldl keepH (s.held, s.dumb))) bh bd pc cc []) (fun i => s.cache.length - i.1) ⟨0, Nat.zero_le _⟩ (by simp) ?_ ?_
    · simp only [List.take_zero, List.foldl_nil]; unfold plateParts plate3; (repeat (first | exact imp_nil | (apply imp_pick; (repeat (first | (with_reducible exact Pull.head) | apply Pull.tail)))))
    · intro ⟨i, hi⟩
      have hl : ((s.cache.take i).foldl keepH (s.held, s.dumb)).1.length = s.held.length ∧ ((s.cache.take i).foldl keepH (s.held, s.dumb)).2.length = s.dumb.length := foldH_len _ _
      generalize eS : (s.cache.take i).foldl keepH (s.held, s.dumb) = hS at *
      unfold plateParts plate3
      repeat (first | (with_reducible refine run_seq ?_) | (refine run_region rfl rfl ?_) | (with_reducible refine run_ops_nil ?_) | (refine run_pure1 tabOk rfl ?_) | (with_reducible refine run_block ?_) | (with_reducible refine run_blk ?_) | (with_reducible refine run_label ?_) | (with_reducible refine run_skip ?_) | (refine run_exit rfl ?_) | (apply w_fieldat tabOk; rfl; rfl; rfl; rfl) | (apply w_load tabOk rfl rfl rfl rfl; (repeat (first | (with_reducible exact At.head) | apply At.tail)); rfl; rfl) | (apply w_store tabOk rfl rfl rfl rfl rfl rfl rfl rfl; (repeat (first | (with_reducible exact At.head) | apply At.tail)); rfl; rfl) | (apply w_arith; rfl; rfl; rfl; rfl; omega; omega; rfl))
      refine run_cond_dec rfl ?_ ?_
      · intro h1
        have h1' : i < s.cache.length := Int.ofNat_lt.1 h1
        obtain ⟨x, hx⟩ : ∃ x, s.cache[i]? = some x := ⟨_, List.getElem?_eq_getElem h1'⟩
        have hxm := hw.cache x (List.mem_of_getElem? hx)
        apply run_pull (X := sl _ _ _ _ _ _); (repeat (first | (with_reducible exact Pull.head) | apply Pull.tail)); refine run_sl_open ?_ ?_
        · exact Nat.lt_of_le_of_lt (Nat.zero_le _) h1'
        intro bc spare ep e1 e2 e3
        have e2 : cc * 2 = (cacheV s.cache).length + spare.length := e2
        have e3 : s.cache.length ≤ cc := e3
        have e1 := cacheV_length s.cache
        subst ep
        repeat (first | (with_reducible refine run_seq ?_) | (refine run_region rfl rfl ?_) | (with_reducible refine run_ops_nil ?_) | (refine run_pure1 tabOk rfl ?_) | (with_reducible refine run_block ?_) | (with_reducible refine run_blk ?_) | (with_reducible refine run_label ?_) | (with_reducible refine run_skip ?_) | (refine run_exit rfl ?_) | (apply w_fieldat tabOk; rfl; rfl; rfl; rfl) | (apply w_load tabOk rfl rfl rfl rfl; (repeat (first | (with_reducible exact At.head) | apply At.tail)); rfl; rfl) | (apply w_store tabOk rfl rfl rfl rfl rfl rfl rfl rfl; (repeat (first | (with_reducible exact At.head) | apply At.tail)); rfl; rfl) | (apply w_arith; rfl; rfl; rfl; rfl; omega; omega; rfl))
        (apply w_idxk (kk := 2) (hT := tabOk); rfl; rfl; rfl; rfl; rfl; rfl; rfl; omega; omega; rfl)
        (apply w_load_agg_at (m := 2) tabOk rfl rfl rfl rfl rfl; (repeat (first | (with_reducible exact At.head) | apply At.tail)))
        · exact (cacheV_at s.cache spare i x hx).2.2
        · simp only [List.length_append, cacheV_length]; omega
        · rfl
        repeat (first | (with_reducible refine run_seq ?_) | (refine run_region rfl rfl ?_) | (with_reducible refine run_ops_nil ?_) | (refine run_pure1 tabOk rfl ?_) | (with_reducible refine run_block ?_) | (with_reducible refine run_blk ?_) | (with_reducible refine run_label ?_) | (with_reducible refine run_skip ?_) | (refine run_exit rfl ?_) | (apply w_fieldat tabOk; rfl; rfl; rfl; rfl) | (apply w_load tabOk rfl rfl rfl rfl; (repeat (first | (with_reducible exact At.head) | apply At.tail)); rfl; rfl) | (apply w_store tabOk rfl rfl rfl rfl rfl rfl rfl rfl; (repeat (first | (with_reducible exact At.head) | apply At.tail)); rfl; rfl) | (apply w_arith; rfl; rfl; rfl; rfl; omega; omega; rfl))
        (refine w_alloc tabOk rfl rfl rfl rfl (fun _ => rfl) ?_)
        intro r
        repeat (first | (with_reducible refine run_seq ?_) | (refine run_region rfl rfl ?_) | (with_reducible refine run_ops_nil ?_) | (refine run_pure1 tabOk rfl ?_) | (with_reducible refine run_block ?_) | (with_reducible refine run_blk ?_) | (with_reducible refine run_label ?_) | (with_reducible refine run_skip ?_) | (refine run_exit rfl ?_) | (apply w_fieldat tabOk; rfl; rfl; rfl; rfl) | (apply w_load tabOk rfl rfl rfl rfl; (repeat (first | (with_reducible exact At.head) | apply At.tail)); rfl; rfl) | (apply w_store tabOk rfl rfl rfl rfl rfl rfl rfl rfl; (repeat (first | (with_reducible exact At.head) | apply At.tail)); rfl; rfl) | (apply w_arith; rfl; rfl; rfl; rfl; omega; omega; rfl))
        (apply w_load_agg tabOk rfl rfl rfl rfl; (repeat (first | (with_reducible exact At.head) | apply At.tail)); rfl; rfl)
        repeat (first | (with_reducible refine run_seq ?_) | (refine run_region rfl rfl ?_) | (with_reducible refine run_ops_nil ?_) | (refine run_pure1 tabOk rfl ?_) | (with_reducible refine run_block ?_) | (with_reducible refine run_blk ?_) | (with_reducible refine run_label ?_) | (with_reducible refine run_skip ?_) | (refine run_exit rfl ?_) | (apply w_fieldat tabOk; rfl; rfl; rfl; rfl) | (apply w_load tabOk rfl rfl rfl rfl; (repeat (first | (with_reducible exact At.head) | apply At.tail)); rfl; rfl) | (apply w_store tabOk rfl rfl rfl rfl rfl rfl rfl rfl; (repeat (first | (with_reducible exact At.head) | apply At.tail)); rfl; rfl) | (apply w_arith; rfl; rfl; rfl; rfl; omega; omega; rfl))
        apply run_calld rfl rfl rfl (keep_parts q b (withH s hS) (show (hS.1.length : Int) = s.sectors by omega) (show (hS.2.length : Int) = s.sectors by omega) hw.sec x hxm.1 hxm.2 bh bd _ cc)
        (repeat (first | exact Pulls.nil | (apply Pulls.cons; (repeat (first | (with_reducible exact Pull.head) | apply Pull.tail)))))
        rfl
        rfl
        repeat (first | (with_reducible refine run_seq ?_) | (refine run_region rfl rfl ?_) | (with_reducible refine run_ops_nil ?_) | (refine run_pure1 tabOk rfl ?_) | (with_reducible refine run_block ?_) | (with_reducible refine run_blk ?_) | (with_reducible refine run_label ?_) | (with_reducible refine run_skip ?_) | (refine run_exit rfl ?_) | (apply w_fieldat tabOk; rfl; rfl; rfl; rfl) | (apply w_load tabOk rfl rfl rfl rfl; (repeat (first | (with_reducible exact At.head) | apply At.tail)); rfl; rfl) | (apply w_store tabOk rfl rfl rfl rfl rfl rfl rfl rfl; (repeat (first | (with_reducible exact At.head) | apply At.tail)); rfl; rfl) | (apply w_arith; rfl; rfl; rfl; rfl; omega; omega; rfl))
        have et : (s.cache.take (i + 1)).foldl keepH (s.held, s.dumb) = keepH hS x := by rw [List.take_add_one, hx, List.foldl_append, eS]; rfl
        refine run_stop_loop ⟨i + 1, h1'⟩ (show s.cache.length - (i + 1) < s.cache.length - i by omega) ?_ ?_
        · (repeat (first | exact facts_nil | (refine facts_cons rfl ?_)))
        · show Imp _ (star (plateParts b (withH s ((s.cache.take (i + 1)).foldl keepH (s.held, s.dumb))) bh bd _ cc []))
          rw [et]
          unfold plateParts plate3
          (iterate 3 (apply imp_pick; (repeat (first | (with_reducible exact Pull.head) | apply Pull.tail))))
          refine imp_sl_shut (by omega) e2 e3 ?_
          (repeat (first | exact imp_nil | (apply imp_pick; (repeat (first | (with_reducible exact Pull.head) | apply Pull.tail)))))
      · intro h1
        have h1' : i = s.cache.length := Nat.le_antisymm hi (Nat.le_of_not_lt fun h => h1 (Int.ofNat_lt.2 h))
        repeat (first | (with_reducible refine run_seq ?_) | (refine run_region rfl rfl ?_) | (with_reducible refine run_ops_nil ?_) | (refine run_pure1 tabOk rfl ?_) | (with_reducible refine run_block ?_) | (with_reducible refine run_blk ?_) | (with_reducible refine run_label ?_) | (with_reducible refine run_skip ?_) | (refine run_exit rfl ?_) | (apply w_fieldat tabOk; rfl; rfl; rfl; rfl) | (apply w_load tabOk rfl rfl rfl rfl; (repeat (first | (with_reducible exact At.head) | apply At.tail)); rfl; rfl) | (apply w_store tabOk rfl rfl rfl rfl rfl rfl rfl rfl; (repeat (first | (with_reducible exact At.head) | apply At.tail)); rfl; rfl) | (apply w_arith; rfl; rfl; rfl; rfl; omega; omega; rfl))
        refine run_ret rfl (imp_RD ?_ ?_)
        · rw [if_neg h']
        · subst h1'
          rw [List.take_length] at eS
          unfold flushF; rw [if_neg h', eS]
          apply imp_plate (pc := none) (cc := 0); unfold plateParts plate3; dsimp only [List.length_nil]
          (iterate 3 (apply imp_pick; (repeat (first | (with_reducible exact Pull.head) | apply Pull.tail))))
          exact imp_sl_nil imp_nil
end Go.Proofs.Ytkmdajbhkfneaaa.V
