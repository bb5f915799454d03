/- The device: Start. -/
import Derived.Test.YtkmdajbhkfneaaaVP4
set_option maxRecDepth 10000
set_option linter.unusedVariables false
namespace Go.Proofs.Ytkmdajbhkfneaaa.V
open Go.Proofs.Ytkmdajbhkfneaaa.VL
@[reducible] def keepB (h : List ByteArray × List Bool) (y : (Int × ByteArray) × Bool) : List ByteArray × List Bool := if y.2 = true then keepH h y.1 else h
def startH (s : PSt) (ks : List Bool) : List ByteArray × List Bool := (s.cache.zip ks).foldl keepB (s.held, s.dumb)
def startF (s : PSt) (ks : List Bool) : PSt := { s with held := (startH s ks).1, dumb := (startH s ks).2, cache := [], down := false, fuse := -1 }
theorem foldB_len (l : List ((Int × ByteArray) × Bool)) (h : List ByteArray × List Bool) : (l.foldl keepB h).1.length = h.1.length ∧ (l.foldl keepB h).2.length = h.2.length := by
  induction l generalizing h with
  | nil => exact ⟨rfl, rfl⟩
  | cons x l ih =>
    have := ih (keepB h x)
    rw [List.foldl_cons, this.1, this.2]
    unfold keepB; split <;> simp
theorem start_spec (q : View) (b : Nat) (s : PSt) (hw : WF s) (kp : Option Addr) (kc : Nat) (ks : List Bool) (hk : RowQ q kp ks.length 1 (ks.map Value.bool)) :
    FnD Try.prog q 15 [.pointer (some ⟨b, 0, none⟩), .slice kp ks.length kc] [plateAt b s] (.tuple #[]) [plateAt b (startF s ks)] := by
  have hh := hw.held
  have hd := hw.dumb
  have hn := hw.size
  refine FnD.of_run Try.call15 Try.func15 rfl [(0, .pointer (some ⟨b, 0, none⟩)), (1, .slice kp ks.length kc)] (Nat.le_of_ble_eq_true rfl) (by simp) ?_
  refine run_plate fun bh bd pc cc => ?_
  unfold plateParts plate3
  repeat (first | (with_reducible refine run_seq ?_) | (refine run_region rfl rfl ?_) | (with_reducible refine run_ops_nil ?_) | (refine run_pure1 tabOk rfl ?_) | (with_reducible refine run_block ?_) | (with_reducible refine run_blk ?_) | (with_reducible refine run_label ?_) | (with_reducible refine run_skip ?_) | (refine run_exit rfl ?_) | (apply w_fieldat tabOk; rfl; rfl; rfl; rfl) | (apply w_load tabOk rfl rfl rfl rfl; (repeat (first | (with_reducible exact At.head) | apply At.tail)); rfl; rfl) | (apply w_store tabOk rfl rfl rfl rfl rfl rfl rfl rfl; (repeat (first | (with_reducible exact At.head) | apply At.tail)); rfl; rfl) | (apply w_arith; rfl; rfl; rfl; rfl; omega; omega; rfl))
  refine run_cond_false rfl ?_
  repeat (first | (with_reducible refine run_seq ?_) | (refine run_region rfl rfl ?_) | (with_reducible refine run_ops_nil ?_) | (refine run_pure1 tabOk rfl ?_) | (with_reducible refine run_block ?_) | (with_reducible refine run_blk ?_) | (with_reducible refine run_label ?_) | (with_reducible refine run_skip ?_) | (refine run_exit rfl ?_) | (apply w_fieldat tabOk; rfl; rfl; rfl; rfl) | (apply w_load tabOk rfl rfl rfl rfl; (repeat (first | (with_reducible exact At.head) | apply At.tail)); rfl; rfl) | (apply w_store tabOk rfl rfl rfl rfl rfl rfl rfl rfl; (repeat (first | (with_reducible exact At.head) | apply At.tail)); rfl; rfl) | (apply w_arith; rfl; rfl; rfl; rfl; omega; omega; rfl))
  refine run_loop (X := { i : Nat // i ≤ s.cache.length }) (fun i => [(0, .pointer (some ⟨b, 0, none⟩)), (1, .slice kp ks.length kc), (11, .slice pc s.cache.length cc), (12, .int .i64 s.cache.length), (13, .int .i64 i.1)])
    (fun i => plateParts b (withH s (((s.cache.zip ks).take i.1).foldl keepB (s.held, s.dumb))) bh bd pc cc []) (fun i => s.cache.length - i.1) ⟨0, Nat.zero_le _⟩ ?_ ?_ ?_
  · (repeat (first | exact facts_nil | (refine facts_cons rfl ?_)))
  · simp only [List.take_zero, List.foldl_nil]; unfold plateParts plate3; (repeat (first | exact imp_nil | (apply imp_pick; (repeat (first | (with_reducible exact Pull.head) | apply Pull.tail)))))
  · intro ⟨i, hi⟩
    have hl : (((s.cache.zip ks).take i).foldl keepB (s.held, s.dumb)).1.length = s.held.length ∧ (((s.cache.zip ks).take i).foldl keepB (s.held, s.dumb)).2.length = s.dumb.length := foldB_len _ _
    generalize eS : ((s.cache.zip ks).take i).foldl keepB (s.held, s.dumb) = hS at *
    unfold plateParts plate3
    repeat (first | (with_reducible refine run_seq ?_) | (refine run_region rfl rfl ?_) | (with_reducible refine run_ops_nil ?_) | (refine run_pure1 tabOk rfl ?_) | (with_reducible refine run_block ?_) | (with_reducible refine run_blk ?_) | (with_reducible refine run_label ?_) | (with_reducible refine run_skip ?_) | (refine run_exit rfl ?_) | (apply w_fieldat tabOk; rfl; rfl; rfl; rfl) | (apply w_load tabOk rfl rfl rfl rfl; (repeat (first | (with_reducible exact At.head) | apply At.tail)); rfl; rfl) | (apply w_store tabOk rfl rfl rfl rfl rfl rfl rfl rfl; (repeat (first | (with_reducible exact At.head) | apply At.tail)); rfl; rfl) | (apply w_arith; rfl; rfl; rfl; rfl; omega; omega; rfl))
    refine run_cond_dec rfl ?_ ?_
    · intro h1
      have h1' : i < s.cache.length := Int.ofNat_lt.1 h1
      obtain ⟨x, hx⟩ : ∃ x, s.cache[i]? = some x := ⟨_, List.getElem?_eq_getElem h1'⟩
      have hxm := hw.cache x (List.mem_of_getElem? hx)
      apply run_pull (X := sl _ _ _ _ _ _); (repeat (first | (with_reducible exact Pull.head) | apply Pull.tail)); refine run_sl_open ?_ ?_
      · exact Nat.lt_of_le_of_lt (Nat.zero_le _) h1'
      intro bc spare ep e1 e2 e3
      have e2 : cc * 2 = (cacheV s.cache).length + spare.length := e2
      have e3 : s.cache.length ≤ cc := e3
      have e1 := cacheV_length s.cache
      subst ep
      repeat (first | (with_reducible refine run_seq ?_) | (refine run_region rfl rfl ?_) | (with_reducible refine run_ops_nil ?_) | (refine run_pure1 tabOk rfl ?_) | (with_reducible refine run_block ?_) | (with_reducible refine run_blk ?_) | (with_reducible refine run_label ?_) | (with_reducible refine run_skip ?_) | (refine run_exit rfl ?_) | (apply w_fieldat tabOk; rfl; rfl; rfl; rfl) | (apply w_load tabOk rfl rfl rfl rfl; (repeat (first | (with_reducible exact At.head) | apply At.tail)); rfl; rfl) | (apply w_store tabOk rfl rfl rfl rfl rfl rfl rfl rfl; (repeat (first | (with_reducible exact At.head) | apply At.tail)); rfl; rfl) | (apply w_arith; rfl; rfl; rfl; rfl; omega; omega; rfl))
      (apply w_idxk (kk := 2) (hT := tabOk); rfl; rfl; rfl; rfl; rfl; rfl; rfl; omega; omega; rfl)
      (apply w_load_agg_at (m := 2) tabOk rfl rfl rfl rfl rfl; (repeat (first | (with_reducible exact At.head) | apply At.tail)))
      · exact (cacheV_at s.cache spare i x hx).2.2
      · simp only [List.length_append, cacheV_length]; omega
      · rfl
      repeat (first | (with_reducible refine run_seq ?_) | (refine run_region rfl rfl ?_) | (with_reducible refine run_ops_nil ?_) | (refine run_pure1 tabOk rfl ?_) | (with_reducible refine run_block ?_) | (with_reducible refine run_blk ?_) | (with_reducible refine run_label ?_) | (with_reducible refine run_skip ?_) | (refine run_exit rfl ?_) | (apply w_fieldat tabOk; rfl; rfl; rfl; rfl) | (apply w_load tabOk rfl rfl rfl rfl; (repeat (first | (with_reducible exact At.head) | apply At.tail)); rfl; rfl) | (apply w_store tabOk rfl rfl rfl rfl rfl rfl rfl rfl; (repeat (first | (with_reducible exact At.head) | apply At.tail)); rfl; rfl) | (apply w_arith; rfl; rfl; rfl; rfl; omega; omega; rfl))
      (refine w_alloc tabOk rfl rfl rfl rfl (fun _ => rfl) ?_)
      intro r
      repeat (first | (with_reducible refine run_seq ?_) | (refine run_region rfl rfl ?_) | (with_reducible refine run_ops_nil ?_) | (refine run_pure1 tabOk rfl ?_) | (with_reducible refine run_block ?_) | (with_reducible refine run_blk ?_) | (with_reducible refine run_label ?_) | (with_reducible refine run_skip ?_) | (refine run_exit rfl ?_) | (apply w_fieldat tabOk; rfl; rfl; rfl; rfl) | (apply w_load tabOk rfl rfl rfl rfl; (repeat (first | (with_reducible exact At.head) | apply At.tail)); rfl; rfl) | (apply w_store tabOk rfl rfl rfl rfl rfl rfl rfl rfl; (repeat (first | (with_reducible exact At.head) | apply At.tail)); rfl; rfl) | (apply w_arith; rfl; rfl; rfl; rfl; omega; omega; rfl))
      refine run_split_dec rfl rfl rfl rfl rfl ?_ ?_
      · intro h2
        have h2' : i < ks.length := Int.ofNat_lt.1 h2
        obtain ⟨bk, ok, ck, tk, fk, ep, hq, hi2⟩ := hk.open_ (by omega)
        subst ep
        obtain ⟨z, hz⟩ : ∃ z, ks[i]? = some z := ⟨_, List.getElem?_eq_getElem h2'⟩
        have hck : ck[ok + i]? = some (.bool z) := by rw [hi2 i (by omega), List.getElem?_map, hz]; rfl
        have hzip : (s.cache.zip ks)[i]? = some (x, z) := by rw [List.getElem?_zip_eq_some]; exact ⟨hx, hz⟩
        have et : ((s.cache.zip ks).take (i + 1)).foldl keepB (s.held, s.dumb) = keepB hS (x, z) := by rw [List.take_add_one, hzip, List.foldl_append, eS]; rfl
        repeat (first | (with_reducible refine run_seq ?_) | (refine run_region rfl rfl ?_) | (with_reducible refine run_ops_nil ?_) | (refine run_pure1 tabOk rfl ?_) | (with_reducible refine run_block ?_) | (with_reducible refine run_blk ?_) | (with_reducible refine run_label ?_) | (with_reducible refine run_skip ?_) | (refine run_exit rfl ?_) | (apply w_fieldat tabOk; rfl; rfl; rfl; rfl) | (apply w_load tabOk rfl rfl rfl rfl; (repeat (first | (with_reducible exact At.head) | apply At.tail)); rfl; rfl) | (apply w_store tabOk rfl rfl rfl rfl rfl rfl rfl rfl; (repeat (first | (with_reducible exact At.head) | apply At.tail)); rfl; rfl) | (apply w_arith; rfl; rfl; rfl; rfl; omega; omega; rfl))
        apply w_indexAddr tabOk; rfl; rfl; rfl; rfl; rfl; rfl; omega; omega; rfl
        apply w_load_old tabOk rfl rfl rfl rfl hq
        · exact (show ck[ok + i * 1]? = some (.bool z) by rw [Nat.mul_one]; exact hck)
        · rfl
        repeat (first | (with_reducible refine run_seq ?_) | (refine run_region rfl rfl ?_) | (with_reducible refine run_ops_nil ?_) | (refine run_pure1 tabOk rfl ?_) | (with_reducible refine run_block ?_) | (with_reducible refine run_blk ?_) | (with_reducible refine run_label ?_) | (with_reducible refine run_skip ?_) | (refine run_exit rfl ?_) | (apply w_fieldat tabOk; rfl; rfl; rfl; rfl) | (apply w_load tabOk rfl rfl rfl rfl; (repeat (first | (with_reducible exact At.head) | apply At.tail)); rfl; rfl) | (apply w_store tabOk rfl rfl rfl rfl rfl rfl rfl rfl; (repeat (first | (with_reducible exact At.head) | apply At.tail)); rfl; rfl) | (apply w_arith; rfl; rfl; rfl; rfl; omega; omega; rfl))
        refine run_cond rfl ?_ ?_
        · intro h3
          have et : ((s.cache.zip ks).take (i + 1)).foldl keepB (s.held, s.dumb) = keepH hS x := by rw [et]; unfold keepB; rw [if_pos h3]
          repeat (first | (with_reducible refine run_seq ?_) | (refine run_region rfl rfl ?_) | (with_reducible refine run_ops_nil ?_) | (refine run_pure1 tabOk rfl ?_) | (with_reducible refine run_block ?_) | (with_reducible refine run_blk ?_) | (with_reducible refine run_label ?_) | (with_reducible refine run_skip ?_) | (refine run_exit rfl ?_) | (apply w_fieldat tabOk; rfl; rfl; rfl; rfl) | (apply w_load tabOk rfl rfl rfl rfl; (repeat (first | (with_reducible exact At.head) | apply At.tail)); rfl; rfl) | (apply w_store tabOk rfl rfl rfl rfl rfl rfl rfl rfl; (repeat (first | (with_reducible exact At.head) | apply At.tail)); rfl; rfl) | (apply w_arith; rfl; rfl; rfl; rfl; omega; omega; rfl))
          (apply w_load_agg tabOk rfl rfl rfl rfl; (repeat (first | (with_reducible exact At.head) | apply At.tail)); rfl; rfl)
          repeat (first | (with_reducible refine run_seq ?_) | (refine run_region rfl rfl ?_) | (with_reducible refine run_ops_nil ?_) | (refine run_pure1 tabOk rfl ?_) | (with_reducible refine run_block ?_) | (with_reducible refine run_blk ?_) | (with_reducible refine run_label ?_) | (with_reducible refine run_skip ?_) | (refine run_exit rfl ?_) | (apply w_fieldat tabOk; rfl; rfl; rfl; rfl) | (apply w_load tabOk rfl rfl rfl rfl; (repeat (first | (with_reducible exact At.head) | apply At.tail)); rfl; rfl) | (apply w_store tabOk rfl rfl rfl rfl rfl rfl rfl rfl; (repeat (first | (with_reducible exact At.head) | apply At.tail)); rfl; rfl) | (apply w_arith; rfl; rfl; rfl; rfl; omega; omega; rfl))
          apply run_calld rfl rfl rfl (keep_parts q b (withH s hS) (show (hS.1.length : Int) = s.sectors by omega) (show (hS.2.length : Int) = s.sectors by omega) hw.sec x hxm.1 hxm.2 bh bd _ cc); (repeat (first | exact Pulls.nil | (apply Pulls.cons; (repeat (first | (with_reducible exact Pull.head) | apply Pull.tail))))); rfl; rfl
          repeat (first | (with_reducible refine run_seq ?_) | (refine run_region rfl rfl ?_) | (with_reducible refine run_ops_nil ?_) | (refine run_pure1 tabOk rfl ?_) | (with_reducible refine run_block ?_) | (with_reducible refine run_blk ?_) | (with_reducible refine run_label ?_) | (with_reducible refine run_skip ?_) | (refine run_exit rfl ?_) | (apply w_fieldat tabOk; rfl; rfl; rfl; rfl) | (apply w_load tabOk rfl rfl rfl rfl; (repeat (first | (with_reducible exact At.head) | apply At.tail)); rfl; rfl) | (apply w_store tabOk rfl rfl rfl rfl rfl rfl rfl rfl; (repeat (first | (with_reducible exact At.head) | apply At.tail)); rfl; rfl) | (apply w_arith; rfl; rfl; rfl; rfl; omega; omega; rfl))
          refine run_stop_loop ⟨i + 1, h1'⟩ (show s.cache.length - (i + 1) < s.cache.length - i by omega) ?_ ?_
          · (repeat (first | exact facts_nil | (refine facts_cons rfl ?_)))
          · show Imp _ (star (plateParts b (withH s (((s.cache.zip ks).take (i + 1)).foldl keepB (s.held, s.dumb))) bh bd _ cc []))
            rw [et]
            unfold plateParts plate3
            (iterate 3 (apply imp_pick; (repeat (first | (with_reducible exact Pull.head) | apply Pull.tail))))
            refine imp_sl_shut (by omega) e2 e3 ?_
            (repeat (first | exact imp_nil | (apply imp_pick; (repeat (first | (with_reducible exact Pull.head) | apply Pull.tail)))))
        · intro h3
          have et : ((s.cache.zip ks).take (i + 1)).foldl keepB (s.held, s.dumb) = hS := by rw [et]; unfold keepB; rw [if_neg (by rw [h3]; exact Bool.false_ne_true)]
          repeat (first | (with_reducible refine run_seq ?_) | (refine run_region rfl rfl ?_) | (with_reducible refine run_ops_nil ?_) | (refine run_pure1 tabOk rfl ?_) | (with_reducible refine run_block ?_) | (with_reducible refine run_blk ?_) | (with_reducible refine run_label ?_) | (with_reducible refine run_skip ?_) | (refine run_exit rfl ?_) | (apply w_fieldat tabOk; rfl; rfl; rfl; rfl) | (apply w_load tabOk rfl rfl rfl rfl; (repeat (first | (with_reducible exact At.head) | apply At.tail)); rfl; rfl) | (apply w_store tabOk rfl rfl rfl rfl rfl rfl rfl rfl; (repeat (first | (with_reducible exact At.head) | apply At.tail)); rfl; rfl) | (apply w_arith; rfl; rfl; rfl; rfl; omega; omega; rfl))
          refine run_stop_loop ⟨i + 1, h1'⟩ (show s.cache.length - (i + 1) < s.cache.length - i by omega) ?_ ?_
          · (repeat (first | exact facts_nil | (refine facts_cons rfl ?_)))
          · show Imp _ (star (plateParts b (withH s (((s.cache.zip ks).take (i + 1)).foldl keepB (s.held, s.dumb))) bh bd _ cc []))
            rw [et]
            unfold plateParts plate3
            (iterate 3 (apply imp_pick; (repeat (first | (with_reducible exact Pull.head) | apply Pull.tail))))
            refine imp_sl_shut (by omega) e2 e3 ?_
            (repeat (first | exact imp_nil | (apply imp_pick; (repeat (first | (with_reducible exact Pull.head) | apply Pull.tail)))))
      · intro h2
        have h2' : ks.length ≤ i := Nat.le_of_not_lt fun h => h2 (Int.ofNat_lt.2 h)
        have et : ((s.cache.zip ks).take (i + 1)).foldl keepB (s.held, s.dumb) = hS := by
          rw [← eS, List.take_of_length_le, List.take_of_length_le]
          · rw [List.length_zip]; omega
          · rw [List.length_zip]; omega
        repeat (first | (with_reducible refine run_seq ?_) | (refine run_region rfl rfl ?_) | (with_reducible refine run_ops_nil ?_) | (refine run_pure1 tabOk rfl ?_) | (with_reducible refine run_block ?_) | (with_reducible refine run_blk ?_) | (with_reducible refine run_label ?_) | (with_reducible refine run_skip ?_) | (refine run_exit rfl ?_) | (apply w_fieldat tabOk; rfl; rfl; rfl; rfl) | (apply w_load tabOk rfl rfl rfl rfl; (repeat (first | (with_reducible exact At.head) | apply At.tail)); rfl; rfl) | (apply w_store tabOk rfl rfl rfl rfl rfl rfl rfl rfl; (repeat (first | (with_reducible exact At.head) | apply At.tail)); rfl; rfl) | (apply w_arith; rfl; rfl; rfl; rfl; omega; omega; rfl))
        refine run_cond_false rfl ?_
        repeat (first | (with_reducible refine run_seq ?_) | (refine run_region rfl rfl ?_) | (with_reducible refine run_ops_nil ?_) | (refine run_pure1 tabOk rfl ?_) | (with_reducible refine run_block ?_) | (with_reducible refine run_blk ?_) | (with_reducible refine run_label ?_) | (with_reducible refine run_skip ?_) | (refine run_exit rfl ?_) | (apply w_fieldat tabOk; rfl; rfl; rfl; rfl) | (apply w_load tabOk rfl rfl rfl rfl; (repeat (first | (with_reducible exact At.head) | apply At.tail)); rfl; rfl) | (apply w_store tabOk rfl rfl rfl rfl rfl rfl rfl rfl; (repeat (first | (with_reducible exact At.head) | apply At.tail)); rfl; rfl) | (apply w_arith; rfl; rfl; rfl; rfl; omega; omega; rfl))
        refine run_stop_loop ⟨i + 1, h1'⟩ (show s.cache.length - (i + 1) < s.cache.length - i by omega) ?_ ?_
        · (repeat (first | exact facts_nil | (refine facts_cons rfl ?_)))
        · show Imp _ (star (plateParts b (withH s (((s.cache.zip ks).take (i + 1)).foldl keepB (s.held, s.dumb))) bh bd _ cc []))
          rw [et]
          unfold plateParts plate3
          (iterate 3 (apply imp_pick; (repeat (first | (with_reducible exact Pull.head) | apply Pull.tail))))
          refine imp_sl_shut (by omega) e2 e3 ?_
          (repeat (first | exact imp_nil | (apply imp_pick; (repeat (first | (with_reducible exact Pull.head) | apply Pull.tail)))))
    · intro h1
      have h1' : i = s.cache.length := Nat.le_antisymm hi (Nat.le_of_not_lt fun h => h1 (Int.ofNat_lt.2 h))
      repeat (first | (with_reducible refine run_seq ?_) | (refine run_region rfl rfl ?_) | (with_reducible refine run_ops_nil ?_) | (refine run_pure1 tabOk rfl ?_) | (with_reducible refine run_block ?_) | (with_reducible refine run_blk ?_) | (with_reducible refine run_label ?_) | (with_reducible refine run_skip ?_) | (refine run_exit rfl ?_) | (apply w_fieldat tabOk; rfl; rfl; rfl; rfl) | (apply w_load tabOk rfl rfl rfl rfl; (repeat (first | (with_reducible exact At.head) | apply At.tail)); rfl; rfl) | (apply w_store tabOk rfl rfl rfl rfl rfl rfl rfl rfl; (repeat (first | (with_reducible exact At.head) | apply At.tail)); rfl; rfl) | (apply w_arith; rfl; rfl; rfl; rfl; omega; omega; rfl))
      have es : startH s ks = hS := by
        rw [← eS, h1', List.take_of_length_le]; rfl
        rw [List.length_zip]; omega
      refine run_end rfl (imp_RD rfl ?_)
      unfold startF; rw [es]
      apply imp_plate (pc := none) (cc := 0); unfold plateParts plate3; dsimp only [List.length_nil]
      (iterate 3 (apply imp_pick; (repeat (first | (with_reducible exact Pull.head) | apply Pull.tail))))
      exact imp_sl_nil imp_nil
end Go.Proofs.Ytkmdajbhkfneaaa.V
