/- The document's device: Start, New, Copy. -/
import Derived.Test.YtkmdajbhkfneaaaPQ3
set_option maxRecDepth 10000
set_option linter.unusedVariables false
namespace Go.Proofs.Ytkmdajbhkfneaaa.V
open Go.Proofs.Ytkmdajbhkfneaaa.VL
attribute [local irreducible] Run
def qStartH (s : QSt) (ks : List Bool) : List ByteArray × List Bool := (s.wait.zip ks).foldl keepB (s.kept, s.dumb)
def qStartF (s : QSt) (ks : List Bool) : QSt := { s with kept := (qStartH s ks).1, dumb := (qStartH s ks).2, wait := [], down := false, fuse := -1 }
theorem qstart_spec (q : View) (b : Nat) (s : QSt) (hw : QW s) (kp : Option Addr) (kc : Nat) (ks : List Bool) (hk : RowQ q kp ks.length 1 (ks.map Value.bool)) :
    FnD Try.prog q 42 [.pointer (some ⟨b, 0, none⟩), .slice kp ks.length kc] [qAt b s] (.tuple #[]) [qAt b (qStartF s ks)] := by
  have hd := hw.dumb
  have hn := hw.size
  have hsec := hw.sec
  (first | refine FnD.go Try.call42 Try.func42 rfl rfl rfl ?_ | refine FnX.go Try.call42 Try.func42 rfl rfl rfl ?_)
  refine run_q fun pk ck pd cd pw cw => ?_
  unfold qParts
  (repeat (first | refine g ?_))
  refine run_cutI (X := Nat) (fun i => i ≤ s.wait.length ∧ (s.wait.zip ks).length ≤ i) (fun i => [(0, .pointer (some ⟨b, 0, none⟩))])
    (fun i => qParts b (qWithH s (((s.wait.zip ks).take i).foldl keepB (s.kept, s.dumb))) pk ck pd cd pw cw []) ?_ fun i ⟨hi, hz⟩ => ?_
  · refine run_loopI (X := Nat) (fun i => i ≤ s.wait.length) (fun i => [(0, .pointer (some ⟨b, 0, none⟩)), (1, .slice kp ks.length kc), (4, .int .i64 (i : Int))])
      (fun i => qParts b (qWithH s (((s.wait.zip ks).take i).foldl keepB (s.kept, s.dumb))) pk ck pd cd pw cw []) (fun i => s.wait.length - i) 0 (Nat.zero_le _) fct ?_ ?_
    · simp only [List.take_zero, List.foldl_nil]; unfold qParts; exact shut
    · intro i hi
      have hl : (((s.wait.zip ks).take i).foldl keepB (s.kept, s.dumb)).1.length = s.kept.length ∧ (((s.wait.zip ks).take i).foldl keepB (s.kept, s.dumb)).2.length = s.dumb.length := foldB_len _ _
      have hlz : (s.wait.zip ks).length = min s.wait.length ks.length := List.length_zip
      generalize eS : ((s.wait.zip ks).take i).foldl keepB (s.kept, s.dumb) = hS at *
      unfold qParts
      have e1 := cacheV_length s.wait
      (repeat (first | refine g ?_))
      refine run_split_dec rfl rfl rfl rfl rfl ?_ ?_
      · intro h1
        have h1' : i < s.wait.length := Int.ofNat_lt.1 h1
        (repeat (first | refine g ?_))
        refine run_cond_dec rfl ?_ ?_
        · intro h2
          have h2' : i < ks.length := Int.ofNat_lt.1 h2
          obtain ⟨x, hx⟩ : ∃ x, s.wait[i]? = some x := ⟨_, List.getElem?_eq_getElem h1'⟩
          have hxm := hw.wait x (List.mem_of_getElem? hx)
          obtain ⟨bk, ok, ep, ho⟩ := hk.old (by omega)
          subst ep
          obtain ⟨z, hz⟩ : ∃ z, ks[i]? = some z := ⟨_, List.getElem?_eq_getElem h2'⟩
          have hzip : (s.wait.zip ks)[i]? = some (x, z) := by rw [List.getElem?_zip_eq_some]; exact ⟨hx, hz⟩
          have et : ((s.wait.zip ks).take (i + 1)).foldl keepB (s.kept, s.dumb) = keepB hS (x, z) := by rw [List.take_add_one, hzip, List.foldl_append, eS]; rfl
          (repeat (first | refine g ?_))
          refine s_idxo (kk := 1) (ok + i) ?_
          refine s_loado (j := i) ho (v := .bool z) (by rw [List.getElem?_map, hz]; rfl) ?_
          (repeat (first | refine g ?_))
          refine run_cond rfl ?_ ?_
          · intro h3
            have et : ((s.wait.zip ks).take (i + 1)).foldl keepB (s.kept, s.dumb) = keepH hS x := by rw [et]; unfold keepB; rw [if_pos h3]
            refine s_ptr pw (h0 := show 0 < s.wait.length by omega) (fun bc ep _ hcap => ?_)
            subst ep
            (repeat (first | refine g ?_))
            refine s_idxk 2 ?_
            refine s_loadasl (i := i * 2) (cacheV_at s.wait i x hx).2.2 (by show i * 2 + _ ≤ (cacheV s.wait).length; omega) ?_
            (repeat (first | refine g ?_))
            refine s_call (qkeep_parts q b (qWithH s hS) (show hS.2.length = hS.1.length by omega) (show hS.1.length ≤ 32768 by omega) x hxm.1 (show x.1 < (hS.1.length : Int) by omega) pk ck pd cd _ cw) ?_
            (repeat (first | refine g ?_))
            refine run_stop_loop (i + 1) ⟨h1', by omega⟩ fct ?_
            dsimp only
            rw [et]
            exact shut
          · intro h3
            have et : ((s.wait.zip ks).take (i + 1)).foldl keepB (s.kept, s.dumb) = hS := by rw [et]; unfold keepB; rw [if_neg (by rw [h3]; exact Bool.false_ne_true)]
            (repeat (first | refine g ?_))
            refine run_stop_loop (i + 1) ⟨h1', by omega⟩ fct ?_
            dsimp only
            rw [et]
            exact shut
        · intro h2
          (repeat (first | refine g ?_))
          have h2 : ¬ ((i : Int) < (ks.length : Int)) := h2
          refine run_stop_loop i ⟨hi, by rw [hlz]; omega⟩ fct ?_
          dsimp only
          rw [eS]
          exact shut
      · intro h1
        (repeat (first | refine g ?_))
        have h1 : ¬ ((i : Int) < (s.wait.length : Int)) := h1
        refine run_stop_loop i ⟨hi, by rw [hlz]; omega⟩ fct ?_
        dsimp only
        rw [eS]
        exact shut
  · have es : ((s.wait.zip ks).take i).foldl keepB (s.kept, s.dumb) = qStartH s ks := by
      rw [List.take_of_length_le hz]; rfl
    rw [es]
    unfold qParts
    (repeat (first | refine g ?_))
    refine run_end rfl (imp_RD rfl ?_)
    unfold qStartF
    refine imp_q (pk := pk) (ck := ck) (pd := pd) (cd := cd) (pw := none) (cw := 0) ?_
    unfold qParts; dsimp only [List.length_nil]
    exact shut
def qBlank (n : Nat) : QSt := ⟨List.replicate n zeros64, List.replicate n false, [], -1, false, 0, 0⟩
theorem qnew_bad (q : View) (n : Int) (h : n < 0 ∨ 32768 < n) : FnD Try.prog q 27 [.int .i64 n] [] (.tuple #[.pointer none, .int .i64 1]) [] := by
  (first | refine FnD.go Try.call27 Try.func27 rfl rfl rfl ?_ | refine FnX.go Try.call27 Try.func27 rfl rfl rfl ?_)
  by_cases h1 : n < 0
  · (repeat (first | refine g ?_))
    exact run_ret rfl (imp_RD rfl shut)
  · have h2 : 32768 < n := by omega
    (repeat (first | refine g ?_))
    exact run_ret rfl (imp_RD rfl shut)
theorem qnew_spec (q : View) (n : Nat) (h : n ≤ 32768) : FnX Try.prog q 27 [.int .i64 n] [] (fun b => .tuple #[.pointer (some ⟨b, 0, none⟩), .int .i64 0]) fun b => [qAt b (qBlank n)] := by
  (first | refine FnD.go Try.call27 Try.func27 rfl rfl rfl ?_ | refine FnX.go Try.call27 Try.func27 rfl rfl rfl ?_)
  (repeat (first | refine g ?_))
  refine s_box fun b => ?_
  (repeat (first | refine g ?_))
  refine run_loopI (X := Nat × Option Addr × Nat × Option Addr × Nat) (fun x => x.1 ≤ n) (fun x => [(0, .int .i64 (n : Int)), (4, .pointer (some ⟨b, 0, none⟩)), (5, .int .i64 (x.1 : Int))])
    (fun x => qParts b (qBlank x.1) x.2.1 x.2.2.1 x.2.2.2.1 x.2.2.2.2 none 0 []) (fun x => n - x.1) (0, none, 0, none, 0) (Nat.zero_le _) fct ?_ ?_
  · unfold qParts qBlank
    dsimp only [List.replicate_zero, List.length_nil, List.map_nil]
    exact shut
  intro ⟨i, pk, ck, pd, cd⟩ hi
  unfold qParts qBlank
  dsimp only at *
  (repeat (first | refine g ?_))
  refine run_cond_dec rfl ?_ ?_
  · intro h1
    (repeat (first | refine g ?_))
    refine d_all ?_
    (refine d_pure 0 ?_)
    (refine d_pure 1 ?_)
    (refine d_pure 2 ?_)
    (refine d_fieldat 3 ?_)
    have h1' : i < n := by omega
    have hr1 : (List.replicate i zeros64).length = i := List.length_replicate
    have hr2 : (List.replicate i false).length = i := List.length_replicate
    refine d_two 4 5 ?_ ?_
    · refine d_ovia1 4 (h1 := by refine s_load ?_; exact run_fin1) (h := ?_)
      refine d_via1 5 (h1 := by refine s_call (blank_spec q) ?_; exact run_fin1) (h := ?_)
      refine d_via 6 (X := Nat) (h1 := by refine s_built fun r => ?_; exact run_fin r) (h := fun r => ?_)
      refine d_via 7 (X := Option Addr × Nat) (h1 := by refine s_app 1 16 (reads_own At.head rfl) (hxl := by simp) fun r2 => ?_; exact run_fin r2) (h := fun r2 => ?_)
      (refine d_pure 8 ?_)
      (refine d_fieldat 9 ?_)
      refine d_via1 10 (h1 := by refine s_store ?_; exact run_fin1) (h := ?_)
      refine d_done ?_
      (repeat (first | refine g ?_))
      refine s_built fun r3 => ?_
      (repeat (first | refine g ?_))
      refine s_app 1 1 (reads_own At.head rfl) (hxl := by simp) fun r4 => ?_
      (repeat (first | refine g ?_))
      refine run_stop_loop (i + 1, r2.1, r2.2, r4.1, r4.2) ⟨h1', by dsimp only; omega⟩ fct ?_
      dsimp only
      rw [List.replicate_succ', List.replicate_succ', List.map_append, List.map_append, List.length_append, List.length_append]
      exact shut
    · refine d_ovia1 5 (h1 := by refine s_call (blank_spec q) ?_; exact run_fin1) (h := ?_)
      refine d_two 4 6 ?_ ?_
      · refine d_ovia1 4 (h1 := by refine s_load ?_; exact run_fin1) (h := ?_)
        refine d_via 6 (X := Nat) (h1 := by refine s_built fun r => ?_; exact run_fin r) (h := fun r => ?_)
        refine d_via 7 (X := Option Addr × Nat) (h1 := by refine s_app 1 16 (reads_own At.head rfl) (hxl := by simp) fun r2 => ?_; exact run_fin r2) (h := fun r2 => ?_)
        (refine d_pure 8 ?_)
        (refine d_fieldat 9 ?_)
        refine d_via1 10 (h1 := by refine s_store ?_; exact run_fin1) (h := ?_)
        refine d_done ?_
        (repeat (first | refine g ?_))
        refine s_built fun r3 => ?_
        (repeat (first | refine g ?_))
        refine s_app 1 1 (reads_own At.head rfl) (hxl := by simp) fun r4 => ?_
        (repeat (first | refine g ?_))
        refine run_stop_loop (i + 1, r2.1, r2.2, r4.1, r4.2) ⟨h1', by dsimp only; omega⟩ fct ?_
        dsimp only
        rw [List.replicate_succ', List.replicate_succ', List.map_append, List.map_append, List.length_append, List.length_append]
        exact shut
      · refine d_ovia 6 (X := Nat) (h1 := by refine s_built fun r => ?_; exact run_fin r) (h := fun r => ?_)
        refine d_via1 4 (h1 := by refine s_load ?_; exact run_fin1) (h := ?_)
        refine d_via 7 (X := Option Addr × Nat) (h1 := by refine s_app 1 16 (reads_own At.head rfl) (hxl := by simp) fun r2 => ?_; exact run_fin r2) (h := fun r2 => ?_)
        (refine d_pure 8 ?_)
        (refine d_fieldat 9 ?_)
        refine d_via1 10 (h1 := by refine s_store ?_; exact run_fin1) (h := ?_)
        refine d_done ?_
        (repeat (first | refine g ?_))
        refine s_built fun r3 => ?_
        (repeat (first | refine g ?_))
        refine s_app 1 1 (reads_own At.head rfl) (hxl := by simp) fun r4 => ?_
        (repeat (first | refine g ?_))
        refine run_stop_loop (i + 1, r2.1, r2.2, r4.1, r4.2) ⟨h1', by dsimp only; omega⟩ fct ?_
        dsimp only
        rw [List.replicate_succ', List.replicate_succ', List.map_append, List.map_append, List.length_append, List.length_append]
        exact shut
  · intro h1
    obtain rfl : i = n := by omega
    (repeat (first | refine g ?_))
    refine run_ret rfl (imp_RX b rfl ?_)
    refine imp_q (pk := pk) (ck := ck) (pd := pd) (cd := cd) (pw := none) (cw := 0) ?_
    exact shut
theorem qcopy_spec (q : View) (b : Nat) (s : QSt) (hw : QW s) :
    FnX Try.prog q 31 [.pointer (some ⟨b, 0, none⟩)] [qAt b s] (fun b2 : Nat => .pointer (some ⟨b2, 0, none⟩)) fun b2 => [qAt b s, qAt b2 s] := by
  have hd := hw.dumb
  have hs := hw.sec
  have hn := hw.size
  (first | refine FnD.go Try.call31 Try.func31 rfl rfl rfl ?_ | refine FnX.go Try.call31 Try.func31 rfl rfl rfl ?_)
  refine run_q fun pk ck pd cd pw cw => ?_
  unfold qParts
  (repeat (first | refine g ?_ | refine s_flat 1 [(.pure, [0, 1, 2, 4, 5, 6, 8, 9, 10, 12, 13, 14]), (.mem true, [3, 7, 11, 15]), (.pure, [16]), (.mem false, [17]), (.pure, [18])] ?_))
  refine s_box fun r => ?_
  (repeat (first | refine g ?_ | refine s_flat 1 [(.pure, [0, 1, 2, 4, 5, 6, 8, 9, 10, 12, 13, 14]), (.mem true, [3, 7, 11, 15]), (.pure, [16]), (.mem false, [17]), (.pure, [18])] ?_))
  refine s_built fun r1 => ?_
  refine run_to_sl (n := 0) (kk := 1) rfl ?_
  (repeat (first | refine g ?_ | refine s_flat 1 [(.pure, [0, 1, 2, 4, 5, 6, 8, 9, 10, 12, 13, 14]), (.mem true, [3, 7, 11, 15]), (.pure, [16]), (.mem false, [17]), (.pure, [18])] ?_))
  refine s_app 1 16 (reads_slice (p := pk) (m := s.kept.length) (cap := ck) (l := s.kept.map Value.string) (by (repeat (first | (with_reducible exact At.head) | apply At.tail)))) (hnl := by simp) (h1 := by simp [List.all_map, one1]) fun r2 => ?_
  (repeat (first | refine g ?_ | refine s_flat 1 [(.pure, [0, 1, 2, 4, 5, 6, 8, 9, 10, 12, 13, 14]), (.mem true, [3, 7, 11, 15]), (.pure, [16]), (.mem false, [17]), (.pure, [18])] ?_))
  refine s_built fun r3 => ?_
  refine run_to_sl (n := 0) (kk := 1) rfl ?_
  (repeat (first | refine g ?_ | refine s_flat 1 [(.pure, [0, 1, 2, 4, 5, 6, 8, 9, 10, 12, 13, 14]), (.mem true, [3, 7, 11, 15]), (.pure, [16]), (.mem false, [17]), (.pure, [18])] ?_))
  refine s_app 1 1 (reads_slice (p := pd) (m := s.dumb.length) (cap := cd) (l := s.dumb.map Value.bool) (by (repeat (first | (with_reducible exact At.head) | apply At.tail)))) (hnl := by simp) (h1 := by simp [List.all_map, one1]) fun r4 => ?_
  (repeat (first | refine g ?_ | refine s_flat 1 [(.pure, [0, 1, 2, 4, 5, 6, 8, 9, 10, 12, 13, 14]), (.mem true, [3, 7, 11, 15]), (.pure, [16]), (.mem false, [17]), (.pure, [18])] ?_))
  refine s_built fun r5 => ?_
  refine run_to_sl (n := 0) (kk := 2) rfl ?_
  (repeat (first | refine g ?_ | refine s_flat 1 [(.pure, [0, 1, 2, 4, 5, 6, 8, 9, 10, 12, 13, 14]), (.mem true, [3, 7, 11, 15]), (.pure, [16]), (.mem false, [17]), (.pure, [18])] ?_))
  refine s_app 2 24 (reads_slice (p := pw) (m := s.wait.length) (cap := cw) (l := cacheV s.wait) (by (repeat (first | (with_reducible exact At.head) | apply At.tail)))) (hnl := cacheV_length _) (h1 := cacheV_one1 _) fun r6 => ?_
  (repeat (first | refine g ?_ | refine s_flat 1 [(.pure, [0, 1, 2, 4, 5, 6, 8, 9, 10, 12, 13, 14]), (.mem true, [3, 7, 11, 15]), (.pure, [16]), (.mem false, [17]), (.pure, [18])] ?_))
  refine run_ret rfl (imp_RX r rfl ?_)
  refine imp_q (b := b) (s := s) (pk := pk) (ck := ck) (pd := pd) (cd := cd) (pw := pw) (cw := cw) ?_
  unfold qParts
  (iterate 4 (apply imp_pick; (repeat (first | (with_reducible exact Pull.head) | apply Pull.tail))))
  refine imp_q (b := r) (s := s) (pk := r2.1) (ck := r2.2) (pd := r4.1) (cd := r4.2) (pw := r6.1) (cw := r6.2) ?_
  unfold qParts
  simp only [Nat.zero_add, List.nil_append]
  exact shut
end Go.Proofs.Ytkmdajbhkfneaaa.V
