/- The device: Read, Start, New, Copy. -/
import Derived.Test.YtkmdajbhkfneaaaPL3
set_option maxRecDepth 10000
set_option linter.unusedVariables false
namespace Go.Proofs.Ytkmdajbhkfneaaa.V
open Go.Proofs.Ytkmdajbhkfneaaa.VL
attribute [local irreducible] Run
def readF (s : PSt) (at_ : Int) : (ByteArray × Int) × PSt := if s.down = true then ((⟨#[]⟩, 20), s) else if at_ < 0 ∨ s.sectors ≤ at_ then ((⟨#[]⟩, 2), s) else
  (match s.cache.reverse.find? (fun x => decide (x.1 = at_)) with | some x => (x.2, 0) | none => heldF s at_, { s with reads := s.reads + 1 })
theorem last_at (l : List (Int × ByteArray)) (at_ : Int) (i : Nat) (x : Int × ByteArray) (hx : l[i]? = some x) (hxa : x.1 = at_) (hno : ∀ j, i + 1 ≤ j → ∀ y, l[j]? = some y → y.1 ≠ at_) : l.reverse.find? (fun x => decide (x.1 = at_)) = some x := by
  have hi : i < l.length := (List.getElem?_eq_some_iff.1 hx).1
  have hxe : l[i] = x := (List.getElem?_eq_some_iff.1 hx).2
  have e : l = l.take i ++ x :: l.drop (i + 1) := by
    rw [← hxe, List.getElem_cons_drop, List.take_append_drop]
  rw [e, List.reverse_append, List.reverse_cons, List.append_assoc, List.find?_append]
  have h0 : (l.drop (i + 1)).reverse.find? (fun x => decide (x.1 = at_)) = none := by
    rw [List.find?_eq_none]
    intro y hy
    rw [List.mem_reverse] at hy
    obtain ⟨j, hj⟩ := List.mem_iff_getElem?.1 hy
    rw [List.getElem?_drop] at hj
    simpa using hno _ (by omega) y hj
  rw [h0]
  simp [hxa]
theorem none_at (l : List (Int × ByteArray)) (at_ : Int) (hno : ∀ j, 0 ≤ j → ∀ y, l[j]? = some y → y.1 ≠ at_) : l.reverse.find? (fun x => decide (x.1 = at_)) = none := by
  rw [List.find?_eq_none]
  intro y hy
  rw [List.mem_reverse] at hy
  obtain ⟨j, hj⟩ := List.mem_iff_getElem?.1 hy
  simpa using hno _ (Nat.zero_le _) y hj
theorem read_spec (q : View) (b : Nat) (s : PSt) (hw : WF s) (at_ : Int) :
    FnD Try.prog q 16 [.pointer (some ⟨b, 0, none⟩), .int .i64 at_] [plateAt b s] (.tuple #[.string (readF s at_).1.1, .int .i64 (readF s at_).1.2]) [plateAt b (readF s at_).2] := by
  have hr := hw.reads
  have hn := hw.size
  (first | refine FnD.go Try.call16 Try.func16 rfl rfl rfl ?_ | refine FnX.go Try.call16 Try.func16 rfl rfl rfl ?_)
  refine run_plate fun bh bd pc cc => ?_
  unfold plateParts plate3
  (repeat (first | refine g ?_))
  refine run_cond rfl ?_ ?_
  · intro h2
    have e : readF s at_ = ((⟨#[]⟩, 20), s) := by unfold readF; rw [if_pos h2]
    rw [e]
    (repeat (first | refine g ?_))
    exact run_ret rfl (imp_RD rfl (imp_plate shut))
  · intro h2
    have h2' : ¬ (s.down = true) := by rw [h2]; decide
    (repeat (first | refine g ?_))
    refine s_call (wrong_spec q b _ s.sectors at_) ?_
    (repeat (first | refine g ?_))
    refine run_cond_dec rfl ?_ ?_
    · intro h3
      have e : readF s at_ = ((⟨#[]⟩, 2), s) := by unfold readF; rw [if_neg h2', if_pos h3]
      rw [e]
      (repeat (first | refine g ?_))
      exact run_ret rfl (imp_RD rfl (imp_plate shut))
    · intro h3
      have e : readF s at_ = (match s.cache.reverse.find? (fun x => decide (x.1 = at_)) with | some x => (x.2, 0) | none => heldF s at_, { s with reads := s.reads + 1 }) := by unfold readF; rw [if_neg h2', if_neg h3]
      rw [e]
      (repeat (first | refine g ?_))
      refine run_loopI (X := Nat) (fun i => i ≤ s.cache.length ∧ ∀ j, i ≤ j → ∀ x, s.cache[j]? = some x → x.1 ≠ at_) (fun i => [(0, .pointer (some ⟨b, 0, none⟩)), (1, .int .i64 at_), (6, .int .i64 ((i : Int) - 1))])
        (fun i => plateParts b { s with reads := s.reads + 1 } bh bd pc cc []) (fun i => i) s.cache.length ⟨Nat.le_refl _, fun j hj x hx => by rw [List.getElem?_eq_none hj] at hx; cases hx⟩ fct shut ?_
      intro i ⟨hi, hno⟩
      unfold plateParts plate3; dsimp only
      have e1 := cacheV_length s.cache
      (repeat (first | refine g ?_))
      refine run_cond_dec rfl ?_ ?_
      · intro h4
        have h1' : i - 1 < s.cache.length := by omega
        obtain ⟨x, hx⟩ : ∃ x, s.cache[i - 1]? = some x := ⟨_, List.getElem?_eq_getElem h1'⟩
        refine s_ptr pc (h0 := by omega) (fun bc ep _ hcap => ?_)
        subst ep
        have hcv := cacheV_at s.cache (i - 1) x hx
        have hti : ((i : Int) - 1).toNat = i - 1 := by omega
        rw [← hti] at hcv
        (repeat (first | refine g ?_))
        refine s_idxk 2 ?_
        (repeat (first | refine g ?_))
        refine s_loadsl hcv.1 ?_
        (repeat (first | refine g ?_))
        refine run_cond_dec rfl ?_ ?_
        · intro h5
          have ef := last_at s.cache at_ (i - 1) x hx h5 fun j hj => hno j (by omega)
          rw [ef]
          (repeat (first | refine g ?_))
          refine s_idxk 2 ?_
          (repeat (first | refine g ?_))
          refine s_loadsl hcv.2.1 ?_
          (repeat (first | refine g ?_))
          exact run_ret rfl (imp_RD rfl (imp_plate shut))
        · intro h5
          (repeat (first | refine g ?_))
          refine run_stop_loop (i - 1) ⟨⟨by omega, fun j hj y hy => ?_⟩, by omega⟩ fct shut
          rcases Nat.lt_or_ge j i with h | h
          · obtain rfl : j = i - 1 := by omega
            rw [hx] at hy; cases hy; exact h5
          · exact hno j h y hy
      · intro h4
        have ef := none_at s.cache at_ fun j hj => hno j (by omega)
        rw [ef]
        (repeat (first | refine g ?_))
        refine s_call (held_parts q b { s with reads := s.reads + 1 } hw.held hw.dumb hw.sec bh bd pc cc at_) ?_
        (repeat (first | refine g ?_))
        exact run_ret rfl (imp_RD rfl (imp_plate shut))
@[reducible] def keepB (h : List ByteArray × List Bool) (y : (Int × ByteArray) × Bool) : List ByteArray × List Bool := if y.2 = true then keepH h y.1 else h
def startH (s : PSt) (ks : List Bool) : List ByteArray × List Bool := (s.cache.zip ks).foldl keepB (s.held, s.dumb)
def startF (s : PSt) (ks : List Bool) : PSt := { s with held := (startH s ks).1, dumb := (startH s ks).2, cache := [], down := false, fuse := -1 }
theorem foldB_len (l : List ((Int × ByteArray) × Bool)) (h : List ByteArray × List Bool) : (l.foldl keepB h).1.length = h.1.length ∧ (l.foldl keepB h).2.length = h.2.length := by
  induction l generalizing h with
  | nil => exact ⟨rfl, rfl⟩
  | cons x l ih =>
    have := ih (keepB h x)
    rw [List.foldl_cons, this.1, this.2]
    unfold keepB; split <;> simp
theorem start_spec (q : View) (b : Nat) (s : PSt) (hw : WF s) (kp : Option Addr) (kc : Nat) (ks : List Bool) (hk : RowQ q kp ks.length 1 (ks.map Value.bool)) :
    FnD Try.prog q 15 [.pointer (some ⟨b, 0, none⟩), .slice kp ks.length kc] [plateAt b s] (.tuple #[]) [plateAt b (startF s ks)] := by
  have hh := hw.held
  have hd := hw.dumb
  have hn := hw.size
  (first | refine FnD.go Try.call15 Try.func15 rfl rfl rfl ?_ | refine FnX.go Try.call15 Try.func15 rfl rfl rfl ?_)
  refine run_plate fun bh bd pc cc => ?_
  unfold plateParts plate3
  (repeat (first | refine g ?_))
  refine run_loopI (X := Nat) (fun i => i ≤ s.cache.length) (fun i => [(0, .pointer (some ⟨b, 0, none⟩)), (1, .slice kp ks.length kc), (11, .slice pc s.cache.length cc), (12, .int .i64 s.cache.length), (13, .int .i64 (i : Int))])
    (fun i => plateParts b (withH s (((s.cache.zip ks).take i).foldl keepB (s.held, s.dumb))) bh bd pc cc []) (fun i => s.cache.length - i) 0 (Nat.zero_le _) fct ?_ ?_
  · simp only [List.take_zero, List.foldl_nil]; unfold plateParts plate3; exact shut
  · intro i hi
    have hl : (((s.cache.zip ks).take i).foldl keepB (s.held, s.dumb)).1.length = s.held.length ∧ (((s.cache.zip ks).take i).foldl keepB (s.held, s.dumb)).2.length = s.dumb.length := foldB_len _ _
    generalize eS : ((s.cache.zip ks).take i).foldl keepB (s.held, s.dumb) = hS at *
    unfold plateParts plate3
    (repeat (first | refine g ?_))
    refine run_cond_dec rfl ?_ ?_
    · intro h1
      have h1' : i < s.cache.length := Int.ofNat_lt.1 h1
      obtain ⟨x, hx⟩ : ∃ x, s.cache[i]? = some x := ⟨_, List.getElem?_eq_getElem h1'⟩
      have hxm := hw.cache x (List.mem_of_getElem? hx)
      have e1 := cacheV_length s.cache
      refine s_ptr pc (h0 := show 0 < s.cache.length by omega) (fun bc ep _ hcap => ?_)
      subst ep
      (repeat (first | refine g ?_))
      refine s_idxk 2 ?_
      refine s_loadasl (i := i * 2) (cacheV_at s.cache i x hx).2.2 (by omega) ?_
      (repeat (first | refine g ?_))
      refine s_alloc fun r => ?_
      (repeat (first | refine g ?_))
      refine run_split_dec rfl rfl rfl rfl rfl ?_ ?_
      · intro h2
        have h2' : i < ks.length := Int.ofNat_lt.1 h2
        obtain ⟨bk, ok, ep, ho⟩ := hk.old (by omega)
        subst ep
        obtain ⟨z, hz⟩ : ∃ z, ks[i]? = some z := ⟨_, List.getElem?_eq_getElem h2'⟩
        have hzip : (s.cache.zip ks)[i]? = some (x, z) := by rw [List.getElem?_zip_eq_some]; exact ⟨hx, hz⟩
        have et : ((s.cache.zip ks).take (i + 1)).foldl keepB (s.held, s.dumb) = keepB hS (x, z) := by rw [List.take_add_one, hzip, List.foldl_append, eS]; rfl
        (repeat (first | refine g ?_))
        refine s_idxo (kk := 1) (ok + i) ?_
        refine s_loado (j := i) ho (v := .bool z) (by rw [List.getElem?_map, hz]; rfl) ?_
        (repeat (first | refine g ?_))
        refine run_cond rfl ?_ ?_
        · intro h3
          have et : ((s.cache.zip ks).take (i + 1)).foldl keepB (s.held, s.dumb) = keepH hS x := by rw [et]; unfold keepB; rw [if_pos h3]
          (repeat (first | refine g ?_))
          refine s_call (keep_parts q b (withH s hS) (show (hS.1.length : Int) = s.sectors by omega) (show (hS.2.length : Int) = s.sectors by omega) hw.sec x hxm.1 hxm.2 bh bd _ cc) ?_
          (repeat (first | refine g ?_))
          refine run_stop_loop (i + 1) ⟨h1', by omega⟩ fct ?_
          dsimp only
          rw [et]
          exact shut
        · intro h3
          have et : ((s.cache.zip ks).take (i + 1)).foldl keepB (s.held, s.dumb) = hS := by rw [et]; unfold keepB; rw [if_neg (by rw [h3]; exact Bool.false_ne_true)]
          (repeat (first | refine g ?_))
          refine run_stop_loop (i + 1) ⟨h1', by omega⟩ fct ?_
          dsimp only
          rw [et]
          exact shut
      · intro h2
        have h2' : ks.length ≤ i := Nat.le_of_not_lt fun h => h2 (Int.ofNat_lt.2 h)
        have et : ((s.cache.zip ks).take (i + 1)).foldl keepB (s.held, s.dumb) = hS := by
          rw [← eS, List.take_of_length_le, List.take_of_length_le]
          · rw [List.length_zip]; omega
          · rw [List.length_zip]; omega
        (repeat (first | refine g ?_))
        refine run_stop_loop (i + 1) ⟨h1', by omega⟩ fct ?_
        dsimp only
        rw [et]
        exact shut
    · intro h1
      have h1' : i = s.cache.length := Nat.le_antisymm hi (Nat.le_of_not_lt fun h => h1 (Int.ofNat_lt.2 h))
      (repeat (first | refine g ?_))
      have es : startH s ks = hS := by
        rw [← eS, h1', List.take_of_length_le]; rfl
        rw [List.length_zip]; omega
      refine run_end rfl (imp_RD rfl ?_)
      unfold startF; rw [es]
      refine imp_plate (bh := bh) (bd := bd) (pc := none) (cc := 0) ?_
      unfold plateParts plate3; dsimp only [List.length_nil]
      exact shut
def blank (n : Nat) : PSt := ⟨n, List.replicate n ⟨#[]⟩, List.replicate n false, [], -1, false, 0, 0⟩
theorem blank_wf (n : Nat) (h : n ≤ 32768) : WF (blank n) := ⟨by simp [blank], by simp [blank], by simp [blank]; omega, by simp [blank], by simp [blank], by simp [blank], by simp [blank], by simp [blank]⟩
theorem new_bad (q : View) (n : Int) (h : n < 0 ∨ 32768 < n) : FnD Try.prog q 11 [.int .i64 n] [] (.tuple #[.pointer none, .int .i64 1]) [] := by
  (first | refine FnD.go Try.call11 Try.func11 rfl rfl rfl ?_ | refine FnX.go Try.call11 Try.func11 rfl rfl rfl ?_)
  by_cases h1 : n < 0
  · (repeat (first | refine g ?_))
    exact run_ret rfl (imp_RD rfl shut)
  · have h2 : 32768 < n := by omega
    (repeat (first | refine g ?_))
    exact run_ret rfl (imp_RD rfl shut)
theorem new_spec (q : View) (n : Nat) (h : n ≤ 32768) : FnX Try.prog q 11 [.int .i64 n] [] (fun b => .tuple #[.pointer (some ⟨b, 0, none⟩), .int .i64 0]) fun b => [plateAt b (blank n)] := by
  (first | refine FnD.go Try.call11 Try.func11 rfl rfl rfl ?_ | refine FnX.go Try.call11 Try.func11 rfl rfl rfl ?_)
  (repeat (first | refine g ?_))
  apply a_start (M := []) mixed
  (repeat (first | exact Pulls.nil | (apply Pulls.cons; (repeat (first | (with_reducible exact Pull.head) | apply Pull.tail)))))
  (apply a_pure 0 tabOk; rfl; kernel_rfl; kernel_rfl; kernel_rfl; rfl)
  (apply a_pure 1 tabOk; rfl; kernel_rfl; kernel_rfl; kernel_rfl; rfl)
  (apply a_pure 3 tabOk; rfl; kernel_rfl; kernel_rfl; kernel_rfl; rfl)
  refine any_two (i := 2) (j := 4) (by kernel_rfl) ?_ ?_
  · apply o_made (kb := 16) (lm := n) (lc := n) 2 tabOk; rfl; rfl; rfl; rfl; rfl; rfl; rfl; rfl; rfl; omega; omega; rfl; rfl; rfl; omega; omega; exact fun _ => rfl
    intro r1
    apply a_made (kb := 1) (lm := n) (lc := n) 4 tabOk; rfl; kernel_rfl; rfl; rfl; rfl; rfl; rfl; rfl; rfl; rfl; omega; omega; rfl; rfl; rfl; omega; omega; exact fun _ => rfl
    intro r2
    (apply a_build 5 tabOk; rfl; kernel_rfl; kernel_rfl; kernel_rfl; rfl; rfl; rfl)
    (apply a_box 6; rfl; kernel_rfl; rfl; rfl; rfl; exact fun _ => rfl)
    intro r
    (apply a_pure 7 tabOk; rfl; kernel_rfl; kernel_rfl; kernel_rfl; rfl)
    (apply a_pure 8 tabOk; rfl; kernel_rfl; kernel_rfl; kernel_rfl; rfl)
    (apply a_done; kernel_rfl; rfl)
    (repeat (first | refine g ?_))
    refine run_ret rfl (imp_RX r rfl ?_)
    apply imp_plate (pc := none) (cc := 0); unfold plateParts plate3 blank; dsimp only [List.length_nil]
    rw [List.length_replicate, List.length_replicate, List.map_replicate, List.map_replicate, ← zeroL_one (.string ⟨#[]⟩) rfl n, ← zeroL_one (.bool false) rfl n]
    exact shut
  · apply o_made (kb := 1) (lm := n) (lc := n) 4 tabOk; rfl; rfl; rfl; rfl; rfl; rfl; rfl; rfl; rfl; omega; omega; rfl; rfl; rfl; omega; omega; exact fun _ => rfl
    intro r1
    apply a_made (kb := 16) (lm := n) (lc := n) 2 tabOk; rfl; kernel_rfl; rfl; rfl; rfl; rfl; rfl; rfl; rfl; rfl; omega; omega; rfl; rfl; rfl; omega; omega; exact fun _ => rfl
    intro r2
    (apply a_build 5 tabOk; rfl; kernel_rfl; kernel_rfl; kernel_rfl; rfl; rfl; rfl)
    (apply a_box 6; rfl; kernel_rfl; rfl; rfl; rfl; exact fun _ => rfl)
    intro r
    (apply a_pure 7 tabOk; rfl; kernel_rfl; kernel_rfl; kernel_rfl; rfl)
    (apply a_pure 8 tabOk; rfl; kernel_rfl; kernel_rfl; kernel_rfl; rfl)
    (apply a_done; kernel_rfl; rfl)
    (repeat (first | refine g ?_))
    refine run_ret rfl (imp_RX r rfl ?_)
    apply imp_plate (pc := none) (cc := 0); unfold plateParts plate3 blank; dsimp only [List.length_nil]
    rw [List.length_replicate, List.length_replicate, List.map_replicate, List.map_replicate, ← zeroL_one (.string ⟨#[]⟩) rfl n, ← zeroL_one (.bool false) rfl n]
    exact shut
theorem cacheV_one1 (l : List (Int × ByteArray)) : (cacheV l).all one1 = true := by
  rw [List.all_eq_true]
  intro v hv
  unfold cacheV at hv
  rw [List.mem_flatMap] at hv
  obtain ⟨x, _, hx⟩ := hv
  rcases List.mem_cons.1 hx with rfl | hx
  · rfl
  · rcases List.mem_cons.1 hx with rfl | hx
    · rfl
    · cases hx
theorem copy_spec (q : View) (b : Nat) (s : PSt) (hw : WF s) :
    FnX Try.prog q 28 [.pointer (some ⟨b, 0, none⟩)] [plateAt b s] (fun b2 : Nat => .pointer (some ⟨b2, 0, none⟩)) fun b2 => [plateAt b s, plateAt b2 s] := by
  have hh := hw.held
  have hd := hw.dumb
  have hs := hw.sec
  have hn := hw.size
  (first | refine FnD.go Try.call28 Try.func28 rfl rfl rfl ?_ | refine FnX.go Try.call28 Try.func28 rfl rfl rfl ?_)
  refine run_plate fun bh bd pc cc => ?_
  unfold plateParts plate3
  (repeat (first | refine g ?_ | refine s_flat 5 [(.pure, [0, 2, 3, 4]), (.mem true, [1, 5]), (.mem false, [6])] ?_ | refine s_flat 7 [(.pure, [0, 2, 3, 4]), (.mem true, [1, 5]), (.mem false, [6])] ?_ | refine s_flat 9 [(.pure, [0, 2, 3, 4]), (.mem true, [1, 5]), (.mem false, [6])] ?_))
  refine s_alloc fun r => ?_
  (repeat (first | refine g ?_ | refine s_flat 5 [(.pure, [0, 2, 3, 4]), (.mem true, [1, 5]), (.mem false, [6])] ?_ | refine s_flat 7 [(.pure, [0, 2, 3, 4]), (.mem true, [1, 5]), (.mem false, [6])] ?_ | refine s_flat 9 [(.pure, [0, 2, 3, 4]), (.mem true, [1, 5]), (.mem false, [6])] ?_))
  refine s_made 16 s.held.length s.held.length fun r1 => ?_
  (repeat (first | refine g ?_ | refine s_flat 5 [(.pure, [0, 2, 3, 4]), (.mem true, [1, 5]), (.mem false, [6])] ?_ | refine s_flat 7 [(.pure, [0, 2, 3, 4]), (.mem true, [1, 5]), (.mem false, [6])] ?_ | refine s_flat 9 [(.pure, [0, 2, 3, 4]), (.mem true, [1, 5]), (.mem false, [6])] ?_))
  refine s_copyall 1 (reads_own (b := bh) (m := s.held.length) (cap := s.held.length) (l := s.held.map Value.string) (by (repeat (first | (with_reducible exact At.head) | apply At.tail))) (by simp)) (by simp [List.all_map, one1]) (by simp) ?_
  (repeat (first | refine g ?_ | refine s_flat 5 [(.pure, [0, 2, 3, 4]), (.mem true, [1, 5]), (.mem false, [6])] ?_ | refine s_flat 7 [(.pure, [0, 2, 3, 4]), (.mem true, [1, 5]), (.mem false, [6])] ?_ | refine s_flat 9 [(.pure, [0, 2, 3, 4]), (.mem true, [1, 5]), (.mem false, [6])] ?_))
  refine s_made 1 s.dumb.length s.dumb.length fun r2 => ?_
  (repeat (first | refine g ?_ | refine s_flat 5 [(.pure, [0, 2, 3, 4]), (.mem true, [1, 5]), (.mem false, [6])] ?_ | refine s_flat 7 [(.pure, [0, 2, 3, 4]), (.mem true, [1, 5]), (.mem false, [6])] ?_ | refine s_flat 9 [(.pure, [0, 2, 3, 4]), (.mem true, [1, 5]), (.mem false, [6])] ?_))
  refine s_copyall 1 (reads_own (b := bd) (m := s.dumb.length) (cap := s.dumb.length) (l := s.dumb.map Value.bool) (by (repeat (first | (with_reducible exact At.head) | apply At.tail))) (by simp)) (by simp [List.all_map, one1]) (by simp) ?_
  (repeat (first | refine g ?_ | refine s_flat 5 [(.pure, [0, 2, 3, 4]), (.mem true, [1, 5]), (.mem false, [6])] ?_ | refine s_flat 7 [(.pure, [0, 2, 3, 4]), (.mem true, [1, 5]), (.mem false, [6])] ?_ | refine s_flat 9 [(.pure, [0, 2, 3, 4]), (.mem true, [1, 5]), (.mem false, [6])] ?_))
  refine s_made 24 s.cache.length s.cache.length fun r3 => ?_
  (repeat (first | refine g ?_ | refine s_flat 5 [(.pure, [0, 2, 3, 4]), (.mem true, [1, 5]), (.mem false, [6])] ?_ | refine s_flat 7 [(.pure, [0, 2, 3, 4]), (.mem true, [1, 5]), (.mem false, [6])] ?_ | refine s_flat 9 [(.pure, [0, 2, 3, 4]), (.mem true, [1, 5]), (.mem false, [6])] ?_))
  refine s_copyall 2 (reads_slice (p := pc) (m := s.cache.length) (cap := cc) (l := cacheV s.cache) (by (repeat (first | (with_reducible exact At.head) | apply At.tail)))) (cacheV_one1 _) (cacheV_length _) ?_
  (repeat (first | refine g ?_ | refine s_flat 5 [(.pure, [0, 2, 3, 4]), (.mem true, [1, 5]), (.mem false, [6])] ?_ | refine s_flat 7 [(.pure, [0, 2, 3, 4]), (.mem true, [1, 5]), (.mem false, [6])] ?_ | refine s_flat 9 [(.pure, [0, 2, 3, 4]), (.mem true, [1, 5]), (.mem false, [6])] ?_))
  refine run_ret rfl (imp_RX r rfl ?_)
  refine imp_plate (b := b) (s := s) (bh := bh) (bd := bd) (pc := pc) (cc := cc) ?_
  unfold plateParts plate3
  (iterate 4 (apply imp_pick; (repeat (first | (with_reducible exact Pull.head) | apply Pull.tail))))
  refine imp_plate (b := r) (s := s) (bh := r1) (bd := r2) (pc := some ⟨r3, 0, none⟩) (cc := s.cache.length) ?_
  unfold plateParts plate3
  (iterate 3 (apply imp_pick; (repeat (first | (with_reducible exact Pull.head) | apply Pull.tail))))
  refine imp_sl_shut (spare := []) (cacheV_length _).symm (by rw [cacheV_length]; rfl) (Nat.le_refl _) ?_
  rw [List.append_nil]
  exact shut
end Go.Proofs.Ytkmdajbhkfneaaa.V
