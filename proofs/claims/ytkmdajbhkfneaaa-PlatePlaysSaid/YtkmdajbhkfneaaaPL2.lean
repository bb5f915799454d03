/- The device: a write that is kept; Flush. -/
import Derived.Test.YtkmdajbhkfneaaaPL1
set_option maxRecDepth 10000
set_option linter.unusedVariables false
namespace Go.Proofs.Ytkmdajbhkfneaaa.V
open Go.Proofs.Ytkmdajbhkfneaaa.VL
attribute [local irreducible] Run
@[reducible] def keepH (h : List ByteArray × List Bool) (x : Int × ByteArray) : List ByteArray × List Bool := (h.1.set x.1.toNat x.2, h.2.set x.1.toNat false)
@[reducible] def withH (s : PSt) (h : List ByteArray × List Bool) : PSt := { s with held := h.1, dumb := h.2 }
@[reducible] def keepF (s : PSt) (x : Int × ByteArray) : PSt := withH s (keepH (s.held, s.dumb) x)
theorem keep_held (s : PSt) (x : Int × ByteArray) : (keepF s x).held.length = s.held.length := List.length_set
theorem keep_dumb (s : PSt) (x : Int × ByteArray) : (keepF s x).dumb.length = s.dumb.length := List.length_set
theorem keep_heldV (s : PSt) (x : Int × ByteArray) : (keepF s x).held.map Value.string = (s.held.map Value.string).set x.1.toNat (.string x.2) := List.map_set
theorem keep_dumbV (s : PSt) (x : Int × ByteArray) : (keepF s x).dumb.map Value.bool = (s.dumb.map Value.bool).set x.1.toNat (.bool false) := List.map_set
theorem keep_parts (q : View) (b : Nat) (s : PSt) (hh : (s.held.length : Int) = s.sectors) (hd : (s.dumb.length : Int) = s.sectors) (hs : s.sectors ≤ 32768) (x : Int × ByteArray) (h0 : 0 ≤ x.1) (h1 : x.1 < s.sectors) (bh bd : Nat) (pc : Option Addr) (cc : Nat) :
    FnD Try.prog q 34 [.pointer (some ⟨b, 0, none⟩), .agg ⟨[.int .i64 x.1, .string x.2]⟩] (plate3 b s bh bd pc cc []) (.tuple #[]) (plate3 b (keepF s x) bh bd pc cc []) := by
  obtain ⟨a, t⟩ := x
  dsimp only at h0 h1
  (first | refine FnD.go Try.call34 Try.func34 rfl rfl rfl ?_ | refine FnX.go Try.call34 Try.func34 rfl rfl rfl ?_)
  unfold plate3
  (repeat (first | refine g ?_ | refine s_flat 1 [(.pure, [0, 1, 2, 4, 6]), (.mem true, [3, 5, 7]), (.pure, [8]), (.mem false, [9])] ?_ | refine s_flat 2 [(.pure, [0, 1, 2, 4]), (.mem true, [3, 5]), (.pure, [6]), (.mem false, [7])] ?_))
  refine s_box ?_
  intro r
  (repeat (first | refine g ?_ | refine s_flat 1 [(.pure, [0, 1, 2, 4, 6]), (.mem true, [3, 5, 7]), (.pure, [8]), (.mem false, [9])] ?_ | refine s_flat 2 [(.pure, [0, 1, 2, 4]), (.mem true, [3, 5]), (.pure, [6]), (.mem false, [7])] ?_))
  refine s_storeset ?_
  (repeat (first | refine g ?_ | refine s_flat 1 [(.pure, [0, 1, 2, 4, 6]), (.mem true, [3, 5, 7]), (.pure, [8]), (.mem false, [9])] ?_ | refine s_flat 2 [(.pure, [0, 1, 2, 4]), (.mem true, [3, 5]), (.pure, [6]), (.mem false, [7])] ?_))
  refine s_storeset ?_
  (repeat (first | refine g ?_ | refine s_flat 1 [(.pure, [0, 1, 2, 4, 6]), (.mem true, [3, 5, 7]), (.pure, [8]), (.mem false, [9])] ?_ | refine s_flat 2 [(.pure, [0, 1, 2, 4]), (.mem true, [3, 5]), (.pure, [6]), (.mem false, [7])] ?_))
  refine run_end rfl (imp_RD rfl ?_)
  rw [keep_held, keep_dumb, keep_heldV, keep_dumbV]
  exact shut
theorem foldH_len (l : List (Int × ByteArray)) (h : List ByteArray × List Bool) : (l.foldl keepH h).1.length = h.1.length ∧ (l.foldl keepH h).2.length = h.2.length := by
  induction l generalizing h with
  | nil => exact ⟨rfl, rfl⟩
  | cons x l ih => have := ih (keepH h x); simpa [keepH] using this
def flushF (s : PSt) : PSt := if s.down then s else { s with held := (s.cache.foldl keepH (s.held, s.dumb)).1, dumb := (s.cache.foldl keepH (s.held, s.dumb)).2, cache := [] }
theorem flush_spec (q : View) (b : Nat) (s : PSt) (hw : WF s) :
    FnD Try.prog q 18 [.pointer (some ⟨b, 0, none⟩)] [plateAt b s] (.int .i64 (if s.down then 20 else 0)) [plateAt b (flushF s)] := by
  have hh := hw.held
  have hd := hw.dumb
  have hn := hw.size
  (first | refine FnD.go Try.call18 Try.func18 rfl rfl rfl ?_ | refine FnX.go Try.call18 Try.func18 rfl rfl rfl ?_)
  refine run_plate fun bh bd pc cc => ?_
  unfold plateParts plate3
  (repeat (first | refine g ?_))
  refine run_cond rfl ?_ ?_
  · intro h
    (repeat (first | refine g ?_))
    refine run_ret rfl (imp_RD (by rw [if_pos h]) ?_)
    unfold flushF; rw [if_pos h]; exact imp_plate shut
  · intro h
    have h' : ¬ (s.down = true) := by rw [h]; decide
    (repeat (first | refine g ?_))
    refine run_loopI (X := Nat) (fun i => i ≤ s.cache.length) (fun i => [(0, .pointer (some ⟨b, 0, none⟩)), (14, .slice pc s.cache.length cc), (15, .int .i64 s.cache.length), (16, .int .i64 (i : Int))])
      (fun i => plateParts b (withH s ((s.cache.take i).foldl keepH (s.held, s.dumb))) bh bd pc cc []) (fun i => s.cache.length - i) 0 (Nat.zero_le _) fct ?_ ?_
    · simp only [List.take_zero, List.foldl_nil]; unfold plateParts plate3; exact shut
    · intro i hi
      have hl : ((s.cache.take i).foldl keepH (s.held, s.dumb)).1.length = s.held.length ∧ ((s.cache.take i).foldl keepH (s.held, s.dumb)).2.length = s.dumb.length := foldH_len _ _
      generalize eS : (s.cache.take i).foldl keepH (s.held, s.dumb) = hS at *
      unfold plateParts plate3
      (repeat (first | refine g ?_))
      refine run_cond_dec rfl ?_ ?_
      · intro h1
        have h1' : i < s.cache.length := Int.ofNat_lt.1 h1
        obtain ⟨x, hx⟩ : ∃ x, s.cache[i]? = some x := ⟨_, List.getElem?_eq_getElem h1'⟩
        have hxm := hw.cache x (List.mem_of_getElem? hx)
        have e1 := cacheV_length s.cache
        refine s_ptr pc (h0 := show 0 < s.cache.length by omega) (fun bc ep _ hcap => ?_)
        subst ep
        (repeat (first | refine g ?_))
        refine s_idxk 2 ?_
        refine s_loadasl (i := i * 2) (cacheV_at s.cache i x hx).2.2 (by omega) ?_
        (repeat (first | refine g ?_))
        refine s_alloc fun r => ?_
        (repeat (first | refine g ?_))
        refine s_call (keep_parts q b (withH s hS) (show (hS.1.length : Int) = s.sectors by omega) (show (hS.2.length : Int) = s.sectors by omega) hw.sec x hxm.1 hxm.2 bh bd _ cc) ?_
        (repeat (first | refine g ?_))
        have et : (s.cache.take (i + 1)).foldl keepH (s.held, s.dumb) = keepH hS x := by rw [List.take_add_one, hx, List.foldl_append, eS]; rfl
        refine run_stop_loop (i + 1) ⟨h1', by omega⟩ fct ?_
        dsimp only
        rw [et]
        exact shut
      · intro h1
        have h1' : i = s.cache.length := Nat.le_antisymm hi (Nat.le_of_not_lt fun h => h1 (Int.ofNat_lt.2 h))
        (repeat (first | refine g ?_))
        refine run_ret rfl (imp_RD ?_ ?_)
        · rw [if_neg h']
        · subst h1'
          rw [List.take_length] at eS
          unfold flushF; rw [if_neg h', eS]
          refine imp_plate (bh := bh) (bd := bd) (pc := none) (cc := 0) ?_
          unfold plateParts plate3; dsimp only [List.length_nil]
          exact shut
end Go.Proofs.Ytkmdajbhkfneaaa.V
