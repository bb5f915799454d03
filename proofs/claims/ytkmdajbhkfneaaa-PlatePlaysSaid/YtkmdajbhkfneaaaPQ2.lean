/- The document's device: keep, Flush, Arm, Lay, Spoil. -/
import Derived.Test.YtkmdajbhkfneaaaPQ1
set_option maxRecDepth 10000
set_option linter.unusedVariables false
namespace Go.Proofs.Ytkmdajbhkfneaaa.V
open Go.Proofs.Ytkmdajbhkfneaaa.VL
attribute [local irreducible] Run
@[reducible] def qWithH (s : QSt) (h : List ByteArray × List Bool) : QSt := { s with kept := h.1, dumb := h.2 }
theorem qkeep_parts (q : View) (b : Nat) (s : QSt) (hd : s.dumb.length = s.kept.length) (hs : s.kept.length ≤ 32768) (x : Int × ByteArray) (h0 : 0 ≤ x.1) (h1 : x.1 < s.kept.length) (pk : Option Addr) (ck : Nat) (pd : Option Addr) (cd : Nat) (pw : Option Addr) (cw : Nat) :
    FnD Try.prog q 52 [.pointer (some ⟨b, 0, none⟩), .agg ⟨[.int .i64 x.1, .string x.2]⟩] (q3 b s pk ck pd cd pw cw []) (.tuple #[]) (q3 b (qWithH s (keepH (s.kept, s.dumb) x)) pk ck pd cd pw cw []) := by
  obtain ⟨a, t⟩ := x
  dsimp only at h0 h1
  (first | refine FnD.go Try.call52 Try.func52 rfl rfl rfl ?_ | refine FnX.go Try.call52 Try.func52 rfl rfl rfl ?_)
  unfold q3
  (repeat (first | refine g ?_ | refine s_flat 1 [(.pure, [0, 1, 2, 4, 6]), (.mem true, [3, 5, 7]), (.pure, [8]), (.mem false, [9])] ?_ | refine s_flat 2 [(.pure, [0, 1, 2, 4]), (.mem true, [3, 5]), (.pure, [6]), (.mem false, [7])] ?_))
  refine s_box ?_
  intro r
  (repeat (first | refine g ?_ | refine s_flat 1 [(.pure, [0, 1, 2, 4, 6]), (.mem true, [3, 5, 7]), (.pure, [8]), (.mem false, [9])] ?_ | refine s_flat 2 [(.pure, [0, 1, 2, 4]), (.mem true, [3, 5]), (.pure, [6]), (.mem false, [7])] ?_))
  refine s_ptr pk (h0 := by omega) (fun bk ek ekl _ => ?_)
  refine s_ptr pd (h0 := by omega) (fun bd ed edl _ => ?_)
  subst ek ed
  (repeat (first | refine g ?_ | refine s_flat 1 [(.pure, [0, 1, 2, 4, 6]), (.mem true, [3, 5, 7]), (.pure, [8]), (.mem false, [9])] ?_ | refine s_flat 2 [(.pure, [0, 1, 2, 4]), (.mem true, [3, 5]), (.pure, [6]), (.mem false, [7])] ?_))
  refine s_storesl ?_
  (repeat (first | refine g ?_ | refine s_flat 1 [(.pure, [0, 1, 2, 4, 6]), (.mem true, [3, 5, 7]), (.pure, [8]), (.mem false, [9])] ?_ | refine s_flat 2 [(.pure, [0, 1, 2, 4]), (.mem true, [3, 5]), (.pure, [6]), (.mem false, [7])] ?_))
  refine s_storesl ?_
  (repeat (first | refine g ?_ | refine s_flat 1 [(.pure, [0, 1, 2, 4, 6]), (.mem true, [3, 5, 7]), (.pure, [8]), (.mem false, [9])] ?_ | refine s_flat 2 [(.pure, [0, 1, 2, 4]), (.mem true, [3, 5]), (.pure, [6]), (.mem false, [7])] ?_))
  refine run_end rfl (imp_RD rfl ?_)
  dsimp only
  rw [List.length_set, List.length_set, List.map_set, List.map_set]
  exact shut
def qFlushF (s : QSt) : QSt := if s.down then s else { s with kept := (s.wait.foldl keepH (s.kept, s.dumb)).1, dumb := (s.wait.foldl keepH (s.kept, s.dumb)).2, wait := [] }
theorem qflush_spec (q : View) (b : Nat) (s : QSt) (hw : QW s) :
    FnD Try.prog q 40 [.pointer (some ⟨b, 0, none⟩)] [qAt b s] (.int .i64 (if s.down then 20 else 0)) [qAt b (qFlushF s)] := by
  have hd := hw.dumb
  have hn := hw.size
  (first | refine FnD.go Try.call40 Try.func40 rfl rfl rfl ?_ | refine FnX.go Try.call40 Try.func40 rfl rfl rfl ?_)
  refine run_q fun pk ck pd cd pw cw => ?_
  unfold qParts
  (repeat (first | refine g ?_))
  refine run_cond rfl ?_ ?_
  · intro h
    (repeat (first | refine g ?_))
    refine run_ret rfl (imp_RD (by rw [if_pos h]) ?_)
    unfold qFlushF; rw [if_pos h]; exact imp_q shut
  · intro h
    have h' : ¬ (s.down = true) := by rw [h]; decide
    (repeat (first | refine g ?_))
    refine run_loopI (X := Nat) (fun i => i ≤ s.wait.length) (fun i => [(0, .pointer (some ⟨b, 0, none⟩)), (3, .int .i64 (i : Int))])
      (fun i => qParts b (qWithH s ((s.wait.take i).foldl keepH (s.kept, s.dumb))) pk ck pd cd pw cw []) (fun i => s.wait.length - i) 0 (Nat.zero_le _) fct ?_ ?_
    · simp only [List.take_zero, List.foldl_nil]; unfold qParts; exact shut
    · intro i hi
      have hl : ((s.wait.take i).foldl keepH (s.kept, s.dumb)).1.length = s.kept.length ∧ ((s.wait.take i).foldl keepH (s.kept, s.dumb)).2.length = s.dumb.length := foldH_len _ _
      generalize eS : (s.wait.take i).foldl keepH (s.kept, s.dumb) = hS at *
      unfold qParts
      have e1 := cacheV_length s.wait
      have hsec := hw.sec
      (repeat (first | refine g ?_))
      refine run_cond_dec rfl ?_ ?_
      · intro h1
        have h1' : i < s.wait.length := Int.ofNat_lt.1 h1
        obtain ⟨x, hx⟩ : ∃ x, s.wait[i]? = some x := ⟨_, List.getElem?_eq_getElem h1'⟩
        have hxm := hw.wait x (List.mem_of_getElem? hx)
        refine s_ptr pw (h0 := show 0 < s.wait.length by omega) (fun bc ep _ hcap => ?_)
        subst ep
        (repeat (first | refine g ?_))
        refine s_idxk 2 ?_
        refine s_loadasl (i := i * 2) (cacheV_at s.wait i x hx).2.2 (by show i * 2 + _ ≤ (cacheV s.wait).length; omega) ?_
        (repeat (first | refine g ?_))
        refine s_call (qkeep_parts q b (qWithH s hS) (show hS.2.length = hS.1.length by omega) (show hS.1.length ≤ 32768 by omega) x hxm.1 (show x.1 < (hS.1.length : Int) by omega) pk ck pd cd _ cw) ?_
        (repeat (first | refine g ?_))
        have et : (s.wait.take (i + 1)).foldl keepH (s.kept, s.dumb) = keepH hS x := by rw [List.take_add_one, hx, List.foldl_append, eS]; rfl
        refine run_stop_loop (i + 1) ⟨h1', by omega⟩ fct ?_
        dsimp only
        rw [et]
        exact shut
      · intro h1
        have h1' : i = s.wait.length := Nat.le_antisymm hi (Nat.le_of_not_lt fun h => h1 (Int.ofNat_lt.2 h))
        (repeat (first | refine g ?_))
        refine run_ret rfl (imp_RD ?_ ?_)
        · rw [if_neg h']
        · subst h1'
          rw [List.take_length] at eS
          unfold qFlushF; rw [if_neg h', eS]
          refine imp_q (pk := pk) (ck := ck) (pd := pd) (cd := cd) (pw := none) (cw := 0) ?_
          unfold qParts; dsimp only [List.length_nil]
          exact shut
def qArmF (s : QSt) (n : Int) : Int × QSt := if n < 0 then (1, s) else if s.down = true then (20, s) else (0, { s with fuse := n })
theorem qarm_spec (q : View) (b : Nat) (s : QSt) (n : Int) :
    FnD Try.prog q 41 [.pointer (some ⟨b, 0, none⟩), .int .i64 n] [qAt b s] (.int .i64 (qArmF s n).1) [qAt b (qArmF s n).2] := by
  (first | refine FnD.go Try.call41 Try.func41 rfl rfl rfl ?_ | refine FnX.go Try.call41 Try.func41 rfl rfl rfl ?_)
  refine run_q fun pk ck pd cd pw cw => ?_
  unfold qParts
  (repeat (first | refine g ?_))
  refine run_cond_dec rfl ?_ ?_
  · intro h
    have e : qArmF s n = (1, s) := by unfold qArmF; rw [if_pos h]
    rw [e]
    (repeat (first | refine g ?_))
    exact run_ret rfl (imp_RD rfl (imp_q shut))
  · intro h
    (repeat (first | refine g ?_))
    refine run_cond rfl ?_ ?_
    · intro h2
      have e : qArmF s n = (20, s) := by unfold qArmF; rw [if_neg h, if_pos h2]
      rw [e]
      (repeat (first | refine g ?_))
      exact run_ret rfl (imp_RD rfl (imp_q shut))
    · intro h2
      have e : qArmF s n = (0, { s with fuse := n }) := by unfold qArmF; rw [if_neg h, if_neg (by rw [h2]; decide)]
      rw [e]
      (repeat (first | refine g ?_))
      exact run_ret rfl (imp_RD rfl (imp_q shut))
def qLayF (s : QSt) (at_ : Int) (t : ByteArray) : Int × QSt := if (t.size : Int) ≠ 64 then (1, s) else if at_ < 0 ∨ (s.kept.length : Int) ≤ at_ then (2, s) else (0, qWithH s (keepH (s.kept, s.dumb) (at_, t)))
theorem qlay_spec (q : View) (b : Nat) (s : QSt) (hw : QW s) (at_ : Int) (t : ByteArray) :
    FnD Try.prog q 43 [.pointer (some ⟨b, 0, none⟩), .int .i64 at_, .string t] [qAt b s] (.int .i64 (qLayF s at_ t).1) [qAt b (qLayF s at_ t).2] := by
  (first | refine FnD.go Try.call43 Try.func43 rfl rfl rfl ?_ | refine FnX.go Try.call43 Try.func43 rfl rfl rfl ?_)
  refine run_q fun pk ck pd cd pw cw => ?_
  unfold qParts
  (repeat (first | refine g ?_))
  refine run_cond_dec rfl ?_ ?_
  · intro h
    have e : qLayF s at_ t = (1, s) := by unfold qLayF; rw [if_pos h]
    rw [e]
    (repeat (first | refine g ?_))
    exact run_ret rfl (imp_RD rfl (imp_q shut))
  · intro h
    (repeat (first | refine g ?_))
    refine s_call (none_spec q b pk s.kept.length ck _ at_) ?_
    (repeat (first | refine g ?_))
    refine run_cond_dec rfl ?_ ?_
    · intro h2
      have e : qLayF s at_ t = (2, s) := by unfold qLayF; rw [if_neg h, if_pos h2]
      rw [e]
      (repeat (first | refine g ?_))
      exact run_ret rfl (imp_RD rfl (imp_q shut))
    · intro h2
      have e : qLayF s at_ t = (0, qWithH s (keepH (s.kept, s.dumb) (at_, t))) := by unfold qLayF; rw [if_neg h, if_neg h2]
      (repeat (first | refine g ?_))
      refine s_call (qkeep_parts q b s hw.dumb hw.sec (at_, t) (show 0 ≤ at_ by omega) (show at_ < s.kept.length by omega) pk ck pd cd pw cw) ?_
      rw [e]
      (repeat (first | refine g ?_))
      exact run_ret rfl (imp_RD rfl (imp_q shut))
def qSpoilF (s : QSt) (at_ : Int) : Int × QSt := if at_ < 0 ∨ (s.kept.length : Int) ≤ at_ then (2, s) else (0, { s with dumb := s.dumb.set at_.toNat true })
theorem qspoil_spec (q : View) (b : Nat) (s : QSt) (hw : QW s) (at_ : Int) :
    FnD Try.prog q 44 [.pointer (some ⟨b, 0, none⟩), .int .i64 at_] [qAt b s] (.int .i64 (qSpoilF s at_).1) [qAt b (qSpoilF s at_).2] := by
  have hd := hw.dumb
  (first | refine FnD.go Try.call44 Try.func44 rfl rfl rfl ?_ | refine FnX.go Try.call44 Try.func44 rfl rfl rfl ?_)
  refine run_q fun pk ck pd cd pw cw => ?_
  unfold qParts
  (repeat (first | refine g ?_))
  refine s_call (none_spec q b pk s.kept.length ck _ at_) ?_
  (repeat (first | refine g ?_))
  refine run_cond_dec rfl ?_ ?_
  · intro h2
    have e : qSpoilF s at_ = (2, s) := by unfold qSpoilF; rw [if_pos h2]
    rw [e]
    (repeat (first | refine g ?_))
    exact run_ret rfl (imp_RD rfl (imp_q shut))
  · intro h2
    have e : qSpoilF s at_ = (0, { s with dumb := s.dumb.set at_.toNat true }) := by unfold qSpoilF; rw [if_neg h2]
    refine s_ptr pd (h0 := by omega) (fun bd ed edl _ => ?_)
    subst ed
    (repeat (first | refine g ?_))
    refine s_storesl ?_
    (repeat (first | refine g ?_))
    refine run_ret rfl (imp_RD (by rw [e]) ?_); rw [e]
    refine imp_q (pk := pk) (ck := ck) (pd := some ⟨bd, 0, none⟩) (cd := cd) (pw := pw) (cw := cw) ?_
    unfold qParts
    dsimp only
    rw [List.length_set, List.map_set]
    exact shut
end Go.Proofs.Ytkmdajbhkfneaaa.V
