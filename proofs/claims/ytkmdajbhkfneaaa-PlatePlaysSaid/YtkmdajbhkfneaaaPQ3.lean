/- The document's device: Read, Write, Start. -/
import Derived.Test.YtkmdajbhkfneaaaPQ2
set_option maxRecDepth 10000
set_option linter.unusedVariables false
namespace Go.Proofs.Ytkmdajbhkfneaaa.V
open Go.Proofs.Ytkmdajbhkfneaaa.VL
attribute [local irreducible] Run
/-- The last write there, or else. -/
def lastF (l : List (Int × ByteArray)) (at_ : Int) (d : ByteArray × Int) : ByteArray × Int :=
  match l.reverse.find? (fun x => decide (x.1 = at_)) with | some x => (x.2, 0) | none => d
theorem lastF_snoc (l : List (Int × ByteArray)) (at_ : Int) (d : ByteArray × Int) (x : Int × ByteArray) : lastF (l ++ [x]) at_ d = if x.1 = at_ then (x.2, 0) else lastF l at_ d := by
  unfold lastF
  rw [List.reverse_append, List.reverse_singleton, List.singleton_append, List.find?_cons]
  by_cases h : x.1 = at_
  · rw [if_pos h]; simp [h]
  · rw [if_neg h]; simp [h]
def qReadF (s : QSt) (at_ : Int) : (ByteArray × Int) × QSt := if s.down = true then ((⟨#[]⟩, 20), s) else if at_ < 0 ∨ (s.kept.length : Int) ≤ at_ then ((⟨#[]⟩, 2), s) else
  (lastF s.wait at_ (qHeldF s at_), { s with reads := s.reads + 1 })
theorem qread_spec (q : View) (b : Nat) (s : QSt) (hw : QW s) (at_ : Int) :
    FnD Try.prog q 37 [.pointer (some ⟨b, 0, none⟩), .int .i64 at_] [qAt b s] (.tuple #[.string (qReadF s at_).1.1, .int .i64 (qReadF s at_).1.2]) [qAt b (qReadF s at_).2] := by
  have hr := hw.reads
  have hn := hw.size
  (first | refine FnD.go Try.call37 Try.func37 rfl rfl rfl ?_ | refine FnX.go Try.call37 Try.func37 rfl rfl rfl ?_)
  refine run_q fun pk ck pd cd pw cw => ?_
  unfold qParts
  (repeat (first | refine g ?_))
  refine run_cond rfl ?_ ?_
  · intro h2
    have e : qReadF s at_ = ((⟨#[]⟩, 20), s) := by unfold qReadF; rw [if_pos h2]
    rw [e]
    (repeat (first | refine g ?_))
    exact run_ret rfl (imp_RD rfl (imp_q shut))
  · intro h2
    have h2' : ¬ (s.down = true) := by rw [h2]; decide
    (repeat (first | refine g ?_))
    refine s_call (none_spec q b pk s.kept.length ck _ at_) ?_
    (repeat (first | refine g ?_))
    refine run_cond_dec rfl ?_ ?_
    · intro h3
      have e : qReadF s at_ = ((⟨#[]⟩, 2), s) := by unfold qReadF; rw [if_neg h2', if_pos h3]
      rw [e]
      (repeat (first | refine g ?_))
      exact run_ret rfl (imp_RD rfl (imp_q shut))
    · intro h3
      have e : qReadF s at_ = (lastF s.wait at_ (qHeldF s at_), { s with reads := s.reads + 1 }) := by unfold qReadF; rw [if_neg h2', if_neg h3]
      rw [e]
      (repeat (first | refine g ?_))
      refine s_call (qheld_parts q b { s with reads := s.reads + 1 } hw.dumb hw.sec pk ck pd cd pw cw at_) ?_
      rw [show qHeldF { s with reads := s.reads + 1 } at_ = qHeldF s at_ from rfl]
      generalize qHeldF s at_ = d
      (repeat (first | refine g ?_))
      refine run_loopI (X := Nat) (fun i => i ≤ s.wait.length) (fun i => [(0, .pointer (some ⟨b, 0, none⟩)), (1, .int .i64 at_), (6, .string (lastF (s.wait.take i) at_ d).1), (7, .int .i64 (lastF (s.wait.take i) at_ d).2), (8, .int .i64 (i : Int))])
        (fun i => qParts b { s with reads := s.reads + 1 } pk ck pd cd pw cw []) (fun i => s.wait.length - i) 0 (Nat.zero_le _) (by rw [List.take_zero, show lastF [] at_ d = d from rfl]; exact fct) shut ?_
      intro i hi
      unfold qParts
      dsimp only
      have e1 := cacheV_length s.wait
      generalize eD : lastF (s.wait.take i) at_ d = dd at *
      (repeat (first | refine g ?_))
      refine run_cond_dec rfl ?_ ?_
      · intro h1
        have h1' : i < s.wait.length := Int.ofNat_lt.1 h1
        obtain ⟨x, hx⟩ : ∃ x, s.wait[i]? = some x := ⟨_, List.getElem?_eq_getElem h1'⟩
        have hcv := cacheV_at s.wait i x hx
        have et : lastF (s.wait.take (i + 1)) at_ d = if x.1 = at_ then (x.2, 0) else dd := by rw [List.take_add_one, hx]; show lastF (s.wait.take i ++ [x]) at_ d = _; rw [lastF_snoc, eD]
        refine s_ptr pw (h0 := show 0 < s.wait.length by omega) (fun bc ep _ hcap => ?_)
        subst ep
        (repeat (first | refine g ?_))
        refine s_idxk 2 ?_
        (repeat (first | refine g ?_))
        refine s_loadsl hcv.1 ?_
        (repeat (first | refine g ?_))
        refine run_cond_dec rfl ?_ ?_
        · intro h5
          rw [if_pos h5] at et
          (repeat (first | refine g ?_))
          refine s_idxk 2 ?_
          (repeat (first | refine g ?_))
          refine s_loadsl hcv.2.1 ?_
          (repeat (first | refine g ?_))
          exact run_stop_loop (i + 1) ⟨h1', by omega⟩ (by rw [et]; exact fct) shut
        · intro h5
          rw [if_neg h5] at et
          (repeat (first | refine g ?_))
          exact run_stop_loop (i + 1) ⟨h1', by omega⟩ (by rw [et]; exact fct) shut
      · intro h1
        obtain rfl : i = s.wait.length := by omega
        rw [List.take_length] at eD
        rw [eD]
        (repeat (first | refine g ?_))
        exact run_ret rfl (imp_RD rfl (imp_q shut))
def qWriteF (s : QSt) (at_ : Int) (t : ByteArray) : Int × QSt := if (t.size : Int) ≠ 64 then (1, s) else if s.down = true then (20, s) else if at_ < 0 ∨ (s.kept.length : Int) ≤ at_ then (2, s) else
  if s.fuse = 0 then (20, { s with down := true }) else
  (0, { s with fuse := if 0 < s.fuse then s.fuse - 1 else s.fuse, writes := s.writes + 1, wait := s.wait ++ [(at_, t)] })
theorem qwrite_spec (q : View) (b : Nat) (s : QSt) (hw : QW s) (at_ : Int) (t : ByteArray) :
    FnD Try.prog q 39 [.pointer (some ⟨b, 0, none⟩), .int .i64 at_, .string t] [qAt b s] (.int .i64 (qWriteF s at_ t).1) [qAt b (qWriteF s at_ t).2] := by
  have hf := hw.fuse
  have hwr := hw.writes
  have hn := hw.size
  (first | refine FnD.go Try.call39 Try.func39 rfl rfl rfl ?_ | refine FnX.go Try.call39 Try.func39 rfl rfl rfl ?_)
  refine run_q fun pk ck pd cd pw cw => ?_
  unfold qParts
  (repeat (first | refine g ?_))
  refine run_cond_dec rfl ?_ ?_
  · intro h
    have e : qWriteF s at_ t = (1, s) := by unfold qWriteF; rw [if_pos h]
    rw [e]
    (repeat (first | refine g ?_))
    exact run_ret rfl (imp_RD rfl (imp_q shut))
  · intro h
    (repeat (first | refine g ?_))
    refine run_cond rfl ?_ ?_
    · intro h2
      have e : qWriteF s at_ t = (20, s) := by unfold qWriteF; rw [if_neg h, if_pos h2]
      rw [e]
      (repeat (first | refine g ?_))
      exact run_ret rfl (imp_RD rfl (imp_q shut))
    · intro h2
      have h2' : ¬ (s.down = true) := by rw [h2]; decide
      (repeat (first | refine g ?_))
      refine s_call (none_spec q b pk s.kept.length ck _ at_) ?_
      (repeat (first | refine g ?_))
      refine run_cond_dec rfl ?_ ?_
      · intro h3
        have e : qWriteF s at_ t = (2, s) := by unfold qWriteF; rw [if_neg h, if_neg h2', if_pos h3]
        rw [e]
        (repeat (first | refine g ?_))
        exact run_ret rfl (imp_RD rfl (imp_q shut))
      · intro h3
        (repeat (first | refine g ?_))
        refine run_cond_dec rfl ?_ ?_
        · intro h4
          have e : qWriteF s at_ t = (20, { s with down := true }) := by unfold qWriteF; rw [if_neg h, if_neg h2', if_neg h3, if_pos h4]
          rw [e]
          (repeat (first | refine g ?_))
          exact run_ret rfl (imp_RD rfl (imp_q shut))
        · intro h4
          have e : qWriteF s at_ t = (0, { s with fuse := if 0 < s.fuse then s.fuse - 1 else s.fuse, writes := s.writes + 1, wait := s.wait ++ [(at_, t)] }) := by unfold qWriteF; rw [if_neg h, if_neg h2', if_neg h3, if_neg h4]
          rw [e]
          generalize hfu : (if 0 < s.fuse then s.fuse - 1 else s.fuse) = fu
          (repeat (first | refine g ?_))
          refine run_cut (X := Unit) (fun _ => [(0, .pointer (some ⟨b, 0, none⟩)), (1, .int .i64 at_), (2, .string t)]) (fun _ => qParts b { s with fuse := fu } pk ck pd cd pw cw []) ?_ fun _ => ?_
          · refine run_cond_dec rfl ?_ ?_
            · intro h5
              rw [if_pos h5] at hfu
              (repeat (first | refine g ?_))
              rw [hfu]
              exact run_stop_loop () trivial fct shut
            · intro h5
              rw [if_neg h5] at hfu
              rw [hfu]
              (repeat (first | refine g ?_))
              exact run_stop_loop () trivial fct shut
          · unfold qParts; dsimp only
            have ec := cacheV_length s.wait
            (repeat (first | refine g ?_))
            refine s_built fun r => ?_
            refine s_app 2 24 (reads_own At.head rfl) fun r2 => ?_
            (repeat (first | refine g ?_))
            refine run_ret rfl (imp_RD rfl ?_)
            refine imp_q (pk := pk) (ck := ck) (pd := pd) (cd := cd) (pw := r2.1) (cw := r2.2) ?_; unfold qParts; dsimp only
            rw [List.length_append, cacheV_append, List.length_singleton, show cacheV [(at_, t)] = [.int .i64 at_, .string t] from rfl]
            exact shut
end Go.Proofs.Ytkmdajbhkfneaaa.V
