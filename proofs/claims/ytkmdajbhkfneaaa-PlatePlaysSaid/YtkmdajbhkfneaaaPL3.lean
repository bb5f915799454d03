/- The device: Arm, Lay, Spoil, Write, Read. -/
import Derived.Test.YtkmdajbhkfneaaaPL2
set_option maxRecDepth 10000
set_option linter.unusedVariables false
namespace Go.Proofs.Ytkmdajbhkfneaaa.V
open Go.Proofs.Ytkmdajbhkfneaaa.VL
attribute [local irreducible] Run
def armF (s : PSt) (n : Int) : Int × PSt := if n < 0 then (1, s) else if s.down = true then (20, s) else (0, { s with fuse := n })
theorem arm_spec (q : View) (b : Nat) (s : PSt) (n : Int) :
    FnD Try.prog q 21 [.pointer (some ⟨b, 0, none⟩), .int .i64 n] [plateAt b s] (.int .i64 (armF s n).1) [plateAt b (armF s n).2] := by
  (first | refine FnD.go Try.call21 Try.func21 rfl rfl rfl ?_ | refine FnX.go Try.call21 Try.func21 rfl rfl rfl ?_)
  refine run_plate fun bh bd pc cc => ?_
  unfold plateParts plate3
  (repeat (first | refine g ?_))
  refine run_cond_dec rfl ?_ ?_
  · intro h
    have e : armF s n = (1, s) := by unfold armF; rw [if_pos h]
    rw [e]
    (repeat (first | refine g ?_))
    exact run_ret rfl (imp_RD rfl (imp_plate shut))
  · intro h
    (repeat (first | refine g ?_))
    refine run_cond rfl ?_ ?_
    · intro h2
      have e : armF s n = (20, s) := by unfold armF; rw [if_neg h, if_pos h2]
      rw [e]
      (repeat (first | refine g ?_))
      exact run_ret rfl (imp_RD rfl (imp_plate shut))
    · intro h2
      have e : armF s n = (0, { s with fuse := n }) := by unfold armF; rw [if_neg h, if_neg (by rw [h2]; decide)]
      rw [e]
      (repeat (first | refine g ?_))
      exact run_ret rfl (imp_RD rfl (imp_plate shut))
def layF (s : PSt) (at_ : Int) (t : ByteArray) : Int × PSt := if (t.size : Int) ≠ 64 then (1, s) else if at_ < 0 ∨ s.sectors ≤ at_ then (2, s) else (0, keepF s (at_, t))
theorem lay_spec (q : View) (b : Nat) (s : PSt) (hw : WF s) (at_ : Int) (t : ByteArray) :
    FnD Try.prog q 25 [.pointer (some ⟨b, 0, none⟩), .int .i64 at_, .string t] [plateAt b s] (.int .i64 (layF s at_ t).1) [plateAt b (layF s at_ t).2] := by
  (first | refine FnD.go Try.call25 Try.func25 rfl rfl rfl ?_ | refine FnX.go Try.call25 Try.func25 rfl rfl rfl ?_)
  refine run_plate fun bh bd pc cc => ?_
  unfold plateParts plate3
  (repeat (first | refine g ?_))
  refine run_cond_dec rfl ?_ ?_
  · intro h
    have e : layF s at_ t = (1, s) := by unfold layF; rw [if_pos h]
    rw [e]
    (repeat (first | refine g ?_))
    exact run_ret rfl (imp_RD rfl (imp_plate shut))
  · intro h
    (repeat (first | refine g ?_))
    refine s_call (wrong_spec q b _ s.sectors at_) ?_
    (repeat (first | refine g ?_))
    refine run_cond_dec rfl ?_ ?_
    · intro h2
      have e : layF s at_ t = (2, s) := by unfold layF; rw [if_neg h, if_pos h2]
      rw [e]
      (repeat (first | refine g ?_))
      exact run_ret rfl (imp_RD rfl (imp_plate shut))
    · intro h2
      have e : layF s at_ t = (0, keepF s (at_, t)) := by unfold layF; rw [if_neg h, if_neg h2]
      (repeat (first | refine g ?_))
      refine s_call (keep_parts q b s hw.held hw.dumb hw.sec (at_, t) (show 0 ≤ at_ by omega) (show at_ < s.sectors by omega) bh bd pc cc) ?_
      rw [e]
      (repeat (first | refine g ?_))
      exact run_ret rfl (imp_RD rfl (imp_plate shut))
def spoilF (s : PSt) (at_ : Int) : Int × PSt := if at_ < 0 ∨ s.sectors ≤ at_ then (2, s) else (0, { s with held := s.held.set at_.toNat ⟨#[]⟩, dumb := s.dumb.set at_.toNat true })
theorem spoil_spec (q : View) (b : Nat) (s : PSt) (hw : WF s) (at_ : Int) :
    FnD Try.prog q 20 [.pointer (some ⟨b, 0, none⟩), .int .i64 at_] [plateAt b s] (.int .i64 (spoilF s at_).1) [plateAt b (spoilF s at_).2] := by
  have hh := hw.held
  have hd := hw.dumb
  (first | refine FnD.go Try.call20 Try.func20 rfl rfl rfl ?_ | refine FnX.go Try.call20 Try.func20 rfl rfl rfl ?_)
  refine run_plate fun bh bd pc cc => ?_
  unfold plateParts plate3
  (repeat (first | refine g ?_))
  refine s_call (wrong_spec q b _ s.sectors at_) ?_
  (repeat (first | refine g ?_))
  refine run_cond_dec rfl ?_ ?_
  · intro h2
    have e : spoilF s at_ = (2, s) := by unfold spoilF; rw [if_pos h2]
    rw [e]
    (repeat (first | refine g ?_))
    exact run_ret rfl (imp_RD rfl (imp_plate shut))
  · intro h2
    have e : spoilF s at_ = (0, { s with held := s.held.set at_.toNat ⟨#[]⟩, dumb := s.dumb.set at_.toNat true }) := by unfold spoilF; rw [if_neg h2]
    (repeat (first | refine g ?_))
    refine s_storeset ?_
    (repeat (first | refine g ?_))
    refine s_storeset ?_
    (repeat (first | refine g ?_))
    refine run_ret rfl (imp_RD (by rw [e]) ?_); rw [e]
    apply imp_plate; unfold plateParts plate3
    dsimp only
    rw [List.length_set, List.length_set, List.map_set, List.map_set]
    exact shut
def writeF (s : PSt) (at_ : Int) (t : ByteArray) : Int × PSt := if (t.size : Int) ≠ 64 then (1, s) else if s.down = true then (20, s) else if at_ < 0 ∨ s.sectors ≤ at_ then (2, s) else
  if s.fuse = 0 then (20, { s with down := true }) else
  (0, { s with fuse := if 0 < s.fuse then s.fuse - 1 else s.fuse, writes := s.writes + 1, cache := s.cache ++ [(at_, t)] })
theorem write_spec (q : View) (b : Nat) (s : PSt) (hw : WF s) (at_ : Int) (t : ByteArray) :
    FnD Try.prog q 13 [.pointer (some ⟨b, 0, none⟩), .int .i64 at_, .string t] [plateAt b s] (.int .i64 (writeF s at_ t).1) [plateAt b (writeF s at_ t).2] := by
  have hf := hw.fuse
  have hwr := hw.writes
  have hn := hw.size
  (first | refine FnD.go Try.call13 Try.func13 rfl rfl rfl ?_ | refine FnX.go Try.call13 Try.func13 rfl rfl rfl ?_)
  refine run_plate fun bh bd pc cc => ?_
  unfold plateParts plate3
  (repeat (first | refine g ?_))
  refine run_cond_dec rfl ?_ ?_
  · intro h
    have e : writeF s at_ t = (1, s) := by unfold writeF; rw [if_pos h]
    rw [e]
    (repeat (first | refine g ?_))
    exact run_ret rfl (imp_RD rfl (imp_plate shut))
  · intro h
    (repeat (first | refine g ?_))
    refine run_cond rfl ?_ ?_
    · intro h2
      have e : writeF s at_ t = (20, s) := by unfold writeF; rw [if_neg h, if_pos h2]
      rw [e]
      (repeat (first | refine g ?_))
      exact run_ret rfl (imp_RD rfl (imp_plate shut))
    · intro h2
      have h2' : ¬ (s.down = true) := by rw [h2]; decide
      (repeat (first | refine g ?_))
      refine s_call (wrong_spec q b _ s.sectors at_) ?_
      (repeat (first | refine g ?_))
      refine run_cond_dec rfl ?_ ?_
      · intro h3
        have e : writeF s at_ t = (2, s) := by unfold writeF; rw [if_neg h, if_neg h2', if_pos h3]
        rw [e]
        (repeat (first | refine g ?_))
        exact run_ret rfl (imp_RD rfl (imp_plate shut))
      · intro h3
        (repeat (first | refine g ?_))
        refine run_cond_dec rfl ?_ ?_
        · intro h4
          have e : writeF s at_ t = (20, { s with down := true }) := by unfold writeF; rw [if_neg h, if_neg h2', if_neg h3, if_pos h4]
          rw [e]
          (repeat (first | refine g ?_))
          exact run_ret rfl (imp_RD rfl (imp_plate shut))
        · intro h4
          have e : writeF s at_ t = (0, { s with fuse := if 0 < s.fuse then s.fuse - 1 else s.fuse, writes := s.writes + 1, cache := s.cache ++ [(at_, t)] }) := by unfold writeF; rw [if_neg h, if_neg h2', if_neg h3, if_neg h4]
          rw [e]
          generalize hfu : (if 0 < s.fuse then s.fuse - 1 else s.fuse) = fu
          (repeat (first | refine g ?_))
          refine run_cut (X := Unit) (fun _ => [(0, .pointer (some ⟨b, 0, none⟩)), (1, .int .i64 at_), (2, .string t)]) (fun _ => plateParts b { s with fuse := fu } bh bd pc cc []) ?_ fun _ => ?_
          · refine run_cond_dec rfl ?_ ?_
            · intro h5
              rw [if_pos h5] at hfu
              (repeat (first | refine g ?_))
              rw [hfu]
              exact run_stop_loop () trivial fct shut
            · intro h5
              rw [if_neg h5] at hfu
              rw [hfu]
              (repeat (first | refine g ?_))
              exact run_stop_loop () trivial fct shut
          · unfold plateParts plate3; dsimp only
            have ec := cacheV_length s.cache
            (repeat (first | refine g ?_))
            refine s_built fun r => ?_
            refine s_app 2 24 (reads_own At.head rfl) fun r2 => ?_
            (repeat (first | refine g ?_))
            refine run_ret rfl (imp_RD rfl ?_)
            apply imp_plate (pc := r2.1) (cc := r2.2); unfold plateParts plate3; dsimp only
            rw [List.length_append, cacheV_append, List.length_singleton, show cacheV [(at_, t)] = [.int .i64 at_, .string t] from rfl]
            exact shut
end Go.Proofs.Ytkmdajbhkfneaaa.V
