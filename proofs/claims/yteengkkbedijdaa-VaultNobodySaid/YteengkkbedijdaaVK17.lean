/- The laws VaultIdeals and VaultTwo. -/
import Derived.Test.YteengkkbedijdaaVK16
set_option maxRecDepth 10000
set_option linter.unusedVariables false
namespace Go.Proofs.Yteengkkbedijdaa.V
open Go.Proofs.Yteengkkbedijdaa.VL Go.Proofs.Yteengkkbedijdaa.VL.RD
attribute [local irreducible] Run numB
theorem k0 (n : Nat) : VOk n ⟨[], [], []⟩ := ⟨Nat.zero_le _, Nat.zero_le _, Nat.zero_le _, by simp, by simp⟩
theorem ideals_spec (q : View) (p : Option Addr) (c : Nat) (l : List OpT) (hq : OpsQ q p l) (hl : l.length ≤ 9223372036854775807) :
    FnD Try.prog q 6 [.slice p l.length c] [] (.bool true) [] := by
  (first | refine FnD.go Try.call6 Try.func6 rfl rfl rfl ?_ | refine FnX.go Try.call6 Try.func6 rfl rfl rfl ?_)
  (repeat (first | refine g ?_))
  refine s_callx (ideal_new q) fun v => ?_
  (repeat (first | refine g ?_))
  refine s_box fun w => ?_
  (repeat (first | refine g ?_))
  refine run_cutI (X := Unit) (fun _ => True) (fun _ => []) (fun _ => []) ?_ fun _ _ => ?_
  · refine run_loopI (X := Nat × VSt) (fun x => (x.1 ≤ l.length ∧ x.1 ≤ 60) ∧ VOk x.1 x.2) (fun x => [(0, .slice p l.length c), (3, .pointer (some ⟨v, 0, none⟩)), (4, .pointer (some ⟨w, 0, none⟩)), (5, .int .i64 (x.1 : Int))])
      (fun x => [rAt w x.2, vaultAt v x.2]) (fun x => l.length - x.1) (0, ⟨[], [], []⟩) ⟨⟨Nat.zero_le _, Nat.zero_le _⟩, k0 0⟩ fct ?_ ?_
    · refine imp_r (ph := none) (ch := 0) (pm := none) (cm := 0) (pe := none) (ce := 0) ?_
      unfold rParts
      exact shut
    intro ⟨i, s⟩ ⟨⟨hi, hi30⟩, hs⟩
    dsimp only at *
    (repeat (first | refine g ?_))
    refine run_split_dec rfl rfl rfl rfl rfl ?_ ?_
    · intro h1
      (repeat (first | refine g ?_))
      refine run_cond_dec rfl ?_ ?_
      · intro h2
        obtain ⟨ox, obs, oos, ohx, ohxo, oep, oho, ohxa, ohxl⟩ := hq.at i (by omega)
        subst oep
        (repeat (first | refine g ?_))
        refine s_idxo (kk := 6) (oos + i * 6) ?_
        refine s_loadao (j := i * 6) oho ohxa ohxl (by omega) ?_
        (repeat (first | refine g ?_))
        refine s_call (step_spec q v w s (hs.mono (by omega)) ox ohxo) ?_
        (repeat (first | refine g ?_))
        exact run_stop_loop (i + 1, stepS s ox) ⟨⟨⟨by omega, by omega⟩, hs.step ox⟩, by omega⟩ fct shut
      · intro h2
        (repeat (first | refine g ?_))
        exact run_stop_loop () trivial fct shut
    · intro h1
      (repeat (first | refine g ?_))
      exact run_stop_loop () trivial fct shut
  · (repeat (first | refine g ?_))
    refine s_call (awake_spec q) ?_
    (repeat (first | refine g ?_))
    exact run_ret rfl (imp_RD rfl shut)
end Go.Proofs.Yteengkkbedijdaa.V
