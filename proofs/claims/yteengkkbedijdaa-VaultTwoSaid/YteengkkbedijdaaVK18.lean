/- The law VaultTwo. -/
import Derived.Test.YteengkkbedijdaaVK17
set_option maxRecDepth 10000
set_option linter.unusedVariables false
namespace Go.Proofs.Yteengkkbedijdaa.V
open Go.Proofs.Yteengkkbedijdaa.VL Go.Proofs.Yteengkkbedijdaa.VL.RD
attribute [local irreducible] Run numB
theorem two_spec (q : View) (pa : Option Addr) (ca : Nat) (la : List OpT) (hqa : OpsQ q pa la) (hla : la.length ≤ 9223372036854775807) (pb : Option Addr) (cb : Nat) (lb : List OpT) (hqb : OpsQ q pb lb) (hlb : lb.length ≤ 9223372036854775807) :
    FnD Try.prog q 7 [.slice pa la.length ca, .slice pb lb.length cb] [] (.bool true) [] := by
  (first | refine FnD.go Try.call7 Try.func7 rfl rfl rfl ?_ | refine FnX.go Try.call7 Try.func7 rfl rfl rfl ?_)
  (repeat (first | refine g ?_))
  refine s_callx (ideal_new q) fun v => ?_
  (repeat (first | refine g ?_))
  refine s_callx (ideal_new q) fun v2 => ?_
  (repeat (first | refine g ?_))
  refine s_box fun w => ?_
  (repeat (first | refine g ?_))
  refine s_box fun w2 => ?_
  (repeat (first | refine g ?_))
  refine run_cutI (X := Unit) (fun _ => True) (fun _ => []) (fun _ => []) ?_ fun _ _ => ?_
  · refine run_loopI (X := Nat × VSt × VSt) (fun x => (x.1 ≤ 30) ∧ VOk x.1 x.2.1 ∧ VOk x.1 x.2.2) (fun x => [(0, .slice pa la.length ca), (1, .slice pb lb.length cb), (5, .pointer (some ⟨v, 0, none⟩)), (6, .pointer (some ⟨v2, 0, none⟩)), (7, .pointer (some ⟨w, 0, none⟩)), (8, .pointer (some ⟨w2, 0, none⟩)), (9, .int .i64 (x.1 : Int))])
      (fun x => [rAt w x.2.1, rAt w2 x.2.2, vaultAt v x.2.1, vaultAt v2 x.2.2]) (fun x => 30 - x.1) (0, ⟨[], [], []⟩, ⟨[], [], []⟩) ⟨Nat.zero_le _, k0 0, k0 0⟩ fct ?_ ?_
    · refine imp_r (ph := none) (ch := 0) (pm := none) (cm := 0) (pe := none) (ce := 0) ?_
      unfold rParts
      refine Imp.trans (?_ : Imp _ (star [rAt w2 ⟨[], [], []⟩, cells w 42 ⟨[.bool true, .string ⟨#[]⟩, .slice none 0 0, .slice none 0 0, .slice none 0 0]⟩, vaultAt v ⟨[], [], []⟩, vaultAt v2 ⟨[], [], []⟩])) shut
      refine imp_r (ph := none) (ch := 0) (pm := none) (cm := 0) (pe := none) (ce := 0) ?_
      unfold rParts
      exact shut
    intro ⟨i, s, t⟩ ⟨hi, hs, ht⟩
    dsimp only at *
    (repeat (first | refine g ?_))
    refine run_cond_dec rfl ?_ ?_
    · intro h1
      have nx : ∀ s' t', VOk (i + 1) s' → VOk (i + 1) t' → (((i + 1 ≤ 30) ∧ VOk (i + 1) s' ∧ VOk (i + 1) t') ∧ 30 - (i + 1) < 30 - i) := fun s' t' a b => ⟨⟨by omega, a, b⟩, by omega⟩
      by_cases ha : i < la.length
      · obtain ⟨ax, abs, aos, ahx, ahxo, aep, aho, ahxa, ahxl⟩ := hqa.at i ha
        subst aep
        (repeat (first | refine g ?_))
        refine s_idxo (kk := 6) (aos + i * 6) ?_
        refine s_loadao (j := i * 6) aho ahxa ahxl (by omega) ?_
        (repeat (first | refine g ?_))
        refine s_call (step_spec q v w s (hs.mono (by omega)) ax ahxo) ?_
        (repeat (first | refine g ?_))
        by_cases hb : i < lb.length
        · obtain ⟨bx, bbs, bos, bhx, bhxo, bep, bho, bhxa, bhxl⟩ := hqb.at i hb
          subst bep
          (repeat (first | refine g ?_))
          refine s_idxo (kk := 6) (bos + i * 6) ?_
          refine s_loadao (j := i * 6) bho bhxa bhxl (by omega) ?_
          (repeat (first | refine g ?_))
          refine s_call (step_spec q v2 w2 t (ht.mono (by omega)) bx bhxo) ?_
          (repeat (first | refine g ?_))
          exact run_stop_loop (i + 1, stepS s ax, stepS t bx) (nx _ _ (hs.step ax) (ht.step bx)) fct shut
        · (repeat (first | refine g ?_))
          exact run_stop_loop (i + 1, stepS s ax, t) (nx _ _ (hs.step ax) (ht.mono (by omega))) fct shut
      · by_cases hb : i < lb.length
        · obtain ⟨bx, bbs, bos, bhx, bhxo, bep, bho, bhxa, bhxl⟩ := hqb.at i hb
          subst bep
          (repeat (first | refine g ?_))
          refine s_idxo (kk := 6) (bos + i * 6) ?_
          refine s_loadao (j := i * 6) bho bhxa bhxl (by omega) ?_
          (repeat (first | refine g ?_))
          refine s_call (step_spec q v2 w2 t (ht.mono (by omega)) bx bhxo) ?_
          (repeat (first | refine g ?_))
          exact run_stop_loop (i + 1, s, stepS t bx) (nx _ _ (hs.mono (by omega)) (ht.step bx)) fct shut
        · (repeat (first | refine g ?_))
          exact run_stop_loop (i + 1, s, t) (nx _ _ (hs.mono (by omega)) (ht.mono (by omega))) fct shut
    · intro h1
      (repeat (first | refine g ?_))
      exact run_stop_loop () trivial fct shut
  · (repeat (first | refine g ?_))
    refine s_call (awake_spec q) ?_
    (repeat (first | refine g ?_))
    exact run_ret rfl (imp_RD rfl shut)
end Go.Proofs.Yteengkkbedijdaa.V
