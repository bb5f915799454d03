/- The law PlateCopies. -/
import Derived.Test.YtkmdajbhkfneaaaPQ8
set_option maxRecDepth 10000
set_option linter.unusedVariables false
namespace Go.Proofs.Ytkmdajbhkfneaaa.V
open Go.Proofs.Ytkmdajbhkfneaaa.VL
attribute [local irreducible] Run
theorem OpsQ.at {q : View} {p : Option Addr} {l : List OpT} (h : OpsQ q p l) (i : Nat) (hi : i < l.length) : ∃ x b o, l[i]? = some x ∧ OpOk q x ∧ p = some ⟨b, o, none⟩ ∧ Old q b o (l.flatMap encOp) ∧ ((l.flatMap encOp).drop (i * 5)).take 5 = encOp x ∧ i * 5 + 5 ≤ (l.flatMap encOp).length := by
  obtain ⟨x, hx⟩ : ∃ x, l[i]? = some x := ⟨_, List.getElem?_eq_getElem hi⟩
  obtain ⟨b, o, ep, ho⟩ := h.1.old (by omega)
  exact ⟨x, b, o, hx, h.2 x (List.mem_of_getElem? hx), ep, ho, enc5_all l i x hx, by rw [enc5_len]; omega⟩
theorem copies_spec (q : View) (n : Int) (p1 : Option Addr) (c1 : Nat) (l1 : List OpT) (h1 : OpsQ q p1 l1) (z1 : l1.length ≤ 9223372036854775807) (p2 : Option Addr) (c2 : Nat) (l2 : List OpT) (h2 : OpsQ q p2 l2) (z2 : l2.length ≤ 9223372036854775807) (p3 : Option Addr) (c3 : Nat) (l3 : List OpT) (h3 : OpsQ q p3 l3) (z3 : l3.length ≤ 9223372036854775807) :
    FnD Try.prog q 9 [.int .i64 n, .slice p1 l1.length c1, .slice p2 l2.length c2, .slice p3 l3.length c3] [] (.bool true) [] := by
  (first | refine FnD.go Try.call9 Try.func9 rfl rfl rfl ?_ | refine FnX.go Try.call9 Try.func9 rfl rfl rfl ?_)
  (repeat (first | refine g ?_))
  by_cases hn : n < 0 ∨ 32768 < n
  · refine s_call (new_bad q n hn) ?_
    (repeat (first | refine g ?_))
    refine s_call (qnew_bad q n hn) ?_
    (repeat (first | refine g ?_))
    refine s_call (awake_spec q) ?_
    (repeat (first | refine g ?_))
    exact run_ret rfl (imp_RD rfl shut)
  obtain ⟨m, rfl⟩ : ∃ m : Nat, n = m := ⟨n.toNat, by omega⟩
  refine s_callx (new_spec q m (by omega)) fun b => ?_
  (repeat (first | refine g ?_))
  refine s_callx (qnew_spec q m (by omega)) fun c => ?_
  by_cases h40 : 20 < m
  · (repeat (first | refine g ?_))
    refine s_call (awake_spec q) ?_
    (repeat (first | refine g ?_))
    exact run_ret rfl (imp_RD rfl shut)
  (repeat (first | refine g ?_))
  have b0 := both_blank m (by omega)
  refine run_cutI (X := PSt × QSt) (fun x => Both 40 x.1 x.2) (fun x => [(2, .slice p2 l2.length c2), (3, .slice p3 l3.length c3), (9, .pointer (some ⟨b, 0, none⟩)), (11, .pointer (some ⟨c, 0, none⟩))]) (fun x => [plateAt b x.1, qAt c x.2]) ?_ fun ⟨s1, t1⟩ hB => ?_
  · refine run_loopI (X := Nat × PSt × QSt) (fun x => (x.1 ≤ l1.length ∧ x.1 ≤ 40) ∧ Both x.1 x.2.1 x.2.2) (fun x => [(1, .slice p1 l1.length c1), (2, .slice p2 l2.length c2), (3, .slice p3 l3.length c3), (9, .pointer (some ⟨b, 0, none⟩)), (11, .pointer (some ⟨c, 0, none⟩)), (13, .int .i64 (x.1 : Int))])
      (fun x => [plateAt b x.2.1, qAt c x.2.2]) (fun x => l1.length - x.1) (0, blank m, qBlank m) ⟨⟨Nat.zero_le _, Nat.zero_le _⟩, b0⟩ fct shut ?_
    intro ⟨i, s, t⟩ ⟨⟨hi, hi120⟩, hB⟩
    dsimp only at *
    (repeat (first | refine g ?_))
    refine run_split_dec rfl rfl rfl rfl rfl ?_ ?_
    · intro h4
      (repeat (first | refine g ?_))
      refine run_cond_dec rfl ?_ ?_
      · intro h5
        obtain ⟨x, bs, os, _, hxo, ep, ho, hxa, hxl⟩ := h1.at i (by omega)
        subst ep
        (repeat (first | refine g ?_))
        refine s_idxo (kk := 5) (os + i * 5) ?_
        refine s_loadao (j := i * 5) ho hxa hxl (by omega) ?_
        (repeat (first | refine g ?_))
        refine s_call (step_spec q b c s t i hB (by omega) x hxo) ?_
        (repeat (first | refine g ?_))
        exact run_stop_loop (i + 1, stepS s x, stepT t x) ⟨⟨⟨by omega, by omega⟩, hB.step x hxo.at1 (by omega)⟩, by omega⟩ fct shut
      · intro h5
        (repeat (first | refine g ?_))
        exact run_stop_loop (s, t) (hB.mono hi120) fct shut
    · intro h4
      (repeat (first | refine g ?_))
      exact run_stop_loop (s, t) (hB.mono hi120) fct shut
  dsimp only at *
  (repeat (first | refine g ?_))
  refine s_callx (copy_spec q b s1 hB.wf) fun b' => ?_
  (repeat (first | refine g ?_))
  refine s_callx (qcopy_spec q c t1 hB.qw) fun c' => ?_
  (repeat (first | refine g ?_))
  refine run_cutI (X := PSt × QSt × PSt × QSt) (fun x => Both 80 x.1 x.2.1 ∧ Both 80 x.2.2.1 x.2.2.2) (fun x => [(9, .pointer (some ⟨b, 0, none⟩)), (11, .pointer (some ⟨c, 0, none⟩)), (14, .pointer (some ⟨b', 0, none⟩)), (15, .pointer (some ⟨c', 0, none⟩))])
    (fun x => [plateAt b x.1, qAt c x.2.1, plateAt b' x.2.2.1, qAt c' x.2.2.2]) ?_ fun ⟨s2, t2, s3, t3⟩ hB => ?_
  · refine run_loopI (X := Nat × PSt × QSt × PSt × QSt) (fun x => x.1 ≤ 40 ∧ Both (40 + x.1) x.2.1 x.2.2.1 ∧ Both (40 + x.1) x.2.2.2.1 x.2.2.2.2) (fun x => [(2, .slice p2 l2.length c2), (3, .slice p3 l3.length c3), (9, .pointer (some ⟨b, 0, none⟩)), (11, .pointer (some ⟨c, 0, none⟩)), (14, .pointer (some ⟨b', 0, none⟩)), (15, .pointer (some ⟨c', 0, none⟩)), (16, .int .i64 (x.1 : Int))])
      (fun x => [plateAt b x.2.1, qAt c x.2.2.1, plateAt b' x.2.2.2.1, qAt c' x.2.2.2.2]) (fun x => 40 - x.1) (0, s1, t1, s1, t1) ⟨Nat.zero_le _, hB, hB⟩ fct shut ?_
    intro ⟨i, s, t, s', t'⟩ ⟨hi, hB1, hB2⟩
    dsimp only at *
    have m1 := hB1.mono (Nat.le_succ _)
    have m2 := hB2.mono (Nat.le_succ _)
    (repeat (first | refine g ?_))
    refine run_cond_dec rfl ?_ ?_
    · intro h4
      by_cases e2 : i < l2.length
      · by_cases e3 : i < l3.length
        · have _ := h4
          obtain ⟨x, bs, os, _, hxo, ep, ho, hxa, hxl⟩ := h2.at i (by omega)
          subst ep
          (repeat (first | refine g ?_))
          refine s_idxo (kk := 5) (os + i * 5) ?_
          refine s_loadao (j := i * 5) ho hxa hxl (by omega) ?_
          (repeat (first | refine g ?_))
          refine s_call (step_spec q b c s t _ hB1 (by omega) x hxo) ?_
          obtain ⟨y, bt, ot, _, hyo, ep, hoo, hya, hyl⟩ := h3.at i (by omega)
          subst ep
          (repeat (first | refine g ?_))
          refine s_idxo (kk := 5) (ot + i * 5) ?_
          refine s_loadao (j := i * 5) hoo hya hyl (by omega) ?_
          (repeat (first | refine g ?_))
          refine s_call (step_spec q b' c' s' t' _ hB2 (by omega) y hyo) ?_
          (repeat (first | refine g ?_))
          exact run_stop_loop (i + 1, stepS s x, stepT t x, stepS s' y, stepT t' y) ⟨⟨by omega, hB1.step x hxo.at1 (by omega), hB2.step y hyo.at1 (by omega)⟩, by omega⟩ fct shut
        · have _ := h4
          obtain ⟨x, bs, os, _, hxo, ep, ho, hxa, hxl⟩ := h2.at i (by omega)
          subst ep
          (repeat (first | refine g ?_))
          refine s_idxo (kk := 5) (os + i * 5) ?_
          refine s_loadao (j := i * 5) ho hxa hxl (by omega) ?_
          (repeat (first | refine g ?_))
          refine s_call (step_spec q b c s t _ hB1 (by omega) x hxo) ?_
          (repeat (first | refine g ?_))
          exact run_stop_loop (i + 1, stepS s x, stepT t x, s', t') ⟨⟨by omega, hB1.step x hxo.at1 (by omega), m2⟩, by omega⟩ fct shut
      · by_cases e3 : i < l3.length
        · have _ := h4
          obtain ⟨y, bt, ot, _, hyo, ep, hoo, hya, hyl⟩ := h3.at i (by omega)
          subst ep
          (repeat (first | refine g ?_))
          refine s_idxo (kk := 5) (ot + i * 5) ?_
          refine s_loadao (j := i * 5) hoo hya hyl (by omega) ?_
          (repeat (first | refine g ?_))
          refine s_call (step_spec q b' c' s' t' _ hB2 (by omega) y hyo) ?_
          (repeat (first | refine g ?_))
          exact run_stop_loop (i + 1, s, t, stepS s' y, stepT t' y) ⟨⟨by omega, m1, hB2.step y hyo.at1 (by omega)⟩, by omega⟩ fct shut
        · (repeat (first | refine g ?_))
          exact run_stop_loop (i + 1, s, t, s', t') ⟨⟨by omega, m1, m2⟩, by omega⟩ fct shut
    · intro h4
      (repeat (first | refine g ?_))
      exact run_stop_loop (s, t, s', t') ⟨hB1.mono (by omega), hB2.mono (by omega)⟩ fct shut
  dsimp only at *
  (repeat (first | refine g ?_))
  refine s_call (stands_spec q b c s2 t2 80 hB.1) ?_
  (repeat (first | refine g ?_))
  refine s_call (stands_spec q b' c' s3 t3 80 hB.2) ?_
  (repeat (first | refine g ?_))
  refine s_call (awake_spec q) ?_
  (repeat (first | refine g ?_))
  exact run_ret rfl (imp_RD rfl shut)
end Go.Proofs.Ytkmdajbhkfneaaa.V
