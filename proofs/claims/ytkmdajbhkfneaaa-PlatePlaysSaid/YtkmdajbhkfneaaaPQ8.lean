/- The law PlatePlays. -/
import Derived.Test.YtkmdajbhkfneaaaPQ7
set_option maxRecDepth 10000
set_option linter.unusedVariables false
namespace Go.Proofs.Ytkmdajbhkfneaaa.V
open Go.Proofs.Ytkmdajbhkfneaaa.VL
attribute [local irreducible] Run
theorem both_blank (n : Nat) (hn : n ≤ 32768) : Both 0 (blank n) (qBlank n) := by
  have l1 : (List.replicate n zeros64).length = n := List.length_replicate
  refine ⟨blank_wf n hn, by show (n : Int) = ((List.replicate n zeros64).length : Int); rw [l1], ?_, rfl, rfl, rfl, rfl, rfl, by simp [blank], Int.le_refl 0, Int.le_refl 0, Nat.le_refl 0⟩
  show Kin (List.replicate n zeros64).length (List.replicate n ⟨#[]⟩, List.replicate n false) (List.replicate n zeros64, List.replicate n false)
  rw [l1]
  refine ⟨List.length_replicate, l1, List.length_replicate, rfl, fun j hj _ => ?_⟩
  show eff (List.replicate n ⟨#[]⟩) j = (List.replicate n zeros64).getD j ⟨#[]⟩
  unfold eff
  rw [List.getD_eq_getElem?_getD, List.getD_eq_getElem?_getD, List.getElem?_replicate, List.getElem?_replicate, if_pos hj, if_pos hj]
  rfl
theorem plays_spec (q : View) (n : Int) (sp : Option Addr) (sc : Nat) (l : List OpT) (hs : OpsQ q sp l) (hl : l.length ≤ 9223372036854775807) :
    FnD Try.prog q 8 [.int .i64 n, .slice sp l.length sc] [] (.bool true) [] := by
  (first | refine FnD.go Try.call8 Try.func8 rfl rfl rfl ?_ | refine FnX.go Try.call8 Try.func8 rfl rfl rfl ?_)
  (repeat (first | refine g ?_))
  by_cases hn : n < 0 ∨ 32768 < n
  · refine s_call (new_bad q n hn) ?_
    (repeat (first | refine g ?_))
    refine s_call (qnew_bad q n hn) ?_
    (repeat (first | refine g ?_))
    refine s_call (awake_spec q) ?_
    (repeat (first | refine g ?_))
    exact run_ret rfl (imp_RD rfl shut)
  · obtain ⟨m, rfl⟩ : ∃ m : Nat, n = m := ⟨n.toNat, by omega⟩
    refine s_callx (new_spec q m (by omega)) fun b => ?_
    (repeat (first | refine g ?_))
    refine s_callx (qnew_spec q m (by omega)) fun c => ?_
    by_cases h40 : 40 < m
    · (repeat (first | refine g ?_))
      refine s_call (awake_spec q) ?_
      (repeat (first | refine g ?_))
      exact run_ret rfl (imp_RD rfl shut)
    · (repeat (first | refine g ?_))
      have b0 := both_blank m (by omega)
      refine run_cutI (X := Nat × PSt × QSt) (fun x => Both 120 x.2.1 x.2.2) (fun x => [(5, .pointer (some ⟨x.1, 0, none⟩)), (7, .pointer (some ⟨c, 0, none⟩))]) (fun x => [plateAt x.1 x.2.1, qAt c x.2.2]) ?_ fun ⟨b1, s1, t1⟩ hB => ?_
      · refine run_loopI (X := Nat × Nat × PSt × QSt) (fun x => (x.1 ≤ l.length ∧ x.1 ≤ 120) ∧ Both x.1 x.2.2.1 x.2.2.2) (fun x => [(1, .slice sp l.length sc), (5, .pointer (some ⟨x.2.1, 0, none⟩)), (7, .pointer (some ⟨c, 0, none⟩)), (9, .int .i64 (x.1 : Int))])
          (fun x => [plateAt x.2.1 x.2.2.1, qAt c x.2.2.2]) (fun x => l.length - x.1) (0, b, blank m, qBlank m) ⟨⟨Nat.zero_le _, Nat.zero_le _⟩, b0⟩ fct shut ?_
        intro ⟨i, b1, s, t⟩ ⟨⟨hi, hi120⟩, hB⟩
        dsimp only at *
        (repeat (first | refine g ?_))
        refine run_split_dec rfl rfl rfl rfl rfl ?_ ?_
        · intro h1
          have h1' : i < l.length := by omega
          (repeat (first | refine g ?_))
          refine run_cond_dec rfl ?_ ?_
          · intro h2
            obtain ⟨x, hx⟩ : ∃ x, l[i]? = some x := ⟨_, List.getElem?_eq_getElem h1'⟩
            have hxo := hs.2 x (List.mem_of_getElem? hx)
            obtain ⟨bs, os, ep, ho⟩ := hs.1.old (by omega)
            subst ep
            have hx0 := enc5 l i x hx 0 (by omega)
            have hxa := enc5_all l i x hx
            have hxl := enc5_len l
            (repeat (first | refine g ?_))
            refine s_idxo (kk := 5) (os + i * 5) ?_
            (repeat (first | refine g ?_))
            refine s_loado (j := i * 5) ho hx0 ?_
            (repeat (first | refine g ?_))
            refine run_cuti (X := Nat) (fun _ => True) (fun b1 => [(1, .slice (some ⟨bs, os, none⟩) l.length sc), (5, .pointer (some ⟨b1, 0, none⟩)), (7, .pointer (some ⟨c, 0, none⟩)), (9, .int .i64 (i : Int))]) (fun b1 => [plateAt b1 s, qAt c t]) ?_ fun b2 _ => ?_
            · refine run_cond_dec rfl ?_ ?_
              · intro h3
                have L := (hB.lay 0 (bytesF 7 64)).2
                have M := (L.write 0 (bytesF 8 64) (by omega)).2
                (repeat (first | refine g ?_))
                refine s_callx (copy_spec q b1 s hB.wf) fun b2 => ?_
                (repeat (first | refine g ?_))
                refine s_call (bytes_spec q 7 64 (by omega) (by omega) (by omega)) ?_
                (repeat (first | refine g ?_))
                refine s_call (lay_spec q b1 s hB.wf 0 (bytesF 7 64)) ?_
                (repeat (first | refine g ?_))
                refine s_call (bytes_spec q 8 64 (by omega) (by omega) (by omega)) ?_
                (repeat (first | refine g ?_))
                refine s_call (write_spec q b1 _ L.wf 0 (bytesF 8 64)) ?_
                (repeat (first | refine g ?_))
                refine s_call (spoil_spec q b1 _ M.wf 1) ?_
                (repeat (first | refine g ?_))
                exact run_stop_loop b2 trivial fct shut
              · intro h3
                (repeat (first | refine g ?_))
                exact run_stop_loop b1 trivial fct shut
            · (repeat (first | refine g ?_))
              refine s_idxo (kk := 5) (os + i * 5) ?_
              refine s_loadao (j := i * 5) ho hxa (by rw [hxl]; omega) (by omega) ?_
              (repeat (first | refine g ?_))
              refine s_call (step_spec q b2 c s t i hB (by omega) x hxo) ?_
              (repeat (first | refine g ?_))
              exact run_stop_loop (i + 1, b2, stepS s x, stepT t x) ⟨⟨⟨h1', by omega⟩, hB.step x hxo.at1 (by omega)⟩, by omega⟩ fct shut
          · intro h2
            (repeat (first | refine g ?_))
            exact run_stop_loop (b1, s, t) (hB.mono hi120) fct shut
        · intro h1
          (repeat (first | refine g ?_))
          exact run_stop_loop (b1, s, t) (hB.mono hi120) fct shut
      · dsimp only at *
        (repeat (first | refine g ?_))
        refine s_call (stands_spec q b1 c s1 t1 120 hB) ?_
        (repeat (first | refine g ?_))
        refine s_call (awake_spec q) ?_
        (repeat (first | refine g ?_))
        exact run_ret rfl (imp_RD rfl shut)
end Go.Proofs.Ytkmdajbhkfneaaa.V
