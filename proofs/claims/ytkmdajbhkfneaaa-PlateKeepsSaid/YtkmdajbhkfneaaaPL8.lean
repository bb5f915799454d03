/- The law PlateKeeps. -/
import Derived.Test.YtkmdajbhkfneaaaPL7
set_option maxRecDepth 10000
set_option linter.unusedVariables false
namespace Go.Proofs.Ytkmdajbhkfneaaa.V
open Go.Proofs.Ytkmdajbhkfneaaa.VL
attribute [local irreducible] Run
theorem keeps_spec (q : View) (n : Int) (sp : Option Addr) (sc : Nat) (l : List OpT) (hs : OpsQ q sp l) (kp : Option Addr) (kc : Nat) (ks : List Bool) (hk : RowQ q kp ks.length 1 (ks.map Value.bool)) (hl : l.length ≤ 9223372036854775807) :
    FnD Try.prog q 4 [.int .i64 n, .slice sp l.length sc, .slice kp ks.length kc] [] (.bool true) [] := by
  (first | refine FnD.go Try.call4 Try.func4 rfl rfl rfl ?_ | refine FnX.go Try.call4 Try.func4 rfl rfl rfl ?_)
  (repeat (first | refine g ?_))
  by_cases hn : n < 0 ∨ 32768 < n
  · refine s_call (new_bad q n hn) ?_
    (repeat (first | refine g ?_))
    refine s_call (awake_spec q) ?_
    (repeat (first | refine g ?_))
    exact run_ret rfl (imp_RD rfl shut)
  · obtain ⟨m, rfl⟩ : ∃ m : Nat, n = m := ⟨n.toNat, by omega⟩
    refine s_callx (new_spec q m (by omega)) fun b => ?_
    by_cases h40 : 40 < m
    · (repeat (first | refine g ?_))
      refine s_call (awake_spec q) ?_
      (repeat (first | refine g ?_))
      exact run_ret rfl (imp_RD rfl shut)
    · (repeat (first | refine g ?_))
      have w0 : WF (blank m) := blank_wf m (by omega)
      refine run_cutI (X := PSt) (fun s => Like (blank m) s 60) (fun s => [(0, .int .i64 (m : Int)), (1, .slice sp l.length sc), (2, .slice kp ks.length kc), (7, .pointer (some ⟨b, 0, none⟩))]) (fun s => [plateAt b s]) ?_ fun s0 hs0 => ?_
      · refine run_loopI (X := Nat × PSt) (fun x => (x.1 ≤ l.length ∧ x.1 ≤ 60) ∧ Like (blank m) x.2 x.1) (fun x => [(0, .int .i64 (m : Int)), (1, .slice sp l.length sc), (2, .slice kp ks.length kc), (7, .pointer (some ⟨b, 0, none⟩)), (9, .int .i64 (x.1 : Int))])
          (fun x => [plateAt b x.2]) (fun x => l.length - x.1) (0, blank m) ⟨⟨Nat.zero_le _, Nat.zero_le _⟩, ⟨w0, rfl, rfl, rfl, rfl, rfl, rfl, by show (0 : Int) ≤ 0 + ((0 : Nat) : Int); omega, Nat.le_refl _⟩⟩ fct shut ?_
        intro ⟨i, s⟩ ⟨⟨hi, hi60⟩, hL⟩
        dsimp only at *
        have out : Like (blank m) s 60 := hL.mono hi60
        (repeat (first | refine g ?_))
        refine run_split_dec rfl rfl rfl rfl rfl ?_ ?_
        · intro h1
          have h1' : i < l.length := by omega
          (repeat (first | refine g ?_))
          refine run_cond_dec rfl ?_ ?_
          · intro h2
            obtain ⟨x, hx⟩ : ∃ x, l[i]? = some x := ⟨_, List.getElem?_eq_getElem h1'⟩
            have hxo := hs.2 x (List.mem_of_getElem? hx)
            obtain ⟨bs, os, ep, ho⟩ := hs.1.old (by omega)
            subst ep
            have hx1 := enc5 l i x hx 1 (by omega)
            have hx3 := enc5 l i x hx 3 (by omega)
            (repeat (first | refine g ?_))
            refine d_start [plateAt b s] ?_
            (first | refine d_pure 0 ?_ | refine d_load 0 ?_ | refine d_arith 0 ?_ | refine d_rem 0 ?_ | refine d_quo 0 ?_ | refine d_fieldat 0 ?_ | refine d_idx1 0 ?_ | refine d_index 0 ?_ | refine d_conv64 0 ?_ | refine d_slices 0 ?_ | refine d_concat 0 ?_ | refine d_build 0 ?_)
            (first | refine d_pure 1 ?_ | refine d_load 1 ?_ | refine d_arith 1 ?_ | refine d_rem 1 ?_ | refine d_quo 1 ?_ | refine d_fieldat 1 ?_ | refine d_idx1 1 ?_ | refine d_index 1 ?_ | refine d_conv64 1 ?_ | refine d_slices 1 ?_ | refine d_concat 1 ?_ | refine d_build 1 ?_)
            (first | refine d_pure 2 ?_ | refine d_load 2 ?_ | refine d_arith 2 ?_ | refine d_rem 2 ?_ | refine d_quo 2 ?_ | refine d_fieldat 2 ?_ | refine d_idx1 2 ?_ | refine d_index 2 ?_ | refine d_conv64 2 ?_ | refine d_slices 2 ?_ | refine d_concat 2 ?_ | refine d_build 2 ?_)
            refine d_idxo 3 (kk := 5) (os + i * 5) ?_
            (first | refine d_pure 4 ?_ | refine d_load 4 ?_ | refine d_arith 4 ?_ | refine d_rem 4 ?_ | refine d_quo 4 ?_ | refine d_fieldat 4 ?_ | refine d_idx1 4 ?_ | refine d_index 4 ?_ | refine d_conv64 4 ?_ | refine d_slices 4 ?_ | refine d_concat 4 ?_ | refine d_build 4 ?_)
            refine d_loado 5 (j := i * 5 + 1) ho hx1 ?_
            (first | refine d_pure 6 ?_ | refine d_load 6 ?_ | refine d_arith 6 ?_ | refine d_rem 6 ?_ | refine d_quo 6 ?_ | refine d_fieldat 6 ?_ | refine d_idx1 6 ?_ | refine d_index 6 ?_ | refine d_conv64 6 ?_ | refine d_slices 6 ?_ | refine d_concat 6 ?_ | refine d_build 6 ?_)
            (first | refine d_pure 7 ?_ | refine d_load 7 ?_ | refine d_arith 7 ?_ | refine d_rem 7 ?_ | refine d_quo 7 ?_ | refine d_fieldat 7 ?_ | refine d_idx1 7 ?_ | refine d_index 7 ?_ | refine d_conv64 7 ?_ | refine d_slices 7 ?_ | refine d_concat 7 ?_ | refine d_build 7 ?_)
            refine d_idxo 8 (kk := 5) (os + i * 5) ?_
            (first | refine d_pure 9 ?_ | refine d_load 9 ?_ | refine d_arith 9 ?_ | refine d_rem 9 ?_ | refine d_quo 9 ?_ | refine d_fieldat 9 ?_ | refine d_idx1 9 ?_ | refine d_index 9 ?_ | refine d_conv64 9 ?_ | refine d_slices 9 ?_ | refine d_concat 9 ?_ | refine d_build 9 ?_)
            refine d_loado 10 (j := i * 5 + 3) ho hx3 ?_
            refine d_call 11 (bytes_spec q x.v 64 hxo.v0 hxo.v1 (by omega)) ?_
            refine d_call 12 (write_spec q b s hL.wf x.at_ (bytesF x.v 64)) ?_
            refine d_done ?_
            (repeat (first | refine g ?_))
            exact run_stop_loop (i + 1, (writeF s x.at_ (bytesF x.v 64)).2) ⟨⟨⟨h1', by omega⟩, hL.write _ _ (bytesF_size _ _) (by omega) (by show 0 ≤ (0 : Int) ∧ (0 : Int) ≤ 1000000; omega)⟩, by omega⟩ fct shut
          · intro h2
            (repeat (first | refine g ?_))
            exact run_stop_loop s out fct shut
        · intro h1
          (repeat (first | refine g ?_))
          exact run_stop_loop s out fct shut
      · (repeat (first | refine g ?_))
        refine s_call (flush_spec q b s0 hs0.wf) ?_
        (repeat (first | refine g ?_))
        obtain ⟨s1, e1⟩ : ∃ s1, s1 = flushF s0 := ⟨_, rfl⟩
        have hw1 : WF s1 := e1 ▸ flush_wf s0 hs0.wf
        have hf1 : flushF s0 = { s0 with held := (s0.cache.foldl keepH (s0.held, s0.dumb)).1, dumb := (s0.cache.foldl keepH (s0.held, s0.dumb)).2, cache := [] } := by unfold flushF; rw [hs0.down]; rfl
        have hsec : s1.sectors = m := by rw [e1, hf1]; exact hs0.sec
        have hdn : s1.down = false := by rw [e1, hf1]; exact hs0.down
        have hfu : s1.fuse = -1 := by rw [e1, hf1]; exact hs0.fuse
        have hre : s1.reads = 0 := by rw [e1, hf1]; exact hs0.reads
        have hwr : s1.writes ≤ 60 := by rw [e1, hf1]; have := hs0.writes; exact this
        have hca : s1.cache = [] := by rw [e1, hf1]
        have hdu : ∀ j, s1.dumb.getD j false = false := by
          rw [e1, hf1]
          intro j
          exact foldH_dumb _ _ (fun j => by rw [hs0.dumb]; show (List.replicate m false).getD j false = false; rw [List.getD_eq_getElem?_getD, List.getElem?_replicate]; split <;> rfl) j
        rw [← e1]
        clear e1 hf1 hs0 w0
        refine run_cutI (X := Option Addr × Nat) (fun x => True) (fun x => [(0, .int .i64 (m : Int)), (1, .slice sp l.length sc), (2, .slice kp ks.length kc), (7, .pointer (some ⟨b, 0, none⟩)), (10, .slice x.1 m x.2)]) (fun x => [plateAt b s1, sl x.1 m x.2 9 1 ((List.range m).map fun j : Nat => .string (heldF s1 j).1)]) ?_ fun ⟨wp, wc⟩ _ => ?_
        · refine run_loopI (X := Nat × Option Addr × Nat) (fun x => x.1 ≤ m) (fun x => [(0, .int .i64 (m : Int)), (1, .slice sp l.length sc), (2, .slice kp ks.length kc), (7, .pointer (some ⟨b, 0, none⟩)), (10, .slice x.2.1 x.1 x.2.2), (11, .int .i64 (x.1 : Int))]) (fun x => [plateAt b s1, sl x.2.1 x.1 x.2.2 9 1 ((List.range x.1).map fun j : Nat => .string (heldF s1 j).1)]) (fun x => m - x.1) (0, none, 0) (Nat.zero_le _) fct shut ?_
          intro ⟨i, p, c⟩ hi
          dsimp only at *
          (repeat (first | refine g ?_))
          refine run_cond_dec rfl ?_ ?_
          · intro h1
            (repeat (first | refine g ?_))
            refine s_call (held_spec q b s1 hw1 i) ?_
            (repeat (first | refine g ?_))
            refine s_built fun r => ?_
            (repeat (first | refine g ?_))
            refine s_app 1 16 (reads_own At.head rfl) (hxl := by simp) fun r2 => ?_
            (repeat (first | refine g ?_))
            refine run_stop_loop (i + 1, r2) ⟨by omega, by dsimp only; omega⟩ fct ?_
            dsimp only
            rw [List.range_succ, List.map_append]
            exact shut
          · intro h1
            obtain rfl : i = m := by omega
            (repeat (first | refine g ?_))
            exact run_stop_loop (p, c) trivial fct shut
        · (repeat (first | refine g ?_))
          refine s_made 1 m m fun rw => ?_
          rw [zeroL_one _ rfl]
          (repeat (first | refine g ?_))
          refine run_cutI (X := PSt × List Bool) (fun x => Like s1 x.1 60 ∧ x.2.length = m ∧ ∀ y ∈ x.1.cache, x.2.getD y.1.toNat false = true) (fun x => [(0, .int .i64 (m : Int)), (2, .slice kp ks.length kc), (7, .pointer (some ⟨b, 0, none⟩)), (10, .slice wp m wc), (14, .slice (some ⟨rw, 0, none⟩) m m)])
            (fun x => [plateAt b x.1, sl wp m wc 9 1 ((List.range m).map fun j : Nat => .string (heldF s1 j).1), cells rw 4 ⟨x.2.map Value.bool⟩]) ?_ fun ⟨s2, wr⟩ ⟨hL, hwl, hwc⟩ => ?_
          · refine run_loopI (X := Nat × PSt × List Bool) (fun x => (x.1 ≤ l.length ∧ x.1 ≤ 60) ∧ Like s1 x.2.1 x.1 ∧ x.2.2.length = m ∧ ∀ y ∈ x.2.1.cache, x.2.2.getD y.1.toNat false = true) (fun x => [(0, .int .i64 (m : Int)), (1, .slice sp l.length sc), (2, .slice kp ks.length kc), (7, .pointer (some ⟨b, 0, none⟩)), (10, .slice wp m wc), (14, .slice (some ⟨rw, 0, none⟩) m m), (15, .int .i64 (x.1 : Int))])
              (fun x => [plateAt b x.2.1, sl wp m wc 9 1 ((List.range m).map fun j : Nat => .string (heldF s1 j).1), cells rw 4 ⟨x.2.2.map Value.bool⟩]) (fun x => l.length - x.1) (0, s1, List.replicate m false) ⟨⟨Nat.zero_le _, Nat.zero_le _⟩, ⟨hw1, rfl, rfl, rfl, hdn, hfu, rfl, by show s1.writes ≤ s1.writes + ((0 : Nat) : Int); omega, by rw [hca]; exact Nat.le_refl _⟩, by simp, by rw [hca]; simp⟩ fct (by rw [List.map_replicate]; exact shut) ?_
            intro ⟨i, s, wr⟩ ⟨⟨hi, hi60⟩, hL, hwl, hwc⟩
            dsimp only at *
            have out : Like s1 s 60 := hL.mono hi60
            (repeat (first | refine g ?_))
            refine run_split_dec rfl rfl rfl rfl rfl ?_ ?_
            · intro h1
              have h1' : i < l.length := by omega
              (repeat (first | refine g ?_))
              refine run_cond_dec rfl ?_ ?_
              · intro h2
                obtain ⟨x, hx⟩ : ∃ x, l[i]? = some x := ⟨_, List.getElem?_eq_getElem h1'⟩
                have hxo := hs.2 x (List.mem_of_getElem? hx)
                obtain ⟨bs, os, ep, ho⟩ := hs.1.old (by omega)
                subst ep
                have hx1 := enc5 l i x hx 1 (by omega)
                have hx3 := enc5 l i x hx 3 (by omega)
                (repeat (first | refine g ?_))
                by_cases he : (i : Int) % 2 = 0
                · have hv := wrap8 (x.v + 1)
                  refine d_start [plateAt b s] ?_
                  (first | refine d_pure 0 ?_ | refine d_load 0 ?_ | refine d_arith 0 ?_ | refine d_rem 0 ?_ | refine d_quo 0 ?_ | refine d_fieldat 0 ?_ | refine d_idx1 0 ?_ | refine d_index 0 ?_ | refine d_conv64 0 ?_ | refine d_slices 0 ?_ | refine d_concat 0 ?_ | refine d_build 0 ?_)
                  (first | refine d_pure 1 ?_ | refine d_load 1 ?_ | refine d_arith 1 ?_ | refine d_rem 1 ?_ | refine d_quo 1 ?_ | refine d_fieldat 1 ?_ | refine d_idx1 1 ?_ | refine d_index 1 ?_ | refine d_conv64 1 ?_ | refine d_slices 1 ?_ | refine d_concat 1 ?_ | refine d_build 1 ?_)
                  (first | refine d_pure 2 ?_ | refine d_load 2 ?_ | refine d_arith 2 ?_ | refine d_rem 2 ?_ | refine d_quo 2 ?_ | refine d_fieldat 2 ?_ | refine d_idx1 2 ?_ | refine d_index 2 ?_ | refine d_conv64 2 ?_ | refine d_slices 2 ?_ | refine d_concat 2 ?_ | refine d_build 2 ?_)
                  (refine d_pure 3 ?_); refine a_split_dec (t := 88) rfl rfl rfl (fun _ => ?_) (fun h => absurd he h)
                  (first | refine d_pure 4 ?_ | refine d_load 4 ?_ | refine d_arith 4 ?_ | refine d_rem 4 ?_ | refine d_quo 4 ?_ | refine d_fieldat 4 ?_ | refine d_idx1 4 ?_ | refine d_index 4 ?_ | refine d_conv64 4 ?_ | refine d_slices 4 ?_ | refine d_concat 4 ?_ | refine d_build 4 ?_)
                  (first | refine d_pure 5 ?_ | refine d_load 5 ?_ | refine d_arith 5 ?_ | refine d_rem 5 ?_ | refine d_quo 5 ?_ | refine d_fieldat 5 ?_ | refine d_idx1 5 ?_ | refine d_index 5 ?_ | refine d_conv64 5 ?_ | refine d_slices 5 ?_ | refine d_concat 5 ?_ | refine d_build 5 ?_)
                  (first | refine d_pure 6 ?_ | refine d_load 6 ?_ | refine d_arith 6 ?_ | refine d_rem 6 ?_ | refine d_quo 6 ?_ | refine d_fieldat 6 ?_ | refine d_idx1 6 ?_ | refine d_index 6 ?_ | refine d_conv64 6 ?_ | refine d_slices 6 ?_ | refine d_concat 6 ?_ | refine d_build 6 ?_)
                  refine d_idxo 7 (kk := 5) (os + i * 5) ?_
                  (first | refine d_pure 8 ?_ | refine d_load 8 ?_ | refine d_arith 8 ?_ | refine d_rem 8 ?_ | refine d_quo 8 ?_ | refine d_fieldat 8 ?_ | refine d_idx1 8 ?_ | refine d_index 8 ?_ | refine d_conv64 8 ?_ | refine d_slices 8 ?_ | refine d_concat 8 ?_ | refine d_build 8 ?_)
                  refine d_loado 9 (j := i * 5 + 1) ho hx1 ?_
                  (first | refine d_pure 10 ?_ | refine d_load 10 ?_ | refine d_arith 10 ?_ | refine d_rem 10 ?_ | refine d_quo 10 ?_ | refine d_fieldat 10 ?_ | refine d_idx1 10 ?_ | refine d_index 10 ?_ | refine d_conv64 10 ?_ | refine d_slices 10 ?_ | refine d_concat 10 ?_ | refine d_build 10 ?_)
                  (first | refine d_pure 11 ?_ | refine d_load 11 ?_ | refine d_arith 11 ?_ | refine d_rem 11 ?_ | refine d_quo 11 ?_ | refine d_fieldat 11 ?_ | refine d_idx1 11 ?_ | refine d_index 11 ?_ | refine d_conv64 11 ?_ | refine d_slices 11 ?_ | refine d_concat 11 ?_ | refine d_build 11 ?_)
                  refine d_idxo 12 (kk := 5) (os + i * 5) ?_
                  (first | refine d_pure 13 ?_ | refine d_load 13 ?_ | refine d_arith 13 ?_ | refine d_rem 13 ?_ | refine d_quo 13 ?_ | refine d_fieldat 13 ?_ | refine d_idx1 13 ?_ | refine d_index 13 ?_ | refine d_conv64 13 ?_ | refine d_slices 13 ?_ | refine d_concat 13 ?_ | refine d_build 13 ?_)
                  refine d_loado 14 (j := i * 5 + 3) ho hx3 ?_
                  (first | refine d_pure 15 ?_ | refine d_load 15 ?_ | refine d_arith 15 ?_ | refine d_rem 15 ?_ | refine d_quo 15 ?_ | refine d_fieldat 15 ?_ | refine d_idx1 15 ?_ | refine d_index 15 ?_ | refine d_conv64 15 ?_ | refine d_slices 15 ?_ | refine d_concat 15 ?_ | refine d_build 15 ?_)
                  refine d_call 16 (bytes_spec q (IntKind.u8.wrap (x.v + 1)) 64 hv.1 hv.2 (by omega)) ?_
                  refine d_call 17 (write_spec q b s hL.wf x.at_ (bytesF (IntKind.u8.wrap (x.v + 1)) 64)) ?_
                  (first | refine d_pure 18 ?_ | refine d_load 18 ?_ | refine d_arith 18 ?_ | refine d_rem 18 ?_ | refine d_quo 18 ?_ | refine d_fieldat 18 ?_ | refine d_idx1 18 ?_ | refine d_index 18 ?_ | refine d_conv64 18 ?_ | refine d_slices 18 ?_ | refine d_concat 18 ?_ | refine d_build 18 ?_)
                  (first | refine d_pure 19 ?_ | refine d_load 19 ?_ | refine d_arith 19 ?_ | refine d_rem 19 ?_ | refine d_quo 19 ?_ | refine d_fieldat 19 ?_ | refine d_idx1 19 ?_ | refine d_index 19 ?_ | refine d_conv64 19 ?_ | refine d_slices 19 ?_ | refine d_concat 19 ?_ | refine d_build 19 ?_)
                  refine d_done ?_
                  have hLn := hL.write x.at_ (bytesF (IntKind.u8.wrap (x.v + 1)) 64) (bytesF_size _ _) (by omega) ⟨hw1.writes.1, by omega⟩
                  have hwe := write_like s x.at_ (bytesF (IntKind.u8.wrap (x.v + 1)) 64) (bytesF_size _ _) hL.down hL.fuse
                  have hse := hL.sec
                  (repeat (first | refine g ?_))
                  refine run_cond_dec rfl ?_ ?_
                  · intro h3
                    by_cases hin : x.at_ < 0 ∨ s.sectors ≤ x.at_
                    · rw [if_pos hin] at hwe
                      rw [hwe] at h3
                      exact absurd h3 (show ¬ (2 : Int) = 0 by decide)
                    · rw [if_neg hin] at hwe
                      (repeat (first | refine g ?_))
                      refine s_idxo (kk := 5) (os + i * 5) ?_
                      (repeat (first | refine g ?_))
                      refine s_loado (j := i * 5 + 1) ho hx1 ?_
                      (repeat (first | refine g ?_))
                      refine s_storeset ?_
                      (repeat (first | refine g ?_))
                      refine run_stop_loop (i + 1, (writeF s x.at_ (bytesF (IntKind.u8.wrap (x.v + 1)) 64)).2, wr.set x.at_.toNat true) ⟨⟨⟨h1', by omega⟩, hLn, by rw [List.length_set]; exact hwl, ?_⟩, by omega⟩ fct (by rw [List.map_set]; exact shut)
                      intro y hy
                      dsimp only at *
                      rw [hwe] at hy
                      rw [getD_set]
                      split
                      · rfl
                      · rename_i hne
                        rcases List.mem_append.1 hy with hy | hy
                        · exact hwc y hy
                        · obtain rfl : y = (x.at_, bytesF (IntKind.u8.wrap (x.v + 1)) 64) := by simpa using hy
                          exact absurd ⟨rfl, by rw [hwl]; omega⟩ hne
                  · intro h3
                    have hc : (writeF s x.at_ (bytesF (IntKind.u8.wrap (x.v + 1)) 64)).2.cache = s.cache := by
                      rw [hwe] at h3 ⊢
                      split
                      · rfl
                      · rename_i hin; rw [if_neg hin] at h3; exact absurd rfl h3
                    (repeat (first | refine g ?_))
                    exact run_stop_loop (i + 1, (writeF s x.at_ (bytesF (IntKind.u8.wrap (x.v + 1)) 64)).2, wr) ⟨⟨⟨h1', by omega⟩, hLn, hwl, by rw [hc]; exact hwc⟩, by omega⟩ fct shut
                · have hn1 := hn
                  refine d_start [plateAt b s] ?_
                  (first | refine d_pure 0 ?_ | refine d_load 0 ?_ | refine d_arith 0 ?_ | refine d_rem 0 ?_ | refine d_quo 0 ?_ | refine d_fieldat 0 ?_ | refine d_idx1 0 ?_ | refine d_index 0 ?_ | refine d_conv64 0 ?_ | refine d_slices 0 ?_ | refine d_concat 0 ?_ | refine d_build 0 ?_)
                  (first | refine d_pure 1 ?_ | refine d_load 1 ?_ | refine d_arith 1 ?_ | refine d_rem 1 ?_ | refine d_quo 1 ?_ | refine d_fieldat 1 ?_ | refine d_idx1 1 ?_ | refine d_index 1 ?_ | refine d_conv64 1 ?_ | refine d_slices 1 ?_ | refine d_concat 1 ?_ | refine d_build 1 ?_)
                  (first | refine d_pure 2 ?_ | refine d_load 2 ?_ | refine d_arith 2 ?_ | refine d_rem 2 ?_ | refine d_quo 2 ?_ | refine d_fieldat 2 ?_ | refine d_idx1 2 ?_ | refine d_index 2 ?_ | refine d_conv64 2 ?_ | refine d_slices 2 ?_ | refine d_concat 2 ?_ | refine d_build 2 ?_)
                  (refine d_pure 3 ?_); refine a_split_dec (t := 88) rfl rfl rfl (fun h => absurd h he) (fun _ => ?_)
                  (first | refine d_pure 4 ?_ | refine d_load 4 ?_ | refine d_arith 4 ?_ | refine d_rem 4 ?_ | refine d_quo 4 ?_ | refine d_fieldat 4 ?_ | refine d_idx1 4 ?_ | refine d_index 4 ?_ | refine d_conv64 4 ?_ | refine d_slices 4 ?_ | refine d_concat 4 ?_ | refine d_build 4 ?_)
                  (first | refine d_pure 5 ?_ | refine d_load 5 ?_ | refine d_arith 5 ?_ | refine d_rem 5 ?_ | refine d_quo 5 ?_ | refine d_fieldat 5 ?_ | refine d_idx1 5 ?_ | refine d_index 5 ?_ | refine d_conv64 5 ?_ | refine d_slices 5 ?_ | refine d_concat 5 ?_ | refine d_build 5 ?_)
                  (first | refine d_pure 6 ?_ | refine d_load 6 ?_ | refine d_arith 6 ?_ | refine d_rem 6 ?_ | refine d_quo 6 ?_ | refine d_fieldat 6 ?_ | refine d_idx1 6 ?_ | refine d_index 6 ?_ | refine d_conv64 6 ?_ | refine d_slices 6 ?_ | refine d_concat 6 ?_ | refine d_build 6 ?_)
                  (first | refine d_pure 7 ?_ | refine d_load 7 ?_ | refine d_arith 7 ?_ | refine d_rem 7 ?_ | refine d_quo 7 ?_ | refine d_fieldat 7 ?_ | refine d_idx1 7 ?_ | refine d_index 7 ?_ | refine d_conv64 7 ?_ | refine d_slices 7 ?_ | refine d_concat 7 ?_ | refine d_build 7 ?_)
                  (first | refine d_pure 8 ?_ | refine d_load 8 ?_ | refine d_arith 8 ?_ | refine d_rem 8 ?_ | refine d_quo 8 ?_ | refine d_fieldat 8 ?_ | refine d_idx1 8 ?_ | refine d_index 8 ?_ | refine d_conv64 8 ?_ | refine d_slices 8 ?_ | refine d_concat 8 ?_ | refine d_build 8 ?_)
                  (first | refine d_pure 9 ?_ | refine d_load 9 ?_ | refine d_arith 9 ?_ | refine d_rem 9 ?_ | refine d_quo 9 ?_ | refine d_fieldat 9 ?_ | refine d_idx1 9 ?_ | refine d_index 9 ?_ | refine d_conv64 9 ?_ | refine d_slices 9 ?_ | refine d_concat 9 ?_ | refine d_build 9 ?_)
                  (first | refine d_pure 10 ?_ | refine d_load 10 ?_ | refine d_arith 10 ?_ | refine d_rem 10 ?_ | refine d_quo 10 ?_ | refine d_fieldat 10 ?_ | refine d_idx1 10 ?_ | refine d_index 10 ?_ | refine d_conv64 10 ?_ | refine d_slices 10 ?_ | refine d_concat 10 ?_ | refine d_build 10 ?_)
                  (first | refine d_pure 11 ?_ | refine d_load 11 ?_ | refine d_arith 11 ?_ | refine d_rem 11 ?_ | refine d_quo 11 ?_ | refine d_fieldat 11 ?_ | refine d_idx1 11 ?_ | refine d_index 11 ?_ | refine d_conv64 11 ?_ | refine d_slices 11 ?_ | refine d_concat 11 ?_ | refine d_build 11 ?_)
                  (first | refine d_pure 12 ?_ | refine d_load 12 ?_ | refine d_arith 12 ?_ | refine d_rem 12 ?_ | refine d_quo 12 ?_ | refine d_fieldat 12 ?_ | refine d_idx1 12 ?_ | refine d_index 12 ?_ | refine d_conv64 12 ?_ | refine d_slices 12 ?_ | refine d_concat 12 ?_ | refine d_build 12 ?_)
                  (first | refine d_pure 13 ?_ | refine d_load 13 ?_ | refine d_arith 13 ?_ | refine d_rem 13 ?_ | refine d_quo 13 ?_ | refine d_fieldat 13 ?_ | refine d_idx1 13 ?_ | refine d_index 13 ?_ | refine d_conv64 13 ?_ | refine d_slices 13 ?_ | refine d_concat 13 ?_ | refine d_build 13 ?_)
                  (first | refine d_pure 14 ?_ | refine d_load 14 ?_ | refine d_arith 14 ?_ | refine d_rem 14 ?_ | refine d_quo 14 ?_ | refine d_fieldat 14 ?_ | refine d_idx1 14 ?_ | refine d_index 14 ?_ | refine d_conv64 14 ?_ | refine d_slices 14 ?_ | refine d_concat 14 ?_ | refine d_build 14 ?_)
                  (first | refine d_pure 15 ?_ | refine d_load 15 ?_ | refine d_arith 15 ?_ | refine d_rem 15 ?_ | refine d_quo 15 ?_ | refine d_fieldat 15 ?_ | refine d_idx1 15 ?_ | refine d_index 15 ?_ | refine d_conv64 15 ?_ | refine d_slices 15 ?_ | refine d_concat 15 ?_ | refine d_build 15 ?_)
                  (first | refine d_pure 16 ?_ | refine d_load 16 ?_ | refine d_arith 16 ?_ | refine d_rem 16 ?_ | refine d_quo 16 ?_ | refine d_fieldat 16 ?_ | refine d_idx1 16 ?_ | refine d_index 16 ?_ | refine d_conv64 16 ?_ | refine d_slices 16 ?_ | refine d_concat 16 ?_ | refine d_build 16 ?_)
                  (first | refine d_pure 17 ?_ | refine d_load 17 ?_ | refine d_arith 17 ?_ | refine d_rem 17 ?_ | refine d_quo 17 ?_ | refine d_fieldat 17 ?_ | refine d_idx1 17 ?_ | refine d_index 17 ?_ | refine d_conv64 17 ?_ | refine d_slices 17 ?_ | refine d_concat 17 ?_ | refine d_build 17 ?_)
                  (first | refine d_pure 18 ?_ | refine d_load 18 ?_ | refine d_arith 18 ?_ | refine d_rem 18 ?_ | refine d_quo 18 ?_ | refine d_fieldat 18 ?_ | refine d_idx1 18 ?_ | refine d_index 18 ?_ | refine d_conv64 18 ?_ | refine d_slices 18 ?_ | refine d_concat 18 ?_ | refine d_build 18 ?_)
                  (first | refine d_pure 19 ?_ | refine d_load 19 ?_ | refine d_arith 19 ?_ | refine d_rem 19 ?_ | refine d_quo 19 ?_ | refine d_fieldat 19 ?_ | refine d_idx1 19 ?_ | refine d_index 19 ?_ | refine d_conv64 19 ?_ | refine d_slices 19 ?_ | refine d_concat 19 ?_ | refine d_build 19 ?_)
                  refine d_done ?_
                  (repeat (first | refine g ?_))
                  exact run_stop_loop (i + 1, s, wr) ⟨⟨⟨h1', by omega⟩, hL.mono (by omega), hwl, hwc⟩, by omega⟩ fct shut
              · intro h2
                (repeat (first | refine g ?_))
                exact run_stop_loop (s, wr) ⟨out, hwl, hwc⟩ fct shut
            · intro h1
              (repeat (first | refine g ?_))
              exact run_stop_loop (s, wr) ⟨out, hwl, hwc⟩ fct shut
          · dsimp only at *
            have hws := start_wf s2 ks hL.wf
            obtain ⟨s3, e3⟩ : ∃ s3, s3 = startF s2 ks := ⟨_, rfl⟩
            have h3s : s3.sectors = m := by rw [e3]; show s2.sectors = _; rw [hL.sec]; exact hsec
            have h3r : s3.reads = 0 := by rw [e3]; show s2.reads = _; rw [hL.reads]; exact hre
            have h3d : s3.down = false := by rw [e3]; rfl
            have h3c : s3.cache = [] := by rw [e3]; rfl
            have h3u : ∀ j, s3.dumb.getD j false = false := by
              rw [e3]
              intro j
              exact foldB_dumb _ _ (fun j => by rw [hL.dumb]; exact hdu j) j
            have h3h : ∀ j, wr.getD j false = false → s3.held.getD j ⟨#[]⟩ = s1.held.getD j ⟨#[]⟩ := by
              rw [e3]
              intro j hj
              have hz := foldB_held (s2.cache.zip ks) (s2.held, s2.dumb) j (fun y hy e => by
                have := hwc y.1 (List.of_mem_zip hy).1
                rw [e, hj] at this
                exact absurd this (by decide))
              rw [← hL.held]
              exact hz
            (repeat (first | refine g ?_))
            refine s_call (start_spec q b s2 hL.wf kp kc ks hk) ?_
            (repeat (first | refine g ?_))
            rw [← e3]
            rw [← e3] at hws
            have hb3 := hws.writes
            refine run_loopI (X := Nat) (fun i => i ≤ m) (fun i => [(0, .int .i64 (m : Int)), (7, .pointer (some ⟨b, 0, none⟩)), (10, .slice wp m wc), (14, .slice (some ⟨rw, 0, none⟩) m m), (16, .int .i64 (i : Int))])
              (fun i => [plateAt b { s3 with reads := (i : Int) }, sl wp m wc 9 1 ((List.range m).map fun j : Nat => .string (heldF s1 j).1), cells rw 4 ⟨wr.map Value.bool⟩]) (fun i => m - i) 0 (Nat.zero_le _) fct (by rw [show ({ s3 with reads := ((0 : Nat) : Int) } : PSt) = s3 by cases s3; simp only at h3r; subst h3r; rfl]; exact shut) ?_
            intro i hi
            (repeat (first | refine g ?_))
            refine run_cond_dec rfl ?_ ?_
            · intro h1
              have h1' : i < m := by omega
              have hwi : WF { s3 with reads := (i : Int) } := ⟨hws.held, hws.dumb, hws.sec, hws.cache, hws.size, (show 0 ≤ (i : Int) ∧ (i : Int) ≤ 1099511627776 by omega), hws.writes, hws.fuse⟩
              have er : readF { s3 with reads := (i : Int) } i = (heldF s3 i, { s3 with reads := ((i + 1 : Nat) : Int) }) := by
                unfold readF
                dsimp only
                rw [if_neg (by rw [h3d]; decide), if_neg (by rw [h3s]; omega), h3c]
                rfl
              have eh := held_ok s3 i (by rw [h3s]; omega) (h3u i)
              have eh1 := held_ok s1 i (by rw [hsec]; omega) (hdu i)
              have c := read_spec q b { s3 with reads := (i : Int) } hwi i
              obtain ⟨v3, ev3⟩ : ∃ v, v = (if s3.held.getD i ⟨#[]⟩ = ⟨#[]⟩ then zeros64 else s3.held.getD i ⟨#[]⟩) := ⟨_, rfl⟩
              rw [← ev3] at eh
              rw [er, eh] at c
              dsimp only at c
              (repeat (first | refine g ?_))
              refine s_call c ?_
              (repeat (first | refine g ?_))
              refine s_loadat (map_at Value.bool wr false i (by omega)) ?_
              by_cases hb : wr.getD i false = true
              · rw [hb]
                (repeat (first | refine g ?_))
                exact run_stop_loop (i + 1) ⟨h1', by omega⟩ fct shut
              · have hb : wr.getD i false = false := by simpa using hb
                have hne : ¬ (v3 ≠ v3) := fun h => h rfl
                have ex : v3 = (heldF s1 i).1 := by rw [eh1, ev3, h3h i hb]
                rw [hb]
                (repeat (first | refine g ?_))
                refine s_ptr wp (h0 := by omega) (fun bw ew _ _ => ?_)
                subst ew
                (repeat (first | refine g ?_))
                refine s_loadsl (i := i) (v := .string v3) (by rw [List.getElem?_map, List.getElem?_range h1', ex]; rfl) ?_
                (repeat (first | refine g ?_))
                exact run_stop_loop (i + 1) ⟨h1', by omega⟩ fct shut
            · intro h1
              (repeat (first | refine g ?_))
              refine s_call (awake_spec q) ?_
              (repeat (first | refine g ?_))
              exact run_ret rfl (imp_RD rfl shut)
end Go.Proofs.Ytkmdajbhkfneaaa.V
