/- The law VaultHonest: the walk. -/
import Derived.Test.YteengkkbedijdaaVK19
set_option maxRecDepth 10000
set_option linter.unusedVariables false
namespace Go.Proofs.Yteengkkbedijdaa.V
open Go.Proofs.Yteengkkbedijdaa.VL Go.Proofs.Yteengkkbedijdaa.VL.RD
attribute [local irreducible] Run numB
set_option maxHeartbeats 1000000 in
theorem honest_spec (q : View) (p : Option Addr) (c : Nat) (l : List OpT) (hq : OpsQ q p l) (hl : l.length ≤ 9223372036854775807) (a : OpT) :
    FnD Try.prog q 5 [.slice p l.length c, .agg ⟨encOp a⟩] [] (.bool true) [] := by
  have zt : (cutB a.text 600).size ≤ 600 := cutB_size _ _
  have zg : (cutB a.tag 40).size ≤ 40 := cutB_size _ _
  have za : (cutB a.text 600 ++ cutB a.tag 40).size = (cutB a.text 600).size + (cutB a.tag 40).size := ByteArray.size_append
  have c1 := cut_spec q a.text 600
  have c2 := cut_spec q a.tag 40
  unfold encOp
  (first | refine FnD.go Try.call5 Try.func5 rfl rfl rfl ?_ | refine FnX.go Try.call5 Try.func5 rfl rfl rfl ?_)
  (repeat (first | refine g ?_))
  refine s_box fun ba => ?_
  (repeat (first | refine g ?_))
  refine s_callx (ideal_new q) fun v => ?_
  (repeat (first | refine g ?_))
  refine d_start [] ?_
  (first | refine d_pure 0 ?_ | refine d_load 0 ?_ | refine d_arith 0 ?_ | refine d_rem 0 ?_ | refine d_quo 0 ?_ | refine d_shrv 0 ?_ | refine d_fieldat 0 ?_ | refine d_idx1 0 ?_ | refine d_index 0 ?_ | refine d_conv64 0 ?_ | refine d_slices 0 ?_ | refine d_concat 0 ?_ | refine d_build 0 ?_)
  (first | refine d_pure 1 ?_ | refine d_load 1 ?_ | refine d_arith 1 ?_ | refine d_rem 1 ?_ | refine d_quo 1 ?_ | refine d_shrv 1 ?_ | refine d_fieldat 1 ?_ | refine d_idx1 1 ?_ | refine d_index 1 ?_ | refine d_conv64 1 ?_ | refine d_slices 1 ?_ | refine d_concat 1 ?_ | refine d_build 1 ?_)
  (first | refine d_pure 3 ?_ | refine d_load 3 ?_ | refine d_arith 3 ?_ | refine d_rem 3 ?_ | refine d_quo 3 ?_ | refine d_shrv 3 ?_ | refine d_fieldat 3 ?_ | refine d_idx1 3 ?_ | refine d_index 3 ?_ | refine d_conv64 3 ?_ | refine d_slices 3 ?_ | refine d_concat 3 ?_ | refine d_build 3 ?_)
  (first | refine d_pure 4 ?_ | refine d_load 4 ?_ | refine d_arith 4 ?_ | refine d_rem 4 ?_ | refine d_quo 4 ?_ | refine d_shrv 4 ?_ | refine d_fieldat 4 ?_ | refine d_idx1 4 ?_ | refine d_index 4 ?_ | refine d_conv64 4 ?_ | refine d_slices 4 ?_ | refine d_concat 4 ?_ | refine d_build 4 ?_)
  refine d_call 2 c1 ?_
  refine d_call 5 c2 ?_
  (first | refine d_pure 6 ?_ | refine d_load 6 ?_ | refine d_arith 6 ?_ | refine d_rem 6 ?_ | refine d_quo 6 ?_ | refine d_shrv 6 ?_ | refine d_fieldat 6 ?_ | refine d_idx1 6 ?_ | refine d_index 6 ?_ | refine d_conv64 6 ?_ | refine d_slices 6 ?_ | refine d_concat 6 ?_ | refine d_build 6 ?_)
  (first | refine d_pure 7 ?_ | refine d_load 7 ?_ | refine d_arith 7 ?_ | refine d_rem 7 ?_ | refine d_quo 7 ?_ | refine d_shrv 7 ?_ | refine d_fieldat 7 ?_ | refine d_idx1 7 ?_ | refine d_index 7 ?_ | refine d_conv64 7 ?_ | refine d_slices 7 ?_ | refine d_concat 7 ?_ | refine d_build 7 ?_)
  refine d_done ?_
  (repeat (first | refine g ?_))
  obtain ⟨A, hA⟩ : ∃ A, A = cutB a.text 600 ++ cutB a.tag 40 := ⟨_, rfl⟩
  rw [← hA] at za
  refine run_cutI (X := VSt) (fun s => VOk 30 s) (fun s => [(3, .pointer (some ⟨ba, 0, none⟩)), (5, .pointer (some ⟨v, 0, none⟩)), (6, .string A), (7, .bool (okF s a.salt a.nonce a.label A))]) (fun s => [vaultAt v s, cells ba 30 ⟨encOp a⟩]) ?_ fun s hs => ?_
  · have o0 : okF ⟨[], [], []⟩ a.salt a.nonce a.label A = false := by
      unfold okF
      rw [decide_eq_false]
      rw [open_ok]
      intro ⟨_, _, m, hm, _⟩
      cases hm
    refine run_loopI (X := Nat × VSt) (fun x => (x.1 ≤ l.length ∧ x.1 ≤ 30) ∧ VOk x.1 x.2) (fun x => [(0, .slice p l.length c), (3, .pointer (some ⟨ba, 0, none⟩)), (5, .pointer (some ⟨v, 0, none⟩)), (6, .string A), (7, .bool (okF x.2 a.salt a.nonce a.label A)), (8, .int .i64 (x.1 : Int))])
      (fun x => [vaultAt v x.2, cells ba 30 ⟨encOp a⟩]) (fun x => l.length - x.1) (0, ⟨[], [], []⟩) ⟨⟨Nat.zero_le _, Nat.zero_le _⟩, k0 0⟩ (by rw [o0, hA]; exact fct) shut ?_
    intro ⟨i, s⟩ ⟨⟨hi, hi30⟩, hs⟩
    dsimp only at *
    unfold encOp
    (repeat (first | refine g ?_))
    refine run_split_dec rfl rfl rfl rfl rfl ?_ ?_
    · intro h1
      (repeat (first | refine g ?_))
      refine run_cond_dec rfl ?_ ?_
      · intro h2
        obtain ⟨x, bs, os, hx, hxo, ep, ho, hxa, hxl⟩ := hq.at i (by omega)
        subst ep
        have zx : (cutB x.text 600).size ≤ 600 := cutB_size _ _
        (repeat (first | refine g ?_))
        refine s_idxo (kk := 6) (os + i * 6) ?_
        refine s_loadao (j := i * 6) ho hxa hxl (by omega) ?_
        unfold encOp
        (repeat (first | refine g ?_))
        refine s_alloc fun r => ?_
        (repeat (first | refine g ?_))
        refine s_call (cut_spec q x.text 600) ?_
        obtain ⟨t, ht⟩ : ∃ t, t = cutB x.text 600 := ⟨_, rfl⟩
        rw [← ht] at zx ⊢
        have cs := seal_spec q v s (hs.mono (by omega)) x.salt x.nonce x.label t (by omega)
        have hs2 := hs.seal x.salt x.nonce x.label t
        unfold sealF at cs hs2
        (repeat (first | refine g ?_))
        cases hw : wrongF x.salt x.nonce with
        | true =>
          rw [hw, if_pos rfl] at cs hs2
          dsimp only at cs hs2
          refine s_call cs ?_
          (repeat (first | refine g ?_))
          exact run_stop_loop (i + 1, s) ⟨⟨⟨by omega, by omega⟩, hs2⟩, by omega⟩ fct shut
        | false =>
          rw [hw, if_neg (by decide)] at cs hs2
          dsimp only at cs hs2
          have em := open_seal s x.salt x.nonce x.label t hw a.salt a.nonce a.label A
          have es := open_self s x.salt x.nonce x.label t hw
          have zn := numB_size (cntN s.es (sealedK x.salt x.nonce x.label t)) 16 (by decide)
          obtain ⟨s2, es2⟩ : ∃ s2, s2 = (⟨s.hs, s.ms, cntL s.es (sealedK x.salt x.nonce x.label t)⟩ : VSt) := ⟨_, rfl⟩
          have zT : (t ++ numB (cntN s.es (sealedK x.salt x.nonce x.label t)) 16).size = t.size + (numB (cntN s.es (sealedK x.salt x.nonce x.label t)) 16).size := ByteArray.size_append
          obtain ⟨T, hT⟩ : ∃ T, T = t ++ numB (cntN s.es (sealedK x.salt x.nonce x.label t)) 16 := ⟨_, rfl⟩
          rw [← es2, ← hT] at cs es em
          rw [← es2] at hs2
          rw [← hT] at zT
          refine s_call cs ?_
          have co := open_spec q v s2 (hs2.mono (by omega)) x.salt x.nonce x.label T (by omega)
          rw [es] at co
          dsimp only at co
          have x1 : ¬ (t ≠ t) := fun h => h rfl
          (repeat (first | refine g ?_))
          refine s_call co ?_
          have nx : ((i + 1 ≤ l.length ∧ i + 1 ≤ 30) ∧ VOk (i + 1) s2) ∧ l.length - (i + 1) < l.length - i := ⟨⟨⟨by omega, by omega⟩, hs2⟩, by omega⟩
          (repeat (first | refine g ?_))
          cases hM : okF s a.salt a.nonce a.label A with
          | true =>
            rw [hM, Bool.true_or] at em
            (repeat (first | refine g ?_))
            exact run_stop_loop (i + 1, s2) nx (by rw [em]; exact fct) shut
          | false =>
            rw [hM, Bool.false_or] at em
            by_cases e1 : x.salt = a.salt
            · rw [decide_eq_true e1, Bool.true_and] at em
              by_cases e2 : x.nonce = a.nonce
              · rw [decide_eq_true e2, Bool.true_and] at em
                by_cases e3 : x.label = a.label
                · rw [decide_eq_true e3, Bool.true_and] at em
                  (repeat (first | refine g ?_))
                  exact run_stop_loop (i + 1, s2) nx (by rw [em]; exact fct) shut
                · rw [decide_eq_false e3, Bool.false_and] at em
                  (repeat (first | refine g ?_))
                  exact run_stop_loop (i + 1, s2) nx (by rw [em]; exact fct) shut
              · rw [decide_eq_false e2, Bool.false_and] at em
                (repeat (first | refine g ?_))
                exact run_stop_loop (i + 1, s2) nx (by rw [em]; exact fct) shut
            · rw [decide_eq_false e1, Bool.false_and] at em
              (repeat (first | refine g ?_))
              exact run_stop_loop (i + 1, s2) nx (by rw [em]; exact fct) shut
      · intro h2
        (repeat (first | refine g ?_))
        exact run_stop_loop s (hs.mono hi30) fct shut
    · intro h1
      (repeat (first | refine g ?_))
      exact run_stop_loop s (hs.mono hi30) fct shut
  · unfold encOp
    have co := open_spec q v s (hs.mono (by omega)) a.salt a.nonce a.label A (by omega)
    (repeat (first | refine g ?_))
    refine s_call co ?_
    have hb := hs
    (repeat (first | refine g ?_))
    refine s_is 117 (c := true) ?_ ?_
    · unfold okF; simp
    (repeat (first | refine g ?_))
    refine s_call (awake_spec q) ?_
    (repeat (first | refine g ?_))
    exact run_ret rfl (imp_RD rfl shut)
end Go.Proofs.Yteengkkbedijdaa.V
