/- Heads compared; BlockMoved. -/
import Derived.Test.YtajndpddlpnbkaaBKa
import Derived.Test.YtajndpddlpnbkaaVKa
set_option maxRecDepth 10000
set_option linter.unusedVariables false
namespace Go.Proofs.Ytajndpddlpnbkaa.V
open Go.Proofs.Ytajndpddlpnbkaa.VL Go.Proofs.Ytajndpddlpnbkaa.VL.Sha
attribute [local irreducible] Run numB
end Go.Proofs.Ytajndpddlpnbkaa.V
namespace Go.Proofs.Ytajndpddlpnbkaa.V
open Go.Proofs.Ytajndpddlpnbkaa.VL Go.Proofs.Ytajndpddlpnbkaa.VL.Sha
attribute [local irreducible] Run numB
set_option maxHeartbeats 1000000 in
theorem torn_spec (q : View) (a b : HeadT) (s t : ByteArray) (ha : HeadOk a) (hb : HeadOk b) (kp : Option Addr) (kc : Nat) (ks : List Bool) (hk : RowQ q kp ks.length 1 (ks.map Value.bool)) (hl : ks.length ≤ 9223372036854775807) :
    FnD Try.prog q 4 [.agg ⟨encH a⟩, .agg ⟨encH b⟩, .string s, .string t, .slice kp ks.length kc] [] (.bool true) [] := by
  have cbx := body_spec q s
  have hbx := bodyF_size s
  obtain ⟨X, hX⟩ : ∃ X, X = bodyF s := ⟨_, rfl⟩
  rw [← hX] at cbx hbx
  have cby := body_spec q t
  have hby := bodyF_size t
  obtain ⟨Y, hY⟩ : ∃ Y, Y = bodyF t := ⟨_, rfl⟩
  rw [← hY] at cby hby
  have ca := awake6_spec q
  have cs := fun v => bseal_ideal q v s00 (s00_ok.mono (by decide)) a ha X
  obtain ⟨⟨⟨ra, ea⟩, Sa⟩, hA⟩ : ∃ A, A = bsealF s00 a X := ⟨_, rfl⟩
  rw [← hA] at cs
  dsimp only at cs
  have hSa : VOk 1 Sa := by
    have e : Sa = (bsealF s00 a X).2 := by rw [← hA]
    cases hoa : (fldH a).all okN with
    | false => rw [e, bsealF_no s00 a X hbx hoa]; exact s00_ok.mono (by decide)
    | true => rw [e, bsealF_ok s00 a X hbx hoa]; exact sealS_ok s00_ok a X
  have cs2 := fun v => bseal_ideal q v Sa (hSa.mono (by decide)) b hb Y
  obtain ⟨⟨⟨rb, eb⟩, Sb⟩, hB⟩ : ∃ A, A = bsealF Sa b Y := ⟨_, rfl⟩
  rw [← hB] at cs2
  dsimp only at cs2
  unfold encH at cs cs2 ⊢
  (first | refine FnD.go Try.call4 Try.func4 rfl rfl rfl ?_ | refine FnX.go Try.call4 Try.func4 rfl rfl rfl ?_)
  (repeat (first | refine g ?_))
  refine s_box fun b5 => ?_
  (repeat (first | refine g ?_))
  refine s_box fun b6 => ?_
  (repeat (first | refine g ?_))
  refine s_callx (ideal_new q) fun v => ?_
  (repeat (first | refine g ?_))
  refine d_start [vaultAt v s00] ?_
  (first | refine d_pure 0 ?_ | refine d_load 0 ?_ | refine d_arith 0 ?_ | refine d_rem 0 ?_ | refine d_quo 0 ?_ | refine d_shrv 0 ?_ | refine d_fieldat 0 ?_ | refine d_idx1 0 ?_ | refine d_index 0 ?_ | refine d_conv64 0 ?_ | refine d_slices 0 ?_ | refine d_concat 0 ?_ | refine d_build 0 ?_)
  refine d_getall 1 rfl ?_
  (first | refine d_pure 2 ?_ | refine d_load 2 ?_ | refine d_arith 2 ?_ | refine d_rem 2 ?_ | refine d_quo 2 ?_ | refine d_shrv 2 ?_ | refine d_fieldat 2 ?_ | refine d_idx1 2 ?_ | refine d_index 2 ?_ | refine d_conv64 2 ?_ | refine d_slices 2 ?_ | refine d_concat 2 ?_ | refine d_build 2 ?_)
  refine d_call 3 cbx ?_
  refine d_call 4 (cs v) ?_
  (first | refine d_pure 5 ?_ | refine d_load 5 ?_ | refine d_arith 5 ?_ | refine d_rem 5 ?_ | refine d_quo 5 ?_ | refine d_shrv 5 ?_ | refine d_fieldat 5 ?_ | refine d_idx1 5 ?_ | refine d_index 5 ?_ | refine d_conv64 5 ?_ | refine d_slices 5 ?_ | refine d_concat 5 ?_ | refine d_build 5 ?_)
  (first | refine d_pure 6 ?_ | refine d_load 6 ?_ | refine d_arith 6 ?_ | refine d_rem 6 ?_ | refine d_quo 6 ?_ | refine d_shrv 6 ?_ | refine d_fieldat 6 ?_ | refine d_idx1 6 ?_ | refine d_index 6 ?_ | refine d_conv64 6 ?_ | refine d_slices 6 ?_ | refine d_concat 6 ?_ | refine d_build 6 ?_)
  (first | refine d_pure 7 ?_ | refine d_load 7 ?_ | refine d_arith 7 ?_ | refine d_rem 7 ?_ | refine d_quo 7 ?_ | refine d_shrv 7 ?_ | refine d_fieldat 7 ?_ | refine d_idx1 7 ?_ | refine d_index 7 ?_ | refine d_conv64 7 ?_ | refine d_slices 7 ?_ | refine d_concat 7 ?_ | refine d_build 7 ?_)
  (first | refine d_pure 8 ?_ | refine d_load 8 ?_ | refine d_arith 8 ?_ | refine d_rem 8 ?_ | refine d_quo 8 ?_ | refine d_shrv 8 ?_ | refine d_fieldat 8 ?_ | refine d_idx1 8 ?_ | refine d_index 8 ?_ | refine d_conv64 8 ?_ | refine d_slices 8 ?_ | refine d_concat 8 ?_ | refine d_build 8 ?_)
  (first | refine d_pure 9 ?_ | refine d_load 9 ?_ | refine d_arith 9 ?_ | refine d_rem 9 ?_ | refine d_quo 9 ?_ | refine d_shrv 9 ?_ | refine d_fieldat 9 ?_ | refine d_idx1 9 ?_ | refine d_index 9 ?_ | refine d_conv64 9 ?_ | refine d_slices 9 ?_ | refine d_concat 9 ?_ | refine d_build 9 ?_)
  refine d_done ?_
  (repeat (first | refine g ?_))
  refine d_start [vaultAt v Sa] ?_
  (first | refine d_pure 0 ?_ | refine d_load 0 ?_ | refine d_arith 0 ?_ | refine d_rem 0 ?_ | refine d_quo 0 ?_ | refine d_shrv 0 ?_ | refine d_fieldat 0 ?_ | refine d_idx1 0 ?_ | refine d_index 0 ?_ | refine d_conv64 0 ?_ | refine d_slices 0 ?_ | refine d_concat 0 ?_ | refine d_build 0 ?_)
  refine d_getall 1 rfl ?_
  (first | refine d_pure 2 ?_ | refine d_load 2 ?_ | refine d_arith 2 ?_ | refine d_rem 2 ?_ | refine d_quo 2 ?_ | refine d_shrv 2 ?_ | refine d_fieldat 2 ?_ | refine d_idx1 2 ?_ | refine d_index 2 ?_ | refine d_conv64 2 ?_ | refine d_slices 2 ?_ | refine d_concat 2 ?_ | refine d_build 2 ?_)
  refine d_call 3 cby ?_
  refine d_call 4 (cs2 v) ?_
  (first | refine d_pure 5 ?_ | refine d_load 5 ?_ | refine d_arith 5 ?_ | refine d_rem 5 ?_ | refine d_quo 5 ?_ | refine d_shrv 5 ?_ | refine d_fieldat 5 ?_ | refine d_idx1 5 ?_ | refine d_index 5 ?_ | refine d_conv64 5 ?_ | refine d_slices 5 ?_ | refine d_concat 5 ?_ | refine d_build 5 ?_)
  (first | refine d_pure 6 ?_ | refine d_load 6 ?_ | refine d_arith 6 ?_ | refine d_rem 6 ?_ | refine d_quo 6 ?_ | refine d_shrv 6 ?_ | refine d_fieldat 6 ?_ | refine d_idx1 6 ?_ | refine d_index 6 ?_ | refine d_conv64 6 ?_ | refine d_slices 6 ?_ | refine d_concat 6 ?_ | refine d_build 6 ?_)
  (first | refine d_pure 7 ?_ | refine d_load 7 ?_ | refine d_arith 7 ?_ | refine d_rem 7 ?_ | refine d_quo 7 ?_ | refine d_shrv 7 ?_ | refine d_fieldat 7 ?_ | refine d_idx1 7 ?_ | refine d_index 7 ?_ | refine d_conv64 7 ?_ | refine d_slices 7 ?_ | refine d_concat 7 ?_ | refine d_build 7 ?_)
  (first | refine d_pure 8 ?_ | refine d_load 8 ?_ | refine d_arith 8 ?_ | refine d_rem 8 ?_ | refine d_quo 8 ?_ | refine d_shrv 8 ?_ | refine d_fieldat 8 ?_ | refine d_idx1 8 ?_ | refine d_index 8 ?_ | refine d_conv64 8 ?_ | refine d_slices 8 ?_ | refine d_concat 8 ?_ | refine d_build 8 ?_)
  (first | refine d_pure 9 ?_ | refine d_load 9 ?_ | refine d_arith 9 ?_ | refine d_rem 9 ?_ | refine d_quo 9 ?_ | refine d_shrv 9 ?_ | refine d_fieldat 9 ?_ | refine d_idx1 9 ?_ | refine d_index 9 ?_ | refine d_conv64 9 ?_ | refine d_slices 9 ?_ | refine d_concat 9 ?_ | refine d_build 9 ?_)
  refine d_done ?_
  cases hoa : (fldH a).all okN with
  | false =>
    rw [bsealF_no s00 a X hbx hoa] at hA
    obtain ⟨h1, rfl⟩ := Prod.mk.inj hA
    obtain ⟨rfl, rfl⟩ := Prod.mk.inj h1
    (repeat (first | refine g ?_))
    refine s_call ca ?_
    (repeat (first | refine g ?_))
    exact run_ret rfl (imp_RD rfl shut)
  | true =>
    rw [bsealF_ok s00 a X hbx hoa] at hA
    obtain ⟨h1, e2⟩ := Prod.mk.inj hA
    obtain ⟨e1, rfl⟩ := Prod.mk.inj h1
    cases hob : (fldH b).all okN with
    | false =>
      rw [bsealF_no Sa b Y hby hob] at hB
      obtain ⟨h1, e4⟩ := Prod.mk.inj hB
      obtain ⟨rfl, rfl⟩ := Prod.mk.inj h1
      (repeat (first | refine g ?_))
      refine s_call ca ?_
      (repeat (first | refine g ?_))
      exact run_ret rfl (imp_RD rfl shut)
    | true =>
      rw [bsealF_ok Sa b Y hby hob] at hB
      obtain ⟨h1, e4⟩ := Prod.mk.inj hB
      obtain ⟨e3, rfl⟩ := Prod.mk.inj h1
      have hSb : VOk 2 Sb := by rw [e4]; exact sealS_ok hSa b Y
      have za := (blockB_parts a X (sealC s00 a X) hbx).1
      have zb := (blockB_parts b Y (sealC Sa b Y) hby).1
      rw [← e1] at za
      rw [← e3] at zb
      have hop : ∀ z : ByteArray, z.size = 512 → (opensB Sb z ↔ z = ra ∨ z = rb) := by
        intro z hz
        rw [e4, opens_iffS Sa b Y hob hby z hz, e2, opens_iffS s00 a X hoa hbx z hz, ← e1, ← e2, ← e3]
        exact ⟨fun h => h.elim (fun h => h.elim (fun h => absurd h (opens_none _ _ _)) .inl) .inr, fun h => h.elim (fun h => .inl (.inr h)) .inr⟩
      (repeat (first | refine g ?_))
      refine run_loopI (X := Nat × ByteArray) (fun x => x.1 ≤ 8 ∧ x.2.size = 64 * x.1) (fun x => [(4, .slice kp ks.length kc), (11, .pointer (some ⟨v, 0, none⟩)), (12, .string ra), (14, .string rb), (16, .string x.2), (17, .int .i64 (x.1 : Int))])
        (fun x => [vaultAt v Sb]) (fun x => 8 - x.1) (0, ⟨#[]⟩) ⟨Nat.zero_le _, rfl⟩ fct shut ?_
      intro ⟨i, z⟩ ⟨hi, hz⟩
      dsimp only at *
      (repeat (first | refine g ?_))
      refine run_cond_dec rfl ?_ ?_
      · intro h8
        have n1 : (rb.extract (64 * (i : Int)).toNat (64 * (i : Int) + 64).toNat).size = 64 := by rw [ByteArray.size_extract]; omega
        have n2 : (ra.extract (64 * (i : Int)).toNat (64 * (i : Int) + 64).toNat).size = 64 := by rw [ByteArray.size_extract]; omega
        have m1 : (z ++ rb.extract (64 * (i : Int)).toNat (64 * (i : Int) + 64).toNat).size = 64 * (i + 1) := by rw [ByteArray.size_append]; omega
        have m2 : (z ++ ra.extract (64 * (i : Int)).toNat (64 * (i : Int) + 64).toNat).size = 64 * (i + 1) := by rw [ByteArray.size_append]; omega
        by_cases hin : i < ks.length
        · obtain ⟨os, oo, ep, ho⟩ := hk.old (by omega)
          subst ep
          have hx : (ks.map Value.bool)[i]? = some (.bool ks[i]) := by rw [List.getElem?_map, List.getElem?_eq_getElem hin]; rfl
          (repeat (first | refine g ?_))
          refine s_idxo (kk := 1) (oo + i * 1) ?_
          (repeat (first | refine g ?_))
          refine s_loado (j := i * 1) ho (by rw [Nat.mul_one]; exact hx) ?_
          cases hkb : ks[i] with
          | true =>
            (repeat (first | refine g ?_))
            exact run_stop_loop (i + 1, z ++ rb.extract (64 * (i : Int)).toNat (64 * (i : Int) + 64).toNat) ⟨⟨by omega, m1⟩, by omega⟩ fct shut
          | false =>
            (repeat (first | refine g ?_))
            exact run_stop_loop (i + 1, z ++ ra.extract (64 * (i : Int)).toNat (64 * (i : Int) + 64).toNat) ⟨⟨by omega, m2⟩, by omega⟩ fct shut
        · (repeat (first | refine g ?_))
          exact run_stop_loop (i + 1, z ++ ra.extract (64 * (i : Int)).toNat (64 * (i : Int) + 64).toNat) ⟨⟨by omega, m2⟩, by omega⟩ fct shut
      · intro h8
        have hz : z.size = 512 := by omega
        have co := bopen_ideal q v Sb (hSb.mono (by decide)) z
        have hop := hop z hz
        unfold opensB at hop
        obtain ⟨⟨H, B, e⟩, hO⟩ : ∃ O, O = bopenF Sb z := ⟨_, rfl⟩
        rw [← hO] at co hop
        dsimp only at co hop
        unfold encH at co
        (repeat (first | refine g ?_))
        refine s_call co ?_
        (repeat (first | refine g ?_))
        refine s_alloc fun r18 => ?_
        by_cases h1 : z = ra
        · have he : e = 0 := hop.2 (.inl h1)
          subst he
          (repeat (first | refine g ?_))
          refine s_call ca ?_
          (repeat (first | refine g ?_))
          exact run_ret rfl (imp_RD rfl shut)
        · by_cases h2 : z = rb
          · have he : e = 0 := hop.2 (.inr h2)
            subst he
            (repeat (first | refine g ?_))
            refine s_to 103 (v := .bool (decide ((0 : Int) = 0) == decide (z = rb))) (w := .bool true) (by rw [decide_eq_true h2]; rfl) ?_
            refine s_call ca ?_
            (repeat (first | refine g ?_))
            exact run_ret rfl (imp_RD rfl shut)
          · have he : ¬ e = 0 := fun h => (hop.1 h).elim h1 h2
            (repeat (first | refine g ?_))
            refine s_to 103 (v := .bool (decide (e = 0) == decide (z = rb))) (w := .bool true) (by rw [decide_eq_false he, decide_eq_false h2]; rfl) ?_
            refine s_call ca ?_
            (repeat (first | refine g ?_))
            exact run_ret rfl (imp_RD rfl shut)
end Go.Proofs.Ytajndpddlpnbkaa.V
