/- Heads compared; BlockMoved. -/
import Derived.Test.YtajndpddlpnbkaaBKa
import Derived.Test.YtajndpddlpnbkaaVKa
set_option maxRecDepth 10000
set_option linter.unusedVariables false
namespace Go.Proofs.Ytajndpddlpnbkaa.V
open Go.Proofs.Ytajndpddlpnbkaa.VL Go.Proofs.Ytajndpddlpnbkaa.VL.Sha
attribute [local irreducible] Run numB
theorem uH : Try.prog.underlying 23 = some ty23.und := by kernel_rfl
theorem uI : Try.prog.underlying 3 = some (.int .i64) := by kernel_rfl
theorem cH : Try.prog.cellsOf 23 = 8 := by kernel_rfl
theorem cI : Try.prog.cellsOf 3 = 1 := by kernel_rfl
def litsH (h : HeadT) : List Lit := [.int .i64 h.vol, .int .i64 h.addr, .int .i64 h.kind, .int .i64 h.ino, .int .i64 h.gen, .int .i64 h.index, .int .i64 h.ver, .int .i64 h.salt]
theorem int_litI (d : Nat) (r : Int) (r0 : -9223372036854775808 ≤ r) (r1 : r ≤ 9223372036854775807) : Try.prog.keyLits (d + 1) 3 [.int .i64 r] = some [.int .i64 r] := by
  unfold Program.keyLits; rw [uI]
  show (if _ then _ else _) = _
  rw [if_pos ⟨rfl, by simp [Lit.wf, IntKind.min, IntKind.max, IntKind.signed, IntKind.bits]; omega⟩]
theorem head_lits (d : Nat) (h : HeadT) (hh : HeadOk h) : Try.prog.keyLits (d + 2) 23 (encH h) = some (litsH h) := by
  obtain ⟨v0, v1, a0, a1, k0, k1, i0, i1, g0, g1, x0, x1, r0, r1, s0, s1⟩ := hh
  have e1 := int_litI d h.vol v0 v1
  have e2 := int_litI d h.addr a0 a1
  have e3 := int_litI d h.kind k0 k1
  have e4 := int_litI d h.ino i0 i1
  have e5 := int_litI d h.gen g0 g1
  have e6 := int_litI d h.index x0 x1
  have e7 := int_litI d h.ver r0 r1
  have e8 := int_litI d h.salt s0 s1
  unfold Program.keyLits
  rw [uH]
  show (if _ then _ else _) = _
  rw [if_pos ⟨by rw [cH]; rfl, by kernel_rfl⟩]
  unfold encH litsH
  simp [List.mapM_cons, cI, e1, e2, e3, e4, e5, e6, e7, e8]
theorem litsH_inj (a b : HeadT) : litsH a = litsH b ↔ a = b := by
  obtain ⟨x1, x2, x3, x4, x5, x6, x7, x8⟩ := a
  obtain ⟨y1, y2, y3, y4, y5, y6, y7, y8⟩ := b
  simp [litsH]
theorem mixed_told (h g : HeadT) (X : ByteArray) (hb : X.size = 448) (hok : (fldH h).all okN = true) (hog : (fldH g).all okN = true) : (btoldF (sealS s00 h X) (blockB g X (sealC s00 h X)) g.addr).ok = decide (g = h) := by
  have hz := (blockB_parts g X (sealC s00 h X) hb).1
  rw [Bool.eq_iff_iff, told_ok _ _ _ hz, openH_block g X _ hb hog, opens_iffS s00 h X hok hb _ hz, decide_eq_true_eq]
  constructor
  · rintro ⟨h1 | h1, _⟩
    · exact absurd h1 (opens_none _ _ _)
    · have e := congrArg (fun b : ByteArray => b.extract 0 48) h1
      rw [(blockB_parts g X _ hb).2.1, (blockB_parts h X _ hb).2.1] at e
      exact headL_inj hog hok e
  · rintro rfl
    exact ⟨.inr rfl, rfl⟩
set_option maxHeartbeats 1000000 in
theorem moved_spec (q : View) (h : HeadT) (s : ByteArray) (to : Int) (u : HeadT) (hh : HeadOk h) (hg : HeadOk u) :
    FnD Try.prog q 3 [.agg ⟨encH h⟩, .string s, .int .i64 to, .agg ⟨encH u⟩] [] (.bool true) [] := by
  have cb := body_spec q s
  have hb := bodyF_size s
  obtain ⟨X, hX⟩ : ∃ X, X = bodyF s := ⟨_, rfl⟩
  rw [← hX] at cb hb
  have ca := awake6_spec q
  have cs := fun v => bseal_ideal q v s00 (s00_ok.mono (by decide)) h hh X
  have cs2 := fun v => bseal_ideal q v s00 (s00_ok.mono (by decide)) u hg X
  obtain ⟨⟨⟨ra, ea⟩, Sa⟩, hA⟩ : ∃ A, A = bsealF s00 h X := ⟨_, rfl⟩
  obtain ⟨⟨⟨rb, eb⟩, Sb⟩, hB⟩ : ∃ A, A = bsealF s00 u X := ⟨_, rfl⟩
  rw [← hA] at cs
  rw [← hB] at cs2
  dsimp only at cs cs2
  unfold encH at cs cs2 ⊢
  (first | refine FnD.go Try.call3 Try.func3 rfl rfl rfl ?_ | refine FnX.go Try.call3 Try.func3 rfl rfl rfl ?_)
  (repeat (first | refine g ?_ | refine s_flat 8 [(.pure, [0, 1, 2, 3, 4, 5])] ?_ | refine s_flat 11 [(.pure, [0, 2, 3]), (.mem true, [1, 4]), (.pure, [5, 6, 7, 8]), (.mem true, [9, 10, 11]), (.pure, [12, 13, 14, 15]), (.mem false, [16]), (.pure, [17, 18])] ?_))
  refine s_box fun b4 => ?_
  (repeat (first | refine g ?_ | refine s_flat 8 [(.pure, [0, 1, 2, 3, 4, 5])] ?_ | refine s_flat 11 [(.pure, [0, 2, 3]), (.mem true, [1, 4]), (.pure, [5, 6, 7, 8]), (.mem true, [9, 10, 11]), (.pure, [12, 13, 14, 15]), (.mem false, [16]), (.pure, [17, 18])] ?_))
  refine s_box fun b7 => ?_
  (repeat (first | refine g ?_ | refine s_flat 8 [(.pure, [0, 1, 2, 3, 4, 5])] ?_ | refine s_flat 11 [(.pure, [0, 2, 3]), (.mem true, [1, 4]), (.pure, [5, 6, 7, 8]), (.mem true, [9, 10, 11]), (.pure, [12, 13, 14, 15]), (.mem false, [16]), (.pure, [17, 18])] ?_))
  refine s_callx (ideal_new q) fun v => ?_
  (repeat (first | refine g ?_ | refine s_flat 8 [(.pure, [0, 1, 2, 3, 4, 5])] ?_ | refine s_flat 11 [(.pure, [0, 2, 3]), (.mem true, [1, 4]), (.pure, [5, 6, 7, 8]), (.mem true, [9, 10, 11]), (.pure, [12, 13, 14, 15]), (.mem false, [16]), (.pure, [17, 18])] ?_))
  refine d_start [vaultAt v s00] ?_
  (first | refine d_pure 0 ?_ | refine d_load 0 ?_ | refine d_arith 0 ?_ | refine d_rem 0 ?_ | refine d_quo 0 ?_ | refine d_shrv 0 ?_ | refine d_fieldat 0 ?_ | refine d_idx1 0 ?_ | refine d_index 0 ?_ | refine d_conv64 0 ?_ | refine d_slices 0 ?_ | refine d_concat 0 ?_ | refine d_build 0 ?_)
  refine d_getall 1 rfl ?_
  (first | refine d_pure 2 ?_ | refine d_load 2 ?_ | refine d_arith 2 ?_ | refine d_rem 2 ?_ | refine d_quo 2 ?_ | refine d_shrv 2 ?_ | refine d_fieldat 2 ?_ | refine d_idx1 2 ?_ | refine d_index 2 ?_ | refine d_conv64 2 ?_ | refine d_slices 2 ?_ | refine d_concat 2 ?_ | refine d_build 2 ?_)
  refine d_call 3 cb ?_
  refine d_call 4 (cs v) ?_
  (first | refine d_pure 5 ?_ | refine d_load 5 ?_ | refine d_arith 5 ?_ | refine d_rem 5 ?_ | refine d_quo 5 ?_ | refine d_shrv 5 ?_ | refine d_fieldat 5 ?_ | refine d_idx1 5 ?_ | refine d_index 5 ?_ | refine d_conv64 5 ?_ | refine d_slices 5 ?_ | refine d_concat 5 ?_ | refine d_build 5 ?_)
  (first | refine d_pure 6 ?_ | refine d_load 6 ?_ | refine d_arith 6 ?_ | refine d_rem 6 ?_ | refine d_quo 6 ?_ | refine d_shrv 6 ?_ | refine d_fieldat 6 ?_ | refine d_idx1 6 ?_ | refine d_index 6 ?_ | refine d_conv64 6 ?_ | refine d_slices 6 ?_ | refine d_concat 6 ?_ | refine d_build 6 ?_)
  (first | refine d_pure 7 ?_ | refine d_load 7 ?_ | refine d_arith 7 ?_ | refine d_rem 7 ?_ | refine d_quo 7 ?_ | refine d_shrv 7 ?_ | refine d_fieldat 7 ?_ | refine d_idx1 7 ?_ | refine d_index 7 ?_ | refine d_conv64 7 ?_ | refine d_slices 7 ?_ | refine d_concat 7 ?_ | refine d_build 7 ?_)
  (first | refine d_pure 8 ?_ | refine d_load 8 ?_ | refine d_arith 8 ?_ | refine d_rem 8 ?_ | refine d_quo 8 ?_ | refine d_shrv 8 ?_ | refine d_fieldat 8 ?_ | refine d_idx1 8 ?_ | refine d_index 8 ?_ | refine d_conv64 8 ?_ | refine d_slices 8 ?_ | refine d_concat 8 ?_ | refine d_build 8 ?_)
  (first | refine d_pure 9 ?_ | refine d_load 9 ?_ | refine d_arith 9 ?_ | refine d_rem 9 ?_ | refine d_quo 9 ?_ | refine d_shrv 9 ?_ | refine d_fieldat 9 ?_ | refine d_idx1 9 ?_ | refine d_index 9 ?_ | refine d_conv64 9 ?_ | refine d_slices 9 ?_ | refine d_concat 9 ?_ | refine d_build 9 ?_)
  refine d_done ?_
  (repeat (first | refine g ?_ | refine s_flat 8 [(.pure, [0, 1, 2, 3, 4, 5])] ?_ | refine s_flat 11 [(.pure, [0, 2, 3]), (.mem true, [1, 4]), (.pure, [5, 6, 7, 8]), (.mem true, [9, 10, 11]), (.pure, [12, 13, 14, 15]), (.mem false, [16]), (.pure, [17, 18])] ?_))
  refine d_start [] ?_
  refine d_getall 1 rfl ?_
  (first | refine d_pure 2 ?_ | refine d_load 2 ?_ | refine d_arith 2 ?_ | refine d_rem 2 ?_ | refine d_quo 2 ?_ | refine d_shrv 2 ?_ | refine d_fieldat 2 ?_ | refine d_idx1 2 ?_ | refine d_index 2 ?_ | refine d_conv64 2 ?_ | refine d_slices 2 ?_ | refine d_concat 2 ?_ | refine d_build 2 ?_)
  refine d_via 0 (X := Nat) (h1 := by refine s_callx (ideal_new q) fun w => ?_; exact run_fin w) (h := fun w => ?_)
  refine d_call 3 cb ?_
  refine d_call 4 (cs2 w) ?_
  (first | refine d_pure 5 ?_ | refine d_load 5 ?_ | refine d_arith 5 ?_ | refine d_rem 5 ?_ | refine d_quo 5 ?_ | refine d_shrv 5 ?_ | refine d_fieldat 5 ?_ | refine d_idx1 5 ?_ | refine d_index 5 ?_ | refine d_conv64 5 ?_ | refine d_slices 5 ?_ | refine d_concat 5 ?_ | refine d_build 5 ?_)
  (first | refine d_pure 6 ?_ | refine d_load 6 ?_ | refine d_arith 6 ?_ | refine d_rem 6 ?_ | refine d_quo 6 ?_ | refine d_shrv 6 ?_ | refine d_fieldat 6 ?_ | refine d_idx1 6 ?_ | refine d_index 6 ?_ | refine d_conv64 6 ?_ | refine d_slices 6 ?_ | refine d_concat 6 ?_ | refine d_build 6 ?_)
  (first | refine d_pure 7 ?_ | refine d_load 7 ?_ | refine d_arith 7 ?_ | refine d_rem 7 ?_ | refine d_quo 7 ?_ | refine d_shrv 7 ?_ | refine d_fieldat 7 ?_ | refine d_idx1 7 ?_ | refine d_index 7 ?_ | refine d_conv64 7 ?_ | refine d_slices 7 ?_ | refine d_concat 7 ?_ | refine d_build 7 ?_)
  (first | refine d_pure 8 ?_ | refine d_load 8 ?_ | refine d_arith 8 ?_ | refine d_rem 8 ?_ | refine d_quo 8 ?_ | refine d_shrv 8 ?_ | refine d_fieldat 8 ?_ | refine d_idx1 8 ?_ | refine d_index 8 ?_ | refine d_conv64 8 ?_ | refine d_slices 8 ?_ | refine d_concat 8 ?_ | refine d_build 8 ?_)
  (first | refine d_pure 9 ?_ | refine d_load 9 ?_ | refine d_arith 9 ?_ | refine d_rem 9 ?_ | refine d_quo 9 ?_ | refine d_shrv 9 ?_ | refine d_fieldat 9 ?_ | refine d_idx1 9 ?_ | refine d_index 9 ?_ | refine d_conv64 9 ?_ | refine d_slices 9 ?_ | refine d_concat 9 ?_ | refine d_build 9 ?_)
  refine d_done ?_
  cases hoh : (fldH h).all okN with
  | false =>
    rw [bsealF_no s00 h X hb hoh] at hA
    obtain ⟨h1, rfl⟩ := Prod.mk.inj hA
    obtain ⟨rfl, rfl⟩ := Prod.mk.inj h1
    (repeat (first | refine g ?_ | refine s_flat 8 [(.pure, [0, 1, 2, 3, 4, 5])] ?_ | refine s_flat 11 [(.pure, [0, 2, 3]), (.mem true, [1, 4]), (.pure, [5, 6, 7, 8]), (.mem true, [9, 10, 11]), (.pure, [12, 13, 14, 15]), (.mem false, [16]), (.pure, [17, 18])] ?_))
    refine s_call ca ?_
    (repeat (first | refine g ?_ | refine s_flat 8 [(.pure, [0, 1, 2, 3, 4, 5])] ?_ | refine s_flat 11 [(.pure, [0, 2, 3]), (.mem true, [1, 4]), (.pure, [5, 6, 7, 8]), (.mem true, [9, 10, 11]), (.pure, [12, 13, 14, 15]), (.mem false, [16]), (.pure, [17, 18])] ?_))
    exact run_ret rfl (imp_RD rfl shut)
  | true =>
    cases hog : (fldH u).all okN with
    | false =>
      rw [bsealF_no s00 u X hb hog] at hB
      obtain ⟨h1, rfl⟩ := Prod.mk.inj hB
      obtain ⟨rfl, rfl⟩ := Prod.mk.inj h1
      rw [bsealF_ok s00 h X hb hoh] at hA
      obtain ⟨h1, e2⟩ := Prod.mk.inj hA
      obtain ⟨e1, rfl⟩ := Prod.mk.inj h1
      (repeat (first | refine g ?_ | refine s_flat 8 [(.pure, [0, 1, 2, 3, 4, 5])] ?_ | refine s_flat 11 [(.pure, [0, 2, 3]), (.mem true, [1, 4]), (.pure, [5, 6, 7, 8]), (.mem true, [9, 10, 11]), (.pure, [12, 13, 14, 15]), (.mem false, [16]), (.pure, [17, 18])] ?_))
      refine s_call ca ?_
      (repeat (first | refine g ?_ | refine s_flat 8 [(.pure, [0, 1, 2, 3, 4, 5])] ?_ | refine s_flat 11 [(.pure, [0, 2, 3]), (.mem true, [1, 4]), (.pure, [5, 6, 7, 8]), (.mem true, [9, 10, 11]), (.pure, [12, 13, 14, 15]), (.mem false, [16]), (.pure, [17, 18])] ?_))
      exact run_ret rfl (imp_RD rfl shut)
    | true =>
      rw [bsealF_ok s00 u X hb hog] at hB
      obtain ⟨h1, e4⟩ := Prod.mk.inj hB
      obtain ⟨e3, rfl⟩ := Prod.mk.inj h1
      rw [bsealF_ok s00 h X hb hoh] at hA
      obtain ⟨h1, e2⟩ := Prod.mk.inj hA
      obtain ⟨e1, rfl⟩ := Prod.mk.inj h1
      have t1 := told_seal s00 h X hb hoh to
      have t2 := mixed_told h u X hb hoh hog
      have hS := sealS_ok s00_ok h X
      rw [← e1, ← e2] at t1
      rw [← e2] at t2 hS
      obtain ⟨za, pa, qa⟩ := blockB_parts h X (sealC s00 h X) hb
      obtain ⟨zb, pb, qb⟩ := blockB_parts u X (sealC s00 u X) hb
      rw [← e1] at za pa qa
      rw [← e3] at zb pb qb
      have n1 : (rb.extract (Int.toNat 0) (Int.toNat 48)).size = 48 := by rw [ByteArray.size_extract, zb]; rfl
      have n2 : (ra.extract (Int.toNat 48) (ra.size : Int).toNat).size = 464 := by rw [ByteArray.size_extract, za]; rfl
      have em : rb.extract (Int.toNat 0) (Int.toNat 48) ++ ra.extract (Int.toNat 48) (ra.size : Int).toNat = blockB u X (sealC s00 h X) := by
        rw [za]
        show rb.extract 0 48 ++ ra.extract 48 512 = _
        rw [pb, qa]; rfl
      obtain ⟨M, hM⟩ : ∃ M, M = blockB u X (sealC s00 h X) := ⟨_, rfl⟩
      rw [← hM] at em t2
      obtain ⟨H1, B1, c1⟩ := btold_call q v Sa (hS.mono (by decide)) ra to _ t1
      obtain ⟨H2, B2, c2⟩ := btold_call q v Sa (hS.mono (by decide)) M u.addr _ t2
      have kh := head_lits 2 h hh
      have ku := head_lits 2 u hg
      unfold encH at c1 c2 kh ku
      (repeat (first | refine g ?_ | refine s_flat 8 [(.pure, [0, 1, 2, 3, 4, 5])] ?_ | refine s_flat 11 [(.pure, [0, 2, 3]), (.mem true, [1, 4]), (.pure, [5, 6, 7, 8]), (.mem true, [9, 10, 11]), (.pure, [12, 13, 14, 15]), (.mem false, [16]), (.pure, [17, 18])] ?_))
      refine s_to 14 (v := .string (rb.extract (Int.toNat 0) (Int.toNat 48) ++ ra.extract (Int.toNat 48) (ra.size : Int).toNat)) (w := .string M) (by rw [em]) ?_
      refine s_call c1 ?_
      (repeat (first | refine g ?_ | refine s_flat 8 [(.pure, [0, 1, 2, 3, 4, 5])] ?_ | refine s_flat 11 [(.pure, [0, 2, 3]), (.mem true, [1, 4]), (.pure, [5, 6, 7, 8]), (.mem true, [9, 10, 11]), (.pure, [12, 13, 14, 15]), (.mem false, [16]), (.pure, [17, 18])] ?_))
      refine s_alloc fun r15 => ?_
      (repeat (first | refine g ?_ | refine s_flat 8 [(.pure, [0, 1, 2, 3, 4, 5])] ?_ | refine s_flat 11 [(.pure, [0, 2, 3]), (.mem true, [1, 4]), (.pure, [5, 6, 7, 8]), (.mem true, [9, 10, 11]), (.pure, [12, 13, 14, 15]), (.mem false, [16]), (.pure, [17, 18])] ?_))
      refine s_call c2 ?_
      (repeat (first | refine g ?_ | refine s_flat 8 [(.pure, [0, 1, 2, 3, 4, 5])] ?_ | refine s_flat 11 [(.pure, [0, 2, 3]), (.mem true, [1, 4]), (.pure, [5, 6, 7, 8]), (.mem true, [9, 10, 11]), (.pure, [12, 13, 14, 15]), (.mem false, [16]), (.pure, [17, 18])] ?_))
      refine s_alloc fun r16 => ?_
      (repeat (first | refine g ?_ | refine s_flat 8 [(.pure, [0, 1, 2, 3, 4, 5])] ?_ | refine s_flat 11 [(.pure, [0, 2, 3]), (.mem true, [1, 4]), (.pure, [5, 6, 7, 8]), (.mem true, [9, 10, 11]), (.pure, [12, 13, 14, 15]), (.mem false, [16]), (.pure, [17, 18])] ?_))
      refine s_eqk 6 4 (decide (u = h)) (la := litsH u) (lb := litsH h) ?_ ?_ (ka := ku) (kb := kh)
      · rw [decide_eq_true_eq, litsH_inj]
      (repeat (first | refine g ?_ | refine s_flat 8 [(.pure, [0, 1, 2, 3, 4, 5])] ?_ | refine s_flat 11 [(.pure, [0, 2, 3]), (.mem true, [1, 4]), (.pure, [5, 6, 7, 8]), (.mem true, [9, 10, 11]), (.pure, [12, 13, 14, 15]), (.mem false, [16]), (.pure, [17, 18])] ?_))
      refine s_call ca ?_
      (repeat (first | refine g ?_ | refine s_flat 8 [(.pure, [0, 1, 2, 3, 4, 5])] ?_ | refine s_flat 11 [(.pure, [0, 2, 3]), (.mem true, [1, 4]), (.pure, [5, 6, 7, 8]), (.mem true, [9, 10, 11]), (.pure, [12, 13, 14, 15]), (.mem false, [16]), (.pure, [17, 18])] ?_))
      exact run_ret rfl (imp_RD rfl shut)
end Go.Proofs.Ytajndpddlpnbkaa.V
namespace Go.Proofs.Ytajndpddlpnbkaa.V
open Go.Proofs.Ytajndpddlpnbkaa.VL Go.Proofs.Ytajndpddlpnbkaa.VL.Sha
attribute [local irreducible] Run numB
end Go.Proofs.Ytajndpddlpnbkaa.V
