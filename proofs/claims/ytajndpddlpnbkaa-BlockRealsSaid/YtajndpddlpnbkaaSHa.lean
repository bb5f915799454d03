/- SHA-256 of the program: right, constants, turned. -/
import Derived.Test.YtajndpddlpnbkaaVB
import Derived.Test.YtajndpddlpnbkaaSHx
set_option maxRecDepth 10000
set_option linter.unusedVariables false
namespace Go.Proofs.Ytajndpddlpnbkaa.V
open Go.Proofs.Ytajndpddlpnbkaa.VL Go.Proofs.Ytajndpddlpnbkaa.VL.Sha
attribute [local irreducible] Run
theorem sright_spec (q : View) (u : UInt32) (n : Nat) (h0 : 0 < n) (h1 : n < 32) : FnD Try.prog q 106 [.int .u32 (u.toNat : Int), .int .i64 (n : Int)] [] (.int .u32 ((rotr u n).toNat : Int)) [] := by
  have e : ((32 : Int) - (n : Int)).toNat = 32 - n := by omega
  (first | refine FnD.go Try.call106 Try.func106 rfl rfl rfl ?_ | refine FnX.go Try.call106 Try.func106 rfl rfl rfl ?_)
  (repeat (first | refine gw ?_ | refine g ?_ | refine s_flat 1 [(.pure, [0, 1, 2, 3, 4, 5, 6, 7, 8])] ?_))
  refine run_ret rfl (imp_RD ?_ shut)
  unfold rotr
  rw [e]; rfl
theorem constants_spec (q : View) : FnD Try.prog q 107 [] [] (.agg ⟨wv K⟩) [] := by
  (first | refine FnD.go Try.call107 Try.func107 rfl rfl rfl ?_ | refine FnX.go Try.call107 Try.func107 rfl rfl rfl ?_)
  (repeat (first | refine gw ?_ | refine g ?_))
  refine s_alloc fun r => ?_
  (repeat (first | refine gw ?_ | refine g ?_))
  refine s_ret1 (imp_RD ?_ shut)
  rfl
theorem set_end (l : List UInt32) (m : Nat) (v : UInt32) (i : Nat) (hi : l.length = i) : (l ++ List.replicate (m + 1) 0).set i v = (l ++ [v]) ++ List.replicate m 0 := by
  subst hi
  rw [List.replicate_succ, List.set_append_right _ _ (Nat.le_refl _), Nat.sub_self, List.set_cons_zero, List.append_assoc]; rfl
theorem getD_app (l m : List UInt32) (i : Nat) (h : i < l.length) : (l ++ m).getD i 0 = l.getD i 0 := by
  rw [List.getD_eq_getElem?_getD, List.getD_eq_getElem?_getD, List.getElem?_append_left h]
set_option maxHeartbeats 4000000 in
theorem turned_spec (q : View) (h : List UInt32) (hh : h.length = 8) (b : List UInt8) (hb : b.length = 64) : FnD Try.prog q 82 [.agg ⟨wv h⟩, .agg ⟨bv b⟩] [] (.agg ⟨wv (compress h b)⟩) [] := by
  (first | refine FnD.go Try.call82 Try.func82 rfl rfl rfl ?_ | refine FnX.go Try.call82 Try.func82 rfl rfl rfl ?_)
  (repeat (first | refine gw ?_ | refine g ?_ | refine s_flat 5 [(.pure, [0, 1, 2, 3, 7, 8, 9, 10, 15, 16, 17, 18, 23, 24, 25, 26]), (.mem true, [4]), (.pure, [5, 6]), (.mem true, [11]), (.pure, [12, 13, 14]), (.mem true, [19]), (.pure, [20, 21, 22]), (.mem true, [27]), (.pure, [28, 29, 30]), (.mem false, [31])] ?_ | refine s_flat 12 [(.pure, [0, 1, 2, 3, 5, 7, 8, 9, 12]), (.mem true, [4]), (.pure, [6]), (.mem true, [10]), (.pure, [11, 13, 14]), (.mem false, [15])] ?_ | refine s_flat 25 [(.pure, [0, 1, 3, 4]), (.mem true, [2, 5]), (.pure, [6, 7]), (.mem false, [8])] ?_))
  refine s_box fun ph => ?_
  (repeat (first | refine gw ?_ | refine g ?_ | refine s_flat 5 [(.pure, [0, 1, 2, 3, 7, 8, 9, 10, 15, 16, 17, 18, 23, 24, 25, 26]), (.mem true, [4]), (.pure, [5, 6]), (.mem true, [11]), (.pure, [12, 13, 14]), (.mem true, [19]), (.pure, [20, 21, 22]), (.mem true, [27]), (.pure, [28, 29, 30]), (.mem false, [31])] ?_ | refine s_flat 12 [(.pure, [0, 1, 2, 3, 5, 7, 8, 9, 12]), (.mem true, [4]), (.pure, [6]), (.mem true, [10]), (.pure, [11, 13, 14]), (.mem false, [15])] ?_ | refine s_flat 25 [(.pure, [0, 1, 3, 4]), (.mem true, [2, 5]), (.pure, [6, 7]), (.mem false, [8])] ?_))
  refine s_box fun pb => ?_
  (repeat (first | refine gw ?_ | refine g ?_ | refine s_flat 5 [(.pure, [0, 1, 2, 3, 7, 8, 9, 10, 15, 16, 17, 18, 23, 24, 25, 26]), (.mem true, [4]), (.pure, [5, 6]), (.mem true, [11]), (.pure, [12, 13, 14]), (.mem true, [19]), (.pure, [20, 21, 22]), (.mem true, [27]), (.pure, [28, 29, 30]), (.mem false, [31])] ?_ | refine s_flat 12 [(.pure, [0, 1, 2, 3, 5, 7, 8, 9, 12]), (.mem true, [4]), (.pure, [6]), (.mem true, [10]), (.pure, [11, 13, 14]), (.mem false, [15])] ?_ | refine s_flat 25 [(.pure, [0, 1, 3, 4]), (.mem true, [2, 5]), (.pure, [6, 7]), (.mem false, [8])] ?_))
  refine s_alloc fun pr => ?_
  (repeat (first | refine gw ?_ | refine g ?_ | refine s_flat 5 [(.pure, [0, 1, 2, 3, 7, 8, 9, 10, 15, 16, 17, 18, 23, 24, 25, 26]), (.mem true, [4]), (.pure, [5, 6]), (.mem true, [11]), (.pure, [12, 13, 14]), (.mem true, [19]), (.pure, [20, 21, 22]), (.mem true, [27]), (.pure, [28, 29, 30]), (.mem false, [31])] ?_ | refine s_flat 12 [(.pure, [0, 1, 2, 3, 5, 7, 8, 9, 12]), (.mem true, [4]), (.pure, [6]), (.mem true, [10]), (.pure, [11, 13, 14]), (.mem false, [15])] ?_ | refine s_flat 25 [(.pure, [0, 1, 3, 4]), (.mem true, [2, 5]), (.pure, [6, 7]), (.mem false, [8])] ?_))
  refine s_alloc fun pw => ?_
  refine s_ceq pw (wv (List.replicate 64 0)) ?_ ?_
  · rfl
  refine s_ceq pr (wv (List.replicate 8 0)) ?_ ?_
  · rfl
  (repeat (first | refine gw ?_ | refine g ?_ | refine s_flat 5 [(.pure, [0, 1, 2, 3, 7, 8, 9, 10, 15, 16, 17, 18, 23, 24, 25, 26]), (.mem true, [4]), (.pure, [5, 6]), (.mem true, [11]), (.pure, [12, 13, 14]), (.mem true, [19]), (.pure, [20, 21, 22]), (.mem true, [27]), (.pure, [28, 29, 30]), (.mem false, [31])] ?_ | refine s_flat 12 [(.pure, [0, 1, 2, 3, 5, 7, 8, 9, 12]), (.mem true, [4]), (.pure, [6]), (.mem true, [10]), (.pure, [11, 13, 14]), (.mem false, [15])] ?_ | refine s_flat 25 [(.pure, [0, 1, 3, 4]), (.mem true, [2, 5]), (.pure, [6, 7]), (.mem false, [8])] ?_))
  refine run_cutI (X := Unit) (fun _ => True) (fun _ => [(2, .pointer (some ⟨ph, 0, none⟩)), (3, .pointer (some ⟨pb, 0, none⟩)), (4, .pointer (some ⟨pr, 0, none⟩)), (5, .pointer (some ⟨pw, 0, none⟩))]) (fun _ => [cells pw 161 ⟨wv (first b 16 ++ List.replicate 48 0)⟩, cells pr 98 ⟨wv (List.replicate 8 0)⟩, cells pb 99 ⟨bv b⟩, cells ph 98 ⟨wv h⟩]) ?_ fun _ _ => ?_
  · refine run_loopI (X := Nat) (fun i => i ≤ 16) (fun i => [(2, .pointer (some ⟨ph, 0, none⟩)), (3, .pointer (some ⟨pb, 0, none⟩)), (4, .pointer (some ⟨pr, 0, none⟩)), (5, .pointer (some ⟨pw, 0, none⟩)), (16, .int .i64 (i : Int))]) (fun i => [cells pw 161 ⟨wv (first b i ++ List.replicate (64 - i) 0)⟩, cells pr 98 ⟨wv (List.replicate 8 0)⟩, cells pb 99 ⟨bv b⟩, cells ph 98 ⟨wv h⟩]) (fun i => 16 - i) 0 (Nat.zero_le _) fct shut ?_
    intro i hi
    have hfl := first_len b i
    (repeat (first | refine gw ?_ | refine g ?_ | refine s_flat 5 [(.pure, [0, 1, 2, 3, 7, 8, 9, 10, 15, 16, 17, 18, 23, 24, 25, 26]), (.mem true, [4]), (.pure, [5, 6]), (.mem true, [11]), (.pure, [12, 13, 14]), (.mem true, [19]), (.pure, [20, 21, 22]), (.mem true, [27]), (.pure, [28, 29, 30]), (.mem false, [31])] ?_ | refine s_flat 12 [(.pure, [0, 1, 2, 3, 5, 7, 8, 9, 12]), (.mem true, [4]), (.pure, [6]), (.mem true, [10]), (.pure, [11, 13, 14]), (.mem false, [15])] ?_ | refine s_flat 25 [(.pure, [0, 1, 3, 4]), (.mem true, [2, 5]), (.pure, [6, 7]), (.mem false, [8])] ?_))
    refine run_cond_dec rfl ?_ ?_
    · intro h1
      obtain ⟨m, hm⟩ : ∃ m, 64 - i = m + 1 := ⟨63 - i, by omega⟩
      have e0 : ((4 : Int) * (i : Int)).toNat = 4 * i := by omega
      have e1 : ((4 : Int) * (i : Int) + 1).toNat = 4 * i + 1 := by omega
      have e2 : ((4 : Int) * (i : Int) + 2).toNat = 4 * i + 2 := by omega
      have e3 : ((4 : Int) * (i : Int) + 3).toNat = 4 * i + 3 := by omega
      (repeat (first | refine gw ?_ | refine g ?_ | refine s_flat 5 [(.pure, [0, 1, 2, 3, 7, 8, 9, 10, 15, 16, 17, 18, 23, 24, 25, 26]), (.mem true, [4]), (.pure, [5, 6]), (.mem true, [11]), (.pure, [12, 13, 14]), (.mem true, [19]), (.pure, [20, 21, 22]), (.mem true, [27]), (.pure, [28, 29, 30]), (.mem false, [31])] ?_ | refine s_flat 12 [(.pure, [0, 1, 2, 3, 5, 7, 8, 9, 12]), (.mem true, [4]), (.pure, [6]), (.mem true, [10]), (.pure, [11, 13, 14]), (.mem false, [15])] ?_ | refine s_flat 25 [(.pure, [0, 1, 3, 4]), (.mem true, [2, 5]), (.pure, [6, 7]), (.mem false, [8])] ?_))
      refine s_ceq pw (wv (first b (i + 1) ++ List.replicate (64 - (i + 1)) 0)) ?_ ?_
      · rw [hm, set_end _ _ _ _ hfl, first_snoc, show 64 - (i + 1) = m by omega, e0, e1, e2, e3]; rfl
      exact run_stop_loop (i + 1) ⟨by omega, by omega⟩ fct shut
    · intro h1
      obtain rfl : i = 16 := by omega
      (repeat (first | refine gw ?_ | refine g ?_ | refine s_flat 5 [(.pure, [0, 1, 2, 3, 7, 8, 9, 10, 15, 16, 17, 18, 23, 24, 25, 26]), (.mem true, [4]), (.pure, [5, 6]), (.mem true, [11]), (.pure, [12, 13, 14]), (.mem true, [19]), (.pure, [20, 21, 22]), (.mem true, [27]), (.pure, [28, 29, 30]), (.mem false, [31])] ?_ | refine s_flat 12 [(.pure, [0, 1, 2, 3, 5, 7, 8, 9, 12]), (.mem true, [4]), (.pure, [6]), (.mem true, [10]), (.pure, [11, 13, 14]), (.mem false, [15])] ?_ | refine s_flat 25 [(.pure, [0, 1, 3, 4]), (.mem true, [2, 5]), (.pure, [6, 7]), (.mem false, [8])] ?_))
      exact run_stop_loop () trivial fct shut
  (repeat (first | refine gw ?_ | refine g ?_ | refine s_flat 5 [(.pure, [0, 1, 2, 3, 7, 8, 9, 10, 15, 16, 17, 18, 23, 24, 25, 26]), (.mem true, [4]), (.pure, [5, 6]), (.mem true, [11]), (.pure, [12, 13, 14]), (.mem true, [19]), (.pure, [20, 21, 22]), (.mem true, [27]), (.pure, [28, 29, 30]), (.mem false, [31])] ?_ | refine s_flat 12 [(.pure, [0, 1, 2, 3, 5, 7, 8, 9, 12]), (.mem true, [4]), (.pure, [6]), (.mem true, [10]), (.pure, [11, 13, 14]), (.mem false, [15])] ?_ | refine s_flat 25 [(.pure, [0, 1, 3, 4]), (.mem true, [2, 5]), (.pure, [6, 7]), (.mem false, [8])] ?_))
  refine run_cutI (X := Unit) (fun _ => True) (fun _ => [(2, .pointer (some ⟨ph, 0, none⟩)), (3, .pointer (some ⟨pb, 0, none⟩)), (4, .pointer (some ⟨pr, 0, none⟩)), (5, .pointer (some ⟨pw, 0, none⟩))]) (fun _ => [cells pw 161 ⟨wv (sched b 48)⟩, cells pr 98 ⟨wv (List.replicate 8 0)⟩, cells pb 99 ⟨bv b⟩, cells ph 98 ⟨wv h⟩]) ?_ fun _ _ => ?_
  · refine run_loopI (X := Nat) (fun k => k ≤ 48) (fun k => [(2, .pointer (some ⟨ph, 0, none⟩)), (3, .pointer (some ⟨pb, 0, none⟩)), (4, .pointer (some ⟨pr, 0, none⟩)), (5, .pointer (some ⟨pw, 0, none⟩)), (7, .int .i64 ((16 + k : Nat) : Int))]) (fun k => [cells pw 161 ⟨wv (sched b k ++ List.replicate (48 - k) 0)⟩, cells pr 98 ⟨wv (List.replicate 8 0)⟩, cells pb 99 ⟨bv b⟩, cells ph 98 ⟨wv h⟩]) (fun k => 48 - k) 0 (Nat.zero_le _) fct shut ?_
    intro k hk
    have hfl := sched_len b k
    (repeat (first | refine gw ?_ | refine g ?_ | refine s_flat 5 [(.pure, [0, 1, 2, 3, 7, 8, 9, 10, 15, 16, 17, 18, 23, 24, 25, 26]), (.mem true, [4]), (.pure, [5, 6]), (.mem true, [11]), (.pure, [12, 13, 14]), (.mem true, [19]), (.pure, [20, 21, 22]), (.mem true, [27]), (.pure, [28, 29, 30]), (.mem false, [31])] ?_ | refine s_flat 12 [(.pure, [0, 1, 2, 3, 5, 7, 8, 9, 12]), (.mem true, [4]), (.pure, [6]), (.mem true, [10]), (.pure, [11, 13, 14]), (.mem false, [15])] ?_ | refine s_flat 25 [(.pure, [0, 1, 3, 4]), (.mem true, [2, 5]), (.pure, [6, 7]), (.mem false, [8])] ?_))
    refine run_cond_dec rfl ?_ ?_
    · intro h1
      obtain ⟨m, hm⟩ : ∃ m, 48 - k = m + 1 := ⟨47 - k, by omega⟩
      have hW : (sched b k ++ List.replicate (48 - k) 0).length = 64 := by rw [List.length_append, hfl, List.length_replicate]; omega
      obtain ⟨W, hWe⟩ : ∃ W, W = sched b k ++ List.replicate (48 - k) 0 := ⟨_, rfl⟩
      rw [← hWe] at hW ⊢
      (repeat (first | refine gw ?_ | refine g ?_ | refine s_flat 5 [(.pure, [0, 1, 2, 3, 7, 8, 9, 10, 15, 16, 17, 18, 23, 24, 25, 26]), (.mem true, [4]), (.pure, [5, 6]), (.mem true, [11]), (.pure, [12, 13, 14]), (.mem true, [19]), (.pure, [20, 21, 22]), (.mem true, [27]), (.pure, [28, 29, 30]), (.mem false, [31])] ?_ | refine s_flat 12 [(.pure, [0, 1, 2, 3, 5, 7, 8, 9, 12]), (.mem true, [4]), (.pure, [6]), (.mem true, [10]), (.pure, [11, 13, 14]), (.mem false, [15])] ?_ | refine s_flat 25 [(.pure, [0, 1, 3, 4]), (.mem true, [2, 5]), (.pure, [6, 7]), (.mem false, [8])] ?_))
      refine d_start [] ?_
      (first | refine d_pure 0 ?_)
      (first | refine d_w32 1 ?_ | refine d_ari 1 ?_ | refine d_pure 1 ?_ | refine d_arith 1 ?_)
      (first | refine d_idan 2 ?_ | refine d_ida 2 ?_ | refine d_idsn 2 ?_ | refine d_ids 2 ?_ | refine d_idx1 2 ?_ | refine d_pure 2 ?_)
      (first | refine d_lw 3 ?_ | refine d_lb 3 ?_ | refine d_luv 3 ?_ | refine d_lbs 3 ?_ | refine d_load 3 ?_)
      (first | refine d_pure 5 ?_)
      (first | refine d_w32 6 ?_ | refine d_ari 6 ?_ | refine d_pure 6 ?_ | refine d_arith 6 ?_)
      (first | refine d_idan 7 ?_ | refine d_ida 7 ?_ | refine d_idsn 7 ?_ | refine d_ids 7 ?_ | refine d_idx1 7 ?_ | refine d_pure 7 ?_)
      (first | refine d_lw 8 ?_ | refine d_lb 8 ?_ | refine d_luv 8 ?_ | refine d_lbs 8 ?_ | refine d_load 8 ?_)
      (first | refine d_pure 11 ?_)
      (first | refine d_w32 12 ?_ | refine d_ari 12 ?_ | refine d_pure 12 ?_ | refine d_arith 12 ?_)
      (first | refine d_idan 13 ?_ | refine d_ida 13 ?_ | refine d_idsn 13 ?_ | refine d_ids 13 ?_ | refine d_idx1 13 ?_ | refine d_pure 13 ?_)
      (first | refine d_lw 14 ?_ | refine d_lb 14 ?_ | refine d_luv 14 ?_ | refine d_lbs 14 ?_ | refine d_load 14 ?_)
      (first | refine d_shr32 15 ?_ | refine d_shri32 15 ?_ | refine d_shrv 15 ?_)
      refine d_call 4 (sright_spec q (W.getD (((16 + k : Nat) : Int) - 15).toNat 0) 7 (by decide) (by decide)) ?_
      refine d_call 9 (sright_spec q (W.getD (((16 + k : Nat) : Int) - 15).toNat 0) 18 (by decide) (by decide)) ?_
      (first | refine d_w32 10 ?_ | refine d_i32 10 ?_ | refine d_w8 10 ?_ | refine d_w8c 10 ?_)
      (first | refine d_w32 16 ?_ | refine d_i32 16 ?_ | refine d_w8 16 ?_ | refine d_w8c 16 ?_)
      (first | refine d_pure 17 ?_)
      refine d_done ?_
      (repeat (first | refine gw ?_ | refine g ?_ | refine s_flat 5 [(.pure, [0, 1, 2, 3, 7, 8, 9, 10, 15, 16, 17, 18, 23, 24, 25, 26]), (.mem true, [4]), (.pure, [5, 6]), (.mem true, [11]), (.pure, [12, 13, 14]), (.mem true, [19]), (.pure, [20, 21, 22]), (.mem true, [27]), (.pure, [28, 29, 30]), (.mem false, [31])] ?_ | refine s_flat 12 [(.pure, [0, 1, 2, 3, 5, 7, 8, 9, 12]), (.mem true, [4]), (.pure, [6]), (.mem true, [10]), (.pure, [11, 13, 14]), (.mem false, [15])] ?_ | refine s_flat 25 [(.pure, [0, 1, 3, 4]), (.mem true, [2, 5]), (.pure, [6, 7]), (.mem false, [8])] ?_))
      refine d_start [] ?_
      (first | refine d_pure 0 ?_)
      (first | refine d_w32 1 ?_ | refine d_ari 1 ?_ | refine d_pure 1 ?_ | refine d_arith 1 ?_)
      (first | refine d_idan 2 ?_ | refine d_ida 2 ?_ | refine d_idsn 2 ?_ | refine d_ids 2 ?_ | refine d_idx1 2 ?_ | refine d_pure 2 ?_)
      (first | refine d_lw 3 ?_ | refine d_lb 3 ?_ | refine d_luv 3 ?_ | refine d_lbs 3 ?_ | refine d_load 3 ?_)
      (first | refine d_pure 5 ?_)
      (first | refine d_w32 6 ?_ | refine d_ari 6 ?_ | refine d_pure 6 ?_ | refine d_arith 6 ?_)
      (first | refine d_idan 7 ?_ | refine d_ida 7 ?_ | refine d_idsn 7 ?_ | refine d_ids 7 ?_ | refine d_idx1 7 ?_ | refine d_pure 7 ?_)
      (first | refine d_lw 8 ?_ | refine d_lb 8 ?_ | refine d_luv 8 ?_ | refine d_lbs 8 ?_ | refine d_load 8 ?_)
      (first | refine d_pure 11 ?_)
      (first | refine d_w32 12 ?_ | refine d_ari 12 ?_ | refine d_pure 12 ?_ | refine d_arith 12 ?_)
      (first | refine d_idan 13 ?_ | refine d_ida 13 ?_ | refine d_idsn 13 ?_ | refine d_ids 13 ?_ | refine d_idx1 13 ?_ | refine d_pure 13 ?_)
      (first | refine d_lw 14 ?_ | refine d_lb 14 ?_ | refine d_luv 14 ?_ | refine d_lbs 14 ?_ | refine d_load 14 ?_)
      (first | refine d_shr32 15 ?_ | refine d_shri32 15 ?_ | refine d_shrv 15 ?_)
      refine d_call 4 (sright_spec q (W.getD (((16 + k : Nat) : Int) - 2).toNat 0) 17 (by decide) (by decide)) ?_
      refine d_call 9 (sright_spec q (W.getD (((16 + k : Nat) : Int) - 2).toNat 0) 19 (by decide) (by decide)) ?_
      (first | refine d_w32 10 ?_ | refine d_i32 10 ?_ | refine d_w8 10 ?_ | refine d_w8c 10 ?_)
      (first | refine d_w32 16 ?_ | refine d_i32 16 ?_ | refine d_w8 16 ?_ | refine d_w8c 16 ?_)
      (first | refine d_pure 17 ?_)
      refine d_done ?_
      (repeat (first | refine gw ?_ | refine g ?_ | refine s_flat 5 [(.pure, [0, 1, 2, 3, 7, 8, 9, 10, 15, 16, 17, 18, 23, 24, 25, 26]), (.mem true, [4]), (.pure, [5, 6]), (.mem true, [11]), (.pure, [12, 13, 14]), (.mem true, [19]), (.pure, [20, 21, 22]), (.mem true, [27]), (.pure, [28, 29, 30]), (.mem false, [31])] ?_ | refine s_flat 12 [(.pure, [0, 1, 2, 3, 5, 7, 8, 9, 12]), (.mem true, [4]), (.pure, [6]), (.mem true, [10]), (.pure, [11, 13, 14]), (.mem false, [15])] ?_ | refine s_flat 25 [(.pure, [0, 1, 3, 4]), (.mem true, [2, 5]), (.pure, [6, 7]), (.mem false, [8])] ?_))
      refine s_ceq pw (wv (sched b (k + 1) ++ List.replicate (48 - (k + 1)) 0)) ?_ ?_
      · have g0 : W.getD (((16 + k : Nat) : Int) - 16).toNat 0 = (sched b k).getD (16 + k - 16) 0 := by rw [show (((16 + k : Nat) : Int) - 16).toNat = 16 + k - 16 by omega, hWe, getD_app _ _ _ (by omega)]
        have g1 : W.getD (((16 + k : Nat) : Int) - 15).toNat 0 = (sched b k).getD (16 + k - 15) 0 := by rw [show (((16 + k : Nat) : Int) - 15).toNat = 16 + k - 15 by omega, hWe, getD_app _ _ _ (by omega)]
        have g2 : W.getD (((16 + k : Nat) : Int) - 7).toNat 0 = (sched b k).getD (16 + k - 7) 0 := by rw [show (((16 + k : Nat) : Int) - 7).toNat = 16 + k - 7 by omega, hWe, getD_app _ _ _ (by omega)]
        have g3 : W.getD (((16 + k : Nat) : Int) - 2).toNat 0 = (sched b k).getD (16 + k - 2) 0 := by rw [show (((16 + k : Nat) : Int) - 2).toNat = 16 + k - 2 by omega, hWe, getD_app _ _ _ (by omega)]
        rw [g0, g1, g2, g3, hWe, hm, set_end _ _ _ _ hfl, show 48 - (k + 1) = m by omega]
        rfl
      exact run_stop_loop (k + 1) ⟨by omega, by omega⟩ fct shut
    · intro h1
      obtain rfl : k = 48 := by omega
      (repeat (first | refine gw ?_ | refine g ?_ | refine s_flat 5 [(.pure, [0, 1, 2, 3, 7, 8, 9, 10, 15, 16, 17, 18, 23, 24, 25, 26]), (.mem true, [4]), (.pure, [5, 6]), (.mem true, [11]), (.pure, [12, 13, 14]), (.mem true, [19]), (.pure, [20, 21, 22]), (.mem true, [27]), (.pure, [28, 29, 30]), (.mem false, [31])] ?_ | refine s_flat 12 [(.pure, [0, 1, 2, 3, 5, 7, 8, 9, 12]), (.mem true, [4]), (.pure, [6]), (.mem true, [10]), (.pure, [11, 13, 14]), (.mem false, [15])] ?_ | refine s_flat 25 [(.pure, [0, 1, 3, 4]), (.mem true, [2, 5]), (.pure, [6, 7]), (.mem false, [8])] ?_))
      refine s_ceq pw (wv (sched b 48)) ?_ ?_
      · rw [Nat.sub_self, List.replicate_zero, List.append_nil]
      exact run_stop_loop () trivial fct shut
  (repeat (first | refine gw ?_ | refine g ?_ | refine s_flat 5 [(.pure, [0, 1, 2, 3, 7, 8, 9, 10, 15, 16, 17, 18, 23, 24, 25, 26]), (.mem true, [4]), (.pure, [5, 6]), (.mem true, [11]), (.pure, [12, 13, 14]), (.mem true, [19]), (.pure, [20, 21, 22]), (.mem true, [27]), (.pure, [28, 29, 30]), (.mem false, [31])] ?_ | refine s_flat 12 [(.pure, [0, 1, 2, 3, 5, 7, 8, 9, 12]), (.mem true, [4]), (.pure, [6]), (.mem true, [10]), (.pure, [11, 13, 14]), (.mem false, [15])] ?_ | refine s_flat 25 [(.pure, [0, 1, 3, 4]), (.mem true, [2, 5]), (.pure, [6, 7]), (.mem false, [8])] ?_))
  refine s_call (constants_spec q) ?_
  (repeat (first | refine gw ?_ | refine g ?_ | refine s_flat 5 [(.pure, [0, 1, 2, 3, 7, 8, 9, 10, 15, 16, 17, 18, 23, 24, 25, 26]), (.mem true, [4]), (.pure, [5, 6]), (.mem true, [11]), (.pure, [12, 13, 14]), (.mem true, [19]), (.pure, [20, 21, 22]), (.mem true, [27]), (.pure, [28, 29, 30]), (.mem false, [31])] ?_ | refine s_flat 12 [(.pure, [0, 1, 2, 3, 5, 7, 8, 9, 12]), (.mem true, [4]), (.pure, [6]), (.mem true, [10]), (.pure, [11, 13, 14]), (.mem false, [15])] ?_ | refine s_flat 25 [(.pure, [0, 1, 3, 4]), (.mem true, [2, 5]), (.pure, [6, 7]), (.mem false, [8])] ?_))
  refine s_alloc fun pk => ?_
  (repeat (first | refine gw ?_ | refine g ?_ | refine s_flat 5 [(.pure, [0, 1, 2, 3, 7, 8, 9, 10, 15, 16, 17, 18, 23, 24, 25, 26]), (.mem true, [4]), (.pure, [5, 6]), (.mem true, [11]), (.pure, [12, 13, 14]), (.mem true, [19]), (.pure, [20, 21, 22]), (.mem true, [27]), (.pure, [28, 29, 30]), (.mem false, [31])] ?_ | refine s_flat 12 [(.pure, [0, 1, 2, 3, 5, 7, 8, 9, 12]), (.mem true, [4]), (.pure, [6]), (.mem true, [10]), (.pure, [11, 13, 14]), (.mem false, [15])] ?_ | refine s_flat 25 [(.pure, [0, 1, 3, 4]), (.mem true, [2, 5]), (.pure, [6, 7]), (.mem false, [8])] ?_))
  refine s_alloc fun ps => ?_
  (repeat (first | refine gw ?_ | refine g ?_ | refine s_flat 5 [(.pure, [0, 1, 2, 3, 7, 8, 9, 10, 15, 16, 17, 18, 23, 24, 25, 26]), (.mem true, [4]), (.pure, [5, 6]), (.mem true, [11]), (.pure, [12, 13, 14]), (.mem true, [19]), (.pure, [20, 21, 22]), (.mem true, [27]), (.pure, [28, 29, 30]), (.mem false, [31])] ?_ | refine s_flat 12 [(.pure, [0, 1, 2, 3, 5, 7, 8, 9, 12]), (.mem true, [4]), (.pure, [6]), (.mem true, [10]), (.pure, [11, 13, 14]), (.mem false, [15])] ?_ | refine s_flat 25 [(.pure, [0, 1, 3, 4]), (.mem true, [2, 5]), (.pure, [6, 7]), (.mem false, [8])] ?_))
  refine run_cutI (X := Unit) (fun _ => True) (fun _ => [(2, .pointer (some ⟨ph, 0, none⟩)), (3, .pointer (some ⟨pb, 0, none⟩)), (4, .pointer (some ⟨pr, 0, none⟩)), (5, .pointer (some ⟨pw, 0, none⟩)), (11, .pointer (some ⟨ps, 0, none⟩))]) (fun _ => [cells ps 98 ⟨wv (rounds h (sched b 48) 64)⟩, cells pr 98 ⟨wv (List.replicate 8 0)⟩, cells pb 99 ⟨bv b⟩, cells ph 98 ⟨wv h⟩]) ?_ fun _ _ => ?_
  · refine run_loopI (X := Nat) (fun i => i ≤ 64) (fun i => [(2, .pointer (some ⟨ph, 0, none⟩)), (3, .pointer (some ⟨pb, 0, none⟩)), (4, .pointer (some ⟨pr, 0, none⟩)), (5, .pointer (some ⟨pw, 0, none⟩)), (10, .pointer (some ⟨pk, 0, none⟩)), (11, .pointer (some ⟨ps, 0, none⟩)), (106, .int .i64 (i : Int))]) (fun i => [cells ps 98 ⟨wv (rounds h (sched b 48) i)⟩, cells pk 161 ⟨wv K⟩, cells pw 161 ⟨wv (sched b 48)⟩, cells pr 98 ⟨wv (List.replicate 8 0)⟩, cells pb 99 ⟨bv b⟩, cells ph 98 ⟨wv h⟩]) (fun i => 64 - i) 0 (Nat.zero_le _) fct shut ?_
    intro i hi
    have hrl := rounds_len h (sched b 48) i hh
    have hwl := sched_len b 48
    have hkl : K.length = 64 := rfl
    (repeat (first | refine gw ?_ | refine g ?_ | refine s_flat 5 [(.pure, [0, 1, 2, 3, 7, 8, 9, 10, 15, 16, 17, 18, 23, 24, 25, 26]), (.mem true, [4]), (.pure, [5, 6]), (.mem true, [11]), (.pure, [12, 13, 14]), (.mem true, [19]), (.pure, [20, 21, 22]), (.mem true, [27]), (.pure, [28, 29, 30]), (.mem false, [31])] ?_ | refine s_flat 12 [(.pure, [0, 1, 2, 3, 5, 7, 8, 9, 12]), (.mem true, [4]), (.pure, [6]), (.mem true, [10]), (.pure, [11, 13, 14]), (.mem false, [15])] ?_ | refine s_flat 25 [(.pure, [0, 1, 3, 4]), (.mem true, [2, 5]), (.pure, [6, 7]), (.mem false, [8])] ?_))
    refine run_cond_dec rfl ?_ ?_
    · intro h1
      obtain ⟨Z, hZ⟩ : ∃ Z, Z = rounds h (sched b 48) i := ⟨_, rfl⟩
      rw [← hZ] at hrl ⊢
      obtain ⟨W, hW⟩ : ∃ W, W = sched b 48 := ⟨_, rfl⟩
      rw [← hW] at hwl hZ ⊢
      obtain ⟨KK, hKK⟩ : ∃ KK, KK = K := ⟨_, rfl⟩
      rw [← hKK] at hkl ⊢
      (repeat (first | refine gw ?_ | refine g ?_ | refine s_flat 5 [(.pure, [0, 1, 2, 3, 7, 8, 9, 10, 15, 16, 17, 18, 23, 24, 25, 26]), (.mem true, [4]), (.pure, [5, 6]), (.mem true, [11]), (.pure, [12, 13, 14]), (.mem true, [19]), (.pure, [20, 21, 22]), (.mem true, [27]), (.pure, [28, 29, 30]), (.mem false, [31])] ?_ | refine s_flat 12 [(.pure, [0, 1, 2, 3, 5, 7, 8, 9, 12]), (.mem true, [4]), (.pure, [6]), (.mem true, [10]), (.pure, [11, 13, 14]), (.mem false, [15])] ?_ | refine s_flat 25 [(.pure, [0, 1, 3, 4]), (.mem true, [2, 5]), (.pure, [6, 7]), (.mem false, [8])] ?_))
      refine d_start [] ?_
      (first | refine d_idan 0 ?_ | refine d_ida 0 ?_ | refine d_idsn 0 ?_ | refine d_ids 0 ?_ | refine d_idx1 0 ?_ | refine d_pure 0 ?_)
      (first | refine d_lw 1 ?_ | refine d_lb 1 ?_ | refine d_luv 1 ?_ | refine d_lbs 1 ?_ | refine d_load 1 ?_)
      (first | refine d_idan 2 ?_ | refine d_ida 2 ?_ | refine d_idsn 2 ?_ | refine d_ids 2 ?_ | refine d_idx1 2 ?_ | refine d_pure 2 ?_)
      (first | refine d_lw 3 ?_ | refine d_lb 3 ?_ | refine d_luv 3 ?_ | refine d_lbs 3 ?_ | refine d_load 3 ?_)
      (first | refine d_idan 5 ?_ | refine d_ida 5 ?_ | refine d_idsn 5 ?_ | refine d_ids 5 ?_ | refine d_idx1 5 ?_ | refine d_pure 5 ?_)
      (first | refine d_lw 6 ?_ | refine d_lb 6 ?_ | refine d_luv 6 ?_ | refine d_lbs 6 ?_ | refine d_load 6 ?_)
      (first | refine d_idan 9 ?_ | refine d_ida 9 ?_ | refine d_idsn 9 ?_ | refine d_ids 9 ?_ | refine d_idx1 9 ?_ | refine d_pure 9 ?_)
      (first | refine d_lw 10 ?_ | refine d_lb 10 ?_ | refine d_luv 10 ?_ | refine d_lbs 10 ?_ | refine d_load 10 ?_)
      (first | refine d_idan 14 ?_ | refine d_ida 14 ?_ | refine d_idsn 14 ?_ | refine d_ids 14 ?_ | refine d_idx1 14 ?_ | refine d_pure 14 ?_)
      (first | refine d_lw 15 ?_ | refine d_lb 15 ?_ | refine d_luv 15 ?_ | refine d_lbs 15 ?_ | refine d_load 15 ?_)
      (first | refine d_idan 16 ?_ | refine d_ida 16 ?_ | refine d_idsn 16 ?_ | refine d_ids 16 ?_ | refine d_idx1 16 ?_ | refine d_pure 16 ?_)
      (first | refine d_lw 17 ?_ | refine d_lb 17 ?_ | refine d_luv 17 ?_ | refine d_lbs 17 ?_ | refine d_load 17 ?_)
      (first | refine d_w32 18 ?_ | refine d_i32 18 ?_ | refine d_w8 18 ?_ | refine d_w8c 18 ?_)
      (first | refine d_idan 19 ?_ | refine d_ida 19 ?_ | refine d_idsn 19 ?_ | refine d_ids 19 ?_ | refine d_idx1 19 ?_ | refine d_pure 19 ?_)
      (first | refine d_lw 20 ?_ | refine d_lb 20 ?_ | refine d_luv 20 ?_ | refine d_lbs 20 ?_ | refine d_load 20 ?_)
      (first | refine d_not32 21 ?_ | refine d_pure 21 ?_)
      (first | refine d_idan 22 ?_ | refine d_ida 22 ?_ | refine d_idsn 22 ?_ | refine d_ids 22 ?_ | refine d_idx1 22 ?_ | refine d_pure 22 ?_)
      (first | refine d_lw 23 ?_ | refine d_lb 23 ?_ | refine d_luv 23 ?_ | refine d_lbs 23 ?_ | refine d_load 23 ?_)
      (first | refine d_w32 24 ?_ | refine d_i32 24 ?_ | refine d_w8 24 ?_ | refine d_w8c 24 ?_)
      (first | refine d_w32 25 ?_ | refine d_i32 25 ?_ | refine d_w8 25 ?_ | refine d_w8c 25 ?_)
      (first | refine d_pure 27 ?_)
      (first | refine d_idan 28 ?_ | refine d_ida 28 ?_ | refine d_idsn 28 ?_ | refine d_ids 28 ?_ | refine d_idx1 28 ?_ | refine d_pure 28 ?_)
      (first | refine d_lw 29 ?_ | refine d_lb 29 ?_ | refine d_luv 29 ?_ | refine d_lbs 29 ?_ | refine d_load 29 ?_)
      (first | refine d_pure 31 ?_)
      (first | refine d_idan 32 ?_ | refine d_ida 32 ?_ | refine d_idsn 32 ?_ | refine d_ids 32 ?_ | refine d_idx1 32 ?_ | refine d_pure 32 ?_)
      (first | refine d_lw 33 ?_ | refine d_lb 33 ?_ | refine d_luv 33 ?_ | refine d_lbs 33 ?_ | refine d_load 33 ?_)
      refine d_call 4 (sright_spec q (Z.getD (Int.toNat 4) 0) 6 (by decide) (by decide)) ?_
      refine d_call 7 (sright_spec q (Z.getD (Int.toNat 4) 0) 11 (by decide) (by decide)) ?_
      (first | refine d_w32 8 ?_ | refine d_i32 8 ?_ | refine d_w8 8 ?_ | refine d_w8c 8 ?_)
      refine d_call 11 (sright_spec q (Z.getD (Int.toNat 4) 0) 25 (by decide) (by decide)) ?_
      (first | refine d_w32 12 ?_ | refine d_i32 12 ?_ | refine d_w8 12 ?_ | refine d_w8c 12 ?_)
      (first | refine d_w32 13 ?_ | refine d_ari 13 ?_ | refine d_concat 13 ?_ | refine d_pure 13 ?_ | refine d_arith 13 ?_)
      (first | refine d_w32 26 ?_ | refine d_ari 26 ?_ | refine d_concat 26 ?_ | refine d_pure 26 ?_ | refine d_arith 26 ?_)
      (first | refine d_w32 30 ?_ | refine d_ari 30 ?_ | refine d_concat 30 ?_ | refine d_pure 30 ?_ | refine d_arith 30 ?_)
      (first | refine d_w32 34 ?_ | refine d_ari 34 ?_ | refine d_concat 34 ?_ | refine d_pure 34 ?_ | refine d_arith 34 ?_)
      (first | refine d_pure 35 ?_)
      refine d_done ?_
      (repeat (first | refine gw ?_ | refine g ?_ | refine s_flat 5 [(.pure, [0, 1, 2, 3, 7, 8, 9, 10, 15, 16, 17, 18, 23, 24, 25, 26]), (.mem true, [4]), (.pure, [5, 6]), (.mem true, [11]), (.pure, [12, 13, 14]), (.mem true, [19]), (.pure, [20, 21, 22]), (.mem true, [27]), (.pure, [28, 29, 30]), (.mem false, [31])] ?_ | refine s_flat 12 [(.pure, [0, 1, 2, 3, 5, 7, 8, 9, 12]), (.mem true, [4]), (.pure, [6]), (.mem true, [10]), (.pure, [11, 13, 14]), (.mem false, [15])] ?_ | refine s_flat 25 [(.pure, [0, 1, 3, 4]), (.mem true, [2, 5]), (.pure, [6, 7]), (.mem false, [8])] ?_))
      refine d_start [] ?_
      (first | refine d_idan 0 ?_ | refine d_ida 0 ?_ | refine d_idsn 0 ?_ | refine d_ids 0 ?_ | refine d_idx1 0 ?_ | refine d_pure 0 ?_)
      (first | refine d_lw 1 ?_ | refine d_lb 1 ?_ | refine d_luv 1 ?_ | refine d_lbs 1 ?_ | refine d_load 1 ?_)
      (first | refine d_idan 3 ?_ | refine d_ida 3 ?_ | refine d_idsn 3 ?_ | refine d_ids 3 ?_ | refine d_idx1 3 ?_ | refine d_pure 3 ?_)
      (first | refine d_lw 4 ?_ | refine d_lb 4 ?_ | refine d_luv 4 ?_ | refine d_lbs 4 ?_ | refine d_load 4 ?_)
      (first | refine d_idan 7 ?_ | refine d_ida 7 ?_ | refine d_idsn 7 ?_ | refine d_ids 7 ?_ | refine d_idx1 7 ?_ | refine d_pure 7 ?_)
      (first | refine d_lw 8 ?_ | refine d_lb 8 ?_ | refine d_luv 8 ?_ | refine d_lbs 8 ?_ | refine d_load 8 ?_)
      (first | refine d_idan 11 ?_ | refine d_ida 11 ?_ | refine d_idsn 11 ?_ | refine d_ids 11 ?_ | refine d_idx1 11 ?_ | refine d_pure 11 ?_)
      (first | refine d_lw 12 ?_ | refine d_lb 12 ?_ | refine d_luv 12 ?_ | refine d_lbs 12 ?_ | refine d_load 12 ?_)
      (first | refine d_idan 13 ?_ | refine d_ida 13 ?_ | refine d_idsn 13 ?_ | refine d_ids 13 ?_ | refine d_idx1 13 ?_ | refine d_pure 13 ?_)
      (first | refine d_lw 14 ?_ | refine d_lb 14 ?_ | refine d_luv 14 ?_ | refine d_lbs 14 ?_ | refine d_load 14 ?_)
      (first | refine d_w32 15 ?_ | refine d_i32 15 ?_ | refine d_w8 15 ?_ | refine d_w8c 15 ?_)
      (first | refine d_idan 16 ?_ | refine d_ida 16 ?_ | refine d_idsn 16 ?_ | refine d_ids 16 ?_ | refine d_idx1 16 ?_ | refine d_pure 16 ?_)
      (first | refine d_lw 17 ?_ | refine d_lb 17 ?_ | refine d_luv 17 ?_ | refine d_lbs 17 ?_ | refine d_load 17 ?_)
      (first | refine d_idan 18 ?_ | refine d_ida 18 ?_ | refine d_idsn 18 ?_ | refine d_ids 18 ?_ | refine d_idx1 18 ?_ | refine d_pure 18 ?_)
      (first | refine d_lw 19 ?_ | refine d_lb 19 ?_ | refine d_luv 19 ?_ | refine d_lbs 19 ?_ | refine d_load 19 ?_)
      (first | refine d_w32 20 ?_ | refine d_i32 20 ?_ | refine d_w8 20 ?_ | refine d_w8c 20 ?_)
      (first | refine d_w32 21 ?_ | refine d_i32 21 ?_ | refine d_w8 21 ?_ | refine d_w8c 21 ?_)
      (first | refine d_idan 22 ?_ | refine d_ida 22 ?_ | refine d_idsn 22 ?_ | refine d_ids 22 ?_ | refine d_idx1 22 ?_ | refine d_pure 22 ?_)
      (first | refine d_lw 23 ?_ | refine d_lb 23 ?_ | refine d_luv 23 ?_ | refine d_lbs 23 ?_ | refine d_load 23 ?_)
      (first | refine d_idan 24 ?_ | refine d_ida 24 ?_ | refine d_idsn 24 ?_ | refine d_ids 24 ?_ | refine d_idx1 24 ?_ | refine d_pure 24 ?_)
      (first | refine d_lw 25 ?_ | refine d_lb 25 ?_ | refine d_luv 25 ?_ | refine d_lbs 25 ?_ | refine d_load 25 ?_)
      (first | refine d_w32 26 ?_ | refine d_i32 26 ?_ | refine d_w8 26 ?_ | refine d_w8c 26 ?_)
      (first | refine d_w32 27 ?_ | refine d_i32 27 ?_ | refine d_w8 27 ?_ | refine d_w8c 27 ?_)
      refine d_call 2 (sright_spec q (Z.getD (Int.toNat 0) 0) 2 (by decide) (by decide)) ?_
      refine d_call 5 (sright_spec q (Z.getD (Int.toNat 0) 0) 13 (by decide) (by decide)) ?_
      (first | refine d_w32 6 ?_ | refine d_i32 6 ?_ | refine d_w8 6 ?_ | refine d_w8c 6 ?_)
      refine d_call 9 (sright_spec q (Z.getD (Int.toNat 0) 0) 22 (by decide) (by decide)) ?_
      (first | refine d_w32 10 ?_ | refine d_i32 10 ?_ | refine d_w8 10 ?_ | refine d_w8c 10 ?_)
      (first | refine d_w32 28 ?_ | refine d_ari 28 ?_ | refine d_concat 28 ?_ | refine d_pure 28 ?_ | refine d_arith 28 ?_)
      (first | refine d_pure 29 ?_)
      refine d_done ?_
      (repeat (first | refine gw ?_ | refine g ?_ | refine s_flat 5 [(.pure, [0, 1, 2, 3, 7, 8, 9, 10, 15, 16, 17, 18, 23, 24, 25, 26]), (.mem true, [4]), (.pure, [5, 6]), (.mem true, [11]), (.pure, [12, 13, 14]), (.mem true, [19]), (.pure, [20, 21, 22]), (.mem true, [27]), (.pure, [28, 29, 30]), (.mem false, [31])] ?_ | refine s_flat 12 [(.pure, [0, 1, 2, 3, 5, 7, 8, 9, 12]), (.mem true, [4]), (.pure, [6]), (.mem true, [10]), (.pure, [11, 13, 14]), (.mem false, [15])] ?_ | refine s_flat 25 [(.pure, [0, 1, 3, 4]), (.mem true, [2, 5]), (.pure, [6, 7]), (.mem false, [8])] ?_))
      refine s_ceq ps (wv (rounds h W (i + 1))) ?_ ?_
      · rw [rounds, ← hZ]
        subst hKK
        rfl
      rw [hW, hKK]
      exact run_stop_loop (i + 1) ⟨by omega, by omega⟩ fct shut
    · intro h1
      obtain rfl : i = 64 := by omega
      (repeat (first | refine gw ?_ | refine g ?_ | refine s_flat 5 [(.pure, [0, 1, 2, 3, 7, 8, 9, 10, 15, 16, 17, 18, 23, 24, 25, 26]), (.mem true, [4]), (.pure, [5, 6]), (.mem true, [11]), (.pure, [12, 13, 14]), (.mem true, [19]), (.pure, [20, 21, 22]), (.mem true, [27]), (.pure, [28, 29, 30]), (.mem false, [31])] ?_ | refine s_flat 12 [(.pure, [0, 1, 2, 3, 5, 7, 8, 9, 12]), (.mem true, [4]), (.pure, [6]), (.mem true, [10]), (.pure, [11, 13, 14]), (.mem false, [15])] ?_ | refine s_flat 25 [(.pure, [0, 1, 3, 4]), (.mem true, [2, 5]), (.pure, [6, 7]), (.mem false, [8])] ?_))
      exact run_stop_loop () trivial fct shut
  obtain ⟨Z, hZ⟩ : ∃ Z, Z = rounds h (sched b 48) 64 := ⟨_, rfl⟩
  have hZl : Z.length = 8 := by rw [hZ]; exact rounds_len _ _ _ hh
  rw [← hZ]
  have hcz : compress h b = sums h Z 8 := by rw [hZ]; rfl
  rw [hcz]
  (repeat (first | refine gw ?_ | refine g ?_ | refine s_flat 5 [(.pure, [0, 1, 2, 3, 7, 8, 9, 10, 15, 16, 17, 18, 23, 24, 25, 26]), (.mem true, [4]), (.pure, [5, 6]), (.mem true, [11]), (.pure, [12, 13, 14]), (.mem true, [19]), (.pure, [20, 21, 22]), (.mem true, [27]), (.pure, [28, 29, 30]), (.mem false, [31])] ?_ | refine s_flat 12 [(.pure, [0, 1, 2, 3, 5, 7, 8, 9, 12]), (.mem true, [4]), (.pure, [6]), (.mem true, [10]), (.pure, [11, 13, 14]), (.mem false, [15])] ?_ | refine s_flat 25 [(.pure, [0, 1, 3, 4]), (.mem true, [2, 5]), (.pure, [6, 7]), (.mem false, [8])] ?_))
  refine run_cutI (X := Unit) (fun _ => True) (fun _ => [(2, .pointer (some ⟨ph, 0, none⟩)), (3, .pointer (some ⟨pb, 0, none⟩)), (4, .pointer (some ⟨pr, 0, none⟩)), (5, .pointer (some ⟨pw, 0, none⟩))]) (fun _ => [cells pr 98 ⟨wv (List.replicate 8 0)⟩, cells ph 98 ⟨wv (sums h Z 8)⟩]) ?_ fun _ _ => ?_
  · refine run_loopI (X := Nat) (fun i => i ≤ 8) (fun i => [(2, .pointer (some ⟨ph, 0, none⟩)), (3, .pointer (some ⟨pb, 0, none⟩)), (4, .pointer (some ⟨pr, 0, none⟩)), (5, .pointer (some ⟨pw, 0, none⟩)), (11, .pointer (some ⟨ps, 0, none⟩)), (194, .int .i64 (i : Int))]) (fun i => [cells ps 98 ⟨wv Z⟩, cells pr 98 ⟨wv (List.replicate 8 0)⟩, cells ph 98 ⟨wv (sums h Z i ++ h.drop i)⟩]) (fun i => 8 - i) 0 (Nat.zero_le _) fct shut ?_
    intro i hi
    have hsl := sums_len h Z i
    have hdl : (h.drop i).length = 8 - i := by rw [List.length_drop, hh]
    (repeat (first | refine gw ?_ | refine g ?_ | refine s_flat 5 [(.pure, [0, 1, 2, 3, 7, 8, 9, 10, 15, 16, 17, 18, 23, 24, 25, 26]), (.mem true, [4]), (.pure, [5, 6]), (.mem true, [11]), (.pure, [12, 13, 14]), (.mem true, [19]), (.pure, [20, 21, 22]), (.mem true, [27]), (.pure, [28, 29, 30]), (.mem false, [31])] ?_ | refine s_flat 12 [(.pure, [0, 1, 2, 3, 5, 7, 8, 9, 12]), (.mem true, [4]), (.pure, [6]), (.mem true, [10]), (.pure, [11, 13, 14]), (.mem false, [15])] ?_ | refine s_flat 25 [(.pure, [0, 1, 3, 4]), (.mem true, [2, 5]), (.pure, [6, 7]), (.mem false, [8])] ?_))
    refine run_cond_dec rfl ?_ ?_
    · intro h1
      have hD : h.drop i = h.getD i 0 :: h.drop (i + 1) := by
        rw [List.drop_eq_getElem_cons (by omega), List.getD_eq_getElem?_getD, List.getElem?_eq_getElem (by omega)]; rfl
      have hX : (sums h Z i ++ h.drop i).length = 8 := by rw [List.length_append, hsl, hdl]; omega
      have hg : (sums h Z i ++ h.drop i).getD i 0 = h.getD i 0 := by
        rw [hD, List.getD_eq_getElem?_getD, List.getElem?_append_right (by omega), hsl, Nat.sub_self]; rfl
      have hs : (sums h Z i ++ h.drop i).set i (h.getD i 0 + Z.getD i 0) = sums h Z (i + 1) ++ h.drop (i + 1) := by
        rw [hD, List.set_append_right _ _ (by omega), hsl, Nat.sub_self, List.set_cons_zero, sums_snoc, List.append_assoc]; rfl
      obtain ⟨X, hXe⟩ : ∃ X, X = sums h Z i ++ h.drop i := ⟨_, rfl⟩
      rw [← hXe] at hX hg hs ⊢
      (repeat (first | refine gw ?_ | refine g ?_ | refine s_flat 5 [(.pure, [0, 1, 2, 3, 7, 8, 9, 10, 15, 16, 17, 18, 23, 24, 25, 26]), (.mem true, [4]), (.pure, [5, 6]), (.mem true, [11]), (.pure, [12, 13, 14]), (.mem true, [19]), (.pure, [20, 21, 22]), (.mem true, [27]), (.pure, [28, 29, 30]), (.mem false, [31])] ?_ | refine s_flat 12 [(.pure, [0, 1, 2, 3, 5, 7, 8, 9, 12]), (.mem true, [4]), (.pure, [6]), (.mem true, [10]), (.pure, [11, 13, 14]), (.mem false, [15])] ?_ | refine s_flat 25 [(.pure, [0, 1, 3, 4]), (.mem true, [2, 5]), (.pure, [6, 7]), (.mem false, [8])] ?_))
      refine s_ceq ph (wv (sums h Z (i + 1) ++ h.drop (i + 1))) ?_ ?_
      · rw [hg, hs]
      exact run_stop_loop (i + 1) ⟨by omega, by omega⟩ fct shut
    · intro h1
      obtain rfl : i = 8 := by omega
      (repeat (first | refine gw ?_ | refine g ?_ | refine s_flat 5 [(.pure, [0, 1, 2, 3, 7, 8, 9, 10, 15, 16, 17, 18, 23, 24, 25, 26]), (.mem true, [4]), (.pure, [5, 6]), (.mem true, [11]), (.pure, [12, 13, 14]), (.mem true, [19]), (.pure, [20, 21, 22]), (.mem true, [27]), (.pure, [28, 29, 30]), (.mem false, [31])] ?_ | refine s_flat 12 [(.pure, [0, 1, 2, 3, 5, 7, 8, 9, 12]), (.mem true, [4]), (.pure, [6]), (.mem true, [10]), (.pure, [11, 13, 14]), (.mem false, [15])] ?_ | refine s_flat 25 [(.pure, [0, 1, 3, 4]), (.mem true, [2, 5]), (.pure, [6, 7]), (.mem false, [8])] ?_))
      refine s_ceq ph (wv (sums h Z 8)) ?_ ?_
      · rw [List.drop_eq_nil_of_le (by omega), List.append_nil]
      exact run_stop_loop () trivial fct shut
  have hsl := sums_len h Z 8
  (repeat (first | refine gw ?_ | refine g ?_ | refine s_flat 5 [(.pure, [0, 1, 2, 3, 7, 8, 9, 10, 15, 16, 17, 18, 23, 24, 25, 26]), (.mem true, [4]), (.pure, [5, 6]), (.mem true, [11]), (.pure, [12, 13, 14]), (.mem true, [19]), (.pure, [20, 21, 22]), (.mem true, [27]), (.pure, [28, 29, 30]), (.mem false, [31])] ?_ | refine s_flat 12 [(.pure, [0, 1, 2, 3, 5, 7, 8, 9, 12]), (.mem true, [4]), (.pure, [6]), (.mem true, [10]), (.pure, [11, 13, 14]), (.mem false, [15])] ?_ | refine s_flat 25 [(.pure, [0, 1, 3, 4]), (.mem true, [2, 5]), (.pure, [6, 7]), (.mem false, [8])] ?_))
  exact s_ret1 (imp_RD rfl shut)
end Go.Proofs.Ytajndpddlpnbkaa.V
namespace Go.Proofs.Ytajndpddlpnbkaa.V
open Go.Proofs.Ytajndpddlpnbkaa.VL Go.Proofs.Ytajndpddlpnbkaa.VL.Sha
attribute [local irreducible] Run
def mixR (st : List UInt32) (part : List UInt8) (held all : Nat) : List Value := wv st ++ (bv part ++ [.int .i64 (held : Int), .int .u64 (all : Int), .bool true])
section
variable {st : List UInt32} {part : List UInt8} {held all : Nat} (h1 : st.length = 8) (h2 : part.length = 64)
include h1 h2
theorem mixR_len : (mixR st part held all).length = 75 := by unfold mixR; simp [h1, h2]
theorem mixR_tail (i : Nat) : (mixR st part held all)[72 + i]? = [Value.int .i64 (held : Int), .int .u64 (all : Int), .bool true][i]? := by
  unfold mixR
  rw [List.getElem?_append_right (by rw [wv_length, h1]; omega), List.getElem?_append_right (by rw [wv_length, bv_length, h1, h2]; omega), wv_length, bv_length, h1, h2, show 72 + i - 8 - 64 = i by omega]
theorem mixR_held : (mixR st part held all)[72]? = some (.int .i64 (held : Int)) := mixR_tail h1 h2 0
theorem mixR_all : (mixR st part held all)[73]? = some (.int .u64 (all : Int)) := mixR_tail h1 h2 1
theorem mixR_made : (mixR st part held all)[74]? = some (.bool true) := mixR_tail h1 h2 2
theorem mixR_setH (n : Nat) : (mixR st part held all).set 72 (.int .i64 (n : Int)) = mixR st part n all := by
  unfold mixR
  rw [List.set_append_right _ _ (by rw [wv_length, h1]; omega), List.set_append_right _ _ (by rw [wv_length, bv_length, h1, h2]; omega), wv_length, bv_length, h1, h2]; rfl
theorem mixR_setA (n : Nat) : (mixR st part held all).set 73 (.int .u64 (n : Int)) = mixR st part held n := by
  unfold mixR
  rw [List.set_append_right _ _ (by rw [wv_length, h1]; omega), List.set_append_right _ _ (by rw [wv_length, bv_length, h1, h2]; omega), wv_length, bv_length, h1, h2]; rfl
omit h2 in
theorem mixR_state : ((mixR st part held all).drop 0).take 8 = wv st := by
  unfold mixR
  rw [List.drop_zero, List.take_append_of_le_length (by rw [wv_length, h1]; omega), List.take_of_length_le (by rw [wv_length, h1]; omega)]
theorem mixR_part : ((mixR st part held all).drop 8).take 64 = bv part := by
  unfold mixR
  have e : (wv st).length = 8 := by rw [wv_length, h1]
  rw [← e, List.drop_left, List.take_append_of_le_length (by rw [bv_length, h2]; omega), List.take_of_length_le (by rw [bv_length, h2]; omega)]
omit h2 in
theorem mixR_putS (s2 : List UInt32) (h3 : s2.length = 8) : putAt (mixR st part held all) 0 (wv s2) = mixR s2 part held all := by
  unfold putAt mixR
  have e : (wv st).length = 8 := by rw [wv_length, h1]
  rw [List.take_zero, List.nil_append, wv_length, h3, Nat.zero_add, ← e, List.drop_left]
theorem mixR_put (o : Nat) (u : List UInt8) (hu : o + u.length ≤ 64) : putAt (mixR st part held all) (8 + o) (bv u) = mixR st (lay part o u) held all := by
  unfold putAt mixR lay
  have e : (wv st).length = 8 := by rw [wv_length, h1]
  have eb : (bv part).length = 64 := by rw [bv_length, h2]
  rw [bv_length, show 8 + o + u.length = 8 + (o + u.length) by omega]
  rw [← e, List.take_length_add_append, List.drop_length_add_append]
  rw [List.take_append_of_le_length (by omega), List.drop_append_of_le_length (by omega)]
  rw [bv_append, bv_append]
  simp only [List.append_assoc]
  congr 1
  unfold bv
  rw [List.map_take, List.map_drop]
end
theorem toList_extract (r : ByteArray) (i j : Nat) : (r.extract i j).data.toList = (r.data.toList.drop i).take (j - i) := by
  rw [ByteArray.data_extract, Array.toList_extract]
theorem size_toList (r : ByteArray) : r.data.toList.length = r.size := by simp
theorem mixnew_spec (q : View) : FnX Try.prog q 68 [] [] (fun b : Nat => .pointer (some ⟨b, 0, none⟩)) fun b => [cells b 102 ⟨mixR H0 (List.replicate 64 0) 0 0⟩] := by
  (first | refine FnD.go Try.call68 Try.func68 rfl rfl rfl ?_ | refine FnX.go Try.call68 Try.func68 rfl rfl rfl ?_)
  (repeat (first | refine g ?_))
  refine s_box fun b => ?_
  (repeat (first | refine g ?_))
  refine s_ceq b (mixR H0 (List.replicate 64 0) 0 0) ?_ ?_
  · rfl
  exact run_ret rfl (imp_RX b rfl shut)
set_option maxHeartbeats 2000000 in
theorem feed_spec (q : View) (b : Nat) (t : List UInt8) (st : List UInt32) (part : List UInt8) (h : MixOf t st part) (s : ByteArray) (hs : t.length + s.size ≤ 1000000000000) :
    FnX Try.prog q 69 [.pointer (some ⟨b, 0, none⟩), .string s] [cells b 102 ⟨mixR st part (t.length % 64) t.length⟩] (fun _ : {x : List UInt32 × List UInt8 // MixOf (t ++ s.data.toList) x.1 x.2} => .tuple #[])
      fun x => [cells b 102 ⟨mixR x.1.1 x.1.2 ((t ++ s.data.toList).length % 64) (t ++ s.data.toList).length⟩] := by
  have h8 : st.length = 8 := by rw [h.st]; exact stateN_len _ _
  have h64 := h.pl
  have hml := mixR_len (held := t.length % 64) (all := t.length) h8 h64
  (first | refine FnD.go Try.call69 Try.func69 rfl rfl rfl ?_ | refine FnX.go Try.call69 Try.func69 rfl rfl rfl ?_)
  (repeat (first | refine g ?_ | refine s_flat 3 [(.pure, [0, 1, 2, 3, 4, 5, 8]), (.mem true, [6]), (.pure, [7]), (.mem false, [9]), (.pure, [10])] ?_ | refine s_flat 7 [(.pure, [0, 1, 2, 3, 5, 6, 7]), (.mem true, [4, 8]), (.mem false, [9]), (.pure, [10, 11]), (.mem false, [12])] ?_))
  refine s_loadat (mixR_made h8 h64) ?_
  (repeat (first | refine g ?_ | refine s_flat 3 [(.pure, [0, 1, 2, 3, 4, 5, 8]), (.mem true, [6]), (.pure, [7]), (.mem false, [9]), (.pure, [10])] ?_ | refine s_flat 7 [(.pure, [0, 1, 2, 3, 5, 6, 7]), (.mem true, [4, 8]), (.mem false, [9]), (.pure, [10, 11]), (.mem false, [12])] ?_))
  refine s_loadat (mixR_all h8 h64) ?_
  (repeat (first | refine g ?_ | refine s_flat 3 [(.pure, [0, 1, 2, 3, 4, 5, 8]), (.mem true, [6]), (.pure, [7]), (.mem false, [9]), (.pure, [10])] ?_ | refine s_flat 7 [(.pure, [0, 1, 2, 3, 5, 6, 7]), (.mem true, [4, 8]), (.mem false, [9]), (.pure, [10, 11]), (.mem false, [12])] ?_))
  refine s_storeset ?_
  refine s_ceq b (mixR st part (t.length % 64) (t.length + s.size)) ?_ ?_
  · rw [← mixR_setA h8 h64 (held := t.length % 64) (all := t.length) (t.length + s.size)]
    congr 2
    push_cast
    omega
  (repeat (first | refine gw ?_ | refine g ?_ | refine s_flat 3 [(.pure, [0, 1, 2, 3, 4, 5, 8]), (.mem true, [6]), (.pure, [7]), (.mem false, [9]), (.pure, [10])] ?_ | refine s_flat 7 [(.pure, [0, 1, 2, 3, 5, 6, 7]), (.mem true, [4, 8]), (.mem false, [9]), (.pure, [10, 11]), (.mem false, [12])] ?_))
  refine run_loopI (X := List UInt8 × ByteArray × List UInt32 × List UInt8) (fun x => x.1 ++ x.2.1.data.toList = s.data.toList ∧ MixOf (t ++ x.1) x.2.2.1 x.2.2.2) (fun x => [(0, .pointer (some ⟨b, 0, none⟩)), (1, .string x.2.1)]) (fun x => [cells b 102 ⟨mixR x.2.2.1 x.2.2.2 ((t ++ x.1).length % 64) (t.length + s.size)⟩])
    (fun x => x.2.1.size) ([], s, st, part) ⟨List.nil_append _, by rw [List.append_nil]; exact h⟩ fct (by dsimp only; rw [List.append_nil]; exact shut) ?_
  intro ⟨c, r, st, part⟩ ⟨hc, h⟩
  dsimp only at *
  have h8 : st.length = 8 := by rw [h.st]; exact stateN_len _ _
  have h64 := h.pl
  have hcl := congrArg List.length hc
  rw [List.length_append, size_toList, size_toList] at hcl
  have hrs := size_toList r
  obtain ⟨A, hA⟩ : ∃ A, A = t.length + s.size := ⟨_, rfl⟩
  rw [← hA]
  obtain ⟨H, hH⟩ : ∃ H, H = (t ++ c).length % 64 := ⟨_, rfl⟩
  have hml := mixR_len (held := H) (all := A) h8 h64
  rw [← hH]
  (repeat (first | refine gw ?_ | refine g ?_ | refine s_flat 3 [(.pure, [0, 1, 2, 3, 4, 5, 8]), (.mem true, [6]), (.pure, [7]), (.mem false, [9]), (.pure, [10])] ?_ | refine s_flat 7 [(.pure, [0, 1, 2, 3, 5, 6, 7]), (.mem true, [4, 8]), (.mem false, [9]), (.pure, [10, 11]), (.mem false, [12])] ?_))
  refine run_cond_dec rfl ?_ ?_
  · intro h1
    obtain ⟨m, hm⟩ : ∃ m, m = min r.size (64 - H) := ⟨_, rfl⟩
    obtain ⟨u, hu⟩ : ∃ u, u = r.data.toList.take m := ⟨_, rfl⟩
    have hul : u.length = m := by rw [hu, List.length_take]; omega
    (repeat (first | refine gw ?_ | refine g ?_ | refine s_flat 3 [(.pure, [0, 1, 2, 3, 4, 5, 8]), (.mem true, [6]), (.pure, [7]), (.mem false, [9]), (.pure, [10])] ?_ | refine s_flat 7 [(.pure, [0, 1, 2, 3, 5, 6, 7]), (.mem true, [4, 8]), (.mem false, [9]), (.pure, [10, 11]), (.mem false, [12])] ?_))
    refine s_loadat (mixR_held h8 h64) ?_
    (repeat (first | refine gw ?_ | refine g ?_ | refine s_flat 3 [(.pure, [0, 1, 2, 3, 4, 5, 8]), (.mem true, [6]), (.pure, [7]), (.mem false, [9]), (.pure, [10])] ?_ | refine s_flat 7 [(.pure, [0, 1, 2, 3, 5, 6, 7]), (.mem true, [4, 8]), (.mem false, [9]), (.pure, [10, 11]), (.mem false, [12])] ?_))
    refine s_slicearr (kk := 1) (8 + H) ?_
    (repeat (first | refine gw ?_ | refine g ?_ | refine s_flat 3 [(.pure, [0, 1, 2, 3, 4, 5, 8]), (.mem true, [6]), (.pure, [7]), (.mem false, [9]), (.pure, [10])] ?_ | refine s_flat 7 [(.pure, [0, 1, 2, 3, 5, 6, 7]), (.mem true, [4, 8]), (.mem false, [9]), (.pure, [10, 11]), (.mem false, [12])] ?_))
    refine s_copys m ?_ ?_
    · omega
    have h64' : (lay part H u).length = 64 := by rw [hH]; exact h.lay_len u (by omega)
    have hml2 := mixR_len (held := H) (all := A) h8 h64'
    have hml3 := mixR_len (held := H + m) (all := A) h8 h64'
    refine s_ceq b (mixR st (lay part H u) H A) ?_ ?_
    · rw [← hu, mixR_put h8 h64 H u (by omega)]
    (repeat (first | refine gw ?_ | refine g ?_ | refine s_flat 3 [(.pure, [0, 1, 2, 3, 4, 5, 8]), (.mem true, [6]), (.pure, [7]), (.mem false, [9]), (.pure, [10])] ?_ | refine s_flat 7 [(.pure, [0, 1, 2, 3, 5, 6, 7]), (.mem true, [4, 8]), (.mem false, [9]), (.pure, [10, 11]), (.mem false, [12])] ?_))
    refine s_loadat (mixR_held h8 h64') ?_
    (repeat (first | refine gw ?_ | refine g ?_ | refine s_flat 3 [(.pure, [0, 1, 2, 3, 4, 5, 8]), (.mem true, [6]), (.pure, [7]), (.mem false, [9]), (.pure, [10])] ?_ | refine s_flat 7 [(.pure, [0, 1, 2, 3, 5, 6, 7]), (.mem true, [4, 8]), (.mem false, [9]), (.pure, [10, 11]), (.mem false, [12])] ?_))
    refine s_storeset ?_
    refine s_ceq b (mixR st (lay part H u) (H + m) A) ?_ ?_
    · rw [← mixR_setH h8 h64' (held := H) (all := A) (H + m)]; push_cast; rfl
    have er : (r.extract (m : Int).toNat (r.size : Int).toNat).data.toList = r.data.toList.drop m := by
      rw [toList_extract, Int.toNat_natCast, Int.toNat_natCast, List.take_of_length_le]
      rw [List.length_drop]; omega
    have ez : (r.extract (m : Int).toNat (r.size : Int).toNat).size = r.size - m := by rw [← size_toList, er, List.length_drop, hrs]
    have hc' : (c ++ u) ++ (r.data.toList.drop m) = s.data.toList := by rw [hu, List.append_assoc, List.take_append_drop, hc]
    (repeat (first | refine gw ?_ | refine g ?_ | refine s_flat 3 [(.pure, [0, 1, 2, 3, 4, 5, 8]), (.mem true, [6]), (.pure, [7]), (.mem false, [9]), (.pure, [10])] ?_ | refine s_flat 7 [(.pure, [0, 1, 2, 3, 5, 6, 7]), (.mem true, [4, 8]), (.mem false, [9]), (.pure, [10, 11]), (.mem false, [12])] ?_))
    obtain ⟨r', hr'⟩ : ∃ r', r' = r.extract (m : Int).toNat (r.size : Int).toNat := ⟨_, rfl⟩
    rw [← hr'] at er ez ⊢
    refine s_loadat (mixR_held h8 h64') ?_
    have hlen : (t ++ (c ++ u)).length = (t ++ c).length + m := by rw [← List.append_assoc, List.length_append, hul]
    by_cases hf : H + m = 64
    · have hM := h.full u (by rw [← hH, hul]; omega)
      rw [← hH] at hM
      have hcl := compress_len st (lay part H u)
      have hml4 := mixR_len (held := H + m) (all := A) hcl h64'
      (repeat (first | refine gw ?_ | refine g ?_ | refine s_flat 3 [(.pure, [0, 1, 2, 3, 4, 5, 8]), (.mem true, [6]), (.pure, [7]), (.mem false, [9]), (.pure, [10])] ?_ | refine s_flat 7 [(.pure, [0, 1, 2, 3, 5, 6, 7]), (.mem true, [4, 8]), (.mem false, [9]), (.pure, [10, 11]), (.mem false, [12])] ?_))
      refine s_getat (mixR_state h8) ?_
      (repeat (first | refine gw ?_ | refine g ?_ | refine s_flat 3 [(.pure, [0, 1, 2, 3, 4, 5, 8]), (.mem true, [6]), (.pure, [7]), (.mem false, [9]), (.pure, [10])] ?_ | refine s_flat 7 [(.pure, [0, 1, 2, 3, 5, 6, 7]), (.mem true, [4, 8]), (.mem false, [9]), (.pure, [10, 11]), (.mem false, [12])] ?_))
      refine s_getat (mixR_part h8 h64') ?_
      (repeat (first | refine gw ?_ | refine g ?_ | refine s_flat 3 [(.pure, [0, 1, 2, 3, 4, 5, 8]), (.mem true, [6]), (.pure, [7]), (.mem false, [9]), (.pure, [10])] ?_ | refine s_flat 7 [(.pure, [0, 1, 2, 3, 5, 6, 7]), (.mem true, [4, 8]), (.mem false, [9]), (.pure, [10, 11]), (.mem false, [12])] ?_))
      refine s_call (turned_spec q st h8 (lay part H u) h64') ?_
      (repeat (first | refine gw ?_ | refine g ?_ | refine s_flat 3 [(.pure, [0, 1, 2, 3, 4, 5, 8]), (.mem true, [6]), (.pure, [7]), (.mem false, [9]), (.pure, [10])] ?_ | refine s_flat 7 [(.pure, [0, 1, 2, 3, 5, 6, 7]), (.mem true, [4, 8]), (.mem false, [9]), (.pure, [10, 11]), (.mem false, [12])] ?_))
      refine s_put ?_
      refine s_ceq b (mixR (compress st (lay part H u)) (lay part H u) (H + m) A) ?_ ?_
      · rw [mixR_putS h8 _ hcl]
      (repeat (first | refine gw ?_ | refine g ?_ | refine s_flat 3 [(.pure, [0, 1, 2, 3, 4, 5, 8]), (.mem true, [6]), (.pure, [7]), (.mem false, [9]), (.pure, [10])] ?_ | refine s_flat 7 [(.pure, [0, 1, 2, 3, 5, 6, 7]), (.mem true, [4, 8]), (.mem false, [9]), (.pure, [10, 11]), (.mem false, [12])] ?_))
      refine s_storeset ?_
      refine s_ceq b (mixR (compress st (lay part H u)) (lay part H u) ((t ++ (c ++ u)).length % 64) A) ?_ ?_
      · rw [show (t ++ (c ++ u)).length % 64 = 0 by omega, ← mixR_setH hcl h64' (held := H + m) (all := A) 0]; rfl
      (repeat (first | refine gw ?_ | refine g ?_ | refine s_flat 3 [(.pure, [0, 1, 2, 3, 4, 5, 8]), (.mem true, [6]), (.pure, [7]), (.mem false, [9]), (.pure, [10])] ?_ | refine s_flat 7 [(.pure, [0, 1, 2, 3, 5, 6, 7]), (.mem true, [4, 8]), (.mem false, [9]), (.pure, [10, 11]), (.mem false, [12])] ?_))
      refine run_stop_loop (c ++ u, r', compress st (lay part H u), lay part H u) ⟨⟨by dsimp only; rw [er]; exact hc', by dsimp only; rw [← List.append_assoc]; exact hM⟩, by dsimp only; omega⟩ fct ?_
      exact shut
    · have hM := h.more u (by rw [← hH, hul]; omega)
      rw [← hH] at hM
      (repeat (first | refine gw ?_ | refine g ?_ | refine s_flat 3 [(.pure, [0, 1, 2, 3, 4, 5, 8]), (.mem true, [6]), (.pure, [7]), (.mem false, [9]), (.pure, [10])] ?_ | refine s_flat 7 [(.pure, [0, 1, 2, 3, 5, 6, 7]), (.mem true, [4, 8]), (.mem false, [9]), (.pure, [10, 11]), (.mem false, [12])] ?_))
      refine run_stop_loop (c ++ u, r', st, lay part H u) ⟨⟨by dsimp only; rw [er]; exact hc', by dsimp only; rw [← List.append_assoc]; exact hM⟩, by dsimp only; omega⟩ fct ?_
      dsimp only
      rw [show (t ++ (c ++ u)).length % 64 = H + m by omega]
      exact shut
  · intro h1
    have hc0 : c = s.data.toList := by
      have : r.data.toList = [] := List.eq_nil_of_length_eq_zero (by omega)
      rw [this, List.append_nil] at hc
      exact hc
    have hM : MixOf (t ++ s.data.toList) st part := by rw [← hc0]; exact h
    have hAl : A = (t ++ s.data.toList).length := by rw [List.length_append, size_toList]; omega
    rw [hH, hAl, hc0]
    (repeat (first | refine gw ?_ | refine g ?_ | refine s_flat 3 [(.pure, [0, 1, 2, 3, 4, 5, 8]), (.mem true, [6]), (.pure, [7]), (.mem false, [9]), (.pure, [10])] ?_ | refine s_flat 7 [(.pure, [0, 1, 2, 3, 5, 6, 7]), (.mem true, [4, 8]), (.mem false, [9]), (.pure, [10, 11]), (.mem false, [12])] ?_))
    exact run_end rfl (imp_RX ⟨(st, part), hM⟩ rfl shut)
end Go.Proofs.Ytajndpddlpnbkaa.V
namespace Go.Proofs.Ytajndpddlpnbkaa.V
open Go.Proofs.Ytajndpddlpnbkaa.VL Go.Proofs.Ytajndpddlpnbkaa.VL.Sha
attribute [local irreducible] Run
theorem set_end8 (l : List UInt8) (m : Nat) (v : UInt8) (i : Nat) (hi : l.length = i) : (l ++ List.replicate (m + 1) 0).set i v = (l ++ [v]) ++ List.replicate m 0 := by
  subst hi
  rw [List.replicate_succ, List.set_append_right _ _ (Nat.le_refl _), Nat.sub_self, List.set_cons_zero, List.append_assoc]; rfl
theorem mixR_one (st : List UInt32) (part : List UInt8) (a c : Nat) : (mixR st part a c).all one1 = true := by
  unfold mixR
  rw [List.all_append, List.all_append, wv_one, bv_one]; rfl
set_option maxHeartbeats 4000000 in
theorem told_spec (q : View) (b : Nat) (t : List UInt8) (st : List UInt32) (part : List UInt8) (h : MixOf t st part) (ht : t.length ≤ 100000000000) :
    FnD Try.prog q 70 [.pointer (some ⟨b, 0, none⟩)] [cells b 102 ⟨mixR st part (t.length % 64) t.length⟩] (.string ⟨(sha t).toArray⟩) [cells b 102 ⟨mixR st part (t.length % 64) t.length⟩] := by
  have h8 : st.length = 8 := by rw [h.st]; exact stateN_len _ _
  have h64 := h.pl
  have hml := mixR_len (held := t.length % 64) (all := t.length) h8 h64
  (first | refine FnD.go Try.call70 Try.func70 rfl rfl rfl ?_ | refine FnX.go Try.call70 Try.func70 rfl rfl rfl ?_)
  (repeat (first | refine gw ?_ | refine g ?_))
  refine s_loadat (mixR_made h8 h64) ?_
  (repeat (first | refine gw ?_ | refine g ?_))
  refine s_alloc fun z => ?_
  (repeat (first | refine gw ?_ | refine g ?_))
  refine s_putall (h1 := mixR_one _ _ _ _) (hz := hml) (hi := hml) ?_
  (repeat (first | refine gw ?_ | refine g ?_))
  refine s_loadat (mixR_all h8 h64) ?_
  (repeat (first | refine gw ?_ | refine g ?_))
  refine s_to 4 (w := .int .u64 ((8 * t.length : Nat) : Int)) ?_ ?_
  · congr 1; omega
  refine s_callx (feed_spec q z t st part h ⟨#[128]⟩ (by show t.length + 1 ≤ _; omega)) fun x => ?_
  obtain ⟨⟨st1, part1⟩, hx⟩ := x
  dsimp only at hx ⊢
  rw [show t ++ (⟨#[128]⟩ : ByteArray).data.toList = marked t 0 by simp [marked]] at hx ⊢
  (repeat (first | refine gw ?_ | refine g ?_))
  refine run_cutI (X := List UInt32 × List UInt8) (fun x => MixOf (marked t (noughts t.length)) x.1 x.2) (fun x => [(3, .pointer (some ⟨z, 0, none⟩)), (4, .int .u64 ((8 * t.length : Nat) : Int)), (0, .pointer (some ⟨b, 0, none⟩))]) (fun x => [cells z 102 ⟨mixR x.1 x.2 ((marked t (noughts t.length)).length % 64) (marked t (noughts t.length)).length⟩, cells b 102 ⟨mixR st part (t.length % 64) t.length⟩]) ?_ fun ⟨st2, part2⟩ hx => ?_
  · refine run_loopI (X := Nat × List UInt32 × List UInt8) (fun x => x.1 ≤ noughts t.length ∧ MixOf (marked t x.1) x.2.1 x.2.2) (fun x => [(3, .pointer (some ⟨z, 0, none⟩)), (4, .int .u64 ((8 * t.length : Nat) : Int)), (0, .pointer (some ⟨b, 0, none⟩))]) (fun x => [cells z 102 ⟨mixR x.2.1 x.2.2 ((marked t x.1).length % 64) (marked t x.1).length⟩, cells b 102 ⟨mixR st part (t.length % 64) t.length⟩]) (fun x => noughts t.length - x.1) (0, st1, part1) ⟨Nat.zero_le _, hx⟩ fct shut ?_
    intro ⟨k, st2, part2⟩ ⟨hk, hx⟩
    dsimp only at *
    have g8 : st2.length = 8 := by rw [hx.st]; exact stateN_len _ _
    have g64 := hx.pl
    have hmk := marked_len t k
    have hn : noughts t.length = (119 - t.length % 64) % 64 := rfl
    (repeat (first | refine gw ?_ | refine g ?_))
    refine s_loadat (mixR_held g8 g64) ?_
    (repeat (first | refine gw ?_ | refine g ?_))
    refine run_cond_dec rfl ?_ ?_
    · intro h1
      have hkl : k < noughts t.length := by omega
      (repeat (first | refine gw ?_ | refine g ?_))
      refine s_callx (feed_spec q z (marked t k) st2 part2 hx ⟨#[0]⟩ (by show (marked t k).length + 1 ≤ _; omega)) fun x => ?_
      obtain ⟨⟨st3, part3⟩, hy⟩ := x
      dsimp only at hy ⊢
      rw [show marked t k ++ (⟨#[0]⟩ : ByteArray).data.toList = marked t (k + 1) from (marked_snoc t k).symm] at hy ⊢
      (repeat (first | refine gw ?_ | refine g ?_))
      exact run_stop_loop (k + 1, st3, part3) ⟨⟨by omega, hy⟩, by dsimp only; omega⟩ fct shut
    · intro h1
      obtain rfl : k = noughts t.length := by omega
      (repeat (first | refine gw ?_ | refine g ?_))
      exact run_stop_loop (st2, part2) hx fct shut
  dsimp only at *
  have hmk := marked_len t (noughts t.length)
  have hn : noughts t.length = (119 - t.length % 64) % 64 := rfl
  (repeat (first | refine gw ?_ | refine g ?_))
  refine s_alloc fun n => ?_
  (repeat (first | refine gw ?_ | refine g ?_))
  refine s_ceq n (bv (lenBytes t.length 0 ++ List.replicate 8 0)) ?_ ?_
  · rfl
  refine run_cutI (X := Unit) (fun _ => True) (fun x => [(3, .pointer (some ⟨z, 0, none⟩)), (5, .pointer (some ⟨n, 0, none⟩)), (0, .pointer (some ⟨b, 0, none⟩))]) (fun _ => [cells n 132 ⟨bv (lenBytes t.length 8)⟩, cells z 102 ⟨mixR st2 part2 ((marked t (noughts t.length)).length % 64) (marked t (noughts t.length)).length⟩, cells b 102 ⟨mixR st part (t.length % 64) t.length⟩]) ?_ fun _ _ => ?_
  · refine run_loopI (X := Nat) (fun i => i ≤ 8) (fun i => [(3, .pointer (some ⟨z, 0, none⟩)), (4, .int .u64 ((8 * t.length : Nat) : Int)), (5, .pointer (some ⟨n, 0, none⟩)), (30, .int .i64 (i : Int)), (0, .pointer (some ⟨b, 0, none⟩))]) (fun i => [cells n 132 ⟨bv (lenBytes t.length i ++ List.replicate (8 - i) 0)⟩, cells z 102 ⟨mixR st2 part2 ((marked t (noughts t.length)).length % 64) (marked t (noughts t.length)).length⟩, cells b 102 ⟨mixR st part (t.length % 64) t.length⟩]) (fun i => 8 - i) 0 (Nat.zero_le _) fct shut ?_
    intro i hi
    have hll := lenBytes_len t.length i
    (repeat (first | refine gw ?_ | refine g ?_))
    refine run_cond_dec rfl ?_ ?_
    · intro h1
      obtain ⟨m, hm⟩ : ∃ m, 8 - i = m + 1 := ⟨7 - i, by omega⟩
      (repeat (first | refine gw ?_ | refine g ?_))
      obtain ⟨Q, hQ⟩ : ∃ Q : Nat, Q = 8 * t.length / 2 ^ (56 - 8 * i) := ⟨_, rfl⟩
      have hQi : ((8 * t.length : Nat) : Int) / 2 ^ (56 - 8 * (i : Int)).toNat = (Q : Int) := by
        rw [show (56 - 8 * (i : Int)).toNat = 56 - 8 * i by omega, hQ]
        push_cast; rfl
      refine s_to 39 (w := .int .u8 ((UInt8.ofNat Q).toNat : Int)) ?_ ?_
      · rw [hQi, UInt8.toNat_ofNat']; congr 1
      (repeat (first | refine gw ?_ | refine g ?_))
      refine s_ceq n (bv (lenBytes t.length (i + 1) ++ List.replicate (8 - (i + 1)) 0)) ?_ ?_
      · rw [hm, set_end8 _ _ _ _ hll, lenBytes_snoc, hQ, show 8 - (i + 1) = m by omega]
      exact run_stop_loop (i + 1) ⟨by omega, by omega⟩ fct shut
    · intro h1
      obtain rfl : i = 8 := by omega
      (repeat (first | refine gw ?_ | refine g ?_))
      refine s_ceq n (bv (lenBytes t.length 8)) ?_ ?_
      · rw [Nat.sub_self, List.replicate_zero, List.append_nil]
      exact run_stop_loop () trivial fct shut
  have hl8 := lenBytes_len t.length 8
  (repeat (first | refine gw ?_ | refine g ?_))
  refine s_slicearr (kk := 1) 0 ?_
  (repeat (first | refine gw ?_ | refine g ?_))
  refine s_stringc (m := 8) (o := 0) (c := ⟨bv (lenBytes t.length 8)⟩) (l := lenBytes t.length 8) hl8 ?_ ?_
  · show ((bv (lenBytes t.length 8)).drop 0).take 8 = _
    rw [List.drop_zero, List.take_of_length_le (by rw [bv_length]; omega)]
  (repeat (first | refine gw ?_ | refine g ?_))
  refine s_callx (feed_spec q z _ st2 part2 hx ⟨(lenBytes t.length 8).toArray⟩ (by show _ + (lenBytes t.length 8).toArray.size ≤ _; rw [List.size_toArray, hl8]; omega)) fun x => ?_
  obtain ⟨⟨st3, part3⟩, hy⟩ := x
  dsimp only at hy ⊢
  have hy : MixOf (pad t) st3 part3 := hy
  have k8 : st3.length = 8 := by rw [hy.st]; exact stateN_len _ _
  have hsha : sha t = outN st3 8 := hy.sha.symm
  rw [hsha]
  (repeat (first | refine gw ?_ | refine g ?_))
  refine s_getat (mixR_state k8) (hle := by rw [mixR_len k8 hy.pl]; decide) ?_
  (repeat (first | refine gw ?_ | refine g ?_))
  refine run_loopI (X := Nat × Option Addr × Nat) (fun x => x.1 ≤ 8) (fun x => [(46, .agg ⟨wv st3⟩), (47, .int .i64 (x.1 : Int)), (7, .slice x.2.1 (outN st3 x.1).length x.2.2)]) (fun x => [sl x.2.1 (outN st3 x.1).length x.2.2 5 1 (bv (outN st3 x.1)), cells b 102 ⟨mixR st part (t.length % 64) t.length⟩]) (fun x => 8 - x.1) (0, none, 0) (Nat.zero_le _) fct shut ?_
  intro ⟨i, p, c⟩ hi
  dsimp only at *
  have hol := outN_len st3 i
  (repeat (first | refine gw ?_ | refine g ?_))
  refine run_cond_dec rfl ?_ ?_
  · intro h1
    (repeat (first | refine gw ?_ | refine g ?_))
    refine s_built fun r1 => ?_
    (repeat (first | refine gw ?_ | refine g ?_))
    refine s_app 1 1 (reads_own At.head rfl) (hxl := by rw [bv_length, Nat.mul_one]) fun r2 => ?_
    refine s_eq (show _ = bv (outN st3 (i + 1)) by rw [outN_snoc, bv_append]) ?_
    have el : (outN st3 i).length + 4 = (outN st3 (i + 1)).length := by rw [outN_len, outN_len]; omega
    rw [el]
    (repeat (first | refine gw ?_ | refine g ?_))
    exact run_stop_loop (i + 1, r2.1, r2.2) ⟨by dsimp only; omega, by dsimp only; omega⟩ fct shut
  · intro h1
    obtain rfl : i = 8 := by omega
    (repeat (first | refine gw ?_ | refine g ?_))
    refine s_string ?_
    (repeat (first | refine gw ?_ | refine g ?_))
    exact run_ret rfl (imp_RD rfl shut)
theorem sum_spec (q : View) (s : ByteArray) (hs : s.size ≤ 100000000000) : FnD Try.prog q 67 [.string s] [] (.string (shaB s)) [] := by
  (first | refine FnD.go Try.call67 Try.func67 rfl rfl rfl ?_ | refine FnX.go Try.call67 Try.func67 rfl rfl rfl ?_)
  (repeat (first | refine g ?_))
  refine s_callx (mixnew_spec q) fun b => ?_
  (repeat (first | refine g ?_))
  have c := feed_spec q b [] H0 (List.replicate 64 0) MixOf.nil s (by show 0 + _ ≤ _; omega)
  rw [show ([] : List UInt8).length % 64 = 0 from rfl, show ([] : List UInt8).length = 0 from rfl] at c
  refine s_callx c fun x => ?_
  obtain ⟨⟨st3, part3⟩, hy⟩ := x
  dsimp only at hy ⊢
  rw [List.nil_append] at hy ⊢
  (repeat (first | refine g ?_))
  refine s_call (told_spec q b _ st3 part3 hy (by rw [size_toList]; exact hs)) ?_
  (repeat (first | refine g ?_))
  exact run_ret rfl (imp_RD rfl shut)
end Go.Proofs.Ytajndpddlpnbkaa.V
