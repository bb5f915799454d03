/- The reference's tag is the specification's. -/
import Derived.Test.YtajjbgkbceobmaaRD4
set_option maxRecDepth 10000
set_option linter.unusedVariables false
namespace Go.Proofs.Ytajjbgkbceobmaa.V
open Go.Proofs.Ytajjbgkbceobmaa.VL Go.Proofs.Ytajjbgkbceobmaa.VL.RD
attribute [local irreducible] Run
theorem polyH_step (r h : Nat) (l : List Nat) (hl : l ≠ []) : Spec.polyH r h l = Spec.polyH r (((h + Spec.le (l.take 16 ++ [1])) * r) % Spec.P130) (l.drop 16) := by
  rw [Spec.polyH, if_neg hl]
theorem polyH_nil (r h : Nat) : Spec.polyH r h [] = h := by rw [Spec.polyH, if_pos rfl]
theorem str_extract (s : ByteArray) (a b : Nat) (h : b ≤ s.size) : (s.extract a b).data.toList = (s.data.toList.drop a).take (b - a) := by
  rw [ByteArray.data_extract, Array.toList_extract, List.extract_eq_take_drop]
theorem leU_nats (s : ByteArray) (a : Nat) : leU ((s.data.toList.drop a).take 16 ++ [1]) = Spec.le (((Spec.nats s).drop a).take 16 ++ [1]) := by
  unfold Spec.nats; rw [leU_le, List.map_append, List.map_take, List.map_drop]; rfl
theorem bit_in (N i j : Nat) (hj : j < 10) : N / 2 ^ (10 * i + j) % 2 = N / 1024 ^ i % 1024 / 2 ^ j % 2 := by
  rw [Nat.pow_add, ← Nat.div_div_eq_div_mul, show (2 : Nat) ^ (10 * i) = 1024 ^ i by rw [Nat.pow_mul]]
  generalize N / 1024 ^ i = M
  obtain ⟨d, hd⟩ : ∃ d, 10 = j + (d + 1) := ⟨9 - j, by omega⟩
  have e : (1024 : Nat) = 2 ^ (j + (d + 1)) := by rw [← hd]
  rw [e, Nat.pow_add 2 j, Nat.mod_mul_right_div_self, Nat.pow_succ 2 d, Nat.mul_comm (2 ^ d), Nat.mod_mul_right_mod]
set_option maxHeartbeats 2000000 in
theorem refTag_spec (q : View) (key s : ByteArray) (hk : key.size = 32) (hs : s.size ≤ 140737488351232) : FnD Try.prog q 14 [.string key, .string s] [] (.tuple #[.string (Spec.polyTag key s), .int .i64 0]) [] := by
  (first | refine FnD.go Try.call14 Try.func14 rfl rfl rfl ?_ | refine FnX.go Try.call14 Try.func14 rfl rfl rfl ?_)
  (repeat (first | refine g ?_ | refine s_flat 18 [(.pure, [0, 1, 2, 3, 4, 6, 7, 8]), (.mem true, [5, 9]), (.pure, [10, 11]), (.mem false, [12])] ?_ | refine s_flat 26 [(.pure, [0, 1, 2, 3, 6, 7, 8]), (.mem true, [4]), (.pure, [5]), (.mem true, [9]), (.pure, [10, 11])] ?_))
  refine s_call (clamped_spec q key hk) ?_
  refine s_callx (digits_spec q (Spec.clampedF key) 13 (by decide) (by rw [clamped_size key hk]; decide)) fun rr => ?_
  obtain ⟨pr, cr⟩ := rr
  dsimp only
  refine s_ptr pr fun br ebr _ hcr => ?_
  subst ebr
  rw [leU_clamped]
  (repeat (first | refine g ?_ | refine s_flat 18 [(.pure, [0, 1, 2, 3, 4, 6, 7, 8]), (.mem true, [5, 9]), (.pure, [10, 11]), (.mem false, [12])] ?_ | refine s_flat 26 [(.pure, [0, 1, 2, 3, 6, 7, 8]), (.mem true, [4]), (.pure, [5]), (.mem true, [9]), (.pure, [10, 11])] ?_))
  refine s_made 8 13 13 fun bh => ?_
  rw [zero_iv]
  refine run_to_sl (n := 13) (kk := 1) rfl ?_
  (repeat (first | refine g ?_ | refine s_flat 18 [(.pure, [0, 1, 2, 3, 4, 6, 7, 8]), (.mem true, [5, 9]), (.pure, [10, 11]), (.mem false, [12])] ?_ | refine s_flat 26 [(.pure, [0, 1, 2, 3, 6, 7, 8]), (.mem true, [4]), (.pure, [5]), (.mem true, [9]), (.pure, [10, 11])] ?_))
  have hR : Spec.polyR key < 340282366920938463463374607431768211456 := by
    rw [← leU_clamped]
    have := leU_lt (Spec.clampedF key).data.toList
    rw [show (Spec.clampedF key).data.toList.length = 16 by rw [Array.length_toList]; exact clamped_size key hk] at this
    exact this
  refine run_loopI (X := Nat × (Nat × Nat) × Nat) (fun x => x.1 ≤ 8796093021952 ∧ 16 * x.1 ≤ s.size + 15 ∧ x.2.2 < RD.P130 ∧ Spec.polyH (Spec.polyR key) x.2.2 ((Spec.nats s).drop (16 * x.1)) = Spec.polyH (Spec.polyR key) 0 (Spec.nats s))
    (fun x => [(0, .string key), (1, .string s), (6, .slice (some ⟨br, 0, none⟩) 13 cr), (7, .slice (some ⟨x.2.1.1, 0, none⟩) 13 x.2.1.2), (8, .int .i64 ((16 * x.1 : Nat) : Int))]) (fun x => [sl (some ⟨x.2.1.1, 0, none⟩) 13 x.2.1.2 3 1 (iv (dgs x.2.2 13)), sl (some ⟨br, 0, none⟩) 13 cr 3 1 (iv (dgs (Spec.polyR key) 13))]) (fun x => s.size + 15 - 16 * x.1) (0, (bh, 13), 0) ⟨Nat.zero_le _, Nat.zero_le _, show 0 < RD.P130 by decide, rfl⟩ fct ?_ ?_
  · rw [show List.replicate 13 0 = dgs 0 13 by decide]; exact shut
  intro ⟨k, ⟨b, cb⟩, H⟩ ⟨hk0, hk1, hH, hP⟩
  dsimp only at *
  (repeat (first | refine g ?_ | refine s_flat 18 [(.pure, [0, 1, 2, 3, 4, 6, 7, 8]), (.mem true, [5, 9]), (.pure, [10, 11]), (.mem false, [12])] ?_ | refine s_flat 26 [(.pure, [0, 1, 2, 3, 6, 7, 8]), (.mem true, [4]), (.pure, [5]), (.mem true, [9]), (.pure, [10, 11])] ?_))
  refine run_cond_dec rfl ?_ ?_
  · intro h
    (repeat (first | refine g ?_ | refine s_flat 18 [(.pure, [0, 1, 2, 3, 4, 6, 7, 8]), (.mem true, [5, 9]), (.pure, [10, 11]), (.mem false, [12])] ?_ | refine s_flat 26 [(.pure, [0, 1, 2, 3, 6, 7, 8]), (.mem true, [4]), (.pure, [5]), (.mem true, [9]), (.pure, [10, 11])] ?_))
    obtain ⟨e, he⟩ : ∃ e : Nat, e = min (16 * k + 16) s.size := ⟨_, rfl⟩
    refine run_cut (X := Unit) (fun _ => [(0, .string key), (1, .string s), (6, .slice (some ⟨br, 0, none⟩) 13 cr), (7, .slice (some ⟨b, 0, none⟩) 13 cb), (8, .int .i64 ((16 * k : Nat) : Int)), (9, .int .i64 (e : Int))]) (fun _ => [sl (some ⟨b, 0, none⟩) 13 cb 3 1 (iv (dgs H 13)), sl (some ⟨br, 0, none⟩) 13 cr 3 1 (iv (dgs (Spec.polyR key) 13))]) ?_ fun _ => ?_
    · refine run_cond_dec rfl ?_ ?_
      · intro h2
        (repeat (first | refine g ?_ | refine s_flat 18 [(.pure, [0, 1, 2, 3, 4, 6, 7, 8]), (.mem true, [5, 9]), (.pure, [10, 11]), (.mem false, [12])] ?_ | refine s_flat 26 [(.pure, [0, 1, 2, 3, 6, 7, 8]), (.mem true, [4]), (.pure, [5]), (.mem true, [9]), (.pure, [10, 11])] ?_))
        exact run_stop_loop () trivial fct shut
      · intro h2
        (repeat (first | refine g ?_ | refine s_flat 18 [(.pure, [0, 1, 2, 3, 4, 6, 7, 8]), (.mem true, [5, 9]), (.pure, [10, 11]), (.mem false, [12])] ?_ | refine s_flat 26 [(.pure, [0, 1, 2, 3, 6, 7, 8]), (.mem true, [4]), (.pure, [5]), (.mem true, [9]), (.pure, [10, 11])] ?_))
        exact run_stop_loop () trivial fct shut
    have hx : (s.extract ((16 * k : Nat) : Int).toNat (e : Int).toNat).size = e - 16 * k := by
      rw [Int.toNat_natCast, Int.toNat_natCast, ByteArray.size_extract]; omega
    have hx2 : (s.extract ((16 * k : Nat) : Int).toNat (e : Int).toNat ++ (⟨#[1]⟩ : ByteArray)).size = e - 16 * k + 1 := by rw [ByteArray.size_append, hx]; rfl
    have o1 : (⟨#[1]⟩ : ByteArray).size = 1 := rfl
    (repeat (first | refine g ?_ | refine s_flat 18 [(.pure, [0, 1, 2, 3, 4, 6, 7, 8]), (.mem true, [5, 9]), (.pure, [10, 11]), (.mem false, [12])] ?_ | refine s_flat 26 [(.pure, [0, 1, 2, 3, 6, 7, 8]), (.mem true, [4]), (.pure, [5]), (.mem true, [9]), (.pure, [10, 11])] ?_))
    refine s_callx (digits_spec q _ 14 (by decide) (by rw [hx2]; omega)) fun rw_ => ?_
    obtain ⟨pw, cw⟩ := rw_
    dsimp only
    refine s_ptr pw fun bw ebw _ hcw => ?_
    subst ebw
    obtain ⟨W, hW⟩ : ∃ W, W = Spec.le (((Spec.nats s).drop (16 * k)).take 16 ++ [1]) := ⟨_, rfl⟩
    have hxl : (s.extract ((16 * k : Nat) : Int).toNat (e : Int).toNat ++ (⟨#[1]⟩ : ByteArray)).data.toList = (s.data.toList.drop (16 * k)).take 16 ++ [1] := by
      rw [ByteArray.data_append, Array.toList_append, Int.toNat_natCast, Int.toNat_natCast, str_extract s _ _ (by omega)]
      congr 1
      rcases Nat.le_total (16 * k + 16) s.size with h | h
      · rw [show e - 16 * k = 16 by omega]
      · rw [List.take_of_length_le (by rw [List.length_drop, Array.length_toList]; show s.size - _ ≤ _; omega), List.take_of_length_le (by rw [List.length_drop, Array.length_toList]; show s.size - _ ≤ _; omega)]
    rw [hxl, leU_nats, ← hW]
    have lW : W < 1024 ^ 14 := by
      have := leU_lt ((s.data.toList.drop (16 * k)).take 16 ++ [1])
      rw [leU_nats, ← hW] at this
      refine Nat.lt_of_lt_of_le this (Nat.le_trans (Nat.pow_le_pow_right (by decide) (show _ ≤ 17 by simp; omega)) (by decide))
    (repeat (first | refine g ?_ | refine s_flat 18 [(.pure, [0, 1, 2, 3, 4, 6, 7, 8]), (.mem true, [5, 9]), (.pure, [10, 11]), (.mem false, [12])] ?_ | refine s_flat 26 [(.pure, [0, 1, 2, 3, 6, 7, 8]), (.mem true, [4]), (.pure, [5]), (.mem true, [9]), (.pure, [10, 11])] ?_))
    refine s_made 8 14 14 fun bt => ?_
    rw [zero_iv]
    refine run_to_sl (n := 14) (kk := 1) rfl ?_
    (repeat (first | refine g ?_ | refine s_flat 18 [(.pure, [0, 1, 2, 3, 4, 6, 7, 8]), (.mem true, [5, 9]), (.pure, [10, 11]), (.mem false, [12])] ?_ | refine s_flat 26 [(.pure, [0, 1, 2, 3, 6, 7, 8]), (.mem true, [4]), (.pure, [5]), (.mem true, [9]), (.pure, [10, 11])] ?_))
    refine run_loopI (X := Nat × List Nat) (fun x => x.1 ≤ 14 ∧ x.2.length = 14 ∧ val x.2 = val ((dgs W 14).take x.1) + val ((dgs H 13).take x.1) ∧ (∀ j, x.1 ≤ j → j < 14 → x.2[j]? = some 0) ∧ ∀ d ∈ x.2, d ≤ M36)
      (fun x => [(0, .string key), (1, .string s), (6, .slice (some ⟨br, 0, none⟩) 13 cr), (7, .slice (some ⟨b, 0, none⟩) 13 cb), (8, .int .i64 ((16 * k : Nat) : Int)), (10, .slice (some ⟨bw, 0, none⟩) 14 cw), (11, .slice (some ⟨bt, 0, none⟩) 14 14), (12, .int .i64 (x.1 : Int))])
      (fun x => [sl (some ⟨bt, 0, none⟩) 14 14 3 1 (iv x.2), sl (some ⟨bw, 0, none⟩) 14 cw 3 1 (iv (dgs W 14)), sl (some ⟨b, 0, none⟩) 13 cb 3 1 (iv (dgs H 13)), sl (some ⟨br, 0, none⟩) 13 cr 3 1 (iv (dgs (Spec.polyR key) 13))]) (fun x => 14 - x.1) (0, List.replicate 14 0)
      ⟨Nat.zero_le _, rfl, rfl, fun j _ hj => by rw [List.getElem?_replicate, if_pos hj], by decide⟩ fct shut ?_
    intro ⟨i, T⟩ ⟨hi, lT, vT, zT, bT⟩
    dsimp only at *
    (repeat (first | refine g ?_ | refine s_flat 18 [(.pure, [0, 1, 2, 3, 4, 6, 7, 8]), (.mem true, [5, 9]), (.pure, [10, 11]), (.mem false, [12])] ?_ | refine s_flat 26 [(.pure, [0, 1, 2, 3, 6, 7, 8]), (.mem true, [4]), (.pure, [5]), (.mem true, [9]), (.pure, [10, 11])] ?_))
    refine run_cond_dec rfl ?_ ?_
    · intro h3
      have hwi := dgs_getD W 14 i (by omega)
      have lw : W / 1024 ^ i % 1024 < 1024 := Nat.mod_lt _ (by decide)
      generalize W / 1024 ^ i % 1024 = wi at *
      (repeat (first | refine g ?_ | refine s_flat 18 [(.pure, [0, 1, 2, 3, 4, 6, 7, 8]), (.mem true, [5, 9]), (.pure, [10, 11]), (.mem false, [12])] ?_ | refine s_flat 26 [(.pure, [0, 1, 2, 3, 6, 7, 8]), (.mem true, [4]), (.pure, [5]), (.mem true, [9]), (.pure, [10, 11])] ?_ | refine s_loadsl (iv_at _ i _ hwi) ?_ | refine s_storesl ?_))
      refine s_eq (iv_set T i wi) ?_
      have hTi := zT i (Nat.le_refl _) (by omega)
      have v1 : val (T.set i wi) = val T + wi * 1024 ^ i := by have := val_set T i 0 wi hTi; rwa [Nat.zero_add] at this
      refine run_cond_dec rfl ?_ ?_
      · intro h4
        have hhi := dgs_getD H 13 i (by omega)
        have lh : H / 1024 ^ i % 1024 < 1024 := Nat.mod_lt _ (by decide)
        generalize H / 1024 ^ i % 1024 = hi_ at *
        have hTs : (T.set i wi)[i]? = some wi := by rw [List.getElem?_set_self (by omega)]
        (repeat (first | refine g ?_ | refine s_flat 18 [(.pure, [0, 1, 2, 3, 4, 6, 7, 8]), (.mem true, [5, 9]), (.pure, [10, 11]), (.mem false, [12])] ?_ | refine s_flat 26 [(.pure, [0, 1, 2, 3, 6, 7, 8]), (.mem true, [4]), (.pure, [5]), (.mem true, [9]), (.pure, [10, 11])] ?_ | refine s_loadsl (iv_at _ i _ hTs) ?_ | refine s_loadsl (iv_at _ i _ hhi) ?_ | refine s_storesl ?_))
        have e2 : (iv (T.set i wi)).set i (Value.int .i64 ((wi : Int) + (hi_ : Int))) = iv (T.set i (wi + hi_)) := by
          have := iv_set (T.set i wi) i (wi + hi_)
          rw [List.set_set] at this
          exact this
        refine s_eq e2 ?_
        refine run_stop_loop (i + 1, T.set i (wi + hi_)) ?_ fct shut
        refine ⟨⟨by dsimp only; omega, by simpa using lT, ?_, ?_, ?_⟩, by dsimp only; omega⟩
        · dsimp only
          have := val_set T i 0 (wi + hi_) hTi
          rw [Nat.zero_add] at this
          rw [this, val_take_succ _ i wi hwi, val_take_succ _ i hi_ hhi, vT, Nat.add_mul]; omega
        · intro j h5 h6
          dsimp only at *
          rw [List.getElem?_set_ne (by omega)]; exact zT j (by omega) h6
        · intro d hd
          dsimp only at *
          rcases List.mem_or_eq_of_mem_set hd with h | h
          · exact bT d h
          · unfold M36; omega
      · intro h4
        obtain rfl : i = 13 := by omega
        (repeat (first | refine g ?_ | refine s_flat 18 [(.pure, [0, 1, 2, 3, 4, 6, 7, 8]), (.mem true, [5, 9]), (.pure, [10, 11]), (.mem false, [12])] ?_ | refine s_flat 26 [(.pure, [0, 1, 2, 3, 6, 7, 8]), (.mem true, [4]), (.pure, [5]), (.mem true, [9]), (.pure, [10, 11])] ?_))
        refine run_stop_loop (13 + 1, T.set 13 wi) ?_ fct shut
        refine ⟨⟨Nat.le_refl 14, by simpa using lT, ?_, fun j h5 h6 => by dsimp only at *; omega, ?_⟩, show 0 < 1 by decide⟩
        · dsimp only
          rw [v1, val_take_succ _ 13 wi hwi, vT, List.take_of_length_le (l := dgs H 13) (i := 14) (by rw [dgs_length]; decide), List.take_of_length_le (l := dgs H 13) (i := 13) (by rw [dgs_length]; decide)]; omega
        · intro d hd
          dsimp only at *
          rcases List.mem_or_eq_of_mem_set hd with h | h
          · exact bT d h
          · unfold M36; omega
    · intro h3
      obtain rfl : i = 14 := by omega
      rw [List.take_of_length_le (by rw [dgs_length]; decide), List.take_of_length_le (by rw [dgs_length]; decide), val_dgs, val_dgs, Nat.mod_eq_of_lt lW, b130, Nat.mod_eq_of_lt (show H < B130 by unfold B130 RD.P130 at *; omega)] at vT
      (repeat (first | refine g ?_ | refine s_flat 18 [(.pure, [0, 1, 2, 3, 4, 6, 7, 8]), (.mem true, [5, 9]), (.pure, [10, 11]), (.mem false, [12])] ?_ | refine s_flat 26 [(.pure, [0, 1, 2, 3, 6, 7, 8]), (.mem true, [4]), (.pure, [5]), (.mem true, [9]), (.pure, [10, 11])] ?_))
      refine s_callx (reduced_spec q bt 14 14 T lT (by decide) (by decide) (by decide) bT) fun r3 => ?_
      (repeat (first | refine g ?_ | refine s_flat 18 [(.pure, [0, 1, 2, 3, 4, 6, 7, 8]), (.mem true, [5, 9]), (.pure, [10, 11]), (.mem false, [12])] ?_ | refine s_flat 26 [(.pure, [0, 1, 2, 3, 6, 7, 8]), (.mem true, [4]), (.pure, [5]), (.mem true, [9]), (.pure, [10, 11])] ?_))
      refine s_callx (times_spec q _ _ _ _ (dgs (val T % RD.P130) 13) (dgs (Spec.polyR key) 13) (dgs_length _ _) (dgs_length _ _) (dgs_lt _ _) (dgs_lt _ _)) fun r4 => ?_
      (repeat (first | refine g ?_ | refine s_flat 18 [(.pure, [0, 1, 2, 3, 4, 6, 7, 8]), (.mem true, [5, 9]), (.pure, [10, 11]), (.mem false, [12])] ?_ | refine s_flat 26 [(.pure, [0, 1, 2, 3, 6, 7, 8]), (.mem true, [4]), (.pure, [5]), (.mem true, [9]), (.pure, [10, 11])] ?_))
      have e4 : val (dgs (val T % RD.P130) 13) * val (dgs (Spec.polyR key) 13) % RD.P130 = ((H + W) * Spec.polyR key) % RD.P130 := by
        have hp : val T % RD.P130 < RD.P130 := Nat.mod_lt _ (by decide)
        rw [val_dgs, val_dgs, b130, Nat.mod_eq_of_lt (show val T % RD.P130 < B130 by unfold B130 RD.P130 at *; omega), Nat.mod_eq_of_lt (show Spec.polyR key < B130 by unfold B130; omega), vT, Nat.add_comm W H, Nat.mod_mul_mod]
      rw [e4]
      refine run_stop_loop (k + 1, r4, ((H + W) * Spec.polyR key) % RD.P130) ?_ fct shut
      refine ⟨⟨by dsimp only; omega, by dsimp only; omega, Nat.mod_lt _ (by decide), ?_⟩, by dsimp only; omega⟩
      dsimp only
      rw [← hP, polyH_step _ H _ (by
        intro h0
        have := congrArg List.length h0
        rw [List.length_drop] at this
        unfold Spec.nats at this
        rw [List.length_map, Array.length_toList] at this
        have h9 : s.data.size = s.size := rfl
        rw [h9] at this
        simp at this; omega), List.drop_drop, ← hW, p130_eq, show 16 * (k + 1) = 16 * k + 16 by omega]
  · intro h
    have hnl : (Spec.nats s).length = s.size := by unfold Spec.nats; rw [List.length_map, Array.length_toList]; rfl
    rw [List.drop_of_length_le (by rw [hnl]; omega), polyH_nil] at hP
    have hkx : (key.extract 16 key.size).size = 16 := by rw [ByteArray.size_extract]; omega
    (repeat (first | refine g ?_ | refine s_flat 18 [(.pure, [0, 1, 2, 3, 4, 6, 7, 8]), (.mem true, [5, 9]), (.pure, [10, 11]), (.mem false, [12])] ?_ | refine s_flat 26 [(.pure, [0, 1, 2, 3, 6, 7, 8]), (.mem true, [4]), (.pure, [5]), (.mem true, [9]), (.pure, [10, 11])] ?_))
    refine s_callx (digits_spec q _ 13 (by decide) (by show (key.extract (16 : Int).toNat (key.size : Int).toNat).size ≤ _; rw [Int.toNat_natCast]; exact Nat.le_trans (Nat.le_of_eq hkx) (by decide))) fun rw_ => ?_
    obtain ⟨pw, cw⟩ := rw_
    dsimp only
    refine s_ptr pw fun bw ebw _ hcw => ?_
    subst ebw
    obtain ⟨K, hK⟩ : ∃ K, K = Spec.le ((Spec.nats key).drop 16) := ⟨_, rfl⟩
    have hKl : leU (key.extract (16 : Int).toNat (key.size : Int).toNat).data.toList = K := by
      rw [Int.toNat_natCast, show (16 : Int).toNat = 16 from rfl, str_extract key 16 key.size (Nat.le_refl _), leU_le, hK, List.take_of_length_le (by rw [List.length_drop, Array.length_toList]; exact Nat.le_refl _)]
      unfold Spec.nats; rw [List.map_drop]
    rw [hKl]
    have lK : K < 340282366920938463463374607431768211456 := by
      have := leU_lt (key.extract (16 : Int).toNat (key.size : Int).toNat).data.toList
      rw [hKl, Array.length_toList] at this
      have h9 : (key.extract (16 : Int).toNat (key.size : Int).toNat).data.size = 16 := by rw [Int.toNat_natCast]; exact hkx
      rw [h9] at this; exact this
    (repeat (first | refine g ?_ | refine s_flat 18 [(.pure, [0, 1, 2, 3, 4, 6, 7, 8]), (.mem true, [5, 9]), (.pure, [10, 11]), (.mem false, [12])] ?_ | refine s_flat 26 [(.pure, [0, 1, 2, 3, 6, 7, 8]), (.mem true, [4]), (.pure, [5]), (.mem true, [9]), (.pure, [10, 11])] ?_))
    obtain ⟨N, hN⟩ : ∃ N, N = H + K := ⟨_, rfl⟩
    have vH : val (dgs H 13) = H := by rw [val_dgs, b130, Nat.mod_eq_of_lt]; unfold B130 RD.P130 at *; omega
    have vK : val (dgs K 13) = K := by rw [val_dgs, b130, Nat.mod_eq_of_lt]; unfold B130; omega
    refine run_loopI (X := Nat × Nat × Option Addr × Nat) (fun x => x.1 ≤ 13 ∧ x.2.1 + val ((dgs H 13).drop x.1) + val ((dgs K 13).drop x.1) = N / 1024 ^ x.1 ∧ x.2.1 ≤ 4096)
      (fun x => [(0, .string key), (7, .slice (some ⟨b, 0, none⟩) 13 cb), (13, .slice (some ⟨bw, 0, none⟩) 13 cw), (14, .int .i64 (x.2.1 : Int)), (15, .slice x.2.2.1 (10 * x.1) x.2.2.2), (16, .int .i64 (x.1 : Int))])
      (fun x => [sl x.2.2.1 (10 * x.1) x.2.2.2 3 1 (iv (bitsOf N (10 * x.1))), sl (some ⟨b, 0, none⟩) 13 cb 3 1 (iv (dgs H 13)), sl (some ⟨bw, 0, none⟩) 13 cw 3 1 (iv (dgs K 13))]) (fun x => 13 - x.1) (0, 0, none, 0)
      ⟨Nat.zero_le _, by dsimp only; rw [List.drop_zero, List.drop_zero, vH, vK, hN, Nat.pow_zero, Nat.div_one]; omega, Nat.zero_le _⟩ fct shut ?_
    intro ⟨i, c, pb, cb2⟩ ⟨hi, hc, hcM⟩
    dsimp only at *
    (repeat (first | refine g ?_ | refine s_flat 18 [(.pure, [0, 1, 2, 3, 4, 6, 7, 8]), (.mem true, [5, 9]), (.pure, [10, 11]), (.mem false, [12])] ?_ | refine s_flat 26 [(.pure, [0, 1, 2, 3, 6, 7, 8]), (.mem true, [4]), (.pure, [5]), (.mem true, [9]), (.pure, [10, 11])] ?_))
    refine run_cond_dec rfl ?_ ?_
    · intro h2
      have hh := dgs_getD H 13 i (by omega)
      have hw := dgs_getD K 13 i (by omega)
      have lh : H / 1024 ^ i % 1024 < 1024 := Nat.mod_lt _ (by decide)
      have lw : K / 1024 ^ i % 1024 < 1024 := Nat.mod_lt _ (by decide)
      have dh := val_drop _ i _ hh
      have dw := val_drop _ i _ hw
      generalize H / 1024 ^ i % 1024 = x at *
      generalize K / 1024 ^ i % 1024 = y at *
      obtain ⟨c1, hc1⟩ : ∃ c1, c1 = c + x + y := ⟨_, rfl⟩
      have hc1I : (c : Int) + (x : Int) + (y : Int) = (c1 : Int) := by omega
      have hcN : c1 % 1024 = N / 1024 ^ i % 1024 := by rw [← hc, dh, dw]; omega
      (repeat (first | refine g ?_ | refine s_flat 18 [(.pure, [0, 1, 2, 3, 4, 6, 7, 8]), (.mem true, [5, 9]), (.pure, [10, 11]), (.mem false, [12])] ?_ | refine s_flat 26 [(.pure, [0, 1, 2, 3, 6, 7, 8]), (.mem true, [4]), (.pure, [5]), (.mem true, [9]), (.pure, [10, 11])] ?_ | refine s_loadsl (iv_at _ i _ hh) ?_ | refine s_loadsl (iv_at _ i _ hw) ?_))
      refine run_loopI (X := Nat × Option Addr × Nat) (fun x => x.1 ≤ 10)
        (fun x => [(0, .string key), (7, .slice (some ⟨b, 0, none⟩) 13 cb), (13, .slice (some ⟨bw, 0, none⟩) 13 cw), (14, .int .i64 (c1 : Int)), (15, .slice x.2.1 (10 * i + x.1) x.2.2), (16, .int .i64 (i : Int)), (17, .int .i64 (x.1 : Int))])
        (fun x => [sl x.2.1 (10 * i + x.1) x.2.2 3 1 (iv (bitsOf N (10 * i + x.1))), sl (some ⟨b, 0, none⟩) 13 cb 3 1 (iv (dgs H 13)), sl (some ⟨bw, 0, none⟩) 13 cw 3 1 (iv (dgs K 13))]) (fun x => 10 - x.1) (0, pb, cb2) (Nat.zero_le _) fct shut ?_
      intro ⟨j, p3, c3⟩ hj
      dsimp only at *
      (repeat (first | refine g ?_ | refine s_flat 18 [(.pure, [0, 1, 2, 3, 4, 6, 7, 8]), (.mem true, [5, 9]), (.pure, [10, 11]), (.mem false, [12])] ?_ | refine s_flat 26 [(.pure, [0, 1, 2, 3, 6, 7, 8]), (.mem true, [4]), (.pure, [5]), (.mem true, [9]), (.pure, [10, 11])] ?_))
      refine run_cond_dec rfl ?_ ?_
      · intro h3
        have hq : 0 ≤ (c1 : Int) % 1024 / 2 ^ (j : Int).toNat ∧ (c1 : Int) % 1024 / 2 ^ (j : Int).toNat ≤ 1023 := by
          have h0 : 0 ≤ (c1 : Int) % 1024 ∧ (c1 : Int) % 1024 ≤ 1023 := by omega
          exact ⟨Int.ediv_nonneg h0.1 (Int.le_of_lt (Int.pow_pos (by decide))), Int.le_trans (Int.ediv_le_self _ h0.1) h0.2⟩
        (repeat (first | refine g ?_ | refine s_flat 18 [(.pure, [0, 1, 2, 3, 4, 6, 7, 8]), (.mem true, [5, 9]), (.pure, [10, 11]), (.mem false, [12])] ?_ | refine s_flat 26 [(.pure, [0, 1, 2, 3, 6, 7, 8]), (.mem true, [4]), (.pure, [5]), (.mem true, [9]), (.pure, [10, 11])] ?_))
        refine s_built fun r => ?_
        (repeat (first | refine g ?_ | refine s_flat 18 [(.pure, [0, 1, 2, 3, 4, 6, 7, 8]), (.mem true, [5, 9]), (.pure, [10, 11]), (.mem false, [12])] ?_ | refine s_flat 26 [(.pure, [0, 1, 2, 3, 6, 7, 8]), (.mem true, [4]), (.pure, [5]), (.mem true, [9]), (.pure, [10, 11])] ?_))
        refine s_app 1 8 (reads_own At.head rfl) (hxl := by rw [iv_length, bitsOf_length, Nat.mul_one]) fun r2 => ?_
        have e1 : N / 2 ^ (10 * i + j) % 2 = c1 % 1024 / 2 ^ j % 2 := by
          rw [hcN]; exact bit_in N i j (by omega)
        have e0 : (c1 : Int) % 1024 / 2 ^ (j : Int).toNat % 2 = ((N / 2 ^ (10 * i + j) % 2 : Nat) : Int) := by
          rw [e1, Int.toNat_natCast]; push_cast; rfl
        have e : iv (bitsOf N (10 * i + j)) ++ [Value.int .i64 ((c1 : Int) % 1024 / 2 ^ (j : Int).toNat % 2)] = iv (bitsOf N (10 * i + (j + 1))) := by
          rw [e0, ← Nat.add_assoc, bitsOf_snoc, iv_append]; rfl
        refine s_eq e ?_
        (repeat (first | refine g ?_ | refine s_flat 18 [(.pure, [0, 1, 2, 3, 4, 6, 7, 8]), (.mem true, [5, 9]), (.pure, [10, 11]), (.mem false, [12])] ?_ | refine s_flat 26 [(.pure, [0, 1, 2, 3, 6, 7, 8]), (.mem true, [4]), (.pure, [5]), (.mem true, [9]), (.pure, [10, 11])] ?_))
        refine run_stop_loop (j + 1, r2) ?_ fct shut
        exact ⟨by dsimp only; omega, by dsimp only; omega⟩
      · intro h3
        obtain rfl : j = 10 := by omega
        (repeat (first | refine g ?_ | refine s_flat 18 [(.pure, [0, 1, 2, 3, 4, 6, 7, 8]), (.mem true, [5, 9]), (.pure, [10, 11]), (.mem false, [12])] ?_ | refine s_flat 26 [(.pure, [0, 1, 2, 3, 6, 7, 8]), (.mem true, [4]), (.pure, [5]), (.mem true, [9]), (.pure, [10, 11])] ?_))
        refine run_stop_loop (i + 1, c1 / 1024, p3, c3) ?_ fct shut
        refine ⟨⟨by dsimp only; omega, ?_, by dsimp only; omega⟩, by dsimp only; omega⟩
        dsimp only
        rw [Nat.pow_succ, ← Nat.div_div_eq_div_mul, ← hc, dh, dw]; omega
    · intro h2
      obtain rfl : i = 13 := by omega
      (repeat (first | refine g ?_ | refine s_flat 18 [(.pure, [0, 1, 2, 3, 4, 6, 7, 8]), (.mem true, [5, 9]), (.pure, [10, 11]), (.mem false, [12])] ?_ | refine s_flat 26 [(.pure, [0, 1, 2, 3, 6, 7, 8]), (.mem true, [4]), (.pure, [5]), (.mem true, [9]), (.pure, [10, 11])] ?_))
      refine s_ptr pb fun bb ebb _ hcbb => ?_
      subst ebb
      refine run_loopI (X := Nat × Option Addr × Nat) (fun x => x.1 ≤ 16)
        (fun x => [(15, .slice (some ⟨bb, 0, none⟩) 130 cb2), (18, .slice x.2.1 x.1 x.2.2), (19, .int .i64 (x.1 : Int))])
        (fun x => [sl x.2.1 x.1 x.2.2 5 1 (bv (bytesOf N x.1)), sl (some ⟨bb, 0, none⟩) 130 cb2 3 1 (iv (bitsOf N 130))]) (fun x => 16 - x.1) (0, none, 0) (Nat.zero_le _) fct shut ?_
      intro ⟨i, po, co⟩ hi
      dsimp only at *
      (repeat (first | refine g ?_ | refine s_flat 18 [(.pure, [0, 1, 2, 3, 4, 6, 7, 8]), (.mem true, [5, 9]), (.pure, [10, 11]), (.mem false, [12])] ?_ | refine s_flat 26 [(.pure, [0, 1, 2, 3, 6, 7, 8]), (.mem true, [4]), (.pure, [5]), (.mem true, [9]), (.pure, [10, 11])] ?_))
      refine run_cond_dec rfl ?_ ?_
      · intro h3
        (repeat (first | refine g ?_ | refine s_flat 18 [(.pure, [0, 1, 2, 3, 4, 6, 7, 8]), (.mem true, [5, 9]), (.pure, [10, 11]), (.mem false, [12])] ?_ | refine s_flat 26 [(.pure, [0, 1, 2, 3, 6, 7, 8]), (.mem true, [4]), (.pure, [5]), (.mem true, [9]), (.pure, [10, 11])] ?_))
        refine run_loopI (X := Nat × Nat) (fun x => x.1 ≤ 8 ∧ x.2 = N / 2 ^ (8 * i + x.1) % 2 ^ (8 - x.1))
          (fun x => [(15, .slice (some ⟨bb, 0, none⟩) 130 cb2), (18, .slice po i co), (19, .int .i64 (i : Int)), (20, .int .i64 (x.2 : Int)), (21, .int .i64 ((x.1 : Int) - 1))])
          (fun x => [sl po i co 5 1 (bv (bytesOf N i)), sl (some ⟨bb, 0, none⟩) 130 cb2 3 1 (iv (bitsOf N 130))]) (fun x => x.1) (8, 0) ⟨Nat.le_refl 8, by rw [Nat.sub_self, Nat.pow_zero, Nat.mod_one]⟩ fct shut ?_
        intro ⟨j, d⟩ ⟨hj, hd⟩
        dsimp only at *
        have hd8 : d < 256 := by rw [hd]; exact Nat.lt_of_lt_of_le (Nat.mod_lt _ (Nat.two_pow_pos _)) (Nat.pow_le_pow_right (by decide) (show 8 - j ≤ 8 by omega))
        (repeat (first | refine g ?_ | refine s_flat 18 [(.pure, [0, 1, 2, 3, 4, 6, 7, 8]), (.mem true, [5, 9]), (.pure, [10, 11]), (.mem false, [12])] ?_ | refine s_flat 26 [(.pure, [0, 1, 2, 3, 6, 7, 8]), (.mem true, [4]), (.pure, [5]), (.mem true, [9]), (.pure, [10, 11])] ?_))
        refine run_cond_dec rfl ?_ ?_
        · intro h4
          have hix : (8 * (i : Int) + ((j : Int) - 1)).toNat = 8 * i + (j - 1) := by omega
          have hbit : (bitsOf N 130)[(8 * (i : Int) + ((j : Int) - 1)).toNat]? = some (N / 2 ^ (8 * i + (j - 1)) % 2) := by rw [hix]; exact bitsOf_at N 130 _ (by omega)
          have lb : N / 2 ^ (8 * i + (j - 1)) % 2 < 2 := Nat.mod_lt _ (by decide)
          have hnew : 2 * d + N / 2 ^ (8 * i + (j - 1)) % 2 = N / 2 ^ (8 * i + (j - 1)) % 2 ^ (8 - (j - 1)) := by
            rw [show 8 - (j - 1) = (8 - j) + 1 by omega, bits_step, hd, show 8 * i + (j - 1) + 1 = 8 * i + j by omega]
          generalize N / 2 ^ (8 * i + (j - 1)) % 2 = bt at *
          (repeat (first | refine g ?_ | refine s_flat 18 [(.pure, [0, 1, 2, 3, 4, 6, 7, 8]), (.mem true, [5, 9]), (.pure, [10, 11]), (.mem false, [12])] ?_ | refine s_flat 26 [(.pure, [0, 1, 2, 3, 6, 7, 8]), (.mem true, [4]), (.pure, [5]), (.mem true, [9]), (.pure, [10, 11])] ?_ | refine s_loadsl (iv_at _ _ _ hbit) ?_))
          refine run_stop_loop (j - 1, 2 * d + bt) ?_ fct shut
          exact ⟨⟨by dsimp only; omega, hnew⟩, by dsimp only; omega⟩
        · intro h4
          obtain rfl : j = 0 := by omega
          (repeat (first | refine g ?_ | refine s_flat 18 [(.pure, [0, 1, 2, 3, 4, 6, 7, 8]), (.mem true, [5, 9]), (.pure, [10, 11]), (.mem false, [12])] ?_ | refine s_flat 26 [(.pure, [0, 1, 2, 3, 6, 7, 8]), (.mem true, [4]), (.pure, [5]), (.mem true, [9]), (.pure, [10, 11])] ?_))
          refine s_built fun r => ?_
          (repeat (first | refine g ?_ | refine s_flat 18 [(.pure, [0, 1, 2, 3, 4, 6, 7, 8]), (.mem true, [5, 9]), (.pure, [10, 11]), (.mem false, [12])] ?_ | refine s_flat 26 [(.pure, [0, 1, 2, 3, 6, 7, 8]), (.mem true, [4]), (.pure, [5]), (.mem true, [9]), (.pure, [10, 11])] ?_))
          refine s_app 1 1 (reads_own At.head rfl) (hxl := by rw [bv_length, bytesOf_length, Nat.mul_one]) fun r2 => ?_
          have ed : d = N / 256 ^ i % 256 := by
            rw [hd, Nat.add_zero, Nat.sub_zero, show (2 : Nat) ^ (8 * i) = 256 ^ i by rw [Nat.pow_mul]]
          have e : bv (bytesOf N i) ++ [Value.int .u8 ((d : Int) % 256)] = bv (bytesOf N (i + 1)) := by
            rw [bytesOf_snoc, bv_append, ← ed, show (d : Int) % 256 = ((UInt8.ofNat d).toNat : Int) by rw [UInt8.toNat_ofNat', Nat.mod_eq_of_lt hd8]; omega]; rfl
          refine s_eq e ?_
          (repeat (first | refine g ?_ | refine s_flat 18 [(.pure, [0, 1, 2, 3, 4, 6, 7, 8]), (.mem true, [5, 9]), (.pure, [10, 11]), (.mem false, [12])] ?_ | refine s_flat 26 [(.pure, [0, 1, 2, 3, 6, 7, 8]), (.mem true, [4]), (.pure, [5]), (.mem true, [9]), (.pure, [10, 11])] ?_))
          refine run_stop_loop (i + 1, r2) ?_ fct shut
          exact ⟨by dsimp only; omega, by dsimp only; omega⟩
      · intro h3
        obtain rfl : i = 16 := by omega
        (repeat (first | refine g ?_ | refine s_flat 18 [(.pure, [0, 1, 2, 3, 4, 6, 7, 8]), (.mem true, [5, 9]), (.pure, [10, 11]), (.mem false, [12])] ?_ | refine s_flat 26 [(.pure, [0, 1, 2, 3, 6, 7, 8]), (.mem true, [4]), (.pure, [5]), (.mem true, [9]), (.pure, [10, 11])] ?_))
        refine s_string ?_
        (repeat (first | refine g ?_ | refine s_flat 18 [(.pure, [0, 1, 2, 3, 4, 6, 7, 8]), (.mem true, [5, 9]), (.pure, [10, 11]), (.mem false, [12])] ?_ | refine s_flat 26 [(.pure, [0, 1, 2, 3, 6, 7, 8]), (.mem true, [4]), (.pure, [5]), (.mem true, [9]), (.pure, [10, 11])] ?_))
        refine run_ret rfl (imp_RD ?_ shut)
        have e : bytesOf N 16 = Spec.leB ((Spec.polyH (Spec.polyR key) 0 (Spec.nats s) + Spec.le ((Spec.nats key).drop 16)) % Spec.P128) 16 := by
          rw [← hP, ← hK, ← hN]; exact bytesOf_leB N 16 Spec.P128 (by decide)
        rw [e]; rfl
theorem refTag_no (q : View) (key s : ByteArray) (hk : ¬ key.size = 32) : FnD Try.prog q 14 [.string key, .string s] [] (.tuple #[.string ⟨#[]⟩, .int .i64 1]) [] := by
  (first | refine FnD.go Try.call14 Try.func14 rfl rfl rfl ?_ | refine FnX.go Try.call14 Try.func14 rfl rfl rfl ?_)
  (repeat (first | refine g ?_ | refine s_flat 18 [(.pure, [0, 1, 2, 3, 4, 6, 7, 8]), (.mem true, [5, 9]), (.pure, [10, 11]), (.mem false, [12])] ?_ | refine s_flat 26 [(.pure, [0, 1, 2, 3, 6, 7, 8]), (.mem true, [4]), (.pure, [5]), (.mem true, [9]), (.pure, [10, 11])] ?_))
  exact run_ret rfl (imp_RD rfl shut)
end Go.Proofs.Ytajjbgkbceobmaa.V
