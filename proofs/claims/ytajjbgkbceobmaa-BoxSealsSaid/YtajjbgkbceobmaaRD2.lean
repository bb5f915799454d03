/- The reference's reduction modulo 2^130 - 5. -/
import Derived.Test.YtajjbgkbceobmaaRD1
set_option maxRecDepth 10000
set_option linter.unusedVariables false
namespace Go.Proofs.Ytajjbgkbceobmaa.V
open Go.Proofs.Ytajjbgkbceobmaa.VL Go.Proofs.Ytajjbgkbceobmaa.VL.RD
attribute [local irreducible] Run
theorem zero_iv (n : Nat) : zeroL (.int .i64 0) n = iv (List.replicate n 0) := by
  rw [zeroL_one _ rfl]; unfold iv; rw [List.map_replicate]; rfl
theorem set_mid (a b : List Nat) (i x : Nat) (h : a.length = i) (hb : i < (a ++ b).length) : (a ++ b).set i x = a ++ [x] ++ b.drop 1 := by
  subst h
  cases b with
  | nil => simp at hb
  | cons y b => simp
theorem reduced_spec (q : View) (b0 n0 c0 : Nat) (l : List Nat) (ln : l.length = n0) (h13 : 13 ≤ n0) (h26 : n0 ≤ 26) (hc0 : n0 ≤ c0) (hl : ∀ x ∈ l, x ≤ M36) :
    FnX Try.prog q 30 [.slice (some ⟨b0, 0, none⟩) n0 c0] [sl (some ⟨b0, 0, none⟩) n0 c0 3 1 (iv l)] (fun r : Nat × Nat => .slice (some ⟨r.1, 0, none⟩) 13 r.2) fun r => [sl (some ⟨r.1, 0, none⟩) 13 r.2 3 1 (iv (dgs (val l % P130) 13))] := by
  have hV := spread_lt l (by omega) hl
  (first | refine FnD.go Try.call30 Try.func30 rfl rfl rfl ?_ | refine FnX.go Try.call30 Try.func30 rfl rfl rfl ?_)
  (repeat (first | refine g ?_ | refine s_flat 9 [(.pure, [0, 1, 2, 3, 4, 6, 7, 8]), (.mem true, [5, 9]), (.pure, [10, 11]), (.mem false, [12])] ?_ | refine s_flat 10 [(.pure, [0, 1, 2, 3, 4, 5, 6, 7, 8, 10, 11, 12]), (.mem true, [9, 13]), (.pure, [14, 15, 16]), (.mem false, [17])] ?_ | refine s_flat 28 [(.pure, [0, 1, 2, 4, 5, 6, 9]), (.mem true, [3, 7]), (.pure, [8, 10, 11])] ?_))
  refine run_loopI (X := Nat × (Nat × Nat × Nat) × List Nat) (fun x => x.1 ≤ 8 ∧ x.2.2.length = x.2.1.2.1 ∧ 13 ≤ x.2.1.2.1 ∧ x.2.1.2.1 ≤ 26 ∧ x.2.1.2.1 ≤ x.2.1.2.2 ∧ (∀ d ∈ x.2.2, d ≤ M36) ∧ spread x.2.2 = folds x.1 (spread l) ∧ (0 < x.1 → x.2.2 = turned (folds (x.1 - 1) (spread l))))
    (fun x => [(0, .slice (some ⟨x.2.1.1, 0, none⟩) x.2.1.2.1 x.2.1.2.2), (3, .int .i64 (x.1 : Int))]) (fun x => [sl (some ⟨x.2.1.1, 0, none⟩) x.2.1.2.1 x.2.1.2.2 3 1 (iv x.2.2)]) (fun x => 8 - x.1) (0, (b0, n0, c0), l)
    ⟨by omega, ln, h13, h26, hc0, hl, rfl, fun h => absurd h (Nat.lt_irrefl 0)⟩ fct shut ?_
  intro ⟨k, ⟨b, n, cap⟩, t⟩ ⟨hk, tn, t13, t26, tc, ht, hs, htt⟩
  dsimp only at *
  (repeat (first | refine g ?_ | refine s_flat 9 [(.pure, [0, 1, 2, 3, 4, 6, 7, 8]), (.mem true, [5, 9]), (.pure, [10, 11]), (.mem false, [12])] ?_ | refine s_flat 10 [(.pure, [0, 1, 2, 3, 4, 5, 6, 7, 8, 10, 11, 12]), (.mem true, [9, 13]), (.pure, [14, 15, 16]), (.mem false, [17])] ?_ | refine s_flat 28 [(.pure, [0, 1, 2, 4, 5, 6, 9]), (.mem true, [3, 7]), (.pure, [8, 10, 11])] ?_))
  refine run_cond_dec rfl ?_ ?_
  · intro h
    (repeat (first | refine g ?_ | refine s_flat 9 [(.pure, [0, 1, 2, 3, 4, 6, 7, 8]), (.mem true, [5, 9]), (.pure, [10, 11]), (.mem false, [12])] ?_ | refine s_flat 10 [(.pure, [0, 1, 2, 3, 4, 5, 6, 7, 8, 10, 11, 12]), (.mem true, [9, 13]), (.pure, [14, 15, 16]), (.mem false, [17])] ?_ | refine s_flat 28 [(.pure, [0, 1, 2, 4, 5, 6, 9]), (.mem true, [3, 7]), (.pure, [8, 10, 11])] ?_))
    refine s_made 8 13 13 fun ro => ?_
    (repeat (first | refine g ?_ | refine s_flat 9 [(.pure, [0, 1, 2, 3, 4, 6, 7, 8]), (.mem true, [5, 9]), (.pure, [10, 11]), (.mem false, [12])] ?_ | refine s_flat 10 [(.pure, [0, 1, 2, 3, 4, 5, 6, 7, 8, 10, 11, 12]), (.mem true, [9, 13]), (.pure, [14, 15, 16]), (.mem false, [17])] ?_ | refine s_flat 28 [(.pure, [0, 1, 2, 4, 5, 6, 9]), (.mem true, [3, 7]), (.pure, [8, 10, 11])] ?_))
    rw [zero_iv]
    refine run_to_sl (n := 13) (kk := 1) rfl ?_
    refine run_loopI (X := Nat × List Nat) (fun x => x.1 ≤ n ∧ x.2.length = 13 ∧ val x.2 = RD.part t x.1 ∧ ∀ d ∈ x.2, d ≤ x.1 * (5 * M36)) (fun x => [(0, .slice (some ⟨b, 0, none⟩) n cap), (3, .int .i64 (k : Int)), (4, .slice (some ⟨ro, 0, none⟩) 13 13), (5, .int .i64 (x.1 : Int))])
      (fun x => [sl (some ⟨ro, 0, none⟩) 13 13 3 1 (iv x.2), sl (some ⟨b, 0, none⟩) n cap 3 1 (iv t)]) (fun x => n - x.1) (0, List.replicate 13 0) ⟨Nat.zero_le _, rfl, rfl, by decide⟩ fct shut ?_
    intro ⟨i, S⟩ ⟨hi, lS, vS, bS⟩
    dsimp only at *
    (repeat (first | refine g ?_ | refine s_flat 9 [(.pure, [0, 1, 2, 3, 4, 6, 7, 8]), (.mem true, [5, 9]), (.pure, [10, 11]), (.mem false, [12])] ?_ | refine s_flat 10 [(.pure, [0, 1, 2, 3, 4, 5, 6, 7, 8, 10, 11, 12]), (.mem true, [9, 13]), (.pure, [14, 15, 16]), (.mem false, [17])] ?_ | refine s_flat 28 [(.pure, [0, 1, 2, 4, 5, 6, 9]), (.mem true, [3, 7]), (.pure, [8, 10, 11])] ?_))
    refine run_cond_dec rfl ?_ ?_
    · intro h2
      have hi2 : i < t.length := by omega
      obtain ⟨x, hx⟩ : ∃ x, t[i]? = some x := ⟨_, List.getElem?_eq_getElem hi2⟩
      have hxM := ht x (List.mem_of_getElem? hx)
      unfold M36 at hxM
      (repeat (first | refine g ?_ | refine s_flat 9 [(.pure, [0, 1, 2, 3, 4, 6, 7, 8]), (.mem true, [5, 9]), (.pure, [10, 11]), (.mem false, [12])] ?_ | refine s_flat 10 [(.pure, [0, 1, 2, 3, 4, 5, 6, 7, 8, 10, 11, 12]), (.mem true, [9, 13]), (.pure, [14, 15, 16]), (.mem false, [17])] ?_ | refine s_flat 28 [(.pure, [0, 1, 2, 4, 5, 6, 9]), (.mem true, [3, 7]), (.pure, [8, 10, 11])] ?_))
      refine run_cond_dec rfl ?_ ?_
      · intro h3
        obtain ⟨y, hy⟩ : ∃ y, S[i]? = some y := ⟨_, List.getElem?_eq_getElem (by omega)⟩
        have hyM := bS y (List.mem_of_getElem? hy)
        unfold M36 at hyM
        (repeat (first | refine g ?_ | refine s_flat 9 [(.pure, [0, 1, 2, 3, 4, 6, 7, 8]), (.mem true, [5, 9]), (.pure, [10, 11]), (.mem false, [12])] ?_ | refine s_flat 10 [(.pure, [0, 1, 2, 3, 4, 5, 6, 7, 8, 10, 11, 12]), (.mem true, [9, 13]), (.pure, [14, 15, 16]), (.mem false, [17])] ?_ | refine s_flat 28 [(.pure, [0, 1, 2, 4, 5, 6, 9]), (.mem true, [3, 7]), (.pure, [8, 10, 11])] ?_ | refine s_loadsl (iv_at t i x hx) ?_ | refine s_loadsl (iv_at S i y hy) ?_ | refine s_storesl ?_))
        have e : (iv S).set i (Value.int .i64 ((y : Int) + (x : Int))) = iv (S.set i (y + x)) := iv_set S i (y + x)
        refine s_eq e ?_
        refine run_stop_loop (i + 1, S.set i (y + x)) ?_ fct shut
        refine ⟨⟨by omega, by simpa using lS, ?_, ?_⟩, by dsimp only; omega⟩
        · dsimp only
          rw [val_set S i y x hy, part_low t i x hx (by omega), vS]
        · intro d hd
          rcases List.mem_or_eq_of_mem_set hd with h | h
          · have := bS d h; dsimp only; rw [Nat.add_mul]; omega
          · have h1 := bS y (List.mem_of_getElem? hy); dsimp only; rw [Nat.add_mul, h]; have h2 : x ≤ M36 := ht x (List.mem_of_getElem? hx); omega
      · intro h3
        obtain ⟨y, hy⟩ : ∃ y, S[i - 13]? = some y := ⟨_, List.getElem?_eq_getElem (by omega)⟩
        have hyM := bS y (List.mem_of_getElem? hy)
        unfold M36 at hyM
        have ei : (((i : Int) - 13) % 13).toNat = i - 13 := by omega
        have hy' : S[(((i : Int) - 13) % 13).toNat]? = some y := by rw [ei]; exact hy
        (repeat (first | refine g ?_ | refine s_flat 9 [(.pure, [0, 1, 2, 3, 4, 6, 7, 8]), (.mem true, [5, 9]), (.pure, [10, 11]), (.mem false, [12])] ?_ | refine s_flat 10 [(.pure, [0, 1, 2, 3, 4, 5, 6, 7, 8, 10, 11, 12]), (.mem true, [9, 13]), (.pure, [14, 15, 16]), (.mem false, [17])] ?_ | refine s_flat 28 [(.pure, [0, 1, 2, 4, 5, 6, 9]), (.mem true, [3, 7]), (.pure, [8, 10, 11])] ?_ | refine s_loadsl (iv_at t i x hx) ?_ | refine s_loadsl (iv_at S _ y hy') ?_ | refine s_storesl ?_))
        have e : (iv S).set (((i : Int) - 13) % 13).toNat (Value.int .i64 ((y : Int) + 5 * (x : Int))) = iv (S.set (i - 13) (y + 5 * x)) := by
          rw [ei]; exact iv_set S (i - 13) (y + 5 * x)
        refine s_eq e ?_
        refine run_stop_loop (i + 1, S.set (i - 13) (y + 5 * x)) ?_ fct shut
        refine ⟨⟨by omega, by simpa using lS, ?_, ?_⟩, by dsimp only; omega⟩
        · dsimp only
          rw [val_set S (i - 13) y (5 * x) hy, part_high t i x hx (by omega), vS]
        · intro d hd
          rcases List.mem_or_eq_of_mem_set hd with h | h
          · have := bS d h; dsimp only; rw [Nat.add_mul]; omega
          · have h1 := bS y (List.mem_of_getElem? hy); dsimp only; rw [Nat.add_mul, h]; have h2 : x ≤ M36 := ht x (List.mem_of_getElem? hx); omega
    · intro h2
      obtain rfl : i = n := by omega
      rw [← tn, part_all] at vS
      have bS' : ∀ d ∈ S, d ≤ 8933531975680 := fun d hd => by
        have := bS d hd
        have : i * (5 * M36) ≤ 26 * (5 * M36) := Nat.mul_le_mul_right _ t26
        unfold M36 at *; omega
      (repeat (first | refine g ?_ | refine s_flat 9 [(.pure, [0, 1, 2, 3, 4, 6, 7, 8]), (.mem true, [5, 9]), (.pure, [10, 11]), (.mem false, [12])] ?_ | refine s_flat 10 [(.pure, [0, 1, 2, 3, 4, 5, 6, 7, 8, 10, 11, 12]), (.mem true, [9, 13]), (.pure, [14, 15, 16]), (.mem false, [17])] ?_ | refine s_flat 28 [(.pure, [0, 1, 2, 4, 5, 6, 9]), (.mem true, [3, 7]), (.pure, [8, 10, 11])] ?_))
      refine run_loopI (X := Nat × Nat) (fun x => x.1 ≤ 13 ∧ x.2 + val (S.drop x.1) = val S / 1024 ^ x.1 ∧ x.2 ≤ 8933531975680) (fun x => [(0, .slice (some ⟨b, 0, none⟩) i cap), (3, .int .i64 (k : Int)), (4, .slice (some ⟨ro, 0, none⟩) 13 13), (6, .int .i64 (x.2 : Int)), (7, .int .i64 (x.1 : Int))])
        (fun x => [sl (some ⟨ro, 0, none⟩) 13 13 3 1 (iv (dgs (val S) x.1 ++ S.drop x.1)), sl (some ⟨b, 0, none⟩) i cap 3 1 (iv t)]) (fun x => 13 - x.1) (0, 0) ⟨by decide, by simp, by decide⟩ fct shut ?_
      intro ⟨j, c⟩ ⟨hj, hc, bc⟩
      dsimp only at *
      (repeat (first | refine g ?_ | refine s_flat 9 [(.pure, [0, 1, 2, 3, 4, 6, 7, 8]), (.mem true, [5, 9]), (.pure, [10, 11]), (.mem false, [12])] ?_ | refine s_flat 10 [(.pure, [0, 1, 2, 3, 4, 5, 6, 7, 8, 10, 11, 12]), (.mem true, [9, 13]), (.pure, [14, 15, 16]), (.mem false, [17])] ?_ | refine s_flat 28 [(.pure, [0, 1, 2, 4, 5, 6, 9]), (.mem true, [3, 7]), (.pure, [8, 10, 11])] ?_))
      refine run_cond_dec rfl ?_ ?_
      · intro h3
        obtain ⟨y, hy⟩ : ∃ y, S[j]? = some y := ⟨_, List.getElem?_eq_getElem (by omega)⟩
        have hyM := bS' y (List.mem_of_getElem? hy)
        have hy' : (dgs (val S) j ++ S.drop j)[j]? = some y := by
          rw [List.getElem?_append_right (by rw [dgs_length]; exact Nat.le_refl _), dgs_length, Nat.sub_self, List.getElem?_drop, Nat.add_zero, hy]
        have hlen : (dgs (val S) j ++ S.drop j).length = 13 := by rw [List.length_append, dgs_length, List.length_drop]; omega
        have hd := val_drop S j y hy
        rw [hd] at hc
        (repeat (first | refine g ?_ | refine s_flat 9 [(.pure, [0, 1, 2, 3, 4, 6, 7, 8]), (.mem true, [5, 9]), (.pure, [10, 11]), (.mem false, [12])] ?_ | refine s_flat 10 [(.pure, [0, 1, 2, 3, 4, 5, 6, 7, 8, 10, 11, 12]), (.mem true, [9, 13]), (.pure, [14, 15, 16]), (.mem false, [17])] ?_ | refine s_flat 28 [(.pure, [0, 1, 2, 4, 5, 6, 9]), (.mem true, [3, 7]), (.pure, [8, 10, 11])] ?_ | refine s_loadsl (iv_at _ j y hy') ?_ | refine s_storesl ?_ (hi := by rw [iv_length, hlen]; omega)))
        have e : (iv (dgs (val S) j ++ S.drop j)).set j (Value.int .i64 (((c : Int) + (y : Int)) % 1024)) = iv (dgs (val S) (j + 1) ++ S.drop (j + 1)) := by
          have e1 : ((c : Int) + (y : Int)) % 1024 = (((c + y) % 1024 : Nat) : Int) := by omega
          rw [e1, iv_set, set_mid _ _ j _ (dgs_length _ _) (by rw [hlen]; omega), dgs_snoc, List.drop_drop]
          rw [← hc, show c + (y + 1024 * val (S.drop (j + 1))) = c + y + 1024 * val (S.drop (j + 1)) by omega, Nat.add_mul_mod_self_left]
        refine s_eq e ?_
        have e2 : ((c : Int) + (y : Int)) / 1024 = (((c + y) / 1024 : Nat) : Int) := by omega
        refine run_stop_loop (j + 1, (c + y) / 1024) ?_ fct shut
        refine ⟨⟨by omega, ?_, by dsimp only; omega⟩, by dsimp only; omega⟩
        dsimp only
        rw [Nat.pow_succ, ← Nat.div_div_eq_div_mul, ← hc]
        omega
      · intro h3
        obtain rfl : j = 13 := by omega
        rw [List.drop_of_length_le (by omega)] at hc
        (repeat (first | refine g ?_ | refine s_flat 9 [(.pure, [0, 1, 2, 3, 4, 6, 7, 8]), (.mem true, [5, 9]), (.pure, [10, 11]), (.mem false, [12])] ?_ | refine s_flat 10 [(.pure, [0, 1, 2, 3, 4, 5, 6, 7, 8, 10, 11, 12]), (.mem true, [9, 13]), (.pure, [14, 15, 16]), (.mem false, [17])] ?_ | refine s_flat 28 [(.pure, [0, 1, 2, 4, 5, 6, 9]), (.mem true, [3, 7]), (.pure, [8, 10, 11])] ?_))
        refine s_built fun rb => ?_
        (repeat (first | refine g ?_ | refine s_flat 9 [(.pure, [0, 1, 2, 3, 4, 6, 7, 8]), (.mem true, [5, 9]), (.pure, [10, 11]), (.mem false, [12])] ?_ | refine s_flat 10 [(.pure, [0, 1, 2, 3, 4, 5, 6, 7, 8, 10, 11, 12]), (.mem true, [9, 13]), (.pure, [14, 15, 16]), (.mem false, [17])] ?_ | refine s_flat 28 [(.pure, [0, 1, 2, 4, 5, 6, 9]), (.mem true, [3, 7]), (.pure, [8, 10, 11])] ?_))
        refine s_app 1 8 (reads_own At.head rfl) (hxl := by rw [iv_length, List.length_append, dgs_length, List.drop_of_length_le (by omega)]; rfl) fun r2 => ?_
        obtain ⟨p2, c2⟩ := r2
        dsimp only
        refine s_ptr p2 fun b2 eb2 _ hcap => ?_
        subst eb2
        have ec : c = val S / B130 := by rw [← b130, ← hc]; simp [val]
        have e : iv (dgs (val S) 13 ++ S.drop 13) ++ [Value.int .i64 ((c : Int) % 1024), .int .i64 ((c : Int) / 1024 % 1024), .int .i64 ((c : Int) / 1048576)] = iv (turned (val S)) := by
          rw [List.drop_of_length_le (by omega), List.append_nil, turned, iv_append, ← ec]; rfl
        refine s_eq e ?_
        (repeat (first | refine g ?_ | refine s_flat 9 [(.pure, [0, 1, 2, 3, 4, 6, 7, 8]), (.mem true, [5, 9]), (.pure, [10, 11]), (.mem false, [12])] ?_ | refine s_flat 10 [(.pure, [0, 1, 2, 3, 4, 5, 6, 7, 8, 10, 11, 12]), (.mem true, [9, 13]), (.pure, [14, 15, 16]), (.mem false, [17])] ?_ | refine s_flat 28 [(.pure, [0, 1, 2, 4, 5, 6, 9]), (.mem true, [3, 7]), (.pure, [8, 10, 11])] ?_))
        refine run_stop_loop (k + 1, (b2, 16, c2), turned (val S)) ?_ fct shut
        have hlt : val S < B130 * 1099511627776 := by rw [vS, hs]; exact Nat.lt_of_le_of_lt (folds_le _ _) hV
        refine ⟨⟨by dsimp only; omega, turned_length _, by dsimp only; omega, by dsimp only; omega, hcap, turned_le _ hlt, ?_, fun _ => ?_⟩, by dsimp only; omega⟩
        · dsimp only; rw [spread_turned, vS, hs]; rfl
        · dsimp only; rw [vS, hs]; rfl
  · intro h
    obtain rfl : k = 8 := by omega
    rw [htt (by decide)] at tn ⊢
    rw [turned_length] at tn
    subst tn
    have hW := folds_small (spread l) (Nat.lt_of_lt_of_le hV (Nat.mul_le_mul_left _ (by decide)))
    have hWm : folds 7 (spread l) % P130 = val l % P130 := by rw [folds_mod, spread_mod l (by omega)]
    clear htt hs ht
    dsimp only [Nat.sub_self, Nat.reduceSub] at *
    generalize folds 7 (spread l) = W at *
    (repeat (first | refine g ?_ | refine s_flat 9 [(.pure, [0, 1, 2, 3, 4, 6, 7, 8]), (.mem true, [5, 9]), (.pure, [10, 11]), (.mem false, [12])] ?_ | refine s_flat 10 [(.pure, [0, 1, 2, 3, 4, 5, 6, 7, 8, 10, 11, 12]), (.mem true, [9, 13]), (.pure, [14, 15, 16]), (.mem false, [17])] ?_ | refine s_flat 28 [(.pure, [0, 1, 2, 4, 5, 6, 9]), (.mem true, [3, 7]), (.pure, [8, 10, 11])] ?_))
    refine s_callx (prime_spec q) fun r => ?_
    obtain ⟨pp, cp⟩ := r
    dsimp only
    refine s_ptr pp fun bp ebp _ hcp => ?_
    subst ebp
    (repeat (first | refine g ?_ | refine s_flat 9 [(.pure, [0, 1, 2, 3, 4, 6, 7, 8]), (.mem true, [5, 9]), (.pure, [10, 11]), (.mem false, [12])] ?_ | refine s_flat 10 [(.pure, [0, 1, 2, 3, 4, 5, 6, 7, 8, 10, 11, 12]), (.mem true, [9, 13]), (.pure, [14, 15, 16]), (.mem false, [17])] ?_ | refine s_flat 28 [(.pure, [0, 1, 2, 4, 5, 6, 9]), (.mem true, [3, 7]), (.pure, [8, 10, 11])] ?_))
    apply run_pull (X := sl (some ⟨b, 0, none⟩) 16 cap 3 1 (iv (turned W)))
    · exact Pull.tail Pull.head
    refine run_sl_cut (m := 13) (by decide) ?_
    have e : (iv (turned W)).take (13 * 1) = iv (dgs W 13) := by
      rw [Nat.mul_one, iv_take, turned, List.take_left' (dgs_length _ _)]
    refine s_eq e ?_
    refine s_call (less_spec q _ _ _ _ 13 (dgs W 13) (dgs P130 13) (by decide) (dgs_length _ _) (dgs_length _ _) (dgs_lt _ _) (dgs_lt _ _)) ?_
    have vW : val (dgs W 13) = W := by rw [val_dgs, b130, Nat.mod_eq_of_lt hW]
    have vP : val (dgs P130 13) = P130 := by rw [val_dgs]; decide
    rw [vW, vP]
    (repeat (first | refine g ?_ | refine s_flat 9 [(.pure, [0, 1, 2, 3, 4, 6, 7, 8]), (.mem true, [5, 9]), (.pure, [10, 11]), (.mem false, [12])] ?_ | refine s_flat 10 [(.pure, [0, 1, 2, 3, 4, 5, 6, 7, 8, 10, 11, 12]), (.mem true, [9, 13]), (.pure, [14, 15, 16]), (.mem false, [17])] ?_ | refine s_flat 28 [(.pure, [0, 1, 2, 4, 5, 6, 9]), (.mem true, [3, 7]), (.pure, [8, 10, 11])] ?_))
    refine run_cond_dec rfl ?_ ?_
    · intro h2
      (repeat (first | refine g ?_ | refine s_flat 9 [(.pure, [0, 1, 2, 3, 4, 6, 7, 8]), (.mem true, [5, 9]), (.pure, [10, 11]), (.mem false, [12])] ?_ | refine s_flat 10 [(.pure, [0, 1, 2, 3, 4, 5, 6, 7, 8, 10, 11, 12]), (.mem true, [9, 13]), (.pure, [14, 15, 16]), (.mem false, [17])] ?_ | refine s_flat 28 [(.pure, [0, 1, 2, 4, 5, 6, 9]), (.mem true, [3, 7]), (.pure, [8, 10, 11])] ?_))
      refine run_ret rfl (imp_RX (b, cap) rfl ?_)
      rw [← hWm, Nat.mod_eq_of_lt h2]
      exact shut
    · intro h2
      (repeat (first | refine g ?_ | refine s_flat 9 [(.pure, [0, 1, 2, 3, 4, 6, 7, 8]), (.mem true, [5, 9]), (.pure, [10, 11]), (.mem false, [12])] ?_ | refine s_flat 10 [(.pure, [0, 1, 2, 3, 4, 5, 6, 7, 8, 10, 11, 12]), (.mem true, [9, 13]), (.pure, [14, 15, 16]), (.mem false, [17])] ?_ | refine s_flat 28 [(.pure, [0, 1, 2, 4, 5, 6, 9]), (.mem true, [3, 7]), (.pure, [8, 10, 11])] ?_))
      refine run_loopI (X := Nat × Int) (fun x => x.1 ≤ 13 ∧ x.2 = -(if W % 1024 ^ x.1 < P130 % 1024 ^ x.1 then 1 else 0)) (fun x => [(0, .slice (some ⟨b, 0, none⟩) 13 cap), (8, .slice (some ⟨bp, 0, none⟩) 13 cp), (9, .int .i64 x.2), (10, .int .i64 (x.1 : Int))])
        (fun x => [sl (some ⟨b, 0, none⟩) 13 cap 3 1 (iv (dgs (W - P130) x.1 ++ (dgs W 13).drop x.1)), sl (some ⟨bp, 0, none⟩) 13 cp 3 1 (iv (dgs P130 13))]) (fun x => 13 - x.1) (0, 0) ⟨by decide, by rw [Nat.pow_zero, Nat.mod_one, Nat.mod_one]; rfl⟩ fct shut ?_
      intro ⟨i, c⟩ ⟨hi, hc⟩
      dsimp only at *
      (repeat (first | refine g ?_ | refine s_flat 9 [(.pure, [0, 1, 2, 3, 4, 6, 7, 8]), (.mem true, [5, 9]), (.pure, [10, 11]), (.mem false, [12])] ?_ | refine s_flat 10 [(.pure, [0, 1, 2, 3, 4, 5, 6, 7, 8, 10, 11, 12]), (.mem true, [9, 13]), (.pure, [14, 15, 16]), (.mem false, [17])] ?_ | refine s_flat 28 [(.pure, [0, 1, 2, 4, 5, 6, 9]), (.mem true, [3, 7]), (.pure, [8, 10, 11])] ?_))
      refine run_cond_dec rfl ?_ ?_
      · intro h3
        obtain ⟨s1, s2⟩ := sub_step W P130 (1024 ^ i) (Nat.pow_pos (by decide)) (by omega) (-c) (by rw [hc]; simp)
        rw [← Nat.pow_succ] at s1
        have hlen : (dgs (W - P130) i ++ (dgs W 13).drop i).length = 13 := by rw [List.length_append, dgs_length, List.length_drop, dgs_length]; omega
        have hw : (dgs (W - P130) i ++ (dgs W 13).drop i)[i]? = some (W / 1024 ^ i % 1024) := by
          rw [List.getElem?_append_right (by rw [dgs_length]; exact Nat.le_refl _), dgs_length, Nat.sub_self, List.getElem?_drop, Nat.add_zero, dgs_getD W 13 i (by omega)]
        have hp := dgs_getD P130 13 i (by omega)
        have lw : W / 1024 ^ i % 1024 < 1024 := Nat.mod_lt _ (by decide)
        have lp : P130 / 1024 ^ i % 1024 < 1024 := Nat.mod_lt _ (by decide)
        have cb : c = 0 ∨ c = -1 := by rw [hc]; split <;> simp
        generalize hwd : W / 1024 ^ i % 1024 = w at *
        generalize hpd : P130 / 1024 ^ i % 1024 = p at *
        generalize hdd : (W - P130) / 1024 ^ i % 1024 = dd at *
        have eset : (iv (dgs (W - P130) i ++ (dgs W 13).drop i)).set i (Value.int .i64 (dd : Int)) = iv (dgs (W - P130) (i + 1) ++ (dgs W 13).drop (i + 1)) := by
          rw [iv_set, set_mid _ _ i _ (dgs_length _ _) (by rw [hlen]; omega), dgs_snoc (W - P130) i, List.drop_drop, hdd]
        (repeat (first | refine g ?_ | refine s_flat 9 [(.pure, [0, 1, 2, 3, 4, 6, 7, 8]), (.mem true, [5, 9]), (.pure, [10, 11]), (.mem false, [12])] ?_ | refine s_flat 10 [(.pure, [0, 1, 2, 3, 4, 5, 6, 7, 8, 10, 11, 12]), (.mem true, [9, 13]), (.pure, [14, 15, 16]), (.mem false, [17])] ?_ | refine s_flat 28 [(.pure, [0, 1, 2, 4, 5, 6, 9]), (.mem true, [3, 7]), (.pure, [8, 10, 11])] ?_ | refine s_loadsl (iv_at _ i _ hw) ?_ | refine s_loadsl (iv_at _ i _ hp) ?_))
        refine run_cond_dec rfl ?_ ?_
        · intro h4
          have h4' : (w : Int) - p - -c < 0 := by omega
          rw [if_pos h4'] at s2
          (repeat (first | refine g ?_ | refine s_flat 9 [(.pure, [0, 1, 2, 3, 4, 6, 7, 8]), (.mem true, [5, 9]), (.pure, [10, 11]), (.mem false, [12])] ?_ | refine s_flat 10 [(.pure, [0, 1, 2, 3, 4, 5, 6, 7, 8, 10, 11, 12]), (.mem true, [9, 13]), (.pure, [14, 15, 16]), (.mem false, [17])] ?_ | refine s_flat 28 [(.pure, [0, 1, 2, 4, 5, 6, 9]), (.mem true, [3, 7]), (.pure, [8, 10, 11])] ?_ | refine s_storesl ?_ (hi := by rw [iv_length, hlen]; omega)))
          have e2 : (w : Int) - (p : Int) + c + 1024 = (dd : Int) := by omega
          rw [← e2] at eset
          refine s_eq eset ?_
          refine run_stop_loop (i + 1, -1) ?_ fct shut
          refine ⟨⟨by dsimp only; omega, ?_⟩, by dsimp only; omega⟩
          dsimp only
          rw [if_pos (s1.1 h4')]
        · intro h4
          have h4' : ¬ (w : Int) - p - -c < 0 := by omega
          rw [if_neg h4'] at s2
          (repeat (first | refine g ?_ | refine s_flat 9 [(.pure, [0, 1, 2, 3, 4, 6, 7, 8]), (.mem true, [5, 9]), (.pure, [10, 11]), (.mem false, [12])] ?_ | refine s_flat 10 [(.pure, [0, 1, 2, 3, 4, 5, 6, 7, 8, 10, 11, 12]), (.mem true, [9, 13]), (.pure, [14, 15, 16]), (.mem false, [17])] ?_ | refine s_flat 28 [(.pure, [0, 1, 2, 4, 5, 6, 9]), (.mem true, [3, 7]), (.pure, [8, 10, 11])] ?_ | refine s_storesl ?_ (hi := by rw [iv_length, hlen]; omega)))
          have e2 : (w : Int) - (p : Int) + c = (dd : Int) := by omega
          rw [← e2] at eset
          refine s_eq eset ?_
          refine run_stop_loop (i + 1, 0) ?_ fct shut
          refine ⟨⟨by dsimp only; omega, ?_⟩, by dsimp only; omega⟩
          dsimp only
          rw [if_neg (fun h => h4' (s1.2 h))]; rfl
      · intro h3
        obtain rfl : i = 13 := by omega
        (repeat (first | refine g ?_ | refine s_flat 9 [(.pure, [0, 1, 2, 3, 4, 6, 7, 8]), (.mem true, [5, 9]), (.pure, [10, 11]), (.mem false, [12])] ?_ | refine s_flat 10 [(.pure, [0, 1, 2, 3, 4, 5, 6, 7, 8, 10, 11, 12]), (.mem true, [9, 13]), (.pure, [14, 15, 16]), (.mem false, [17])] ?_ | refine s_flat 28 [(.pure, [0, 1, 2, 4, 5, 6, 9]), (.mem true, [3, 7]), (.pure, [8, 10, 11])] ?_))
        refine run_ret rfl (imp_RX (b, cap) rfl ?_)
        have : W - P130 = val l % P130 := by
          rw [← hWm, Nat.mod_eq_sub_mod (by omega), Nat.mod_eq_of_lt (by unfold B130 P130 at *; omega)]
        rw [this, List.drop_of_length_le (by rw [dgs_length]; exact Nat.le_refl _), List.append_nil]
        exact shut
end Go.Proofs.Ytajjbgkbceobmaa.V
