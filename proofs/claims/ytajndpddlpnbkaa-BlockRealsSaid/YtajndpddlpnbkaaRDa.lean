/- The reference's numbers of digits: digits, less, prime. -/
import Derived.Test.YtajndpddlpnbkaaVA
import Derived.Test.YtajndpddlpnbkaaRD
import Derived.Test.YtajndpddlpnbkaaHClamped
import Derived.Test.YtajndpddlpnbkaaHTagLaw
import Derived.Test.YtajndpddlpnbkaaSpec
set_option maxRecDepth 10000
set_option linter.unusedVariables false
namespace Go.Proofs.Ytajndpddlpnbkaa.V
open Go.Proofs.Ytajndpddlpnbkaa.VL Go.Proofs.Ytajndpddlpnbkaa.VL.RD
attribute [local irreducible] Run
def leU (l : List UInt8) : Nat := match l with | [] => 0 | b :: l => b.toNat + 256 * leU l
theorem leU_bit (l : List UInt8) (k : Nat) : leU l / 2 ^ k % 2 = (l.getD (k / 8) 0).toNat / 2 ^ (k % 8) % 2 := by
  induction l generalizing k with
  | nil => simp [leU]
  | cons b l ih =>
    unfold leU
    have hb : b.toNat < 256 := b.toNat_lt
    rcases Nat.lt_or_ge k 8 with h | h
    · have e1 : k / 8 = 0 := by omega
      have e2 : k % 8 = k := by omega
      rw [e1, e2, List.getD_cons_zero]
      have e3 : (256 : Nat) = 2 ^ k * (2 * 2 ^ (7 - k)) := by
        rw [← Nat.mul_assoc, ← Nat.pow_succ, ← Nat.pow_add, show k + 1 + (7 - k) = 8 by omega]
      rw [e3, Nat.mul_assoc, Nat.add_mul_div_left _ _ (Nat.two_pow_pos k), Nat.mul_assoc, Nat.add_mul_mod_self_left]
    · have e1 : k / 8 = (k - 8) / 8 + 1 := by omega
      have e2 : k % 8 = (k - 8) % 8 := by omega
      rw [e1, e2, List.getD_cons_succ, ← ih]
      have e3 : (2 : Nat) ^ k = 256 * 2 ^ (k - 8) := by
        rw [show (256 : Nat) = 2 ^ 8 by decide, ← Nat.pow_add]; congr 1; omega
      rw [e3, ← Nat.div_div_eq_div_mul]
      congr 2
      omega
theorem bits_step (V j m : Nat) : V / 2 ^ j % 2 ^ (m + 1) = 2 * (V / 2 ^ (j + 1) % 2 ^ m) + V / 2 ^ j % 2 := by
  rw [Nat.pow_succ 2 m, Nat.mul_comm (2 ^ m) 2, Nat.mod_mul, Nat.div_div_eq_div_mul, ← Nat.pow_succ, Nat.succ_eq_add_one]
  omega
theorem bits_i (b : ByteArray) (k : Nat) (h : k / 8 < b.size) : (((bAt b (k / 8)).fdiv (2 ^ (k % 8))) % 2 : Int) = (leU b.data.toList / 2 ^ k % 2 : Nat) := by
  rw [leU_bit]
  unfold bAt
  rw [Int.fdiv_eq_ediv_of_nonneg _ (by exact Int.le_of_lt (Int.pow_pos (by decide)))]
  norm_cast
theorem bits_out (b : ByteArray) (k : Nat) (h : b.size ≤ k / 8) : leU b.data.toList / 2 ^ k % 2 = 0 := by
  rw [leU_bit, List.getD_eq_getElem?_getD, List.getElem?_eq_none (by simpa using h)]
  simp
theorem digits_spec (q : View) (b : ByteArray) (n : Nat) (hn : n ≤ 1000) (hb : b.size ≤ 1000000) : FnX Try.prog q 102 [.string b, .int .i64 n] [] (fun r : Option Addr × Nat => .slice r.1 n r.2) fun r => [sl r.1 n r.2 3 1 (iv (dgs (leU b.data.toList) n))] := by
  (first | refine FnD.go Try.call102 Try.func102 rfl rfl rfl ?_ | refine FnX.go Try.call102 Try.func102 rfl rfl rfl ?_)
  (repeat (first | refine g ?_))
  refine run_loopI (X := Nat × Option Addr × Nat) (fun x => x.1 ≤ n) (fun x => [(0, .string b), (1, .int .i64 n), (5, .slice x.2.1 x.1 x.2.2), (6, .int .i64 x.1)]) (fun x => [sl x.2.1 x.1 x.2.2 3 1 (iv (dgs (leU b.data.toList) x.1))]) (fun x => n - x.1) (0, none, 0) (Nat.zero_le _) fct shut ?_
  intro ⟨i, p, c⟩ hi
  dsimp only at *
  (repeat (first | refine g ?_))
  refine run_cond_dec rfl ?_ ?_
  · intro h
    (repeat (first | refine g ?_))
    refine run_loopI (X := Nat × Nat) (fun x => x.1 ≤ 10 ∧ x.2 = leU b.data.toList / 2 ^ (10 * i + x.1) % 2 ^ (10 - x.1)) (fun x => [(0, .string b), (1, .int .i64 n), (5, .slice p i c), (6, .int .i64 i), (7, .int .i64 x.2), (8, .int .i64 ((x.1 : Int) - 1))]) (fun x => [sl p i c 3 1 (iv (dgs (leU b.data.toList) i))]) (fun x => x.1) (10, 0) ⟨Nat.le_refl _, by rw [Nat.sub_self, Nat.pow_zero, Nat.mod_one]⟩ fct shut ?_
    intro ⟨j, d⟩ ⟨hj, hd⟩
    dsimp only at *
    have hd10 : d < 1024 := by rw [hd]; exact Nat.lt_of_lt_of_le (Nat.mod_lt _ (Nat.two_pow_pos _)) (Nat.pow_le_pow_right (by decide) (show 10 - j ≤ 10 by omega))
    (repeat (first | refine g ?_))
    refine run_cond_dec rfl ?_ ?_
    · intro h2
      have hnew : 2 * d + leU b.data.toList / 2 ^ (10 * i + (j - 1)) % 2 = leU b.data.toList / 2 ^ (10 * i + (j - 1)) % 2 ^ (10 - (j - 1)) := by
        rw [show 10 - (j - 1) = (10 - j) + 1 by omega, bits_step, hd, show 10 * i + (j - 1) + 1 = 10 * i + j by omega]
      have hnat : 10 * (i : Int) + ((j : Int) - 1) = ((10 * i + (j - 1) : Nat) : Int) := by omega
      (repeat (first | refine g ?_))
      refine run_cond_dec rfl ?_ ?_
      · intro h3
        have hB := bAt_lt b ((10 * (i : Int) + ((j : Int) - 1)) / 8).toNat
        have hC : 0 ≤ bAt b ((10 * (i : Int) + ((j : Int) - 1)) / 8).toNat / 2 ^ ((10 * (i : Int) + ((j : Int) - 1)) % 8).toNat ∧ bAt b ((10 * (i : Int) + ((j : Int) - 1)) / 8).toNat / 2 ^ ((10 * (i : Int) + ((j : Int) - 1)) % 8).toNat ≤ 255 :=
          ⟨Int.ediv_nonneg hB.1 (Int.le_of_lt (Int.pow_pos (by decide))), Int.le_trans (Int.ediv_le_self _ hB.1) (by omega)⟩
        (repeat (first | refine g ?_))
        have e7 : 2 * (d : Int) + bAt b ((10 * (i : Int) + ((j : Int) - 1)) / 8).toNat / 2 ^ ((10 * (i : Int) + ((j : Int) - 1)) % 8).toNat % 2 = ((2 * d + leU b.data.toList / 2 ^ (10 * i + (j - 1)) % 2 : Nat) : Int) := by
          rw [hnat] at h3 ⊢
          have h3' : (10 * i + (j - 1)) / 8 < b.size := by omega
          have := bits_i b (10 * i + (j - 1)) h3'
          rw [Int.fdiv_eq_ediv_of_nonneg _ (Int.le_of_lt (Int.pow_pos (by decide)))] at this
          rw [show (((10 * i + (j - 1) : Nat) : Int) / 8).toNat = (10 * i + (j - 1)) / 8 by omega, show (((10 * i + (j - 1) : Nat) : Int) % 8).toNat = (10 * i + (j - 1)) % 8 by omega, this]
          push_cast; rfl
        refine run_stop_loop (j - 1, 2 * d + leU b.data.toList / 2 ^ (10 * i + (j - 1)) % 2) ?_ fct shut
        exact ⟨⟨by omega, hnew⟩, by omega⟩
      · intro h3
        have e7 : 2 * (d : Int) = ((2 * d + leU b.data.toList / 2 ^ (10 * i + (j - 1)) % 2 : Nat) : Int) := by
          have := bits_out b (10 * i + (j - 1)) (by omega)
          omega
        (repeat (first | refine g ?_))
        refine run_stop_loop (j - 1, 2 * d + leU b.data.toList / 2 ^ (10 * i + (j - 1)) % 2) ?_ fct shut
        exact ⟨⟨by omega, hnew⟩, by omega⟩
    · intro h2
      obtain rfl : j = 0 := by omega
      (repeat (first | refine g ?_))
      refine s_built fun r => ?_
      (repeat (first | refine g ?_))
      refine s_app 1 8 (reads_own At.head rfl) (hxl := by rw [iv_length, dgs_length, Nat.mul_one]) fun r2 => ?_
      (repeat (first | refine g ?_))
      have ed : iv (dgs (leU b.data.toList) i) ++ [Value.int .i64 (d : Int)] = iv (dgs (leU b.data.toList) (i + 1)) := by
        rw [dgs_snoc, iv_append, hd]
        show _ = _ ++ [_]
        rw [Nat.sub_zero, Nat.add_zero, show (2 : Nat) ^ (10 * i) = 1024 ^ i by rw [Nat.pow_mul]]
      rw [ed]
      refine run_stop_loop (i + 1, r2) ?_ fct shut
      exact ⟨by omega, by dsimp only; omega⟩
  · intro h
    obtain rfl : i = n := by omega
    (repeat (first | refine g ?_))
    exact run_ret rfl (imp_RX (p, c) rfl shut)
theorem less_at (a b : List Nat) (i : Nat) (hl : a.length = b.length) (ha : ∀ x ∈ a, x < 1024) (hb : ∀ x ∈ b, x < 1024) (x y : Nat) (hx : a[i]? = some x) (hy : b[i]? = some y) (hd : a.drop (i + 1) = b.drop (i + 1)) (hne : x ≠ y) :
    val a < val b ↔ x < y := by
  have li := (List.getElem?_eq_some_iff.1 hx).1
  rw [val_split a (i + 1) (by omega), val_split b (i + 1) (by omega), hd, val_take_succ a i x hx, val_take_succ b i y hy]
  have h1 := val_lt (a.take i) fun z hz => ha z (List.mem_of_mem_take hz)
  have h2 := val_lt (b.take i) fun z hz => hb z (List.mem_of_mem_take hz)
  rw [List.length_take, Nat.min_eq_left (by omega)] at h1 h2
  generalize 1024 ^ i = M at *
  rcases Nat.lt_or_ge x y with h | h
  · have : (x + 1) * M ≤ y * M := Nat.mul_le_mul_right _ h
    rw [Nat.add_mul] at this
    exact ⟨fun _ => h, fun _ => by omega⟩
  · have : (y + 1) * M ≤ x * M := Nat.mul_le_mul_right _ (by omega)
    rw [Nat.add_mul] at this
    exact ⟨fun h3 => by omega, fun h3 => by omega⟩
theorem less_spec (q : View) (ba ca bb cb n : Nat) (a b : List Nat) (hn : n ≤ 1000) (la : a.length = n) (lb : b.length = n) (ha : ∀ x ∈ a, x < 1024) (hb : ∀ x ∈ b, x < 1024) :
    FnD Try.prog q 117 [.slice (some ⟨ba, 0, none⟩) n ca, .slice (some ⟨bb, 0, none⟩) n cb] [sl (some ⟨ba, 0, none⟩) n ca 3 1 (iv a), sl (some ⟨bb, 0, none⟩) n cb 3 1 (iv b)] (.bool (decide (val a < val b))) [sl (some ⟨ba, 0, none⟩) n ca 3 1 (iv a), sl (some ⟨bb, 0, none⟩) n cb 3 1 (iv b)] := by
  (first | refine FnD.go Try.call117 Try.func117 rfl rfl rfl ?_ | refine FnX.go Try.call117 Try.func117 rfl rfl rfl ?_)
  (repeat (first | refine g ?_ | refine s_flat 4 [(.pure, [0, 1, 2, 4, 5, 6]), (.mem true, [3, 7]), (.pure, [8])] ?_ | refine s_flat 5 [(.pure, [0, 1, 2, 4, 5, 6]), (.mem true, [3, 7]), (.pure, [8, 9])] ?_))
  refine run_loopI (X := Nat) (fun i => i ≤ n ∧ a.drop i = b.drop i) (fun i => [(0, .slice (some ⟨ba, 0, none⟩) n ca), (1, .slice (some ⟨bb, 0, none⟩) n cb), (5, .int .i64 ((i : Int) - 1))]) (fun i => [sl (some ⟨ba, 0, none⟩) n ca 3 1 (iv a), sl (some ⟨bb, 0, none⟩) n cb 3 1 (iv b)]) (fun i => i) n ⟨Nat.le_refl _, by rw [List.drop_of_length_le (by omega), List.drop_of_length_le (by omega)]⟩ fct shut ?_
  intro i ⟨hi, hd⟩
  (repeat (first | refine g ?_ | refine s_flat 4 [(.pure, [0, 1, 2, 4, 5, 6]), (.mem true, [3, 7]), (.pure, [8])] ?_ | refine s_flat 5 [(.pure, [0, 1, 2, 4, 5, 6]), (.mem true, [3, 7]), (.pure, [8, 9])] ?_))
  refine run_cond_dec rfl ?_ ?_
  · intro h
    obtain ⟨x, hx⟩ : ∃ x, a[((i : Int) - 1).toNat]? = some x := ⟨_, List.getElem?_eq_getElem (by omega)⟩
    obtain ⟨y, hy⟩ : ∃ y, b[((i : Int) - 1).toNat]? = some y := ⟨_, List.getElem?_eq_getElem (by omega)⟩
    have hi1 : i - 1 + 1 = i := by omega
    have ei : ((i : Int) - 1).toNat = i - 1 := by omega
    (repeat (first | refine g ?_ | refine s_flat 4 [(.pure, [0, 1, 2, 4, 5, 6]), (.mem true, [3, 7]), (.pure, [8])] ?_ | refine s_flat 5 [(.pure, [0, 1, 2, 4, 5, 6]), (.mem true, [3, 7]), (.pure, [8, 9])] ?_ | refine s_loadsl (iv_at _ _ _ hx) ?_ | refine s_loadsl (iv_at _ _ _ hy) ?_))
    have hx0 := hx; have hy0 := hy
    rw [ei] at hx hy
    refine run_cond_dec rfl ?_ ?_
    · intro hne
      (repeat (first | refine g ?_ | refine s_flat 4 [(.pure, [0, 1, 2, 4, 5, 6]), (.mem true, [3, 7]), (.pure, [8])] ?_ | refine s_flat 5 [(.pure, [0, 1, 2, 4, 5, 6]), (.mem true, [3, 7]), (.pure, [8, 9])] ?_ | refine s_loadsl (iv_at a _ x hx0) ?_ | refine s_loadsl (iv_at b _ y hy0) ?_))
      refine run_ret rfl (imp_RD ?_ shut)
      have := less_at a b (i - 1) (by omega) ha hb x y hx hy (by rw [hi1]; exact hd) (by omega)
      exact congrArg Value.bool (decide_eq_decide.2 (by omega))
    · intro he
      (repeat (first | refine g ?_ | refine s_flat 4 [(.pure, [0, 1, 2, 4, 5, 6]), (.mem true, [3, 7]), (.pure, [8])] ?_ | refine s_flat 5 [(.pure, [0, 1, 2, 4, 5, 6]), (.mem true, [3, 7]), (.pure, [8, 9])] ?_))
      refine run_stop_loop (i - 1) ?_ fct shut
      have hxy : x = y := Int.ofNat.inj (Decidable.not_not.1 he)
      refine ⟨⟨by omega, ?_⟩, by omega⟩
      rw [List.drop_eq_getElem_cons (show i - 1 < a.length by omega), List.drop_eq_getElem_cons (show i - 1 < b.length by omega), hi1, hd, (List.getElem?_eq_some_iff.1 hx).2, (List.getElem?_eq_some_iff.1 hy).2, hxy]
  · intro h
    obtain rfl : i = 0 := by omega
    (repeat (first | refine g ?_ | refine s_flat 4 [(.pure, [0, 1, 2, 4, 5, 6]), (.mem true, [3, 7]), (.pure, [8])] ?_ | refine s_flat 5 [(.pure, [0, 1, 2, 4, 5, 6]), (.mem true, [3, 7]), (.pure, [8, 9])] ?_))
    refine run_ret rfl (imp_RD ?_ shut)
    simp only [List.drop_zero] at hd
    subst hd
    rw [decide_eq_false (Nat.lt_irrefl _)]
theorem prime_digits : dgs P130 13 = 1019 :: List.replicate 12 1023 := by decide
theorem prime_spec (q : View) : FnX Try.prog q 116 [] [] (fun r : Option Addr × Nat => .slice r.1 13 r.2) fun r => [sl r.1 13 r.2 3 1 (iv (dgs P130 13))] := by
  (first | refine FnD.go Try.call116 Try.func116 rfl rfl rfl ?_ | refine FnX.go Try.call116 Try.func116 rfl rfl rfl ?_)
  (repeat (first | refine g ?_))
  refine s_built fun r => ?_
  (repeat (first | refine g ?_))
  refine run_to_sl (n := 1) (kk := 1) rfl ?_
  refine run_loopI (X := Nat × Option Addr × Nat) (fun x => x.1 ≤ 12) (fun x => [(1, .slice x.2.1 (x.1 + 1) x.2.2), (2, .int .i64 ((x.1 : Int) + 1))]) (fun x => [sl x.2.1 (x.1 + 1) x.2.2 3 1 (iv (1019 :: List.replicate x.1 1023))]) (fun x => 12 - x.1) (0, some ⟨r, 0, none⟩, 1) (Nat.zero_le _) fct shut ?_
  intro ⟨i, p, c⟩ hi
  dsimp only at *
  (repeat (first | refine g ?_))
  refine run_cond_dec rfl ?_ ?_
  · intro h
    (repeat (first | refine g ?_))
    refine s_built fun r2 => ?_
    (repeat (first | refine g ?_))
    refine s_app 1 8 (reads_own At.head rfl) (hxl := by simp [iv]) fun r3 => ?_
    (repeat (first | refine g ?_))
    rw [show iv (1019 :: List.replicate i 1023) ++ [Value.int .i64 1023] = iv (1019 :: List.replicate (i + 1) 1023) by
      rw [List.replicate_succ']; simp [iv]]
    refine run_stop_loop (i + 1, r3) ?_ fct shut
    dsimp only at *
    omega
  · intro h
    obtain rfl : i = 12 := by omega
    (repeat (first | refine g ?_))
    rw [prime_digits]
    exact run_ret rfl (imp_RX (p, c) rfl shut)
end Go.Proofs.Ytajndpddlpnbkaa.V
namespace Go.Proofs.Ytajndpddlpnbkaa.V
open Go.Proofs.Ytajndpddlpnbkaa.VL Go.Proofs.Ytajndpddlpnbkaa.VL.RD
attribute [local irreducible] Run
theorem zero_iv (n : Nat) : zeroL (.int .i64 0) n = iv (List.replicate n 0) := by
  rw [zeroL_one _ rfl]; unfold iv; rw [List.map_replicate]; rfl
theorem set_mid (a b : List Nat) (i x : Nat) (h : a.length = i) (hb : i < (a ++ b).length) : (a ++ b).set i x = a ++ [x] ++ b.drop 1 := by
  subst h
  cases b with
  | nil => simp at hb
  | cons y b => simp
theorem reduced_spec (q : View) (b0 n0 c0 : Nat) (l : List Nat) (ln : l.length = n0) (h13 : 13 ≤ n0) (h26 : n0 ≤ 26) (hc0 : n0 ≤ c0) (hl : ∀ x ∈ l, x ≤ M36) :
    FnX Try.prog q 105 [.slice (some ⟨b0, 0, none⟩) n0 c0] [sl (some ⟨b0, 0, none⟩) n0 c0 3 1 (iv l)] (fun r : Nat × Nat => .slice (some ⟨r.1, 0, none⟩) 13 r.2) fun r => [sl (some ⟨r.1, 0, none⟩) 13 r.2 3 1 (iv (dgs (val l % P130) 13))] := by
  have hV := spread_lt l (by omega) hl
  (first | refine FnD.go Try.call105 Try.func105 rfl rfl rfl ?_ | refine FnX.go Try.call105 Try.func105 rfl rfl rfl ?_)
  (repeat (first | refine g ?_ | refine s_flat 9 [(.pure, [0, 1, 2, 3, 4, 6, 7, 8]), (.mem true, [5, 9]), (.pure, [10, 11]), (.mem false, [12])] ?_ | refine s_flat 10 [(.pure, [0, 1, 2, 3, 4, 5, 6, 7, 8, 10, 11, 12]), (.mem true, [9, 13]), (.pure, [14, 15, 16]), (.mem false, [17])] ?_ | refine s_flat 28 [(.pure, [0, 1, 2, 4, 5, 6, 9]), (.mem true, [3, 7]), (.pure, [8, 10, 11])] ?_))
  refine run_loopI (X := Nat × (Nat × Nat × Nat) × List Nat) (fun x => x.1 ≤ 8 ∧ x.2.2.length = x.2.1.2.1 ∧ 13 ≤ x.2.1.2.1 ∧ x.2.1.2.1 ≤ 26 ∧ x.2.1.2.1 ≤ x.2.1.2.2 ∧ (∀ d ∈ x.2.2, d ≤ M36) ∧ spread x.2.2 = folds x.1 (spread l) ∧ (0 < x.1 → x.2.2 = turned (folds (x.1 - 1) (spread l))))
    (fun x => [(0, .slice (some ⟨x.2.1.1, 0, none⟩) x.2.1.2.1 x.2.1.2.2), (3, .int .i64 (x.1 : Int))]) (fun x => [sl (some ⟨x.2.1.1, 0, none⟩) x.2.1.2.1 x.2.1.2.2 3 1 (iv x.2.2)]) (fun x => 8 - x.1) (0, (b0, n0, c0), l)
    ⟨by omega, ln, h13, h26, hc0, hl, rfl, fun h => absurd h (Nat.lt_irrefl 0)⟩ fct shut ?_
  intro ⟨k, ⟨b, n, cap⟩, t⟩ ⟨hk, tn, t13, t26, tc, ht, hs, htt⟩
  dsimp only at *
  (repeat (first | refine g ?_ | refine s_flat 9 [(.pure, [0, 1, 2, 3, 4, 6, 7, 8]), (.mem true, [5, 9]), (.pure, [10, 11]), (.mem false, [12])] ?_ | refine s_flat 10 [(.pure, [0, 1, 2, 3, 4, 5, 6, 7, 8, 10, 11, 12]), (.mem true, [9, 13]), (.pure, [14, 15, 16]), (.mem false, [17])] ?_ | refine s_flat 28 [(.pure, [0, 1, 2, 4, 5, 6, 9]), (.mem true, [3, 7]), (.pure, [8, 10, 11])] ?_))
  refine run_cond_dec rfl ?_ ?_
  · intro h
    (repeat (first | refine g ?_ | refine s_flat 9 [(.pure, [0, 1, 2, 3, 4, 6, 7, 8]), (.mem true, [5, 9]), (.pure, [10, 11]), (.mem false, [12])] ?_ | refine s_flat 10 [(.pure, [0, 1, 2, 3, 4, 5, 6, 7, 8, 10, 11, 12]), (.mem true, [9, 13]), (.pure, [14, 15, 16]), (.mem false, [17])] ?_ | refine s_flat 28 [(.pure, [0, 1, 2, 4, 5, 6, 9]), (.mem true, [3, 7]), (.pure, [8, 10, 11])] ?_))
    refine s_made 8 13 13 fun ro => ?_
    (repeat (first | refine g ?_ | refine s_flat 9 [(.pure, [0, 1, 2, 3, 4, 6, 7, 8]), (.mem true, [5, 9]), (.pure, [10, 11]), (.mem false, [12])] ?_ | refine s_flat 10 [(.pure, [0, 1, 2, 3, 4, 5, 6, 7, 8, 10, 11, 12]), (.mem true, [9, 13]), (.pure, [14, 15, 16]), (.mem false, [17])] ?_ | refine s_flat 28 [(.pure, [0, 1, 2, 4, 5, 6, 9]), (.mem true, [3, 7]), (.pure, [8, 10, 11])] ?_))
    rw [zero_iv]
    refine run_to_sl (n := 13) (kk := 1) rfl ?_
    refine run_loopI (X := Nat × List Nat) (fun x => x.1 ≤ n ∧ x.2.length = 13 ∧ val x.2 = RD.part t x.1 ∧ ∀ d ∈ x.2, d ≤ x.1 * (5 * M36)) (fun x => [(0, .slice (some ⟨b, 0, none⟩) n cap), (3, .int .i64 (k : Int)), (4, .slice (some ⟨ro, 0, none⟩) 13 13), (5, .int .i64 (x.1 : Int))])
      (fun x => [sl (some ⟨ro, 0, none⟩) 13 13 3 1 (iv x.2), sl (some ⟨b, 0, none⟩) n cap 3 1 (iv t)]) (fun x => n - x.1) (0, List.replicate 13 0) ⟨Nat.zero_le _, rfl, rfl, by decide⟩ fct shut ?_
    intro ⟨i, S⟩ ⟨hi, lS, vS, bS⟩
    dsimp only at *
    (repeat (first | refine g ?_ | refine s_flat 9 [(.pure, [0, 1, 2, 3, 4, 6, 7, 8]), (.mem true, [5, 9]), (.pure, [10, 11]), (.mem false, [12])] ?_ | refine s_flat 10 [(.pure, [0, 1, 2, 3, 4, 5, 6, 7, 8, 10, 11, 12]), (.mem true, [9, 13]), (.pure, [14, 15, 16]), (.mem false, [17])] ?_ | refine s_flat 28 [(.pure, [0, 1, 2, 4, 5, 6, 9]), (.mem true, [3, 7]), (.pure, [8, 10, 11])] ?_))
    refine run_cond_dec rfl ?_ ?_
    · intro h2
      have hi2 : i < t.length := by omega
      obtain ⟨x, hx⟩ : ∃ x, t[i]? = some x := ⟨_, List.getElem?_eq_getElem hi2⟩
      have hxM := ht x (List.mem_of_getElem? hx)
      unfold M36 at hxM
      (repeat (first | refine g ?_ | refine s_flat 9 [(.pure, [0, 1, 2, 3, 4, 6, 7, 8]), (.mem true, [5, 9]), (.pure, [10, 11]), (.mem false, [12])] ?_ | refine s_flat 10 [(.pure, [0, 1, 2, 3, 4, 5, 6, 7, 8, 10, 11, 12]), (.mem true, [9, 13]), (.pure, [14, 15, 16]), (.mem false, [17])] ?_ | refine s_flat 28 [(.pure, [0, 1, 2, 4, 5, 6, 9]), (.mem true, [3, 7]), (.pure, [8, 10, 11])] ?_))
      refine run_cond_dec rfl ?_ ?_
      · intro h3
        obtain ⟨y, hy⟩ : ∃ y, S[i]? = some y := ⟨_, List.getElem?_eq_getElem (by omega)⟩
        have hyM := bS y (List.mem_of_getElem? hy)
        unfold M36 at hyM
        (repeat (first | refine g ?_ | refine s_flat 9 [(.pure, [0, 1, 2, 3, 4, 6, 7, 8]), (.mem true, [5, 9]), (.pure, [10, 11]), (.mem false, [12])] ?_ | refine s_flat 10 [(.pure, [0, 1, 2, 3, 4, 5, 6, 7, 8, 10, 11, 12]), (.mem true, [9, 13]), (.pure, [14, 15, 16]), (.mem false, [17])] ?_ | refine s_flat 28 [(.pure, [0, 1, 2, 4, 5, 6, 9]), (.mem true, [3, 7]), (.pure, [8, 10, 11])] ?_ | refine s_loadsl (iv_at t i x hx) ?_ | refine s_loadsl (iv_at S i y hy) ?_ | refine s_storesl ?_))
        have e : (iv S).set i (Value.int .i64 ((y : Int) + (x : Int))) = iv (S.set i (y + x)) := iv_set S i (y + x)
        refine s_eq e ?_
        refine run_stop_loop (i + 1, S.set i (y + x)) ?_ fct shut
        refine ⟨⟨by omega, by simpa using lS, ?_, ?_⟩, by dsimp only; omega⟩
        · dsimp only
          rw [val_set S i y x hy, part_low t i x hx (by omega), vS]
        · intro d hd
          rcases List.mem_or_eq_of_mem_set hd with h | h
          · have := bS d h; dsimp only; rw [Nat.add_mul]; omega
          · have h1 := bS y (List.mem_of_getElem? hy); dsimp only; rw [Nat.add_mul, h]; have h2 : x ≤ M36 := ht x (List.mem_of_getElem? hx); omega
      · intro h3
        obtain ⟨y, hy⟩ : ∃ y, S[i - 13]? = some y := ⟨_, List.getElem?_eq_getElem (by omega)⟩
        have hyM := bS y (List.mem_of_getElem? hy)
        unfold M36 at hyM
        have ei : (((i : Int) - 13) % 13).toNat = i - 13 := by omega
        have hy' : S[(((i : Int) - 13) % 13).toNat]? = some y := by rw [ei]; exact hy
        (repeat (first | refine g ?_ | refine s_flat 9 [(.pure, [0, 1, 2, 3, 4, 6, 7, 8]), (.mem true, [5, 9]), (.pure, [10, 11]), (.mem false, [12])] ?_ | refine s_flat 10 [(.pure, [0, 1, 2, 3, 4, 5, 6, 7, 8, 10, 11, 12]), (.mem true, [9, 13]), (.pure, [14, 15, 16]), (.mem false, [17])] ?_ | refine s_flat 28 [(.pure, [0, 1, 2, 4, 5, 6, 9]), (.mem true, [3, 7]), (.pure, [8, 10, 11])] ?_ | refine s_loadsl (iv_at t i x hx) ?_ | refine s_loadsl (iv_at S _ y hy') ?_ | refine s_storesl ?_))
        have e : (iv S).set (((i : Int) - 13) % 13).toNat (Value.int .i64 ((y : Int) + 5 * (x : Int))) = iv (S.set (i - 13) (y + 5 * x)) := by
          rw [ei]; exact iv_set S (i - 13) (y + 5 * x)
        refine s_eq e ?_
        refine run_stop_loop (i + 1, S.set (i - 13) (y + 5 * x)) ?_ fct shut
        refine ⟨⟨by omega, by simpa using lS, ?_, ?_⟩, by dsimp only; omega⟩
        · dsimp only
          rw [val_set S (i - 13) y (5 * x) hy, part_high t i x hx (by omega), vS]
        · intro d hd
          rcases List.mem_or_eq_of_mem_set hd with h | h
          · have := bS d h; dsimp only; rw [Nat.add_mul]; omega
          · have h1 := bS y (List.mem_of_getElem? hy); dsimp only; rw [Nat.add_mul, h]; have h2 : x ≤ M36 := ht x (List.mem_of_getElem? hx); omega
    · intro h2
      obtain rfl : i = n := by omega
      rw [← tn, part_all] at vS
      have bS' : ∀ d ∈ S, d ≤ 8933531975680 := fun d hd => by
        have := bS d hd
        have : i * (5 * M36) ≤ 26 * (5 * M36) := Nat.mul_le_mul_right _ t26
        unfold M36 at *; omega
      (repeat (first | refine g ?_ | refine s_flat 9 [(.pure, [0, 1, 2, 3, 4, 6, 7, 8]), (.mem true, [5, 9]), (.pure, [10, 11]), (.mem false, [12])] ?_ | refine s_flat 10 [(.pure, [0, 1, 2, 3, 4, 5, 6, 7, 8, 10, 11, 12]), (.mem true, [9, 13]), (.pure, [14, 15, 16]), (.mem false, [17])] ?_ | refine s_flat 28 [(.pure, [0, 1, 2, 4, 5, 6, 9]), (.mem true, [3, 7]), (.pure, [8, 10, 11])] ?_))
      refine run_loopI (X := Nat × Nat) (fun x => x.1 ≤ 13 ∧ x.2 + val (S.drop x.1) = val S / 1024 ^ x.1 ∧ x.2 ≤ 8933531975680) (fun x => [(0, .slice (some ⟨b, 0, none⟩) i cap), (3, .int .i64 (k : Int)), (4, .slice (some ⟨ro, 0, none⟩) 13 13), (6, .int .i64 (x.2 : Int)), (7, .int .i64 (x.1 : Int))])
        (fun x => [sl (some ⟨ro, 0, none⟩) 13 13 3 1 (iv (dgs (val S) x.1 ++ S.drop x.1)), sl (some ⟨b, 0, none⟩) i cap 3 1 (iv t)]) (fun x => 13 - x.1) (0, 0) ⟨by decide, by simp, by decide⟩ fct shut ?_
      intro ⟨j, c⟩ ⟨hj, hc, bc⟩
      dsimp only at *
      (repeat (first | refine g ?_ | refine s_flat 9 [(.pure, [0, 1, 2, 3, 4, 6, 7, 8]), (.mem true, [5, 9]), (.pure, [10, 11]), (.mem false, [12])] ?_ | refine s_flat 10 [(.pure, [0, 1, 2, 3, 4, 5, 6, 7, 8, 10, 11, 12]), (.mem true, [9, 13]), (.pure, [14, 15, 16]), (.mem false, [17])] ?_ | refine s_flat 28 [(.pure, [0, 1, 2, 4, 5, 6, 9]), (.mem true, [3, 7]), (.pure, [8, 10, 11])] ?_))
      refine run_cond_dec rfl ?_ ?_
      · intro h3
        obtain ⟨y, hy⟩ : ∃ y, S[j]? = some y := ⟨_, List.getElem?_eq_getElem (by omega)⟩
        have hyM := bS' y (List.mem_of_getElem? hy)
        have hy' : (dgs (val S) j ++ S.drop j)[j]? = some y := by
          rw [List.getElem?_append_right (by rw [dgs_length]; exact Nat.le_refl _), dgs_length, Nat.sub_self, List.getElem?_drop, Nat.add_zero, hy]
        have hlen : (dgs (val S) j ++ S.drop j).length = 13 := by rw [List.length_append, dgs_length, List.length_drop]; omega
        have hd := val_drop S j y hy
        rw [hd] at hc
        (repeat (first | refine g ?_ | refine s_flat 9 [(.pure, [0, 1, 2, 3, 4, 6, 7, 8]), (.mem true, [5, 9]), (.pure, [10, 11]), (.mem false, [12])] ?_ | refine s_flat 10 [(.pure, [0, 1, 2, 3, 4, 5, 6, 7, 8, 10, 11, 12]), (.mem true, [9, 13]), (.pure, [14, 15, 16]), (.mem false, [17])] ?_ | refine s_flat 28 [(.pure, [0, 1, 2, 4, 5, 6, 9]), (.mem true, [3, 7]), (.pure, [8, 10, 11])] ?_ | refine s_loadsl (iv_at _ j y hy') ?_ | refine s_storesl ?_ (hi := by rw [iv_length, hlen]; omega)))
        have e : (iv (dgs (val S) j ++ S.drop j)).set j (Value.int .i64 (((c : Int) + (y : Int)) % 1024)) = iv (dgs (val S) (j + 1) ++ S.drop (j + 1)) := by
          have e1 : ((c : Int) + (y : Int)) % 1024 = (((c + y) % 1024 : Nat) : Int) := by omega
          rw [e1, iv_set, set_mid _ _ j _ (dgs_length _ _) (by rw [hlen]; omega), dgs_snoc, List.drop_drop]
          rw [← hc, show c + (y + 1024 * val (S.drop (j + 1))) = c + y + 1024 * val (S.drop (j + 1)) by omega, Nat.add_mul_mod_self_left]
        refine s_eq e ?_
        have e2 : ((c : Int) + (y : Int)) / 1024 = (((c + y) / 1024 : Nat) : Int) := by omega
        refine run_stop_loop (j + 1, (c + y) / 1024) ?_ fct shut
        refine ⟨⟨by omega, ?_, by dsimp only; omega⟩, by dsimp only; omega⟩
        dsimp only
        rw [Nat.pow_succ, ← Nat.div_div_eq_div_mul, ← hc]
        omega
      · intro h3
        obtain rfl : j = 13 := by omega
        rw [List.drop_of_length_le (by omega)] at hc
        (repeat (first | refine g ?_ | refine s_flat 9 [(.pure, [0, 1, 2, 3, 4, 6, 7, 8]), (.mem true, [5, 9]), (.pure, [10, 11]), (.mem false, [12])] ?_ | refine s_flat 10 [(.pure, [0, 1, 2, 3, 4, 5, 6, 7, 8, 10, 11, 12]), (.mem true, [9, 13]), (.pure, [14, 15, 16]), (.mem false, [17])] ?_ | refine s_flat 28 [(.pure, [0, 1, 2, 4, 5, 6, 9]), (.mem true, [3, 7]), (.pure, [8, 10, 11])] ?_))
        refine s_built fun rb => ?_
        (repeat (first | refine g ?_ | refine s_flat 9 [(.pure, [0, 1, 2, 3, 4, 6, 7, 8]), (.mem true, [5, 9]), (.pure, [10, 11]), (.mem false, [12])] ?_ | refine s_flat 10 [(.pure, [0, 1, 2, 3, 4, 5, 6, 7, 8, 10, 11, 12]), (.mem true, [9, 13]), (.pure, [14, 15, 16]), (.mem false, [17])] ?_ | refine s_flat 28 [(.pure, [0, 1, 2, 4, 5, 6, 9]), (.mem true, [3, 7]), (.pure, [8, 10, 11])] ?_))
        refine s_app 1 8 (reads_own At.head rfl) (hxl := by rw [iv_length, List.length_append, dgs_length, List.drop_of_length_le (by omega)]; rfl) fun r2 => ?_
        obtain ⟨p2, c2⟩ := r2
        dsimp only
        refine s_ptr p2 fun b2 eb2 _ hcap => ?_
        subst eb2
        have ec : c = val S / B130 := by rw [← b130, ← hc]; simp [val]
        have e : iv (dgs (val S) 13 ++ S.drop 13) ++ [Value.int .i64 ((c : Int) % 1024), .int .i64 ((c : Int) / 1024 % 1024), .int .i64 ((c : Int) / 1048576)] = iv (turned (val S)) := by
          rw [List.drop_of_length_le (by omega), List.append_nil, turned, iv_append, ← ec]; rfl
        refine s_eq e ?_
        (repeat (first | refine g ?_ | refine s_flat 9 [(.pure, [0, 1, 2, 3, 4, 6, 7, 8]), (.mem true, [5, 9]), (.pure, [10, 11]), (.mem false, [12])] ?_ | refine s_flat 10 [(.pure, [0, 1, 2, 3, 4, 5, 6, 7, 8, 10, 11, 12]), (.mem true, [9, 13]), (.pure, [14, 15, 16]), (.mem false, [17])] ?_ | refine s_flat 28 [(.pure, [0, 1, 2, 4, 5, 6, 9]), (.mem true, [3, 7]), (.pure, [8, 10, 11])] ?_))
        refine run_stop_loop (k + 1, (b2, 16, c2), turned (val S)) ?_ fct shut
        have hlt : val S < B130 * 1099511627776 := by rw [vS, hs]; exact Nat.lt_of_le_of_lt (folds_le _ _) hV
        refine ⟨⟨by dsimp only; omega, turned_length _, by dsimp only; omega, by dsimp only; omega, hcap, turned_le _ hlt, ?_, fun _ => ?_⟩, by dsimp only; omega⟩
        · dsimp only; rw [spread_turned, vS, hs]; rfl
        · dsimp only; rw [vS, hs]; rfl
  · intro h
    obtain rfl : k = 8 := by omega
    rw [htt (by decide)] at tn ⊢
    rw [turned_length] at tn
    subst tn
    have hW := folds_small (spread l) (Nat.lt_of_lt_of_le hV (Nat.mul_le_mul_left _ (by decide)))
    have hWm : folds 7 (spread l) % P130 = val l % P130 := by rw [folds_mod, spread_mod l (by omega)]
    clear htt hs ht
    dsimp only [Nat.sub_self, Nat.reduceSub] at *
    generalize folds 7 (spread l) = W at *
    (repeat (first | refine g ?_ | refine s_flat 9 [(.pure, [0, 1, 2, 3, 4, 6, 7, 8]), (.mem true, [5, 9]), (.pure, [10, 11]), (.mem false, [12])] ?_ | refine s_flat 10 [(.pure, [0, 1, 2, 3, 4, 5, 6, 7, 8, 10, 11, 12]), (.mem true, [9, 13]), (.pure, [14, 15, 16]), (.mem false, [17])] ?_ | refine s_flat 28 [(.pure, [0, 1, 2, 4, 5, 6, 9]), (.mem true, [3, 7]), (.pure, [8, 10, 11])] ?_))
    refine s_callx (prime_spec q) fun r => ?_
    obtain ⟨pp, cp⟩ := r
    dsimp only
    refine s_ptr pp fun bp ebp _ hcp => ?_
    subst ebp
    (repeat (first | refine g ?_ | refine s_flat 9 [(.pure, [0, 1, 2, 3, 4, 6, 7, 8]), (.mem true, [5, 9]), (.pure, [10, 11]), (.mem false, [12])] ?_ | refine s_flat 10 [(.pure, [0, 1, 2, 3, 4, 5, 6, 7, 8, 10, 11, 12]), (.mem true, [9, 13]), (.pure, [14, 15, 16]), (.mem false, [17])] ?_ | refine s_flat 28 [(.pure, [0, 1, 2, 4, 5, 6, 9]), (.mem true, [3, 7]), (.pure, [8, 10, 11])] ?_))
    apply run_pull (X := sl (some ⟨b, 0, none⟩) 16 cap 3 1 (iv (turned W)))
    · exact Pull.tail Pull.head
    refine run_sl_cut (m := 13) (by decide) ?_
    have e : (iv (turned W)).take (13 * 1) = iv (dgs W 13) := by
      rw [Nat.mul_one, iv_take, turned, List.take_left' (dgs_length _ _)]
    refine s_eq e ?_
    refine s_call (less_spec q _ _ _ _ 13 (dgs W 13) (dgs P130 13) (by decide) (dgs_length _ _) (dgs_length _ _) (dgs_lt _ _) (dgs_lt _ _)) ?_
    have vW : val (dgs W 13) = W := by rw [val_dgs, b130, Nat.mod_eq_of_lt hW]
    have vP : val (dgs P130 13) = P130 := by rw [val_dgs]; decide
    rw [vW, vP]
    (repeat (first | refine g ?_ | refine s_flat 9 [(.pure, [0, 1, 2, 3, 4, 6, 7, 8]), (.mem true, [5, 9]), (.pure, [10, 11]), (.mem false, [12])] ?_ | refine s_flat 10 [(.pure, [0, 1, 2, 3, 4, 5, 6, 7, 8, 10, 11, 12]), (.mem true, [9, 13]), (.pure, [14, 15, 16]), (.mem false, [17])] ?_ | refine s_flat 28 [(.pure, [0, 1, 2, 4, 5, 6, 9]), (.mem true, [3, 7]), (.pure, [8, 10, 11])] ?_))
    refine run_cond_dec rfl ?_ ?_
    · intro h2
      (repeat (first | refine g ?_ | refine s_flat 9 [(.pure, [0, 1, 2, 3, 4, 6, 7, 8]), (.mem true, [5, 9]), (.pure, [10, 11]), (.mem false, [12])] ?_ | refine s_flat 10 [(.pure, [0, 1, 2, 3, 4, 5, 6, 7, 8, 10, 11, 12]), (.mem true, [9, 13]), (.pure, [14, 15, 16]), (.mem false, [17])] ?_ | refine s_flat 28 [(.pure, [0, 1, 2, 4, 5, 6, 9]), (.mem true, [3, 7]), (.pure, [8, 10, 11])] ?_))
      refine run_ret rfl (imp_RX (b, cap) rfl ?_)
      rw [← hWm, Nat.mod_eq_of_lt h2]
      exact shut
    · intro h2
      (repeat (first | refine g ?_ | refine s_flat 9 [(.pure, [0, 1, 2, 3, 4, 6, 7, 8]), (.mem true, [5, 9]), (.pure, [10, 11]), (.mem false, [12])] ?_ | refine s_flat 10 [(.pure, [0, 1, 2, 3, 4, 5, 6, 7, 8, 10, 11, 12]), (.mem true, [9, 13]), (.pure, [14, 15, 16]), (.mem false, [17])] ?_ | refine s_flat 28 [(.pure, [0, 1, 2, 4, 5, 6, 9]), (.mem true, [3, 7]), (.pure, [8, 10, 11])] ?_))
      refine run_loopI (X := Nat × Int) (fun x => x.1 ≤ 13 ∧ x.2 = -(if W % 1024 ^ x.1 < P130 % 1024 ^ x.1 then 1 else 0)) (fun x => [(0, .slice (some ⟨b, 0, none⟩) 13 cap), (8, .slice (some ⟨bp, 0, none⟩) 13 cp), (9, .int .i64 x.2), (10, .int .i64 (x.1 : Int))])
        (fun x => [sl (some ⟨b, 0, none⟩) 13 cap 3 1 (iv (dgs (W - P130) x.1 ++ (dgs W 13).drop x.1)), sl (some ⟨bp, 0, none⟩) 13 cp 3 1 (iv (dgs P130 13))]) (fun x => 13 - x.1) (0, 0) ⟨by decide, by rw [Nat.pow_zero, Nat.mod_one, Nat.mod_one]; rfl⟩ fct shut ?_
      intro ⟨i, c⟩ ⟨hi, hc⟩
      dsimp only at *
      (repeat (first | refine g ?_ | refine s_flat 9 [(.pure, [0, 1, 2, 3, 4, 6, 7, 8]), (.mem true, [5, 9]), (.pure, [10, 11]), (.mem false, [12])] ?_ | refine s_flat 10 [(.pure, [0, 1, 2, 3, 4, 5, 6, 7, 8, 10, 11, 12]), (.mem true, [9, 13]), (.pure, [14, 15, 16]), (.mem false, [17])] ?_ | refine s_flat 28 [(.pure, [0, 1, 2, 4, 5, 6, 9]), (.mem true, [3, 7]), (.pure, [8, 10, 11])] ?_))
      refine run_cond_dec rfl ?_ ?_
      · intro h3
        obtain ⟨s1, s2⟩ := sub_step W P130 (1024 ^ i) (Nat.pow_pos (by decide)) (by omega) (-c) (by rw [hc]; simp)
        rw [← Nat.pow_succ] at s1
        have hlen : (dgs (W - P130) i ++ (dgs W 13).drop i).length = 13 := by rw [List.length_append, dgs_length, List.length_drop, dgs_length]; omega
        have hw : (dgs (W - P130) i ++ (dgs W 13).drop i)[i]? = some (W / 1024 ^ i % 1024) := by
          rw [List.getElem?_append_right (by rw [dgs_length]; exact Nat.le_refl _), dgs_length, Nat.sub_self, List.getElem?_drop, Nat.add_zero, dgs_getD W 13 i (by omega)]
        have hp := dgs_getD P130 13 i (by omega)
        have lw : W / 1024 ^ i % 1024 < 1024 := Nat.mod_lt _ (by decide)
        have lp : P130 / 1024 ^ i % 1024 < 1024 := Nat.mod_lt _ (by decide)
        have cb : c = 0 ∨ c = -1 := by rw [hc]; split <;> simp
        generalize hwd : W / 1024 ^ i % 1024 = w at *
        generalize hpd : P130 / 1024 ^ i % 1024 = p at *
        generalize hdd : (W - P130) / 1024 ^ i % 1024 = dd at *
        have eset : (iv (dgs (W - P130) i ++ (dgs W 13).drop i)).set i (Value.int .i64 (dd : Int)) = iv (dgs (W - P130) (i + 1) ++ (dgs W 13).drop (i + 1)) := by
          rw [iv_set, set_mid _ _ i _ (dgs_length _ _) (by rw [hlen]; omega), dgs_snoc (W - P130) i, List.drop_drop, hdd]
        (repeat (first | refine g ?_ | refine s_flat 9 [(.pure, [0, 1, 2, 3, 4, 6, 7, 8]), (.mem true, [5, 9]), (.pure, [10, 11]), (.mem false, [12])] ?_ | refine s_flat 10 [(.pure, [0, 1, 2, 3, 4, 5, 6, 7, 8, 10, 11, 12]), (.mem true, [9, 13]), (.pure, [14, 15, 16]), (.mem false, [17])] ?_ | refine s_flat 28 [(.pure, [0, 1, 2, 4, 5, 6, 9]), (.mem true, [3, 7]), (.pure, [8, 10, 11])] ?_ | refine s_loadsl (iv_at _ i _ hw) ?_ | refine s_loadsl (iv_at _ i _ hp) ?_))
        refine run_cond_dec rfl ?_ ?_
        · intro h4
          have h4' : (w : Int) - p - -c < 0 := by omega
          rw [if_pos h4'] at s2
          (repeat (first | refine g ?_ | refine s_flat 9 [(.pure, [0, 1, 2, 3, 4, 6, 7, 8]), (.mem true, [5, 9]), (.pure, [10, 11]), (.mem false, [12])] ?_ | refine s_flat 10 [(.pure, [0, 1, 2, 3, 4, 5, 6, 7, 8, 10, 11, 12]), (.mem true, [9, 13]), (.pure, [14, 15, 16]), (.mem false, [17])] ?_ | refine s_flat 28 [(.pure, [0, 1, 2, 4, 5, 6, 9]), (.mem true, [3, 7]), (.pure, [8, 10, 11])] ?_ | refine s_storesl ?_ (hi := by rw [iv_length, hlen]; omega)))
          have e2 : (w : Int) - (p : Int) + c + 1024 = (dd : Int) := by omega
          rw [← e2] at eset
          refine s_eq eset ?_
          refine run_stop_loop (i + 1, -1) ?_ fct shut
          refine ⟨⟨by dsimp only; omega, ?_⟩, by dsimp only; omega⟩
          dsimp only
          rw [if_pos (s1.1 h4')]
        · intro h4
          have h4' : ¬ (w : Int) - p - -c < 0 := by omega
          rw [if_neg h4'] at s2
          (repeat (first | refine g ?_ | refine s_flat 9 [(.pure, [0, 1, 2, 3, 4, 6, 7, 8]), (.mem true, [5, 9]), (.pure, [10, 11]), (.mem false, [12])] ?_ | refine s_flat 10 [(.pure, [0, 1, 2, 3, 4, 5, 6, 7, 8, 10, 11, 12]), (.mem true, [9, 13]), (.pure, [14, 15, 16]), (.mem false, [17])] ?_ | refine s_flat 28 [(.pure, [0, 1, 2, 4, 5, 6, 9]), (.mem true, [3, 7]), (.pure, [8, 10, 11])] ?_ | refine s_storesl ?_ (hi := by rw [iv_length, hlen]; omega)))
          have e2 : (w : Int) - (p : Int) + c = (dd : Int) := by omega
          rw [← e2] at eset
          refine s_eq eset ?_
          refine run_stop_loop (i + 1, 0) ?_ fct shut
          refine ⟨⟨by dsimp only; omega, ?_⟩, by dsimp only; omega⟩
          dsimp only
          rw [if_neg (fun h => h4' (s1.2 h))]; rfl
      · intro h3
        obtain rfl : i = 13 := by omega
        (repeat (first | refine g ?_ | refine s_flat 9 [(.pure, [0, 1, 2, 3, 4, 6, 7, 8]), (.mem true, [5, 9]), (.pure, [10, 11]), (.mem false, [12])] ?_ | refine s_flat 10 [(.pure, [0, 1, 2, 3, 4, 5, 6, 7, 8, 10, 11, 12]), (.mem true, [9, 13]), (.pure, [14, 15, 16]), (.mem false, [17])] ?_ | refine s_flat 28 [(.pure, [0, 1, 2, 4, 5, 6, 9]), (.mem true, [3, 7]), (.pure, [8, 10, 11])] ?_))
        refine run_ret rfl (imp_RX (b, cap) rfl ?_)
        have : W - P130 = val l % P130 := by
          rw [← hWm, Nat.mod_eq_sub_mod (by omega), Nat.mod_eq_of_lt (by unfold B130 P130 at *; omega)]
        rw [this, List.drop_of_length_le (by rw [dgs_length]; exact Nat.le_refl _), List.append_nil]
        exact shut
end Go.Proofs.Ytajndpddlpnbkaa.V
namespace Go.Proofs.Ytajndpddlpnbkaa.V
open Go.Proofs.Ytajndpddlpnbkaa.VL Go.Proofs.Ytajndpddlpnbkaa.VL.RD
attribute [local irreducible] Run
theorem times_spec (q : View) (ba ca bb cb : Nat) (a b : List Nat) (la : a.length = 13) (lb : b.length = 13) (ha : ∀ x ∈ a, x < 1024) (hb : ∀ x ∈ b, x < 1024) :
    FnX Try.prog q 104 [.slice (some ⟨ba, 0, none⟩) 13 ca, .slice (some ⟨bb, 0, none⟩) 13 cb] [sl (some ⟨ba, 0, none⟩) 13 ca 3 1 (iv a), sl (some ⟨bb, 0, none⟩) 13 cb 3 1 (iv b)] (fun r : Nat × Nat => .slice (some ⟨r.1, 0, none⟩) 13 r.2)
      fun r => [sl (some ⟨r.1, 0, none⟩) 13 r.2 3 1 (iv (dgs (val a * val b % P130) 13)), sl (some ⟨bb, 0, none⟩) 13 cb 3 1 (iv b)] := by
  (first | refine FnD.go Try.call104 Try.func104 rfl rfl rfl ?_ | refine FnX.go Try.call104 Try.func104 rfl rfl rfl ?_)
  (repeat (first | refine g ?_ | refine s_flat 8 [(.pure, [0, 1, 2, 3, 4, 5, 6, 7, 8, 10, 11, 12, 14, 15, 16]), (.mem true, [9, 13, 17]), (.pure, [18, 19, 20]), (.mem false, [21])] ?_))
  refine s_made 8 26 26 fun ro => ?_
  (repeat (first | refine g ?_ | refine s_flat 8 [(.pure, [0, 1, 2, 3, 4, 5, 6, 7, 8, 10, 11, 12, 14, 15, 16]), (.mem true, [9, 13, 17]), (.pure, [18, 19, 20]), (.mem false, [21])] ?_))
  rw [zero_iv]
  refine run_to_sl (n := 26) (kk := 1) rfl ?_
  refine run_loopI (X := Nat × List Nat) (fun x => x.1 ≤ 13 ∧ x.2.length = 26 ∧ val x.2 = val (a.take x.1) * val b ∧ ∀ d ∈ x.2, d ≤ x.1 * 13631488) (fun x => [(0, .slice (some ⟨ba, 0, none⟩) 13 ca), (1, .slice (some ⟨bb, 0, none⟩) 13 cb), (5, .slice (some ⟨ro, 0, none⟩) 26 26), (6, .int .i64 (x.1 : Int))])
    (fun x => [sl (some ⟨ro, 0, none⟩) 26 26 3 1 (iv x.2), sl (some ⟨ba, 0, none⟩) 13 ca 3 1 (iv a), sl (some ⟨bb, 0, none⟩) 13 cb 3 1 (iv b)]) (fun x => 13 - x.1) (0, List.replicate 26 0) ⟨Nat.zero_le _, rfl, by simp [val], by decide⟩ fct shut ?_
  intro ⟨i, S⟩ ⟨hi, lS, vS, bS⟩
  dsimp only at *
  (repeat (first | refine g ?_ | refine s_flat 8 [(.pure, [0, 1, 2, 3, 4, 5, 6, 7, 8, 10, 11, 12, 14, 15, 16]), (.mem true, [9, 13, 17]), (.pure, [18, 19, 20]), (.mem false, [21])] ?_))
  refine run_cond_dec rfl ?_ ?_
  · intro h
    obtain ⟨x, hx⟩ : ∃ x, a[i]? = some x := ⟨_, List.getElem?_eq_getElem (by omega)⟩
    have hxM := ha x (List.mem_of_getElem? hx)
    (repeat (first | refine g ?_ | refine s_flat 8 [(.pure, [0, 1, 2, 3, 4, 5, 6, 7, 8, 10, 11, 12, 14, 15, 16]), (.mem true, [9, 13, 17]), (.pure, [18, 19, 20]), (.mem false, [21])] ?_))
    refine run_loopI (X := Nat × List Nat) (fun y => y.1 ≤ 13 ∧ y.2.length = 26 ∧ val y.2 = val S + 1024 ^ i * (x * val (b.take y.1)) ∧ ∀ d ∈ y.2, d ≤ i * 13631488 + y.1 * 1048576) (fun y => [(0, .slice (some ⟨ba, 0, none⟩) 13 ca), (1, .slice (some ⟨bb, 0, none⟩) 13 cb), (5, .slice (some ⟨ro, 0, none⟩) 26 26), (6, .int .i64 (i : Int)), (7, .int .i64 (y.1 : Int))])
      (fun y => [sl (some ⟨ro, 0, none⟩) 26 26 3 1 (iv y.2), sl (some ⟨ba, 0, none⟩) 13 ca 3 1 (iv a), sl (some ⟨bb, 0, none⟩) 13 cb 3 1 (iv b)]) (fun y => 13 - y.1) (0, S) ⟨Nat.zero_le _, lS, by simp [val], by simpa using bS⟩ fct shut ?_
    intro ⟨j, U⟩ ⟨hj, lU, vU, bU⟩
    dsimp only at *
    (repeat (first | refine g ?_ | refine s_flat 8 [(.pure, [0, 1, 2, 3, 4, 5, 6, 7, 8, 10, 11, 12, 14, 15, 16]), (.mem true, [9, 13, 17]), (.pure, [18, 19, 20]), (.mem false, [21])] ?_))
    refine run_cond_dec rfl ?_ ?_
    · intro h2
      obtain ⟨y, hy⟩ : ∃ y, b[j]? = some y := ⟨_, List.getElem?_eq_getElem (by omega)⟩
      obtain ⟨z, hz⟩ : ∃ z, U[i + j]? = some z := ⟨_, List.getElem?_eq_getElem (by omega)⟩
      have hyM := hb y (List.mem_of_getElem? hy)
      have hzM := bU z (List.mem_of_getElem? hz)
      have hxy : x * y ≤ 1048576 := Nat.le_trans (Nat.mul_le_mul (show x ≤ 1024 by omega) (show y ≤ 1024 by omega)) (by decide)
      have hxyI : (x : Int) * (y : Int) = ((x * y : Nat) : Int) := by push_cast; rfl
      have hxy0 : 0 ≤ (x : Int) * (y : Int) := by omega
      have ei : ((i : Int) + (j : Int)).toNat = i + j := by omega
      have hz' : U[((i : Int) + (j : Int)).toNat]? = some z := by rw [ei]; exact hz
      (repeat (first | refine g ?_ | refine s_flat 8 [(.pure, [0, 1, 2, 3, 4, 5, 6, 7, 8, 10, 11, 12, 14, 15, 16]), (.mem true, [9, 13, 17]), (.pure, [18, 19, 20]), (.mem false, [21])] ?_ | refine s_loadsl (iv_at a i x hx) ?_ | refine s_loadsl (iv_at b j y hy) ?_ | refine s_loadsl (iv_at U _ z hz') ?_ | refine s_storesl ?_))
      have e : (iv U).set ((i : Int) + (j : Int)).toNat (Value.int .i64 ((z : Int) + (x : Int) * (y : Int))) = iv (U.set (i + j) (z + x * y)) := by
        rw [ei, hxyI]; exact iv_set U (i + j) (z + x * y)
      refine s_eq e ?_
      refine run_stop_loop (j + 1, U.set (i + j) (z + x * y)) ?_ fct shut
      refine ⟨⟨by dsimp only; omega, by simpa using lU, ?_, ?_⟩, by dsimp only; omega⟩
      · dsimp only
        rw [val_set U (i + j) z (x * y) hz, vU, val_take_succ b j y hy, Nat.mul_add, Nat.mul_add, Nat.pow_add]
        rw [show 1024 ^ i * (x * (y * 1024 ^ j)) = x * y * (1024 ^ i * 1024 ^ j) by
          rw [← Nat.mul_assoc x y, Nat.mul_comm (x * y), ← Nat.mul_assoc, Nat.mul_comm (1024 ^ i * 1024 ^ j)]]
        omega
      · intro d hd
        dsimp only
        rcases List.mem_or_eq_of_mem_set hd with h | h
        · exact Nat.le_trans (bU d h) (Nat.add_le_add_left (Nat.mul_le_mul_right _ (Nat.le_succ j)) _)
        · omega
    · intro h2
      obtain rfl : j = 13 := by omega
      (repeat (first | refine g ?_ | refine s_flat 8 [(.pure, [0, 1, 2, 3, 4, 5, 6, 7, 8, 10, 11, 12, 14, 15, 16]), (.mem true, [9, 13, 17]), (.pure, [18, 19, 20]), (.mem false, [21])] ?_))
      refine run_stop_loop (i + 1, U) ?_ fct shut
      refine ⟨⟨by dsimp only; omega, lU, ?_, ?_⟩, by dsimp only; omega⟩
      · dsimp only
        rw [vU, List.take_of_length_le (by omega), val_take_succ a i x hx, Nat.add_mul, vS, ← Nat.mul_assoc, Nat.mul_comm (1024 ^ i)]
      · intro d hd
        have := bU d hd
        dsimp only; omega
  · intro h
    obtain rfl : i = 13 := by omega
    rw [List.take_of_length_le (by omega)] at vS
    (repeat (first | refine g ?_ | refine s_flat 8 [(.pure, [0, 1, 2, 3, 4, 5, 6, 7, 8, 10, 11, 12, 14, 15, 16]), (.mem true, [9, 13, 17]), (.pure, [18, 19, 20]), (.mem false, [21])] ?_))
    refine s_callx (reduced_spec q ro 26 26 S lS (by decide) (by decide) (by decide) fun d hd => by have := bS d hd; unfold M36; omega) fun r => ?_
    rw [vS]
    (repeat (first | refine g ?_ | refine s_flat 8 [(.pure, [0, 1, 2, 3, 4, 5, 6, 7, 8, 10, 11, 12, 14, 15, 16]), (.mem true, [9, 13, 17]), (.pure, [18, 19, 20]), (.mem false, [21])] ?_))
    exact run_ret rfl (imp_RX r rfl shut)
end Go.Proofs.Ytajndpddlpnbkaa.V
namespace Go.Proofs.Ytajndpddlpnbkaa.V
open Go.Proofs.Ytajndpddlpnbkaa.VL Go.Proofs.Ytajndpddlpnbkaa.VL.RD
attribute [local irreducible] Run
theorem leU_le (l : List UInt8) : leU l = Spec.le (l.map UInt8.toNat) := by
  induction l with
  | nil => rfl
  | cons b l ih => simp [leU, Spec.le, ih]
theorem leU_lt (l : List UInt8) : leU l < 256 ^ l.length := by
  induction l with
  | nil => simp [leU]
  | cons b l ih =>
    have := b.toNat_lt
    simp only [leU, List.length_cons, Nat.pow_succ]
    omega
theorem p130_eq : Spec.P130 = RD.P130 := rfl
theorem clamps_lt : ∀ (l : List Nat) (i : Nat), (∀ b ∈ l, b < 256) → ∀ b ∈ Spec.clamps i l, b < 256 := by
  intro l
  induction l with
  | nil => intro i _ b h; cases h
  | cons x l ih =>
    intro i h b hb
    simp only [Spec.clamps, List.mem_cons] at hb
    rcases hb with rfl | hb
    · have := h x (by simp)
      unfold Spec.clampAt; split
      · omega
      · split <;> omega
    · exact ih _ (fun z hz => h z (by simp [hz])) b hb
theorem leU_clamped (key : ByteArray) : leU (Spec.clampedF key).data.toList = Spec.polyR key := by
  rw [leU_le]
  unfold Spec.clampedF Spec.polyR
  have : ∀ l : List Nat, (∀ b ∈ l, b < 256) → (l.map UInt8.ofNat).map UInt8.toNat = l := by
    intro l hl
    rw [List.map_map]
    conv => rhs; rw [← List.map_id l]
    apply List.map_congr_left
    intro b hb
    simp only [Function.comp, id]
    rw [UInt8.toNat_ofNat']; exact Nat.mod_eq_of_lt (hl b hb)
  dsimp only
  rw [this]
  exact clamps_lt _ _ fun b hb => by
    have := List.mem_of_mem_take hb
    unfold Spec.nats at this
    obtain ⟨u, _, rfl⟩ := List.mem_map.1 this
    exact u.toNat_lt
theorem clamped_size (key : ByteArray) (h : key.size = 32) : (Spec.clampedF key).size = 16 := by
  have : ∀ (l : List Nat) i, (Spec.clamps i l).length = l.length := by
    intro l; induction l with
    | nil => intro i; rfl
    | cons x l ih => intro i; simp [Spec.clamps, ih]
  show ((Spec.clamps 0 ((Spec.nats key).take 16)).map UInt8.ofNat).toArray.size = 16
  simp only [List.size_toArray, List.length_map, this, List.length_take]
  unfold Spec.nats
  rw [List.length_map]
  have : key.data.toList.length = 32 := by rw [Array.length_toList]; exact h
  omega
theorem clamped_spec (q : View) (key : ByteArray) (hk : key.size = 32) : FnD Try.prog q 103 [.string key] [] (.string (Spec.clampedF key)) [] :=
  FnD.of_below Try.call103 fun w => B.clamped_walk key w hk
/-- The first bits of a number. -/
def bitsOf (N n : Nat) : List Nat := (List.range n).map fun k => N / 2 ^ k % 2
theorem bitsOf_length (N n : Nat) : (bitsOf N n).length = n := by simp [bitsOf]
theorem bitsOf_snoc (N n : Nat) : bitsOf N (n + 1) = bitsOf N n ++ [N / 2 ^ n % 2] := by simp [bitsOf, List.range_succ]
theorem bitsOf_at (N n k : Nat) (h : k < n) : (bitsOf N n)[k]? = some (N / 2 ^ k % 2) := by simp [bitsOf, List.getElem?_range h]
def bytesOf (N n : Nat) : List UInt8 := (List.range n).map fun k => UInt8.ofNat (N / 256 ^ k % 256)
theorem bytesOf_length (N n : Nat) : (bytesOf N n).length = n := by simp [bytesOf]
theorem bytesOf_snoc (N n : Nat) : bytesOf N (n + 1) = bytesOf N n ++ [UInt8.ofNat (N / 256 ^ n % 256)] := by simp [bytesOf, List.range_succ]
theorem leB_at (n k : Nat) : ∀ i, i < k → (Spec.leB n k)[i]? = some (UInt8.ofNat (n / 256 ^ i % 256)) := by
  induction k generalizing n with
  | zero => intro i h; omega
  | succ k ih =>
    intro i h
    unfold Spec.leB
    cases i with
    | zero => simp
    | succ i => rw [List.getElem?_cons_succ, ih _ i (by omega), Nat.div_div_eq_div_mul, Nat.pow_succ, Nat.mul_comm (256 ^ i)]
theorem leB_length (n k : Nat) : (Spec.leB n k).length = k := by
  induction k generalizing n with
  | zero => rfl
  | succ k ih => simp [Spec.leB, ih]
theorem bytesOf_leB (N n m : Nat) (hm : m = 256 ^ n) : bytesOf N n = Spec.leB (N % m) n := by
  subst hm
  apply List.ext_getElem?
  intro i
  rcases Nat.lt_or_ge i n with h | h
  · rw [leB_at _ _ i h]
    simp only [bytesOf, List.getElem?_map, List.getElem?_range h, Option.map_some]
    congr 2
    obtain ⟨d, rfl⟩ : ∃ d, n = i + (d + 1) := ⟨n - i - 1, by omega⟩
    rw [Nat.pow_add, Nat.mod_mul_right_div_self, Nat.pow_succ, Nat.mul_comm (256 ^ d), Nat.mod_mul_right_mod]
  · rw [List.getElem?_eq_none (by rw [bytesOf_length]; exact h), List.getElem?_eq_none (by rw [leB_length]; exact h)]
end Go.Proofs.Ytajndpddlpnbkaa.V
namespace Go.Proofs.Ytajndpddlpnbkaa.V
open Go.Proofs.Ytajndpddlpnbkaa.VL Go.Proofs.Ytajndpddlpnbkaa.VL.RD
attribute [local irreducible] Run
theorem polyH_step (r h : Nat) (l : List Nat) (hl : l ≠ []) : Spec.polyH r h l = Spec.polyH r (((h + Spec.le (l.take 16 ++ [1])) * r) % Spec.P130) (l.drop 16) := by
  rw [Spec.polyH, if_neg hl]
theorem polyH_nil (r h : Nat) : Spec.polyH r h [] = h := by rw [Spec.polyH, if_pos rfl]
theorem str_extract (s : ByteArray) (a b : Nat) (h : b ≤ s.size) : (s.extract a b).data.toList = (s.data.toList.drop a).take (b - a) := by
  rw [ByteArray.data_extract, Array.toList_extract, List.extract_eq_take_drop]
theorem leU_nats (s : ByteArray) (a : Nat) : leU ((s.data.toList.drop a).take 16 ++ [1]) = Spec.le (((Spec.nats s).drop a).take 16 ++ [1]) := by
  unfold Spec.nats; rw [leU_le, List.map_append, List.map_take, List.map_drop]; rfl
theorem bit_in (N i j : Nat) (hj : j < 10) : N / 2 ^ (10 * i + j) % 2 = N / 1024 ^ i % 1024 / 2 ^ j % 2 := by
  rw [Nat.pow_add, ← Nat.div_div_eq_div_mul, show (2 : Nat) ^ (10 * i) = 1024 ^ i by rw [Nat.pow_mul]]
  generalize N / 1024 ^ i = M
  obtain ⟨d, hd⟩ : ∃ d, 10 = j + (d + 1) := ⟨9 - j, by omega⟩
  have e : (1024 : Nat) = 2 ^ (j + (d + 1)) := by rw [← hd]
  rw [e, Nat.pow_add 2 j, Nat.mod_mul_right_div_self, Nat.pow_succ 2 d, Nat.mul_comm (2 ^ d), Nat.mod_mul_right_mod]
set_option maxHeartbeats 2000000 in
theorem refTag_spec (q : View) (key s : ByteArray) (hk : key.size = 32) (hs : s.size ≤ 140737488351232) : FnD Try.prog q 79 [.string key, .string s] [] (.tuple #[.string (Spec.polyTag key s), .int .i64 0]) [] := by
  (first | refine FnD.go Try.call79 Try.func79 rfl rfl rfl ?_ | refine FnX.go Try.call79 Try.func79 rfl rfl rfl ?_)
  (repeat (first | refine g ?_ | refine s_flat 18 [(.pure, [0, 1, 2, 3, 4, 6, 7, 8]), (.mem true, [5, 9]), (.pure, [10, 11]), (.mem false, [12])] ?_ | refine s_flat 26 [(.pure, [0, 1, 2, 3, 6, 7, 8]), (.mem true, [4]), (.pure, [5]), (.mem true, [9]), (.pure, [10, 11])] ?_))
  refine s_call (clamped_spec q key hk) ?_
  refine s_callx (digits_spec q (Spec.clampedF key) 13 (by decide) (by rw [clamped_size key hk]; decide)) fun rr => ?_
  obtain ⟨pr, cr⟩ := rr
  dsimp only
  refine s_ptr pr fun br ebr _ hcr => ?_
  subst ebr
  rw [leU_clamped]
  (repeat (first | refine g ?_ | refine s_flat 18 [(.pure, [0, 1, 2, 3, 4, 6, 7, 8]), (.mem true, [5, 9]), (.pure, [10, 11]), (.mem false, [12])] ?_ | refine s_flat 26 [(.pure, [0, 1, 2, 3, 6, 7, 8]), (.mem true, [4]), (.pure, [5]), (.mem true, [9]), (.pure, [10, 11])] ?_))
  refine s_made 8 13 13 fun bh => ?_
  rw [zero_iv]
  refine run_to_sl (n := 13) (kk := 1) rfl ?_
  (repeat (first | refine g ?_ | refine s_flat 18 [(.pure, [0, 1, 2, 3, 4, 6, 7, 8]), (.mem true, [5, 9]), (.pure, [10, 11]), (.mem false, [12])] ?_ | refine s_flat 26 [(.pure, [0, 1, 2, 3, 6, 7, 8]), (.mem true, [4]), (.pure, [5]), (.mem true, [9]), (.pure, [10, 11])] ?_))
  have hR : Spec.polyR key < 340282366920938463463374607431768211456 := by
    rw [← leU_clamped]
    have := leU_lt (Spec.clampedF key).data.toList
    rw [show (Spec.clampedF key).data.toList.length = 16 by rw [Array.length_toList]; exact clamped_size key hk] at this
    exact this
  refine run_loopI (X := Nat × (Nat × Nat) × Nat) (fun x => x.1 ≤ 8796093021952 ∧ 16 * x.1 ≤ s.size + 15 ∧ x.2.2 < RD.P130 ∧ Spec.polyH (Spec.polyR key) x.2.2 ((Spec.nats s).drop (16 * x.1)) = Spec.polyH (Spec.polyR key) 0 (Spec.nats s))
    (fun x => [(0, .string key), (1, .string s), (6, .slice (some ⟨br, 0, none⟩) 13 cr), (7, .slice (some ⟨x.2.1.1, 0, none⟩) 13 x.2.1.2), (8, .int .i64 ((16 * x.1 : Nat) : Int))]) (fun x => [sl (some ⟨x.2.1.1, 0, none⟩) 13 x.2.1.2 3 1 (iv (dgs x.2.2 13)), sl (some ⟨br, 0, none⟩) 13 cr 3 1 (iv (dgs (Spec.polyR key) 13))]) (fun x => s.size + 15 - 16 * x.1) (0, (bh, 13), 0) ⟨Nat.zero_le _, Nat.zero_le _, show 0 < RD.P130 by decide, rfl⟩ fct ?_ ?_
  · rw [show List.replicate 13 0 = dgs 0 13 by decide]; exact shut
  intro ⟨k, ⟨b, cb⟩, H⟩ ⟨hk0, hk1, hH, hP⟩
  dsimp only at *
  (repeat (first | refine g ?_ | refine s_flat 18 [(.pure, [0, 1, 2, 3, 4, 6, 7, 8]), (.mem true, [5, 9]), (.pure, [10, 11]), (.mem false, [12])] ?_ | refine s_flat 26 [(.pure, [0, 1, 2, 3, 6, 7, 8]), (.mem true, [4]), (.pure, [5]), (.mem true, [9]), (.pure, [10, 11])] ?_))
  refine run_cond_dec rfl ?_ ?_
  · intro h
    (repeat (first | refine g ?_ | refine s_flat 18 [(.pure, [0, 1, 2, 3, 4, 6, 7, 8]), (.mem true, [5, 9]), (.pure, [10, 11]), (.mem false, [12])] ?_ | refine s_flat 26 [(.pure, [0, 1, 2, 3, 6, 7, 8]), (.mem true, [4]), (.pure, [5]), (.mem true, [9]), (.pure, [10, 11])] ?_))
    obtain ⟨e, he⟩ : ∃ e : Nat, e = min (16 * k + 16) s.size := ⟨_, rfl⟩
    refine run_cut (X := Unit) (fun _ => [(0, .string key), (1, .string s), (6, .slice (some ⟨br, 0, none⟩) 13 cr), (7, .slice (some ⟨b, 0, none⟩) 13 cb), (8, .int .i64 ((16 * k : Nat) : Int)), (9, .int .i64 (e : Int))]) (fun _ => [sl (some ⟨b, 0, none⟩) 13 cb 3 1 (iv (dgs H 13)), sl (some ⟨br, 0, none⟩) 13 cr 3 1 (iv (dgs (Spec.polyR key) 13))]) ?_ fun _ => ?_
    · refine run_cond_dec rfl ?_ ?_
      · intro h2
        (repeat (first | refine g ?_ | refine s_flat 18 [(.pure, [0, 1, 2, 3, 4, 6, 7, 8]), (.mem true, [5, 9]), (.pure, [10, 11]), (.mem false, [12])] ?_ | refine s_flat 26 [(.pure, [0, 1, 2, 3, 6, 7, 8]), (.mem true, [4]), (.pure, [5]), (.mem true, [9]), (.pure, [10, 11])] ?_))
        exact run_stop_loop () trivial fct shut
      · intro h2
        (repeat (first | refine g ?_ | refine s_flat 18 [(.pure, [0, 1, 2, 3, 4, 6, 7, 8]), (.mem true, [5, 9]), (.pure, [10, 11]), (.mem false, [12])] ?_ | refine s_flat 26 [(.pure, [0, 1, 2, 3, 6, 7, 8]), (.mem true, [4]), (.pure, [5]), (.mem true, [9]), (.pure, [10, 11])] ?_))
        exact run_stop_loop () trivial fct shut
    have hx : (s.extract ((16 * k : Nat) : Int).toNat (e : Int).toNat).size = e - 16 * k := by
      rw [Int.toNat_natCast, Int.toNat_natCast, ByteArray.size_extract]; omega
    have hx2 : (s.extract ((16 * k : Nat) : Int).toNat (e : Int).toNat ++ (⟨#[1]⟩ : ByteArray)).size = e - 16 * k + 1 := by rw [ByteArray.size_append, hx]; rfl
    have o1 : (⟨#[1]⟩ : ByteArray).size = 1 := rfl
    (repeat (first | refine g ?_ | refine s_flat 18 [(.pure, [0, 1, 2, 3, 4, 6, 7, 8]), (.mem true, [5, 9]), (.pure, [10, 11]), (.mem false, [12])] ?_ | refine s_flat 26 [(.pure, [0, 1, 2, 3, 6, 7, 8]), (.mem true, [4]), (.pure, [5]), (.mem true, [9]), (.pure, [10, 11])] ?_))
    refine s_callx (digits_spec q _ 14 (by decide) (by rw [hx2]; omega)) fun rw_ => ?_
    obtain ⟨pw, cw⟩ := rw_
    dsimp only
    refine s_ptr pw fun bw ebw _ hcw => ?_
    subst ebw
    obtain ⟨W, hW⟩ : ∃ W, W = Spec.le (((Spec.nats s).drop (16 * k)).take 16 ++ [1]) := ⟨_, rfl⟩
    have hxl : (s.extract ((16 * k : Nat) : Int).toNat (e : Int).toNat ++ (⟨#[1]⟩ : ByteArray)).data.toList = (s.data.toList.drop (16 * k)).take 16 ++ [1] := by
      rw [ByteArray.data_append, Array.toList_append, Int.toNat_natCast, Int.toNat_natCast, str_extract s _ _ (by omega)]
      congr 1
      rcases Nat.le_total (16 * k + 16) s.size with h | h
      · rw [show e - 16 * k = 16 by omega]
      · rw [List.take_of_length_le (by rw [List.length_drop, Array.length_toList]; show s.size - _ ≤ _; omega), List.take_of_length_le (by rw [List.length_drop, Array.length_toList]; show s.size - _ ≤ _; omega)]
    rw [hxl, leU_nats, ← hW]
    have lW : W < 1024 ^ 14 := by
      have := leU_lt ((s.data.toList.drop (16 * k)).take 16 ++ [1])
      rw [leU_nats, ← hW] at this
      refine Nat.lt_of_lt_of_le this (Nat.le_trans (Nat.pow_le_pow_right (by decide) (show _ ≤ 17 by simp; omega)) (by decide))
    (repeat (first | refine g ?_ | refine s_flat 18 [(.pure, [0, 1, 2, 3, 4, 6, 7, 8]), (.mem true, [5, 9]), (.pure, [10, 11]), (.mem false, [12])] ?_ | refine s_flat 26 [(.pure, [0, 1, 2, 3, 6, 7, 8]), (.mem true, [4]), (.pure, [5]), (.mem true, [9]), (.pure, [10, 11])] ?_))
    refine s_made 8 14 14 fun bt => ?_
    rw [zero_iv]
    refine run_to_sl (n := 14) (kk := 1) rfl ?_
    (repeat (first | refine g ?_ | refine s_flat 18 [(.pure, [0, 1, 2, 3, 4, 6, 7, 8]), (.mem true, [5, 9]), (.pure, [10, 11]), (.mem false, [12])] ?_ | refine s_flat 26 [(.pure, [0, 1, 2, 3, 6, 7, 8]), (.mem true, [4]), (.pure, [5]), (.mem true, [9]), (.pure, [10, 11])] ?_))
    refine run_loopI (X := Nat × List Nat) (fun x => x.1 ≤ 14 ∧ x.2.length = 14 ∧ val x.2 = val ((dgs W 14).take x.1) + val ((dgs H 13).take x.1) ∧ (∀ j, x.1 ≤ j → j < 14 → x.2[j]? = some 0) ∧ ∀ d ∈ x.2, d ≤ M36)
      (fun x => [(0, .string key), (1, .string s), (6, .slice (some ⟨br, 0, none⟩) 13 cr), (7, .slice (some ⟨b, 0, none⟩) 13 cb), (8, .int .i64 ((16 * k : Nat) : Int)), (10, .slice (some ⟨bw, 0, none⟩) 14 cw), (11, .slice (some ⟨bt, 0, none⟩) 14 14), (12, .int .i64 (x.1 : Int))])
      (fun x => [sl (some ⟨bt, 0, none⟩) 14 14 3 1 (iv x.2), sl (some ⟨bw, 0, none⟩) 14 cw 3 1 (iv (dgs W 14)), sl (some ⟨b, 0, none⟩) 13 cb 3 1 (iv (dgs H 13)), sl (some ⟨br, 0, none⟩) 13 cr 3 1 (iv (dgs (Spec.polyR key) 13))]) (fun x => 14 - x.1) (0, List.replicate 14 0)
      ⟨Nat.zero_le _, rfl, rfl, fun j _ hj => by rw [List.getElem?_replicate, if_pos hj], by decide⟩ fct shut ?_
    intro ⟨i, T⟩ ⟨hi, lT, vT, zT, bT⟩
    dsimp only at *
    (repeat (first | refine g ?_ | refine s_flat 18 [(.pure, [0, 1, 2, 3, 4, 6, 7, 8]), (.mem true, [5, 9]), (.pure, [10, 11]), (.mem false, [12])] ?_ | refine s_flat 26 [(.pure, [0, 1, 2, 3, 6, 7, 8]), (.mem true, [4]), (.pure, [5]), (.mem true, [9]), (.pure, [10, 11])] ?_))
    refine run_cond_dec rfl ?_ ?_
    · intro h3
      have hwi := dgs_getD W 14 i (by omega)
      have lw : W / 1024 ^ i % 1024 < 1024 := Nat.mod_lt _ (by decide)
      generalize W / 1024 ^ i % 1024 = wi at *
      (repeat (first | refine g ?_ | refine s_flat 18 [(.pure, [0, 1, 2, 3, 4, 6, 7, 8]), (.mem true, [5, 9]), (.pure, [10, 11]), (.mem false, [12])] ?_ | refine s_flat 26 [(.pure, [0, 1, 2, 3, 6, 7, 8]), (.mem true, [4]), (.pure, [5]), (.mem true, [9]), (.pure, [10, 11])] ?_ | refine s_loadsl (iv_at _ i _ hwi) ?_ | refine s_storesl ?_))
      refine s_eq (iv_set T i wi) ?_
      have hTi := zT i (Nat.le_refl _) (by omega)
      have v1 : val (T.set i wi) = val T + wi * 1024 ^ i := by have := val_set T i 0 wi hTi; rwa [Nat.zero_add] at this
      refine run_cond_dec rfl ?_ ?_
      · intro h4
        have hhi := dgs_getD H 13 i (by omega)
        have lh : H / 1024 ^ i % 1024 < 1024 := Nat.mod_lt _ (by decide)
        generalize H / 1024 ^ i % 1024 = hi_ at *
        have hTs : (T.set i wi)[i]? = some wi := by rw [List.getElem?_set_self (by omega)]
        (repeat (first | refine g ?_ | refine s_flat 18 [(.pure, [0, 1, 2, 3, 4, 6, 7, 8]), (.mem true, [5, 9]), (.pure, [10, 11]), (.mem false, [12])] ?_ | refine s_flat 26 [(.pure, [0, 1, 2, 3, 6, 7, 8]), (.mem true, [4]), (.pure, [5]), (.mem true, [9]), (.pure, [10, 11])] ?_ | refine s_loadsl (iv_at _ i _ hTs) ?_ | refine s_loadsl (iv_at _ i _ hhi) ?_ | refine s_storesl ?_))
        have e2 : (iv (T.set i wi)).set i (Value.int .i64 ((wi : Int) + (hi_ : Int))) = iv (T.set i (wi + hi_)) := by
          have := iv_set (T.set i wi) i (wi + hi_)
          rw [List.set_set] at this
          exact this
        refine s_eq e2 ?_
        refine run_stop_loop (i + 1, T.set i (wi + hi_)) ?_ fct shut
        refine ⟨⟨by dsimp only; omega, by simpa using lT, ?_, ?_, ?_⟩, by dsimp only; omega⟩
        · dsimp only
          have := val_set T i 0 (wi + hi_) hTi
          rw [Nat.zero_add] at this
          rw [this, val_take_succ _ i wi hwi, val_take_succ _ i hi_ hhi, vT, Nat.add_mul]; omega
        · intro j h5 h6
          dsimp only at *
          rw [List.getElem?_set_ne (by omega)]; exact zT j (by omega) h6
        · intro d hd
          dsimp only at *
          rcases List.mem_or_eq_of_mem_set hd with h | h
          · exact bT d h
          · unfold M36; omega
      · intro h4
        obtain rfl : i = 13 := by omega
        (repeat (first | refine g ?_ | refine s_flat 18 [(.pure, [0, 1, 2, 3, 4, 6, 7, 8]), (.mem true, [5, 9]), (.pure, [10, 11]), (.mem false, [12])] ?_ | refine s_flat 26 [(.pure, [0, 1, 2, 3, 6, 7, 8]), (.mem true, [4]), (.pure, [5]), (.mem true, [9]), (.pure, [10, 11])] ?_))
        refine run_stop_loop (13 + 1, T.set 13 wi) ?_ fct shut
        refine ⟨⟨Nat.le_refl 14, by simpa using lT, ?_, fun j h5 h6 => by dsimp only at *; omega, ?_⟩, show 0 < 1 by decide⟩
        · dsimp only
          rw [v1, val_take_succ _ 13 wi hwi, vT, List.take_of_length_le (l := dgs H 13) (i := 14) (by rw [dgs_length]; decide), List.take_of_length_le (l := dgs H 13) (i := 13) (by rw [dgs_length]; decide)]; omega
        · intro d hd
          dsimp only at *
          rcases List.mem_or_eq_of_mem_set hd with h | h
          · exact bT d h
          · unfold M36; omega
    · intro h3
      obtain rfl : i = 14 := by omega
      rw [List.take_of_length_le (by rw [dgs_length]; decide), List.take_of_length_le (by rw [dgs_length]; decide), val_dgs, val_dgs, Nat.mod_eq_of_lt lW, b130, Nat.mod_eq_of_lt (show H < B130 by unfold B130 RD.P130 at *; omega)] at vT
      (repeat (first | refine g ?_ | refine s_flat 18 [(.pure, [0, 1, 2, 3, 4, 6, 7, 8]), (.mem true, [5, 9]), (.pure, [10, 11]), (.mem false, [12])] ?_ | refine s_flat 26 [(.pure, [0, 1, 2, 3, 6, 7, 8]), (.mem true, [4]), (.pure, [5]), (.mem true, [9]), (.pure, [10, 11])] ?_))
      refine s_callx (reduced_spec q bt 14 14 T lT (by decide) (by decide) (by decide) bT) fun r3 => ?_
      (repeat (first | refine g ?_ | refine s_flat 18 [(.pure, [0, 1, 2, 3, 4, 6, 7, 8]), (.mem true, [5, 9]), (.pure, [10, 11]), (.mem false, [12])] ?_ | refine s_flat 26 [(.pure, [0, 1, 2, 3, 6, 7, 8]), (.mem true, [4]), (.pure, [5]), (.mem true, [9]), (.pure, [10, 11])] ?_))
      refine s_callx (times_spec q _ _ _ _ (dgs (val T % RD.P130) 13) (dgs (Spec.polyR key) 13) (dgs_length _ _) (dgs_length _ _) (dgs_lt _ _) (dgs_lt _ _)) fun r4 => ?_
      (repeat (first | refine g ?_ | refine s_flat 18 [(.pure, [0, 1, 2, 3, 4, 6, 7, 8]), (.mem true, [5, 9]), (.pure, [10, 11]), (.mem false, [12])] ?_ | refine s_flat 26 [(.pure, [0, 1, 2, 3, 6, 7, 8]), (.mem true, [4]), (.pure, [5]), (.mem true, [9]), (.pure, [10, 11])] ?_))
      have e4 : val (dgs (val T % RD.P130) 13) * val (dgs (Spec.polyR key) 13) % RD.P130 = ((H + W) * Spec.polyR key) % RD.P130 := by
        have hp : val T % RD.P130 < RD.P130 := Nat.mod_lt _ (by decide)
        rw [val_dgs, val_dgs, b130, Nat.mod_eq_of_lt (show val T % RD.P130 < B130 by unfold B130 RD.P130 at *; omega), Nat.mod_eq_of_lt (show Spec.polyR key < B130 by unfold B130; omega), vT, Nat.add_comm W H, Nat.mod_mul_mod]
      rw [e4]
      refine run_stop_loop (k + 1, r4, ((H + W) * Spec.polyR key) % RD.P130) ?_ fct shut
      refine ⟨⟨by dsimp only; omega, by dsimp only; omega, Nat.mod_lt _ (by decide), ?_⟩, by dsimp only; omega⟩
      dsimp only
      rw [← hP, polyH_step _ H _ (by
        intro h0
        have := congrArg List.length h0
        rw [List.length_drop] at this
        unfold Spec.nats at this
        rw [List.length_map, Array.length_toList] at this
        have h9 : s.data.size = s.size := rfl
        rw [h9] at this
        simp at this; omega), List.drop_drop, ← hW, p130_eq, show 16 * (k + 1) = 16 * k + 16 by omega]
  · intro h
    have hnl : (Spec.nats s).length = s.size := by unfold Spec.nats; rw [List.length_map, Array.length_toList]; rfl
    rw [List.drop_of_length_le (by rw [hnl]; omega), polyH_nil] at hP
    have hkx : (key.extract 16 key.size).size = 16 := by rw [ByteArray.size_extract]; omega
    (repeat (first | refine g ?_ | refine s_flat 18 [(.pure, [0, 1, 2, 3, 4, 6, 7, 8]), (.mem true, [5, 9]), (.pure, [10, 11]), (.mem false, [12])] ?_ | refine s_flat 26 [(.pure, [0, 1, 2, 3, 6, 7, 8]), (.mem true, [4]), (.pure, [5]), (.mem true, [9]), (.pure, [10, 11])] ?_))
    refine s_callx (digits_spec q _ 13 (by decide) (by show (key.extract (16 : Int).toNat (key.size : Int).toNat).size ≤ _; rw [Int.toNat_natCast]; exact Nat.le_trans (Nat.le_of_eq hkx) (by decide))) fun rw_ => ?_
    obtain ⟨pw, cw⟩ := rw_
    dsimp only
    refine s_ptr pw fun bw ebw _ hcw => ?_
    subst ebw
    obtain ⟨K, hK⟩ : ∃ K, K = Spec.le ((Spec.nats key).drop 16) := ⟨_, rfl⟩
    have hKl : leU (key.extract (16 : Int).toNat (key.size : Int).toNat).data.toList = K := by
      rw [Int.toNat_natCast, show (16 : Int).toNat = 16 from rfl, str_extract key 16 key.size (Nat.le_refl _), leU_le, hK, List.take_of_length_le (by rw [List.length_drop, Array.length_toList]; exact Nat.le_refl _)]
      unfold Spec.nats; rw [List.map_drop]
    rw [hKl]
    have lK : K < 340282366920938463463374607431768211456 := by
      have := leU_lt (key.extract (16 : Int).toNat (key.size : Int).toNat).data.toList
      rw [hKl, Array.length_toList] at this
      have h9 : (key.extract (16 : Int).toNat (key.size : Int).toNat).data.size = 16 := by rw [Int.toNat_natCast]; exact hkx
      rw [h9] at this; exact this
    (repeat (first | refine g ?_ | refine s_flat 18 [(.pure, [0, 1, 2, 3, 4, 6, 7, 8]), (.mem true, [5, 9]), (.pure, [10, 11]), (.mem false, [12])] ?_ | refine s_flat 26 [(.pure, [0, 1, 2, 3, 6, 7, 8]), (.mem true, [4]), (.pure, [5]), (.mem true, [9]), (.pure, [10, 11])] ?_))
    obtain ⟨N, hN⟩ : ∃ N, N = H + K := ⟨_, rfl⟩
    have vH : val (dgs H 13) = H := by rw [val_dgs, b130, Nat.mod_eq_of_lt]; unfold B130 RD.P130 at *; omega
    have vK : val (dgs K 13) = K := by rw [val_dgs, b130, Nat.mod_eq_of_lt]; unfold B130; omega
    refine run_loopI (X := Nat × Nat × Option Addr × Nat) (fun x => x.1 ≤ 13 ∧ x.2.1 + val ((dgs H 13).drop x.1) + val ((dgs K 13).drop x.1) = N / 1024 ^ x.1 ∧ x.2.1 ≤ 4096)
      (fun x => [(0, .string key), (7, .slice (some ⟨b, 0, none⟩) 13 cb), (13, .slice (some ⟨bw, 0, none⟩) 13 cw), (14, .int .i64 (x.2.1 : Int)), (15, .slice x.2.2.1 (10 * x.1) x.2.2.2), (16, .int .i64 (x.1 : Int))])
      (fun x => [sl x.2.2.1 (10 * x.1) x.2.2.2 3 1 (iv (bitsOf N (10 * x.1))), sl (some ⟨b, 0, none⟩) 13 cb 3 1 (iv (dgs H 13)), sl (some ⟨bw, 0, none⟩) 13 cw 3 1 (iv (dgs K 13))]) (fun x => 13 - x.1) (0, 0, none, 0)
      ⟨Nat.zero_le _, by dsimp only; rw [List.drop_zero, List.drop_zero, vH, vK, hN, Nat.pow_zero, Nat.div_one]; omega, Nat.zero_le _⟩ fct shut ?_
    intro ⟨i, c, pb, cb2⟩ ⟨hi, hc, hcM⟩
    dsimp only at *
    (repeat (first | refine g ?_ | refine s_flat 18 [(.pure, [0, 1, 2, 3, 4, 6, 7, 8]), (.mem true, [5, 9]), (.pure, [10, 11]), (.mem false, [12])] ?_ | refine s_flat 26 [(.pure, [0, 1, 2, 3, 6, 7, 8]), (.mem true, [4]), (.pure, [5]), (.mem true, [9]), (.pure, [10, 11])] ?_))
    refine run_cond_dec rfl ?_ ?_
    · intro h2
      have hh := dgs_getD H 13 i (by omega)
      have hw := dgs_getD K 13 i (by omega)
      have lh : H / 1024 ^ i % 1024 < 1024 := Nat.mod_lt _ (by decide)
      have lw : K / 1024 ^ i % 1024 < 1024 := Nat.mod_lt _ (by decide)
      have dh := val_drop _ i _ hh
      have dw := val_drop _ i _ hw
      generalize H / 1024 ^ i % 1024 = x at *
      generalize K / 1024 ^ i % 1024 = y at *
      obtain ⟨c1, hc1⟩ : ∃ c1, c1 = c + x + y := ⟨_, rfl⟩
      have hc1I : (c : Int) + (x : Int) + (y : Int) = (c1 : Int) := by omega
      have hcN : c1 % 1024 = N / 1024 ^ i % 1024 := by rw [← hc, dh, dw]; omega
      (repeat (first | refine g ?_ | refine s_flat 18 [(.pure, [0, 1, 2, 3, 4, 6, 7, 8]), (.mem true, [5, 9]), (.pure, [10, 11]), (.mem false, [12])] ?_ | refine s_flat 26 [(.pure, [0, 1, 2, 3, 6, 7, 8]), (.mem true, [4]), (.pure, [5]), (.mem true, [9]), (.pure, [10, 11])] ?_ | refine s_loadsl (iv_at _ i _ hh) ?_ | refine s_loadsl (iv_at _ i _ hw) ?_))
      refine run_loopI (X := Nat × Option Addr × Nat) (fun x => x.1 ≤ 10)
        (fun x => [(0, .string key), (7, .slice (some ⟨b, 0, none⟩) 13 cb), (13, .slice (some ⟨bw, 0, none⟩) 13 cw), (14, .int .i64 (c1 : Int)), (15, .slice x.2.1 (10 * i + x.1) x.2.2), (16, .int .i64 (i : Int)), (17, .int .i64 (x.1 : Int))])
        (fun x => [sl x.2.1 (10 * i + x.1) x.2.2 3 1 (iv (bitsOf N (10 * i + x.1))), sl (some ⟨b, 0, none⟩) 13 cb 3 1 (iv (dgs H 13)), sl (some ⟨bw, 0, none⟩) 13 cw 3 1 (iv (dgs K 13))]) (fun x => 10 - x.1) (0, pb, cb2) (Nat.zero_le _) fct shut ?_
      intro ⟨j, p3, c3⟩ hj
      dsimp only at *
      (repeat (first | refine g ?_ | refine s_flat 18 [(.pure, [0, 1, 2, 3, 4, 6, 7, 8]), (.mem true, [5, 9]), (.pure, [10, 11]), (.mem false, [12])] ?_ | refine s_flat 26 [(.pure, [0, 1, 2, 3, 6, 7, 8]), (.mem true, [4]), (.pure, [5]), (.mem true, [9]), (.pure, [10, 11])] ?_))
      refine run_cond_dec rfl ?_ ?_
      · intro h3
        have hq : 0 ≤ (c1 : Int) % 1024 / 2 ^ (j : Int).toNat ∧ (c1 : Int) % 1024 / 2 ^ (j : Int).toNat ≤ 1023 := by
          have h0 : 0 ≤ (c1 : Int) % 1024 ∧ (c1 : Int) % 1024 ≤ 1023 := by omega
          exact ⟨Int.ediv_nonneg h0.1 (Int.le_of_lt (Int.pow_pos (by decide))), Int.le_trans (Int.ediv_le_self _ h0.1) h0.2⟩
        (repeat (first | refine g ?_ | refine s_flat 18 [(.pure, [0, 1, 2, 3, 4, 6, 7, 8]), (.mem true, [5, 9]), (.pure, [10, 11]), (.mem false, [12])] ?_ | refine s_flat 26 [(.pure, [0, 1, 2, 3, 6, 7, 8]), (.mem true, [4]), (.pure, [5]), (.mem true, [9]), (.pure, [10, 11])] ?_))
        refine s_built fun r => ?_
        (repeat (first | refine g ?_ | refine s_flat 18 [(.pure, [0, 1, 2, 3, 4, 6, 7, 8]), (.mem true, [5, 9]), (.pure, [10, 11]), (.mem false, [12])] ?_ | refine s_flat 26 [(.pure, [0, 1, 2, 3, 6, 7, 8]), (.mem true, [4]), (.pure, [5]), (.mem true, [9]), (.pure, [10, 11])] ?_))
        refine s_app 1 8 (reads_own At.head rfl) (hxl := by rw [iv_length, bitsOf_length, Nat.mul_one]) fun r2 => ?_
        have e1 : N / 2 ^ (10 * i + j) % 2 = c1 % 1024 / 2 ^ j % 2 := by
          rw [hcN]; exact bit_in N i j (by omega)
        have e0 : (c1 : Int) % 1024 / 2 ^ (j : Int).toNat % 2 = ((N / 2 ^ (10 * i + j) % 2 : Nat) : Int) := by
          rw [e1, Int.toNat_natCast]; push_cast; rfl
        have e : iv (bitsOf N (10 * i + j)) ++ [Value.int .i64 ((c1 : Int) % 1024 / 2 ^ (j : Int).toNat % 2)] = iv (bitsOf N (10 * i + (j + 1))) := by
          rw [e0, ← Nat.add_assoc, bitsOf_snoc, iv_append]; rfl
        refine s_eq e ?_
        (repeat (first | refine g ?_ | refine s_flat 18 [(.pure, [0, 1, 2, 3, 4, 6, 7, 8]), (.mem true, [5, 9]), (.pure, [10, 11]), (.mem false, [12])] ?_ | refine s_flat 26 [(.pure, [0, 1, 2, 3, 6, 7, 8]), (.mem true, [4]), (.pure, [5]), (.mem true, [9]), (.pure, [10, 11])] ?_))
        refine run_stop_loop (j + 1, r2) ?_ fct shut
        exact ⟨by dsimp only; omega, by dsimp only; omega⟩
      · intro h3
        obtain rfl : j = 10 := by omega
        (repeat (first | refine g ?_ | refine s_flat 18 [(.pure, [0, 1, 2, 3, 4, 6, 7, 8]), (.mem true, [5, 9]), (.pure, [10, 11]), (.mem false, [12])] ?_ | refine s_flat 26 [(.pure, [0, 1, 2, 3, 6, 7, 8]), (.mem true, [4]), (.pure, [5]), (.mem true, [9]), (.pure, [10, 11])] ?_))
        refine run_stop_loop (i + 1, c1 / 1024, p3, c3) ?_ fct shut
        refine ⟨⟨by dsimp only; omega, ?_, by dsimp only; omega⟩, by dsimp only; omega⟩
        dsimp only
        rw [Nat.pow_succ, ← Nat.div_div_eq_div_mul, ← hc, dh, dw]; omega
    · intro h2
      obtain rfl : i = 13 := by omega
      (repeat (first | refine g ?_ | refine s_flat 18 [(.pure, [0, 1, 2, 3, 4, 6, 7, 8]), (.mem true, [5, 9]), (.pure, [10, 11]), (.mem false, [12])] ?_ | refine s_flat 26 [(.pure, [0, 1, 2, 3, 6, 7, 8]), (.mem true, [4]), (.pure, [5]), (.mem true, [9]), (.pure, [10, 11])] ?_))
      refine s_ptr pb fun bb ebb _ hcbb => ?_
      subst ebb
      refine run_loopI (X := Nat × Option Addr × Nat) (fun x => x.1 ≤ 16)
        (fun x => [(15, .slice (some ⟨bb, 0, none⟩) 130 cb2), (18, .slice x.2.1 x.1 x.2.2), (19, .int .i64 (x.1 : Int))])
        (fun x => [sl x.2.1 x.1 x.2.2 5 1 (bv (bytesOf N x.1)), sl (some ⟨bb, 0, none⟩) 130 cb2 3 1 (iv (bitsOf N 130))]) (fun x => 16 - x.1) (0, none, 0) (Nat.zero_le _) fct shut ?_
      intro ⟨i, po, co⟩ hi
      dsimp only at *
      (repeat (first | refine g ?_ | refine s_flat 18 [(.pure, [0, 1, 2, 3, 4, 6, 7, 8]), (.mem true, [5, 9]), (.pure, [10, 11]), (.mem false, [12])] ?_ | refine s_flat 26 [(.pure, [0, 1, 2, 3, 6, 7, 8]), (.mem true, [4]), (.pure, [5]), (.mem true, [9]), (.pure, [10, 11])] ?_))
      refine run_cond_dec rfl ?_ ?_
      · intro h3
        (repeat (first | refine g ?_ | refine s_flat 18 [(.pure, [0, 1, 2, 3, 4, 6, 7, 8]), (.mem true, [5, 9]), (.pure, [10, 11]), (.mem false, [12])] ?_ | refine s_flat 26 [(.pure, [0, 1, 2, 3, 6, 7, 8]), (.mem true, [4]), (.pure, [5]), (.mem true, [9]), (.pure, [10, 11])] ?_))
        refine run_loopI (X := Nat × Nat) (fun x => x.1 ≤ 8 ∧ x.2 = N / 2 ^ (8 * i + x.1) % 2 ^ (8 - x.1))
          (fun x => [(15, .slice (some ⟨bb, 0, none⟩) 130 cb2), (18, .slice po i co), (19, .int .i64 (i : Int)), (20, .int .i64 (x.2 : Int)), (21, .int .i64 ((x.1 : Int) - 1))])
          (fun x => [sl po i co 5 1 (bv (bytesOf N i)), sl (some ⟨bb, 0, none⟩) 130 cb2 3 1 (iv (bitsOf N 130))]) (fun x => x.1) (8, 0) ⟨Nat.le_refl 8, by rw [Nat.sub_self, Nat.pow_zero, Nat.mod_one]⟩ fct shut ?_
        intro ⟨j, d⟩ ⟨hj, hd⟩
        dsimp only at *
        have hd8 : d < 256 := by rw [hd]; exact Nat.lt_of_lt_of_le (Nat.mod_lt _ (Nat.two_pow_pos _)) (Nat.pow_le_pow_right (by decide) (show 8 - j ≤ 8 by omega))
        (repeat (first | refine g ?_ | refine s_flat 18 [(.pure, [0, 1, 2, 3, 4, 6, 7, 8]), (.mem true, [5, 9]), (.pure, [10, 11]), (.mem false, [12])] ?_ | refine s_flat 26 [(.pure, [0, 1, 2, 3, 6, 7, 8]), (.mem true, [4]), (.pure, [5]), (.mem true, [9]), (.pure, [10, 11])] ?_))
        refine run_cond_dec rfl ?_ ?_
        · intro h4
          have hix : (8 * (i : Int) + ((j : Int) - 1)).toNat = 8 * i + (j - 1) := by omega
          have hbit : (bitsOf N 130)[(8 * (i : Int) + ((j : Int) - 1)).toNat]? = some (N / 2 ^ (8 * i + (j - 1)) % 2) := by rw [hix]; exact bitsOf_at N 130 _ (by omega)
          have lb : N / 2 ^ (8 * i + (j - 1)) % 2 < 2 := Nat.mod_lt _ (by decide)
          have hnew : 2 * d + N / 2 ^ (8 * i + (j - 1)) % 2 = N / 2 ^ (8 * i + (j - 1)) % 2 ^ (8 - (j - 1)) := by
            rw [show 8 - (j - 1) = (8 - j) + 1 by omega, bits_step, hd, show 8 * i + (j - 1) + 1 = 8 * i + j by omega]
          generalize N / 2 ^ (8 * i + (j - 1)) % 2 = bt at *
          (repeat (first | refine g ?_ | refine s_flat 18 [(.pure, [0, 1, 2, 3, 4, 6, 7, 8]), (.mem true, [5, 9]), (.pure, [10, 11]), (.mem false, [12])] ?_ | refine s_flat 26 [(.pure, [0, 1, 2, 3, 6, 7, 8]), (.mem true, [4]), (.pure, [5]), (.mem true, [9]), (.pure, [10, 11])] ?_ | refine s_loadsl (iv_at _ _ _ hbit) ?_))
          refine run_stop_loop (j - 1, 2 * d + bt) ?_ fct shut
          exact ⟨⟨by dsimp only; omega, hnew⟩, by dsimp only; omega⟩
        · intro h4
          obtain rfl : j = 0 := by omega
          (repeat (first | refine g ?_ | refine s_flat 18 [(.pure, [0, 1, 2, 3, 4, 6, 7, 8]), (.mem true, [5, 9]), (.pure, [10, 11]), (.mem false, [12])] ?_ | refine s_flat 26 [(.pure, [0, 1, 2, 3, 6, 7, 8]), (.mem true, [4]), (.pure, [5]), (.mem true, [9]), (.pure, [10, 11])] ?_))
          refine s_built fun r => ?_
          (repeat (first | refine g ?_ | refine s_flat 18 [(.pure, [0, 1, 2, 3, 4, 6, 7, 8]), (.mem true, [5, 9]), (.pure, [10, 11]), (.mem false, [12])] ?_ | refine s_flat 26 [(.pure, [0, 1, 2, 3, 6, 7, 8]), (.mem true, [4]), (.pure, [5]), (.mem true, [9]), (.pure, [10, 11])] ?_))
          refine s_app 1 1 (reads_own At.head rfl) (hxl := by rw [bv_length, bytesOf_length, Nat.mul_one]) fun r2 => ?_
          have ed : d = N / 256 ^ i % 256 := by
            rw [hd, Nat.add_zero, Nat.sub_zero, show (2 : Nat) ^ (8 * i) = 256 ^ i by rw [Nat.pow_mul]]
          have e : bv (bytesOf N i) ++ [Value.int .u8 ((d : Int) % 256)] = bv (bytesOf N (i + 1)) := by
            rw [bytesOf_snoc, bv_append, ← ed, show (d : Int) % 256 = ((UInt8.ofNat d).toNat : Int) by rw [UInt8.toNat_ofNat', Nat.mod_eq_of_lt hd8]; omega]; rfl
          refine s_eq e ?_
          (repeat (first | refine g ?_ | refine s_flat 18 [(.pure, [0, 1, 2, 3, 4, 6, 7, 8]), (.mem true, [5, 9]), (.pure, [10, 11]), (.mem false, [12])] ?_ | refine s_flat 26 [(.pure, [0, 1, 2, 3, 6, 7, 8]), (.mem true, [4]), (.pure, [5]), (.mem true, [9]), (.pure, [10, 11])] ?_))
          refine run_stop_loop (i + 1, r2) ?_ fct shut
          exact ⟨by dsimp only; omega, by dsimp only; omega⟩
      · intro h3
        obtain rfl : i = 16 := by omega
        (repeat (first | refine g ?_ | refine s_flat 18 [(.pure, [0, 1, 2, 3, 4, 6, 7, 8]), (.mem true, [5, 9]), (.pure, [10, 11]), (.mem false, [12])] ?_ | refine s_flat 26 [(.pure, [0, 1, 2, 3, 6, 7, 8]), (.mem true, [4]), (.pure, [5]), (.mem true, [9]), (.pure, [10, 11])] ?_))
        refine s_string ?_
        (repeat (first | refine g ?_ | refine s_flat 18 [(.pure, [0, 1, 2, 3, 4, 6, 7, 8]), (.mem true, [5, 9]), (.pure, [10, 11]), (.mem false, [12])] ?_ | refine s_flat 26 [(.pure, [0, 1, 2, 3, 6, 7, 8]), (.mem true, [4]), (.pure, [5]), (.mem true, [9]), (.pure, [10, 11])] ?_))
        refine run_ret rfl (imp_RD ?_ shut)
        have e : bytesOf N 16 = Spec.leB ((Spec.polyH (Spec.polyR key) 0 (Spec.nats s) + Spec.le ((Spec.nats key).drop 16)) % Spec.P128) 16 := by
          rw [← hP, ← hK, ← hN]; exact bytesOf_leB N 16 Spec.P128 (by decide)
        rw [e]; rfl
end Go.Proofs.Ytajndpddlpnbkaa.V
namespace Go.Proofs.Ytajndpddlpnbkaa.V
open Go.Proofs.Ytajndpddlpnbkaa.VL
attribute [local irreducible] Run
theorem low_spec (q : View) (n : Nat) (h : n < 9223372036854775808) : FnD Try.prog q 101 [.int .i64 n] [] (.int .i64 ((n % 4294967296 : Nat) : Int)) [] := by
  (first | refine FnD.go Try.call101 Try.func101 rfl rfl rfl ?_ | refine FnX.go Try.call101 Try.func101 rfl rfl rfl ?_)
  (repeat (first | refine g ?_))
  exact run_ret rfl (imp_RD rfl shut)
theorem low_spec' (q : View) (a : Int) (n : Nat) (e : a = n) (h : n < 9223372036854775808) : FnD Try.prog q 101 [.int .i64 a] [] (.int .i64 ((n % 4294967296 : Nat) : Int)) [] := by
  rw [e]; exact low_spec q n h
theorem or_mod32 (a b : Nat) (hb : b < 4294967296) : (a ||| b) % 4294967296 = (a % 4294967296) ||| b := by
  have e : (4294967296 : Nat) = 2 ^ 32 := rfl
  rw [e] at *
  apply Nat.eq_of_testBit_eq
  intro i
  simp only [Nat.testBit_mod_two_pow, Nat.testBit_or]
  by_cases h : i < 32
  · simp [h]
  · have : b.testBit i = false := Nat.testBit_lt_two_pow (Nat.lt_of_lt_of_le hb (Nat.pow_le_pow_right (n := 2) (by decide) (show 32 ≤ i by omega)))
    simp [h, this]
theorem rotl_lt (x n : Nat) (hx : x < 4294967296) : Spec.rotl x n < 4294967296 := by
  unfold Spec.rotl
  have h1 : (x * 2 ^ n) % Spec.M32 < 2 ^ 32 := Nat.mod_lt _ (by decide)
  have h2 : x / 2 ^ (32 - n) < 2 ^ 32 := Nat.lt_of_le_of_lt (Nat.div_le_self _ _) hx
  exact Nat.or_lt_two_pow h1 h2
theorem left_spec (q : View) (x n : Nat) (hx : x < 4294967296) (hn : n = 7 ∨ n = 8 ∨ n = 12 ∨ n = 16) : FnD Try.prog q 115 [.int .i64 x, .int .i64 n] [] (.int .i64 ((Spec.rotl x n : Nat) : Int)) [] := by
  have key : ∀ m d : Nat, m ≤ 65536 → 0 < d → x / d < 4294967296 → ((x * m ||| x / d) % 4294967296 = (x * m % 4294967296) ||| x / d) ∧ (x * m ||| x / d) < 9223372036854775808 := fun m d hm hd hx2 => by
    refine ⟨or_mod32 _ _ hx2, ?_⟩
    have : x * m ≤ 4294967296 * 65536 := Nat.mul_le_mul (Nat.le_of_lt hx) hm
    exact Nat.or_lt_two_pow (n := 63) (Nat.lt_of_le_of_lt this (by decide)) (Nat.lt_trans hx2 (by decide))
  rcases hn with rfl | rfl | rfl | rfl
  · have e1 : ((x : Int) * 128).toNat = x * 128 := by omega
    have e2 : ((x : Int) / 33554432).toNat = x / 33554432 := by omega
    obtain ⟨k1, k2⟩ := key 128 33554432 (by decide) (by decide) (by omega)
    rw [← e1, ← e2] at k2
    (first | refine FnD.go Try.call115 Try.func115 rfl rfl rfl ?_ | refine FnX.go Try.call115 Try.func115 rfl rfl rfl ?_)
    (repeat (first | refine g ?_ | refine s_flat 1 [(.pure, [0, 1, 2, 3, 4, 5, 6, 7]), (.mem false, [8]), (.pure, [9])] ?_))
    refine s_call (low_spec q (((x : Int) * 128).toNat ||| ((x : Int) / 33554432).toNat) k2) ?_
    (repeat (first | refine g ?_ | refine s_flat 1 [(.pure, [0, 1, 2, 3, 4, 5, 6, 7]), (.mem false, [8]), (.pure, [9])] ?_))
    refine run_ret rfl (imp_RD ?_ shut)
    rw [e1, e2, k1]; rfl
  · have e1 : ((x : Int) * 256).toNat = x * 256 := by omega
    have e2 : ((x : Int) / 16777216).toNat = x / 16777216 := by omega
    obtain ⟨k1, k2⟩ := key 256 16777216 (by decide) (by decide) (by omega)
    rw [← e1, ← e2] at k2
    (first | refine FnD.go Try.call115 Try.func115 rfl rfl rfl ?_ | refine FnX.go Try.call115 Try.func115 rfl rfl rfl ?_)
    (repeat (first | refine g ?_ | refine s_flat 1 [(.pure, [0, 1, 2, 3, 4, 5, 6, 7]), (.mem false, [8]), (.pure, [9])] ?_))
    refine s_call (low_spec q (((x : Int) * 256).toNat ||| ((x : Int) / 16777216).toNat) k2) ?_
    (repeat (first | refine g ?_ | refine s_flat 1 [(.pure, [0, 1, 2, 3, 4, 5, 6, 7]), (.mem false, [8]), (.pure, [9])] ?_))
    refine run_ret rfl (imp_RD ?_ shut)
    rw [e1, e2, k1]; rfl
  · have e1 : ((x : Int) * 4096).toNat = x * 4096 := by omega
    have e2 : ((x : Int) / 1048576).toNat = x / 1048576 := by omega
    obtain ⟨k1, k2⟩ := key 4096 1048576 (by decide) (by decide) (by omega)
    rw [← e1, ← e2] at k2
    (first | refine FnD.go Try.call115 Try.func115 rfl rfl rfl ?_ | refine FnX.go Try.call115 Try.func115 rfl rfl rfl ?_)
    (repeat (first | refine g ?_ | refine s_flat 1 [(.pure, [0, 1, 2, 3, 4, 5, 6, 7]), (.mem false, [8]), (.pure, [9])] ?_))
    refine s_call (low_spec q (((x : Int) * 4096).toNat ||| ((x : Int) / 1048576).toNat) k2) ?_
    (repeat (first | refine g ?_ | refine s_flat 1 [(.pure, [0, 1, 2, 3, 4, 5, 6, 7]), (.mem false, [8]), (.pure, [9])] ?_))
    refine run_ret rfl (imp_RD ?_ shut)
    rw [e1, e2, k1]; rfl
  · have e1 : ((x : Int) * 65536).toNat = x * 65536 := by omega
    have e2 : ((x : Int) / 65536).toNat = x / 65536 := by omega
    obtain ⟨k1, k2⟩ := key 65536 65536 (by decide) (by decide) (by omega)
    rw [← e1, ← e2] at k2
    (first | refine FnD.go Try.call115 Try.func115 rfl rfl rfl ?_ | refine FnX.go Try.call115 Try.func115 rfl rfl rfl ?_)
    (repeat (first | refine g ?_ | refine s_flat 1 [(.pure, [0, 1, 2, 3, 4, 5, 6, 7]), (.mem false, [8]), (.pure, [9])] ?_))
    refine s_call (low_spec q (((x : Int) * 65536).toNat ||| ((x : Int) / 65536).toNat) k2) ?_
    (repeat (first | refine g ?_ | refine s_flat 1 [(.pure, [0, 1, 2, 3, 4, 5, 6, 7]), (.mem false, [8]), (.pure, [9])] ?_))
    refine run_ret rfl (imp_RD ?_ shut)
    rw [e1, e2, k1]; rfl
theorem word_lt (s : ByteArray) (i : Nat) : Spec.byteAt s i < 256 := by
  unfold Spec.byteAt Spec.at_ Spec.nats
  rw [List.getD_eq_getElem?_getD, List.getElem?_map]
  cases h : s.data.toList[i]? with
  | none => decide
  | some u => exact u.toNat_lt
theorem bAt_byteAt (s : ByteArray) (i : Nat) : bAt s i = (Spec.byteAt s i : Int) := by
  unfold bAt Spec.byteAt Spec.at_ Spec.nats
  rw [List.getD_eq_getElem?_getD, List.getD_eq_getElem?_getD, List.getElem?_map]
  cases s.data.toList[i]? <;> rfl
theorem word_spec (q : View) (s : ByteArray) (i : Nat) (hi : i + 3 < s.size) (hs : s.size ≤ 1000000) : FnD Try.prog q 99 [.string s, .int .i64 i] [] (.int .i64 ((Spec.word (Spec.nats s) i : Nat) : Int)) [] := by
  have h0 := bAt_lt s (i : Int).toNat
  have h1 := bAt_lt s ((i : Int) + 1).toNat
  have h2 := bAt_lt s ((i : Int) + 2).toNat
  have h3 := bAt_lt s ((i : Int) + 3).toNat
  (first | refine FnD.go Try.call99 Try.func99 rfl rfl rfl ?_ | refine FnX.go Try.call99 Try.func99 rfl rfl rfl ?_)
  (repeat (first | refine g ?_ | refine s_flat 1 [(.pure, [0, 1, 2, 3, 4, 5, 6, 7, 8, 9, 10, 11, 12, 13, 14, 15, 16, 17, 18, 19, 20, 21, 22, 23, 24, 25])] ?_))
  refine run_ret rfl (imp_RD ?_ shut)
  congr 1
  rw [show (i : Int).toNat = i from rfl, show ((i : Int) + 1).toNat = i + 1 by omega, show ((i : Int) + 2).toNat = i + 2 by omega, show ((i : Int) + 3).toNat = i + 3 by omega, bAt_byteAt, bAt_byteAt, bAt_byteAt, bAt_byteAt]
  unfold Spec.word
  show _ = ((Spec.byteAt s i + 256 * Spec.byteAt s (i + 1) + 65536 * Spec.byteAt s (i + 2) + 16777216 * Spec.byteAt s (i + 3) : Nat) : Int)
  omega
end Go.Proofs.Ytajndpddlpnbkaa.V
namespace Go.Proofs.Ytajndpddlpnbkaa.V
open Go.Proofs.Ytajndpddlpnbkaa.VL
attribute [local irreducible] Run
def low32 (l : List Nat) : Prop := ∀ i, l.getD i 0 < 4294967296
theorem low32_set {l : List Nat} (h : low32 l) (a v : Nat) (hv : v < 4294967296) : low32 (l.set a v) := fun i => by
  rw [List.getD_eq_getElem?_getD, List.getElem?_set]
  split
  · split
    · exact hv
    · decide
  · rw [← List.getD_eq_getElem?_getD]; exact h i
theorem low32_mod (n : Nat) : n % 4294967296 < 4294967296 := Nat.mod_lt _ (by decide)
theorem quarter_spec (q : View) (b0 c0 : Nat) (l : List Nat) (ll : l.length = 16) (hl : low32 l) (a b c d : Nat) (ha : a < 16) (hb : b < 16) (hc : c < 16) (hd : d < 16) :
    FnX Try.prog q 100 [.slice (some ⟨b0, 0, none⟩) 16 c0, .int .i64 a, .int .i64 b, .int .i64 c, .int .i64 d] [sl (some ⟨b0, 0, none⟩) 16 c0 3 1 (iv l)] (fun r : Nat × Nat => .slice (some ⟨r.1, 0, none⟩) 16 r.2)
      fun r => [sl (some ⟨r.1, 0, none⟩) 16 r.2 3 1 (iv (Spec.qr l a b c d)), sl (some ⟨b0, 0, none⟩) 16 c0 3 1 (iv l)] := by
  (first | refine FnD.go Try.call100 Try.func100 rfl rfl rfl ?_ | refine FnX.go Try.call100 Try.func100 rfl rfl rfl ?_)
  (repeat (first | refine g ?_ | refine s_flat 2 [(.pure, [0, 1, 2, 3, 4, 6, 7, 8]), (.mem true, [5, 9]), (.pure, [10]), (.mem false, [11]), (.pure, [12]), (.mem false, [13])] ?_ | refine s_flat 3 [(.pure, [0, 1, 2, 3, 4, 6, 7, 8]), (.mem true, [5, 9]), (.pure, [10]), (.mem false, [11]), (.pure, [12]), (.mem false, [13])] ?_ | refine s_flat 4 [(.pure, [0, 1, 2, 3, 4, 6, 7, 8]), (.mem true, [5, 9]), (.pure, [10]), (.mem false, [11]), (.pure, [12]), (.mem false, [13])] ?_ | refine s_flat 5 [(.pure, [0, 1, 2, 3, 4, 6, 7, 8]), (.mem true, [5, 9]), (.pure, [10]), (.mem false, [11]), (.pure, [12]), (.mem false, [13])] ?_ | refine s_flat 6 [(.pure, [0, 1, 2, 3, 4, 6, 7, 8]), (.mem true, [5, 9]), (.pure, [10]), (.mem false, [11]), (.pure, [12]), (.mem false, [13])] ?_ | refine s_flat 7 [(.pure, [0, 1, 2, 3, 4, 6, 7, 8]), (.mem true, [5, 9]), (.pure, [10]), (.mem false, [11]), (.pure, [12]), (.mem false, [13])] ?_ | refine s_flat 8 [(.pure, [0, 1, 2, 3, 4, 6, 7, 8]), (.mem true, [5, 9]), (.pure, [10]), (.mem false, [11]), (.pure, [12]), (.mem false, [13])] ?_ | refine s_flat 9 [(.pure, [0, 1, 2, 3, 4, 6, 7, 8]), (.mem true, [5, 9]), (.pure, [10]), (.mem false, [11]), (.pure, [12]), (.mem false, [13])] ?_ | refine gv ?_))
  refine s_built fun r => ?_
  (repeat (first | refine g ?_ | refine s_flat 2 [(.pure, [0, 1, 2, 3, 4, 6, 7, 8]), (.mem true, [5, 9]), (.pure, [10]), (.mem false, [11]), (.pure, [12]), (.mem false, [13])] ?_ | refine s_flat 3 [(.pure, [0, 1, 2, 3, 4, 6, 7, 8]), (.mem true, [5, 9]), (.pure, [10]), (.mem false, [11]), (.pure, [12]), (.mem false, [13])] ?_ | refine s_flat 4 [(.pure, [0, 1, 2, 3, 4, 6, 7, 8]), (.mem true, [5, 9]), (.pure, [10]), (.mem false, [11]), (.pure, [12]), (.mem false, [13])] ?_ | refine s_flat 5 [(.pure, [0, 1, 2, 3, 4, 6, 7, 8]), (.mem true, [5, 9]), (.pure, [10]), (.mem false, [11]), (.pure, [12]), (.mem false, [13])] ?_ | refine s_flat 6 [(.pure, [0, 1, 2, 3, 4, 6, 7, 8]), (.mem true, [5, 9]), (.pure, [10]), (.mem false, [11]), (.pure, [12]), (.mem false, [13])] ?_ | refine s_flat 7 [(.pure, [0, 1, 2, 3, 4, 6, 7, 8]), (.mem true, [5, 9]), (.pure, [10]), (.mem false, [11]), (.pure, [12]), (.mem false, [13])] ?_ | refine s_flat 8 [(.pure, [0, 1, 2, 3, 4, 6, 7, 8]), (.mem true, [5, 9]), (.pure, [10]), (.mem false, [11]), (.pure, [12]), (.mem false, [13])] ?_ | refine s_flat 9 [(.pure, [0, 1, 2, 3, 4, 6, 7, 8]), (.mem true, [5, 9]), (.pure, [10]), (.mem false, [11]), (.pure, [12]), (.mem false, [13])] ?_ | refine gv ?_))
  refine run_to_sl (n := 0) (kk := 1) rfl ?_
  refine s_app 1 8 (reads_slice (At.tail At.head)) (hxl := rfl) (hnl := by rw [iv_length, ll]) (h1 := by unfold iv; simp [one1]) fun r2 => ?_
  obtain ⟨p, cy⟩ := r2
  dsimp only
  refine s_ptr p fun y eb _ hcy => ?_
  subst eb
  rw [List.nil_append, Nat.zero_add]
  have uy1 : l.getD a 0 < 4294967296 := hl a
  have wy1 : l.getD b 0 < 4294967296 := hl b
  (repeat (first | refine g ?_ | refine s_flat 2 [(.pure, [0, 1, 2, 3, 4, 6, 7, 8]), (.mem true, [5, 9]), (.pure, [10]), (.mem false, [11]), (.pure, [12]), (.mem false, [13])] ?_ | refine s_flat 3 [(.pure, [0, 1, 2, 3, 4, 6, 7, 8]), (.mem true, [5, 9]), (.pure, [10]), (.mem false, [11]), (.pure, [12]), (.mem false, [13])] ?_ | refine s_flat 4 [(.pure, [0, 1, 2, 3, 4, 6, 7, 8]), (.mem true, [5, 9]), (.pure, [10]), (.mem false, [11]), (.pure, [12]), (.mem false, [13])] ?_ | refine s_flat 5 [(.pure, [0, 1, 2, 3, 4, 6, 7, 8]), (.mem true, [5, 9]), (.pure, [10]), (.mem false, [11]), (.pure, [12]), (.mem false, [13])] ?_ | refine s_flat 6 [(.pure, [0, 1, 2, 3, 4, 6, 7, 8]), (.mem true, [5, 9]), (.pure, [10]), (.mem false, [11]), (.pure, [12]), (.mem false, [13])] ?_ | refine s_flat 7 [(.pure, [0, 1, 2, 3, 4, 6, 7, 8]), (.mem true, [5, 9]), (.pure, [10]), (.mem false, [11]), (.pure, [12]), (.mem false, [13])] ?_ | refine s_flat 8 [(.pure, [0, 1, 2, 3, 4, 6, 7, 8]), (.mem true, [5, 9]), (.pure, [10]), (.mem false, [11]), (.pure, [12]), (.mem false, [13])] ?_ | refine s_flat 9 [(.pure, [0, 1, 2, 3, 4, 6, 7, 8]), (.mem true, [5, 9]), (.pure, [10]), (.mem false, [11]), (.pure, [12]), (.mem false, [13])] ?_ | refine gv ?_))
  refine s_call (low_spec' q ((l.getD a 0 : Nat) + (l.getD b 0 : Nat) : Int) (l.getD a 0 + l.getD b 0) (by push_cast; rfl) (by omega)) ?_
  (repeat (first | refine gr ?_ | refine gv ?_))
  obtain ⟨y1, ey1⟩ : ∃ y1, y1 = l.set a ((l.getD a 0 + l.getD b 0) % 4294967296) := ⟨_, rfl⟩
  rw [← ey1]
  have hy1 : low32 y1 := by rw [ey1]; exact low32_set hl _ _ (low32_mod _)
  have ly1 : y1.length = 16 := by rw [ey1, List.length_set]; exact ll
  have uy2 : y1.getD d 0 < 4294967296 := hy1 d
  have wy2 : y1.getD a 0 < 4294967296 := hy1 a
  (repeat (first | refine g ?_ | refine s_flat 2 [(.pure, [0, 1, 2, 3, 4, 6, 7, 8]), (.mem true, [5, 9]), (.pure, [10]), (.mem false, [11]), (.pure, [12]), (.mem false, [13])] ?_ | refine s_flat 3 [(.pure, [0, 1, 2, 3, 4, 6, 7, 8]), (.mem true, [5, 9]), (.pure, [10]), (.mem false, [11]), (.pure, [12]), (.mem false, [13])] ?_ | refine s_flat 4 [(.pure, [0, 1, 2, 3, 4, 6, 7, 8]), (.mem true, [5, 9]), (.pure, [10]), (.mem false, [11]), (.pure, [12]), (.mem false, [13])] ?_ | refine s_flat 5 [(.pure, [0, 1, 2, 3, 4, 6, 7, 8]), (.mem true, [5, 9]), (.pure, [10]), (.mem false, [11]), (.pure, [12]), (.mem false, [13])] ?_ | refine s_flat 6 [(.pure, [0, 1, 2, 3, 4, 6, 7, 8]), (.mem true, [5, 9]), (.pure, [10]), (.mem false, [11]), (.pure, [12]), (.mem false, [13])] ?_ | refine s_flat 7 [(.pure, [0, 1, 2, 3, 4, 6, 7, 8]), (.mem true, [5, 9]), (.pure, [10]), (.mem false, [11]), (.pure, [12]), (.mem false, [13])] ?_ | refine s_flat 8 [(.pure, [0, 1, 2, 3, 4, 6, 7, 8]), (.mem true, [5, 9]), (.pure, [10]), (.mem false, [11]), (.pure, [12]), (.mem false, [13])] ?_ | refine s_flat 9 [(.pure, [0, 1, 2, 3, 4, 6, 7, 8]), (.mem true, [5, 9]), (.pure, [10]), (.mem false, [11]), (.pure, [12]), (.mem false, [13])] ?_ | refine gv ?_))
  have zy2 : y1.getD d 0 ^^^ y1.getD a 0 < 4294967296 := Nat.xor_lt_two_pow (n := 32) (hy1 d) (hy1 a)
  refine s_call (left_spec q (y1.getD d 0 ^^^ y1.getD a 0) 16 zy2 (by decide)) ?_
  (repeat (first | refine gr ?_ | refine gv ?_))
  obtain ⟨y2, ey2⟩ : ∃ y2, y2 = y1.set d (Spec.rotl (y1.getD d 0 ^^^ y1.getD a 0) 16) := ⟨_, rfl⟩
  rw [← ey2]
  have hy2 : low32 y2 := by rw [ey2]; exact low32_set hy1 _ _ (rotl_lt _ _ zy2)
  have ly2 : y2.length = 16 := by rw [ey2, List.length_set]; exact ly1
  have uy3 : y2.getD c 0 < 4294967296 := hy2 c
  have wy3 : y2.getD d 0 < 4294967296 := hy2 d
  (repeat (first | refine g ?_ | refine s_flat 2 [(.pure, [0, 1, 2, 3, 4, 6, 7, 8]), (.mem true, [5, 9]), (.pure, [10]), (.mem false, [11]), (.pure, [12]), (.mem false, [13])] ?_ | refine s_flat 3 [(.pure, [0, 1, 2, 3, 4, 6, 7, 8]), (.mem true, [5, 9]), (.pure, [10]), (.mem false, [11]), (.pure, [12]), (.mem false, [13])] ?_ | refine s_flat 4 [(.pure, [0, 1, 2, 3, 4, 6, 7, 8]), (.mem true, [5, 9]), (.pure, [10]), (.mem false, [11]), (.pure, [12]), (.mem false, [13])] ?_ | refine s_flat 5 [(.pure, [0, 1, 2, 3, 4, 6, 7, 8]), (.mem true, [5, 9]), (.pure, [10]), (.mem false, [11]), (.pure, [12]), (.mem false, [13])] ?_ | refine s_flat 6 [(.pure, [0, 1, 2, 3, 4, 6, 7, 8]), (.mem true, [5, 9]), (.pure, [10]), (.mem false, [11]), (.pure, [12]), (.mem false, [13])] ?_ | refine s_flat 7 [(.pure, [0, 1, 2, 3, 4, 6, 7, 8]), (.mem true, [5, 9]), (.pure, [10]), (.mem false, [11]), (.pure, [12]), (.mem false, [13])] ?_ | refine s_flat 8 [(.pure, [0, 1, 2, 3, 4, 6, 7, 8]), (.mem true, [5, 9]), (.pure, [10]), (.mem false, [11]), (.pure, [12]), (.mem false, [13])] ?_ | refine s_flat 9 [(.pure, [0, 1, 2, 3, 4, 6, 7, 8]), (.mem true, [5, 9]), (.pure, [10]), (.mem false, [11]), (.pure, [12]), (.mem false, [13])] ?_ | refine gv ?_))
  refine s_call (low_spec' q ((y2.getD c 0 : Nat) + (y2.getD d 0 : Nat) : Int) (y2.getD c 0 + y2.getD d 0) (by push_cast; rfl) (by omega)) ?_
  (repeat (first | refine gr ?_ | refine gv ?_))
  obtain ⟨y3, ey3⟩ : ∃ y3, y3 = y2.set c ((y2.getD c 0 + y2.getD d 0) % 4294967296) := ⟨_, rfl⟩
  rw [← ey3]
  have hy3 : low32 y3 := by rw [ey3]; exact low32_set hy2 _ _ (low32_mod _)
  have ly3 : y3.length = 16 := by rw [ey3, List.length_set]; exact ly2
  have uy4 : y3.getD b 0 < 4294967296 := hy3 b
  have wy4 : y3.getD c 0 < 4294967296 := hy3 c
  (repeat (first | refine g ?_ | refine s_flat 2 [(.pure, [0, 1, 2, 3, 4, 6, 7, 8]), (.mem true, [5, 9]), (.pure, [10]), (.mem false, [11]), (.pure, [12]), (.mem false, [13])] ?_ | refine s_flat 3 [(.pure, [0, 1, 2, 3, 4, 6, 7, 8]), (.mem true, [5, 9]), (.pure, [10]), (.mem false, [11]), (.pure, [12]), (.mem false, [13])] ?_ | refine s_flat 4 [(.pure, [0, 1, 2, 3, 4, 6, 7, 8]), (.mem true, [5, 9]), (.pure, [10]), (.mem false, [11]), (.pure, [12]), (.mem false, [13])] ?_ | refine s_flat 5 [(.pure, [0, 1, 2, 3, 4, 6, 7, 8]), (.mem true, [5, 9]), (.pure, [10]), (.mem false, [11]), (.pure, [12]), (.mem false, [13])] ?_ | refine s_flat 6 [(.pure, [0, 1, 2, 3, 4, 6, 7, 8]), (.mem true, [5, 9]), (.pure, [10]), (.mem false, [11]), (.pure, [12]), (.mem false, [13])] ?_ | refine s_flat 7 [(.pure, [0, 1, 2, 3, 4, 6, 7, 8]), (.mem true, [5, 9]), (.pure, [10]), (.mem false, [11]), (.pure, [12]), (.mem false, [13])] ?_ | refine s_flat 8 [(.pure, [0, 1, 2, 3, 4, 6, 7, 8]), (.mem true, [5, 9]), (.pure, [10]), (.mem false, [11]), (.pure, [12]), (.mem false, [13])] ?_ | refine s_flat 9 [(.pure, [0, 1, 2, 3, 4, 6, 7, 8]), (.mem true, [5, 9]), (.pure, [10]), (.mem false, [11]), (.pure, [12]), (.mem false, [13])] ?_ | refine gv ?_))
  have zy4 : y3.getD b 0 ^^^ y3.getD c 0 < 4294967296 := Nat.xor_lt_two_pow (n := 32) (hy3 b) (hy3 c)
  refine s_call (left_spec q (y3.getD b 0 ^^^ y3.getD c 0) 12 zy4 (by decide)) ?_
  (repeat (first | refine gr ?_ | refine gv ?_))
  obtain ⟨y4, ey4⟩ : ∃ y4, y4 = y3.set b (Spec.rotl (y3.getD b 0 ^^^ y3.getD c 0) 12) := ⟨_, rfl⟩
  rw [← ey4]
  have hy4 : low32 y4 := by rw [ey4]; exact low32_set hy3 _ _ (rotl_lt _ _ zy4)
  have ly4 : y4.length = 16 := by rw [ey4, List.length_set]; exact ly3
  have uy5 : y4.getD a 0 < 4294967296 := hy4 a
  have wy5 : y4.getD b 0 < 4294967296 := hy4 b
  (repeat (first | refine g ?_ | refine s_flat 2 [(.pure, [0, 1, 2, 3, 4, 6, 7, 8]), (.mem true, [5, 9]), (.pure, [10]), (.mem false, [11]), (.pure, [12]), (.mem false, [13])] ?_ | refine s_flat 3 [(.pure, [0, 1, 2, 3, 4, 6, 7, 8]), (.mem true, [5, 9]), (.pure, [10]), (.mem false, [11]), (.pure, [12]), (.mem false, [13])] ?_ | refine s_flat 4 [(.pure, [0, 1, 2, 3, 4, 6, 7, 8]), (.mem true, [5, 9]), (.pure, [10]), (.mem false, [11]), (.pure, [12]), (.mem false, [13])] ?_ | refine s_flat 5 [(.pure, [0, 1, 2, 3, 4, 6, 7, 8]), (.mem true, [5, 9]), (.pure, [10]), (.mem false, [11]), (.pure, [12]), (.mem false, [13])] ?_ | refine s_flat 6 [(.pure, [0, 1, 2, 3, 4, 6, 7, 8]), (.mem true, [5, 9]), (.pure, [10]), (.mem false, [11]), (.pure, [12]), (.mem false, [13])] ?_ | refine s_flat 7 [(.pure, [0, 1, 2, 3, 4, 6, 7, 8]), (.mem true, [5, 9]), (.pure, [10]), (.mem false, [11]), (.pure, [12]), (.mem false, [13])] ?_ | refine s_flat 8 [(.pure, [0, 1, 2, 3, 4, 6, 7, 8]), (.mem true, [5, 9]), (.pure, [10]), (.mem false, [11]), (.pure, [12]), (.mem false, [13])] ?_ | refine s_flat 9 [(.pure, [0, 1, 2, 3, 4, 6, 7, 8]), (.mem true, [5, 9]), (.pure, [10]), (.mem false, [11]), (.pure, [12]), (.mem false, [13])] ?_ | refine gv ?_))
  refine s_call (low_spec' q ((y4.getD a 0 : Nat) + (y4.getD b 0 : Nat) : Int) (y4.getD a 0 + y4.getD b 0) (by push_cast; rfl) (by omega)) ?_
  (repeat (first | refine gr ?_ | refine gv ?_))
  obtain ⟨y5, ey5⟩ : ∃ y5, y5 = y4.set a ((y4.getD a 0 + y4.getD b 0) % 4294967296) := ⟨_, rfl⟩
  rw [← ey5]
  have hy5 : low32 y5 := by rw [ey5]; exact low32_set hy4 _ _ (low32_mod _)
  have ly5 : y5.length = 16 := by rw [ey5, List.length_set]; exact ly4
  have uy6 : y5.getD d 0 < 4294967296 := hy5 d
  have wy6 : y5.getD a 0 < 4294967296 := hy5 a
  (repeat (first | refine g ?_ | refine s_flat 2 [(.pure, [0, 1, 2, 3, 4, 6, 7, 8]), (.mem true, [5, 9]), (.pure, [10]), (.mem false, [11]), (.pure, [12]), (.mem false, [13])] ?_ | refine s_flat 3 [(.pure, [0, 1, 2, 3, 4, 6, 7, 8]), (.mem true, [5, 9]), (.pure, [10]), (.mem false, [11]), (.pure, [12]), (.mem false, [13])] ?_ | refine s_flat 4 [(.pure, [0, 1, 2, 3, 4, 6, 7, 8]), (.mem true, [5, 9]), (.pure, [10]), (.mem false, [11]), (.pure, [12]), (.mem false, [13])] ?_ | refine s_flat 5 [(.pure, [0, 1, 2, 3, 4, 6, 7, 8]), (.mem true, [5, 9]), (.pure, [10]), (.mem false, [11]), (.pure, [12]), (.mem false, [13])] ?_ | refine s_flat 6 [(.pure, [0, 1, 2, 3, 4, 6, 7, 8]), (.mem true, [5, 9]), (.pure, [10]), (.mem false, [11]), (.pure, [12]), (.mem false, [13])] ?_ | refine s_flat 7 [(.pure, [0, 1, 2, 3, 4, 6, 7, 8]), (.mem true, [5, 9]), (.pure, [10]), (.mem false, [11]), (.pure, [12]), (.mem false, [13])] ?_ | refine s_flat 8 [(.pure, [0, 1, 2, 3, 4, 6, 7, 8]), (.mem true, [5, 9]), (.pure, [10]), (.mem false, [11]), (.pure, [12]), (.mem false, [13])] ?_ | refine s_flat 9 [(.pure, [0, 1, 2, 3, 4, 6, 7, 8]), (.mem true, [5, 9]), (.pure, [10]), (.mem false, [11]), (.pure, [12]), (.mem false, [13])] ?_ | refine gv ?_))
  have zy6 : y5.getD d 0 ^^^ y5.getD a 0 < 4294967296 := Nat.xor_lt_two_pow (n := 32) (hy5 d) (hy5 a)
  refine s_call (left_spec q (y5.getD d 0 ^^^ y5.getD a 0) 8 zy6 (by decide)) ?_
  (repeat (first | refine gr ?_ | refine gv ?_))
  obtain ⟨y6, ey6⟩ : ∃ y6, y6 = y5.set d (Spec.rotl (y5.getD d 0 ^^^ y5.getD a 0) 8) := ⟨_, rfl⟩
  rw [← ey6]
  have hy6 : low32 y6 := by rw [ey6]; exact low32_set hy5 _ _ (rotl_lt _ _ zy6)
  have ly6 : y6.length = 16 := by rw [ey6, List.length_set]; exact ly5
  have uy7 : y6.getD c 0 < 4294967296 := hy6 c
  have wy7 : y6.getD d 0 < 4294967296 := hy6 d
  (repeat (first | refine g ?_ | refine s_flat 2 [(.pure, [0, 1, 2, 3, 4, 6, 7, 8]), (.mem true, [5, 9]), (.pure, [10]), (.mem false, [11]), (.pure, [12]), (.mem false, [13])] ?_ | refine s_flat 3 [(.pure, [0, 1, 2, 3, 4, 6, 7, 8]), (.mem true, [5, 9]), (.pure, [10]), (.mem false, [11]), (.pure, [12]), (.mem false, [13])] ?_ | refine s_flat 4 [(.pure, [0, 1, 2, 3, 4, 6, 7, 8]), (.mem true, [5, 9]), (.pure, [10]), (.mem false, [11]), (.pure, [12]), (.mem false, [13])] ?_ | refine s_flat 5 [(.pure, [0, 1, 2, 3, 4, 6, 7, 8]), (.mem true, [5, 9]), (.pure, [10]), (.mem false, [11]), (.pure, [12]), (.mem false, [13])] ?_ | refine s_flat 6 [(.pure, [0, 1, 2, 3, 4, 6, 7, 8]), (.mem true, [5, 9]), (.pure, [10]), (.mem false, [11]), (.pure, [12]), (.mem false, [13])] ?_ | refine s_flat 7 [(.pure, [0, 1, 2, 3, 4, 6, 7, 8]), (.mem true, [5, 9]), (.pure, [10]), (.mem false, [11]), (.pure, [12]), (.mem false, [13])] ?_ | refine s_flat 8 [(.pure, [0, 1, 2, 3, 4, 6, 7, 8]), (.mem true, [5, 9]), (.pure, [10]), (.mem false, [11]), (.pure, [12]), (.mem false, [13])] ?_ | refine s_flat 9 [(.pure, [0, 1, 2, 3, 4, 6, 7, 8]), (.mem true, [5, 9]), (.pure, [10]), (.mem false, [11]), (.pure, [12]), (.mem false, [13])] ?_ | refine gv ?_))
  refine s_call (low_spec' q ((y6.getD c 0 : Nat) + (y6.getD d 0 : Nat) : Int) (y6.getD c 0 + y6.getD d 0) (by push_cast; rfl) (by omega)) ?_
  (repeat (first | refine gr ?_ | refine gv ?_))
  obtain ⟨y7, ey7⟩ : ∃ y7, y7 = y6.set c ((y6.getD c 0 + y6.getD d 0) % 4294967296) := ⟨_, rfl⟩
  rw [← ey7]
  have hy7 : low32 y7 := by rw [ey7]; exact low32_set hy6 _ _ (low32_mod _)
  have ly7 : y7.length = 16 := by rw [ey7, List.length_set]; exact ly6
  have uy8 : y7.getD b 0 < 4294967296 := hy7 b
  have wy8 : y7.getD c 0 < 4294967296 := hy7 c
  (repeat (first | refine g ?_ | refine s_flat 2 [(.pure, [0, 1, 2, 3, 4, 6, 7, 8]), (.mem true, [5, 9]), (.pure, [10]), (.mem false, [11]), (.pure, [12]), (.mem false, [13])] ?_ | refine s_flat 3 [(.pure, [0, 1, 2, 3, 4, 6, 7, 8]), (.mem true, [5, 9]), (.pure, [10]), (.mem false, [11]), (.pure, [12]), (.mem false, [13])] ?_ | refine s_flat 4 [(.pure, [0, 1, 2, 3, 4, 6, 7, 8]), (.mem true, [5, 9]), (.pure, [10]), (.mem false, [11]), (.pure, [12]), (.mem false, [13])] ?_ | refine s_flat 5 [(.pure, [0, 1, 2, 3, 4, 6, 7, 8]), (.mem true, [5, 9]), (.pure, [10]), (.mem false, [11]), (.pure, [12]), (.mem false, [13])] ?_ | refine s_flat 6 [(.pure, [0, 1, 2, 3, 4, 6, 7, 8]), (.mem true, [5, 9]), (.pure, [10]), (.mem false, [11]), (.pure, [12]), (.mem false, [13])] ?_ | refine s_flat 7 [(.pure, [0, 1, 2, 3, 4, 6, 7, 8]), (.mem true, [5, 9]), (.pure, [10]), (.mem false, [11]), (.pure, [12]), (.mem false, [13])] ?_ | refine s_flat 8 [(.pure, [0, 1, 2, 3, 4, 6, 7, 8]), (.mem true, [5, 9]), (.pure, [10]), (.mem false, [11]), (.pure, [12]), (.mem false, [13])] ?_ | refine s_flat 9 [(.pure, [0, 1, 2, 3, 4, 6, 7, 8]), (.mem true, [5, 9]), (.pure, [10]), (.mem false, [11]), (.pure, [12]), (.mem false, [13])] ?_ | refine gv ?_))
  have zy8 : y7.getD b 0 ^^^ y7.getD c 0 < 4294967296 := Nat.xor_lt_two_pow (n := 32) (hy7 b) (hy7 c)
  refine s_call (left_spec q (y7.getD b 0 ^^^ y7.getD c 0) 7 zy8 (by decide)) ?_
  (repeat (first | refine gr ?_ | refine gv ?_))
  obtain ⟨y8, ey8⟩ : ∃ y8, y8 = y7.set b (Spec.rotl (y7.getD b 0 ^^^ y7.getD c 0) 7) := ⟨_, rfl⟩
  rw [← ey8]
  have hy8 : low32 y8 := by rw [ey8]; exact low32_set hy7 _ _ (rotl_lt _ _ zy8)
  have ly8 : y8.length = 16 := by rw [ey8, List.length_set]; exact ly7
  (repeat (first | refine g ?_ | refine s_flat 2 [(.pure, [0, 1, 2, 3, 4, 6, 7, 8]), (.mem true, [5, 9]), (.pure, [10]), (.mem false, [11]), (.pure, [12]), (.mem false, [13])] ?_ | refine s_flat 3 [(.pure, [0, 1, 2, 3, 4, 6, 7, 8]), (.mem true, [5, 9]), (.pure, [10]), (.mem false, [11]), (.pure, [12]), (.mem false, [13])] ?_ | refine s_flat 4 [(.pure, [0, 1, 2, 3, 4, 6, 7, 8]), (.mem true, [5, 9]), (.pure, [10]), (.mem false, [11]), (.pure, [12]), (.mem false, [13])] ?_ | refine s_flat 5 [(.pure, [0, 1, 2, 3, 4, 6, 7, 8]), (.mem true, [5, 9]), (.pure, [10]), (.mem false, [11]), (.pure, [12]), (.mem false, [13])] ?_ | refine s_flat 6 [(.pure, [0, 1, 2, 3, 4, 6, 7, 8]), (.mem true, [5, 9]), (.pure, [10]), (.mem false, [11]), (.pure, [12]), (.mem false, [13])] ?_ | refine s_flat 7 [(.pure, [0, 1, 2, 3, 4, 6, 7, 8]), (.mem true, [5, 9]), (.pure, [10]), (.mem false, [11]), (.pure, [12]), (.mem false, [13])] ?_ | refine s_flat 8 [(.pure, [0, 1, 2, 3, 4, 6, 7, 8]), (.mem true, [5, 9]), (.pure, [10]), (.mem false, [11]), (.pure, [12]), (.mem false, [13])] ?_ | refine s_flat 9 [(.pure, [0, 1, 2, 3, 4, 6, 7, 8]), (.mem true, [5, 9]), (.pure, [10]), (.mem false, [11]), (.pure, [12]), (.mem false, [13])] ?_ | refine gv ?_))
  refine run_ret rfl (imp_RX (y, cy) rfl ?_)
  have e : Spec.qr l a b c d = y8 := by
    rw [ey8, ey7, ey6, ey5, ey4, ey3, ey2, ey1]; rfl
  rw [e]
  exact shut
theorem qr_low (l : List Nat) (hl : low32 l) (a b c d : Nat) : low32 (Spec.qr l a b c d) := by
  have A : ∀ l : List Nat, low32 l → ∀ i j k, low32 (l.set i ((l.getD j 0 + l.getD k 0) % Spec.M32)) := fun l h i j k => low32_set h i _ (Nat.mod_lt _ (by decide))
  have B : ∀ l : List Nat, low32 l → ∀ i j k n, low32 (l.set i (Spec.rotl (l.getD j 0 ^^^ l.getD k 0) n)) := fun l h i j k n => low32_set h i _ (rotl_lt _ n (Nat.xor_lt_two_pow (n := 32) (h j) (h k)))
  exact B _ (A _ (B _ (A _ (B _ (A _ (B _ (A _ hl a a b) d d a 16) c c d) b b c 12) a a b) d d a 8) c c d) b b c 7
theorem qr_len (l : List Nat) (a b c d : Nat) : (Spec.qr l a b c d).length = l.length := by
  unfold Spec.qr; simp only [List.length_set]
end Go.Proofs.Ytajndpddlpnbkaa.V
namespace Go.Proofs.Ytajndpddlpnbkaa.V
open Go.Proofs.Ytajndpddlpnbkaa.VL
attribute [local irreducible] Run
def consts : List Nat := [0x61707865, 0x3320646e, 0x79622d32, 0x6b206574]
def keyWords (key : ByteArray) (i : Nat) : List Nat := consts ++ (List.range i).map fun k => Spec.word (Spec.nats key) (4 * k)
theorem keyWords_length (key : ByteArray) (i : Nat) : (keyWords key i).length = 4 + i := by simp [keyWords, consts]; omega
theorem keyWords_snoc (key : ByteArray) (i : Nat) : keyWords key (i + 1) = keyWords key i ++ [Spec.word (Spec.nats key) (4 * i)] := by simp [keyWords, List.range_succ]
theorem state_eq (key nonce : ByteArray) (n : Nat) (hn : n < 4294967296) : Spec.state key nonce n = keyWords key 8 ++ [n, Spec.word (Spec.nats nonce) 0, Spec.word (Spec.nats nonce) 4, Spec.word (Spec.nats nonce) 8] := by
  unfold Spec.state
  rw [show n % Spec.M32 = n from Nat.mod_eq_of_lt hn]
  simp [keyWords, consts, List.range_succ]
theorem wordN_lt (s : ByteArray) (i : Nat) : Spec.word (Spec.nats s) i < 4294967296 := by
  unfold Spec.word
  have h0 : Spec.at_ (Spec.nats s) i < 256 := word_lt s i
  have h1 : Spec.at_ (Spec.nats s) (i + 1) < 256 := word_lt s (i + 1)
  have h2 : Spec.at_ (Spec.nats s) (i + 2) < 256 := word_lt s (i + 2)
  have h3 : Spec.at_ (Spec.nats s) (i + 3) < 256 := word_lt s (i + 3)
  omega
theorem low32_of {l : List Nat} (h : ∀ x ∈ l, x < 4294967296) : low32 l := fun i => by
  rw [List.getD_eq_getElem?_getD]
  cases hi : l[i]? with
  | none => decide
  | some x => exact h x (List.mem_of_getElem? hi)
theorem state_low (key nonce : ByteArray) (n : Nat) (hn : n < 4294967296) : low32 (Spec.state key nonce n) := low32_of fun x hx => by
  rw [state_eq key nonce n hn] at hx
  have w := wordN_lt
  simp only [keyWords, consts, List.mem_append, List.mem_cons, List.mem_map, List.not_mem_nil, or_false] at hx
  rcases hx with (hx | ⟨k, _, rfl⟩) | hx
  · rcases hx with rfl | rfl | rfl | rfl <;> decide
  · exact w _ _
  · rcases hx with rfl | rfl | rfl | rfl
    · exact hn
    · exact w _ _
    · exact w _ _
    · exact w _ _
theorem state_length (key nonce : ByteArray) (n : Nat) (hn : n < 4294967296) : (Spec.state key nonce n).length = 16 := by
  rw [state_eq key nonce n hn, List.length_append, keyWords_length]; rfl
theorem dround_low (x : List Nat) (h : low32 x) : low32 (Spec.dround x) := by
  unfold Spec.dround
  exact qr_low _ (qr_low _ (qr_low _ (qr_low _ (qr_low _ (qr_low _ (qr_low _ (qr_low _ h _ _ _ _) _ _ _ _) _ _ _ _) _ _ _ _) _ _ _ _) _ _ _ _) _ _ _ _) _ _ _ _
theorem dround_len (x : List Nat) : (Spec.dround x).length = x.length := by
  unfold Spec.dround; simp only [qr_len]
def afterR (S : List Nat) : Nat → List Nat
  | 0 => S
  | i + 1 => Spec.dround (afterR S i)
theorem rounds_after (S : List Nat) (n : Nat) : Spec.rounds n S = afterR S n := by
  have : ∀ n i, Spec.rounds n (afterR S i) = afterR S (i + n) := by
    intro n
    induction n with
    | zero => intro i; rfl
    | succ n ih => intro i; rw [Spec.rounds, show Spec.dround (afterR S i) = afterR S (i + 1) from rfl, ih, show i + 1 + n = i + (n + 1) by omega]
  have h := this n 0
  rwa [Nat.zero_add] at h
theorem afterR_low (S : List Nat) (h : low32 S) (n : Nat) : low32 (afterR S n) := by
  induction n with
  | zero => exact h
  | succ n ih => exact dround_low _ ih
theorem afterR_len (S : List Nat) (n : Nat) : (afterR S n).length = S.length := by
  induction n with
  | zero => rfl
  | succ n ih => rw [afterR, dround_len, ih]
/-- The bytes of the first words. -/
def outB (S : List Nat) (i : Nat) : List UInt8 := (((List.range i).map fun k => ((afterR S 10).getD k 0 + S.getD k 0) % 4294967296).flatMap Spec.wordBytes).map UInt8.ofNat
theorem outB_len (S : List Nat) (i : Nat) : (outB S i).length = 4 * i := by
  unfold outB
  rw [List.length_map]
  induction i with
  | zero => rfl
  | succ i ih => rw [List.range_succ, List.map_append, List.flatMap_append, List.length_append, ih]; rfl
theorem outB_snoc (S : List Nat) (i : Nat) : outB S (i + 1) = outB S i ++ (Spec.wordBytes (((afterR S 10).getD i 0 + S.getD i 0) % 4294967296)).map UInt8.ofNat := by
  unfold outB
  rw [List.range_succ, List.map_append, List.flatMap_append, List.map_append]
  simp
def blockB (key nonce : ByteArray) (n : Nat) : ByteArray := ⟨((Spec.block key nonce n).map UInt8.ofNat).toArray⟩
theorem outB_all (key nonce : ByteArray) (n : Nat) : outB (Spec.state key nonce n) 16 = (Spec.block key nonce n).map UInt8.ofNat := by
  unfold outB Spec.block Spec.outWords
  rw [rounds_after]; rfl
theorem word4 (w : Nat) (hw : w < 4294967296) : [Value.int .u8 ((w : Int) % 256 % 256), .int .u8 ((w : Int) / 256 % 256 % 256), .int .u8 ((w : Int) / 65536 % 256 % 256), .int .u8 ((w : Int) / 16777216 % 256)] = bv ((Spec.wordBytes w).map UInt8.ofNat) := by
  have e : ∀ m : Nat, m < 256 → ((UInt8.ofNat m).toNat : Int) = (m : Int) := fun m hm => by rw [UInt8.toNat_ofNat', Nat.mod_eq_of_lt hm]
  unfold Spec.wordBytes bv
  simp only [List.map_cons, List.map_nil]
  rw [e _ (by omega), e _ (by omega), e _ (by omega), e _ (by omega)]
  rw [show (w : Int) % 256 % 256 = ((w % 256 : Nat) : Int) by omega, show (w : Int) / 256 % 256 % 256 = ((w / 256 % 256 : Nat) : Int) by omega, show (w : Int) / 65536 % 256 % 256 = ((w / 65536 % 256 : Nat) : Int) by omega, show (w : Int) / 16777216 % 256 = ((w / 16777216 % 256 : Nat) : Int) by omega]
set_option maxHeartbeats 2000000 in
theorem refBlock_spec (q : View) (key nonce : ByteArray) (n : Nat) (hk : key.size = 32) (hc : nonce.size = 12) (hn : n < 4294967296) : FnD Try.prog q 78 [.string key, .string nonce, .int .i64 n] [] (.string (blockB key nonce n)) [] := by
  (first | refine FnD.go Try.call78 Try.func78 rfl rfl rfl ?_ | refine FnX.go Try.call78 Try.func78 rfl rfl rfl ?_)
  (repeat (first | refine g ?_ | refine s_flat 23 [(.pure, [0, 1, 2, 4, 5, 6]), (.mem true, [3, 7]), (.pure, [8]), (.mem false, [9]), (.pure, [10])] ?_))
  refine s_built fun r => ?_
  refine run_to_sl (n := 4) (kk := 1) rfl ?_
  refine s_eq (show _ = iv (keyWords key 0) from rfl) ?_
  (repeat (first | refine g ?_ | refine s_flat 23 [(.pure, [0, 1, 2, 4, 5, 6]), (.mem true, [3, 7]), (.pure, [8]), (.mem false, [9]), (.pure, [10])] ?_))
  refine run_loopI (X := Nat × Option Addr × Nat) (fun x => x.1 ≤ 8) (fun x => [(0, .string key), (1, .string nonce), (2, .int .i64 n), (7, .slice x.2.1 (4 + x.1) x.2.2), (8, .int .i64 (x.1 : Int))]) (fun x => [sl x.2.1 (4 + x.1) x.2.2 3 1 (iv (keyWords key x.1))]) (fun x => 8 - x.1) (0, some ⟨r, 0, none⟩, 4) (Nat.zero_le _) fct shut ?_
  intro ⟨i, p, c⟩ hi
  dsimp only at *
  (repeat (first | refine g ?_ | refine s_flat 23 [(.pure, [0, 1, 2, 4, 5, 6]), (.mem true, [3, 7]), (.pure, [8]), (.mem false, [9]), (.pure, [10])] ?_))
  refine run_cond_dec rfl ?_ ?_
  · intro h
    (repeat (first | refine g ?_ | refine s_flat 23 [(.pure, [0, 1, 2, 4, 5, 6]), (.mem true, [3, 7]), (.pure, [8]), (.mem false, [9]), (.pure, [10])] ?_))
    refine s_call (word_spec q key (4 * i) (by omega) (by omega)) ?_
    (repeat (first | refine g ?_ | refine s_flat 23 [(.pure, [0, 1, 2, 4, 5, 6]), (.mem true, [3, 7]), (.pure, [8]), (.mem false, [9]), (.pure, [10])] ?_))
    refine s_built fun r1 => ?_
    refine s_app 1 8 (reads_own At.head rfl) (hxl := by rw [iv_length, keyWords_length, Nat.mul_one]) fun r2 => ?_
    refine s_eq (show iv (keyWords key i) ++ [Value.int .i64 ((Spec.word (Spec.nats key) (4 * i) : Nat) : Int)] = iv (keyWords key (i + 1)) by rw [keyWords_snoc, iv_append]; rfl) ?_
    (repeat (first | refine g ?_ | refine s_flat 23 [(.pure, [0, 1, 2, 4, 5, 6]), (.mem true, [3, 7]), (.pure, [8]), (.mem false, [9]), (.pure, [10])] ?_))
    refine run_stop_loop (i + 1, r2) ?_ fct shut
    exact ⟨by dsimp only; omega, by dsimp only; omega⟩
  · intro h
    obtain rfl : i = 8 := by omega
    (repeat (first | refine g ?_ | refine s_flat 23 [(.pure, [0, 1, 2, 4, 5, 6]), (.mem true, [3, 7]), (.pure, [8]), (.mem false, [9]), (.pure, [10])] ?_))
    refine s_call (word_spec q nonce 0 (by omega) (by omega)) ?_
    (repeat (first | refine g ?_ | refine s_flat 23 [(.pure, [0, 1, 2, 4, 5, 6]), (.mem true, [3, 7]), (.pure, [8]), (.mem false, [9]), (.pure, [10])] ?_))
    refine s_call (word_spec q nonce 4 (by omega) (by omega)) ?_
    (repeat (first | refine g ?_ | refine s_flat 23 [(.pure, [0, 1, 2, 4, 5, 6]), (.mem true, [3, 7]), (.pure, [8]), (.mem false, [9]), (.pure, [10])] ?_))
    refine s_call (word_spec q nonce 8 (by omega) (by omega)) ?_
    (repeat (first | refine g ?_ | refine s_flat 23 [(.pure, [0, 1, 2, 4, 5, 6]), (.mem true, [3, 7]), (.pure, [8]), (.mem false, [9]), (.pure, [10])] ?_))
    refine s_built fun r1 => ?_
    refine s_app 1 8 (reads_own At.head rfl) (hxl := by rw [iv_length, keyWords_length]) fun r2 => ?_
    obtain ⟨S, hS⟩ : ∃ S, S = Spec.state key nonce n := ⟨_, rfl⟩
    have lS : S.length = 16 := by rw [hS]; exact state_length key nonce n hn
    have bS : low32 S := by rw [hS]; exact state_low key nonce n hn
    refine s_eq (show iv (keyWords key 8) ++ [Value.int .i64 (n : Int), .int .i64 ((Spec.word (Spec.nats nonce) 0 : Nat) : Int), .int .i64 ((Spec.word (Spec.nats nonce) 4 : Nat) : Int), .int .i64 ((Spec.word (Spec.nats nonce) 8 : Nat) : Int)] = iv S by rw [hS, state_eq key nonce n hn, iv_append]; rfl) ?_
    obtain ⟨p2, c2⟩ := r2
    dsimp only
    refine s_ptr p2 fun bs ebs _ hcs => ?_
    subst ebs
    (repeat (first | refine g ?_ | refine s_flat 23 [(.pure, [0, 1, 2, 4, 5, 6]), (.mem true, [3, 7]), (.pure, [8]), (.mem false, [9]), (.pure, [10])] ?_))
    refine s_built fun r3 => ?_
    (repeat (first | refine g ?_ | refine s_flat 23 [(.pure, [0, 1, 2, 4, 5, 6]), (.mem true, [3, 7]), (.pure, [8]), (.mem false, [9]), (.pure, [10])] ?_))
    refine run_to_sl (n := 0) (kk := 1) rfl ?_
    refine s_app 1 8 (reads_slice (A := _ :: _ :: sl (some ⟨bs, 0, none⟩) (4 + 8 + 4) c2 3 1 (iv S) :: _) (At.tail (At.tail At.head))) (hxl := rfl) (hnl := by rw [iv_length, lS]) (h1 := by unfold iv; simp [one1]) fun r4 => ?_
    obtain ⟨p4, c4⟩ := r4
    dsimp only
    refine s_ptr p4 fun bx ebx _ hcx => ?_
    subst ebx
    rw [List.nil_append]
    (repeat (first | refine g ?_ | refine s_flat 23 [(.pure, [0, 1, 2, 4, 5, 6]), (.mem true, [3, 7]), (.pure, [8]), (.mem false, [9]), (.pure, [10])] ?_))
    refine run_loopI (X := Nat × Nat × Nat) (fun x => x.1 ≤ 10) (fun x => [(0, .string key), (1, .string nonce), (2, .int .i64 n), (7, .slice (some ⟨bs, 0, none⟩) 16 c2), (9, .slice (some ⟨x.2.1, 0, none⟩) 16 x.2.2), (10, .int .i64 (x.1 : Int))])
      (fun x => [sl (some ⟨x.2.1, 0, none⟩) 16 x.2.2 3 1 (iv (afterR S x.1)), sl (some ⟨bs, 0, none⟩) 16 c2 3 1 (iv S)]) (fun x => 10 - x.1) (0, bx, c4) (Nat.zero_le _) fct shut ?_
    intro ⟨i, b, c⟩ hi
    dsimp only at *
    have l0 : (afterR S i).length = 16 := by rw [afterR_len, lS]
    have h0 := afterR_low S bS i
    (repeat (first | refine g ?_ | refine s_flat 23 [(.pure, [0, 1, 2, 4, 5, 6]), (.mem true, [3, 7]), (.pure, [8]), (.mem false, [9]), (.pure, [10])] ?_))
    refine run_cond_dec rfl ?_ ?_
    · intro h
      obtain ⟨x0, e0⟩ : ∃ x0, x0 = afterR S i := ⟨_, rfl⟩
      rw [← e0] at l0 h0 ⊢
      (repeat (first | refine g ?_ | refine s_flat 23 [(.pure, [0, 1, 2, 4, 5, 6]), (.mem true, [3, 7]), (.pure, [8]), (.mem false, [9]), (.pure, [10])] ?_))
      refine s_callx (quarter_spec q _ _ x0 l0 h0 0 4 8 12 (by decide) (by decide) (by decide) (by decide)) fun r1 => ?_
      obtain ⟨x1, e1⟩ : ∃ x, x = Spec.qr x0 0 4 8 12 := ⟨_, rfl⟩
      rw [← e1]
      have l1 : x1.length = 16 := by rw [e1, qr_len]; exact l0
      have h1 : low32 x1 := by rw [e1]; exact qr_low _ h0 _ _ _ _
      (repeat (first | refine g ?_ | refine s_flat 23 [(.pure, [0, 1, 2, 4, 5, 6]), (.mem true, [3, 7]), (.pure, [8]), (.mem false, [9]), (.pure, [10])] ?_))
      refine s_callx (quarter_spec q _ _ x1 l1 h1 1 5 9 13 (by decide) (by decide) (by decide) (by decide)) fun r2 => ?_
      obtain ⟨x2, e2⟩ : ∃ x, x = Spec.qr x1 1 5 9 13 := ⟨_, rfl⟩
      rw [← e2]
      have l2 : x2.length = 16 := by rw [e2, qr_len]; exact l1
      have h2 : low32 x2 := by rw [e2]; exact qr_low _ h1 _ _ _ _
      (repeat (first | refine g ?_ | refine s_flat 23 [(.pure, [0, 1, 2, 4, 5, 6]), (.mem true, [3, 7]), (.pure, [8]), (.mem false, [9]), (.pure, [10])] ?_))
      refine s_callx (quarter_spec q _ _ x2 l2 h2 2 6 10 14 (by decide) (by decide) (by decide) (by decide)) fun r3 => ?_
      obtain ⟨x3, e3⟩ : ∃ x, x = Spec.qr x2 2 6 10 14 := ⟨_, rfl⟩
      rw [← e3]
      have l3 : x3.length = 16 := by rw [e3, qr_len]; exact l2
      have h3 : low32 x3 := by rw [e3]; exact qr_low _ h2 _ _ _ _
      (repeat (first | refine g ?_ | refine s_flat 23 [(.pure, [0, 1, 2, 4, 5, 6]), (.mem true, [3, 7]), (.pure, [8]), (.mem false, [9]), (.pure, [10])] ?_))
      refine s_callx (quarter_spec q _ _ x3 l3 h3 3 7 11 15 (by decide) (by decide) (by decide) (by decide)) fun r4 => ?_
      obtain ⟨x4, e4⟩ : ∃ x, x = Spec.qr x3 3 7 11 15 := ⟨_, rfl⟩
      rw [← e4]
      have l4 : x4.length = 16 := by rw [e4, qr_len]; exact l3
      have h4 : low32 x4 := by rw [e4]; exact qr_low _ h3 _ _ _ _
      (repeat (first | refine g ?_ | refine s_flat 23 [(.pure, [0, 1, 2, 4, 5, 6]), (.mem true, [3, 7]), (.pure, [8]), (.mem false, [9]), (.pure, [10])] ?_))
      refine s_callx (quarter_spec q _ _ x4 l4 h4 0 5 10 15 (by decide) (by decide) (by decide) (by decide)) fun r5 => ?_
      obtain ⟨x5, e5⟩ : ∃ x, x = Spec.qr x4 0 5 10 15 := ⟨_, rfl⟩
      rw [← e5]
      have l5 : x5.length = 16 := by rw [e5, qr_len]; exact l4
      have h5 : low32 x5 := by rw [e5]; exact qr_low _ h4 _ _ _ _
      (repeat (first | refine g ?_ | refine s_flat 23 [(.pure, [0, 1, 2, 4, 5, 6]), (.mem true, [3, 7]), (.pure, [8]), (.mem false, [9]), (.pure, [10])] ?_))
      refine s_callx (quarter_spec q _ _ x5 l5 h5 1 6 11 12 (by decide) (by decide) (by decide) (by decide)) fun r6 => ?_
      obtain ⟨x6, e6⟩ : ∃ x, x = Spec.qr x5 1 6 11 12 := ⟨_, rfl⟩
      rw [← e6]
      have l6 : x6.length = 16 := by rw [e6, qr_len]; exact l5
      have h6 : low32 x6 := by rw [e6]; exact qr_low _ h5 _ _ _ _
      (repeat (first | refine g ?_ | refine s_flat 23 [(.pure, [0, 1, 2, 4, 5, 6]), (.mem true, [3, 7]), (.pure, [8]), (.mem false, [9]), (.pure, [10])] ?_))
      refine s_callx (quarter_spec q _ _ x6 l6 h6 2 7 8 13 (by decide) (by decide) (by decide) (by decide)) fun r7 => ?_
      obtain ⟨x7, e7⟩ : ∃ x, x = Spec.qr x6 2 7 8 13 := ⟨_, rfl⟩
      rw [← e7]
      have l7 : x7.length = 16 := by rw [e7, qr_len]; exact l6
      have h7 : low32 x7 := by rw [e7]; exact qr_low _ h6 _ _ _ _
      (repeat (first | refine g ?_ | refine s_flat 23 [(.pure, [0, 1, 2, 4, 5, 6]), (.mem true, [3, 7]), (.pure, [8]), (.mem false, [9]), (.pure, [10])] ?_))
      refine s_callx (quarter_spec q _ _ x7 l7 h7 3 4 9 14 (by decide) (by decide) (by decide) (by decide)) fun r8 => ?_
      obtain ⟨x8, e8⟩ : ∃ x, x = Spec.qr x7 3 4 9 14 := ⟨_, rfl⟩
      rw [← e8]
      have l8 : x8.length = 16 := by rw [e8, qr_len]; exact l7
      have h8 : low32 x8 := by rw [e8]; exact qr_low _ h7 _ _ _ _
      (repeat (first | refine g ?_ | refine s_flat 23 [(.pure, [0, 1, 2, 4, 5, 6]), (.mem true, [3, 7]), (.pure, [8]), (.mem false, [9]), (.pure, [10])] ?_))
      have ed : x8 = afterR S (i + 1) := by rw [e8, e7, e6, e5, e4, e3, e2, e1, e0]; rfl
      rw [ed]
      refine run_stop_loop (i + 1, r8) ?_ fct shut
      exact ⟨by dsimp only; omega, by dsimp only; omega⟩
    · intro h
      obtain rfl : i = 10 := by omega
      (repeat (first | refine g ?_ | refine s_flat 23 [(.pure, [0, 1, 2, 4, 5, 6]), (.mem true, [3, 7]), (.pure, [8]), (.mem false, [9]), (.pure, [10])] ?_))
      refine run_loopI (X := Nat × Option Addr × Nat) (fun x => x.1 ≤ 16) (fun x => [(7, .slice (some ⟨bs, 0, none⟩) 16 c2), (9, .slice (some ⟨b, 0, none⟩) 16 c), (11, .slice x.2.1 (4 * x.1) x.2.2), (12, .int .i64 (x.1 : Int))])
        (fun x => [sl x.2.1 (4 * x.1) x.2.2 5 1 (bv (outB S x.1)), sl (some ⟨b, 0, none⟩) 16 c 3 1 (iv (afterR S 10)), sl (some ⟨bs, 0, none⟩) 16 c2 3 1 (iv S)]) (fun x => 16 - x.1) (0, none, 0) (Nat.zero_le _) fct shut ?_
      intro ⟨j, p5, c5⟩ hj
      dsimp only at *
      (repeat (first | refine g ?_ | refine s_flat 23 [(.pure, [0, 1, 2, 4, 5, 6]), (.mem true, [3, 7]), (.pure, [8]), (.mem false, [9]), (.pure, [10])] ?_))
      refine run_cond_dec rfl ?_ ?_
      · intro h2
        have u1 : (afterR S 10).getD j 0 < 4294967296 := h0 j
        have u2 : S.getD j 0 < 4294967296 := bS j
        (repeat (first | refine g ?_ | refine s_flat 23 [(.pure, [0, 1, 2, 4, 5, 6]), (.mem true, [3, 7]), (.pure, [8]), (.mem false, [9]), (.pure, [10])] ?_ | refine gv ?_))
        refine s_call (low_spec' q (((afterR S 10).getD j 0 : Nat) + (S.getD j 0 : Nat) : Int) ((afterR S 10).getD j 0 + S.getD j 0) (by push_cast; rfl) (by omega)) ?_
        have wl : ((afterR S 10).getD j 0 + S.getD j 0) % 4294967296 < 4294967296 := Nat.mod_lt _ (by decide)
        obtain ⟨w, ew⟩ : ∃ w, w = ((afterR S 10).getD j 0 + S.getD j 0) % 4294967296 := ⟨_, rfl⟩
        rw [← ew] at wl ⊢
        (repeat (first | refine g ?_ | refine s_flat 23 [(.pure, [0, 1, 2, 4, 5, 6]), (.mem true, [3, 7]), (.pure, [8]), (.mem false, [9]), (.pure, [10])] ?_))
        refine s_built fun r6 => ?_
        (repeat (first | refine g ?_ | refine s_flat 23 [(.pure, [0, 1, 2, 4, 5, 6]), (.mem true, [3, 7]), (.pure, [8]), (.mem false, [9]), (.pure, [10])] ?_))
        refine s_app 1 1 (reads_own At.head rfl) (hxl := by rw [bv_length, outB_len, Nat.mul_one]) fun r7 => ?_
        refine s_eq (show bv (outB S j) ++ [Value.int .u8 ((w : Int) % 256 % 256), .int .u8 ((w : Int) / 256 % 256 % 256), .int .u8 ((w : Int) / 65536 % 256 % 256), .int .u8 ((w : Int) / 16777216 % 256)] = bv (outB S (j + 1)) by rw [word4 w wl, outB_snoc, bv_append, ← ew]) ?_
        (repeat (first | refine g ?_ | refine s_flat 23 [(.pure, [0, 1, 2, 4, 5, 6]), (.mem true, [3, 7]), (.pure, [8]), (.mem false, [9]), (.pure, [10])] ?_))
        refine run_stop_loop (j + 1, r7) ?_ fct shut
        exact ⟨by dsimp only; omega, by dsimp only; omega⟩
      · intro h2
        obtain rfl : j = 16 := by omega
        (repeat (first | refine g ?_ | refine s_flat 23 [(.pure, [0, 1, 2, 4, 5, 6]), (.mem true, [3, 7]), (.pure, [8]), (.mem false, [9]), (.pure, [10])] ?_))
        refine s_string ?_
        (repeat (first | refine g ?_ | refine s_flat 23 [(.pure, [0, 1, 2, 4, 5, 6]), (.mem true, [3, 7]), (.pure, [8]), (.mem false, [9]), (.pure, [10])] ?_))
        refine run_ret rfl (imp_RD ?_ shut)
        rw [hS, outB_all]; rfl
end Go.Proofs.Ytajndpddlpnbkaa.V
namespace Go.Proofs.Ytajndpddlpnbkaa.V
open Go.Proofs.Ytajndpddlpnbkaa.VL Go.Proofs.Ytajndpddlpnbkaa.VL.RD
attribute [local irreducible] Run
def strL (key nonce : ByteArray) (n : Nat) (s : ByteArray) (i : Nat) : List UInt8 := (List.range i).map fun j => UInt8.ofNat (Spec.byteAt s j ^^^ Spec.at_ (Spec.block key nonce (n + j / 64)) (j % 64))
theorem strL_len (key nonce : ByteArray) (n : Nat) (s : ByteArray) (i : Nat) : (strL key nonce n s i).length = i := by simp [strL]
theorem strL_snoc (key nonce : ByteArray) (n : Nat) (s : ByteArray) (i : Nat) : strL key nonce n s (i + 1) = strL key nonce n s i ++ [UInt8.ofNat (Spec.byteAt s i ^^^ Spec.at_ (Spec.block key nonce (n + i / 64)) (i % 64))] := by simp [strL, List.range_succ]
theorem blockB_len (key nonce : ByteArray) (n : Nat) : (Spec.block key nonce n).length = 64 := by
  have := outB_len (Spec.state key nonce n) 16
  rw [outB_all, List.length_map] at this; exact this
theorem blockB_size (key nonce : ByteArray) (n : Nat) : (blockB key nonce n).size = 64 := by
  show ((Spec.block key nonce n).map UInt8.ofNat).toArray.size = 64
  rw [List.size_toArray, List.length_map, blockB_len]
theorem block_lt (key nonce : ByteArray) (n : Nat) : ∀ x ∈ Spec.block key nonce n, x < 256 := by
  intro x hx
  unfold Spec.block Spec.wordBytes at hx
  simp only [List.mem_flatMap, List.mem_cons, List.not_mem_nil, or_false] at hx
  obtain ⟨w, _, hx⟩ := hx
  omega
theorem bAt_block (key nonce : ByteArray) (n j : Nat) (hj : j < 64) : bAt (blockB key nonce n) j = (Spec.at_ (Spec.block key nonce n) j : Int) := by
  unfold bAt blockB Spec.at_
  rw [List.getD_eq_getElem?_getD, List.getD_eq_getElem?_getD, List.getElem?_map]
  have hl := blockB_len key nonce n
  rw [List.getElem?_eq_getElem (by rw [hl]; exact hj)]
  simp only [Option.map_some, Option.getD_some]
  rw [UInt8.toNat_ofNat', Nat.mod_eq_of_lt (block_lt key nonce n _ (List.getElem_mem _))]
theorem at_block_lt (key nonce : ByteArray) (n j : Nat) : Spec.at_ (Spec.block key nonce n) j < 256 := by
  unfold Spec.at_
  rw [List.getD_eq_getElem?_getD]
  cases h : (Spec.block key nonce n)[j]? with
  | none => decide
  | some x => exact block_lt key nonce n x (List.mem_of_getElem? h)
theorem refStream_ok (q : View) (key nonce : ByteArray) (n : Nat) (s : ByteArray) (hk : key.size = 32) (hc : nonce.size = 12) (hs : s.size ≤ 140737488351232) (hn : n < 4294967296) (hf : (s.size + 63) / 64 + n ≤ 4294967296) :
    FnD Try.prog q 64 [.string key, .string nonce, .int .i64 n, .string s] [] (.tuple #[.string (Spec.streamed key nonce n s), .int .i64 0]) [] := by
  (first | refine FnD.go Try.call64 Try.func64 rfl rfl rfl ?_ | refine FnX.go Try.call64 Try.func64 rfl rfl rfl ?_)
  (repeat (first | refine g ?_ | refine s_flat 12 [(.pure, [0, 1, 2, 3, 4, 5, 6, 7, 8]), (.mem false, [9, 10]), (.pure, [11])] ?_))
  refine run_loopI (X := Nat × Option Addr × Nat × ByteArray) (fun x => x.1 ≤ s.size ∧ (x.1 % 64 ≠ 0 → x.2.2.2 = blockB key nonce (n + x.1 / 64))) (fun x => [(0, .string key), (1, .string nonce), (2, .int .i64 n), (3, .string s), (10, .slice x.2.1 x.1 x.2.2.1), (11, .string x.2.2.2), (12, .int .i64 (x.1 : Int))])
    (fun x => [sl x.2.1 x.1 x.2.2.1 5 1 (bv (strL key nonce n s x.1))]) (fun x => s.size - x.1) (0, none, 0, ⟨#[]⟩) ⟨Nat.zero_le _, fun h => absurd rfl h⟩ fct shut ?_
  intro ⟨i, p, c, kb⟩ ⟨hi, hkb⟩
  dsimp only at *
  (repeat (first | refine g ?_ | refine s_flat 12 [(.pure, [0, 1, 2, 3, 4, 5, 6, 7, 8]), (.mem false, [9, 10]), (.pure, [11])] ?_))
  refine run_cond_dec rfl ?_ ?_
  · intro h
    (repeat (first | refine g ?_ | refine s_flat 12 [(.pure, [0, 1, 2, 3, 4, 5, 6, 7, 8]), (.mem false, [9, 10]), (.pure, [11])] ?_))
    refine run_cut (X := Unit) (fun _ => [(0, .string key), (1, .string nonce), (2, .int .i64 n), (3, .string s), (10, .slice p i c), (11, .string (blockB key nonce (n + i / 64))), (12, .int .i64 (i : Int))]) (fun _ => [sl p i c 5 1 (bv (strL key nonce n s i))]) ?_ fun _ => ?_
    · refine run_cond_dec rfl ?_ ?_
      · intro h2
        (repeat (first | refine g ?_ | refine s_flat 12 [(.pure, [0, 1, 2, 3, 4, 5, 6, 7, 8]), (.mem false, [9, 10]), (.pure, [11])] ?_))
        have cb := refBlock_spec q key nonce (n + i / 64) hk hc (by omega)
        rw [show ((n + i / 64 : Nat) : Int) = (n : Int) + (i : Int) / 64 by omega] at cb
        refine s_call cb ?_
        (repeat (first | refine g ?_ | refine s_flat 12 [(.pure, [0, 1, 2, 3, 4, 5, 6, 7, 8]), (.mem false, [9, 10]), (.pure, [11])] ?_))
        exact run_stop_loop () trivial fct shut
      · intro h2
        rw [hkb (by omega)]
        (repeat (first | refine g ?_ | refine s_flat 12 [(.pure, [0, 1, 2, 3, 4, 5, 6, 7, 8]), (.mem false, [9, 10]), (.pure, [11])] ?_))
        exact run_stop_loop () trivial fct shut
    have hz := blockB_size key nonce (n + i / 64)
    have b1 := bAt_lt s (i : Int).toNat
    have b2 := bAt_lt (blockB key nonce (n + i / 64)) ((i : Int) % 64).toNat
    (repeat (first | refine g ?_ | refine s_flat 12 [(.pure, [0, 1, 2, 3, 4, 5, 6, 7, 8]), (.mem false, [9, 10]), (.pure, [11])] ?_))
    refine s_built fun r1 => ?_
    (repeat (first | refine g ?_ | refine s_flat 12 [(.pure, [0, 1, 2, 3, 4, 5, 6, 7, 8]), (.mem false, [9, 10]), (.pure, [11])] ?_))
    refine s_app 1 1 (reads_own At.head rfl) (hxl := by rw [bv_length, strL_len, Nat.mul_one]) fun r2 => ?_
    have e : bv (strL key nonce n s i) ++ [Value.int .u8 (((bAt s (i : Int).toNat).toNat ^^^ (bAt (blockB key nonce (n + i / 64)) ((i : Int) % 64).toNat).toNat : Nat) : Int)] = bv (strL key nonce n s (i + 1)) := by
      rw [strL_snoc, bv_append, Int.toNat_natCast, bAt_byteAt, show ((i : Int) % 64).toNat = i % 64 by omega, bAt_block _ _ _ _ (Nat.mod_lt _ (by decide)), Int.toNat_natCast, Int.toNat_natCast]
      have : Spec.byteAt s i ^^^ Spec.at_ (Spec.block key nonce (n + i / 64)) (i % 64) < 256 := Nat.xor_lt_two_pow (n := 8) (word_lt s i) (at_block_lt _ _ _ _)
      unfold bv
      simp only [List.map_cons, List.map_nil]
      rw [UInt8.toNat_ofNat', Nat.mod_eq_of_lt this]
    refine s_eq e ?_
    (repeat (first | refine g ?_ | refine s_flat 12 [(.pure, [0, 1, 2, 3, 4, 5, 6, 7, 8]), (.mem false, [9, 10]), (.pure, [11])] ?_))
    refine run_stop_loop (i + 1, r2.1, r2.2, blockB key nonce (n + i / 64)) ?_ fct shut
    exact ⟨⟨by dsimp only; omega, fun h9 => by dsimp only at *; rw [show (i + 1) / 64 = i / 64 by omega]⟩, by dsimp only; omega⟩
  · intro h
    obtain rfl : i = s.size := by omega
    (repeat (first | refine g ?_ | refine s_flat 12 [(.pure, [0, 1, 2, 3, 4, 5, 6, 7, 8]), (.mem false, [9, 10]), (.pure, [11])] ?_))
    refine s_string ?_
    (repeat (first | refine g ?_ | refine s_flat 12 [(.pure, [0, 1, 2, 3, 4, 5, 6, 7, 8]), (.mem false, [9, 10]), (.pure, [11])] ?_))
    exact run_ret rfl (imp_RD rfl shut)
theorem refStream_all (q : View) (key nonce : ByteArray) (n : Int) (s : ByteArray) (hs : s.size ≤ 140737488351232) (n1 : -9223372036854775808 ≤ n) (n2 : n ≤ 9223372036854775807) :
    FnD Try.prog q 64 [.string key, .string nonce, .int .i64 n, .string s] [] (.tuple #[.string (Spec.streamF key nonce n s).1, .int .i64 (Spec.streamF key nonce n s).2]) [] := by
  unfold Spec.streamF
  by_cases hk : key.size = 32 ∧ nonce.size = 12
  · rw [if_pos hk]
    obtain ⟨h32, h12⟩ := hk
    by_cases hn : 0 ≤ n ∧ n < 4294967296 ∧ ((s.size : Int) + 63) / 64 ≤ 4294967296 - n
    · rw [if_pos hn]
      obtain ⟨m, rfl⟩ : ∃ m : Nat, n = m := ⟨n.toNat, by omega⟩
      exact refStream_ok q key nonce m s h32 h12 hs (by omega) (by omega)
    · rw [if_neg hn]
      (first | refine FnD.go Try.call64 Try.func64 rfl rfl rfl ?_ | refine FnX.go Try.call64 Try.func64 rfl rfl rfl ?_)
      (repeat (first | refine g ?_ | refine s_flat 12 [(.pure, [0, 1, 2, 3, 4, 5, 6, 7, 8]), (.mem false, [9, 10]), (.pure, [11])] ?_))
      by_cases c1 : n < 0
      · (repeat (first | refine g ?_ | refine s_flat 12 [(.pure, [0, 1, 2, 3, 4, 5, 6, 7, 8]), (.mem false, [9, 10]), (.pure, [11])] ?_))
        exact run_ret rfl (imp_RD rfl shut)
      · by_cases c2 : 4294967295 < n
        · (repeat (first | refine g ?_ | refine s_flat 12 [(.pure, [0, 1, 2, 3, 4, 5, 6, 7, 8]), (.mem false, [9, 10]), (.pure, [11])] ?_))
          exact run_ret rfl (imp_RD rfl shut)
        · (repeat (first | refine g ?_ | refine s_flat 12 [(.pure, [0, 1, 2, 3, 4, 5, 6, 7, 8]), (.mem false, [9, 10]), (.pure, [11])] ?_))
          exact run_ret rfl (imp_RD rfl shut)
  · rw [if_neg hk]
    (first | refine FnD.go Try.call64 Try.func64 rfl rfl rfl ?_ | refine FnX.go Try.call64 Try.func64 rfl rfl rfl ?_)
    by_cases h32 : key.size = 32
    · have h12 : ¬ nonce.size = 12 := fun h => hk ⟨h32, h⟩
      (repeat (first | refine g ?_ | refine s_flat 12 [(.pure, [0, 1, 2, 3, 4, 5, 6, 7, 8]), (.mem false, [9, 10]), (.pure, [11])] ?_))
      exact run_ret rfl (imp_RD rfl shut)
    · (repeat (first | refine g ?_ | refine s_flat 12 [(.pure, [0, 1, 2, 3, 4, 5, 6, 7, 8]), (.mem false, [9, 10]), (.pure, [11])] ?_))
      exact run_ret rfl (imp_RD rfl shut)
end Go.Proofs.Ytajndpddlpnbkaa.V
namespace Go.Proofs.Ytajndpddlpnbkaa.V
open Go.Proofs.Ytajndpddlpnbkaa.VL Go.Proofs.Ytajndpddlpnbkaa.VL.RD
attribute [local irreducible] Run
theorem long_spec (q : View) (n : Nat) (hn : n < 9223372036854775808) : FnD Try.prog q 81 [.int .i64 n] [] (.string ⟨(Spec.leB n 8).toArray⟩) [] := by
  (first | refine FnD.go Try.call81 Try.func81 rfl rfl rfl ?_ | refine FnX.go Try.call81 Try.func81 rfl rfl rfl ?_)
  (repeat (first | refine g ?_))
  refine run_loopI (X := Nat × Option Addr × Nat) (fun x => x.1 ≤ 8) (fun x => [(0, .int .i64 ((n / 256 ^ x.1 : Nat) : Int)), (3, .slice x.2.1 x.1 x.2.2), (4, .int .i64 (x.1 : Int))]) (fun x => [sl x.2.1 x.1 x.2.2 5 1 (bv (bytesOf n x.1))]) (fun x => 8 - x.1) (0, none, 0) (Nat.zero_le _)
    (by dsimp only; rw [Nat.pow_zero, Nat.div_one]; exact fct) shut ?_
  intro ⟨i, p, c⟩ hi
  dsimp only at *
  have hle : n / 256 ^ i ≤ n := Nat.div_le_self _ _
  obtain ⟨m, hm⟩ : ∃ m, m = n / 256 ^ i := ⟨_, rfl⟩
  rw [← hm] at hle ⊢
  (repeat (first | refine g ?_))
  refine run_cond_dec rfl ?_ ?_
  · intro h
    (repeat (first | refine g ?_))
    refine s_built fun r1 => ?_
    (repeat (first | refine g ?_))
    refine s_app 1 1 (reads_own At.head rfl) (hxl := by rw [bv_length, bytesOf_length, Nat.mul_one]) fun r2 => ?_
    have e : bv (bytesOf n i) ++ [Value.int .u8 ((m : Int) % 256 % 256)] = bv (bytesOf n (i + 1)) := by
      rw [bytesOf_snoc, bv_append, ← hm, show (m : Int) % 256 % 256 = ((UInt8.ofNat (m % 256)).toNat : Int) by rw [UInt8.toNat_ofNat', Nat.mod_eq_of_lt (Nat.mod_lt _ (by decide))]; omega]; rfl
    refine s_eq e ?_
    (repeat (first | refine g ?_))
    have e2 : (m : Int) / 256 = ((n / 256 ^ (i + 1) : Nat) : Int) := by
      rw [Nat.pow_succ, ← Nat.div_div_eq_div_mul, ← hm]; omega
    refine run_stop_loop (i + 1, r2) ?_ fct shut
    exact ⟨by dsimp only; omega, by dsimp only; omega⟩
  · intro h
    obtain rfl : i = 8 := by omega
    (repeat (first | refine g ?_))
    refine s_string ?_
    (repeat (first | refine g ?_))
    refine run_ret rfl (imp_RD ?_ shut)
    rw [bytesOf_leB n 8 _ rfl, Nat.mod_eq_of_lt (Nat.lt_of_lt_of_le hn (by decide))]
/-- A text with bytes 0 behind. -/
def padz (s : ByteArray) (k : Nat) : ByteArray := ⟨(s.data.toList ++ Spec.zeros k).toArray⟩
theorem padz_size (s : ByteArray) (k : Nat) : (padz s k).size = s.size + k := by
  show (s.data.toList ++ Spec.zeros k).toArray.size = _
  rw [List.size_toArray, List.length_append, Array.length_toList]; unfold Spec.zeros; rw [List.length_replicate]; rfl
theorem ba_ext {a b : ByteArray} (h : a.data.toList = b.data.toList) : a = b := by
  cases a; cases b; congr; exact Array.toList_inj.1 h
theorem padz_zero (s : ByteArray) : padz s 0 = s := ba_ext (by simp [padz, Spec.zeros])
theorem padz_succ (s : ByteArray) (k : Nat) : padz s k ++ (⟨#[0]⟩ : ByteArray) = padz s (k + 1) := ba_ext (by
  rw [ByteArray.data_append, Array.toList_append]
  show (s.data.toList ++ Spec.zeros k) ++ [0] = s.data.toList ++ Spec.zeros (k + 1)
  unfold Spec.zeros
  rw [List.replicate_succ', List.append_assoc])
theorem even_spec (q : View) (s : ByteArray) (hs : s.size ≤ 140737488351232) : FnD Try.prog q 80 [.string s] [] (.string (padz s ((16 - s.size % 16) % 16))) [] := by
  (first | refine FnD.go Try.call80 Try.func80 rfl rfl rfl ?_ | refine FnX.go Try.call80 Try.func80 rfl rfl rfl ?_)
  (repeat (first | refine g ?_))
  refine run_loopI (X := Nat) (fun k => k ≤ (16 - s.size % 16) % 16) (fun k => [(0, .string (padz s k))]) (fun k => []) (fun k => 16 - k) 0 (Nat.zero_le _) (by rw [padz_zero]; exact fct) shut ?_
  intro k hk
  have hz := padz_size s k
  have h1 : (⟨#[0]⟩ : ByteArray).size = 1 := rfl
  (repeat (first | refine g ?_))
  refine run_cond_dec rfl ?_ ?_
  · intro h
    (repeat (first | refine g ?_))
    rw [padz_succ]
    refine run_stop_loop (k + 1) ?_ fct shut
    omega
  · intro h
    have h := Decidable.not_not.1 h
    obtain rfl : k = (16 - s.size % 16) % 16 := by omega
    (repeat (first | refine g ?_))
    exact run_ret rfl (imp_RD rfl shut)
theorem framed_eq (ad s : ByteArray) : padz ad ((16 - ad.size % 16) % 16) ++ padz s ((16 - s.size % 16) % 16) ++ (⟨(Spec.leB ad.size 8).toArray⟩ : ByteArray) ++ (⟨(Spec.leB s.size 8).toArray⟩ : ByteArray) = Spec.framed ad s := ba_ext (by
  simp only [ByteArray.data_append, Array.toList_append]
  unfold Spec.framed padz
  simp)
theorem leB_size (n k : Nat) : (⟨(Spec.leB n k).toArray⟩ : ByteArray).size = k := by
  show (Spec.leB n k).toArray.size = k
  rw [List.size_toArray, leB_length]
theorem key0_eq (key nonce : ByteArray) : (blockB key nonce 0).extract 0 32 = Spec.key0 key nonce := ba_ext (by
  rw [str_extract _ _ _ (by rw [blockB_size]; decide)]
  unfold blockB Spec.key0
  simp [List.map_take])
theorem key0_size (key nonce : ByteArray) : (Spec.key0 key nonce).size = 32 := by
  rw [← key0_eq, ByteArray.size_extract, blockB_size]; rfl
theorem polyTag_len (key s : ByteArray) : (Spec.polyTag key s).size = 16 := leB_size _ 16
theorem taggedF_len (key nonce ad s : ByteArray) : (Spec.taggedF key nonce ad s).size = 16 := polyTag_len _ _
theorem mark_spec (q : View) (key nonce ad c : ByteArray) (hk : key.size = 32) (hc : nonce.size = 12) (h1 : ad.size ≤ 35184372088832) (h2 : c.size ≤ 35184372088832) : FnD Try.prog q 65 [.string key, .string nonce, .string ad, .string c] [] (.string (Spec.taggedF key nonce ad c)) [] := by
  have z1 := padz_size ad ((16 - ad.size % 16) % 16)
  have z2 := padz_size c ((16 - c.size % 16) % 16)
  have z3 := leB_size ad.size 8
  have z4 := leB_size c.size 8
  have z5 := blockB_size key nonce 0
  have z12 := ByteArray.size_append (a := padz ad ((16 - ad.size % 16) % 16)) (b := padz c ((16 - c.size % 16) % 16))
  have z123 := ByteArray.size_append (a := padz ad ((16 - ad.size % 16) % 16) ++ padz c ((16 - c.size % 16) % 16)) (b := (⟨(Spec.leB ad.size 8).toArray⟩ : ByteArray))
  have hf : (Spec.framed ad c).size ≤ 140737488351232 := by rw [← framed_eq, ByteArray.size_append]; omega
  (first | refine FnD.go Try.call65 Try.func65 rfl rfl rfl ?_ | refine FnX.go Try.call65 Try.func65 rfl rfl rfl ?_)
  (repeat (first | refine g ?_ | refine s_flat 1 [(.pure, [0, 1, 4, 6, 9, 10, 13, 14]), (.mem false, [2]), (.pure, [3]), (.mem false, [5, 7]), (.pure, [8]), (.mem false, [11]), (.pure, [12]), (.mem false, [15]), (.pure, [16]), (.mem false, [17]), (.pure, [18, 19, 20, 21, 22])] ?_))
  refine s_call (refBlock_spec q key nonce 0 hk hc (by decide)) ?_
  (repeat (first | refine g ?_ | refine s_flat 1 [(.pure, [0, 1, 4, 6, 9, 10, 13, 14]), (.mem false, [2]), (.pure, [3]), (.mem false, [5, 7]), (.pure, [8]), (.mem false, [11]), (.pure, [12]), (.mem false, [15]), (.pure, [16]), (.mem false, [17]), (.pure, [18, 19, 20, 21, 22])] ?_))
  refine s_call (even_spec q ad (by omega)) ?_
  (repeat (first | refine g ?_ | refine s_flat 1 [(.pure, [0, 1, 4, 6, 9, 10, 13, 14]), (.mem false, [2]), (.pure, [3]), (.mem false, [5, 7]), (.pure, [8]), (.mem false, [11]), (.pure, [12]), (.mem false, [15]), (.pure, [16]), (.mem false, [17]), (.pure, [18, 19, 20, 21, 22])] ?_))
  refine s_call (even_spec q c (by omega)) ?_
  (repeat (first | refine g ?_ | refine s_flat 1 [(.pure, [0, 1, 4, 6, 9, 10, 13, 14]), (.mem false, [2]), (.pure, [3]), (.mem false, [5, 7]), (.pure, [8]), (.mem false, [11]), (.pure, [12]), (.mem false, [15]), (.pure, [16]), (.mem false, [17]), (.pure, [18, 19, 20, 21, 22])] ?_))
  refine s_call (long_spec q ad.size (by omega)) ?_
  (repeat (first | refine g ?_ | refine s_flat 1 [(.pure, [0, 1, 4, 6, 9, 10, 13, 14]), (.mem false, [2]), (.pure, [3]), (.mem false, [5, 7]), (.pure, [8]), (.mem false, [11]), (.pure, [12]), (.mem false, [15]), (.pure, [16]), (.mem false, [17]), (.pure, [18, 19, 20, 21, 22])] ?_))
  refine s_call (long_spec q c.size (by omega)) ?_
  (repeat (first | refine g ?_ | refine s_flat 1 [(.pure, [0, 1, 4, 6, 9, 10, 13, 14]), (.mem false, [2]), (.pure, [3]), (.mem false, [5, 7]), (.pure, [8]), (.mem false, [11]), (.pure, [12]), (.mem false, [15]), (.pure, [16]), (.mem false, [17]), (.pure, [18, 19, 20, 21, 22])] ?_))
  rw [framed_eq, show (0 : Int).toNat = 0 from rfl, show (32 : Int).toNat = 32 from rfl, key0_eq]
  refine s_call (refTag_spec q (Spec.key0 key nonce) (Spec.framed ad c) (key0_size _ _) hf) ?_
  (repeat (first | refine g ?_ | refine s_flat 1 [(.pure, [0, 1, 4, 6, 9, 10, 13, 14]), (.mem false, [2]), (.pure, [3]), (.mem false, [5, 7]), (.pure, [8]), (.mem false, [11]), (.pure, [12]), (.mem false, [15]), (.pure, [16]), (.mem false, [17]), (.pure, [18, 19, 20, 21, 22])] ?_))
  exact run_ret rfl (imp_RD rfl shut)
theorem streamed_len (key nonce : ByteArray) (n : Nat) (s : ByteArray) : (Spec.streamed key nonce n s).size = s.size := by
  show ((List.range s.size).map _).toArray.size = _
  rw [List.size_toArray, List.length_map, List.length_range]
attribute [local irreducible] Spec.taggedF Spec.streamed Spec.polyTag
/-- What is sealed: the document's answer. -/
def sealB (key nonce ad s : ByteArray) : ByteArray × Int :=
  if key.size = 32 ∧ nonce.size = 12 then (Spec.streamed key nonce 1 s ++ Spec.taggedF key nonce ad (Spec.streamed key nonce 1 s), 0) else (⟨#[]⟩, 1)
theorem refSeal_spec (q : View) (key nonce ad s : ByteArray) (h1 : ad.size ≤ 35184372088832) (h2 : s.size ≤ 137438953472) : FnD Try.prog q 48 [.string key, .string nonce, .string ad, .string s] [] (.tuple #[.string (sealB key nonce ad s).1, .int .i64 (sealB key nonce ad s).2]) [] := by
  unfold sealB
  have c := refStream_all q key nonce 1 s (by omega) (by decide) (by decide)
  unfold Spec.streamF at c
  by_cases hk : key.size = 32 ∧ nonce.size = 12
  · rw [if_pos hk, if_pos (by omega)] at c
    dsimp only at c
    rw [show (1 : Int).toNat = 1 from rfl] at c
    rw [if_pos hk]
    have zs := streamed_len key nonce 1 s
    have zt := taggedF_len key nonce ad (Spec.streamed key nonce 1 s)
    (first | refine FnD.go Try.call48 Try.func48 rfl rfl rfl ?_ | refine FnX.go Try.call48 Try.func48 rfl rfl rfl ?_)
    (repeat (first | refine g ?_))
    refine s_call c ?_
    (repeat (first | refine g ?_))
    refine s_call (mark_spec q key nonce ad (Spec.streamed key nonce 1 s) hk.1 hk.2 h1 (by omega)) ?_
    (repeat (first | refine g ?_))
    exact run_ret rfl (imp_RD rfl shut)
  · rw [if_neg hk] at c
    dsimp only at c
    rw [if_neg hk]
    (first | refine FnD.go Try.call48 Try.func48 rfl rfl rfl ?_ | refine FnX.go Try.call48 Try.func48 rfl rfl rfl ?_)
    (repeat (first | refine g ?_))
    refine s_call c ?_
    (repeat (first | refine g ?_))
    refine run_ret rfl (imp_RD ?_ shut)
    rfl
def openB (key nonce ad s : ByteArray) : ByteArray × Int :=
  if key.size = 32 ∧ nonce.size = 12 then
    if s.size < 16 then (⟨#[]⟩, 3) else
    if Spec.taggedF key nonce ad (s.extract 0 (s.size - 16)) = s.extract (s.size - 16) s.size then (Spec.streamed key nonce 1 (s.extract 0 (s.size - 16)), 0) else (⟨#[]⟩, 10)
  else (⟨#[]⟩, 1)
end Go.Proofs.Ytajndpddlpnbkaa.V
