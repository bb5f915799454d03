/- The reference's numbers of digits: digits, less, prime. -/
import Derived.Test.YtajjbgkbceobmaaVA
import Derived.Test.YtajjbgkbceobmaaRD
set_option maxRecDepth 10000
set_option linter.unusedVariables false
namespace Go.Proofs.Ytajjbgkbceobmaa.V
open Go.Proofs.Ytajjbgkbceobmaa.VL Go.Proofs.Ytajjbgkbceobmaa.VL.RD
attribute [local irreducible] Run
def leU (l : List UInt8) : Nat := match l with | [] => 0 | b :: l => b.toNat + 256 * leU l
theorem leU_bit (l : List UInt8) (k : Nat) : leU l / 2 ^ k % 2 = (l.getD (k / 8) 0).toNat / 2 ^ (k % 8) % 2 := by
  induction l generalizing k with
  | nil => simp [leU]
  | cons b l ih =>
    unfold leU
    have hb : b.toNat < 256 := b.toNat_lt
    rcases Nat.lt_or_ge k 8 with h | h
    · have e1 : k / 8 = 0 := by omega
      have e2 : k % 8 = k := by omega
      rw [e1, e2, List.getD_cons_zero]
      have e3 : (256 : Nat) = 2 ^ k * (2 * 2 ^ (7 - k)) := by
        rw [← Nat.mul_assoc, ← Nat.pow_succ, ← Nat.pow_add, show k + 1 + (7 - k) = 8 by omega]
      rw [e3, Nat.mul_assoc, Nat.add_mul_div_left _ _ (Nat.two_pow_pos k), Nat.mul_assoc, Nat.add_mul_mod_self_left]
    · have e1 : k / 8 = (k - 8) / 8 + 1 := by omega
      have e2 : k % 8 = (k - 8) % 8 := by omega
      rw [e1, e2, List.getD_cons_succ, ← ih]
      have e3 : (2 : Nat) ^ k = 256 * 2 ^ (k - 8) := by
        rw [show (256 : Nat) = 2 ^ 8 by decide, ← Nat.pow_add]; congr 1; omega
      rw [e3, ← Nat.div_div_eq_div_mul]
      congr 2
      omega
theorem bits_step (V j m : Nat) : V / 2 ^ j % 2 ^ (m + 1) = 2 * (V / 2 ^ (j + 1) % 2 ^ m) + V / 2 ^ j % 2 := by
  rw [Nat.pow_succ 2 m, Nat.mul_comm (2 ^ m) 2, Nat.mod_mul, Nat.div_div_eq_div_mul, ← Nat.pow_succ, Nat.succ_eq_add_one]
  omega
theorem bits_i (b : ByteArray) (k : Nat) (h : k / 8 < b.size) : (((bAt b (k / 8)).fdiv (2 ^ (k % 8))) % 2 : Int) = (leU b.data.toList / 2 ^ k % 2 : Nat) := by
  rw [leU_bit]
  unfold bAt
  rw [Int.fdiv_eq_ediv_of_nonneg _ (by exact Int.le_of_lt (Int.pow_pos (by decide)))]
  norm_cast
theorem bits_out (b : ByteArray) (k : Nat) (h : b.size ≤ k / 8) : leU b.data.toList / 2 ^ k % 2 = 0 := by
  rw [leU_bit, List.getD_eq_getElem?_getD, List.getElem?_eq_none (by simpa using h)]
  simp
theorem digits_spec (q : View) (b : ByteArray) (n : Nat) (hn : n ≤ 1000) (hb : b.size ≤ 1000000) : FnX Try.prog q 27 [.string b, .int .i64 n] [] (fun r : Option Addr × Nat => .slice r.1 n r.2) fun r => [sl r.1 n r.2 3 1 (iv (dgs (leU b.data.toList) n))] := by
  (first | refine FnD.go Try.call27 Try.func27 rfl rfl rfl ?_ | refine FnX.go Try.call27 Try.func27 rfl rfl rfl ?_)
  (repeat (first | refine g ?_))
  refine run_loopI (X := Nat × Option Addr × Nat) (fun x => x.1 ≤ n) (fun x => [(0, .string b), (1, .int .i64 n), (5, .slice x.2.1 x.1 x.2.2), (6, .int .i64 x.1)]) (fun x => [sl x.2.1 x.1 x.2.2 3 1 (iv (dgs (leU b.data.toList) x.1))]) (fun x => n - x.1) (0, none, 0) (Nat.zero_le _) fct shut ?_
  intro ⟨i, p, c⟩ hi
  dsimp only at *
  (repeat (first | refine g ?_))
  refine run_cond_dec rfl ?_ ?_
  · intro h
    (repeat (first | refine g ?_))
    refine run_loopI (X := Nat × Nat) (fun x => x.1 ≤ 10 ∧ x.2 = leU b.data.toList / 2 ^ (10 * i + x.1) % 2 ^ (10 - x.1)) (fun x => [(0, .string b), (1, .int .i64 n), (5, .slice p i c), (6, .int .i64 i), (7, .int .i64 x.2), (8, .int .i64 ((x.1 : Int) - 1))]) (fun x => [sl p i c 3 1 (iv (dgs (leU b.data.toList) i))]) (fun x => x.1) (10, 0) ⟨Nat.le_refl _, by rw [Nat.sub_self, Nat.pow_zero, Nat.mod_one]⟩ fct shut ?_
    intro ⟨j, d⟩ ⟨hj, hd⟩
    dsimp only at *
    have hd10 : d < 1024 := by rw [hd]; exact Nat.lt_of_lt_of_le (Nat.mod_lt _ (Nat.two_pow_pos _)) (Nat.pow_le_pow_right (by decide) (show 10 - j ≤ 10 by omega))
    (repeat (first | refine g ?_))
    refine run_cond_dec rfl ?_ ?_
    · intro h2
      have hnew : 2 * d + leU b.data.toList / 2 ^ (10 * i + (j - 1)) % 2 = leU b.data.toList / 2 ^ (10 * i + (j - 1)) % 2 ^ (10 - (j - 1)) := by
        rw [show 10 - (j - 1) = (10 - j) + 1 by omega, bits_step, hd, show 10 * i + (j - 1) + 1 = 10 * i + j by omega]
      have hnat : 10 * (i : Int) + ((j : Int) - 1) = ((10 * i + (j - 1) : Nat) : Int) := by omega
      (repeat (first | refine g ?_))
      refine run_cond_dec rfl ?_ ?_
      · intro h3
        have hB := bAt_lt b ((10 * (i : Int) + ((j : Int) - 1)) / 8).toNat
        have hC : 0 ≤ bAt b ((10 * (i : Int) + ((j : Int) - 1)) / 8).toNat / 2 ^ ((10 * (i : Int) + ((j : Int) - 1)) % 8).toNat ∧ bAt b ((10 * (i : Int) + ((j : Int) - 1)) / 8).toNat / 2 ^ ((10 * (i : Int) + ((j : Int) - 1)) % 8).toNat ≤ 255 :=
          ⟨Int.ediv_nonneg hB.1 (Int.le_of_lt (Int.pow_pos (by decide))), Int.le_trans (Int.ediv_le_self _ hB.1) (by omega)⟩
        (repeat (first | refine g ?_))
        have e7 : 2 * (d : Int) + bAt b ((10 * (i : Int) + ((j : Int) - 1)) / 8).toNat / 2 ^ ((10 * (i : Int) + ((j : Int) - 1)) % 8).toNat % 2 = ((2 * d + leU b.data.toList / 2 ^ (10 * i + (j - 1)) % 2 : Nat) : Int) := by
          rw [hnat] at h3 ⊢
          have h3' : (10 * i + (j - 1)) / 8 < b.size := by omega
          have := bits_i b (10 * i + (j - 1)) h3'
          rw [Int.fdiv_eq_ediv_of_nonneg _ (Int.le_of_lt (Int.pow_pos (by decide)))] at this
          rw [show (((10 * i + (j - 1) : Nat) : Int) / 8).toNat = (10 * i + (j - 1)) / 8 by omega, show (((10 * i + (j - 1) : Nat) : Int) % 8).toNat = (10 * i + (j - 1)) % 8 by omega, this]
          push_cast; rfl
        refine run_stop_loop (j - 1, 2 * d + leU b.data.toList / 2 ^ (10 * i + (j - 1)) % 2) ?_ fct shut
        exact ⟨⟨by omega, hnew⟩, by omega⟩
      · intro h3
        have e7 : 2 * (d : Int) = ((2 * d + leU b.data.toList / 2 ^ (10 * i + (j - 1)) % 2 : Nat) : Int) := by
          have := bits_out b (10 * i + (j - 1)) (by omega)
          omega
        (repeat (first | refine g ?_))
        refine run_stop_loop (j - 1, 2 * d + leU b.data.toList / 2 ^ (10 * i + (j - 1)) % 2) ?_ fct shut
        exact ⟨⟨by omega, hnew⟩, by omega⟩
    · intro h2
      obtain rfl : j = 0 := by omega
      (repeat (first | refine g ?_))
      refine s_built fun r => ?_
      (repeat (first | refine g ?_))
      refine s_app 1 8 (reads_own At.head rfl) (hxl := by rw [iv_length, dgs_length, Nat.mul_one]) fun r2 => ?_
      (repeat (first | refine g ?_))
      have ed : iv (dgs (leU b.data.toList) i) ++ [Value.int .i64 (d : Int)] = iv (dgs (leU b.data.toList) (i + 1)) := by
        rw [dgs_snoc, iv_append, hd]
        show _ = _ ++ [_]
        rw [Nat.sub_zero, Nat.add_zero, show (2 : Nat) ^ (10 * i) = 1024 ^ i by rw [Nat.pow_mul]]
      rw [ed]
      refine run_stop_loop (i + 1, r2) ?_ fct shut
      exact ⟨by omega, by dsimp only; omega⟩
  · intro h
    obtain rfl : i = n := by omega
    (repeat (first | refine g ?_))
    exact run_ret rfl (imp_RX (p, c) rfl shut)
theorem less_at (a b : List Nat) (i : Nat) (hl : a.length = b.length) (ha : ∀ x ∈ a, x < 1024) (hb : ∀ x ∈ b, x < 1024) (x y : Nat) (hx : a[i]? = some x) (hy : b[i]? = some y) (hd : a.drop (i + 1) = b.drop (i + 1)) (hne : x ≠ y) :
    val a < val b ↔ x < y := by
  have li := (List.getElem?_eq_some_iff.1 hx).1
  rw [val_split a (i + 1) (by omega), val_split b (i + 1) (by omega), hd, val_take_succ a i x hx, val_take_succ b i y hy]
  have h1 := val_lt (a.take i) fun z hz => ha z (List.mem_of_mem_take hz)
  have h2 := val_lt (b.take i) fun z hz => hb z (List.mem_of_mem_take hz)
  rw [List.length_take, Nat.min_eq_left (by omega)] at h1 h2
  generalize 1024 ^ i = M at *
  rcases Nat.lt_or_ge x y with h | h
  · have : (x + 1) * M ≤ y * M := Nat.mul_le_mul_right _ h
    rw [Nat.add_mul] at this
    exact ⟨fun _ => h, fun _ => by omega⟩
  · have : (y + 1) * M ≤ x * M := Nat.mul_le_mul_right _ (by omega)
    rw [Nat.add_mul] at this
    exact ⟨fun h3 => by omega, fun h3 => by omega⟩
theorem less_spec (q : View) (ba ca bb cb n : Nat) (a b : List Nat) (hn : n ≤ 1000) (la : a.length = n) (lb : b.length = n) (ha : ∀ x ∈ a, x < 1024) (hb : ∀ x ∈ b, x < 1024) :
    FnD Try.prog q 37 [.slice (some ⟨ba, 0, none⟩) n ca, .slice (some ⟨bb, 0, none⟩) n cb] [sl (some ⟨ba, 0, none⟩) n ca 3 1 (iv a), sl (some ⟨bb, 0, none⟩) n cb 3 1 (iv b)] (.bool (decide (val a < val b))) [sl (some ⟨ba, 0, none⟩) n ca 3 1 (iv a), sl (some ⟨bb, 0, none⟩) n cb 3 1 (iv b)] := by
  (first | refine FnD.go Try.call37 Try.func37 rfl rfl rfl ?_ | refine FnX.go Try.call37 Try.func37 rfl rfl rfl ?_)
  (repeat (first | refine g ?_ | refine s_flat 4 [(.pure, [0, 1, 2, 4, 5, 6]), (.mem true, [3, 7]), (.pure, [8])] ?_ | refine s_flat 5 [(.pure, [0, 1, 2, 4, 5, 6]), (.mem true, [3, 7]), (.pure, [8, 9])] ?_))
  refine run_loopI (X := Nat) (fun i => i ≤ n ∧ a.drop i = b.drop i) (fun i => [(0, .slice (some ⟨ba, 0, none⟩) n ca), (1, .slice (some ⟨bb, 0, none⟩) n cb), (5, .int .i64 ((i : Int) - 1))]) (fun i => [sl (some ⟨ba, 0, none⟩) n ca 3 1 (iv a), sl (some ⟨bb, 0, none⟩) n cb 3 1 (iv b)]) (fun i => i) n ⟨Nat.le_refl _, by rw [List.drop_of_length_le (by omega), List.drop_of_length_le (by omega)]⟩ fct shut ?_
  intro i ⟨hi, hd⟩
  (repeat (first | refine g ?_ | refine s_flat 4 [(.pure, [0, 1, 2, 4, 5, 6]), (.mem true, [3, 7]), (.pure, [8])] ?_ | refine s_flat 5 [(.pure, [0, 1, 2, 4, 5, 6]), (.mem true, [3, 7]), (.pure, [8, 9])] ?_))
  refine run_cond_dec rfl ?_ ?_
  · intro h
    obtain ⟨x, hx⟩ : ∃ x, a[((i : Int) - 1).toNat]? = some x := ⟨_, List.getElem?_eq_getElem (by omega)⟩
    obtain ⟨y, hy⟩ : ∃ y, b[((i : Int) - 1).toNat]? = some y := ⟨_, List.getElem?_eq_getElem (by omega)⟩
    have hi1 : i - 1 + 1 = i := by omega
    have ei : ((i : Int) - 1).toNat = i - 1 := by omega
    (repeat (first | refine g ?_ | refine s_flat 4 [(.pure, [0, 1, 2, 4, 5, 6]), (.mem true, [3, 7]), (.pure, [8])] ?_ | refine s_flat 5 [(.pure, [0, 1, 2, 4, 5, 6]), (.mem true, [3, 7]), (.pure, [8, 9])] ?_ | refine s_loadsl (iv_at _ _ _ hx) ?_ | refine s_loadsl (iv_at _ _ _ hy) ?_))
    have hx0 := hx; have hy0 := hy
    rw [ei] at hx hy
    refine run_cond_dec rfl ?_ ?_
    · intro hne
      (repeat (first | refine g ?_ | refine s_flat 4 [(.pure, [0, 1, 2, 4, 5, 6]), (.mem true, [3, 7]), (.pure, [8])] ?_ | refine s_flat 5 [(.pure, [0, 1, 2, 4, 5, 6]), (.mem true, [3, 7]), (.pure, [8, 9])] ?_ | refine s_loadsl (iv_at a _ x hx0) ?_ | refine s_loadsl (iv_at b _ y hy0) ?_))
      refine run_ret rfl (imp_RD ?_ shut)
      have := less_at a b (i - 1) (by omega) ha hb x y hx hy (by rw [hi1]; exact hd) (by omega)
      exact congrArg Value.bool (decide_eq_decide.2 (by omega))
    · intro he
      (repeat (first | refine g ?_ | refine s_flat 4 [(.pure, [0, 1, 2, 4, 5, 6]), (.mem true, [3, 7]), (.pure, [8])] ?_ | refine s_flat 5 [(.pure, [0, 1, 2, 4, 5, 6]), (.mem true, [3, 7]), (.pure, [8, 9])] ?_))
      refine run_stop_loop (i - 1) ?_ fct shut
      have hxy : x = y := Int.ofNat.inj (Decidable.not_not.1 he)
      refine ⟨⟨by omega, ?_⟩, by omega⟩
      rw [List.drop_eq_getElem_cons (show i - 1 < a.length by omega), List.drop_eq_getElem_cons (show i - 1 < b.length by omega), hi1, hd, (List.getElem?_eq_some_iff.1 hx).2, (List.getElem?_eq_some_iff.1 hy).2, hxy]
  · intro h
    obtain rfl : i = 0 := by omega
    (repeat (first | refine g ?_ | refine s_flat 4 [(.pure, [0, 1, 2, 4, 5, 6]), (.mem true, [3, 7]), (.pure, [8])] ?_ | refine s_flat 5 [(.pure, [0, 1, 2, 4, 5, 6]), (.mem true, [3, 7]), (.pure, [8, 9])] ?_))
    refine run_ret rfl (imp_RD ?_ shut)
    simp only [List.drop_zero] at hd
    subst hd
    rw [decide_eq_false (Nat.lt_irrefl _)]
theorem prime_digits : dgs P130 13 = 1019 :: List.replicate 12 1023 := by decide
theorem prime_spec (q : View) : FnX Try.prog q 36 [] [] (fun r : Option Addr × Nat => .slice r.1 13 r.2) fun r => [sl r.1 13 r.2 3 1 (iv (dgs P130 13))] := by
  (first | refine FnD.go Try.call36 Try.func36 rfl rfl rfl ?_ | refine FnX.go Try.call36 Try.func36 rfl rfl rfl ?_)
  (repeat (first | refine g ?_))
  refine s_built fun r => ?_
  (repeat (first | refine g ?_))
  refine run_to_sl (n := 1) (kk := 1) rfl ?_
  refine run_loopI (X := Nat × Option Addr × Nat) (fun x => x.1 ≤ 12) (fun x => [(1, .slice x.2.1 (x.1 + 1) x.2.2), (2, .int .i64 ((x.1 : Int) + 1))]) (fun x => [sl x.2.1 (x.1 + 1) x.2.2 3 1 (iv (1019 :: List.replicate x.1 1023))]) (fun x => 12 - x.1) (0, some ⟨r, 0, none⟩, 1) (Nat.zero_le _) fct shut ?_
  intro ⟨i, p, c⟩ hi
  dsimp only at *
  (repeat (first | refine g ?_))
  refine run_cond_dec rfl ?_ ?_
  · intro h
    (repeat (first | refine g ?_))
    refine s_built fun r2 => ?_
    (repeat (first | refine g ?_))
    refine s_app 1 8 (reads_own At.head rfl) (hxl := by simp [iv]) fun r3 => ?_
    (repeat (first | refine g ?_))
    rw [show iv (1019 :: List.replicate i 1023) ++ [Value.int .i64 1023] = iv (1019 :: List.replicate (i + 1) 1023) by
      rw [List.replicate_succ']; simp [iv]]
    refine run_stop_loop (i + 1, r3) ?_ fct shut
    dsimp only at *
    omega
  · intro h
    obtain rfl : i = 12 := by omega
    (repeat (first | refine g ?_))
    rw [prime_digits]
    exact run_ret rfl (imp_RX (p, c) rfl shut)
end Go.Proofs.Ytajjbgkbceobmaa.V
