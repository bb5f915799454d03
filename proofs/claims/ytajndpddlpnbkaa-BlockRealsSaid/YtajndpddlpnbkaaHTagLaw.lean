/- Plain laws for box.Tag: Poly1305's tag. -/
import Derived.Test.YtajndpddlpnbkaaHFiveLaw
import Derived.Test.YtajndpddlpnbkaaHWhole
import Derived.Test.YtajndpddlpnbkaaHBytes
import Derived.Lib.SlBuf
namespace Go.Proofs.Ytajndpddlpnbkaa.B
open Go.RowKit Go.Proofs.YtajndpddlpnbkaaW.PrintWords Go.Proofs.Ytajndpddlpnbkaa.Spec
def zeros17 : List Int := [0, 0, 0, 0, 0, 0, 0, 0, 0, 0, 0, 0, 0, 0, 0, 0, 0]
theorem and15 (k : Nat) (h : k < 256) : bits .and .u8 (k : Int) 15 = ((k % 16 : Nat) : Int) := by
  rw [show (15 : Int) = ((15 : Nat) : Int) from rfl, u8_and_nat _ _ h (by omega), nat_mask4]
theorem and252 (k : Nat) (h : k < 256) : bits .and .u8 (k : Int) 252 = ((k - k % 4 : Nat) : Int) := by
  rw [show (252 : Int) = ((252 : Nat) : Int) from rfl, u8_and_nat _ _ h (by omega)]
  congr 1
  have : ∀ b : BitVec 8, (b &&& 252#8).toNat = b.toNat - b.toNat % 4 := by decide
  have := this (BitVec.ofNat 8 k)
  simpa [BitVec.toNat_ofNat, Nat.mod_eq_of_lt h] using this
theorem sixteen_of {l : List Nat} (h : l.length = 16) : ∃ k0 k1 k2 k3 k4 k5 k6 k7 k8 k9 k10 k11 k12 k13 k14 k15, l = [k0, k1, k2, k3, k4, k5, k6, k7, k8, k9, k10, k11, k12, k13, k14, k15] := by
  match l, h with | [k0, k1, k2, k3, k4, k5, k6, k7, k8, k9, k10, k11, k12, k13, k14, k15], _ => exact ⟨k0, k1, k2, k3, k4, k5, k6, k7, k8, k9, k10, k11, k12, k13, k14, k15, rfl⟩
theorem five_at (k0 k1 k2 k3 k4 k5 k6 k7 k8 k9 k10 k11 k12 k13 k14 k15 k16 : Nat) (w : World) (h : ∀ b ∈ [k0, k1, k2, k3, k4, k5, k6, k7, k8, k9, k10, k11, k12, k13, k14, k15, k16], b < 256) (h16 : k16 ≤ 3) :
    Calls Try.prog 96 #[.agg #[.int .u8 (k0 : Int), .int .u8 (k1 : Int), .int .u8 (k2 : Int), .int .u8 (k3 : Int), .int .u8 (k4 : Int), .int .u8 (k5 : Int), .int .u8 (k6 : Int), .int .u8 (k7 : Int), .int .u8 (k8 : Int), .int .u8 (k9 : Int), .int .u8 (k10 : Int), .int .u8 (k11 : Int), .int .u8 (k12 : Int), .int .u8 (k13 : Int), .int .u8 (k14 : Int), .int .u8 (k15 : Int), .int .u8 (k16 : Int)]] w fun e w' => ∃ r0 r1 r2 r3 r4, e = .returned (.agg #[.int .u64 r0, .int .u64 r1, .int .u64 r2, .int .u64 r3, .int .u64 r4]) ∧ Small 67108864 r0 r1 r2 r3 r4 ∧ val5 r0 r1 r2 r3 r4 = (le [k0, k1, k2, k3, k4, k5, k6, k7, k8, k9, k10, k11, k12, k13, k14, k15, k16] : Int) ∧ Below w.heap.size w w' :=
  five_any [k0, k1, k2, k3, k4, k5, k6, k7, k8, k9, k10, k11, k12, k13, k14, k15, k16] w h rfl h16
theorem clamp_lt (k0 k1 k2 k3 k4 k5 k6 k7 k8 k9 k10 k11 k12 k13 k14 k15 : Nat) (h : ∀ b ∈ [k0, k1, k2, k3, k4, k5, k6, k7, k8, k9, k10, k11, k12, k13, k14, k15], b < 256) : ∀ b ∈ [k0, k1, k2, k3 % 16, k4 - k4 % 4, k5, k6, k7 % 16, k8 - k8 % 4, k9, k10, k11 % 16, k12 - k12 % 4, k13, k14, k15 % 16, 0], b < 256 := by
  simp only [List.mem_cons, List.not_mem_nil, or_false, forall_eq_or_imp, forall_eq] at *
  omega
theorem polyR_of {key : ByteArray} {k0 k1 k2 k3 k4 k5 k6 k7 k8 k9 k10 k11 k12 k13 k14 k15 : Nat} (h : (nats key).take 16 = [k0, k1, k2, k3, k4, k5, k6, k7, k8, k9, k10, k11, k12, k13, k14, k15]) : le [k0, k1, k2, k3 % 16, k4 - k4 % 4, k5, k6, k7 % 16, k8 - k8 % 4, k9, k10, k11 % 16, k12 - k12 % 4, k13, k14, k15 % 16, 0] = polyR key := by
  unfold polyR
  rw [h]
  simp [clamps, clampAt, le]
theorem nats_extract (s : ByteArray) (i : Nat) : nats (s.extract i s.size) = (nats s).drop i := by
  simp only [nats, ← List.map_drop]
  congr 1
  rw [Lib.extract_data]
  rw [List.take_of_length_le]
  rw [List.length_drop, data_length]
  exact Nat.le_refl _
/-- A block of a text, a one behind it, and noughts. -/
def chunk (s : ByteArray) (i n : Nat) : List Nat := ((nats s).drop i).take n ++ 1 :: List.replicate (16 - n) 0
theorem le_append_zeros : ∀ (l : List Nat) (k : Nat), le (l ++ List.replicate k 0) = le l
  | [], 0 => rfl
  | [], k + 1 => by have := le_append_zeros [] k; simp only [List.nil_append] at *; simp [List.replicate_succ, le, this]
  | b :: l, k => by simp [le, le_append_zeros l k]
theorem chunk_ns {s : ByteArray} {i n : Nat} (hn : n = Nat.min (s.extract i s.size).size 16) :
    (cast ((nats (s.extract i s.size)).take n) ++ zeros17.drop n).set n 1 = cast (chunk s i n) ∧ (chunk s i n).length = 17 ∧ (∀ b ∈ chunk s i n, b < 256) ∧ (chunk s i n).getD 16 0 ≤ 3 ∧
      le (chunk s i n) = le (((nats s).drop i).take 16 ++ [1]) := by
  have hsz : (s.extract i s.size).size = s.size - i := by rw [ByteArray.size_extract]; simp
  rw [hsz] at hn
  have hn16 : n ≤ 16 := by rw [hn]; exact Nat.min_le_right _ _
  have hnl : n ≤ s.size - i := by rw [hn]; exact Nat.min_le_left _ _
  have hlt : (((nats s).drop i).take n).length = n := by rw [List.length_take, List.length_drop, nats_length]; omega
  rw [nats_extract]
  refine ⟨?_, ?_, ?_, ?_, ?_⟩
  · have hz : zeros17.drop n = List.replicate (17 - n) 0 := by
      have : zeros17 = List.replicate 17 0 := rfl
      rw [this, List.drop_replicate]
    rw [hz, show 17 - n = (16 - n) + 1 from by omega, List.replicate_succ]
    unfold chunk
    simp only [cast, List.map_append, List.map_cons, List.map_replicate]
    rw [List.set_append_right _ _ (by simp; omega)]
    congr 1
    simp only [List.length_map, hlt, Nat.sub_self, List.set_cons_zero]
    rfl
  · unfold chunk
    simp only [List.length_append, hlt, List.length_cons, List.length_replicate]
    omega
  · intro b hb
    unfold chunk at hb
    rw [List.mem_append, List.mem_cons] at hb
    rcases hb with h | h | h
    · exact nats_lt s b (List.mem_of_mem_drop (List.mem_of_mem_take h))
    · omega
    · have := (List.mem_replicate.1 h).2; omega
  · unfold chunk
    rw [List.getD_eq_getElem?_getD, List.getElem?_append_right (by omega), hlt]
    by_cases h : n = 16
    · subst h; simp
    · rw [show 16 - n = (15 - n) + 1 from by omega, List.getElem?_cons_succ]
      simp only [List.getElem?_replicate]
      split <;> simp
  · unfold chunk
    rw [show ((nats s).drop i).take n ++ 1 :: List.replicate (16 - n) 0 = (((nats s).drop i).take n ++ [1]) ++ List.replicate (16 - n) 0 from by simp, le_append_zeros]
    congr 2
    rcases Nat.lt_or_ge (s.size - i) 16 with h | h
    · have hn' : n = s.size - i := by rw [hn]; exact Nat.min_eq_left (by omega)
      rw [List.take_of_length_le (by rw [List.length_drop, nats_length]; omega), List.take_of_length_le (by rw [List.length_drop, nats_length]; omega)]
    · rw [show n = 16 from by rw [hn]; exact Nat.min_eq_right h]
theorem polyH_congr (r a b : Nat) (l : List Nat) (h : a % P130 = b % P130) : polyH r a l % P130 = polyH r b l % P130 := by
  have u : ∀ x, polyH r x l = if l = [] then x else polyH r (((x + le (l.take 16 ++ [1])) * r) % P130) (l.drop 16) := fun x => by rw [polyH]
  rw [u a, u b]
  by_cases e : l = []
  · rw [if_pos e, if_pos e]; exact h
  · rw [if_neg e, if_neg e]
    have : (a + le (l.take 16 ++ [1])) * r % P130 = (b + le (l.take 16 ++ [1])) * r % P130 := by
      rw [Nat.mul_mod, Nat.mul_mod (b + _), Nat.add_mod, Nat.add_mod b, h]
    rw [this]
theorem polyH_lt (r : Nat) : ∀ (n : Nat) (h : Nat) (l : List Nat), l.length ≤ n → h < P130 → polyH r h l < P130
  | 0, h, l, hl, hh => by
    have : l = [] := List.eq_nil_of_length_eq_zero (by omega)
    subst this; rw [polyH, if_pos rfl]; exact hh
  | n + 1, h, l, hl, hh => by
    rw [polyH]
    by_cases e : l = []
    · rw [if_pos e]; exact hh
    · rw [if_neg e]
      have h1 : 0 < l.length := List.length_pos_iff.2 e
      exact polyH_lt r n _ _ (by rw [List.length_drop]; omega) (Nat.mod_lt _ (by decide))
theorem P5_cast : P5 = ((P130 : Nat) : Int) := rfl
theorem round_law {key s : ByteArray} {i n : Nat} {h0 h1 h2 h3 h4 x0 x1 x2 x3 x4 y0 y1 y2 y3 y4 q0 q1 q2 q3 q4 : Int} (hlt : i < s.size)
    (sh : Small 67108864 0 h1 h2 h3 h4) (hl : 0 ≤ h0) (_hx : Small 67108864 x0 x1 x2 x3 x4) (hxv : val5 x0 x1 x2 x3 x4 = (le (chunk s i n) : Int)) (hc : le (chunk s i n) = le (((nats s).drop i).take 16 ++ [1]))
    (hy : val5 y0 y1 y2 y3 y4 = (polyR key : Int)) (ht : Timed (val5 (h0 + x0) (h1 + x1) (h2 + x2) (h3 + x3) (h4 + x4)) (val5 y0 y1 y2 y3 y4) q0 q1 q2 q3 q4) :
    polyH (polyR key) (val5 q0 q1 q2 q3 q4).toNat ((nats s).drop (i + 16)) % P130 = polyH (polyR key) (val5 h0 h1 h2 h3 h4).toNat ((nats s).drop i) % P130 := by
  obtain ⟨⟨c, hq⟩, hq1, hq2, hq3⟩ := ht
  have hne : (nats s).drop i ≠ [] := by
    intro e
    have := congrArg List.length e
    rw [List.length_drop, nats_length] at this
    simp at this; omega
  conv => rhs; rw [polyH, if_neg hne]
  rw [List.drop_drop]
  apply polyH_congr
  have e1 : val5 (h0 + x0) (h1 + x1) (h2 + x2) (h3 + x3) (h4 + x4) = val5 h0 h1 h2 h3 h4 + val5 x0 x1 x2 x3 x4 := by unfold val5; omega
  have e2 : 0 ≤ val5 h0 h1 h2 h3 h4 := by unfold Small val5 at *; omega
  have e3 : 0 ≤ val5 q0 q1 q2 q3 q4 := by unfold Small val5 at *; omega
  rw [e1, hxv, hc, hy] at hq
  obtain ⟨A, hA⟩ := Int.eq_ofNat_of_zero_le e2
  obtain ⟨B, hB⟩ := Int.eq_ofNat_of_zero_le e3
  rw [hA, hB] at hq ⊢
  rw [Int.toNat_natCast, Int.toNat_natCast, Nat.mod_mod]
  have h5 : ((B : Int) + c * P5) % P5 = (B : Int) % P5 := Int.add_mul_emod_self_right _ _ _
  rw [hq, P5_cast] at h5
  have h6 : (((A + le (((nats s).drop i).take 16 ++ [1])) * polyR key % P130 : Nat) : Int) = ((B % P130 : Nat) : Int) := by
    rw [Int.natCast_emod, Int.natCast_emod, Int.natCast_mul, Int.natCast_add]; exact h5
  exact (Int.ofNat.inj h6).symm
theorem limb_bit {q0 q1 q2 q3 q4 : Int} (h : Small 67108864 q0 q1 q2 q3 q4) (n : Nat) (hn : n < 128) : bits .and .u64 (el [q0, q1, q2, q3, q4] (n / 26) / 2 ^ (n % 26)) 1 = (((val5 q0 q1 q2 q3 q4).toNat / 2 ^ n % 2 : Nat) : Int) := by
  obtain ⟨h0, h1, h2, h3, h4⟩ := h
  obtain ⟨a0, e0⟩ := Int.eq_ofNat_of_zero_le h0.1
  obtain ⟨a1, e1⟩ := Int.eq_ofNat_of_zero_le h1.1
  obtain ⟨a2, e2⟩ := Int.eq_ofNat_of_zero_le h2.1
  obtain ⟨a3, e3⟩ := Int.eq_ofNat_of_zero_le h3.1
  obtain ⟨a4, e4⟩ := Int.eq_ofNat_of_zero_le h4.1
  subst e0 e1 e2 e3 e4
  have hv : (val5 (a0 : Int) a1 a2 a3 a4).toNat = a0 + 67108864 * a1 + 4503599627370496 * a2 + 302231454903657293676544 * a3 + 20282409603651670423947251286016 * a4 := by unfold val5; omega
  rw [hv]
  generalize hN : a0 + 67108864 * a1 + 4503599627370496 * a2 + 302231454903657293676544 * a3 + 20282409603651670423947251286016 * a4 = N
  have hd : ∃ k a : Nat, n / 26 = k ∧ el [(a0 : Int), a1, a2, a3, a4] k = (a : Int) ∧ a < 67108864 ∧ N / 2 ^ (26 * k) % 67108864 = a := by
    rcases (show n / 26 = 0 ∨ n / 26 = 1 ∨ n / 26 = 2 ∨ n / 26 = 3 ∨ n / 26 = 4 from by omega) with h | h | h | h | h
    · exact ⟨0, a0, h, rfl, by omega, by simp only [Nat.mul_zero, Nat.pow_zero, Nat.div_one]; omega⟩
    · exact ⟨1, a1, h, rfl, by omega, by simp only [Nat.mul_one, Nat.reducePow]; omega⟩
    · exact ⟨2, a2, h, rfl, by omega, by simp only [Nat.reduceMul, Nat.reducePow]; omega⟩
    · exact ⟨3, a3, h, rfl, by omega, by simp only [Nat.reduceMul, Nat.reducePow]; omega⟩
    · exact ⟨4, a4, h, rfl, by omega, by simp only [Nat.reduceMul, Nat.reducePow]; omega⟩
  obtain ⟨k, a, hk, he, ha, hm⟩ := hd
  rw [hk, he]
  have e1 : ((a : Int) / 2 ^ (n % 26)) = ((a / 2 ^ (n % 26) : Nat) : Int) := by rw [Int.natCast_ediv]; simp
  rw [e1, show (1 : Int) = ((1 : Nat) : Int) from rfl, u64_and_nat _ _ (Nat.lt_of_le_of_lt (Nat.div_le_self _ _) (by omega)) (by omega), nat_mask1]
  congr 1
  rw [← hm]
  have hs : n = 26 * k + n % 26 := by omega
  generalize hr : n % 26 = r at hs ⊢
  have hr26 : r < 26 := by omega
  rw [hs, Nat.pow_add, ← Nat.div_div_eq_div_mul]
  generalize N / 2 ^ (26 * k) = x
  have e2 : (67108864 : Nat) = 2 ^ r * 2 ^ (26 - r) := by rw [← Nat.pow_add, show r + (26 - r) = 26 from by omega]
  rw [e2, Nat.mod_mul_right_div_self, Nat.mod_mod_of_dvd]
  exact ⟨2 ^ (25 - r), by rw [← Nat.pow_succ', show (25 - r).succ = 26 - r from by omega]⟩
/-- Byte j of the sum. -/
def outs (T : Nat) (i : Nat) : List Int := (List.range i).map fun j => ((T / 256 ^ j % 256 : Nat) : Int)
theorem outs_length (T i : Nat) : (outs T i).length = i := by simp [outs]
theorem outs_succ (T i : Nat) : outs T (i + 1) = outs T i ++ [((T / 256 ^ i % 256 : Nat) : Int)] := by simp [outs, List.range_succ]
theorem leB_outs (T : Nat) : ∀ k, (leB T k).map (fun b => (b.toNat : Int)) = outs T k := by
  intro k
  induction k generalizing T with
  | zero => rfl
  | succ k ih =>
    rw [leB, List.map_cons, ih]
    simp only [outs, List.range_succ_eq_map, List.map_cons, List.map_map, Nat.pow_zero, Nat.div_one]
    congr 1
    · simp
    · apply List.map_congr_left
      intro j _
      simp only [Function.comp, Nat.pow_succ]
      rw [Nat.mul_comm (256 ^ j), ← Nat.div_div_eq_div_mul]
theorem key_digit (key : ByteArray) (i : Nat) : le ((nats key).drop 16) / 256 ^ i % 256 = byteAt key (16 + i) := by
  rw [le_digit _ _ (fun b hb => nats_lt key b (List.mem_of_mem_drop hb))]
  unfold byteAt at_
  rw [List.getD_eq_getElem?_getD, List.getD_eq_getElem?_getD, List.getElem?_drop]
theorem outs_mod (T i k : Nat) (h : i ≤ k) : outs (T % 256 ^ k) i = outs T i := by
  unfold outs
  apply List.map_congr_left
  intro j hj
  have hj : j < i := by simpa using hj
  have e : (256 : Nat) ^ k = 256 ^ j * 256 ^ (k - j) := by rw [← Nat.pow_add, show j + (k - j) = k from by omega]
  rw [e, Nat.mod_mul_right_div_self, Nat.mod_mod_of_dvd]
  exact ⟨256 ^ (k - j - 1), by rw [← Nat.pow_succ', show (k - j - 1).succ = k - j from by omega]⟩
theorem tag_bytes (key s : ByteArray) (T : Nat) (h : T = polyH (polyR key) 0 (nats s) + le ((nats key).drop 16)) : strOfNums (outs T 16) = polyTag key s := by
  unfold polyTag strOfNums
  rw [← h]
  have e : P128 = 256 ^ 16 := by decide
  have h2 := leB_outs (T % P128) 16
  rw [e, outs_mod T 16 16 (Nat.le_refl _)] at h2
  rw [e, ← h2, List.map_map]
  congr 2
  conv => rhs; rw [← List.map_id (leB (T % 256 ^ 16) 16)]
  apply List.map_congr_left
  intro b _
  simp
theorem carry_step {c N K T i sm : Nat} (h : c + N / 256 ^ i + K / 256 ^ i = T / 256 ^ i) (hs : sm = K / 256 ^ i % 256 + c + N / 256 ^ i % 256) (hc : c ≤ 1) :
    sm % 256 = T / 256 ^ i % 256 ∧ sm / 256 + N / 256 ^ (i + 1) + K / 256 ^ (i + 1) = T / 256 ^ (i + 1) ∧ sm / 256 ≤ 1 := by
  simp only [Nat.pow_succ, ← Nat.div_div_eq_div_mul]
  generalize N / 256 ^ i = A at *
  generalize K / 256 ^ i = B at *
  generalize T / 256 ^ i = S at *
  omega
theorem bits_step (A j : Nat) : A % 2 ^ (j + 1) = A % 2 ^ j + A / 2 ^ j % 2 * 2 ^ j := by rw [Nat.mod_pow_succ, Nat.mul_comm]
theorem bit_shift (b j : Nat) (hb : b < 2) (hj : j < 8) : IntKind.u64.wrap ((b : Int) * 2 ^ j) = ((b * 2 ^ j : Nat) : Int) ∧ b * 2 ^ j ≤ 128 := by
  rcases (show j = 0 ∨ j = 1 ∨ j = 2 ∨ j = 3 ∨ j = 4 ∨ j = 5 ∨ j = 6 ∨ j = 7 from by omega) with h | h | h | h | h | h | h | h <;> subst h <;> rcases (show b = 0 ∨ b = 1 from by omega) with h | h <;> subst h <;> exact ⟨by decide, by decide⟩
def TagEnds (key s : ByteArray) (w : World) (e : Ending) (w' : World) : Prop := e = .returned (.tuple #[.string (polyTag key s), .int .i64 0]) ∧ Below w.heap.size w w'
end Go.Proofs.Ytajndpddlpnbkaa.B
