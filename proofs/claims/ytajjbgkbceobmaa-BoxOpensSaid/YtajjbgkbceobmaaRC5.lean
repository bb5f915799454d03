/- The reference's Seal and Open. -/
import Derived.Test.YtajjbgkbceobmaaRC4
set_option maxRecDepth 10000
set_option linter.unusedVariables false
namespace Go.Proofs.Ytajjbgkbceobmaa.V
open Go.Proofs.Ytajjbgkbceobmaa.VL Go.Proofs.Ytajjbgkbceobmaa.VL.RD
attribute [local irreducible] Run
theorem bytesOf_div (N i : Nat) : bytesOf N (i + 1) = bytesOf N i ++ [UInt8.ofNat (N / 256 ^ i % 256)] := bytesOf_snoc N i
theorem long_spec (q : View) (n : Nat) (hn : n < 9223372036854775808) : FnD Try.prog q 45 [.int .i64 n] [] (.string ⟨(Spec.leB n 8).toArray⟩) [] := by
  (first | refine FnD.go Try.call45 Try.func45 rfl rfl rfl ?_ | refine FnX.go Try.call45 Try.func45 rfl rfl rfl ?_)
  (repeat (first | refine g ?_))
  refine run_loopI (X := Nat × Option Addr × Nat) (fun x => x.1 ≤ 8) (fun x => [(0, .int .i64 ((n / 256 ^ x.1 : Nat) : Int)), (3, .slice x.2.1 x.1 x.2.2), (4, .int .i64 (x.1 : Int))]) (fun x => [sl x.2.1 x.1 x.2.2 5 1 (bv (bytesOf n x.1))]) (fun x => 8 - x.1) (0, none, 0) (Nat.zero_le _)
    (by dsimp only; rw [Nat.pow_zero, Nat.div_one]; exact fct) shut ?_
  intro ⟨i, p, c⟩ hi
  dsimp only at *
  have hle : n / 256 ^ i ≤ n := Nat.div_le_self _ _
  obtain ⟨m, hm⟩ : ∃ m, m = n / 256 ^ i := ⟨_, rfl⟩
  rw [← hm] at hle ⊢
  (repeat (first | refine g ?_))
  refine run_cond_dec rfl ?_ ?_
  · intro h
    (repeat (first | refine g ?_))
    refine s_built fun r1 => ?_
    (repeat (first | refine g ?_))
    refine s_app 1 1 (reads_own At.head rfl) (hxl := by rw [bv_length, bytesOf_length, Nat.mul_one]) fun r2 => ?_
    have e : bv (bytesOf n i) ++ [Value.int .u8 ((m : Int) % 256 % 256)] = bv (bytesOf n (i + 1)) := by
      rw [bytesOf_snoc, bv_append, ← hm, show (m : Int) % 256 % 256 = ((UInt8.ofNat (m % 256)).toNat : Int) by rw [UInt8.toNat_ofNat', Nat.mod_eq_of_lt (Nat.mod_lt _ (by decide))]; omega]; rfl
    refine s_eq e ?_
    (repeat (first | refine g ?_))
    have e2 : (m : Int) / 256 = ((n / 256 ^ (i + 1) : Nat) : Int) := by
      rw [Nat.pow_succ, ← Nat.div_div_eq_div_mul, ← hm]; omega
    refine run_stop_loop (i + 1, r2) ?_ fct shut
    exact ⟨by dsimp only; omega, by dsimp only; omega⟩
  · intro h
    obtain rfl : i = 8 := by omega
    (repeat (first | refine g ?_))
    refine s_string ?_
    (repeat (first | refine g ?_))
    refine run_ret rfl (imp_RD ?_ shut)
    rw [bytesOf_leB n 8 _ rfl, Nat.mod_eq_of_lt (Nat.lt_of_lt_of_le hn (by decide))]
/-- A text with bytes 0 behind. -/
def padz (s : ByteArray) (k : Nat) : ByteArray := ⟨(s.data.toList ++ Spec.zeros k).toArray⟩
theorem padz_size (s : ByteArray) (k : Nat) : (padz s k).size = s.size + k := by
  show (s.data.toList ++ Spec.zeros k).toArray.size = _
  rw [List.size_toArray, List.length_append, Array.length_toList]; unfold Spec.zeros; rw [List.length_replicate]; rfl
theorem ba_ext {a b : ByteArray} (h : a.data.toList = b.data.toList) : a = b := by
  cases a; cases b; congr; exact Array.toList_inj.1 h
theorem padz_zero (s : ByteArray) : padz s 0 = s := ba_ext (by simp [padz, Spec.zeros])
theorem padz_succ (s : ByteArray) (k : Nat) : padz s k ++ (⟨#[0]⟩ : ByteArray) = padz s (k + 1) := ba_ext (by
  rw [ByteArray.data_append, Array.toList_append]
  show (s.data.toList ++ Spec.zeros k) ++ [0] = s.data.toList ++ Spec.zeros (k + 1)
  unfold Spec.zeros
  rw [List.replicate_succ', List.append_assoc])
theorem even_spec (q : View) (s : ByteArray) (hs : s.size ≤ 140737488351232) : FnD Try.prog q 44 [.string s] [] (.string (padz s ((16 - s.size % 16) % 16))) [] := by
  (first | refine FnD.go Try.call44 Try.func44 rfl rfl rfl ?_ | refine FnX.go Try.call44 Try.func44 rfl rfl rfl ?_)
  (repeat (first | refine g ?_))
  refine run_loopI (X := Nat) (fun k => k ≤ (16 - s.size % 16) % 16) (fun k => [(0, .string (padz s k))]) (fun k => []) (fun k => 16 - k) 0 (Nat.zero_le _) (by rw [padz_zero]; exact fct) shut ?_
  intro k hk
  have hz := padz_size s k
  have h1 : (⟨#[0]⟩ : ByteArray).size = 1 := rfl
  (repeat (first | refine g ?_))
  refine run_cond_dec rfl ?_ ?_
  · intro h
    (repeat (first | refine g ?_))
    rw [padz_succ]
    refine run_stop_loop (k + 1) ?_ fct shut
    omega
  · intro h
    have h := Decidable.not_not.1 h
    obtain rfl : k = (16 - s.size % 16) % 16 := by omega
    (repeat (first | refine g ?_))
    exact run_ret rfl (imp_RD rfl shut)
theorem framed_eq (ad s : ByteArray) : padz ad ((16 - ad.size % 16) % 16) ++ padz s ((16 - s.size % 16) % 16) ++ (⟨(Spec.leB ad.size 8).toArray⟩ : ByteArray) ++ (⟨(Spec.leB s.size 8).toArray⟩ : ByteArray) = Spec.framed ad s := ba_ext (by
  simp only [ByteArray.data_append, Array.toList_append]
  unfold Spec.framed padz
  simp)
theorem leB_size (n k : Nat) : (⟨(Spec.leB n k).toArray⟩ : ByteArray).size = k := by
  show (Spec.leB n k).toArray.size = k
  rw [List.size_toArray, leB_length]
theorem key0_eq (key nonce : ByteArray) : (blockB key nonce 0).extract 0 32 = Spec.key0 key nonce := ba_ext (by
  rw [str_extract _ _ _ (by rw [blockB_size]; decide)]
  unfold blockB Spec.key0
  simp [List.map_take])
theorem key0_size (key nonce : ByteArray) : (Spec.key0 key nonce).size = 32 := by
  rw [← key0_eq, ByteArray.size_extract, blockB_size]; rfl
theorem polyTag_len (key s : ByteArray) : (Spec.polyTag key s).size = 16 := leB_size _ 16
theorem taggedF_len (key nonce ad s : ByteArray) : (Spec.taggedF key nonce ad s).size = 16 := polyTag_len _ _
theorem mark_spec (q : View) (key nonce ad c : ByteArray) (hk : key.size = 32) (hc : nonce.size = 12) (h1 : ad.size ≤ 35184372088832) (h2 : c.size ≤ 35184372088832) : FnD Try.prog q 34 [.string key, .string nonce, .string ad, .string c] [] (.string (Spec.taggedF key nonce ad c)) [] := by
  have z1 := padz_size ad ((16 - ad.size % 16) % 16)
  have z2 := padz_size c ((16 - c.size % 16) % 16)
  have z3 := leB_size ad.size 8
  have z4 := leB_size c.size 8
  have z5 := blockB_size key nonce 0
  have z12 := ByteArray.size_append (a := padz ad ((16 - ad.size % 16) % 16)) (b := padz c ((16 - c.size % 16) % 16))
  have z123 := ByteArray.size_append (a := padz ad ((16 - ad.size % 16) % 16) ++ padz c ((16 - c.size % 16) % 16)) (b := (⟨(Spec.leB ad.size 8).toArray⟩ : ByteArray))
  have hf : (Spec.framed ad c).size ≤ 140737488351232 := by rw [← framed_eq, ByteArray.size_append]; omega
  (first | refine FnD.go Try.call34 Try.func34 rfl rfl rfl ?_ | refine FnX.go Try.call34 Try.func34 rfl rfl rfl ?_)
  (repeat (first | refine g ?_ | refine s_flat 1 [(.pure, [0, 1, 4, 6, 9, 10, 13, 14]), (.mem false, [2]), (.pure, [3]), (.mem false, [5, 7]), (.pure, [8]), (.mem false, [11]), (.pure, [12]), (.mem false, [15]), (.pure, [16]), (.mem false, [17]), (.pure, [18, 19, 20, 21, 22])] ?_))
  refine s_call (refBlock_spec q key nonce 0 hk hc (by decide)) ?_
  (repeat (first | refine g ?_ | refine s_flat 1 [(.pure, [0, 1, 4, 6, 9, 10, 13, 14]), (.mem false, [2]), (.pure, [3]), (.mem false, [5, 7]), (.pure, [8]), (.mem false, [11]), (.pure, [12]), (.mem false, [15]), (.pure, [16]), (.mem false, [17]), (.pure, [18, 19, 20, 21, 22])] ?_))
  refine s_call (even_spec q ad (by omega)) ?_
  (repeat (first | refine g ?_ | refine s_flat 1 [(.pure, [0, 1, 4, 6, 9, 10, 13, 14]), (.mem false, [2]), (.pure, [3]), (.mem false, [5, 7]), (.pure, [8]), (.mem false, [11]), (.pure, [12]), (.mem false, [15]), (.pure, [16]), (.mem false, [17]), (.pure, [18, 19, 20, 21, 22])] ?_))
  refine s_call (even_spec q c (by omega)) ?_
  (repeat (first | refine g ?_ | refine s_flat 1 [(.pure, [0, 1, 4, 6, 9, 10, 13, 14]), (.mem false, [2]), (.pure, [3]), (.mem false, [5, 7]), (.pure, [8]), (.mem false, [11]), (.pure, [12]), (.mem false, [15]), (.pure, [16]), (.mem false, [17]), (.pure, [18, 19, 20, 21, 22])] ?_))
  refine s_call (long_spec q ad.size (by omega)) ?_
  (repeat (first | refine g ?_ | refine s_flat 1 [(.pure, [0, 1, 4, 6, 9, 10, 13, 14]), (.mem false, [2]), (.pure, [3]), (.mem false, [5, 7]), (.pure, [8]), (.mem false, [11]), (.pure, [12]), (.mem false, [15]), (.pure, [16]), (.mem false, [17]), (.pure, [18, 19, 20, 21, 22])] ?_))
  refine s_call (long_spec q c.size (by omega)) ?_
  (repeat (first | refine g ?_ | refine s_flat 1 [(.pure, [0, 1, 4, 6, 9, 10, 13, 14]), (.mem false, [2]), (.pure, [3]), (.mem false, [5, 7]), (.pure, [8]), (.mem false, [11]), (.pure, [12]), (.mem false, [15]), (.pure, [16]), (.mem false, [17]), (.pure, [18, 19, 20, 21, 22])] ?_))
  rw [framed_eq, show (0 : Int).toNat = 0 from rfl, show (32 : Int).toNat = 32 from rfl, key0_eq]
  refine s_call (refTag_spec q (Spec.key0 key nonce) (Spec.framed ad c) (key0_size _ _) hf) ?_
  (repeat (first | refine g ?_ | refine s_flat 1 [(.pure, [0, 1, 4, 6, 9, 10, 13, 14]), (.mem false, [2]), (.pure, [3]), (.mem false, [5, 7]), (.pure, [8]), (.mem false, [11]), (.pure, [12]), (.mem false, [15]), (.pure, [16]), (.mem false, [17]), (.pure, [18, 19, 20, 21, 22])] ?_))
  exact run_ret rfl (imp_RD rfl shut)
theorem streamed_len (key nonce : ByteArray) (n : Nat) (s : ByteArray) : (Spec.streamed key nonce n s).size = s.size := by
  show ((List.range s.size).map _).toArray.size = _
  rw [List.size_toArray, List.length_map, List.length_range]
attribute [local irreducible] Spec.taggedF Spec.streamed Spec.polyTag
/-- What is sealed: the document's answer. -/
def sealB (key nonce ad s : ByteArray) : ByteArray × Int :=
  if key.size = 32 ∧ nonce.size = 12 then (Spec.streamed key nonce 1 s ++ Spec.taggedF key nonce ad (Spec.streamed key nonce 1 s), 0) else (⟨#[]⟩, 1)
theorem refSeal_spec (q : View) (key nonce ad s : ByteArray) (h1 : ad.size ≤ 35184372088832) (h2 : s.size ≤ 137438953472) : FnD Try.prog q 21 [.string key, .string nonce, .string ad, .string s] [] (.tuple #[.string (sealB key nonce ad s).1, .int .i64 (sealB key nonce ad s).2]) [] := by
  unfold sealB
  have c := refStream_all q key nonce 1 s (by omega) (by decide) (by decide)
  unfold Spec.streamF at c
  by_cases hk : key.size = 32 ∧ nonce.size = 12
  · rw [if_pos hk, if_pos (by omega)] at c
    dsimp only at c
    rw [show (1 : Int).toNat = 1 from rfl] at c
    rw [if_pos hk]
    have zs := streamed_len key nonce 1 s
    have zt := taggedF_len key nonce ad (Spec.streamed key nonce 1 s)
    (first | refine FnD.go Try.call21 Try.func21 rfl rfl rfl ?_ | refine FnX.go Try.call21 Try.func21 rfl rfl rfl ?_)
    (repeat (first | refine g ?_))
    refine s_call c ?_
    (repeat (first | refine g ?_))
    refine s_call (mark_spec q key nonce ad (Spec.streamed key nonce 1 s) hk.1 hk.2 h1 (by omega)) ?_
    (repeat (first | refine g ?_))
    exact run_ret rfl (imp_RD rfl shut)
  · rw [if_neg hk] at c
    dsimp only at c
    rw [if_neg hk]
    (first | refine FnD.go Try.call21 Try.func21 rfl rfl rfl ?_ | refine FnX.go Try.call21 Try.func21 rfl rfl rfl ?_)
    (repeat (first | refine g ?_))
    refine s_call c ?_
    (repeat (first | refine g ?_))
    refine run_ret rfl (imp_RD ?_ shut)
    rfl
def openB (key nonce ad s : ByteArray) : ByteArray × Int :=
  if key.size = 32 ∧ nonce.size = 12 then
    if s.size < 16 then (⟨#[]⟩, 3) else
    if Spec.taggedF key nonce ad (s.extract 0 (s.size - 16)) = s.extract (s.size - 16) s.size then (Spec.streamed key nonce 1 (s.extract 0 (s.size - 16)), 0) else (⟨#[]⟩, 10)
  else (⟨#[]⟩, 1)
theorem refOpen_spec (q : View) (key nonce ad s : ByteArray) (h1 : ad.size ≤ 35184372088832) (h2 : s.size ≤ 137438953472) : FnD Try.prog q 23 [.string key, .string nonce, .string ad, .string s] [] (.tuple #[.string (openB key nonce ad s).1, .int .i64 (openB key nonce ad s).2]) [] := by
  unfold openB
  by_cases hk : key.size = 32 ∧ nonce.size = 12
  · rw [if_pos hk]
    obtain ⟨h32, h12⟩ := hk
    by_cases h16 : s.size < 16
    · rw [if_pos h16]
      (first | refine FnD.go Try.call23 Try.func23 rfl rfl rfl ?_ | refine FnX.go Try.call23 Try.func23 rfl rfl rfl ?_)
      (repeat (first | refine g ?_ | refine s_flat 6 [(.pure, [0, 1, 2, 3, 5, 6, 7, 8]), (.mem false, [4]), (.pure, [9])] ?_))
      exact run_ret rfl (imp_RD rfl shut)
    · rw [if_neg h16]
      have zc : (s.extract 0 (s.size - 16)).size = s.size - 16 := by rw [ByteArray.size_extract]; omega
      have ec : s.extract (0 : Int).toNat ((s.size : Int) - 16).toNat = s.extract 0 (s.size - 16) := by
        rw [show (0 : Int).toNat = 0 from rfl, show ((s.size : Int) - 16).toNat = s.size - 16 by omega]
      (first | refine FnD.go Try.call23 Try.func23 rfl rfl rfl ?_ | refine FnX.go Try.call23 Try.func23 rfl rfl rfl ?_)
      (repeat (first | refine g ?_ | refine s_flat 6 [(.pure, [0, 1, 2, 3, 5, 6, 7, 8]), (.mem false, [4]), (.pure, [9])] ?_))
      rw [ec]
      (repeat (first | refine g ?_ | refine s_flat 6 [(.pure, [0, 1, 2, 3, 5, 6, 7, 8]), (.mem false, [4]), (.pure, [9])] ?_))
      refine s_call (mark_spec q key nonce ad (s.extract 0 (s.size - 16)) h32 h12 h1 (by omega)) ?_
      (repeat (first | refine g ?_ | refine s_flat 6 [(.pure, [0, 1, 2, 3, 5, 6, 7, 8]), (.mem false, [4]), (.pure, [9])] ?_))
      rw [zc, show ((s.size - 16 : Nat) : Int).toNat = s.size - 16 from rfl, show ((s.size : Nat) : Int).toNat = s.size from rfl]
      refine run_cond_dec rfl ?_ ?_
      · intro h
        rw [if_neg h]
        (repeat (first | refine g ?_ | refine s_flat 6 [(.pure, [0, 1, 2, 3, 5, 6, 7, 8]), (.mem false, [4]), (.pure, [9])] ?_))
        exact run_ret rfl (imp_RD rfl shut)
      · intro h
        rw [if_pos (Decidable.not_not.1 h)]
        (repeat (first | refine g ?_ | refine s_flat 6 [(.pure, [0, 1, 2, 3, 5, 6, 7, 8]), (.mem false, [4]), (.pure, [9])] ?_))
        have c := refStream_all q key nonce 1 (s.extract 0 (s.size - 16)) (by omega) (by decide) (by decide)
        unfold Spec.streamF at c
        rw [if_pos ⟨h32, h12⟩, if_pos (by omega)] at c
        refine s_call c ?_
        (repeat (first | refine g ?_ | refine s_flat 6 [(.pure, [0, 1, 2, 3, 5, 6, 7, 8]), (.mem false, [4]), (.pure, [9])] ?_))
        exact run_ret rfl (imp_RD rfl shut)
  · rw [if_neg hk]
    by_cases h32 : key.size = 32
    · have h12 : ¬ nonce.size = 12 := fun h => hk ⟨h32, h⟩
      (first | refine FnD.go Try.call23 Try.func23 rfl rfl rfl ?_ | refine FnX.go Try.call23 Try.func23 rfl rfl rfl ?_)
      (repeat (first | refine g ?_ | refine s_flat 6 [(.pure, [0, 1, 2, 3, 5, 6, 7, 8]), (.mem false, [4]), (.pure, [9])] ?_))
      exact run_ret rfl (imp_RD rfl shut)
    · (first | refine FnD.go Try.call23 Try.func23 rfl rfl rfl ?_ | refine FnX.go Try.call23 Try.func23 rfl rfl rfl ?_)
      (repeat (first | refine g ?_ | refine s_flat 6 [(.pure, [0, 1, 2, 3, 5, 6, 7, 8]), (.mem false, [4]), (.pure, [9])] ?_))
      exact run_ret rfl (imp_RD rfl shut)
end Go.Proofs.Ytajjbgkbceobmaa.V
