/- The reference's stream, and what is sealed by it. -/
import Derived.Test.YtajjbgkbceobmaaRC3
import Derived.Test.YtajjbgkbceobmaaRD5
set_option maxRecDepth 10000
set_option linter.unusedVariables false
namespace Go.Proofs.Ytajjbgkbceobmaa.V
open Go.Proofs.Ytajjbgkbceobmaa.VL Go.Proofs.Ytajjbgkbceobmaa.VL.RD
attribute [local irreducible] Run
def strL (key nonce : ByteArray) (n : Nat) (s : ByteArray) (i : Nat) : List UInt8 := (List.range i).map fun j => UInt8.ofNat (Spec.byteAt s j ^^^ Spec.at_ (Spec.block key nonce (n + j / 64)) (j % 64))
theorem strL_len (key nonce : ByteArray) (n : Nat) (s : ByteArray) (i : Nat) : (strL key nonce n s i).length = i := by simp [strL]
theorem strL_snoc (key nonce : ByteArray) (n : Nat) (s : ByteArray) (i : Nat) : strL key nonce n s (i + 1) = strL key nonce n s i ++ [UInt8.ofNat (Spec.byteAt s i ^^^ Spec.at_ (Spec.block key nonce (n + i / 64)) (i % 64))] := by simp [strL, List.range_succ]
theorem blockB_len (key nonce : ByteArray) (n : Nat) : (Spec.block key nonce n).length = 64 := by
  have := outB_len (Spec.state key nonce n) 16
  rw [outB_all, List.length_map] at this; exact this
theorem blockB_size (key nonce : ByteArray) (n : Nat) : (blockB key nonce n).size = 64 := by
  show ((Spec.block key nonce n).map UInt8.ofNat).toArray.size = 64
  rw [List.size_toArray, List.length_map, blockB_len]
theorem block_lt (key nonce : ByteArray) (n : Nat) : ∀ x ∈ Spec.block key nonce n, x < 256 := by
  intro x hx
  unfold Spec.block Spec.wordBytes at hx
  simp only [List.mem_flatMap, List.mem_cons, List.not_mem_nil, or_false] at hx
  obtain ⟨w, _, hx⟩ := hx
  omega
theorem bAt_block (key nonce : ByteArray) (n j : Nat) (hj : j < 64) : bAt (blockB key nonce n) j = (Spec.at_ (Spec.block key nonce n) j : Int) := by
  unfold bAt blockB Spec.at_
  rw [List.getD_eq_getElem?_getD, List.getD_eq_getElem?_getD, List.getElem?_map]
  have hl := blockB_len key nonce n
  rw [List.getElem?_eq_getElem (by rw [hl]; exact hj)]
  simp only [Option.map_some, Option.getD_some]
  rw [UInt8.toNat_ofNat', Nat.mod_eq_of_lt (block_lt key nonce n _ (List.getElem_mem _))]
theorem at_block_lt (key nonce : ByteArray) (n j : Nat) : Spec.at_ (Spec.block key nonce n) j < 256 := by
  unfold Spec.at_
  rw [List.getD_eq_getElem?_getD]
  cases h : (Spec.block key nonce n)[j]? with
  | none => decide
  | some x => exact block_lt key nonce n x (List.mem_of_getElem? h)
theorem refStream_ok (q : View) (key nonce : ByteArray) (n : Nat) (s : ByteArray) (hk : key.size = 32) (hc : nonce.size = 12) (hs : s.size ≤ 140737488351232) (hn : n < 4294967296) (hf : (s.size + 63) / 64 + n ≤ 4294967296) :
    FnD Try.prog q 18 [.string key, .string nonce, .int .i64 n, .string s] [] (.tuple #[.string (Spec.streamed key nonce n s), .int .i64 0]) [] := by
  (first | refine FnD.go Try.call18 Try.func18 rfl rfl rfl ?_ | refine FnX.go Try.call18 Try.func18 rfl rfl rfl ?_)
  (repeat (first | refine g ?_ | refine s_flat 12 [(.pure, [0, 1, 2, 3, 4, 5, 6, 7, 8]), (.mem false, [9, 10]), (.pure, [11])] ?_))
  refine run_loopI (X := Nat × Option Addr × Nat × ByteArray) (fun x => x.1 ≤ s.size ∧ (x.1 % 64 ≠ 0 → x.2.2.2 = blockB key nonce (n + x.1 / 64))) (fun x => [(0, .string key), (1, .string nonce), (2, .int .i64 n), (3, .string s), (10, .slice x.2.1 x.1 x.2.2.1), (11, .string x.2.2.2), (12, .int .i64 (x.1 : Int))])
    (fun x => [sl x.2.1 x.1 x.2.2.1 5 1 (bv (strL key nonce n s x.1))]) (fun x => s.size - x.1) (0, none, 0, ⟨#[]⟩) ⟨Nat.zero_le _, fun h => absurd rfl h⟩ fct shut ?_
  intro ⟨i, p, c, kb⟩ ⟨hi, hkb⟩
  dsimp only at *
  (repeat (first | refine g ?_ | refine s_flat 12 [(.pure, [0, 1, 2, 3, 4, 5, 6, 7, 8]), (.mem false, [9, 10]), (.pure, [11])] ?_))
  refine run_cond_dec rfl ?_ ?_
  · intro h
    (repeat (first | refine g ?_ | refine s_flat 12 [(.pure, [0, 1, 2, 3, 4, 5, 6, 7, 8]), (.mem false, [9, 10]), (.pure, [11])] ?_))
    refine run_cut (X := Unit) (fun _ => [(0, .string key), (1, .string nonce), (2, .int .i64 n), (3, .string s), (10, .slice p i c), (11, .string (blockB key nonce (n + i / 64))), (12, .int .i64 (i : Int))]) (fun _ => [sl p i c 5 1 (bv (strL key nonce n s i))]) ?_ fun _ => ?_
    · refine run_cond_dec rfl ?_ ?_
      · intro h2
        (repeat (first | refine g ?_ | refine s_flat 12 [(.pure, [0, 1, 2, 3, 4, 5, 6, 7, 8]), (.mem false, [9, 10]), (.pure, [11])] ?_))
        have cb := refBlock_spec q key nonce (n + i / 64) hk hc (by omega)
        rw [show ((n + i / 64 : Nat) : Int) = (n : Int) + (i : Int) / 64 by omega] at cb
        refine s_call cb ?_
        (repeat (first | refine g ?_ | refine s_flat 12 [(.pure, [0, 1, 2, 3, 4, 5, 6, 7, 8]), (.mem false, [9, 10]), (.pure, [11])] ?_))
        exact run_stop_loop () trivial fct shut
      · intro h2
        rw [hkb (by omega)]
        (repeat (first | refine g ?_ | refine s_flat 12 [(.pure, [0, 1, 2, 3, 4, 5, 6, 7, 8]), (.mem false, [9, 10]), (.pure, [11])] ?_))
        exact run_stop_loop () trivial fct shut
    have hz := blockB_size key nonce (n + i / 64)
    have b1 := bAt_lt s (i : Int).toNat
    have b2 := bAt_lt (blockB key nonce (n + i / 64)) ((i : Int) % 64).toNat
    (repeat (first | refine g ?_ | refine s_flat 12 [(.pure, [0, 1, 2, 3, 4, 5, 6, 7, 8]), (.mem false, [9, 10]), (.pure, [11])] ?_))
    refine s_built fun r1 => ?_
    (repeat (first | refine g ?_ | refine s_flat 12 [(.pure, [0, 1, 2, 3, 4, 5, 6, 7, 8]), (.mem false, [9, 10]), (.pure, [11])] ?_))
    refine s_app 1 1 (reads_own At.head rfl) (hxl := by rw [bv_length, strL_len, Nat.mul_one]) fun r2 => ?_
    have e : bv (strL key nonce n s i) ++ [Value.int .u8 (((bAt s (i : Int).toNat).toNat ^^^ (bAt (blockB key nonce (n + i / 64)) ((i : Int) % 64).toNat).toNat : Nat) : Int)] = bv (strL key nonce n s (i + 1)) := by
      rw [strL_snoc, bv_append, Int.toNat_natCast, bAt_byteAt, show ((i : Int) % 64).toNat = i % 64 by omega, bAt_block _ _ _ _ (Nat.mod_lt _ (by decide)), Int.toNat_natCast, Int.toNat_natCast]
      have : Spec.byteAt s i ^^^ Spec.at_ (Spec.block key nonce (n + i / 64)) (i % 64) < 256 := Nat.xor_lt_two_pow (n := 8) (word_lt s i) (at_block_lt _ _ _ _)
      unfold bv
      simp only [List.map_cons, List.map_nil]
      rw [UInt8.toNat_ofNat', Nat.mod_eq_of_lt this]
    refine s_eq e ?_
    (repeat (first | refine g ?_ | refine s_flat 12 [(.pure, [0, 1, 2, 3, 4, 5, 6, 7, 8]), (.mem false, [9, 10]), (.pure, [11])] ?_))
    refine run_stop_loop (i + 1, r2.1, r2.2, blockB key nonce (n + i / 64)) ?_ fct shut
    exact ⟨⟨by dsimp only; omega, fun h9 => by dsimp only at *; rw [show (i + 1) / 64 = i / 64 by omega]⟩, by dsimp only; omega⟩
  · intro h
    obtain rfl : i = s.size := by omega
    (repeat (first | refine g ?_ | refine s_flat 12 [(.pure, [0, 1, 2, 3, 4, 5, 6, 7, 8]), (.mem false, [9, 10]), (.pure, [11])] ?_))
    refine s_string ?_
    (repeat (first | refine g ?_ | refine s_flat 12 [(.pure, [0, 1, 2, 3, 4, 5, 6, 7, 8]), (.mem false, [9, 10]), (.pure, [11])] ?_))
    exact run_ret rfl (imp_RD rfl shut)
theorem refStream_all (q : View) (key nonce : ByteArray) (n : Int) (s : ByteArray) (hs : s.size ≤ 140737488351232) (n1 : -9223372036854775808 ≤ n) (n2 : n ≤ 9223372036854775807) :
    FnD Try.prog q 18 [.string key, .string nonce, .int .i64 n, .string s] [] (.tuple #[.string (Spec.streamF key nonce n s).1, .int .i64 (Spec.streamF key nonce n s).2]) [] := by
  unfold Spec.streamF
  by_cases hk : key.size = 32 ∧ nonce.size = 12
  · rw [if_pos hk]
    obtain ⟨h32, h12⟩ := hk
    by_cases hn : 0 ≤ n ∧ n < 4294967296 ∧ ((s.size : Int) + 63) / 64 ≤ 4294967296 - n
    · rw [if_pos hn]
      obtain ⟨m, rfl⟩ : ∃ m : Nat, n = m := ⟨n.toNat, by omega⟩
      exact refStream_ok q key nonce m s h32 h12 hs (by omega) (by omega)
    · rw [if_neg hn]
      (first | refine FnD.go Try.call18 Try.func18 rfl rfl rfl ?_ | refine FnX.go Try.call18 Try.func18 rfl rfl rfl ?_)
      (repeat (first | refine g ?_ | refine s_flat 12 [(.pure, [0, 1, 2, 3, 4, 5, 6, 7, 8]), (.mem false, [9, 10]), (.pure, [11])] ?_))
      by_cases c1 : n < 0
      · (repeat (first | refine g ?_ | refine s_flat 12 [(.pure, [0, 1, 2, 3, 4, 5, 6, 7, 8]), (.mem false, [9, 10]), (.pure, [11])] ?_))
        exact run_ret rfl (imp_RD rfl shut)
      · by_cases c2 : 4294967295 < n
        · (repeat (first | refine g ?_ | refine s_flat 12 [(.pure, [0, 1, 2, 3, 4, 5, 6, 7, 8]), (.mem false, [9, 10]), (.pure, [11])] ?_))
          exact run_ret rfl (imp_RD rfl shut)
        · (repeat (first | refine g ?_ | refine s_flat 12 [(.pure, [0, 1, 2, 3, 4, 5, 6, 7, 8]), (.mem false, [9, 10]), (.pure, [11])] ?_))
          exact run_ret rfl (imp_RD rfl shut)
  · rw [if_neg hk]
    (first | refine FnD.go Try.call18 Try.func18 rfl rfl rfl ?_ | refine FnX.go Try.call18 Try.func18 rfl rfl rfl ?_)
    by_cases h32 : key.size = 32
    · have h12 : ¬ nonce.size = 12 := fun h => hk ⟨h32, h⟩
      (repeat (first | refine g ?_ | refine s_flat 12 [(.pure, [0, 1, 2, 3, 4, 5, 6, 7, 8]), (.mem false, [9, 10]), (.pure, [11])] ?_))
      exact run_ret rfl (imp_RD rfl shut)
    · (repeat (first | refine g ?_ | refine s_flat 12 [(.pure, [0, 1, 2, 3, 4, 5, 6, 7, 8]), (.mem false, [9, 10]), (.pure, [11])] ?_))
      exact run_ret rfl (imp_RD rfl shut)
end Go.Proofs.Ytajjbgkbceobmaa.V
