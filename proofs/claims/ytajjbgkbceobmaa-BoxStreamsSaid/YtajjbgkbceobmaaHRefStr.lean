/- The reference's stream is the specification's. -/
import Derived.Test.YtajjbgkbceobmaaHRefStream
namespace Go.Proofs.Ytajjbgkbceobmaa.Pure
open Go.RowKit Go.Proofs.Ytajjbgkbceobmaa.B Go.Proofs.Ytajjbgkbceobmaa.Spec Go.Proofs.YtajjbgkbceobmaaW.PrintWords Go.Proofs.YtajjbgkbceobmaaW.PrintLast Go.Proofs.YtajjbgkbceobmaaW.PrintMore
set_option linter.unusedVariables false
/-- The block's text. -/
def blockS (key nonce : ByteArray) (n : Nat) : ByteArray := strOfNums (B.cast (Spec.block key nonce n))
theorem blockS_size (key nonce : ByteArray) (n : Nat) : (blockS key nonce n).size = 64 := by
  unfold blockS
  rw [strOfNums_cast, size_mk, List.length_map, block_length]
theorem blockS_at (key nonce : ByteArray) (n i : Nat) : byteAt (blockS key nonce n) i = at_ (Spec.block key nonce n) i := by
  unfold blockS
  rw [strOfNums_cast, byteAt_mk]
  have h := block_lt key nonce n
  unfold at_
  rw [List.getD_eq_getElem?_getD, List.getD_eq_getElem?_getD, List.getElem?_map]
  cases e : (Spec.block key nonce n)[i]? with
  | none => rfl
  | some v =>
    have := h v (List.mem_of_getElem? e)
    show (UInt8.ofNat v).toNat = v
    rw [UInt8.toNat_ofNat']
    omega
def outB (key nonce : ByteArray) (n : Nat) (s : ByteArray) (i : Nat) : List Nat := (List.range i).map fun j => byteAt s j ^^^ at_ (Spec.block key nonce (n + j / 64)) (j % 64)
theorem outB_succ (key nonce : ByteArray) (n : Nat) (s : ByteArray) (i : Nat) : outB key nonce n s (i + 1) = outB key nonce n s i ++ [byteAt s i ^^^ at_ (Spec.block key nonce (n + i / 64)) (i % 64)] := by unfold outB; rw [List.range_succ, List.map_append]; rfl
theorem outB_length (key nonce : ByteArray) (n : Nat) (s : ByteArray) (i : Nat) : (outB key nonce n s i).length = i := by simp [outB]
theorem stream_l0 (key nonce : ByteArray) (n : Nat) (s : ByteArray) (hk : key.size = 32) (hc : nonce.size = 12) (hs : s.size ≤ 140737488351232) (hn : n + (s.size + 63) / 64 ≤ M32) : ∀ (c i k : Nat) (t : ByteArray), i + c = s.size → c + 38 ≤ k → (i % 64 ≠ 0 → t = blockS key nonce (n + i / 64)) →
    grapnelref03_Stream.l0 k key nonce (n : Int) s (B.cast (outB key nonce n s i)) t (i : Int) = some (streamed key nonce n s, 0) := by
  intro c
  induction c with
  | zero =>
    intro i k t hi hk2 ht
    obtain ⟨k, rfl⟩ : ∃ m, k = m + 1 := ⟨k - 1, by omega⟩
    rw [grapnelref03_Stream.l0, if_neg (by omega), show i = s.size by omega, strOfNums_cast]
    unfold outB streamed
    rw [List.map_map]
    rfl
  | succ c ih =>
    intro i k t hi hk2 ht
    obtain ⟨k, rfl⟩ : ∃ m, k = m + 1 := ⟨k - 1, by omega⟩
    have f1 : (i + 1) + c = s.size := by omega
    have f2 : c + 38 ≤ k := by omega
    have f3 : 37 ≤ k := by omega
    have f4 : (i : Int) < (s.size : Int) := by omega
    have f5 : (0 : Int) ≤ (i : Int) := by omega
    have f6 : (0 : Int) ≤ ((i % 64 : Nat) : Int) := by omega
    have f7 : ((i % 64 : Nat) : Int) < ((64 : Nat) : Int) := by omega
    have hsame : (i + 1) % 64 ≠ 0 → (i + 1) / 64 = i / 64 := by omega
    have hq : i / 64 + 1 ≤ (s.size + 63) / 64 := by omega
    have hN : n + i / 64 < M32 := by generalize (s.size + 63) / 64 = u at hn hq; generalize i / 64 = v at hq ⊢; omega
    have hN2 : n + i / 64 < 4294967296 := hN
    have m1 : Int.tmod (i : Int) 64 = ((i % 64 : Nat) : Int) := by rw [show (64 : Int) = ((64 : Nat) : Int) from rfl, Int.ofNat_tmod]
    have d1 : Int.tdiv (i : Int) 64 = ((i / 64 : Nat) : Int) := by rw [show (64 : Int) = ((64 : Nat) : Int) from rfl, Int.ofNat_tdiv]
    have w1 : wrap64 ((i : Int) + 1) = ((i + 1 : Nat) : Int) := by unfold wrap64; omega
    have w2 : wrap64 ((n : Int) + ((i / 64 : Nat) : Int)) = ((n + i / 64 : Nat) : Int) := by
      rw [← Int.natCast_add]
      exact wrap64_nat _ (Nat.lt_trans hN2 (by decide))
    have hi64 : i / 64 < 9223372036854775808 := Nat.lt_of_le_of_lt (Nat.div_le_self i 64) (by clear hN hN2 hq hn ih ht; omega)
    clear hn hq
    have hi1 : i < s.size := by omega
    have hi2 : i % 64 < 64 := Nat.mod_lt _ (by decide)
    have lb := byteAt_lt s i
    have lk : at_ (Spec.block key nonce (n + i / 64)) (i % 64) < 256 := at_lt_of (block_lt key nonce _) (by decide) _
    have hx : ∀ u : ByteArray, u = blockS key nonce (n + i / 64) → Go.bits .xor .u8 (bt s (i : Int)) (bt u ((i % 64 : Nat) : Int)) = ((byteAt s i ^^^ at_ (Spec.block key nonce (n + i / 64)) (i % 64) : Nat) : Int) ∧ u.size = 64 := by
      intro u hu
      have h1 : u.size = 64 := by rw [hu, blockS_size]
      have h2 : byteAt u (i % 64) = at_ (Spec.block key nonce (n + i / 64)) (i % 64) := by rw [hu, blockS_at]
      clear hu
      refine ⟨?_, h1⟩
      rw [bt_nat s i hi1, bt_nat u (i % 64) (by rw [h1]; exact hi2), h2, u8_xor_nat _ _ lb lk]
    clear lb lk
    have happ : B.cast (outB key nonce n s i) ++ [((byteAt s i ^^^ at_ (Spec.block key nonce (n + i / 64)) (i % 64) : Nat) : Int)] = B.cast (outB key nonce n s (i + 1)) := by
      rw [outB_succ, cast_append]; rfl
    have hlen : (B.cast (outB key nonce n s i)).length < 140737488355328 := by
      rw [cast_length, outB_length]
      exact Nat.lt_of_lt_of_le hi1 (Nat.le_trans hs (by decide))
    have next : ∀ u, (((i + 1) % 64 ≠ 0) → u = blockS key nonce (n + (i + 1) / 64)) → grapnelref03_Stream.l0 k key nonce (n : Int) s (B.cast (outB key nonce n s (i + 1))) u ((i + 1 : Nat) : Int) = some (streamed key nonce n s, 0) :=
      fun u hu => ih (i + 1) k u f1 f2 hu
    rw [grapnelref03_Stream.l0, if_pos f4, m1]
    by_cases h0 : i % 64 = 0
    · obtain ⟨u, hu⟩ : ∃ u, u = blockS key nonce (n + i / 64) := ⟨_, rfl⟩
      have hb : grapnelref03_Block.f k key nonce ((n + i / 64 : Nat) : Int) = some u := by rw [hu]; exact block_f key nonce (n + i / 64) k hk hc hN f3
      obtain ⟨x1, x2⟩ := hx u hu
      rw [if_pos (show ((i % 64 : Nat) : Int) = 0 by rw [h0]; rfl), d1, wrap64_nat _ hi64, w2, hb, Option.bind_some]
      rw [if_pos f5, if_pos f6, if_pos (by rw [x2]; exact f7), if_pos hlen, x1, happ, w1]
      exact next _ fun h => by rw [hsame h]; exact hu
    · obtain ⟨x1, x2⟩ := hx t (ht h0)
      rw [if_neg (show ¬ ((i % 64 : Nat) : Int) = 0 from fun h => h0 (Int.ofNat_inj.1 h)), if_pos f5, if_pos f6, if_pos (by rw [x2]; exact f7), if_pos hlen, x1, happ, w1]
      exact next _ fun h => by rw [hsame h]; exact ht h0
end Go.Proofs.Ytajjbgkbceobmaa.Pure
