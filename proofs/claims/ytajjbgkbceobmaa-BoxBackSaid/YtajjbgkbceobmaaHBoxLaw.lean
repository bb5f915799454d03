/- Plain laws of the key stream: its size, twice over, part by part; cuts of texts. -/
import Derived.Test.YtajjbgkbceobmaaHAwake
import Derived.Test.YtajjbgkbceobmaaHStream
import Derived.Test.YtajjbgkbceobmaaBx8
namespace Go.Proofs.Ytajjbgkbceobmaa.B
open Go.RowKit Go.Proofs.YtajjbgkbceobmaaW.PrintWords Go.Proofs.Ytajjbgkbceobmaa.Spec
theorem size_mk (l : List UInt8) : (⟨l.toArray⟩ : ByteArray).size = l.length := rfl
theorem streamed_size (key nonce : ByteArray) (n : Nat) (s : ByteArray) : (streamed key nonce n s).size = s.size := by
  unfold streamed
  rw [size_mk, List.length_map, List.length_range]
theorem byteAt_mk (l : List UInt8) (i : Nat) : byteAt ⟨l.toArray⟩ i = (l.getD i 0).toNat := by
  unfold byteAt at_ nats
  simp only [List.getD_eq_getElem?_getD, List.getElem?_map]
  cases l[i]? <;> rfl
theorem byteAt_streamed (key nonce : ByteArray) (n : Nat) (s : ByteArray) (i : Nat) (h : i < s.size) : byteAt (streamed key nonce n s) i = byteAt s i ^^^ at_ (Spec.block key nonce (n + i / 64)) (i % 64) := by
  unfold streamed
  rw [byteAt_mk]
  have l1 := byteAt_lt s i
  have l2 := at_lt_of (block_lt key nonce (n + i / 64)) (by decide) (i % 64)
  have l3 : byteAt s i ^^^ at_ (Spec.block key nonce (n + i / 64)) (i % 64) < 256 := Nat.xor_lt_two_pow (n := 8) l1 l2
  rw [List.getD_eq_getElem?_getD, List.getElem?_map, List.getElem?_range h]
  simp only [Option.map_some, Option.getD_some]
  rw [UInt8.toNat_ofNat']
  exact Nat.mod_eq_of_lt l3
theorem bytes_of_at {a b : ByteArray} (hs : a.size = b.size) (h : ∀ j, j < a.size → byteAt a j = byteAt b j) : a = b := by
  have hn : nats a = nats b := by
    rw [nats_eq, nats_eq, ← hs]
    apply List.map_congr_left
    intro k hk
    exact h k (by simpa using hk)
  apply bytes_ext
  exact (List.map_inj_right (fun _ _ h => UInt8.toNat.inj h)).1 hn
theorem streamed_twice (key nonce : ByteArray) (n : Nat) (s : ByteArray) : streamed key nonce n (streamed key nonce n s) = s := by
  apply bytes_of_at
  · rw [streamed_size, streamed_size]
  · intro j hj
    rw [streamed_size, streamed_size] at hj
    rw [byteAt_streamed _ _ _ _ _ (by rw [streamed_size]; exact hj), byteAt_streamed _ _ _ _ _ hj, Nat.xor_assoc, Nat.xor_self, Nat.xor_zero]
theorem stream_f (a0 a1 : ByteArray) (a2 : Int) (a3 : ByteArray) (h : a3.size ≤ 140737488351232) (h1 : -9223372036854775808 ≤ a2) (h2 : a2 ≤ 9223372036854775807) : box_Stream.f a0 a1 a2 a3 = some (streamF a0 a1 a2 a3) := by
  unfold box_Stream.f
  rw [if_pos ⟨h, h1, h2⟩]
/-- The text, or its first n bytes. -/
def cutS (s : ByteArray) (n : Nat) : ByteArray := if n < s.size then s.extract 0 n else s
theorem cutS_size (s : ByteArray) (n : Nat) : (cutS s n).size = min s.size n := by
  unfold cutS
  split
  · rw [ByteArray.size_extract]; omega
  · omega
theorem cut_f (s : ByteArray) (n : Nat) : grapnellaw03_cut.f s (n : Int) = some (cutS s n) := by
  unfold grapnellaw03_cut.f cutS
  by_cases h : n < s.size
  · rw [if_pos (by omega), if_pos (by omega), if_pos (by omega), if_pos h, Int.toNat_natCast]
  · rw [if_neg (by omega), if_neg h]
theorem whole_f (s : ByteArray) (n : Nat) (hn : n < 1000) : ∃ t, grapnellaw03_whole.f s (n : Int) = some t ∧ t.size = n := by
  unfold grapnellaw03_whole.f
  rw [cut_f, Option.bind_some]
  have hc := cutS_size s n
  generalize cutS s n = c at hc ⊢
  have hw : wrap64 ((n : Int) - (c.size : Int)) = ((n - c.size : Nat) : Int) := by unfold wrap64; omega
  have hz : (strOfNums (List.replicate (n - c.size) (0 : Int))).size = n - c.size := by
    unfold strOfNums
    rw [size_mk, List.length_map, List.length_replicate]
  rw [hw, if_pos (by omega), Int.toNat_natCast, if_pos (by omega), Option.bind_some, if_pos (by rw [hz]; omega)]
  exact ⟨_, rfl, by rw [ByteArray.size_append, hz]; omega⟩
theorem whole32 (s : ByteArray) : ∃ t, grapnellaw03_whole.f s 32 = some t ∧ t.size = 32 := whole_f s 32 (by decide)
theorem whole12 (s : ByteArray) : ∃ t, grapnellaw03_whole.f s 12 = some t ∧ t.size = 12 := whole_f s 12 (by decide)
theorem leB_len (n c : Nat) : (leB n c).length = c := by
  induction c generalizing n with
  | zero => rfl
  | succ c ih => simp [leB, ih]
theorem polyTag_size (key s : ByteArray) : (polyTag key s).size = 16 := by
  unfold polyTag
  rw [size_mk, leB_len]
end Go.Proofs.Ytajjbgkbceobmaa.B
