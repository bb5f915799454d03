/- Plain laws of the key stream: its size, twice over, part by part; cuts of texts. -/
import Derived.Test.YtajjbgkbceobmaaHAwake
import Derived.Test.YtajjbgkbceobmaaHStream
import Derived.Test.YtajjbgkbceobmaaBx8
namespace Go.Proofs.Ytajjbgkbceobmaa.B
open Go.RowKit Go.Proofs.YtajjbgkbceobmaaW.PrintWords Go.Proofs.Ytajjbgkbceobmaa.Spec
theorem size_mk (l : List UInt8) : (⟨l.toArray⟩ : ByteArray).size = l.length := rfl
theorem byteAt_mk (l : List UInt8) (i : Nat) : byteAt ⟨l.toArray⟩ i = (l.getD i 0).toNat := by
  unfold byteAt at_ nats
  simp only [List.getD_eq_getElem?_getD, List.getElem?_map]
  cases l[i]? <;> rfl
theorem stream_f (a0 a1 : ByteArray) (a2 : Int) (a3 : ByteArray) (h : a3.size ≤ 140737488351232) (h1 : -9223372036854775808 ≤ a2) (h2 : a2 ≤ 9223372036854775807) : box_Stream.f a0 a1 a2 a3 = some (streamF a0 a1 a2 a3) := by
  unfold box_Stream.f
  rw [if_pos ⟨h, h1, h2⟩]
/-- The text, or its first n bytes. -/
def cutS (s : ByteArray) (n : Nat) : ByteArray := if n < s.size then s.extract 0 n else s
theorem cutS_size (s : ByteArray) (n : Nat) : (cutS s n).size = min s.size n := by
  unfold cutS
  split
  · rw [ByteArray.size_extract]; omega
  · omega
theorem cut_f (s : ByteArray) (n : Nat) : grapnellaw03_cut.f s (n : Int) = some (cutS s n) := by
  unfold grapnellaw03_cut.f cutS
  by_cases h : n < s.size
  · rw [if_pos (by omega), if_pos (by omega), if_pos (by omega), if_pos h, Int.toNat_natCast]
  · rw [if_neg (by omega), if_neg h]
end Go.Proofs.Ytajjbgkbceobmaa.B
