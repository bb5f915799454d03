/- Plain laws of the key stream: its size, twice over, part by part; cuts of texts. -/
import Derived.Test.YtajjbgkbceobmaaHAwake
import Derived.Test.YtajjbgkbceobmaaHStream
import Derived.Test.YtajjbgkbceobmaaBx8
namespace Go.Proofs.Ytajjbgkbceobmaa.B
open Go.RowKit Go.Proofs.YtajjbgkbceobmaaW.PrintWords Go.Proofs.Ytajjbgkbceobmaa.Spec
theorem stream_f (a0 a1 : ByteArray) (a2 : Int) (a3 : ByteArray) (h : a3.size ≤ 140737488351232) (h1 : -9223372036854775808 ≤ a2) (h2 : a2 ≤ 9223372036854775807) : box_Stream.f a0 a1 a2 a3 = some (streamF a0 a1 a2 a3) := by
  unfold box_Stream.f
  rw [if_pos ⟨h, h1, h2⟩]
end Go.Proofs.Ytajjbgkbceobmaa.B
