/- box.Same tells two texts to be one just if they are. -/
import Derived.Test.YtajjbgkbceobmaaHAwake
import Derived.Test.YtajjbgkbceobmaaHStream
namespace Go.Proofs.Ytajjbgkbceobmaa.Pure
open Go.RowKit Go.Proofs.Ytajjbgkbceobmaa.B Go.Proofs.Ytajjbgkbceobmaa.Spec Go.Proofs.YtajjbgkbceobmaaW.PrintWords Go.Proofs.YtajjbgkbceobmaaW.PrintLast
theorem bt_nat (s : ByteArray) (i : Nat) (h : i < s.size) : bt s (i : Int) = (byteAt s i : Int) := by
  rw [← bt_at s (i : Int) (by simpa using h)]
  exact nat_at s i h
end Go.Proofs.Ytajjbgkbceobmaa.Pure
