/- The reference's clamped. -/
import Derived.Test.YtajjbgkbceobmaaHBytes
namespace Go.Proofs.Ytajjbgkbceobmaa.B
open Go.RowKit Go.Proofs.YtajjbgkbceobmaaW.PrintWords Go.Proofs.Ytajjbgkbceobmaa.Spec
def grapnelref03_clamped.f (a0 : ByteArray) : Option ByteArray := if a0.size = 32 then some (Spec.clampedF a0) else none
end Go.Proofs.Ytajjbgkbceobmaa.B
