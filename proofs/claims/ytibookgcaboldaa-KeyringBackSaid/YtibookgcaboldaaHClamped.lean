/- The reference's clamped. -/
import Derived.Test.YtibookgcaboldaaHBytes
namespace Go.Proofs.Ytibookgcaboldaa.B
open Go.RowKit Go.Proofs.YtibookgcaboldaaW.PrintWords Go.Proofs.Ytibookgcaboldaa.Spec
def grapnelref03_clamped.f (a0 : ByteArray) : Option ByteArray := if a0.size = 32 then some (Spec.clampedF a0) else none
end Go.Proofs.Ytibookgcaboldaa.B
