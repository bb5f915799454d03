/- The reference's clamped. -/
import Derived.Test.YteengkkbedijdaaHBytes
namespace Go.Proofs.Yteengkkbedijdaa.B
open Go.RowKit Go.Proofs.YteengkkbedijdaaW.PrintWords Go.Proofs.Yteengkkbedijdaa.Spec
def grapnelref03_clamped.f (a0 : ByteArray) : Option ByteArray := if a0.size = 32 then some (Spec.clampedF a0) else none
end Go.Proofs.Yteengkkbedijdaa.B
