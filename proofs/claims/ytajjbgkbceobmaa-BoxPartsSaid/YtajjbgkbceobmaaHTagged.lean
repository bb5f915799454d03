/- box.tagged: the tag of what is sealed. -/
import Derived.Test.YtajjbgkbceobmaaHStream
import Derived.Test.YtajjbgkbceobmaaHTag
import Derived.Test.YtajjbgkbceobmaaFx1
import Derived.Test.YtajjbgkbceobmaaHBytes
namespace Go.Proofs.Ytajjbgkbceobmaa.B
open Go.RowKit Go.Proofs.YtajjbgkbceobmaaW.PrintWords Go.Proofs.Ytajjbgkbceobmaa.Spec
theorem Arr.string {P : Program} {w : World} {g : Nat} {t : TypeId} {xs : List Int} (h : Arr w g t .u8 xs) {src dst e : TypeId} (hs : P.underlying src = some (.slice e)) (he : P.underlying e = some (.int .u8)) (hd : P.underlying dst = some .string) (n cap : Nat) (hn : n ≤ xs.length) :
    (convert src dst (.slice (some ⟨g, 0, none⟩) n cap)).run P w = .ok (.string (strOfNums (xs.take n))) w := by
  refine run_convert_bytes_arg w src e hs he g 0 n cap (xs.take n) (by rw [List.length_take]; omega) (fun i hi => ?_) dst hd
  rw [Nat.zero_add, h.at_ i (by omega)]
  simp [el, List.getD_eq_getElem?_getD, List.getElem?_take_of_lt hi]
def box_tagged.f (a0 a1 a2 a3 : ByteArray) : Option ByteArray := if a0.size = 32 ∧ a1.size = 12 ∧ a2.size + a3.size ≤ 140737488351232 then some (Spec.taggedF a0 a1 a2 a3) else none
end Go.Proofs.Ytajjbgkbceobmaa.B
