/- box.tagged: the tag of what is sealed. -/
import Derived.Test.YtajjbgkbceobmaaHStream
import Derived.Test.YtajjbgkbceobmaaHTag
import Derived.Test.YtajjbgkbceobmaaProg
import Derived.Below
import Derived.Deep.Draws
import Derived.Deep.AppendLies
import Derived.Maps.AppendAt
import Derived.OwnWalk
import Derived.Laws.BytesArg
import Derived.Laws.MakeOwn
import Derived.Laws.OwnMore
import Derived.Deep.OwnRows
import Derived.Tactics
import Derived.Lib.ConvBytes
import Derived.Laws.Slices
import Derived.WalkKit
import Derived.KernelRfl
import Derived.RowKit3
import Derived.Deep.LoopGhost
import Derived.Deep.QuietTactic
import Derived.BigQuiet
import Derived.WideLaws
import Derived.Deep.DeepCutAuto
import Derived.Deep.CutBlock
import Derived.Deep.RegionHeld3
import Derived.Laws.Rows
import Derived.Lib.AppendStr
import Derived.ArgAppend
import Derived.Laws.IdiomCopy
import Derived.OrdersHeld
import Derived.Laws.BitsLemmas
import Derived.RowKit
import Derived.Test.YtajjbgkbceobmaaWWords
import Derived.Test.YtajjbgkbceobmaaWLast
import Derived.Test.YtajjbgkbceobmaaWTab
import Derived.Test.YtajjbgkbceobmaaWApart
import Derived.Test.YtajjbgkbceobmaaWArr
import Derived.Test.YtajjbgkbceobmaaWKept
import Derived.Test.YtajjbgkbceobmaaWShare
import Derived.Test.YtajjbgkbceobmaaWN
import Derived.Laws.StructEq
import Derived.Test.YtajjbgkbceobmaaWRepsOne
import Derived.Test.YtajjbgkbceobmaaWMore
import Derived.Test.YtajjbgkbceobmaaHBytes
namespace Go.Proofs.Ytajjbgkbceobmaa.B
open Go.RowKit Go.Proofs.YtajjbgkbceobmaaW.PrintWords Go.Proofs.Ytajjbgkbceobmaa.Spec
theorem Arr.string {P : Program} {w : World} {g : Nat} {t : TypeId} {xs : List Int} (h : Arr w g t .u8 xs) {src dst e : TypeId} (hs : P.underlying src = some (.slice e)) (he : P.underlying e = some (.int .u8)) (hd : P.underlying dst = some .string) (n cap : Nat) (hn : n ≤ xs.length) :
    (convert src dst (.slice (some ⟨g, 0, none⟩) n cap)).run P w = .ok (.string (strOfNums (xs.take n))) w := by
  refine run_convert_bytes_arg w src e hs he g 0 n cap (xs.take n) (by rw [List.length_take]; omega) (fun i hi => ?_) dst hd
  rw [Nat.zero_add, h.at_ i (by omega)]
  simp [el, List.getD_eq_getElem?_getD, List.getElem?_take_of_lt hi]
end Go.Proofs.Ytajjbgkbceobmaa.B
