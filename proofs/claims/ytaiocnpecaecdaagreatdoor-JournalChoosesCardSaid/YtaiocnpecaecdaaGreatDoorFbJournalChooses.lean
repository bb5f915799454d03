/- The row of the law JournalChooses, for every input: out of its contract on views of memory; and its card, the variable of package errors tied to the program's text. -/
import Derived.Test.YtaiocnpecaecdaaGreatDoorGh
import Derived.Test.YtaiocnpecaecdaaGreatDoorRows
import Derived.Test.YtaiocnpecaecdaaGreatDoorCards
import Derived.Test.YtaiocnpecaecdaaGreatDoorTie
import Derived.Test.YtaiocnpecaecdaaGreatDoorGg
import Derived.Test.YtaiocnpecaecdaaGreatDoorVLc
import Derived.WalkKit
import Derived.ProofKit
import Derived.OpenShut
import Derived.ShutString
import Derived.ChangeOld
import Derived.Below
import Derived.SizedLaws
import Derived.SevenTiedAt
import Derived.ChangeSame
import Derived.ChangeVars
import Derived.JoinedOf
import Derived.LaidLaws
import Derived.LaidHandle
import Derived.Stop.Joined
import Derived.RowKit
import Derived.RowKitTokens
set_option linter.unusedVariables false
namespace Go.Proofs.YtaiocnpecaecdaaGreatDoor.journalChooses
open Go.ChangeShapes Go.WideShapes Go.ChangeAt Go.RowKit Go.Proofs.YtaiocnpecaecdaaGreatDoor.VL
open Go.ChangeMaps (open_string shut_string)
theorem fact13 : ((Rows.journalChoosesRow.maps == (Tryz.f4.params.toList ++ Rows.journalChoosesSpec.plain.varTypes Tryz.pinned.checked.prog).any (Tryz.pinned.checked.prog.mapsRec ·))) = true := by kernel_rfl
theorem fact14 : ((Rows.journalChoosesRow.ifaces == (Tryz.f4.params.toList ++ Rows.journalChoosesSpec.plain.varTypes Tryz.pinned.checked.prog).any (Tryz.pinned.checked.prog.ifacesRec ·))) = true := by kernel_rfl
theorem fact15 : ((Rows.journalChoosesRow.mapsOut == Tryz.pinned.checked.prog.mapsAmong Tryz.f4.resultTypes.toList)) = true := by kernel_rfl
theorem fact16 : ((Rows.journalChoosesRow.loops == (Tryz.f4.params.toList ++ Rows.journalChoosesSpec.plain.varTypes Tryz.pinned.checked.prog).any (Tryz.pinned.checked.prog.loopsFrom ·))) = true := by kernel_rfl
theorem fact17 : ((Rows.journalChoosesRow.wideKeys == (Tryz.f4.params.toList ++ Rows.journalChoosesSpec.plain.varTypes Tryz.pinned.checked.prog ++ Tryz.f4.resultTypes.toList).any (Tryz.pinned.checked.prog.wideKeysFrom ·))) = true := by kernel_rfl
theorem fact18 : (Rows.journalChoosesSpec.vars.all (Tryz.pinned.checked.prog.varReadable ·)) = true := by kernel_rfl
theorem fact19 : (Tryz.f4.resultTypes.all (fun t => Tryz.pinned.checked.prog.readableRec t && decide (t < Tryz.pinned.checked.prog.types.size))) = true := by kernel_rfl
theorem fact20 : ((Rows.journalChoosesRow.ifacesOut == Tryz.f4.resultTypes.toList.any (Tryz.pinned.checked.prog.ifacesRec ·))) = true := by kernel_rfl
theorem fact21 : ((Rows.journalChoosesRow.loopsOut == Tryz.f4.resultTypes.toList.any (Tryz.pinned.checked.prog.loopsFrom ·))) = true := by kernel_rfl
theorem fact22 : ((Rows.journalChoosesRow.plainKeys == Tryz.pinned.checked.prog.plainKeys)) = true := by kernel_rfl
theorem fact23 : (Rows.journalChoosesRow.shortTexts.isNone) = true := by kernel_rfl
theorem fact24 : (Tryz.pinned.checked.prog.stopsHeard) = true := by kernel_rfl
theorem fact25 : (Tryz.pinned.checked.prog.mayEnter) = true := by kernel_rfl
theorem fact26 : ((Rows.journalChoosesRow.lifted == Tryz.pinned.checked.prog.liftsFinal)) = true := by kernel_rfl
theorem fact27 : ((Tryz.pinned.checked.prog.make == some Rows.journalChoosesRow.make)) = true := by kernel_rfl
theorem fact28 : ((Rows.journalChoosesRow.kinds == (if Rows.journalChoosesRow.domain.isEmpty then [] else Tryz.f4.params.toList.map fun t => match Tryz.pinned.checked.prog.underlying t with | some (.int k) => some k | _ => none))) = true := by kernel_rfl
theorem fact29 : ((Rows.journalChoosesRow.pinned == Rows.journalChoosesRow.pinnedBy)) = true := by kernel_rfl
theorem fact30 : ((Rows.journalChoosesRow.veiled == (Tryz.f4.params.toList ++ Rows.journalChoosesSpec.plain.varTypes Tryz.pinned.checked.prog ++ Tryz.f4.resultTypes.toList).any (Tryz.pinned.checked.prog.veiledRec ·))) = true := by kernel_rfl
theorem fact31 : (Rows.journalChoosesRow.veiledFits Tryz.pinned.checked.prog Tryz.f4.params.toList (Tryz.f4.params.toList ++ Rows.journalChoosesSpec.plain.varTypes Tryz.pinned.checked.prog ++ Tryz.f4.resultTypes.toList)) = true := by kernel_rfl
end Go.Proofs.YtaiocnpecaecdaaGreatDoor.journalChooses
