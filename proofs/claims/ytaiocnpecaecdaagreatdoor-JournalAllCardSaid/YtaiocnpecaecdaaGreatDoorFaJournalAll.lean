/- The row of the law JournalAll, for every input: out of its contract on views of memory; and its card, the variable of package errors tied to the program's text. -/
import Derived.Test.YtaiocnpecaecdaaGreatDoorGh
import Derived.Test.YtaiocnpecaecdaaGreatDoorRows
import Derived.Test.YtaiocnpecaecdaaGreatDoorCards
import Derived.Test.YtaiocnpecaecdaaGreatDoorTie
import Derived.Test.YtaiocnpecaecdaaGreatDoorVLc
import Derived.WalkKit
import Derived.ProofKit
import Derived.OpenShut
import Derived.ShutString
import Derived.ChangeOld
import Derived.Below
import Derived.SizedLaws
import Derived.SevenTiedAt
import Derived.ChangeSame
import Derived.ChangeVars
import Derived.JoinedOf
import Derived.LaidLaws
import Derived.LaidHandle
import Derived.Stop.Joined
import Derived.RowKit
import Derived.RowKitTokens
set_option linter.unusedVariables false
namespace Go.Proofs.YtaiocnpecaecdaaGreatDoor.journalAll
open Go.ChangeShapes Go.WideShapes Go.ChangeAt Go.RowKit Go.Proofs.YtaiocnpecaecdaaGreatDoor.VL
open Go.ChangeMaps (open_string shut_string)
theorem fact0 : (Rows.journalAllRow.wf (OpenSpec.ofChange Rows.journalAllSpec)) = true := by kernel_rfl
theorem fact1 : (laidOutB Tryz.pinned.checked.prog) = true := by kernel_rfl
theorem fact2 : (mapsRowed Tryz.pinned.checked.prog) = true := by kernel_rfl
theorem fact3 : (Tryz.f6.params.all (Tryz.pinned.checked.prog.readableRec ·)) = true := by kernel_rfl
theorem fact4 : (namedTie Tryz.pinned.checked.prog Rows.journalAllRow.named Rows.journalAllSpec.vars) = true := by kernel_rfl
theorem fact5 : ((Rows.journalAllRow.stops == [])) = true := by kernel_rfl
theorem fact6 : ((Tryz.pinned.checked.prog.stops == [])) = true := by kernel_rfl
theorem fact7 : ((Rows.journalAllRow.knobs == [])) = true := by kernel_rfl
theorem fact8 : ((Tryz.pinned.checked.prog.stopKnobs == [])) = true := by kernel_rfl
theorem fact9 : ((Rows.journalAllRow.inPlace == Tryz.pinned.checked.prog.inPlace 6)) = true := by kernel_rfl
theorem fact10 : ((Rows.journalAllRow.unfollowed == Tryz.pinned.checked.prog.unfollowed 6)) = true := by kernel_rfl
theorem fact11 : ((Rows.journalAllRow.recurses == Tryz.pinned.checked.prog.recurses 6)) = true := by kernel_rfl
theorem fact12 : ((Rows.journalAllRow.named == Tryz.pinned.checked.prog.varsNamed 6)) = true := by kernel_rfl
end Go.Proofs.YtaiocnpecaecdaaGreatDoor.journalAll
