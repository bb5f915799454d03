/- The row of the law JournalAll, for every input: out of its contract on views of memory; and its card, the variable of package errors tied to the program's text. -/
import Derived.Test.YtaiocnpecaecdaaGreatDoorGh
import Derived.Test.YtaiocnpecaecdaaGreatDoorRows
import Derived.Test.YtaiocnpecaecdaaGreatDoorCards
import Derived.Test.YtaiocnpecaecdaaGreatDoorTie
import Derived.Test.YtaiocnpecaecdaaGreatDoorVLc
import Derived.WalkKit
import Derived.ProofKit
import Derived.OpenShut
import Derived.ShutString
import Derived.ChangeOld
import Derived.Below
import Derived.SizedLaws
import Derived.SevenTiedAt
import Derived.ChangeSame
import Derived.ChangeVars
import Derived.JoinedOf
import Derived.LaidLaws
import Derived.LaidHandle
import Derived.Stop.Joined
import Derived.RowKit
import Derived.RowKitTokens
import Derived.Test.YtaiocnpecaecdaaGreatDoorLowJournalAll
import Derived.Test.YtaiocnpecaecdaaGreatDoorFaJournalAll
import Derived.Test.YtaiocnpecaecdaaGreatDoorFbJournalAll
set_option linter.unusedVariables false
namespace Go.Proofs.YtaiocnpecaecdaaGreatDoor.journalAll
open Go.ChangeShapes Go.WideShapes Go.ChangeAt Go.RowKit Go.Proofs.YtaiocnpecaecdaaGreatDoor.VL
open Go.ChangeMaps (open_string shut_string)
theorem and2 {a b : Bool} (ha : a = true) (hb : b = true) : (a && b) = true := by rw [ha, hb]; rfl
set_option maxRecDepth 100000 in
theorem closed : joinedFacts Tryz.pinned.checked.prog 6 Tryz.f6 Rows.journalAllSpec Rows.journalAllRow = true := (and2 (and2 (and2 (and2 (and2 (and2 (and2 (and2 (and2 (and2 (and2 (and2 (and2 (and2 (and2 (and2 (and2 (and2 (and2 (and2 (and2 (and2 (and2 (and2 (and2 (and2 (and2 (and2 (and2 (and2 (and2 fact0 fact1) fact2) fact3) fact4) fact5) fact6) fact7) fact8) fact9) fact10) fact11) fact12) fact13) fact14) fact15) fact16) fact17) fact18) fact19) fact20) fact21) fact22) fact23) fact24) fact25) fact26) fact27) fact28) fact29) fact30) fact31)
theorem over : Rows.journalAllRow.holds Tryz.pinned (OpenSpec.ofChange Rows.journalAllSpec) :=
  OpenClaim.holds_of_wide 6 Tryz.f6 rfl rfl rfl rfl rfl rfl rfl ⟨rfl, rfl, rfl, rfl, rfl⟩ rfl rfl rfl rfl rfl (by kernel_rfl) Tryz.func6 closed
    (of_decide_eq_true (by kernel_rfl)) (by unfold Func.isWrapper; first | (rw [if_pos (by decide +kernel)]; kernel_rfl) | (rw [if_neg (by decide +kernel)]; exact ⟨rfl, rfl⟩))
    (fun os started H enc _ => lifted os started H enc)
end Go.Proofs.YtaiocnpecaecdaaGreatDoor.journalAll
