/- The row of the law JournalChooses, for every input: out of its contract on views of memory; and its card, the variable of package errors tied to the program's text. -/
import Derived.Test.YtaiocnpecaecdaaGreatDoorGh
import Derived.Test.YtaiocnpecaecdaaGreatDoorRows
import Derived.Test.YtaiocnpecaecdaaGreatDoorCards
import Derived.Test.YtaiocnpecaecdaaGreatDoorTie
import Derived.Test.YtaiocnpecaecdaaGreatDoorGg
import Derived.Test.YtaiocnpecaecdaaGreatDoorVLc
import Derived.WalkKit
import Derived.ProofKit
import Derived.OpenShut
import Derived.ShutString
import Derived.ChangeOld
import Derived.Below
import Derived.SizedLaws
import Derived.SevenTiedAt
import Derived.ChangeSame
import Derived.ChangeVars
import Derived.JoinedOf
import Derived.LaidLaws
import Derived.LaidHandle
import Derived.Stop.Joined
import Derived.RowKit
import Derived.RowKitTokens
import Derived.Test.YtaiocnpecaecdaaGreatDoorMidJournalChooses
set_option linter.unusedVariables false
namespace Go.Proofs.YtaiocnpecaecdaaGreatDoor.journalChooses
open Go.ChangeShapes Go.WideShapes Go.ChangeAt Go.RowKit Go.Proofs.YtaiocnpecaecdaaGreatDoor.VL
open Go.ChangeMaps (open_string shut_string)
theorem card_holds : Rows.JournalChoosesCardSaid :=
  Claim7.holds_tied_plain_at .later [] [.handle] true (true, "ba11ea347eb4badcd0b6b93691ee7927ac7ff8570d8524faacd0a080492eec1b") true
    over (fun _ h => by cases h) (by kernel_rfl) (fun _ h => by cases h) journalChooses_row_tie rfl ⟨rfl, rfl⟩ (by kernel_rfl) rfl
    (fun f fn hf hfn => by
      obtain rfl : f = 4 := Option.some.inj ((show Tryz.prog.funcNamed "grapnel/grapnellaw12.JournalChooses" = some 4 by kernel_rfl).symm.trans hf) |>.symm
      obtain rfl : fn = Tryz.f4 := (Option.some.inj (Tryz.func4.symm.trans hfn)).symm
      exact ⟨by kernel_rfl, fun j t ht => by
        rw [Tryz.params4] at ht
        have h3 : t = 31 ∨ t = 3 := by
          match j, ht with
          | 0, ht => (have e : 31 = t := by simpa using ht); subst e; exact (.inl rfl)
          | 1, ht => (have e : 3 = t := by simpa using ht); subst e; exact (.inr rfl)
          | j + 2, ht => simp at ht
        rcases h3 with rfl | rfl
        · exact (show Tryz.prog.wantsStandIn 31 = false by kernel_rfl)
        · exact (show Tryz.prog.wantsStandIn 3 = false by kernel_rfl)⟩)
    (by kernel_rfl)
#print axioms card_holds
end Go.Proofs.YtaiocnpecaecdaaGreatDoor.journalChooses
namespace Go.Proofs.YtaiocnpecaecdaaGreatDoor
/-- The card, under a short name, for the claim. -/
theorem journalChooses_holds : Rows.JournalChoosesCardSaid := journalChooses.card_holds
end Go.Proofs.YtaiocnpecaecdaaGreatDoor
