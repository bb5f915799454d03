/- The row of the law JournalAll, for every input: out of its contract on views of memory; and its card, the variable of package errors tied to the program's text. -/
import Derived.Test.YtaiocnpecaecdaaGreatDoorGh
import Derived.Test.YtaiocnpecaecdaaGreatDoorRows
import Derived.Test.YtaiocnpecaecdaaGreatDoorCards
import Derived.Test.YtaiocnpecaecdaaGreatDoorTie
import Derived.Test.YtaiocnpecaecdaaGreatDoorVLc
import Derived.WalkKit
import Derived.ProofKit
import Derived.OpenShut
import Derived.ShutString
import Derived.ChangeOld
import Derived.Below
import Derived.SizedLaws
import Derived.SevenTiedAt
import Derived.ChangeSame
import Derived.ChangeVars
import Derived.JoinedOf
import Derived.LaidLaws
import Derived.LaidHandle
import Derived.Stop.Joined
import Derived.RowKit
import Derived.RowKitTokens
import Derived.Test.YtaiocnpecaecdaaGreatDoorMidJournalAll
set_option linter.unusedVariables false
namespace Go.Proofs.YtaiocnpecaecdaaGreatDoor.journalAll
open Go.ChangeShapes Go.WideShapes Go.ChangeAt Go.RowKit Go.Proofs.YtaiocnpecaecdaaGreatDoor.VL
open Go.ChangeMaps (open_string shut_string)
theorem card_holds : Rows.JournalAllCardSaid :=
  Claim7.holds_tied_plain_at .later [] [.handle] true (true, "ba11ea347eb4badcd0b6b93691ee7927ac7ff8570d8524faacd0a080492eec1b") true
    over (fun _ h => by cases h) (by kernel_rfl) (fun _ h => by cases h) journalAll_row_tie rfl ⟨rfl, rfl⟩ (by kernel_rfl) rfl
    (fun f fn hf hfn => by
      obtain rfl : f = 6 := Option.some.inj ((show Tryz.prog.funcNamed "grapnel/grapnellaw12.JournalAll" = some 6 by kernel_rfl).symm.trans hf) |>.symm
      obtain rfl : fn = Tryz.f6 := (Option.some.inj (Tryz.func6.symm.trans hfn)).symm
      exact ⟨by kernel_rfl, fun j t ht => by
        rw [Tryz.params6] at ht
        have h3 : t = 37 ∨ t = 48 ∨ t = 49 := by
          match j, ht with
          | 0, ht => (have e : 37 = t := by simpa using ht); subst e; exact (.inl rfl)
          | 1, ht => (have e : 48 = t := by simpa using ht); subst e; exact (.inr (.inl rfl))
          | 2, ht => (have e : 49 = t := by simpa using ht); subst e; exact (.inr (.inr rfl))
          | j + 3, ht => simp at ht
        rcases h3 with rfl | rfl | rfl
        · exact (show Tryz.prog.wantsStandIn 37 = false by kernel_rfl)
        · exact (show Tryz.prog.wantsStandIn 48 = false by kernel_rfl)
        · exact (show Tryz.prog.wantsStandIn 49 = false by kernel_rfl)⟩)
    (by kernel_rfl)
#print axioms card_holds
end Go.Proofs.YtaiocnpecaecdaaGreatDoor.journalAll
namespace Go.Proofs.YtaiocnpecaecdaaGreatDoor
/-- The card, under a short name, for the claim. -/
theorem journalAll_holds : Rows.JournalAllCardSaid := journalAll.card_holds
end Go.Proofs.YtaiocnpecaecdaaGreatDoor
