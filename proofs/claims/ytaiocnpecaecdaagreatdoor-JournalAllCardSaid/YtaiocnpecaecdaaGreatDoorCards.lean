/-
  DERIVED. GIVEN WITH THE SEED: THE CARDS: each row of YtaiocnpecaecdaaGreatDoorRows.lean that lists a variable, with what it lists TIED to the program's text (the seventh form; the later family's looks); each row that meets fmt, with fmt's text TOLD by the authors' own Lean function (tested against real Go, not proved from fmt's source: count such statements apart). THE CARD IS WHAT COUNTS. Prove the row's statement (the work); the ties are given (YtaiocnpecaecdaaGreatDoorTie.lean); close each card by the builder's one call (the guide's Derived/Test/ToyasCard.lean, 'card_holds'). Laid BY PROGRAM, IN A SANDBOX (cutbox-door.mjs). By AI agents, Wed Nov 11 2026. No macro, syntax, notation, axiom, sorry.
-/
import Derived.Test.YtaiocnpecaecdaaGreatDoorRows
import GoSem.ClaimSeven
namespace Go.Proofs.YtaiocnpecaecdaaGreatDoor
namespace Rows

/-- THE TIED CARD OF 'grapnellaw12.JournalLives'. -/
def journalLivesCard : Claim7 := { stood := { row := journalLivesRow, standIns := [], harness := (true, "ba11ea347eb4badcd0b6b93691ee7927ac7ff8570d8524faacd0a080492eec1b"), looks := true }, kinds := [], alts := [], laidByText := true, laidKinds := [.handle], laidTests := true, laidLooks := .later }
def JournalLivesCardSaid : Prop := Claim7.holds Tryz.pinned (.plain (OpenSpec.ofChange journalLivesSpec)) journalLivesCard

/-- THE TIED CARD OF 'grapnellaw12.JournalChooses'. -/
def journalChoosesCard : Claim7 := { stood := { row := journalChoosesRow, standIns := [], harness := (true, "ba11ea347eb4badcd0b6b93691ee7927ac7ff8570d8524faacd0a080492eec1b"), looks := true }, kinds := [], alts := [], laidByText := true, laidKinds := [.handle], laidTests := true, laidLooks := .later }
def JournalChoosesCardSaid : Prop := Claim7.holds Tryz.pinned (.plain (OpenSpec.ofChange journalChoosesSpec)) journalChoosesCard

/-- THE TIED CARD OF 'grapnellaw12.JournalNobody'. -/
def journalNobodyCard : Claim7 := { stood := { row := journalNobodyRow, standIns := [], harness := (true, "ba11ea347eb4badcd0b6b93691ee7927ac7ff8570d8524faacd0a080492eec1b"), looks := true }, kinds := [], alts := [], laidByText := true, laidKinds := [.handle], laidTests := true, laidLooks := .later }
def JournalNobodyCardSaid : Prop := Claim7.holds Tryz.pinned (.plain (OpenSpec.ofChange journalNobodySpec)) journalNobodyCard

/-- THE TIED CARD OF 'grapnellaw12.JournalAll'. -/
def journalAllCard : Claim7 := { stood := { row := journalAllRow, standIns := [], harness := (true, "ba11ea347eb4badcd0b6b93691ee7927ac7ff8570d8524faacd0a080492eec1b"), looks := true }, kinds := [], alts := [], laidByText := true, laidKinds := [.handle], laidTests := true, laidLooks := .later }
def JournalAllCardSaid : Prop := Claim7.holds Tryz.pinned (.plain (OpenSpec.ofChange journalAllSpec)) journalAllCard

/-- THE TIED CARD OF 'grapnellaw12.JournalSupers'. -/
def journalSupersCard : Claim7 := { stood := { row := journalSupersRow, standIns := [], harness := (true, "ba11ea347eb4badcd0b6b93691ee7927ac7ff8570d8524faacd0a080492eec1b"), looks := true }, kinds := [], alts := [], laidByText := true, laidKinds := [.handle], laidTests := true, laidLooks := .later }
def JournalSupersCardSaid : Prop := Claim7.holds Tryz.pinned (.plain (OpenSpec.ofChange journalSupersSpec)) journalSupersCard

/-- THE TIED CARD OF 'grapnellaw12.JournalFormats'. -/
def journalFormatsCard : Claim7 := { stood := { row := journalFormatsRow, standIns := [], harness := (true, "ba11ea347eb4badcd0b6b93691ee7927ac7ff8570d8524faacd0a080492eec1b"), looks := true }, kinds := [], alts := [], laidByText := true, laidKinds := [.handle], laidTests := true, laidLooks := .later }
def JournalFormatsCardSaid : Prop := Claim7.holds Tryz.pinned (.plain (OpenSpec.ofChange journalFormatsSpec)) journalFormatsCard

/-- THE TIED CARD OF 'grapnellaw12.JournalCommits'. -/
def journalCommitsCard : Claim7 := { stood := { row := journalCommitsRow, standIns := [], harness := (true, "ba11ea347eb4badcd0b6b93691ee7927ac7ff8570d8524faacd0a080492eec1b"), looks := true }, kinds := [], alts := [], laidByText := true, laidKinds := [.handle], laidTests := true, laidLooks := .later }
def JournalCommitsCardSaid : Prop := Claim7.holds Tryz.pinned (.plain (OpenSpec.ofChange journalCommitsSpec)) journalCommitsCard

/-- THE TIED CARD OF 'grapnellaw12.JournalFounds'. -/
def journalFoundsCard : Claim7 := { stood := { row := journalFoundsRow, standIns := [], harness := (true, "ba11ea347eb4badcd0b6b93691ee7927ac7ff8570d8524faacd0a080492eec1b"), looks := true }, kinds := [], alts := [], laidByText := true, laidKinds := [.handle], laidTests := true, laidLooks := .later }
def JournalFoundsCardSaid : Prop := Claim7.holds Tryz.pinned (.plain (OpenSpec.ofChange journalFoundsSpec)) journalFoundsCard

/-- THE TIED CARD OF 'grapnellaw12.JournalAnews'. -/
def journalAnewsCard : Claim7 := { stood := { row := journalAnewsRow, standIns := [], harness := (true, "ba11ea347eb4badcd0b6b93691ee7927ac7ff8570d8524faacd0a080492eec1b"), looks := true }, kinds := [], alts := [], laidByText := true, laidKinds := [.handle], laidTests := true, laidLooks := .later }
def JournalAnewsCardSaid : Prop := Claim7.holds Tryz.pinned (.plain (OpenSpec.ofChange journalAnewsSpec)) journalAnewsCard

/-- THE TIED CARD OF 'grapnellaw12.JournalRecovers'. -/
def journalRecoversCard : Claim7 := { stood := { row := journalRecoversRow, standIns := [], harness := (true, "ba11ea347eb4badcd0b6b93691ee7927ac7ff8570d8524faacd0a080492eec1b"), looks := true }, kinds := [], alts := [], laidByText := true, laidKinds := [.handle], laidTests := true, laidLooks := .later }
def JournalRecoversCardSaid : Prop := Claim7.holds Tryz.pinned (.plain (OpenSpec.ofChange journalRecoversSpec)) journalRecoversCard

/-- THE SECOND FORM's CARD OF 'grapnellaw12.JournalLives'. -/
def journalLivesUptoCard : Claim7 := { stood := { row := journalLivesUptoRow, standIns := [], harness := (true, "ba11ea347eb4badcd0b6b93691ee7927ac7ff8570d8524faacd0a080492eec1b"), looks := true }, kinds := [], alts := [], laidByText := true, laidKinds := [.handle], laidTests := true, laidLooks := .later }
def JournalLivesUptoCardSaid : Prop := Claim7.holds Tryz.pinned (.plain (OpenSpec.upto journalLivesSpec)) journalLivesUptoCard

/-- THE SECOND FORM's CARD OF 'grapnellaw12.JournalChooses'. -/
def journalChoosesUptoCard : Claim7 := { stood := { row := journalChoosesUptoRow, standIns := [], harness := (true, "ba11ea347eb4badcd0b6b93691ee7927ac7ff8570d8524faacd0a080492eec1b"), looks := true }, kinds := [], alts := [], laidByText := true, laidKinds := [.handle], laidTests := true, laidLooks := .later }
def JournalChoosesUptoCardSaid : Prop := Claim7.holds Tryz.pinned (.plain (OpenSpec.upto journalChoosesSpec)) journalChoosesUptoCard

/-- THE SECOND FORM's CARD OF 'grapnellaw12.JournalNobody'. -/
def journalNobodyUptoCard : Claim7 := { stood := { row := journalNobodyUptoRow, standIns := [], harness := (true, "ba11ea347eb4badcd0b6b93691ee7927ac7ff8570d8524faacd0a080492eec1b"), looks := true }, kinds := [], alts := [], laidByText := true, laidKinds := [.handle], laidTests := true, laidLooks := .later }
def JournalNobodyUptoCardSaid : Prop := Claim7.holds Tryz.pinned (.plain (OpenSpec.upto journalNobodySpec)) journalNobodyUptoCard

/-- THE SECOND FORM's CARD OF 'grapnellaw12.JournalAll'. -/
def journalAllUptoCard : Claim7 := { stood := { row := journalAllUptoRow, standIns := [], harness := (true, "ba11ea347eb4badcd0b6b93691ee7927ac7ff8570d8524faacd0a080492eec1b"), looks := true }, kinds := [], alts := [], laidByText := true, laidKinds := [.handle], laidTests := true, laidLooks := .later }
def JournalAllUptoCardSaid : Prop := Claim7.holds Tryz.pinned (.plain (OpenSpec.upto journalAllSpec)) journalAllUptoCard

/-- THE SECOND FORM's CARD OF 'grapnellaw12.JournalSupers'. -/
def journalSupersUptoCard : Claim7 := { stood := { row := journalSupersUptoRow, standIns := [], harness := (true, "ba11ea347eb4badcd0b6b93691ee7927ac7ff8570d8524faacd0a080492eec1b"), looks := true }, kinds := [], alts := [], laidByText := true, laidKinds := [.handle], laidTests := true, laidLooks := .later }
def JournalSupersUptoCardSaid : Prop := Claim7.holds Tryz.pinned (.plain (OpenSpec.upto journalSupersSpec)) journalSupersUptoCard

/-- THE SECOND FORM's CARD OF 'grapnellaw12.JournalFormats'. -/
def journalFormatsUptoCard : Claim7 := { stood := { row := journalFormatsUptoRow, standIns := [], harness := (true, "ba11ea347eb4badcd0b6b93691ee7927ac7ff8570d8524faacd0a080492eec1b"), looks := true }, kinds := [], alts := [], laidByText := true, laidKinds := [.handle], laidTests := true, laidLooks := .later }
def JournalFormatsUptoCardSaid : Prop := Claim7.holds Tryz.pinned (.plain (OpenSpec.upto journalFormatsSpec)) journalFormatsUptoCard

/-- THE SECOND FORM's CARD OF 'grapnellaw12.JournalCommits'. -/
def journalCommitsUptoCard : Claim7 := { stood := { row := journalCommitsUptoRow, standIns := [], harness := (true, "ba11ea347eb4badcd0b6b93691ee7927ac7ff8570d8524faacd0a080492eec1b"), looks := true }, kinds := [], alts := [], laidByText := true, laidKinds := [.handle], laidTests := true, laidLooks := .later }
def JournalCommitsUptoCardSaid : Prop := Claim7.holds Tryz.pinned (.plain (OpenSpec.upto journalCommitsSpec)) journalCommitsUptoCard

/-- THE SECOND FORM's CARD OF 'grapnellaw12.JournalFounds'. -/
def journalFoundsUptoCard : Claim7 := { stood := { row := journalFoundsUptoRow, standIns := [], harness := (true, "ba11ea347eb4badcd0b6b93691ee7927ac7ff8570d8524faacd0a080492eec1b"), looks := true }, kinds := [], alts := [], laidByText := true, laidKinds := [.handle], laidTests := true, laidLooks := .later }
def JournalFoundsUptoCardSaid : Prop := Claim7.holds Tryz.pinned (.plain (OpenSpec.upto journalFoundsSpec)) journalFoundsUptoCard

/-- THE SECOND FORM's CARD OF 'grapnellaw12.JournalAnews'. -/
def journalAnewsUptoCard : Claim7 := { stood := { row := journalAnewsUptoRow, standIns := [], harness := (true, "ba11ea347eb4badcd0b6b93691ee7927ac7ff8570d8524faacd0a080492eec1b"), looks := true }, kinds := [], alts := [], laidByText := true, laidKinds := [.handle], laidTests := true, laidLooks := .later }
def JournalAnewsUptoCardSaid : Prop := Claim7.holds Tryz.pinned (.plain (OpenSpec.upto journalAnewsSpec)) journalAnewsUptoCard

/-- THE SECOND FORM's CARD OF 'grapnellaw12.JournalRecovers'. -/
def journalRecoversUptoCard : Claim7 := { stood := { row := journalRecoversUptoRow, standIns := [], harness := (true, "ba11ea347eb4badcd0b6b93691ee7927ac7ff8570d8524faacd0a080492eec1b"), looks := true }, kinds := [], alts := [], laidByText := true, laidKinds := [.handle], laidTests := true, laidLooks := .later }
def JournalRecoversUptoCardSaid : Prop := Claim7.holds Tryz.pinned (.plain (OpenSpec.upto journalRecoversSpec)) journalRecoversUptoCard
end Rows
end Go.Proofs.YtaiocnpecaecdaaGreatDoor
