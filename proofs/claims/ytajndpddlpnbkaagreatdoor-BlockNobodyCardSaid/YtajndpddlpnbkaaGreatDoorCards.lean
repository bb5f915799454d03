/-
  DERIVED. GIVEN WITH THE SEED: THE CARDS: each row of YtajndpddlpnbkaaGreatDoorRows.lean that lists a variable, with what it lists TIED to the program's text (the seventh form; the later family's looks); each row that meets fmt, with fmt's text TOLD by the authors' own Lean function (tested against real Go, not proved from fmt's source: count such statements apart). THE CARD IS WHAT COUNTS. Prove the row's statement (the work); the ties are given (YtajndpddlpnbkaaGreatDoorTie.lean); close each card by the builder's one call (the guide's Derived/Test/ToyasCard.lean, 'card_holds'). Laid BY PROGRAM, IN A SANDBOX (cutbox-door.mjs). By AI agents, Wed Nov 11 2026. No macro, syntax, notation, axiom, sorry.
-/
import Derived.Test.YtajndpddlpnbkaaGreatDoorRows
import GoSem.ClaimSeven
namespace Go.Proofs.YtajndpddlpnbkaaGreatDoor
namespace Rows

/-- THE TIED CARD OF 'grapnellaw06.BlockPuts'. -/
def blockPutsCard : Claim7 := { stood := { row := blockPutsRow, standIns := [], harness := (true, "0ecb1df37676113df7d90c7e2c34a44cf462551e7807bb1405a60b2d0c92a639"), looks := true }, kinds := [], alts := [], laidByText := true, laidKinds := [.handle], laidTests := true, laidLooks := .later }
def BlockPutsCardSaid : Prop := Claim7.holds Tryz.pinned (.plain (OpenSpec.ofChange blockPutsSpec)) blockPutsCard

/-- THE TIED CARD OF 'grapnellaw06.BlockNobody'. -/
def blockNobodyCard : Claim7 := { stood := { row := blockNobodyRow, standIns := [], harness := (true, "0ecb1df37676113df7d90c7e2c34a44cf462551e7807bb1405a60b2d0c92a639"), looks := true }, kinds := [], alts := [], laidByText := true, laidKinds := [.handle], laidTests := true, laidLooks := .later }
def BlockNobodyCardSaid : Prop := Claim7.holds Tryz.pinned (.plain (OpenSpec.ofChange blockNobodySpec)) blockNobodyCard

/-- THE TIED CARD OF 'grapnellaw06.BlockBack'. -/
def blockBackCard : Claim7 := { stood := { row := blockBackRow, standIns := [], harness := (true, "0ecb1df37676113df7d90c7e2c34a44cf462551e7807bb1405a60b2d0c92a639"), looks := true }, kinds := [], alts := [], laidByText := true, laidKinds := [.handle], laidTests := true, laidLooks := .later }
def BlockBackCardSaid : Prop := Claim7.holds Tryz.pinned (.plain (OpenSpec.ofChange blockBackSpec)) blockBackCard

/-- THE TIED CARD OF 'grapnellaw06.BlockAlls'. -/
def blockAllsCard : Claim7 := { stood := { row := blockAllsRow, standIns := [], harness := (true, "0ecb1df37676113df7d90c7e2c34a44cf462551e7807bb1405a60b2d0c92a639"), looks := true }, kinds := [], alts := [], laidByText := true, laidKinds := [.handle], laidTests := true, laidLooks := .later }
def BlockAllsCardSaid : Prop := Claim7.holds Tryz.pinned (.plain (OpenSpec.ofChange blockAllsSpec)) blockAllsCard

/-- THE SECOND FORM's CARD OF 'grapnellaw06.BlockPuts'. -/
def blockPutsUptoCard : Claim7 := { stood := { row := blockPutsUptoRow, standIns := [], harness := (true, "0ecb1df37676113df7d90c7e2c34a44cf462551e7807bb1405a60b2d0c92a639"), looks := true }, kinds := [], alts := [], laidByText := true, laidKinds := [.handle], laidTests := true, laidLooks := .later }
def BlockPutsUptoCardSaid : Prop := Claim7.holds Tryz.pinned (.plain (OpenSpec.upto blockPutsSpec)) blockPutsUptoCard

/-- THE SECOND FORM's CARD OF 'grapnellaw06.BlockNobody'. -/
def blockNobodyUptoCard : Claim7 := { stood := { row := blockNobodyUptoRow, standIns := [], harness := (true, "0ecb1df37676113df7d90c7e2c34a44cf462551e7807bb1405a60b2d0c92a639"), looks := true }, kinds := [], alts := [], laidByText := true, laidKinds := [.handle], laidTests := true, laidLooks := .later }
def BlockNobodyUptoCardSaid : Prop := Claim7.holds Tryz.pinned (.plain (OpenSpec.upto blockNobodySpec)) blockNobodyUptoCard

/-- THE SECOND FORM's CARD OF 'grapnellaw06.BlockBack'. -/
def blockBackUptoCard : Claim7 := { stood := { row := blockBackUptoRow, standIns := [], harness := (true, "0ecb1df37676113df7d90c7e2c34a44cf462551e7807bb1405a60b2d0c92a639"), looks := true }, kinds := [], alts := [], laidByText := true, laidKinds := [.handle], laidTests := true, laidLooks := .later }
def BlockBackUptoCardSaid : Prop := Claim7.holds Tryz.pinned (.plain (OpenSpec.upto blockBackSpec)) blockBackUptoCard

/-- THE SECOND FORM's CARD OF 'grapnellaw06.BlockAlls'. -/
def blockAllsUptoCard : Claim7 := { stood := { row := blockAllsUptoRow, standIns := [], harness := (true, "0ecb1df37676113df7d90c7e2c34a44cf462551e7807bb1405a60b2d0c92a639"), looks := true }, kinds := [], alts := [], laidByText := true, laidKinds := [.handle], laidTests := true, laidLooks := .later }
def BlockAllsUptoCardSaid : Prop := Claim7.holds Tryz.pinned (.plain (OpenSpec.upto blockAllsSpec)) blockAllsUptoCard
end Rows
end Go.Proofs.YtajndpddlpnbkaaGreatDoor
