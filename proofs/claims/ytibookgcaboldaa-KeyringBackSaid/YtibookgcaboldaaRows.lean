/-
  No cell of these rows narrows 'for every input' (looked for: loops, veiled, ifaces, maps, wideKeys, modest, calm, conditions, laid).
  DERIVED. THE GIVEN ROWS OF THIS SEAT. 11 by the template 'for every input the law returns true; each argument reads behind the call as it read before'; 0 by the template 'total and deterministic' (their statements: YtibookgcaboldaaTotals.lean).
  GIVEN WITH THE SEED: the statements are not yours to turn. If you find one false, say at which input.
  Laid BY PROGRAM, IN A SANDBOX (cutbox-rows.mjs): the forced cells as the released guide's own fill.sh prints them over the translation 8ccb8cecddf468b6… (all of the seat's roots in one cut). By AI agents, Wed Nov 11 2026. No macro, syntax, notation, axiom, sorry.
-/
import Derived.Test.YtibookgcaboldaaChecked
import GoSem.Claim
import GoSem.ClaimJoined
import GoSem.ClaimMapViews
import Derived.JoinedTies
import Derived.KernelRfl
namespace Go.Proofs.Ytibookgcaboldaa
/- THE CELL 'sum', in the pinned program and in every row, IS THE sha256 OF THE DUMP (.gsa) THAT YtibookgcaboldaaProg.lean LOADS. Nothing in Lean hashes anything: it is a label: what it is worth is what the hold of that sum in a sandbox is worth. -/
noncomputable def Try.pinned : Pinned := { name := "ytibookgcaboldaa", sum := "8ccb8cecddf468b6a548997570faf0716a1d0ef325e4c9e6b6efee669898abab", checked := Try.checked }
namespace Rows
def none {H : Type} : Left H := { results := [], args := [] }

/-- 'grapnellaw17.KeyringRights': WHATEVER THE INPUT: true; the input reads as it did. -/
def keyringRightsSpec : ChangeSpec := { name := "keyringRights", fn := fun _ => fun
  | [d] => { results := [.lit (.bool true)], args := [d] }
  | _ => none }
def keyringRightsRow : OpenClaim := { program := "ytibookgcaboldaa", sum := "8ccb8cecddf468b6a548997570faf0716a1d0ef325e4c9e6b6efee669898abab", func := "grapnel/grapnellaw17.KeyringRights", spec := "keyringRights", apart := false }
def KeyringRightsSaid : Prop := keyringRightsRow.holds Try.pinned (OpenSpec.ofChange keyringRightsSpec)

/-- ITS FALSE NEIGHBOUR: 'it returns false'. Refute it at one input. -/
def keyringRightsWrong : ChangeSpec := { name := "keyringRights", fn := fun _ => fun
  | [d] => { results := [.lit (.bool false)], args := [d] }
  | _ => none }
def KeyringRightsWrongFalsely : Prop := keyringRightsRow.holds Try.pinned (OpenSpec.ofChange keyringRightsWrong)

/-- 'grapnellaw17.KeyringOpens': WHATEVER THE INPUT: true; the input reads as it did. -/
def keyringOpensSpec : ChangeSpec := { name := "keyringOpens", fn := fun _ => fun
  | [d1, d2] => { results := [.lit (.bool true)], args := [d1, d2] }
  | _ => none }
def keyringOpensRow : OpenClaim := { program := "ytibookgcaboldaa", sum := "8ccb8cecddf468b6a548997570faf0716a1d0ef325e4c9e6b6efee669898abab", func := "grapnel/grapnellaw17.KeyringOpens", spec := "keyringOpens", apart := false }
def KeyringOpensSaid : Prop := keyringOpensRow.holds Try.pinned (OpenSpec.ofChange keyringOpensSpec)

/-- ITS FALSE NEIGHBOUR: 'it returns false'. Refute it at one input. -/
def keyringOpensWrong : ChangeSpec := { name := "keyringOpens", fn := fun _ => fun
  | [d1, d2] => { results := [.lit (.bool false)], args := [d1, d2] }
  | _ => none }
def KeyringOpensWrongFalsely : Prop := keyringOpensRow.holds Try.pinned (OpenSpec.ofChange keyringOpensWrong)

/-- 'grapnellaw17.KeyringFirsts': WHATEVER THE INPUT: true; the input reads as it did. -/
def keyringFirstsSpec : ChangeSpec := { name := "keyringFirsts", fn := fun _ => fun
  | [d1, d2, d3, d4, d5] => { results := [.lit (.bool true)], args := [d1, d2, d3, d4, d5] }
  | _ => none }
def keyringFirstsRow : OpenClaim := { program := "ytibookgcaboldaa", sum := "8ccb8cecddf468b6a548997570faf0716a1d0ef325e4c9e6b6efee669898abab", func := "grapnel/grapnellaw17.KeyringFirsts", spec := "keyringFirsts", apart := false }
def KeyringFirstsSaid : Prop := keyringFirstsRow.holds Try.pinned (OpenSpec.ofChange keyringFirstsSpec)

/-- ITS FALSE NEIGHBOUR: 'it returns false'. Refute it at one input. -/
def keyringFirstsWrong : ChangeSpec := { name := "keyringFirsts", fn := fun _ => fun
  | [d1, d2, d3, d4, d5] => { results := [.lit (.bool false)], args := [d1, d2, d3, d4, d5] }
  | _ => none }
def KeyringFirstsWrongFalsely : Prop := keyringFirstsRow.holds Try.pinned (OpenSpec.ofChange keyringFirstsWrong)

/-- 'grapnellaw17.KeyringChanges': WHATEVER THE INPUT: true; the input reads as it did. -/
def keyringChangesSpec : ChangeSpec := { name := "keyringChanges", fn := fun _ => fun
  | [d1, d2] => { results := [.lit (.bool true)], args := [d1, d2] }
  | _ => none }
def keyringChangesRow : OpenClaim := { program := "ytibookgcaboldaa", sum := "8ccb8cecddf468b6a548997570faf0716a1d0ef325e4c9e6b6efee669898abab", func := "grapnel/grapnellaw17.KeyringChanges", spec := "keyringChanges", apart := false }
def KeyringChangesSaid : Prop := keyringChangesRow.holds Try.pinned (OpenSpec.ofChange keyringChangesSpec)

/-- ITS FALSE NEIGHBOUR: 'it returns false'. Refute it at one input. -/
def keyringChangesWrong : ChangeSpec := { name := "keyringChanges", fn := fun _ => fun
  | [d1, d2] => { results := [.lit (.bool false)], args := [d1, d2] }
  | _ => none }
def KeyringChangesWrongFalsely : Prop := keyringChangesRow.holds Try.pinned (OpenSpec.ofChange keyringChangesWrong)

/-- 'grapnellaw17.KeyringDrops': WHATEVER THE INPUT: true; the input reads as it did. -/
def keyringDropsSpec : ChangeSpec := { name := "keyringDrops", fn := fun _ => fun
  | [d1, d2, d3] => { results := [.lit (.bool true)], args := [d1, d2, d3] }
  | _ => none }
def keyringDropsRow : OpenClaim := { program := "ytibookgcaboldaa", sum := "8ccb8cecddf468b6a548997570faf0716a1d0ef325e4c9e6b6efee669898abab", func := "grapnel/grapnellaw17.KeyringDrops", spec := "keyringDrops", apart := false }
def KeyringDropsSaid : Prop := keyringDropsRow.holds Try.pinned (OpenSpec.ofChange keyringDropsSpec)

/-- ITS FALSE NEIGHBOUR: 'it returns false'. Refute it at one input. -/
def keyringDropsWrong : ChangeSpec := { name := "keyringDrops", fn := fun _ => fun
  | [d1, d2, d3] => { results := [.lit (.bool false)], args := [d1, d2, d3] }
  | _ => none }
def KeyringDropsWrongFalsely : Prop := keyringDropsRow.holds Try.pinned (OpenSpec.ofChange keyringDropsWrong)

/-- 'grapnellaw17.KeyringAdds': WHATEVER THE INPUT: true; the input reads as it did. -/
def keyringAddsSpec : ChangeSpec := { name := "keyringAdds", fn := fun _ => fun
  | [d1, d2] => { results := [.lit (.bool true)], args := [d1, d2] }
  | _ => none }
def keyringAddsRow : OpenClaim := { program := "ytibookgcaboldaa", sum := "8ccb8cecddf468b6a548997570faf0716a1d0ef325e4c9e6b6efee669898abab", func := "grapnel/grapnellaw17.KeyringAdds", spec := "keyringAdds", apart := false }
def KeyringAddsSaid : Prop := keyringAddsRow.holds Try.pinned (OpenSpec.ofChange keyringAddsSpec)

/-- ITS FALSE NEIGHBOUR: 'it returns false'. Refute it at one input. -/
def keyringAddsWrong : ChangeSpec := { name := "keyringAdds", fn := fun _ => fun
  | [d1, d2] => { results := [.lit (.bool false)], args := [d1, d2] }
  | _ => none }
def KeyringAddsWrongFalsely : Prop := keyringAddsRow.holds Try.pinned (OpenSpec.ofChange keyringAddsWrong)

/-- 'grapnellaw17.KeyringBytes': WHATEVER THE INPUT: true; the input reads as it did. -/
def keyringBytesSpec : ChangeSpec := { name := "keyringBytes", fn := fun _ => fun
  | [d] => { results := [.lit (.bool true)], args := [d] }
  | _ => none }
def keyringBytesRow : OpenClaim := { program := "ytibookgcaboldaa", sum := "8ccb8cecddf468b6a548997570faf0716a1d0ef325e4c9e6b6efee669898abab", func := "grapnel/grapnellaw17.KeyringBytes", spec := "keyringBytes", inPlace := ["internal/abi.NoEscape", "internal/bytealg.MakeNoZero"], apart := false }
def KeyringBytesSaid : Prop := keyringBytesRow.holds Try.pinned (OpenSpec.ofChange keyringBytesSpec)

/-- ITS FALSE NEIGHBOUR: 'it returns false'. Refute it at one input. -/
def keyringBytesWrong : ChangeSpec := { name := "keyringBytes", fn := fun _ => fun
  | [d] => { results := [.lit (.bool false)], args := [d] }
  | _ => none }
def KeyringBytesWrongFalsely : Prop := keyringBytesRow.holds Try.pinned (OpenSpec.ofChange keyringBytesWrong)

/-- 'grapnellaw17.KeyringReads': WHATEVER THE INPUT: true; the input reads as it did. -/
def keyringReadsSpec : ChangeSpec := { name := "keyringReads", fn := fun _ => fun
  | [d] => { results := [.lit (.bool true)], args := [d] }
  | _ => none }
def keyringReadsRow : OpenClaim := { program := "ytibookgcaboldaa", sum := "8ccb8cecddf468b6a548997570faf0716a1d0ef325e4c9e6b6efee669898abab", func := "grapnel/grapnellaw17.KeyringReads", spec := "keyringReads", inPlace := ["internal/abi.NoEscape", "internal/bytealg.MakeNoZero"], unfollowed := true, recurses := true, apart := false }
def KeyringReadsSaid : Prop := keyringReadsRow.holds Try.pinned (OpenSpec.ofChange keyringReadsSpec)

/-- ITS FALSE NEIGHBOUR: 'it returns false'. Refute it at one input. -/
def keyringReadsWrong : ChangeSpec := { name := "keyringReads", fn := fun _ => fun
  | [d] => { results := [.lit (.bool false)], args := [d] }
  | _ => none }
def KeyringReadsWrongFalsely : Prop := keyringReadsRow.holds Try.pinned (OpenSpec.ofChange keyringReadsWrong)

/-- 'grapnellaw17.KeyringBack': WHATEVER THE INPUT: true; the input reads as it did. -/
def keyringBackSpec : ChangeSpec := { name := "keyringBack", fn := fun _ => fun
  | [d1, d2] => { results := [.lit (.bool true)], args := [d1, d2] }
  | _ => none }
def keyringBackRow : OpenClaim := { program := "ytibookgcaboldaa", sum := "8ccb8cecddf468b6a548997570faf0716a1d0ef325e4c9e6b6efee669898abab", func := "grapnel/grapnellaw17.KeyringBack", spec := "keyringBack", inPlace := ["internal/abi.NoEscape", "internal/bytealg.MakeNoZero"], unfollowed := true, recurses := true, apart := false }
def KeyringBackSaid : Prop := keyringBackRow.holds Try.pinned (OpenSpec.ofChange keyringBackSpec)

/-- ITS FALSE NEIGHBOUR: 'it returns false'. Refute it at one input. -/
def keyringBackWrong : ChangeSpec := { name := "keyringBack", fn := fun _ => fun
  | [d1, d2] => { results := [.lit (.bool false)], args := [d1, d2] }
  | _ => none }
def KeyringBackWrongFalsely : Prop := keyringBackRow.holds Try.pinned (OpenSpec.ofChange keyringBackWrong)

/-- 'grapnellaw17.KeyringBent': WHATEVER THE INPUT: true; the input reads as it did. -/
def keyringBentSpec : ChangeSpec := { name := "keyringBent", fn := fun _ => fun
  | [d1, d2, d3] => { results := [.lit (.bool true)], args := [d1, d2, d3] }
  | _ => none }
def keyringBentRow : OpenClaim := { program := "ytibookgcaboldaa", sum := "8ccb8cecddf468b6a548997570faf0716a1d0ef325e4c9e6b6efee669898abab", func := "grapnel/grapnellaw17.KeyringBent", spec := "keyringBent", inPlace := ["internal/abi.NoEscape", "internal/bytealg.MakeNoZero"], unfollowed := true, recurses := true, apart := false }
def KeyringBentSaid : Prop := keyringBentRow.holds Try.pinned (OpenSpec.ofChange keyringBentSpec)

/-- ITS FALSE NEIGHBOUR: 'it returns false'. Refute it at one input. -/
def keyringBentWrong : ChangeSpec := { name := "keyringBent", fn := fun _ => fun
  | [d1, d2, d3] => { results := [.lit (.bool false)], args := [d1, d2, d3] }
  | _ => none }
def KeyringBentWrongFalsely : Prop := keyringBentRow.holds Try.pinned (OpenSpec.ofChange keyringBentWrong)

/-- 'grapnellaw17.KeyringKeeps': WHATEVER THE INPUT: true; the input reads as it did. -/
def keyringKeepsSpec : ChangeSpec := { name := "keyringKeeps", fn := fun _ => fun
  | [d1, d2] => { results := [.lit (.bool true)], args := [d1, d2] }
  | _ => none }
def keyringKeepsRow : OpenClaim := { program := "ytibookgcaboldaa", sum := "8ccb8cecddf468b6a548997570faf0716a1d0ef325e4c9e6b6efee669898abab", func := "grapnel/grapnellaw17.KeyringKeeps", spec := "keyringKeeps", inPlace := ["internal/abi.NoEscape", "internal/bytealg.MakeNoZero"], unfollowed := true, recurses := true, apart := false }
def KeyringKeepsSaid : Prop := keyringKeepsRow.holds Try.pinned (OpenSpec.ofChange keyringKeepsSpec)

/-- ITS FALSE NEIGHBOUR: 'it returns false'. Refute it at one input. -/
def keyringKeepsWrong : ChangeSpec := { name := "keyringKeeps", fn := fun _ => fun
  | [d1, d2] => { results := [.lit (.bool false)], args := [d1, d2] }
  | _ => none }
def KeyringKeepsWrongFalsely : Prop := keyringKeepsRow.holds Try.pinned (OpenSpec.ofChange keyringKeepsWrong)

/- THE SECOND FORM. 'bulk': how many values and letters a reading holds, each counted each time it is reached (what is shared counts as often as it is met; a slice's spare places count too). A statement '..UptoSaid' is the law's where the arguments, and the package variables that the reading takes, are together of bulk at most 1048576: NARROWER than '..Said'. Prove '..Said' where nothing that the law and all that it calls make is longer than what came in: it says more and counts as full. Else prove '..UptoSaid'. A law counts once. -/
mutual
def uptoBulk {H : Type} : DataW H → Nat
  | .lit (.string bytes) => bytes.length + 1
  | .lit _ => 1
  | .nil => 1
  | .ptr d => uptoBulk d + 1
  | .slice elems spare => uptoBulkAll elems + uptoBulkAll spare + 1
  | .agg parts => uptoBulkAll parts + 1
  | .iface _ d => uptoBulk d + 1
  | .map entries => uptoBulkEntries entries + 1
  | .held _ => 1
def uptoBulkAll {H : Type} : List (DataW H) → Nat
  | [] => 0
  | d :: r => uptoBulk d + uptoBulkAll r
def uptoBulkEntries {H : Type} : List (Lit × DataW H) → Nat
  | [] => 0
  | x :: r => uptoBulkEntry x + uptoBulkEntries r
def uptoBulkEntry {H : Type} : Lit × DataW H → Nat
  | (.string bytes, d) => bytes.length + uptoBulk d + 1
  | (_, d) => uptoBulk d + 1
 end
def uptoSmall : (H : Type) → List (DataW H) → Bool := fun _ ds => decide (uptoBulkAll ds ≤ 1048576)
def OpenSpec.upto (s : _root_.Go.ChangeSpec) : _root_.Go.OpenSpec := { _root_.Go.OpenSpec.ofChange s with cond := some uptoSmall }

/-- 'grapnellaw17.KeyringRights', WHERE WHAT IT READS IS OF BULK AT MOST 1048576: true; the input reads as it did. -/
def keyringRightsUptoRow : OpenClaim := { program := "ytibookgcaboldaa", sum := "8ccb8cecddf468b6a548997570faf0716a1d0ef325e4c9e6b6efee669898abab", func := "grapnel/grapnellaw17.KeyringRights", spec := "keyringRights", apart := false, narrowed := true }
def KeyringRightsUptoSaid : Prop := keyringRightsUptoRow.holds Try.pinned (OpenSpec.upto keyringRightsSpec)

/-- 'grapnellaw17.KeyringOpens', WHERE WHAT IT READS IS OF BULK AT MOST 1048576: true; the input reads as it did. -/
def keyringOpensUptoRow : OpenClaim := { program := "ytibookgcaboldaa", sum := "8ccb8cecddf468b6a548997570faf0716a1d0ef325e4c9e6b6efee669898abab", func := "grapnel/grapnellaw17.KeyringOpens", spec := "keyringOpens", apart := false, narrowed := true }
def KeyringOpensUptoSaid : Prop := keyringOpensUptoRow.holds Try.pinned (OpenSpec.upto keyringOpensSpec)

/-- 'grapnellaw17.KeyringFirsts', WHERE WHAT IT READS IS OF BULK AT MOST 1048576: true; the input reads as it did. -/
def keyringFirstsUptoRow : OpenClaim := { program := "ytibookgcaboldaa", sum := "8ccb8cecddf468b6a548997570faf0716a1d0ef325e4c9e6b6efee669898abab", func := "grapnel/grapnellaw17.KeyringFirsts", spec := "keyringFirsts", apart := false, narrowed := true }
def KeyringFirstsUptoSaid : Prop := keyringFirstsUptoRow.holds Try.pinned (OpenSpec.upto keyringFirstsSpec)

/-- 'grapnellaw17.KeyringChanges', WHERE WHAT IT READS IS OF BULK AT MOST 1048576: true; the input reads as it did. -/
def keyringChangesUptoRow : OpenClaim := { program := "ytibookgcaboldaa", sum := "8ccb8cecddf468b6a548997570faf0716a1d0ef325e4c9e6b6efee669898abab", func := "grapnel/grapnellaw17.KeyringChanges", spec := "keyringChanges", apart := false, narrowed := true }
def KeyringChangesUptoSaid : Prop := keyringChangesUptoRow.holds Try.pinned (OpenSpec.upto keyringChangesSpec)

/-- 'grapnellaw17.KeyringDrops', WHERE WHAT IT READS IS OF BULK AT MOST 1048576: true; the input reads as it did. -/
def keyringDropsUptoRow : OpenClaim := { program := "ytibookgcaboldaa", sum := "8ccb8cecddf468b6a548997570faf0716a1d0ef325e4c9e6b6efee669898abab", func := "grapnel/grapnellaw17.KeyringDrops", spec := "keyringDrops", apart := false, narrowed := true }
def KeyringDropsUptoSaid : Prop := keyringDropsUptoRow.holds Try.pinned (OpenSpec.upto keyringDropsSpec)

/-- 'grapnellaw17.KeyringAdds', WHERE WHAT IT READS IS OF BULK AT MOST 1048576: true; the input reads as it did. -/
def keyringAddsUptoRow : OpenClaim := { program := "ytibookgcaboldaa", sum := "8ccb8cecddf468b6a548997570faf0716a1d0ef325e4c9e6b6efee669898abab", func := "grapnel/grapnellaw17.KeyringAdds", spec := "keyringAdds", apart := false, narrowed := true }
def KeyringAddsUptoSaid : Prop := keyringAddsUptoRow.holds Try.pinned (OpenSpec.upto keyringAddsSpec)

/-- 'grapnellaw17.KeyringBytes', WHERE WHAT IT READS IS OF BULK AT MOST 1048576: true; the input reads as it did. -/
def keyringBytesUptoRow : OpenClaim := { program := "ytibookgcaboldaa", sum := "8ccb8cecddf468b6a548997570faf0716a1d0ef325e4c9e6b6efee669898abab", func := "grapnel/grapnellaw17.KeyringBytes", spec := "keyringBytes", inPlace := ["internal/abi.NoEscape", "internal/bytealg.MakeNoZero"], apart := false, narrowed := true }
def KeyringBytesUptoSaid : Prop := keyringBytesUptoRow.holds Try.pinned (OpenSpec.upto keyringBytesSpec)

/-- 'grapnellaw17.KeyringReads', WHERE WHAT IT READS IS OF BULK AT MOST 1048576: true; the input reads as it did. -/
def keyringReadsUptoRow : OpenClaim := { program := "ytibookgcaboldaa", sum := "8ccb8cecddf468b6a548997570faf0716a1d0ef325e4c9e6b6efee669898abab", func := "grapnel/grapnellaw17.KeyringReads", spec := "keyringReads", inPlace := ["internal/abi.NoEscape", "internal/bytealg.MakeNoZero"], unfollowed := true, recurses := true, apart := false, narrowed := true }
def KeyringReadsUptoSaid : Prop := keyringReadsUptoRow.holds Try.pinned (OpenSpec.upto keyringReadsSpec)

/-- 'grapnellaw17.KeyringBack', WHERE WHAT IT READS IS OF BULK AT MOST 1048576: true; the input reads as it did. -/
def keyringBackUptoRow : OpenClaim := { program := "ytibookgcaboldaa", sum := "8ccb8cecddf468b6a548997570faf0716a1d0ef325e4c9e6b6efee669898abab", func := "grapnel/grapnellaw17.KeyringBack", spec := "keyringBack", inPlace := ["internal/abi.NoEscape", "internal/bytealg.MakeNoZero"], unfollowed := true, recurses := true, apart := false, narrowed := true }
def KeyringBackUptoSaid : Prop := keyringBackUptoRow.holds Try.pinned (OpenSpec.upto keyringBackSpec)

/-- 'grapnellaw17.KeyringBent', WHERE WHAT IT READS IS OF BULK AT MOST 1048576: true; the input reads as it did. -/
def keyringBentUptoRow : OpenClaim := { program := "ytibookgcaboldaa", sum := "8ccb8cecddf468b6a548997570faf0716a1d0ef325e4c9e6b6efee669898abab", func := "grapnel/grapnellaw17.KeyringBent", spec := "keyringBent", inPlace := ["internal/abi.NoEscape", "internal/bytealg.MakeNoZero"], unfollowed := true, recurses := true, apart := false, narrowed := true }
def KeyringBentUptoSaid : Prop := keyringBentUptoRow.holds Try.pinned (OpenSpec.upto keyringBentSpec)

/-- 'grapnellaw17.KeyringKeeps', WHERE WHAT IT READS IS OF BULK AT MOST 1048576: true; the input reads as it did. -/
def keyringKeepsUptoRow : OpenClaim := { program := "ytibookgcaboldaa", sum := "8ccb8cecddf468b6a548997570faf0716a1d0ef325e4c9e6b6efee669898abab", func := "grapnel/grapnellaw17.KeyringKeeps", spec := "keyringKeeps", inPlace := ["internal/abi.NoEscape", "internal/bytealg.MakeNoZero"], unfollowed := true, recurses := true, apart := false, narrowed := true }
def KeyringKeepsUptoSaid : Prop := keyringKeepsUptoRow.holds Try.pinned (OpenSpec.upto keyringKeepsSpec)

end Rows
end Go.Proofs.Ytibookgcaboldaa
