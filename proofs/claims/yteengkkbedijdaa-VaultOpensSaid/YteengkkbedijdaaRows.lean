/-
  No cell of these rows narrows 'for every input' (looked for: loops, veiled, ifaces, maps, wideKeys, modest, calm, conditions, laid).
  DERIVED. THE GIVEN ROWS OF THIS SEAT. 8 by the template 'for every input the law returns true; each argument reads behind the call as it read before'; 0 by the template 'total and deterministic' (their statements: YteengkkbedijdaaTotals.lean).
  GIVEN WITH THE SEED: the statements are not yours to turn. If you find one false, say at which input.
  Laid BY PROGRAM, IN A SANDBOX (cutbox-rows.mjs): the forced cells as the released guide's own fill.sh prints them over the translation 2d80e3e4b7987c04… (all of the seat's roots in one cut). By AI agents, Wed Nov 11 2026. No macro, syntax, notation, axiom, sorry.
-/
import Derived.Test.YteengkkbedijdaaChecked
import GoSem.Claim
import GoSem.ClaimJoined
import GoSem.ClaimMapViews
import Derived.JoinedTies
import Derived.KernelRfl
namespace Go.Proofs.Yteengkkbedijdaa
/- THE CELL 'sum', in the pinned program and in every row, IS THE sha256 OF THE DUMP (.gsa) THAT YteengkkbedijdaaProg.lean LOADS. Nothing in Lean hashes anything: it is a label: what it is worth is what the hold of that sum in a sandbox is worth. -/
noncomputable def Try.pinned : Pinned := { name := "yteengkkbedijdaa", sum := "2d80e3e4b7987c04ac60881088f63242cca2f1f401d5a8349d6c53964f602362", checked := Try.checked }
namespace Rows
def none {H : Type} : Left H := { results := [], args := [] }

/-- 'grapnellaw05.VaultHashes': WHATEVER THE INPUT: true; the input reads as it did. -/
def vaultHashesSpec : ChangeSpec := { name := "vaultHashes", fn := fun _ => fun
  | [d] => { results := [.lit (.bool true)], args := [d] }
  | _ => none }
def vaultHashesRow : OpenClaim := { program := "yteengkkbedijdaa", sum := "2d80e3e4b7987c04ac60881088f63242cca2f1f401d5a8349d6c53964f602362", func := "grapnel/grapnellaw05.VaultHashes", spec := "vaultHashes", plainKeys := false, apart := false }
def VaultHashesSaid : Prop := vaultHashesRow.holds Try.pinned (OpenSpec.ofChange vaultHashesSpec)

/-- ITS FALSE NEIGHBOUR: 'it returns false'. Refute it at one input. -/
def vaultHashesWrong : ChangeSpec := { name := "vaultHashes", fn := fun _ => fun
  | [d] => { results := [.lit (.bool false)], args := [d] }
  | _ => none }
def VaultHashesWrongFalsely : Prop := vaultHashesRow.holds Try.pinned (OpenSpec.ofChange vaultHashesWrong)

/-- 'grapnellaw05.VaultMarks': WHATEVER THE INPUT: true; the input reads as it did. -/
def vaultMarksSpec : ChangeSpec := { name := "vaultMarks", fn := fun _ => fun
  | [d1, d2] => { results := [.lit (.bool true)], args := [d1, d2] }
  | _ => none }
def vaultMarksRow : OpenClaim := { program := "yteengkkbedijdaa", sum := "2d80e3e4b7987c04ac60881088f63242cca2f1f401d5a8349d6c53964f602362", func := "grapnel/grapnellaw05.VaultMarks", spec := "vaultMarks", plainKeys := false, apart := false }
def VaultMarksSaid : Prop := vaultMarksRow.holds Try.pinned (OpenSpec.ofChange vaultMarksSpec)

/-- ITS FALSE NEIGHBOUR: 'it returns false'. Refute it at one input. -/
def vaultMarksWrong : ChangeSpec := { name := "vaultMarks", fn := fun _ => fun
  | [d1, d2] => { results := [.lit (.bool false)], args := [d1, d2] }
  | _ => none }
def VaultMarksWrongFalsely : Prop := vaultMarksRow.holds Try.pinned (OpenSpec.ofChange vaultMarksWrong)

/-- 'grapnellaw05.VaultHonest': WHATEVER THE INPUT: true; the input reads as it did. -/
def vaultHonestSpec : ChangeSpec := { name := "vaultHonest", fn := fun _ => fun
  | [d1, d2] => { results := [.lit (.bool true)], args := [d1, d2] }
  | _ => none }
def vaultHonestRow : OpenClaim := { program := "yteengkkbedijdaa", sum := "2d80e3e4b7987c04ac60881088f63242cca2f1f401d5a8349d6c53964f602362", func := "grapnel/grapnellaw05.VaultHonest", spec := "vaultHonest", plainKeys := false, apart := false }
def VaultHonestSaid : Prop := vaultHonestRow.holds Try.pinned (OpenSpec.ofChange vaultHonestSpec)

/-- ITS FALSE NEIGHBOUR: 'it returns false'. Refute it at one input. -/
def vaultHonestWrong : ChangeSpec := { name := "vaultHonest", fn := fun _ => fun
  | [d1, d2] => { results := [.lit (.bool false)], args := [d1, d2] }
  | _ => none }
def VaultHonestWrongFalsely : Prop := vaultHonestRow.holds Try.pinned (OpenSpec.ofChange vaultHonestWrong)

/-- 'grapnellaw05.VaultIdeals': WHATEVER THE INPUT: true; the input reads as it did. -/
def vaultIdealsSpec : ChangeSpec := { name := "vaultIdeals", fn := fun _ => fun
  | [d] => { results := [.lit (.bool true)], args := [d] }
  | _ => none }
def vaultIdealsRow : OpenClaim := { program := "yteengkkbedijdaa", sum := "2d80e3e4b7987c04ac60881088f63242cca2f1f401d5a8349d6c53964f602362", func := "grapnel/grapnellaw05.VaultIdeals", spec := "vaultIdeals", plainKeys := false, apart := false }
def VaultIdealsSaid : Prop := vaultIdealsRow.holds Try.pinned (OpenSpec.ofChange vaultIdealsSpec)

/-- ITS FALSE NEIGHBOUR: 'it returns false'. Refute it at one input. -/
def vaultIdealsWrong : ChangeSpec := { name := "vaultIdeals", fn := fun _ => fun
  | [d] => { results := [.lit (.bool false)], args := [d] }
  | _ => none }
def VaultIdealsWrongFalsely : Prop := vaultIdealsRow.holds Try.pinned (OpenSpec.ofChange vaultIdealsWrong)

/-- 'grapnellaw05.VaultTwo': WHATEVER THE INPUT: true; the input reads as it did. -/
def vaultTwoSpec : ChangeSpec := { name := "vaultTwo", fn := fun _ => fun
  | [d1, d2] => { results := [.lit (.bool true)], args := [d1, d2] }
  | _ => none }
def vaultTwoRow : OpenClaim := { program := "yteengkkbedijdaa", sum := "2d80e3e4b7987c04ac60881088f63242cca2f1f401d5a8349d6c53964f602362", func := "grapnel/grapnellaw05.VaultTwo", spec := "vaultTwo", plainKeys := false, apart := false }
def VaultTwoSaid : Prop := vaultTwoRow.holds Try.pinned (OpenSpec.ofChange vaultTwoSpec)

/-- ITS FALSE NEIGHBOUR: 'it returns false'. Refute it at one input. -/
def vaultTwoWrong : ChangeSpec := { name := "vaultTwo", fn := fun _ => fun
  | [d1, d2] => { results := [.lit (.bool false)], args := [d1, d2] }
  | _ => none }
def VaultTwoWrongFalsely : Prop := vaultTwoRow.holds Try.pinned (OpenSpec.ofChange vaultTwoWrong)

/-- 'grapnellaw05.VaultNobody': WHATEVER THE INPUT: true; the input reads as it did. -/
def vaultNobodySpec : ChangeSpec := { name := "vaultNobody", fn := fun _ => fun
  | [d] => { results := [.lit (.bool true)], args := [d] }
  | _ => none }
def vaultNobodyRow : OpenClaim := { program := "yteengkkbedijdaa", sum := "2d80e3e4b7987c04ac60881088f63242cca2f1f401d5a8349d6c53964f602362", func := "grapnel/grapnellaw05.VaultNobody", spec := "vaultNobody", plainKeys := false, apart := false }
def VaultNobodySaid : Prop := vaultNobodyRow.holds Try.pinned (OpenSpec.ofChange vaultNobodySpec)

/-- ITS FALSE NEIGHBOUR: 'it returns false'. Refute it at one input. -/
def vaultNobodyWrong : ChangeSpec := { name := "vaultNobody", fn := fun _ => fun
  | [d] => { results := [.lit (.bool false)], args := [d] }
  | _ => none }
def VaultNobodyWrongFalsely : Prop := vaultNobodyRow.holds Try.pinned (OpenSpec.ofChange vaultNobodyWrong)

/-- 'grapnellaw05.VaultReals': WHATEVER THE INPUT: true; the input reads as it did. -/
def vaultRealsSpec : ChangeSpec := { name := "vaultReals", fn := fun _ => fun
  | [d1, d2, d3, d4] => { results := [.lit (.bool true)], args := [d1, d2, d3, d4] }
  | _ => none }
def vaultRealsRow : OpenClaim := { program := "yteengkkbedijdaa", sum := "2d80e3e4b7987c04ac60881088f63242cca2f1f401d5a8349d6c53964f602362", func := "grapnel/grapnellaw05.VaultReals", spec := "vaultReals", plainKeys := false, apart := false }
def VaultRealsSaid : Prop := vaultRealsRow.holds Try.pinned (OpenSpec.ofChange vaultRealsSpec)

/-- ITS FALSE NEIGHBOUR: 'it returns false'. Refute it at one input. -/
def vaultRealsWrong : ChangeSpec := { name := "vaultReals", fn := fun _ => fun
  | [d1, d2, d3, d4] => { results := [.lit (.bool false)], args := [d1, d2, d3, d4] }
  | _ => none }
def VaultRealsWrongFalsely : Prop := vaultRealsRow.holds Try.pinned (OpenSpec.ofChange vaultRealsWrong)

/-- 'grapnellaw05.VaultOpens': WHATEVER THE INPUT: true; the input reads as it did. -/
def vaultOpensSpec : ChangeSpec := { name := "vaultOpens", fn := fun _ => fun
  | [d1, d2, d3, d4, d5] => { results := [.lit (.bool true)], args := [d1, d2, d3, d4, d5] }
  | _ => none }
def vaultOpensRow : OpenClaim := { program := "yteengkkbedijdaa", sum := "2d80e3e4b7987c04ac60881088f63242cca2f1f401d5a8349d6c53964f602362", func := "grapnel/grapnellaw05.VaultOpens", spec := "vaultOpens", plainKeys := false, apart := false }
def VaultOpensSaid : Prop := vaultOpensRow.holds Try.pinned (OpenSpec.ofChange vaultOpensSpec)

/-- ITS FALSE NEIGHBOUR: 'it returns false'. Refute it at one input. -/
def vaultOpensWrong : ChangeSpec := { name := "vaultOpens", fn := fun _ => fun
  | [d1, d2, d3, d4, d5] => { results := [.lit (.bool false)], args := [d1, d2, d3, d4, d5] }
  | _ => none }
def VaultOpensWrongFalsely : Prop := vaultOpensRow.holds Try.pinned (OpenSpec.ofChange vaultOpensWrong)

/- THE SECOND FORM. 'bulk': how many values and letters a reading holds, each counted each time it is reached (what is shared counts as often as it is met; a slice's spare places count too). A statement '..UptoSaid' is the law's where the arguments, and the package variables that the reading takes, are together of bulk at most 1048576: NARROWER than '..Said'. Prove '..Said' where nothing that the law and all that it calls make is longer than what came in: it says more and counts as full. Else prove '..UptoSaid'. A law counts once. -/
mutual
def uptoBulk {H : Type} : DataW H → Nat
  | .lit (.string bytes) => bytes.length + 1
  | .lit _ => 1
  | .nil => 1
  | .ptr d => uptoBulk d + 1
  | .slice elems spare => uptoBulkAll elems + uptoBulkAll spare + 1
  | .agg parts => uptoBulkAll parts + 1
  | .iface _ d => uptoBulk d + 1
  | .map entries => uptoBulkEntries entries + 1
  | .held _ => 1
def uptoBulkAll {H : Type} : List (DataW H) → Nat
  | [] => 0
  | d :: r => uptoBulk d + uptoBulkAll r
def uptoBulkEntries {H : Type} : List (Lit × DataW H) → Nat
  | [] => 0
  | x :: r => uptoBulkEntry x + uptoBulkEntries r
def uptoBulkEntry {H : Type} : Lit × DataW H → Nat
  | (.string bytes, d) => bytes.length + uptoBulk d + 1
  | (_, d) => uptoBulk d + 1
 end
def uptoSmall : (H : Type) → List (DataW H) → Bool := fun _ ds => decide (uptoBulkAll ds ≤ 1048576)
def OpenSpec.upto (s : _root_.Go.ChangeSpec) : _root_.Go.OpenSpec := { _root_.Go.OpenSpec.ofChange s with cond := some uptoSmall }

/-- 'grapnellaw05.VaultHashes', WHERE WHAT IT READS IS OF BULK AT MOST 1048576: true; the input reads as it did. -/
def vaultHashesUptoRow : OpenClaim := { program := "yteengkkbedijdaa", sum := "2d80e3e4b7987c04ac60881088f63242cca2f1f401d5a8349d6c53964f602362", func := "grapnel/grapnellaw05.VaultHashes", spec := "vaultHashes", plainKeys := false, apart := false, narrowed := true }
def VaultHashesUptoSaid : Prop := vaultHashesUptoRow.holds Try.pinned (OpenSpec.upto vaultHashesSpec)

/-- 'grapnellaw05.VaultMarks', WHERE WHAT IT READS IS OF BULK AT MOST 1048576: true; the input reads as it did. -/
def vaultMarksUptoRow : OpenClaim := { program := "yteengkkbedijdaa", sum := "2d80e3e4b7987c04ac60881088f63242cca2f1f401d5a8349d6c53964f602362", func := "grapnel/grapnellaw05.VaultMarks", spec := "vaultMarks", plainKeys := false, apart := false, narrowed := true }
def VaultMarksUptoSaid : Prop := vaultMarksUptoRow.holds Try.pinned (OpenSpec.upto vaultMarksSpec)

/-- 'grapnellaw05.VaultHonest', WHERE WHAT IT READS IS OF BULK AT MOST 1048576: true; the input reads as it did. -/
def vaultHonestUptoRow : OpenClaim := { program := "yteengkkbedijdaa", sum := "2d80e3e4b7987c04ac60881088f63242cca2f1f401d5a8349d6c53964f602362", func := "grapnel/grapnellaw05.VaultHonest", spec := "vaultHonest", plainKeys := false, apart := false, narrowed := true }
def VaultHonestUptoSaid : Prop := vaultHonestUptoRow.holds Try.pinned (OpenSpec.upto vaultHonestSpec)

/-- 'grapnellaw05.VaultIdeals', WHERE WHAT IT READS IS OF BULK AT MOST 1048576: true; the input reads as it did. -/
def vaultIdealsUptoRow : OpenClaim := { program := "yteengkkbedijdaa", sum := "2d80e3e4b7987c04ac60881088f63242cca2f1f401d5a8349d6c53964f602362", func := "grapnel/grapnellaw05.VaultIdeals", spec := "vaultIdeals", plainKeys := false, apart := false, narrowed := true }
def VaultIdealsUptoSaid : Prop := vaultIdealsUptoRow.holds Try.pinned (OpenSpec.upto vaultIdealsSpec)

/-- 'grapnellaw05.VaultTwo', WHERE WHAT IT READS IS OF BULK AT MOST 1048576: true; the input reads as it did. -/
def vaultTwoUptoRow : OpenClaim := { program := "yteengkkbedijdaa", sum := "2d80e3e4b7987c04ac60881088f63242cca2f1f401d5a8349d6c53964f602362", func := "grapnel/grapnellaw05.VaultTwo", spec := "vaultTwo", plainKeys := false, apart := false, narrowed := true }
def VaultTwoUptoSaid : Prop := vaultTwoUptoRow.holds Try.pinned (OpenSpec.upto vaultTwoSpec)

/-- 'grapnellaw05.VaultNobody', WHERE WHAT IT READS IS OF BULK AT MOST 1048576: true; the input reads as it did. -/
def vaultNobodyUptoRow : OpenClaim := { program := "yteengkkbedijdaa", sum := "2d80e3e4b7987c04ac60881088f63242cca2f1f401d5a8349d6c53964f602362", func := "grapnel/grapnellaw05.VaultNobody", spec := "vaultNobody", plainKeys := false, apart := false, narrowed := true }
def VaultNobodyUptoSaid : Prop := vaultNobodyUptoRow.holds Try.pinned (OpenSpec.upto vaultNobodySpec)

/-- 'grapnellaw05.VaultReals', WHERE WHAT IT READS IS OF BULK AT MOST 1048576: true; the input reads as it did. -/
def vaultRealsUptoRow : OpenClaim := { program := "yteengkkbedijdaa", sum := "2d80e3e4b7987c04ac60881088f63242cca2f1f401d5a8349d6c53964f602362", func := "grapnel/grapnellaw05.VaultReals", spec := "vaultReals", plainKeys := false, apart := false, narrowed := true }
def VaultRealsUptoSaid : Prop := vaultRealsUptoRow.holds Try.pinned (OpenSpec.upto vaultRealsSpec)

/-- 'grapnellaw05.VaultOpens', WHERE WHAT IT READS IS OF BULK AT MOST 1048576: true; the input reads as it did. -/
def vaultOpensUptoRow : OpenClaim := { program := "yteengkkbedijdaa", sum := "2d80e3e4b7987c04ac60881088f63242cca2f1f401d5a8349d6c53964f602362", func := "grapnel/grapnellaw05.VaultOpens", spec := "vaultOpens", plainKeys := false, apart := false, narrowed := true }
def VaultOpensUptoSaid : Prop := vaultOpensUptoRow.holds Try.pinned (OpenSpec.upto vaultOpensSpec)

end Rows
end Go.Proofs.Yteengkkbedijdaa
