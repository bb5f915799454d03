/-
  No cell of these rows narrows 'for every input' (looked for: loops, veiled, ifaces, maps, wideKeys, modest, calm, conditions, laid).
  DERIVED. THE GIVEN ROWS OF THIS SEAT. 9 by the template 'for every input the law returns true; each argument reads behind the call as it read before'; 0 by the template 'total and deterministic' (their statements: YtajjbgkbceobmaaTotals.lean).
  GIVEN WITH THE SEED: the statements are not yours to turn. If you find one false, say at which input.
  Laid BY PROGRAM, IN A SANDBOX (cutbox-rows.mjs): the forced cells as the released guide's own fill.sh prints them over the translation 7be88329d6aaab39… (all of the seat's roots in one cut). By AI agents, Wed Nov 11 2026. No macro, syntax, notation, axiom, sorry.
-/
import Derived.Test.YtajjbgkbceobmaaChecked
import GoSem.Claim
import GoSem.ClaimJoined
import GoSem.ClaimMapViews
import Derived.JoinedTies
import Derived.KernelRfl
namespace Go.Proofs.Ytajjbgkbceobmaa
/- THE CELL 'sum', in the pinned program and in every row, IS THE sha256 OF THE DUMP (.gsa) THAT YtajjbgkbceobmaaProg.lean LOADS. Nothing in Lean hashes anything: it is a label: what it is worth is what the hold of that sum in a sandbox is worth. -/
noncomputable def Try.pinned : Pinned := { name := "ytajjbgkbceobmaa", sum := "7be88329d6aaab39c903cb6a7664a4bab0e27cf2833ce2c24fb6b8a4bd83a70c", checked := Try.checked }
namespace Rows
def none {H : Type} : Left H := { results := [], args := [] }

/-- 'grapnellaw03.BoxTags': WHATEVER THE INPUT: true; the input reads as it did. -/
def boxTagsSpec : ChangeSpec := { name := "boxTags", fn := fun _ => fun
  | [d1, d2] => { results := [.lit (.bool true)], args := [d1, d2] }
  | _ => none }
def boxTagsRow : OpenClaim := { program := "ytajjbgkbceobmaa", sum := "7be88329d6aaab39c903cb6a7664a4bab0e27cf2833ce2c24fb6b8a4bd83a70c", func := "grapnel/grapnellaw03.BoxTags", spec := "boxTags", apart := false }
def BoxTagsSaid : Prop := boxTagsRow.holds Try.pinned (OpenSpec.ofChange boxTagsSpec)

/-- ITS FALSE NEIGHBOUR: 'it returns false'. Refute it at one input. -/
def boxTagsWrong : ChangeSpec := { name := "boxTags", fn := fun _ => fun
  | [d1, d2] => { results := [.lit (.bool false)], args := [d1, d2] }
  | _ => none }
def BoxTagsWrongFalsely : Prop := boxTagsRow.holds Try.pinned (OpenSpec.ofChange boxTagsWrong)

/-- 'grapnellaw03.BoxSames': WHATEVER THE INPUT: true; the input reads as it did. -/
def boxSamesSpec : ChangeSpec := { name := "boxSames", fn := fun _ => fun
  | [d1, d2] => { results := [.lit (.bool true)], args := [d1, d2] }
  | _ => none }
def boxSamesRow : OpenClaim := { program := "ytajjbgkbceobmaa", sum := "7be88329d6aaab39c903cb6a7664a4bab0e27cf2833ce2c24fb6b8a4bd83a70c", func := "grapnel/grapnellaw03.BoxSames", spec := "boxSames", apart := false }
def BoxSamesSaid : Prop := boxSamesRow.holds Try.pinned (OpenSpec.ofChange boxSamesSpec)

/-- ITS FALSE NEIGHBOUR: 'it returns false'. Refute it at one input. -/
def boxSamesWrong : ChangeSpec := { name := "boxSames", fn := fun _ => fun
  | [d1, d2] => { results := [.lit (.bool false)], args := [d1, d2] }
  | _ => none }
def BoxSamesWrongFalsely : Prop := boxSamesRow.holds Try.pinned (OpenSpec.ofChange boxSamesWrong)

/-- 'grapnellaw03.BoxStreams': WHATEVER THE INPUT: true; the input reads as it did. -/
def boxStreamsSpec : ChangeSpec := { name := "boxStreams", fn := fun _ => fun
  | [d1, d2, d3, d4] => { results := [.lit (.bool true)], args := [d1, d2, d3, d4] }
  | _ => none }
def boxStreamsRow : OpenClaim := { program := "ytajjbgkbceobmaa", sum := "7be88329d6aaab39c903cb6a7664a4bab0e27cf2833ce2c24fb6b8a4bd83a70c", func := "grapnel/grapnellaw03.BoxStreams", spec := "boxStreams", apart := false }
def BoxStreamsSaid : Prop := boxStreamsRow.holds Try.pinned (OpenSpec.ofChange boxStreamsSpec)

/-- ITS FALSE NEIGHBOUR: 'it returns false'. Refute it at one input. -/
def boxStreamsWrong : ChangeSpec := { name := "boxStreams", fn := fun _ => fun
  | [d1, d2, d3, d4] => { results := [.lit (.bool false)], args := [d1, d2, d3, d4] }
  | _ => none }
def BoxStreamsWrongFalsely : Prop := boxStreamsRow.holds Try.pinned (OpenSpec.ofChange boxStreamsWrong)

/-- 'grapnellaw03.BoxTwice': WHATEVER THE INPUT: true; the input reads as it did. -/
def boxTwiceSpec : ChangeSpec := { name := "boxTwice", fn := fun _ => fun
  | [d1, d2, d3, d4] => { results := [.lit (.bool true)], args := [d1, d2, d3, d4] }
  | _ => none }
def boxTwiceRow : OpenClaim := { program := "ytajjbgkbceobmaa", sum := "7be88329d6aaab39c903cb6a7664a4bab0e27cf2833ce2c24fb6b8a4bd83a70c", func := "grapnel/grapnellaw03.BoxTwice", spec := "boxTwice", apart := false }
def BoxTwiceSaid : Prop := boxTwiceRow.holds Try.pinned (OpenSpec.ofChange boxTwiceSpec)

/-- ITS FALSE NEIGHBOUR: 'it returns false'. Refute it at one input. -/
def boxTwiceWrong : ChangeSpec := { name := "boxTwice", fn := fun _ => fun
  | [d1, d2, d3, d4] => { results := [.lit (.bool false)], args := [d1, d2, d3, d4] }
  | _ => none }
def BoxTwiceWrongFalsely : Prop := boxTwiceRow.holds Try.pinned (OpenSpec.ofChange boxTwiceWrong)

/-- 'grapnellaw03.BoxParts': WHATEVER THE INPUT: true; the input reads as it did. -/
def boxPartsSpec : ChangeSpec := { name := "boxParts", fn := fun _ => fun
  | [d1, d2, d3, d4] => { results := [.lit (.bool true)], args := [d1, d2, d3, d4] }
  | _ => none }
def boxPartsRow : OpenClaim := { program := "ytajjbgkbceobmaa", sum := "7be88329d6aaab39c903cb6a7664a4bab0e27cf2833ce2c24fb6b8a4bd83a70c", func := "grapnel/grapnellaw03.BoxParts", spec := "boxParts", apart := false }
def BoxPartsSaid : Prop := boxPartsRow.holds Try.pinned (OpenSpec.ofChange boxPartsSpec)

/-- ITS FALSE NEIGHBOUR: 'it returns false'. Refute it at one input. -/
def boxPartsWrong : ChangeSpec := { name := "boxParts", fn := fun _ => fun
  | [d1, d2, d3, d4] => { results := [.lit (.bool false)], args := [d1, d2, d3, d4] }
  | _ => none }
def BoxPartsWrongFalsely : Prop := boxPartsRow.holds Try.pinned (OpenSpec.ofChange boxPartsWrong)

/-- 'grapnellaw03.BoxSeals': WHATEVER THE INPUT: true; the input reads as it did. -/
def boxSealsSpec : ChangeSpec := { name := "boxSeals", fn := fun _ => fun
  | [d1, d2, d3, d4] => { results := [.lit (.bool true)], args := [d1, d2, d3, d4] }
  | _ => none }
def boxSealsRow : OpenClaim := { program := "ytajjbgkbceobmaa", sum := "7be88329d6aaab39c903cb6a7664a4bab0e27cf2833ce2c24fb6b8a4bd83a70c", func := "grapnel/grapnellaw03.BoxSeals", spec := "boxSeals", apart := false }
def BoxSealsSaid : Prop := boxSealsRow.holds Try.pinned (OpenSpec.ofChange boxSealsSpec)

/-- ITS FALSE NEIGHBOUR: 'it returns false'. Refute it at one input. -/
def boxSealsWrong : ChangeSpec := { name := "boxSeals", fn := fun _ => fun
  | [d1, d2, d3, d4] => { results := [.lit (.bool false)], args := [d1, d2, d3, d4] }
  | _ => none }
def BoxSealsWrongFalsely : Prop := boxSealsRow.holds Try.pinned (OpenSpec.ofChange boxSealsWrong)

/-- 'grapnellaw03.BoxOpens': WHATEVER THE INPUT: true; the input reads as it did. -/
def boxOpensSpec : ChangeSpec := { name := "boxOpens", fn := fun _ => fun
  | [d1, d2, d3, d4] => { results := [.lit (.bool true)], args := [d1, d2, d3, d4] }
  | _ => none }
def boxOpensRow : OpenClaim := { program := "ytajjbgkbceobmaa", sum := "7be88329d6aaab39c903cb6a7664a4bab0e27cf2833ce2c24fb6b8a4bd83a70c", func := "grapnel/grapnellaw03.BoxOpens", spec := "boxOpens", apart := false }
def BoxOpensSaid : Prop := boxOpensRow.holds Try.pinned (OpenSpec.ofChange boxOpensSpec)

/-- ITS FALSE NEIGHBOUR: 'it returns false'. Refute it at one input. -/
def boxOpensWrong : ChangeSpec := { name := "boxOpens", fn := fun _ => fun
  | [d1, d2, d3, d4] => { results := [.lit (.bool false)], args := [d1, d2, d3, d4] }
  | _ => none }
def BoxOpensWrongFalsely : Prop := boxOpensRow.holds Try.pinned (OpenSpec.ofChange boxOpensWrong)

/-- 'grapnellaw03.BoxBack': WHATEVER THE INPUT: true; the input reads as it did. -/
def boxBackSpec : ChangeSpec := { name := "boxBack", fn := fun _ => fun
  | [d1, d2, d3, d4] => { results := [.lit (.bool true)], args := [d1, d2, d3, d4] }
  | _ => none }
def boxBackRow : OpenClaim := { program := "ytajjbgkbceobmaa", sum := "7be88329d6aaab39c903cb6a7664a4bab0e27cf2833ce2c24fb6b8a4bd83a70c", func := "grapnel/grapnellaw03.BoxBack", spec := "boxBack", apart := false }
def BoxBackSaid : Prop := boxBackRow.holds Try.pinned (OpenSpec.ofChange boxBackSpec)

/-- ITS FALSE NEIGHBOUR: 'it returns false'. Refute it at one input. -/
def boxBackWrong : ChangeSpec := { name := "boxBack", fn := fun _ => fun
  | [d1, d2, d3, d4] => { results := [.lit (.bool false)], args := [d1, d2, d3, d4] }
  | _ => none }
def BoxBackWrongFalsely : Prop := boxBackRow.holds Try.pinned (OpenSpec.ofChange boxBackWrong)

/-- 'grapnellaw03.BoxRefuses': WHATEVER THE INPUT: true; the input reads as it did. -/
def boxRefusesSpec : ChangeSpec := { name := "boxRefuses", fn := fun _ => fun
  | [d1, d2, d3] => { results := [.lit (.bool true)], args := [d1, d2, d3] }
  | _ => none }
def boxRefusesRow : OpenClaim := { program := "ytajjbgkbceobmaa", sum := "7be88329d6aaab39c903cb6a7664a4bab0e27cf2833ce2c24fb6b8a4bd83a70c", func := "grapnel/grapnellaw03.BoxRefuses", spec := "boxRefuses", apart := false }
def BoxRefusesSaid : Prop := boxRefusesRow.holds Try.pinned (OpenSpec.ofChange boxRefusesSpec)

/-- ITS FALSE NEIGHBOUR: 'it returns false'. Refute it at one input. -/
def boxRefusesWrong : ChangeSpec := { name := "boxRefuses", fn := fun _ => fun
  | [d1, d2, d3] => { results := [.lit (.bool false)], args := [d1, d2, d3] }
  | _ => none }
def BoxRefusesWrongFalsely : Prop := boxRefusesRow.holds Try.pinned (OpenSpec.ofChange boxRefusesWrong)

/- THE SECOND FORM. 'bulk': how many values and letters a reading holds, each counted each time it is reached (what is shared counts as often as it is met; a slice's spare places count too). A statement '..UptoSaid' is the law's where the arguments, and the package variables that the reading takes, are together of bulk at most 1048576: NARROWER than '..Said'. Prove '..Said' where nothing that the law and all that it calls make is longer than what came in: it says more and counts as full. Else prove '..UptoSaid'. A law counts once. -/
mutual
def uptoBulk {H : Type} : DataW H → Nat
  | .lit (.string bytes) => bytes.length + 1
  | .lit _ => 1
  | .nil => 1
  | .ptr d => uptoBulk d + 1
  | .slice elems spare => uptoBulkAll elems + uptoBulkAll spare + 1
  | .agg parts => uptoBulkAll parts + 1
  | .iface _ d => uptoBulk d + 1
  | .map entries => uptoBulkEntries entries + 1
  | .held _ => 1
def uptoBulkAll {H : Type} : List (DataW H) → Nat
  | [] => 0
  | d :: r => uptoBulk d + uptoBulkAll r
def uptoBulkEntries {H : Type} : List (Lit × DataW H) → Nat
  | [] => 0
  | x :: r => uptoBulkEntry x + uptoBulkEntries r
def uptoBulkEntry {H : Type} : Lit × DataW H → Nat
  | (.string bytes, d) => bytes.length + uptoBulk d + 1
  | (_, d) => uptoBulk d + 1
 end
def uptoSmall : (H : Type) → List (DataW H) → Bool := fun _ ds => decide (uptoBulkAll ds ≤ 1048576)
def OpenSpec.upto (s : _root_.Go.ChangeSpec) : _root_.Go.OpenSpec := { _root_.Go.OpenSpec.ofChange s with cond := some uptoSmall }

/-- 'grapnellaw03.BoxTags', WHERE WHAT IT READS IS OF BULK AT MOST 1048576: true; the input reads as it did. -/
def boxTagsUptoRow : OpenClaim := { program := "ytajjbgkbceobmaa", sum := "7be88329d6aaab39c903cb6a7664a4bab0e27cf2833ce2c24fb6b8a4bd83a70c", func := "grapnel/grapnellaw03.BoxTags", spec := "boxTags", apart := false, narrowed := true }
def BoxTagsUptoSaid : Prop := boxTagsUptoRow.holds Try.pinned (OpenSpec.upto boxTagsSpec)

/-- 'grapnellaw03.BoxSames', WHERE WHAT IT READS IS OF BULK AT MOST 1048576: true; the input reads as it did. -/
def boxSamesUptoRow : OpenClaim := { program := "ytajjbgkbceobmaa", sum := "7be88329d6aaab39c903cb6a7664a4bab0e27cf2833ce2c24fb6b8a4bd83a70c", func := "grapnel/grapnellaw03.BoxSames", spec := "boxSames", apart := false, narrowed := true }
def BoxSamesUptoSaid : Prop := boxSamesUptoRow.holds Try.pinned (OpenSpec.upto boxSamesSpec)

/-- 'grapnellaw03.BoxStreams', WHERE WHAT IT READS IS OF BULK AT MOST 1048576: true; the input reads as it did. -/
def boxStreamsUptoRow : OpenClaim := { program := "ytajjbgkbceobmaa", sum := "7be88329d6aaab39c903cb6a7664a4bab0e27cf2833ce2c24fb6b8a4bd83a70c", func := "grapnel/grapnellaw03.BoxStreams", spec := "boxStreams", apart := false, narrowed := true }
def BoxStreamsUptoSaid : Prop := boxStreamsUptoRow.holds Try.pinned (OpenSpec.upto boxStreamsSpec)

/-- 'grapnellaw03.BoxTwice', WHERE WHAT IT READS IS OF BULK AT MOST 1048576: true; the input reads as it did. -/
def boxTwiceUptoRow : OpenClaim := { program := "ytajjbgkbceobmaa", sum := "7be88329d6aaab39c903cb6a7664a4bab0e27cf2833ce2c24fb6b8a4bd83a70c", func := "grapnel/grapnellaw03.BoxTwice", spec := "boxTwice", apart := false, narrowed := true }
def BoxTwiceUptoSaid : Prop := boxTwiceUptoRow.holds Try.pinned (OpenSpec.upto boxTwiceSpec)

/-- 'grapnellaw03.BoxParts', WHERE WHAT IT READS IS OF BULK AT MOST 1048576: true; the input reads as it did. -/
def boxPartsUptoRow : OpenClaim := { program := "ytajjbgkbceobmaa", sum := "7be88329d6aaab39c903cb6a7664a4bab0e27cf2833ce2c24fb6b8a4bd83a70c", func := "grapnel/grapnellaw03.BoxParts", spec := "boxParts", apart := false, narrowed := true }
def BoxPartsUptoSaid : Prop := boxPartsUptoRow.holds Try.pinned (OpenSpec.upto boxPartsSpec)

/-- 'grapnellaw03.BoxSeals', WHERE WHAT IT READS IS OF BULK AT MOST 1048576: true; the input reads as it did. -/
def boxSealsUptoRow : OpenClaim := { program := "ytajjbgkbceobmaa", sum := "7be88329d6aaab39c903cb6a7664a4bab0e27cf2833ce2c24fb6b8a4bd83a70c", func := "grapnel/grapnellaw03.BoxSeals", spec := "boxSeals", apart := false, narrowed := true }
def BoxSealsUptoSaid : Prop := boxSealsUptoRow.holds Try.pinned (OpenSpec.upto boxSealsSpec)

/-- 'grapnellaw03.BoxOpens', WHERE WHAT IT READS IS OF BULK AT MOST 1048576: true; the input reads as it did. -/
def boxOpensUptoRow : OpenClaim := { program := "ytajjbgkbceobmaa", sum := "7be88329d6aaab39c903cb6a7664a4bab0e27cf2833ce2c24fb6b8a4bd83a70c", func := "grapnel/grapnellaw03.BoxOpens", spec := "boxOpens", apart := false, narrowed := true }
def BoxOpensUptoSaid : Prop := boxOpensUptoRow.holds Try.pinned (OpenSpec.upto boxOpensSpec)

/-- 'grapnellaw03.BoxBack', WHERE WHAT IT READS IS OF BULK AT MOST 1048576: true; the input reads as it did. -/
def boxBackUptoRow : OpenClaim := { program := "ytajjbgkbceobmaa", sum := "7be88329d6aaab39c903cb6a7664a4bab0e27cf2833ce2c24fb6b8a4bd83a70c", func := "grapnel/grapnellaw03.BoxBack", spec := "boxBack", apart := false, narrowed := true }
def BoxBackUptoSaid : Prop := boxBackUptoRow.holds Try.pinned (OpenSpec.upto boxBackSpec)

/-- 'grapnellaw03.BoxRefuses', WHERE WHAT IT READS IS OF BULK AT MOST 1048576: true; the input reads as it did. -/
def boxRefusesUptoRow : OpenClaim := { program := "ytajjbgkbceobmaa", sum := "7be88329d6aaab39c903cb6a7664a4bab0e27cf2833ce2c24fb6b8a4bd83a70c", func := "grapnel/grapnellaw03.BoxRefuses", spec := "boxRefuses", apart := false, narrowed := true }
def BoxRefusesUptoSaid : Prop := boxRefusesUptoRow.holds Try.pinned (OpenSpec.upto boxRefusesSpec)

end Rows
end Go.Proofs.Ytajjbgkbceobmaa
