/-
  No cell of these rows narrows 'for every input' (looked for: loops, veiled, ifaces, maps, wideKeys, modest, calm, conditions, laid).
  DERIVED. THE GIVEN ROWS OF THIS SEAT. 8 by the template 'for every input the law returns true; each argument reads behind the call as it read before'; 0 by the template 'total and deterministic' (their statements: YtkmdajbhkfneaaaTotals.lean).
  GIVEN WITH THE SEED: the statements are not yours to turn. If you find one false, say at which input.
  Laid BY PROGRAM, IN A SANDBOX (cutbox-rows.mjs): the forced cells as the released guide's own fill.sh prints them over the translation a8e97112c488b291… (all of the seat's roots in one cut). By AI agents, Wed Nov 11 2026. No macro, syntax, notation, axiom, sorry.
-/
import Derived.Test.YtkmdajbhkfneaaaChecked
import GoSem.Claim
import GoSem.ClaimJoined
import GoSem.ClaimMapViews
import Derived.JoinedTies
import Derived.KernelRfl
namespace Go.Proofs.Ytkmdajbhkfneaaa
/- THE CELL 'sum', in the pinned program and in every row, IS THE sha256 OF THE DUMP (.gsa) THAT YtkmdajbhkfneaaaProg.lean LOADS. Nothing in Lean hashes anything: it is a label: what it is worth is what the hold of that sum in a sandbox is worth. -/
noncomputable def Try.pinned : Pinned := { name := "ytkmdajbhkfneaaa", sum := "a8e97112c488b291ca8472ce02bd16840822f3458a72808c515710f0aaab8851", checked := Try.checked }
namespace Rows
def none {H : Type} : Left H := { results := [], args := [] }

/-- 'grapnellaw04.PlateOrder': WHATEVER THE INPUT: true; the input reads as it did. -/
def plateOrderSpec : ChangeSpec := { name := "plateOrder", fn := fun _ => fun
  | [d1, d2] => { results := [.lit (.bool true)], args := [d1, d2] }
  | _ => none }
def plateOrderRow : OpenClaim := { program := "ytkmdajbhkfneaaa", sum := "a8e97112c488b291ca8472ce02bd16840822f3458a72808c515710f0aaab8851", func := "grapnel/grapnellaw04.PlateOrder", spec := "plateOrder", inPlace := ["internal/abi.NoEscape", "internal/bytealg.MakeNoZero"], apart := false }
def PlateOrderSaid : Prop := plateOrderRow.holds Try.pinned (OpenSpec.ofChange plateOrderSpec)

/-- ITS FALSE NEIGHBOUR: 'it returns false'. Refute it at one input. -/
def plateOrderWrong : ChangeSpec := { name := "plateOrder", fn := fun _ => fun
  | [d1, d2] => { results := [.lit (.bool false)], args := [d1, d2] }
  | _ => none }
def PlateOrderWrongFalsely : Prop := plateOrderRow.holds Try.pinned (OpenSpec.ofChange plateOrderWrong)

/-- 'grapnellaw04.PlateKeeps': WHATEVER THE INPUT: true; the input reads as it did. -/
def plateKeepsSpec : ChangeSpec := { name := "plateKeeps", fn := fun _ => fun
  | [d1, d2, d3] => { results := [.lit (.bool true)], args := [d1, d2, d3] }
  | _ => none }
def plateKeepsRow : OpenClaim := { program := "ytkmdajbhkfneaaa", sum := "a8e97112c488b291ca8472ce02bd16840822f3458a72808c515710f0aaab8851", func := "grapnel/grapnellaw04.PlateKeeps", spec := "plateKeeps", inPlace := ["internal/abi.NoEscape", "internal/bytealg.MakeNoZero"], apart := false }
def PlateKeepsSaid : Prop := plateKeepsRow.holds Try.pinned (OpenSpec.ofChange plateKeepsSpec)

/-- ITS FALSE NEIGHBOUR: 'it returns false'. Refute it at one input. -/
def plateKeepsWrong : ChangeSpec := { name := "plateKeeps", fn := fun _ => fun
  | [d1, d2, d3] => { results := [.lit (.bool false)], args := [d1, d2, d3] }
  | _ => none }
def PlateKeepsWrongFalsely : Prop := plateKeepsRow.holds Try.pinned (OpenSpec.ofChange plateKeepsWrong)

/-- 'grapnellaw04.PlateSpoils': WHATEVER THE INPUT: true; the input reads as it did. -/
def plateSpoilsSpec : ChangeSpec := { name := "plateSpoils", fn := fun _ => fun
  | [d1, d2, d3] => { results := [.lit (.bool true)], args := [d1, d2, d3] }
  | _ => none }
def plateSpoilsRow : OpenClaim := { program := "ytkmdajbhkfneaaa", sum := "a8e97112c488b291ca8472ce02bd16840822f3458a72808c515710f0aaab8851", func := "grapnel/grapnellaw04.PlateSpoils", spec := "plateSpoils", inPlace := ["internal/abi.NoEscape", "internal/bytealg.MakeNoZero"], apart := false }
def PlateSpoilsSaid : Prop := plateSpoilsRow.holds Try.pinned (OpenSpec.ofChange plateSpoilsSpec)

/-- ITS FALSE NEIGHBOUR: 'it returns false'. Refute it at one input. -/
def plateSpoilsWrong : ChangeSpec := { name := "plateSpoils", fn := fun _ => fun
  | [d1, d2, d3] => { results := [.lit (.bool false)], args := [d1, d2, d3] }
  | _ => none }
def PlateSpoilsWrongFalsely : Prop := plateSpoilsRow.holds Try.pinned (OpenSpec.ofChange plateSpoilsWrong)

/-- 'grapnellaw04.PlateFuse': WHATEVER THE INPUT: true; the input reads as it did. -/
def plateFuseSpec : ChangeSpec := { name := "plateFuse", fn := fun _ => fun
  | [d1, d2] => { results := [.lit (.bool true)], args := [d1, d2] }
  | _ => none }
def plateFuseRow : OpenClaim := { program := "ytkmdajbhkfneaaa", sum := "a8e97112c488b291ca8472ce02bd16840822f3458a72808c515710f0aaab8851", func := "grapnel/grapnellaw04.PlateFuse", spec := "plateFuse", inPlace := ["internal/abi.NoEscape", "internal/bytealg.MakeNoZero"], apart := false }
def PlateFuseSaid : Prop := plateFuseRow.holds Try.pinned (OpenSpec.ofChange plateFuseSpec)

/-- ITS FALSE NEIGHBOUR: 'it returns false'. Refute it at one input. -/
def plateFuseWrong : ChangeSpec := { name := "plateFuse", fn := fun _ => fun
  | [d1, d2] => { results := [.lit (.bool false)], args := [d1, d2] }
  | _ => none }
def PlateFuseWrongFalsely : Prop := plateFuseRow.holds Try.pinned (OpenSpec.ofChange plateFuseWrong)

/-- 'grapnellaw04.PlateReads': WHATEVER THE INPUT: true; the input reads as it did. -/
def plateReadsSpec : ChangeSpec := { name := "plateReads", fn := fun _ => fun
  | [d1, d2, d3, d4] => { results := [.lit (.bool true)], args := [d1, d2, d3, d4] }
  | _ => none }
def plateReadsRow : OpenClaim := { program := "ytkmdajbhkfneaaa", sum := "a8e97112c488b291ca8472ce02bd16840822f3458a72808c515710f0aaab8851", func := "grapnel/grapnellaw04.PlateReads", spec := "plateReads", inPlace := ["internal/abi.NoEscape", "internal/bytealg.MakeNoZero"], apart := false }
def PlateReadsSaid : Prop := plateReadsRow.holds Try.pinned (OpenSpec.ofChange plateReadsSpec)

/-- ITS FALSE NEIGHBOUR: 'it returns false'. Refute it at one input. -/
def plateReadsWrong : ChangeSpec := { name := "plateReads", fn := fun _ => fun
  | [d1, d2, d3, d4] => { results := [.lit (.bool false)], args := [d1, d2, d3, d4] }
  | _ => none }
def PlateReadsWrongFalsely : Prop := plateReadsRow.holds Try.pinned (OpenSpec.ofChange plateReadsWrong)

/-- 'grapnellaw04.PlatePlays': WHATEVER THE INPUT: true; the input reads as it did. -/
def platePlaysSpec : ChangeSpec := { name := "platePlays", fn := fun _ => fun
  | [d1, d2] => { results := [.lit (.bool true)], args := [d1, d2] }
  | _ => none }
def platePlaysRow : OpenClaim := { program := "ytkmdajbhkfneaaa", sum := "a8e97112c488b291ca8472ce02bd16840822f3458a72808c515710f0aaab8851", func := "grapnel/grapnellaw04.PlatePlays", spec := "platePlays", inPlace := ["internal/abi.NoEscape", "internal/bytealg.MakeNoZero"], apart := false }
def PlatePlaysSaid : Prop := platePlaysRow.holds Try.pinned (OpenSpec.ofChange platePlaysSpec)

/-- ITS FALSE NEIGHBOUR: 'it returns false'. Refute it at one input. -/
def platePlaysWrong : ChangeSpec := { name := "platePlays", fn := fun _ => fun
  | [d1, d2] => { results := [.lit (.bool false)], args := [d1, d2] }
  | _ => none }
def PlatePlaysWrongFalsely : Prop := platePlaysRow.holds Try.pinned (OpenSpec.ofChange platePlaysWrong)

/-- 'grapnellaw04.PlateCopies': WHATEVER THE INPUT: true; the input reads as it did. -/
def plateCopiesSpec : ChangeSpec := { name := "plateCopies", fn := fun _ => fun
  | [d1, d2, d3, d4] => { results := [.lit (.bool true)], args := [d1, d2, d3, d4] }
  | _ => none }
def plateCopiesRow : OpenClaim := { program := "ytkmdajbhkfneaaa", sum := "a8e97112c488b291ca8472ce02bd16840822f3458a72808c515710f0aaab8851", func := "grapnel/grapnellaw04.PlateCopies", spec := "plateCopies", inPlace := ["internal/abi.NoEscape", "internal/bytealg.MakeNoZero"], apart := false }
def PlateCopiesSaid : Prop := plateCopiesRow.holds Try.pinned (OpenSpec.ofChange plateCopiesSpec)

/-- ITS FALSE NEIGHBOUR: 'it returns false'. Refute it at one input. -/
def plateCopiesWrong : ChangeSpec := { name := "plateCopies", fn := fun _ => fun
  | [d1, d2, d3, d4] => { results := [.lit (.bool false)], args := [d1, d2, d3, d4] }
  | _ => none }
def PlateCopiesWrongFalsely : Prop := plateCopiesRow.holds Try.pinned (OpenSpec.ofChange plateCopiesWrong)

/-- 'grapnellaw04.PlateNobody': WHATEVER THE INPUT: true; the input reads as it did. -/
def plateNobodySpec : ChangeSpec := { name := "plateNobody", fn := fun _ => fun
  | [d1, d2] => { results := [.lit (.bool true)], args := [d1, d2] }
  | _ => none }
def plateNobodyRow : OpenClaim := { program := "ytkmdajbhkfneaaa", sum := "a8e97112c488b291ca8472ce02bd16840822f3458a72808c515710f0aaab8851", func := "grapnel/grapnellaw04.PlateNobody", spec := "plateNobody", inPlace := ["internal/abi.NoEscape", "internal/bytealg.MakeNoZero"], apart := false }
def PlateNobodySaid : Prop := plateNobodyRow.holds Try.pinned (OpenSpec.ofChange plateNobodySpec)

/-- ITS FALSE NEIGHBOUR: 'it returns false'. Refute it at one input. -/
def plateNobodyWrong : ChangeSpec := { name := "plateNobody", fn := fun _ => fun
  | [d1, d2] => { results := [.lit (.bool false)], args := [d1, d2] }
  | _ => none }
def PlateNobodyWrongFalsely : Prop := plateNobodyRow.holds Try.pinned (OpenSpec.ofChange plateNobodyWrong)

/- THE SECOND FORM. 'bulk': how many values and letters a reading holds, each counted each time it is reached (what is shared counts as often as it is met; a slice's spare places count too). A statement '..UptoSaid' is the law's where the arguments, and the package variables that the reading takes, are together of bulk at most 1048576: NARROWER than '..Said'. Prove '..Said' where nothing that the law and all that it calls make is longer than what came in: it says more and counts as full. Else prove '..UptoSaid'. A law counts once. -/
mutual
def uptoBulk {H : Type} : DataW H → Nat
  | .lit (.string bytes) => bytes.length + 1
  | .lit _ => 1
  | .nil => 1
  | .ptr d => uptoBulk d + 1
  | .slice elems spare => uptoBulkAll elems + uptoBulkAll spare + 1
  | .agg parts => uptoBulkAll parts + 1
  | .iface _ d => uptoBulk d + 1
  | .map entries => uptoBulkEntries entries + 1
  | .held _ => 1
def uptoBulkAll {H : Type} : List (DataW H) → Nat
  | [] => 0
  | d :: r => uptoBulk d + uptoBulkAll r
def uptoBulkEntries {H : Type} : List (Lit × DataW H) → Nat
  | [] => 0
  | x :: r => uptoBulkEntry x + uptoBulkEntries r
def uptoBulkEntry {H : Type} : Lit × DataW H → Nat
  | (.string bytes, d) => bytes.length + uptoBulk d + 1
  | (_, d) => uptoBulk d + 1
 end
def uptoSmall : (H : Type) → List (DataW H) → Bool := fun _ ds => decide (uptoBulkAll ds ≤ 1048576)
def OpenSpec.upto (s : _root_.Go.ChangeSpec) : _root_.Go.OpenSpec := { _root_.Go.OpenSpec.ofChange s with cond := some uptoSmall }

/-- 'grapnellaw04.PlateOrder', WHERE WHAT IT READS IS OF BULK AT MOST 1048576: true; the input reads as it did. -/
def plateOrderUptoRow : OpenClaim := { program := "ytkmdajbhkfneaaa", sum := "a8e97112c488b291ca8472ce02bd16840822f3458a72808c515710f0aaab8851", func := "grapnel/grapnellaw04.PlateOrder", spec := "plateOrder", inPlace := ["internal/abi.NoEscape", "internal/bytealg.MakeNoZero"], apart := false, narrowed := true }
def PlateOrderUptoSaid : Prop := plateOrderUptoRow.holds Try.pinned (OpenSpec.upto plateOrderSpec)

/-- 'grapnellaw04.PlateKeeps', WHERE WHAT IT READS IS OF BULK AT MOST 1048576: true; the input reads as it did. -/
def plateKeepsUptoRow : OpenClaim := { program := "ytkmdajbhkfneaaa", sum := "a8e97112c488b291ca8472ce02bd16840822f3458a72808c515710f0aaab8851", func := "grapnel/grapnellaw04.PlateKeeps", spec := "plateKeeps", inPlace := ["internal/abi.NoEscape", "internal/bytealg.MakeNoZero"], apart := false, narrowed := true }
def PlateKeepsUptoSaid : Prop := plateKeepsUptoRow.holds Try.pinned (OpenSpec.upto plateKeepsSpec)

/-- 'grapnellaw04.PlateSpoils', WHERE WHAT IT READS IS OF BULK AT MOST 1048576: true; the input reads as it did. -/
def plateSpoilsUptoRow : OpenClaim := { program := "ytkmdajbhkfneaaa", sum := "a8e97112c488b291ca8472ce02bd16840822f3458a72808c515710f0aaab8851", func := "grapnel/grapnellaw04.PlateSpoils", spec := "plateSpoils", inPlace := ["internal/abi.NoEscape", "internal/bytealg.MakeNoZero"], apart := false, narrowed := true }
def PlateSpoilsUptoSaid : Prop := plateSpoilsUptoRow.holds Try.pinned (OpenSpec.upto plateSpoilsSpec)

/-- 'grapnellaw04.PlateFuse', WHERE WHAT IT READS IS OF BULK AT MOST 1048576: true; the input reads as it did. -/
def plateFuseUptoRow : OpenClaim := { program := "ytkmdajbhkfneaaa", sum := "a8e97112c488b291ca8472ce02bd16840822f3458a72808c515710f0aaab8851", func := "grapnel/grapnellaw04.PlateFuse", spec := "plateFuse", inPlace := ["internal/abi.NoEscape", "internal/bytealg.MakeNoZero"], apart := false, narrowed := true }
def PlateFuseUptoSaid : Prop := plateFuseUptoRow.holds Try.pinned (OpenSpec.upto plateFuseSpec)

/-- 'grapnellaw04.PlateReads', WHERE WHAT IT READS IS OF BULK AT MOST 1048576: true; the input reads as it did. -/
def plateReadsUptoRow : OpenClaim := { program := "ytkmdajbhkfneaaa", sum := "a8e97112c488b291ca8472ce02bd16840822f3458a72808c515710f0aaab8851", func := "grapnel/grapnellaw04.PlateReads", spec := "plateReads", inPlace := ["internal/abi.NoEscape", "internal/bytealg.MakeNoZero"], apart := false, narrowed := true }
def PlateReadsUptoSaid : Prop := plateReadsUptoRow.holds Try.pinned (OpenSpec.upto plateReadsSpec)

/-- 'grapnellaw04.PlatePlays', WHERE WHAT IT READS IS OF BULK AT MOST 1048576: true; the input reads as it did. -/
def platePlaysUptoRow : OpenClaim := { program := "ytkmdajbhkfneaaa", sum := "a8e97112c488b291ca8472ce02bd16840822f3458a72808c515710f0aaab8851", func := "grapnel/grapnellaw04.PlatePlays", spec := "platePlays", inPlace := ["internal/abi.NoEscape", "internal/bytealg.MakeNoZero"], apart := false, narrowed := true }
def PlatePlaysUptoSaid : Prop := platePlaysUptoRow.holds Try.pinned (OpenSpec.upto platePlaysSpec)

/-- 'grapnellaw04.PlateCopies', WHERE WHAT IT READS IS OF BULK AT MOST 1048576: true; the input reads as it did. -/
def plateCopiesUptoRow : OpenClaim := { program := "ytkmdajbhkfneaaa", sum := "a8e97112c488b291ca8472ce02bd16840822f3458a72808c515710f0aaab8851", func := "grapnel/grapnellaw04.PlateCopies", spec := "plateCopies", inPlace := ["internal/abi.NoEscape", "internal/bytealg.MakeNoZero"], apart := false, narrowed := true }
def PlateCopiesUptoSaid : Prop := plateCopiesUptoRow.holds Try.pinned (OpenSpec.upto plateCopiesSpec)

/-- 'grapnellaw04.PlateNobody', WHERE WHAT IT READS IS OF BULK AT MOST 1048576: true; the input reads as it did. -/
def plateNobodyUptoRow : OpenClaim := { program := "ytkmdajbhkfneaaa", sum := "a8e97112c488b291ca8472ce02bd16840822f3458a72808c515710f0aaab8851", func := "grapnel/grapnellaw04.PlateNobody", spec := "plateNobody", inPlace := ["internal/abi.NoEscape", "internal/bytealg.MakeNoZero"], apart := false, narrowed := true }
def PlateNobodyUptoSaid : Prop := plateNobodyUptoRow.holds Try.pinned (OpenSpec.upto plateNobodySpec)

end Rows
end Go.Proofs.Ytkmdajbhkfneaaa
