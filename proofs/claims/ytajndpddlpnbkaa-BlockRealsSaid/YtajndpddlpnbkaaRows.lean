/-
  No cell of these rows narrows 'for every input' (looked for: loops, veiled, ifaces, maps, wideKeys, modest, calm, conditions, laid).
  DERIVED. THE GIVEN ROWS OF THIS SEAT. 5 by the template 'for every input the law returns true; each argument reads behind the call as it read before'; 0 by the template 'total and deterministic' (their statements: YtajndpddlpnbkaaTotals.lean).
  GIVEN WITH THE SEED: the statements are not yours to turn. If you find one false, say at which input.
  Laid BY PROGRAM, IN A SANDBOX (cutbox-rows.mjs): the forced cells as the released guide's own fill.sh prints them over the translation d16d6e84bfea46ab… (all of the seat's roots in one cut). By AI agents, Wed Nov 11 2026. No macro, syntax, notation, axiom, sorry.
-/
import Derived.Test.YtajndpddlpnbkaaChecked
import GoSem.Claim
import GoSem.ClaimJoined
import GoSem.ClaimMapViews
import Derived.JoinedTies
import Derived.KernelRfl
namespace Go.Proofs.Ytajndpddlpnbkaa
/- THE CELL 'sum', in the pinned program and in every row, IS THE sha256 OF THE DUMP (.gsa) THAT YtajndpddlpnbkaaProg.lean LOADS. Nothing in Lean hashes anything: it is a label: what it is worth is what the hold of that sum in a sandbox is worth. -/
noncomputable def Try.pinned : Pinned := { name := "ytajndpddlpnbkaa", sum := "d16d6e84bfea46abcfcc9d6cc5e5d87d7d27bdd07365a8ab5ebefd78e457a2a9", checked := Try.checked }
namespace Rows
def none {H : Type} : Left H := { results := [], args := [] }

/-- 'grapnellaw06.BlockMoved': WHATEVER THE INPUT: true; the input reads as it did. -/
def blockMovedSpec : ChangeSpec := { name := "blockMoved", fn := fun _ => fun
  | [d1, d2, d3, d4] => { results := [.lit (.bool true)], args := [d1, d2, d3, d4] }
  | _ => none }
def blockMovedRow : OpenClaim := { program := "ytajndpddlpnbkaa", sum := "d16d6e84bfea46abcfcc9d6cc5e5d87d7d27bdd07365a8ab5ebefd78e457a2a9", func := "grapnel/grapnellaw06.BlockMoved", spec := "blockMoved", unfollowed := true, recurses := true, plainKeys := false, apart := false }
def BlockMovedSaid : Prop := blockMovedRow.holds Try.pinned (OpenSpec.ofChange blockMovedSpec)

/-- ITS FALSE NEIGHBOUR: 'it returns false'. Refute it at one input. -/
def blockMovedWrong : ChangeSpec := { name := "blockMoved", fn := fun _ => fun
  | [d1, d2, d3, d4] => { results := [.lit (.bool false)], args := [d1, d2, d3, d4] }
  | _ => none }
def BlockMovedWrongFalsely : Prop := blockMovedRow.holds Try.pinned (OpenSpec.ofChange blockMovedWrong)

/-- 'grapnellaw06.BlockTorn': WHATEVER THE INPUT: true; the input reads as it did. -/
def blockTornSpec : ChangeSpec := { name := "blockTorn", fn := fun _ => fun
  | [d1, d2, d3, d4, d5] => { results := [.lit (.bool true)], args := [d1, d2, d3, d4, d5] }
  | _ => none }
def blockTornRow : OpenClaim := { program := "ytajndpddlpnbkaa", sum := "d16d6e84bfea46abcfcc9d6cc5e5d87d7d27bdd07365a8ab5ebefd78e457a2a9", func := "grapnel/grapnellaw06.BlockTorn", spec := "blockTorn", unfollowed := true, recurses := true, plainKeys := false, apart := false }
def BlockTornSaid : Prop := blockTornRow.holds Try.pinned (OpenSpec.ofChange blockTornSpec)

/-- ITS FALSE NEIGHBOUR: 'it returns false'. Refute it at one input. -/
def blockTornWrong : ChangeSpec := { name := "blockTorn", fn := fun _ => fun
  | [d1, d2, d3, d4, d5] => { results := [.lit (.bool false)], args := [d1, d2, d3, d4, d5] }
  | _ => none }
def BlockTornWrongFalsely : Prop := blockTornRow.holds Try.pinned (OpenSpec.ofChange blockTornWrong)

/-- 'grapnellaw06.BlockSeals': WHATEVER THE INPUT: true; the input reads as it did. -/
def blockSealsSpec : ChangeSpec := { name := "blockSeals", fn := fun _ => fun
  | [d1, d2, d3] => { results := [.lit (.bool true)], args := [d1, d2, d3] }
  | _ => none }
def blockSealsRow : OpenClaim := { program := "ytajndpddlpnbkaa", sum := "d16d6e84bfea46abcfcc9d6cc5e5d87d7d27bdd07365a8ab5ebefd78e457a2a9", func := "grapnel/grapnellaw06.BlockSeals", spec := "blockSeals", unfollowed := true, recurses := true, plainKeys := false, apart := false }
def BlockSealsSaid : Prop := blockSealsRow.holds Try.pinned (OpenSpec.ofChange blockSealsSpec)

/-- ITS FALSE NEIGHBOUR: 'it returns false'. Refute it at one input. -/
def blockSealsWrong : ChangeSpec := { name := "blockSeals", fn := fun _ => fun
  | [d1, d2, d3] => { results := [.lit (.bool false)], args := [d1, d2, d3] }
  | _ => none }
def BlockSealsWrongFalsely : Prop := blockSealsRow.holds Try.pinned (OpenSpec.ofChange blockSealsWrong)

/-- 'grapnellaw06.BlockReals': WHATEVER THE INPUT: true; the input reads as it did. -/
def blockRealsSpec : ChangeSpec := { name := "blockReals", fn := fun _ => fun
  | [d1, d2, d3] => { results := [.lit (.bool true)], args := [d1, d2, d3] }
  | _ => none }
def blockRealsRow : OpenClaim := { program := "ytajndpddlpnbkaa", sum := "d16d6e84bfea46abcfcc9d6cc5e5d87d7d27bdd07365a8ab5ebefd78e457a2a9", func := "grapnel/grapnellaw06.BlockReals", spec := "blockReals", unfollowed := true, recurses := true, plainKeys := false, apart := false }
def BlockRealsSaid : Prop := blockRealsRow.holds Try.pinned (OpenSpec.ofChange blockRealsSpec)

/-- ITS FALSE NEIGHBOUR: 'it returns false'. Refute it at one input. -/
def blockRealsWrong : ChangeSpec := { name := "blockReals", fn := fun _ => fun
  | [d1, d2, d3] => { results := [.lit (.bool false)], args := [d1, d2, d3] }
  | _ => none }
def BlockRealsWrongFalsely : Prop := blockRealsRow.holds Try.pinned (OpenSpec.ofChange blockRealsWrong)

/-- 'grapnellaw06.BlockLooks': WHATEVER THE INPUT: true; the input reads as it did. -/
def blockLooksSpec : ChangeSpec := { name := "blockLooks", fn := fun _ => fun
  | [d1, d2, d3, d4] => { results := [.lit (.bool true)], args := [d1, d2, d3, d4] }
  | _ => none }
def blockLooksRow : OpenClaim := { program := "ytajndpddlpnbkaa", sum := "d16d6e84bfea46abcfcc9d6cc5e5d87d7d27bdd07365a8ab5ebefd78e457a2a9", func := "grapnel/grapnellaw06.BlockLooks", spec := "blockLooks", inPlace := ["internal/abi.NoEscape", "internal/bytealg.MakeNoZero"], unfollowed := true, recurses := true, plainKeys := false, apart := false }
def BlockLooksSaid : Prop := blockLooksRow.holds Try.pinned (OpenSpec.ofChange blockLooksSpec)

/-- ITS FALSE NEIGHBOUR: 'it returns false'. Refute it at one input. -/
def blockLooksWrong : ChangeSpec := { name := "blockLooks", fn := fun _ => fun
  | [d1, d2, d3, d4] => { results := [.lit (.bool false)], args := [d1, d2, d3, d4] }
  | _ => none }
def BlockLooksWrongFalsely : Prop := blockLooksRow.holds Try.pinned (OpenSpec.ofChange blockLooksWrong)

/- THE SECOND FORM. 'bulk': how many values and letters a reading holds, each counted each time it is reached (what is shared counts as often as it is met; a slice's spare places count too). A statement '..UptoSaid' is the law's where the arguments, and the package variables that the reading takes, are together of bulk at most 1048576: NARROWER than '..Said'. Prove '..Said' where nothing that the law and all that it calls make is longer than what came in: it says more and counts as full. Else prove '..UptoSaid'. A law counts once. -/
mutual
def uptoBulk {H : Type} : DataW H → Nat
  | .lit (.string bytes) => bytes.length + 1
  | .lit _ => 1
  | .nil => 1
  | .ptr d => uptoBulk d + 1
  | .slice elems spare => uptoBulkAll elems + uptoBulkAll spare + 1
  | .agg parts => uptoBulkAll parts + 1
  | .iface _ d => uptoBulk d + 1
  | .map entries => uptoBulkEntries entries + 1
  | .held _ => 1
def uptoBulkAll {H : Type} : List (DataW H) → Nat
  | [] => 0
  | d :: r => uptoBulk d + uptoBulkAll r
def uptoBulkEntries {H : Type} : List (Lit × DataW H) → Nat
  | [] => 0
  | x :: r => uptoBulkEntry x + uptoBulkEntries r
def uptoBulkEntry {H : Type} : Lit × DataW H → Nat
  | (.string bytes, d) => bytes.length + uptoBulk d + 1
  | (_, d) => uptoBulk d + 1
 end
def uptoSmall : (H : Type) → List (DataW H) → Bool := fun _ ds => decide (uptoBulkAll ds ≤ 1048576)
def OpenSpec.upto (s : _root_.Go.ChangeSpec) : _root_.Go.OpenSpec := { _root_.Go.OpenSpec.ofChange s with cond := some uptoSmall }

/-- 'grapnellaw06.BlockMoved', WHERE WHAT IT READS IS OF BULK AT MOST 1048576: true; the input reads as it did. -/
def blockMovedUptoRow : OpenClaim := { program := "ytajndpddlpnbkaa", sum := "d16d6e84bfea46abcfcc9d6cc5e5d87d7d27bdd07365a8ab5ebefd78e457a2a9", func := "grapnel/grapnellaw06.BlockMoved", spec := "blockMoved", unfollowed := true, recurses := true, plainKeys := false, apart := false, narrowed := true }
def BlockMovedUptoSaid : Prop := blockMovedUptoRow.holds Try.pinned (OpenSpec.upto blockMovedSpec)

/-- 'grapnellaw06.BlockTorn', WHERE WHAT IT READS IS OF BULK AT MOST 1048576: true; the input reads as it did. -/
def blockTornUptoRow : OpenClaim := { program := "ytajndpddlpnbkaa", sum := "d16d6e84bfea46abcfcc9d6cc5e5d87d7d27bdd07365a8ab5ebefd78e457a2a9", func := "grapnel/grapnellaw06.BlockTorn", spec := "blockTorn", unfollowed := true, recurses := true, plainKeys := false, apart := false, narrowed := true }
def BlockTornUptoSaid : Prop := blockTornUptoRow.holds Try.pinned (OpenSpec.upto blockTornSpec)

/-- 'grapnellaw06.BlockSeals', WHERE WHAT IT READS IS OF BULK AT MOST 1048576: true; the input reads as it did. -/
def blockSealsUptoRow : OpenClaim := { program := "ytajndpddlpnbkaa", sum := "d16d6e84bfea46abcfcc9d6cc5e5d87d7d27bdd07365a8ab5ebefd78e457a2a9", func := "grapnel/grapnellaw06.BlockSeals", spec := "blockSeals", unfollowed := true, recurses := true, plainKeys := false, apart := false, narrowed := true }
def BlockSealsUptoSaid : Prop := blockSealsUptoRow.holds Try.pinned (OpenSpec.upto blockSealsSpec)

/-- 'grapnellaw06.BlockReals', WHERE WHAT IT READS IS OF BULK AT MOST 1048576: true; the input reads as it did. -/
def blockRealsUptoRow : OpenClaim := { program := "ytajndpddlpnbkaa", sum := "d16d6e84bfea46abcfcc9d6cc5e5d87d7d27bdd07365a8ab5ebefd78e457a2a9", func := "grapnel/grapnellaw06.BlockReals", spec := "blockReals", unfollowed := true, recurses := true, plainKeys := false, apart := false, narrowed := true }
def BlockRealsUptoSaid : Prop := blockRealsUptoRow.holds Try.pinned (OpenSpec.upto blockRealsSpec)

/-- 'grapnellaw06.BlockLooks', WHERE WHAT IT READS IS OF BULK AT MOST 1048576: true; the input reads as it did. -/
def blockLooksUptoRow : OpenClaim := { program := "ytajndpddlpnbkaa", sum := "d16d6e84bfea46abcfcc9d6cc5e5d87d7d27bdd07365a8ab5ebefd78e457a2a9", func := "grapnel/grapnellaw06.BlockLooks", spec := "blockLooks", inPlace := ["internal/abi.NoEscape", "internal/bytealg.MakeNoZero"], unfollowed := true, recurses := true, plainKeys := false, apart := false, narrowed := true }
def BlockLooksUptoSaid : Prop := blockLooksUptoRow.holds Try.pinned (OpenSpec.upto blockLooksSpec)

end Rows
end Go.Proofs.Ytajndpddlpnbkaa
