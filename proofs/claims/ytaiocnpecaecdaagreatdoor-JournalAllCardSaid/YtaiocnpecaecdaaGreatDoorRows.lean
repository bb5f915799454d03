/-
  NARROWER THAN 'FOR EVERY INPUT', by the rows' own cells (each row's printed sentence says how): JournalLives: laid · JournalChooses: laid · JournalNobody: laid · JournalAll: laid · JournalSupers: laid · JournalFormats: laid · JournalCommits: laid · JournalFounds: laid · JournalAnews: laid · JournalRecovers: laid.
  DERIVED. THE GIVEN ROWS OF THIS SEAT. 10 by the template 'for every input the law returns true; each argument reads behind the call as it read before'; 0 by the template 'total and deterministic' (their statements: YtaiocnpecaecdaaGreatDoorTotals.lean).
  GIVEN WITH THE SEED: the statements are not yours to turn. If you find one false, say at which input.
  Laid BY PROGRAM, IN A SANDBOX (cutbox-rows.mjs): the forced cells as the released guide's own fill.sh prints them over the translation 047cc72e5f02c2fc… (all of the seat's roots in one cut). By AI agents, Wed Nov 11 2026. No macro, syntax, notation, axiom, sorry.
-/
import Derived.Test.YtaiocnpecaecdaaGreatDoorChecked
import GoSem.Claim
import GoSem.ClaimJoined
import GoSem.ClaimMapViews
import Derived.JoinedTies
import Derived.KernelRfl
namespace Go.Proofs.YtaiocnpecaecdaaGreatDoor
/- THE CELL 'sum', in the pinned program and in every row, IS THE sha256 OF THE DUMP (.gsa) THAT YtaiocnpecaecdaaGreatDoorProg.lean LOADS. Nothing in Lean hashes anything: it is a label: what it is worth is what the hold of that sum in a sandbox is worth. -/
noncomputable def Tryz.pinned : Pinned := { name := "ytaiocnpecaecdaagreatdoor", sum := "047cc72e5f02c2fc2fa48bec82c96f229f079e152bdf61f1b7d3cf1312f65478", checked := Tryz.checked }
namespace Rows
def none {H : Type} : Left H := { results := [], args := [] }

/- WHAT THE LISTED PACKAGE-LEVEL VARIABLES READ AS WHEN THE CALL BEGINS. Each datum BY PROGRAM (the guide's laid-datum.mjs) off the statement by which the dump's own 'gosem.cut.vars' lays the variable. In a bare row this is a premise. The card (YtaiocnpecaecdaaGreatDoorCards.lean) ties it to the program's text. -/
def laid_errors_errorType {H : Type} : DataW H := .iface "internal/reflectlite.rtype" (.agg [.ptr (.lit (.string [101, 114, 114, 111, 114]))])

/-- 'grapnellaw12.JournalLives': WHATEVER THE INPUT: true; the input reads as it did. -/
def journalLivesSpec : ChangeSpec := { name := "journalLives", fn := fun _ => fun
  | [d] => { results := [.lit (.bool true)], args := [d] }
  | _ => none }
def journalLivesRow : OpenClaim := { program := "ytaiocnpecaecdaagreatdoor", sum := "047cc72e5f02c2fc2fa48bec82c96f229f079e152bdf61f1b7d3cf1312f65478", func := "grapnel/grapnellaw12.JournalLives", spec := "journalLives", inPlace := ["internal/abi.NoEscape", "internal/bytealg.MakeNoZero", "internal/reflectlite.ValueOf", "(internal/reflectlite.Value).Type", "(internal/reflectlite.Value).IsNil", "internal/reflectlite.TypeOf", "(internal/reflectlite.Value).Elem", "(internal/reflectlite.Value).Set"], unfollowed := true, recurses := true, named := ["errors.errorType"], plainKeys := false, apart := false, laid := [("errors.errorType", laid_errors_errorType)] }
def JournalLivesSaid : Prop := journalLivesRow.holds Tryz.pinned (OpenSpec.ofChange journalLivesSpec)

/-- ITS FALSE NEIGHBOUR: 'it returns false'. Refute it at one input. -/
def journalLivesWrong : ChangeSpec := { name := "journalLives", fn := fun _ => fun
  | [d] => { results := [.lit (.bool false)], args := [d] }
  | _ => none }
def JournalLivesWrongFalsely : Prop := journalLivesRow.holds Tryz.pinned (OpenSpec.ofChange journalLivesWrong)

/-- 'grapnellaw12.JournalChooses': WHATEVER THE INPUT: true; the input reads as it did. -/
def journalChoosesSpec : ChangeSpec := { name := "journalChooses", fn := fun _ => fun
  | [d1, d2] => { results := [.lit (.bool true)], args := [d1, d2] }
  | _ => none }
def journalChoosesRow : OpenClaim := { program := "ytaiocnpecaecdaagreatdoor", sum := "047cc72e5f02c2fc2fa48bec82c96f229f079e152bdf61f1b7d3cf1312f65478", func := "grapnel/grapnellaw12.JournalChooses", spec := "journalChooses", inPlace := ["internal/abi.NoEscape", "internal/bytealg.MakeNoZero", "internal/reflectlite.ValueOf", "(internal/reflectlite.Value).Type", "(internal/reflectlite.Value).IsNil", "internal/reflectlite.TypeOf", "(internal/reflectlite.Value).Elem", "(internal/reflectlite.Value).Set"], unfollowed := true, recurses := true, named := ["errors.errorType"], plainKeys := false, apart := false, laid := [("errors.errorType", laid_errors_errorType)] }
def JournalChoosesSaid : Prop := journalChoosesRow.holds Tryz.pinned (OpenSpec.ofChange journalChoosesSpec)

/-- ITS FALSE NEIGHBOUR: 'it returns false'. Refute it at one input. -/
def journalChoosesWrong : ChangeSpec := { name := "journalChooses", fn := fun _ => fun
  | [d1, d2] => { results := [.lit (.bool false)], args := [d1, d2] }
  | _ => none }
def JournalChoosesWrongFalsely : Prop := journalChoosesRow.holds Tryz.pinned (OpenSpec.ofChange journalChoosesWrong)

/-- 'grapnellaw12.JournalNobody': WHATEVER THE INPUT: true; the input reads as it did. -/
def journalNobodySpec : ChangeSpec := { name := "journalNobody", fn := fun _ => fun
  | [d1, d2] => { results := [.lit (.bool true)], args := [d1, d2] }
  | _ => none }
def journalNobodyRow : OpenClaim := { program := "ytaiocnpecaecdaagreatdoor", sum := "047cc72e5f02c2fc2fa48bec82c96f229f079e152bdf61f1b7d3cf1312f65478", func := "grapnel/grapnellaw12.JournalNobody", spec := "journalNobody", inPlace := ["internal/abi.NoEscape", "internal/bytealg.MakeNoZero", "internal/reflectlite.ValueOf", "(internal/reflectlite.Value).Type", "(internal/reflectlite.Value).IsNil", "internal/reflectlite.TypeOf", "(internal/reflectlite.Value).Elem", "(internal/reflectlite.Value).Set"], unfollowed := true, recurses := true, named := ["errors.errorType"], plainKeys := false, apart := false, laid := [("errors.errorType", laid_errors_errorType)] }
def JournalNobodySaid : Prop := journalNobodyRow.holds Tryz.pinned (OpenSpec.ofChange journalNobodySpec)

/-- ITS FALSE NEIGHBOUR: 'it returns false'. Refute it at one input. -/
def journalNobodyWrong : ChangeSpec := { name := "journalNobody", fn := fun _ => fun
  | [d1, d2] => { results := [.lit (.bool false)], args := [d1, d2] }
  | _ => none }
def JournalNobodyWrongFalsely : Prop := journalNobodyRow.holds Tryz.pinned (OpenSpec.ofChange journalNobodyWrong)

/-- 'grapnellaw12.JournalAll': WHATEVER THE INPUT: true; the input reads as it did. -/
def journalAllSpec : ChangeSpec := { name := "journalAll", fn := fun _ => fun
  | [d1, d2, d3] => { results := [.lit (.bool true)], args := [d1, d2, d3] }
  | _ => none }
def journalAllRow : OpenClaim := { program := "ytaiocnpecaecdaagreatdoor", sum := "047cc72e5f02c2fc2fa48bec82c96f229f079e152bdf61f1b7d3cf1312f65478", func := "grapnel/grapnellaw12.JournalAll", spec := "journalAll", inPlace := ["internal/abi.NoEscape", "internal/bytealg.MakeNoZero", "internal/reflectlite.ValueOf", "(internal/reflectlite.Value).Type", "(internal/reflectlite.Value).IsNil", "internal/reflectlite.TypeOf", "(internal/reflectlite.Value).Elem", "(internal/reflectlite.Value).Set"], unfollowed := true, recurses := true, named := ["errors.errorType"], plainKeys := false, apart := false, laid := [("errors.errorType", laid_errors_errorType)] }
def JournalAllSaid : Prop := journalAllRow.holds Tryz.pinned (OpenSpec.ofChange journalAllSpec)

/-- ITS FALSE NEIGHBOUR: 'it returns false'. Refute it at one input. -/
def journalAllWrong : ChangeSpec := { name := "journalAll", fn := fun _ => fun
  | [d1, d2, d3] => { results := [.lit (.bool false)], args := [d1, d2, d3] }
  | _ => none }
def JournalAllWrongFalsely : Prop := journalAllRow.holds Tryz.pinned (OpenSpec.ofChange journalAllWrong)

/-- 'grapnellaw12.JournalSupers': WHATEVER THE INPUT: true; the input reads as it did. -/
def journalSupersSpec : ChangeSpec := { name := "journalSupers", fn := fun _ => fun
  | [d] => { results := [.lit (.bool true)], args := [d] }
  | _ => none }
def journalSupersRow : OpenClaim := { program := "ytaiocnpecaecdaagreatdoor", sum := "047cc72e5f02c2fc2fa48bec82c96f229f079e152bdf61f1b7d3cf1312f65478", func := "grapnel/grapnellaw12.JournalSupers", spec := "journalSupers", inPlace := ["internal/abi.NoEscape", "internal/bytealg.MakeNoZero", "internal/reflectlite.ValueOf", "(internal/reflectlite.Value).Type", "(internal/reflectlite.Value).IsNil", "internal/reflectlite.TypeOf", "(internal/reflectlite.Value).Elem", "(internal/reflectlite.Value).Set"], unfollowed := true, recurses := true, named := ["errors.errorType"], plainKeys := false, apart := false, laid := [("errors.errorType", laid_errors_errorType)] }
def JournalSupersSaid : Prop := journalSupersRow.holds Tryz.pinned (OpenSpec.ofChange journalSupersSpec)

/-- ITS FALSE NEIGHBOUR: 'it returns false'. Refute it at one input. -/
def journalSupersWrong : ChangeSpec := { name := "journalSupers", fn := fun _ => fun
  | [d] => { results := [.lit (.bool false)], args := [d] }
  | _ => none }
def JournalSupersWrongFalsely : Prop := journalSupersRow.holds Tryz.pinned (OpenSpec.ofChange journalSupersWrong)

/-- 'grapnellaw12.JournalFormats': WHATEVER THE INPUT: true; the input reads as it did. -/
def journalFormatsSpec : ChangeSpec := { name := "journalFormats", fn := fun _ => fun
  | [d1, d2, d3] => { results := [.lit (.bool true)], args := [d1, d2, d3] }
  | _ => none }
def journalFormatsRow : OpenClaim := { program := "ytaiocnpecaecdaagreatdoor", sum := "047cc72e5f02c2fc2fa48bec82c96f229f079e152bdf61f1b7d3cf1312f65478", func := "grapnel/grapnellaw12.JournalFormats", spec := "journalFormats", inPlace := ["internal/abi.NoEscape", "internal/bytealg.MakeNoZero", "internal/reflectlite.ValueOf", "(internal/reflectlite.Value).Type", "(internal/reflectlite.Value).IsNil", "internal/reflectlite.TypeOf", "(internal/reflectlite.Value).Elem", "(internal/reflectlite.Value).Set"], unfollowed := true, recurses := true, named := ["errors.errorType"], plainKeys := false, apart := false, laid := [("errors.errorType", laid_errors_errorType)] }
def JournalFormatsSaid : Prop := journalFormatsRow.holds Tryz.pinned (OpenSpec.ofChange journalFormatsSpec)

/-- ITS FALSE NEIGHBOUR: 'it returns false'. Refute it at one input. -/
def journalFormatsWrong : ChangeSpec := { name := "journalFormats", fn := fun _ => fun
  | [d1, d2, d3] => { results := [.lit (.bool false)], args := [d1, d2, d3] }
  | _ => none }
def JournalFormatsWrongFalsely : Prop := journalFormatsRow.holds Tryz.pinned (OpenSpec.ofChange journalFormatsWrong)

/-- 'grapnellaw12.JournalCommits': WHATEVER THE INPUT: true; the input reads as it did. -/
def journalCommitsSpec : ChangeSpec := { name := "journalCommits", fn := fun _ => fun
  | [d1, d2, d3, d4] => { results := [.lit (.bool true)], args := [d1, d2, d3, d4] }
  | _ => none }
def journalCommitsRow : OpenClaim := { program := "ytaiocnpecaecdaagreatdoor", sum := "047cc72e5f02c2fc2fa48bec82c96f229f079e152bdf61f1b7d3cf1312f65478", func := "grapnel/grapnellaw12.JournalCommits", spec := "journalCommits", inPlace := ["internal/abi.NoEscape", "internal/bytealg.MakeNoZero", "internal/reflectlite.ValueOf", "(internal/reflectlite.Value).Type", "(internal/reflectlite.Value).IsNil", "internal/reflectlite.TypeOf", "(internal/reflectlite.Value).Elem", "(internal/reflectlite.Value).Set"], unfollowed := true, recurses := true, named := ["errors.errorType"], plainKeys := false, apart := false, laid := [("errors.errorType", laid_errors_errorType)] }
def JournalCommitsSaid : Prop := journalCommitsRow.holds Tryz.pinned (OpenSpec.ofChange journalCommitsSpec)

/-- ITS FALSE NEIGHBOUR: 'it returns false'. Refute it at one input. -/
def journalCommitsWrong : ChangeSpec := { name := "journalCommits", fn := fun _ => fun
  | [d1, d2, d3, d4] => { results := [.lit (.bool false)], args := [d1, d2, d3, d4] }
  | _ => none }
def JournalCommitsWrongFalsely : Prop := journalCommitsRow.holds Tryz.pinned (OpenSpec.ofChange journalCommitsWrong)

/-- 'grapnellaw12.JournalFounds': WHATEVER THE INPUT: true; the input reads as it did. -/
def journalFoundsSpec : ChangeSpec := { name := "journalFounds", fn := fun _ => fun
  | [d1, d2, d3] => { results := [.lit (.bool true)], args := [d1, d2, d3] }
  | _ => none }
def journalFoundsRow : OpenClaim := { program := "ytaiocnpecaecdaagreatdoor", sum := "047cc72e5f02c2fc2fa48bec82c96f229f079e152bdf61f1b7d3cf1312f65478", func := "grapnel/grapnellaw12.JournalFounds", spec := "journalFounds", inPlace := ["internal/abi.NoEscape", "internal/reflectlite.ValueOf", "(internal/reflectlite.Value).Type", "(internal/reflectlite.Value).IsNil", "internal/reflectlite.TypeOf", "(internal/reflectlite.Value).Elem", "(internal/reflectlite.Value).Set", "internal/bytealg.MakeNoZero"], unfollowed := true, recurses := true, named := ["errors.errorType"], plainKeys := false, apart := false, laid := [("errors.errorType", laid_errors_errorType)] }
def JournalFoundsSaid : Prop := journalFoundsRow.holds Tryz.pinned (OpenSpec.ofChange journalFoundsSpec)

/-- ITS FALSE NEIGHBOUR: 'it returns false'. Refute it at one input. -/
def journalFoundsWrong : ChangeSpec := { name := "journalFounds", fn := fun _ => fun
  | [d1, d2, d3] => { results := [.lit (.bool false)], args := [d1, d2, d3] }
  | _ => none }
def JournalFoundsWrongFalsely : Prop := journalFoundsRow.holds Tryz.pinned (OpenSpec.ofChange journalFoundsWrong)

/-- 'grapnellaw12.JournalAnews': WHATEVER THE INPUT: true; the input reads as it did. -/
def journalAnewsSpec : ChangeSpec := { name := "journalAnews", fn := fun _ => fun
  | [d1, d2, d3] => { results := [.lit (.bool true)], args := [d1, d2, d3] }
  | _ => none }
def journalAnewsRow : OpenClaim := { program := "ytaiocnpecaecdaagreatdoor", sum := "047cc72e5f02c2fc2fa48bec82c96f229f079e152bdf61f1b7d3cf1312f65478", func := "grapnel/grapnellaw12.JournalAnews", spec := "journalAnews", inPlace := ["internal/abi.NoEscape", "internal/bytealg.MakeNoZero", "internal/reflectlite.ValueOf", "(internal/reflectlite.Value).Type", "(internal/reflectlite.Value).IsNil", "internal/reflectlite.TypeOf", "(internal/reflectlite.Value).Elem", "(internal/reflectlite.Value).Set"], unfollowed := true, recurses := true, named := ["errors.errorType"], plainKeys := false, apart := false, laid := [("errors.errorType", laid_errors_errorType)] }
def JournalAnewsSaid : Prop := journalAnewsRow.holds Tryz.pinned (OpenSpec.ofChange journalAnewsSpec)

/-- ITS FALSE NEIGHBOUR: 'it returns false'. Refute it at one input. -/
def journalAnewsWrong : ChangeSpec := { name := "journalAnews", fn := fun _ => fun
  | [d1, d2, d3] => { results := [.lit (.bool false)], args := [d1, d2, d3] }
  | _ => none }
def JournalAnewsWrongFalsely : Prop := journalAnewsRow.holds Tryz.pinned (OpenSpec.ofChange journalAnewsWrong)

/-- 'grapnellaw12.JournalRecovers': WHATEVER THE INPUT: true; the input reads as it did. -/
def journalRecoversSpec : ChangeSpec := { name := "journalRecovers", fn := fun _ => fun
  | [d1, d2, d3, d4, d5] => { results := [.lit (.bool true)], args := [d1, d2, d3, d4, d5] }
  | _ => none }
def journalRecoversRow : OpenClaim := { program := "ytaiocnpecaecdaagreatdoor", sum := "047cc72e5f02c2fc2fa48bec82c96f229f079e152bdf61f1b7d3cf1312f65478", func := "grapnel/grapnellaw12.JournalRecovers", spec := "journalRecovers", inPlace := ["internal/abi.NoEscape", "internal/bytealg.MakeNoZero", "internal/reflectlite.ValueOf", "(internal/reflectlite.Value).Type", "(internal/reflectlite.Value).IsNil", "internal/reflectlite.TypeOf", "(internal/reflectlite.Value).Elem", "(internal/reflectlite.Value).Set"], unfollowed := true, recurses := true, named := ["errors.errorType"], plainKeys := false, apart := false, laid := [("errors.errorType", laid_errors_errorType)] }
def JournalRecoversSaid : Prop := journalRecoversRow.holds Tryz.pinned (OpenSpec.ofChange journalRecoversSpec)

/-- ITS FALSE NEIGHBOUR: 'it returns false'. Refute it at one input. -/
def journalRecoversWrong : ChangeSpec := { name := "journalRecovers", fn := fun _ => fun
  | [d1, d2, d3, d4, d5] => { results := [.lit (.bool false)], args := [d1, d2, d3, d4, d5] }
  | _ => none }
def JournalRecoversWrongFalsely : Prop := journalRecoversRow.holds Tryz.pinned (OpenSpec.ofChange journalRecoversWrong)

/- THE SECOND FORM. 'bulk': how many values and letters a reading holds, each counted each time it is reached (what is shared counts as often as it is met; a slice's spare places count too). A statement '..UptoSaid' is the law's where the arguments, and the package variables that the reading takes, are together of bulk at most 1048576: NARROWER than '..Said'. Prove '..Said' where nothing that the law and all that it calls make is longer than what came in: it says more and counts as full. Else prove '..UptoSaid'. A law counts once. -/
mutual
def uptoBulk {H : Type} : DataW H → Nat
  | .lit (.string bytes) => bytes.length + 1
  | .lit _ => 1
  | .nil => 1
  | .ptr d => uptoBulk d + 1
  | .slice elems spare => uptoBulkAll elems + uptoBulkAll spare + 1
  | .agg parts => uptoBulkAll parts + 1
  | .iface _ d => uptoBulk d + 1
  | .map entries => uptoBulkEntries entries + 1
  | .held _ => 1
def uptoBulkAll {H : Type} : List (DataW H) → Nat
  | [] => 0
  | d :: r => uptoBulk d + uptoBulkAll r
def uptoBulkEntries {H : Type} : List (Lit × DataW H) → Nat
  | [] => 0
  | x :: r => uptoBulkEntry x + uptoBulkEntries r
def uptoBulkEntry {H : Type} : Lit × DataW H → Nat
  | (.string bytes, d) => bytes.length + uptoBulk d + 1
  | (_, d) => uptoBulk d + 1
 end
def uptoSmall : (H : Type) → List (DataW H) → Bool := fun _ ds => decide (uptoBulkAll ds ≤ 1048576)
def OpenSpec.upto (s : _root_.Go.ChangeSpec) : _root_.Go.OpenSpec := { _root_.Go.OpenSpec.ofChange s with cond := some uptoSmall }

/-- 'grapnellaw12.JournalLives', WHERE WHAT IT READS IS OF BULK AT MOST 1048576: true; the input reads as it did. -/
def journalLivesUptoRow : OpenClaim := { program := "ytaiocnpecaecdaagreatdoor", sum := "047cc72e5f02c2fc2fa48bec82c96f229f079e152bdf61f1b7d3cf1312f65478", func := "grapnel/grapnellaw12.JournalLives", spec := "journalLives", inPlace := ["internal/abi.NoEscape", "internal/bytealg.MakeNoZero", "internal/reflectlite.ValueOf", "(internal/reflectlite.Value).Type", "(internal/reflectlite.Value).IsNil", "internal/reflectlite.TypeOf", "(internal/reflectlite.Value).Elem", "(internal/reflectlite.Value).Set"], unfollowed := true, recurses := true, named := ["errors.errorType"], plainKeys := false, apart := false, laid := [("errors.errorType", laid_errors_errorType)], narrowed := true }
def JournalLivesUptoSaid : Prop := journalLivesUptoRow.holds Tryz.pinned (OpenSpec.upto journalLivesSpec)

/-- 'grapnellaw12.JournalChooses', WHERE WHAT IT READS IS OF BULK AT MOST 1048576: true; the input reads as it did. -/
def journalChoosesUptoRow : OpenClaim := { program := "ytaiocnpecaecdaagreatdoor", sum := "047cc72e5f02c2fc2fa48bec82c96f229f079e152bdf61f1b7d3cf1312f65478", func := "grapnel/grapnellaw12.JournalChooses", spec := "journalChooses", inPlace := ["internal/abi.NoEscape", "internal/bytealg.MakeNoZero", "internal/reflectlite.ValueOf", "(internal/reflectlite.Value).Type", "(internal/reflectlite.Value).IsNil", "internal/reflectlite.TypeOf", "(internal/reflectlite.Value).Elem", "(internal/reflectlite.Value).Set"], unfollowed := true, recurses := true, named := ["errors.errorType"], plainKeys := false, apart := false, laid := [("errors.errorType", laid_errors_errorType)], narrowed := true }
def JournalChoosesUptoSaid : Prop := journalChoosesUptoRow.holds Tryz.pinned (OpenSpec.upto journalChoosesSpec)

/-- 'grapnellaw12.JournalNobody', WHERE WHAT IT READS IS OF BULK AT MOST 1048576: true; the input reads as it did. -/
def journalNobodyUptoRow : OpenClaim := { program := "ytaiocnpecaecdaagreatdoor", sum := "047cc72e5f02c2fc2fa48bec82c96f229f079e152bdf61f1b7d3cf1312f65478", func := "grapnel/grapnellaw12.JournalNobody", spec := "journalNobody", inPlace := ["internal/abi.NoEscape", "internal/bytealg.MakeNoZero", "internal/reflectlite.ValueOf", "(internal/reflectlite.Value).Type", "(internal/reflectlite.Value).IsNil", "internal/reflectlite.TypeOf", "(internal/reflectlite.Value).Elem", "(internal/reflectlite.Value).Set"], unfollowed := true, recurses := true, named := ["errors.errorType"], plainKeys := false, apart := false, laid := [("errors.errorType", laid_errors_errorType)], narrowed := true }
def JournalNobodyUptoSaid : Prop := journalNobodyUptoRow.holds Tryz.pinned (OpenSpec.upto journalNobodySpec)

/-- 'grapnellaw12.JournalAll', WHERE WHAT IT READS IS OF BULK AT MOST 1048576: true; the input reads as it did. -/
def journalAllUptoRow : OpenClaim := { program := "ytaiocnpecaecdaagreatdoor", sum := "047cc72e5f02c2fc2fa48bec82c96f229f079e152bdf61f1b7d3cf1312f65478", func := "grapnel/grapnellaw12.JournalAll", spec := "journalAll", inPlace := ["internal/abi.NoEscape", "internal/bytealg.MakeNoZero", "internal/reflectlite.ValueOf", "(internal/reflectlite.Value).Type", "(internal/reflectlite.Value).IsNil", "internal/reflectlite.TypeOf", "(internal/reflectlite.Value).Elem", "(internal/reflectlite.Value).Set"], unfollowed := true, recurses := true, named := ["errors.errorType"], plainKeys := false, apart := false, laid := [("errors.errorType", laid_errors_errorType)], narrowed := true }
def JournalAllUptoSaid : Prop := journalAllUptoRow.holds Tryz.pinned (OpenSpec.upto journalAllSpec)

/-- 'grapnellaw12.JournalSupers', WHERE WHAT IT READS IS OF BULK AT MOST 1048576: true; the input reads as it did. -/
def journalSupersUptoRow : OpenClaim := { program := "ytaiocnpecaecdaagreatdoor", sum := "047cc72e5f02c2fc2fa48bec82c96f229f079e152bdf61f1b7d3cf1312f65478", func := "grapnel/grapnellaw12.JournalSupers", spec := "journalSupers", inPlace := ["internal/abi.NoEscape", "internal/bytealg.MakeNoZero", "internal/reflectlite.ValueOf", "(internal/reflectlite.Value).Type", "(internal/reflectlite.Value).IsNil", "internal/reflectlite.TypeOf", "(internal/reflectlite.Value).Elem", "(internal/reflectlite.Value).Set"], unfollowed := true, recurses := true, named := ["errors.errorType"], plainKeys := false, apart := false, laid := [("errors.errorType", laid_errors_errorType)], narrowed := true }
def JournalSupersUptoSaid : Prop := journalSupersUptoRow.holds Tryz.pinned (OpenSpec.upto journalSupersSpec)

/-- 'grapnellaw12.JournalFormats', WHERE WHAT IT READS IS OF BULK AT MOST 1048576: true; the input reads as it did. -/
def journalFormatsUptoRow : OpenClaim := { program := "ytaiocnpecaecdaagreatdoor", sum := "047cc72e5f02c2fc2fa48bec82c96f229f079e152bdf61f1b7d3cf1312f65478", func := "grapnel/grapnellaw12.JournalFormats", spec := "journalFormats", inPlace := ["internal/abi.NoEscape", "internal/bytealg.MakeNoZero", "internal/reflectlite.ValueOf", "(internal/reflectlite.Value).Type", "(internal/reflectlite.Value).IsNil", "internal/reflectlite.TypeOf", "(internal/reflectlite.Value).Elem", "(internal/reflectlite.Value).Set"], unfollowed := true, recurses := true, named := ["errors.errorType"], plainKeys := false, apart := false, laid := [("errors.errorType", laid_errors_errorType)], narrowed := true }
def JournalFormatsUptoSaid : Prop := journalFormatsUptoRow.holds Tryz.pinned (OpenSpec.upto journalFormatsSpec)

/-- 'grapnellaw12.JournalCommits', WHERE WHAT IT READS IS OF BULK AT MOST 1048576: true; the input reads as it did. -/
def journalCommitsUptoRow : OpenClaim := { program := "ytaiocnpecaecdaagreatdoor", sum := "047cc72e5f02c2fc2fa48bec82c96f229f079e152bdf61f1b7d3cf1312f65478", func := "grapnel/grapnellaw12.JournalCommits", spec := "journalCommits", inPlace := ["internal/abi.NoEscape", "internal/bytealg.MakeNoZero", "internal/reflectlite.ValueOf", "(internal/reflectlite.Value).Type", "(internal/reflectlite.Value).IsNil", "internal/reflectlite.TypeOf", "(internal/reflectlite.Value).Elem", "(internal/reflectlite.Value).Set"], unfollowed := true, recurses := true, named := ["errors.errorType"], plainKeys := false, apart := false, laid := [("errors.errorType", laid_errors_errorType)], narrowed := true }
def JournalCommitsUptoSaid : Prop := journalCommitsUptoRow.holds Tryz.pinned (OpenSpec.upto journalCommitsSpec)

/-- 'grapnellaw12.JournalFounds', WHERE WHAT IT READS IS OF BULK AT MOST 1048576: true; the input reads as it did. -/
def journalFoundsUptoRow : OpenClaim := { program := "ytaiocnpecaecdaagreatdoor", sum := "047cc72e5f02c2fc2fa48bec82c96f229f079e152bdf61f1b7d3cf1312f65478", func := "grapnel/grapnellaw12.JournalFounds", spec := "journalFounds", inPlace := ["internal/abi.NoEscape", "internal/reflectlite.ValueOf", "(internal/reflectlite.Value).Type", "(internal/reflectlite.Value).IsNil", "internal/reflectlite.TypeOf", "(internal/reflectlite.Value).Elem", "(internal/reflectlite.Value).Set", "internal/bytealg.MakeNoZero"], unfollowed := true, recurses := true, named := ["errors.errorType"], plainKeys := false, apart := false, laid := [("errors.errorType", laid_errors_errorType)], narrowed := true }
def JournalFoundsUptoSaid : Prop := journalFoundsUptoRow.holds Tryz.pinned (OpenSpec.upto journalFoundsSpec)

/-- 'grapnellaw12.JournalAnews', WHERE WHAT IT READS IS OF BULK AT MOST 1048576: true; the input reads as it did. -/
def journalAnewsUptoRow : OpenClaim := { program := "ytaiocnpecaecdaagreatdoor", sum := "047cc72e5f02c2fc2fa48bec82c96f229f079e152bdf61f1b7d3cf1312f65478", func := "grapnel/grapnellaw12.JournalAnews", spec := "journalAnews", inPlace := ["internal/abi.NoEscape", "internal/bytealg.MakeNoZero", "internal/reflectlite.ValueOf", "(internal/reflectlite.Value).Type", "(internal/reflectlite.Value).IsNil", "internal/reflectlite.TypeOf", "(internal/reflectlite.Value).Elem", "(internal/reflectlite.Value).Set"], unfollowed := true, recurses := true, named := ["errors.errorType"], plainKeys := false, apart := false, laid := [("errors.errorType", laid_errors_errorType)], narrowed := true }
def JournalAnewsUptoSaid : Prop := journalAnewsUptoRow.holds Tryz.pinned (OpenSpec.upto journalAnewsSpec)

/-- 'grapnellaw12.JournalRecovers', WHERE WHAT IT READS IS OF BULK AT MOST 1048576: true; the input reads as it did. -/
def journalRecoversUptoRow : OpenClaim := { program := "ytaiocnpecaecdaagreatdoor", sum := "047cc72e5f02c2fc2fa48bec82c96f229f079e152bdf61f1b7d3cf1312f65478", func := "grapnel/grapnellaw12.JournalRecovers", spec := "journalRecovers", inPlace := ["internal/abi.NoEscape", "internal/bytealg.MakeNoZero", "internal/reflectlite.ValueOf", "(internal/reflectlite.Value).Type", "(internal/reflectlite.Value).IsNil", "internal/reflectlite.TypeOf", "(internal/reflectlite.Value).Elem", "(internal/reflectlite.Value).Set"], unfollowed := true, recurses := true, named := ["errors.errorType"], plainKeys := false, apart := false, laid := [("errors.errorType", laid_errors_errorType)], narrowed := true }
def JournalRecoversUptoSaid : Prop := journalRecoversUptoRow.holds Tryz.pinned (OpenSpec.upto journalRecoversSpec)

end Rows
end Go.Proofs.YtaiocnpecaecdaaGreatDoor
