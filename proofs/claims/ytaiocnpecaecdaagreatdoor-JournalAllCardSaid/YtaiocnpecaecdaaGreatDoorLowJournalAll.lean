/- The row of the law JournalAll, for every input: out of its contract on views of memory; and its card, the variable of package errors tied to the program's text. -/
import Derived.Test.YtaiocnpecaecdaaGreatDoorGh
import Derived.Test.YtaiocnpecaecdaaGreatDoorRows
import Derived.Test.YtaiocnpecaecdaaGreatDoorCards
import Derived.Test.YtaiocnpecaecdaaGreatDoorTie
import Derived.Test.YtaiocnpecaecdaaGreatDoorVLc
import Derived.WalkKit
import Derived.ProofKit
import Derived.OpenShut
import Derived.ShutString
import Derived.ChangeOld
import Derived.Below
import Derived.SizedLaws
import Derived.SevenTiedAt
import Derived.ChangeSame
import Derived.ChangeVars
import Derived.JoinedOf
import Derived.LaidLaws
import Derived.LaidHandle
import Derived.Stop.Joined
import Derived.RowKit
import Derived.RowKitTokens
set_option linter.unusedVariables false
namespace Go.Proofs.YtaiocnpecaecdaaGreatDoor.journalAll
open Go.ChangeShapes Go.WideShapes Go.ChangeAt Go.RowKit Go.Proofs.YtaiocnpecaecdaaGreatDoor.VL
open Go.ChangeMaps (open_string shut_string)
abbrev listed : List (String × DataW Unit) := [("errors.errorType", Rows.laid_errors_errorType)]
theorem own : ownKnob Tryz.prog.godebug = none := by kernel_rfl
theorem laid : laidOutB Tryz.prog = true := by kernel_rfl
theorem et : Tryz.prog.globalNamed "errors.errorType" = some 0 := by kernel_rfl
theorem rt : (Tryz.prog.cutTypes.find? (·.1 == "internal/reflectlite.rtype")).map (·.2) = some 262 := by kernel_rfl
theorem oneRow : ((List.range 348).filter fun t => Tryz.prog.rowNamed t [101, 114, 114, 111, 114]) = [118] := by kernel_rfl
theorem size : Tryz.prog.types.size = 348 := by kernel_rfl
/-- What the condition gives: the variable's one cell. -/
theorem handle_of_laid {W : World} (h : laidMetH Tryz.prog listed W) : W.cell? ⟨0, 0, none⟩ = some (.iface 262 (.agg #[.pointer (some ⟨2, 118, none⟩)])) := by
  have h' : laidMet Tryz.prog [] W ∧ handlesMet Tryz.prog listed W := h
  obtain ⟨name, u, ty, e1, e2, e3, e4, e5⟩ := h'.2 _ (List.mem_singleton.2 rfl)
  have en : name = [101, 114, 114, 111, 114] := (Option.some.inj e1).symm
  subst en
  obtain rfl := Option.some.inj (rt.symm.trans e2)
  have hm : ty ∈ (List.range 348).filter fun t => Tryz.prog.rowNamed t [101, 114, 114, 111, 114] := List.mem_filter.2 ⟨List.mem_range.2 (by rw [← size]; exact e3), e4⟩
  rw [oneRow] at hm
  obtain rfl := List.mem_singleton.1 hm
  have hh : typeHandle Tryz.prog 118 = .pointer (some ⟨2, 118, none⟩) := by kernel_rfl
  rw [hh] at e5
  simpa using World.var?_cell et e5 0
noncomputable def laidWorld (os : Os) : World :=
  let w0 := World.holding Tryz.prog os ⟨#[], #[], []⟩
  { w0 with heap := w0.heap.modify 0 fun
      | .cells _ t frozen => .cells #[.iface 262 (.agg #[.pointer (some ⟨2, 118, none⟩)])] t frozen
      | o => o }
theorem laidWorld_met (os : Os) (args : Array Value) : laidMetH Tryz.prog listed ((laidWorld os).forCall (fun _ _ => 0) ⟨#[], args, []⟩).memory :=
  laidMetH_of_parts (laidMet_nil _ _) (by kernel_rfl)
theorem errQ_of {W : World} (h : W.cell? ⟨0, 0, none⟩ = some (.iface 262 (.agg #[.pointer (some ⟨2, 118, none⟩)]))) : V.ErrQ (allV W) := by
  unfold World.cell? at h
  unfold V.ErrQ
  dsimp only at h
  split at h
  · rename_i c t fr hh
    refine ⟨c, t, fr, hh, fun i hi => ?_⟩
    obtain rfl : i = 0 := by simp at hi; omega
    simpa using h
  · cases h
set_option maxRecDepth 100000 in
theorem lifted (os : Os) (started : os.Started) (H : Type) (enc : TypeId × Value → H) :
    ReturnsInHanded {} Tryz.checked os 6 .any (fun w args => (Rows.journalAllSpec.pre enc Tryz.prog Tryz.f6 Rows.journalAllRow.domain false w args ∧ laidMetH Tryz.prog listed w) ∧ sizedMet enc Tryz.prog Tryz.f6 (OpenSpec.ofChange Rows.journalAllSpec) false w args) (Rows.journalAllSpec.post enc Tryz.prog Tryz.f6 false true false false) := by
  refine returnsInHanded_of_change_and (C := Tryz.checked) (X := fun w _ => laidMetH Tryz.prog listed w) (fun _ _ _ hh h => h.of_heap hh) own started (by kernel_rfl) Tryz.func6
    (ChangeSpec.witness_at (enc := enc) (C := Tryz.checked) (os := os) (X := fun w _ => laidMetH Tryz.prog listed w) false (laidWorld os) #[.slice none 0 0, .agg ⟨V.encCut V.zeroCut⟩, .slice none 0 0] 8 rfl (by kernel_rfl) (by kernel_rfl) (by kernel_rfl) (by kernel_rfl) (by kernel_rfl) (laidWorld_met os _)) ?_
  intro W base args ds gs before hval0 hW hcnd hsz0 hL _
  have hE : V.ErrQ (allV W) := errQ_of (handle_of_laid hL)
  have hsz : (DataW.weightsEach Tryz.prog (Tryz.f6.params.toList ++ Rows.journalAllSpec.plain.varTypes Tryz.prog) (ds ++ gs)).all (· ≤ reachBytes) = true := hsz0
  have hval : ∀ (j : Nat) t v, Tryz.f6.params[j]? = some t → args[j]? = some v → Value.okWide Tryz.prog W .any base t v := hval0
  have hW' := hW
  obtain ⟨p, q, hA0, hV, rfl, hfz, hnd⟩ := hW
  have hA : DataW.TrodAll enc Tryz.prog W 0 (fun _ => true) true Tryz.f6.params.toList args.toList ds p := hA0
  have hA1 := hA
  rw [Tryz.params6] at hA hval hsz
  obtain ⟨v0, vs0, d0, ds0, p0, q0, hargs, rfl, rfl, h0, r0⟩ := trodAll_cons hA
  obtain ⟨v1, vs1, d1, ds1, p1, q1, rfl, rfl, rfl, h1, r1⟩ := trodAll_cons r0
  obtain ⟨v2, vs2, d2, ds2, p2, q2, rfl, rfl, rfl, h2, r2⟩ := trodAll_cons r1
  obtain ⟨rfl, rfl, rfl⟩ := trodAll_nil r2
  obtain rfl : args = #[v0, v1, v2] := by cases args; simp_all
  obtain ⟨rfl, rfl⟩ := trodVars_none hV
  obtain ⟨b0, a0, c0, rfl, g0, l0, k0, q0⟩ := open_rowq V.encBk V.BlockOk Tryz.underlying37 (by kernel_rfl : Tryz.prog.cellsOf 98 = 3) (by omega) (fun n cs y _ h => V.blk_cells cs y h) (hval 0 37 v0 rfl rfl) h0
  obtain ⟨a1, g1, rfl⟩ := open_aggx V.encCut (V.CutOk (allV W)) Tryz.underlying48 (fun n cs y h => V.cut_cells cs y h) (hval 1 48 v1 rfl rfl) h1
  obtain ⟨b2, a2, c2, rfl, g2, l2, k2, q2⟩ := open_rowq V.encCut (V.CutOk (allV W)) Tryz.underlying49 (by kernel_rfl : Tryz.prog.cellsOf 48 = 2) (by omega) (fun n cs y _ h => V.cut_cells cs y h) (hval 2 49 v2 rfl rfl) h2
  refine (calls_of_FnD (V.jall_spec (allV W) hE b0 c0 a0 ⟨q0, g0⟩ l0 a1 g1 b2 c2 a2 ⟨q2, g2⟩ l2)).mono fun e W' ⟨he, bel⟩ => ?_
  subst he
  exact ⟨_, rfl, _, _, _, [], _, [], hW', trodAll_mk1 (shut_bool Tryz.underlying4 _), args_all laid bel (by kernel_rfl) hA1, rfl, bel.frame _, fun h => by cases h⟩
end Go.Proofs.YtaiocnpecaecdaaGreatDoor.journalAll
