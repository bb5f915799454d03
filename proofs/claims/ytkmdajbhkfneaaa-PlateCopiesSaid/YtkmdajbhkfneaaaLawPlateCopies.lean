/- The row of the law PlateCopies, for every input: out of its contract on views of memory. -/
import Derived.Test.YtkmdajbhkfneaaaRows
import Derived.Test.YtkmdajbhkfneaaaPQ9
import Derived.Test.YtkmdajbhkfneaaaPLR
import Derived.Test.YtkmdajbhkfneaaaVLc
import Derived.WalkKit
import Derived.ProofKit
import Derived.OpenShut
import Derived.ShutString
import Derived.ChangeOld
import Derived.Below
import Derived.SizedLaws
set_option linter.unusedVariables false
namespace Go.Proofs.Ytkmdajbhkfneaaa.plateCopies
open Go.ChangeShapes Go.WideShapes Go.ChangeAt Go.RowKit Go.Proofs.Ytkmdajbhkfneaaa.VL
open Go.ChangeMaps (open_string shut_string)
theorem own : ownKnob Try.prog.godebug = none := by kernel_rfl
theorem laid : laidOutB Try.prog = true := by kernel_rfl
set_option maxRecDepth 100000 in
theorem lifted (os : Os) (started : os.Started) (H : Type) (enc : TypeId × Value → H) :
    ReturnsInHanded {} Try.checked os 9 .any (Rows.plateCopiesSpec.pre6 enc Try.prog Try.f9 Rows.plateCopiesRow.domain false) (Rows.plateCopiesSpec.post enc Try.prog Try.f9 false true false false) := by
  refine returnsInHanded_of_change_sized (C := Try.checked) own started (by kernel_rfl) Try.func9
    (ChangeSpec.witness6 (enc := enc) (C := Try.checked) false ⟨#[], #[.int .i64 0, .slice none 0 0, .slice none 0 0, .slice none 0 0], []⟩ 8 (by kernel_rfl) (by kernel_rfl) (by kernel_rfl) (by kernel_rfl)) ?_
  intro W base args ds gs before hval0 hW hcnd hsz0 _
  have hsz : (DataW.weightsEach Try.prog (Try.f9.params.toList ++ Rows.plateCopiesSpec.plain.varTypes Try.prog) (ds ++ gs)).all (· ≤ reachBytes) = true := hsz0
  have hval : ∀ (j : Nat) t v, Try.f9.params[j]? = some t → args[j]? = some v → Value.okWide Try.prog W .any base t v := hval0
  have hW' := hW
  obtain ⟨p, q, hA0, hV, rfl, hfz, hnd⟩ := hW
  have hA : DataW.TrodAll enc Try.prog W 0 (fun _ => true) true Try.f9.params.toList args.toList ds p := hA0
  have hA1 := hA
  rw [Try.params9] at hA hval hsz
  obtain ⟨v0, vs0, d0, ds0, p0, q0, hargs, rfl, rfl, h0, r0⟩ := trodAll_cons hA
  obtain ⟨v1, vs1, d1, ds1, p1, q1, rfl, rfl, rfl, h1, r1⟩ := trodAll_cons r0
  obtain ⟨v2, vs2, d2, ds2, p2, q2, rfl, rfl, rfl, h2, r2⟩ := trodAll_cons r1
  obtain ⟨v3, vs3, d3, ds3, p3, q3, rfl, rfl, rfl, h3, r3⟩ := trodAll_cons r2
  obtain ⟨rfl, rfl, rfl⟩ := trodAll_nil r3
  obtain rfl : args = #[v0, v1, v2, v3] := by cases args; simp_all
  obtain ⟨rfl, rfl⟩ := trodVars_none hV
  obtain ⟨a0, rfl, rfl, rfl, y0⟩ := open_int Try.underlying3 (hval 0 3 v0 rfl rfl) h0
  have w0 := i64_wf y0
  obtain ⟨b1, a1, c1, rfl, g1, l1, k1, q1⟩ := open_rowq V.encOp (V.OpOk (allV W)) Try.underlying36 (by kernel_rfl : Try.prog.cellsOf 38 = 5) (by omega) (fun n cs y _ h => V.op_cells cs y h) (hval 1 36 v1 rfl rfl) h1
  obtain ⟨b2, a2, c2, rfl, g2, l2, k2, q2⟩ := open_rowq V.encOp (V.OpOk (allV W)) Try.underlying36 (by kernel_rfl : Try.prog.cellsOf 38 = 5) (by omega) (fun n cs y _ h => V.op_cells cs y h) (hval 2 36 v2 rfl rfl) h2
  obtain ⟨b3, a3, c3, rfl, g3, l3, k3, q3⟩ := open_rowq V.encOp (V.OpOk (allV W)) Try.underlying36 (by kernel_rfl : Try.prog.cellsOf 38 = 5) (by omega) (fun n cs y _ h => V.op_cells cs y h) (hval 3 36 v3 rfl rfl) h3
  refine (calls_of_FnD (V.copies_spec (allV W) a0 b1 c1 a1 ⟨q1, g1⟩ l1 b2 c2 a2 ⟨q2, g2⟩ l2 b3 c3 a3 ⟨q3, g3⟩ l3)).mono fun e W' ⟨he, bel⟩ => ?_
  subst he
  exact ⟨_, rfl, _, _, _, [], _, [], hW', trodAll_mk1 (shut_bool Try.underlying4 _), args_all laid bel (by kernel_rfl) hA1, rfl, bel.frame _, fun h => by cases h⟩
theorem over : Rows.plateCopiesRow.holds Try.pinned (OpenSpec.ofChange Rows.plateCopiesSpec) :=
  OpenClaim.holds_of_wide 9 Try.f9 rfl rfl rfl rfl rfl rfl rfl ⟨rfl, rfl, rfl, rfl, rfl⟩ rfl rfl rfl rfl rfl (by kernel_rfl) Try.func9 (by kernel_rfl)
    (of_decide_eq_true (by kernel_rfl)) (by unfold Func.isWrapper; first | (rw [if_pos (by decide +kernel)]; kernel_rfl) | (rw [if_neg (by decide +kernel)]; exact ⟨rfl, rfl⟩))
    (fun os started H enc _ => lifted os started H enc)
theorem proved : Rows.PlateCopiesSaid := over
#print axioms proved
end Go.Proofs.Ytkmdajbhkfneaaa.plateCopies
namespace Go.Proofs.Ytkmdajbhkfneaaa
/-- The row, under a short name, for the claim. -/
theorem plateCopies_holds : Rows.PlateCopiesSaid := plateCopies.proved
end Go.Proofs.Ytkmdajbhkfneaaa
