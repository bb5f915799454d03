/- The row of the law BlockLooks, for every input: out of its contract on views of memory. -/
import Derived.Test.YtajndpddlpnbkaaBKR
import Derived.Test.YtajndpddlpnbkaaRows
import Derived.Test.YtajndpddlpnbkaaBKc
import Derived.Test.YtajndpddlpnbkaaVLc
import Derived.WalkKit
import Derived.ProofKit
import Derived.OpenShut
import Derived.ShutString
import Derived.ChangeOld
import Derived.Below
import Derived.SizedLaws
set_option linter.unusedVariables false
namespace Go.Proofs.Ytajndpddlpnbkaa.blockLooks
open Go.ChangeShapes Go.WideShapes Go.ChangeAt Go.RowKit Go.Proofs.Ytajndpddlpnbkaa.VL
open Go.ChangeMaps (open_string shut_string)
theorem own : ownKnob Try.prog.godebug = none := by kernel_rfl
theorem laid : laidOutB Try.prog = true := by kernel_rfl
set_option maxRecDepth 100000 in
theorem lifted (os : Os) (started : os.Started) (H : Type) (enc : TypeId × Value → H) :
    ReturnsInHanded {} Try.checked os 7 .any (Rows.blockLooksSpec.pre6 enc Try.prog Try.f7 Rows.blockLooksRow.domain false) (Rows.blockLooksSpec.post enc Try.prog Try.f7 false true false false) := by
  refine returnsInHanded_of_change_sized (C := Try.checked) own started (by kernel_rfl) Try.func7
    (ChangeSpec.witness6 (enc := enc) (C := Try.checked) false ⟨#[], #[.slice none 0 0, .slice none 0 0, .int .i64 0, .int .i64 0], []⟩ 8 (by kernel_rfl) (by kernel_rfl) (by kernel_rfl) (by kernel_rfl)) ?_
  intro W base args ds gs before hval0 hW hcnd hsz0 _
  have hsz : (DataW.weightsEach Try.prog (Try.f7.params.toList ++ Rows.blockLooksSpec.plain.varTypes Try.prog) (ds ++ gs)).all (· ≤ reachBytes) = true := hsz0
  have hval : ∀ (j : Nat) t v, Try.f7.params[j]? = some t → args[j]? = some v → Value.okWide Try.prog W .any base t v := hval0
  have hW' := hW
  obtain ⟨p, q, hA0, hV, rfl, hfz, hnd⟩ := hW
  have hA : DataW.TrodAll enc Try.prog W 0 (fun _ => true) true Try.f7.params.toList args.toList ds p := hA0
  have hA1 := hA
  rw [Try.params7] at hA hval hsz
  obtain ⟨v0, vs0, d0, ds0, p0, q0, hargs, rfl, rfl, h0, r0⟩ := trodAll_cons hA
  obtain ⟨v1, vs1, d1, ds1, p1, q1, rfl, rfl, rfl, h1, r1⟩ := trodAll_cons r0
  obtain ⟨v2, vs2, d2, ds2, p2, q2, rfl, rfl, rfl, h2, r2⟩ := trodAll_cons r1
  obtain ⟨v3, vs3, d3, ds3, p3, q3, rfl, rfl, rfl, h3, r3⟩ := trodAll_cons r2
  obtain ⟨rfl, rfl, rfl⟩ := trodAll_nil r3
  obtain rfl : args = #[v0, v1, v2, v3] := by cases args; simp_all
  obtain ⟨rfl, rfl⟩ := trodVars_none hV
  obtain ⟨b0, a0, c0, rfl, g0, l0, k0, q0⟩ := open_rowq V.encH V.HeadOk Try.underlying52 (by kernel_rfl : Try.prog.cellsOf 23 = 8) (by omega) (fun n cs y _ h => V.head_cells cs y h) (hval 0 52 v0 rfl rfl) h0
  obtain ⟨b1, a1, c1, rfl, g1, l1, k1, q1⟩ := open_rowq (encI .i64) (goodI .i64) Try.underlying53 (by kernel_rfl : Try.prog.cellsOf 3 = 1) (by omega) (fun n cs y _ h => int_cells Try.underlying3 cs y h) (hval 1 53 v1 rfl rfl) h1
  obtain ⟨a2, rfl, rfl, rfl, y2⟩ := open_int Try.underlying3 (hval 2 3 v2 rfl rfl) h2
  have w2 := i64_wf y2
  obtain ⟨a3, rfl, rfl, rfl, y3⟩ := open_int Try.underlying3 (hval 3 3 v3 rfl rfl) h3
  have w3 := i64_wf y3
  refine (calls_of_FnD (V.looks_spec (allV W) b0 c0 a0 ⟨q0, g0⟩ l0 b1 c1 a1 (rowq_i q1) l1 a2 a3)).mono fun e W' ⟨he, bel⟩ => ?_
  subst he
  exact ⟨_, rfl, _, _, _, [], _, [], hW', trodAll_mk1 (shut_bool Try.underlying4 _), args_all laid bel (by kernel_rfl) hA1, rfl, bel.frame _, fun h => by cases h⟩
theorem over : Rows.blockLooksRow.holds Try.pinned (OpenSpec.ofChange Rows.blockLooksSpec) :=
  OpenClaim.holds_of_wide 7 Try.f7 rfl rfl rfl rfl rfl rfl rfl ⟨rfl, rfl, rfl, rfl, rfl⟩ rfl rfl rfl rfl rfl (by kernel_rfl) Try.func7 (by kernel_rfl)
    (of_decide_eq_true (by kernel_rfl)) (by unfold Func.isWrapper; first | (rw [if_pos (by decide +kernel)]; kernel_rfl) | (rw [if_neg (by decide +kernel)]; exact ⟨rfl, rfl⟩))
    (fun os started H enc _ => lifted os started H enc)
theorem proved : Rows.BlockLooksSaid := over
#print axioms proved
end Go.Proofs.Ytajndpddlpnbkaa.blockLooks
namespace Go.Proofs.Ytajndpddlpnbkaa
/-- The row, under a short name, for the claim. -/
theorem blockLooks_holds : Rows.BlockLooksSaid := blockLooks.proved
end Go.Proofs.Ytajndpddlpnbkaa
