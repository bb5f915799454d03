/- A step of a script as it stands in memory. -/
import Derived.Test.YtkmdajbhkfneaaaPL7
import Derived.Test.YtkmdajbhkfneaaaVLc
set_option maxRecDepth 10000
set_option linter.unusedVariables false
namespace Go.Proofs.Ytkmdajbhkfneaaa.V
open Go.Proofs.Ytkmdajbhkfneaaa.VL
theorem op_cells {H : Type} {enc : TypeId × Value → H} {w : World} {sp : Nat → Bool} {held : Bool} {n : Nat} (cs : List Value) (y : DataW H × List MemPlace) (h : DataW.trod enc Try.prog w 0 sp held n 38 cs = some y) : ∃ x : OpT, OpOk (allV w) x ∧ cs = encOp x := by
  obtain ⟨xs, m, _, _, hl, hlen, hf⟩ := DataW.trod_struct Try.underlying38 h
  rw [show Try.prog.cellsOf 38 = 5 by kernel_rfl] at hl
  have c3 : Try.prog.cellsOf 3 = 1 := by kernel_rfl
  have c5 : Try.prog.cellsOf 5 = 1 := by kernel_rfl
  have cb : Try.prog.cellsOf 23 = 1 := by kernel_rfl
  have hlen : xs.length = 5 := hlen
  match cs, hl, xs, hlen with
  | [z0, z1, z2, z3, z4], _, [y0, y1, y2, y3, y4], _ =>
    have h0 : DataW.trod enc Try.prog w 0 sp held m 3 (([z0, z1, z2, z3, z4].drop 0).take (Try.prog.cellsOf 3)) = some y0 := hf 0 _ rfl
    have h1 : DataW.trod enc Try.prog w 0 sp held m 3 (([z0, z1, z2, z3, z4].drop 1).take (Try.prog.cellsOf 3)) = some y1 := hf 1 _ rfl
    have h2 : DataW.trod enc Try.prog w 0 sp held m 3 (([z0, z1, z2, z3, z4].drop 2).take (Try.prog.cellsOf 3)) = some y2 := hf 2 _ rfl
    have h3 : DataW.trod enc Try.prog w 0 sp held m 5 (([z0, z1, z2, z3, z4].drop 3).take (Try.prog.cellsOf 5)) = some y3 := hf 3 _ rfl
    have h4 : DataW.trod enc Try.prog w 0 sp held m 23 (([z0, z1, z2, z3, z4].drop 4).take (Try.prog.cellsOf 23)) = some y4 := hf 4 _ rfl
    rw [c3] at h0 h1 h2
    rw [c5] at h3
    rw [cb] at h4
    obtain ⟨a0, w0, e0⟩ := int_cells Try.underlying3 _ _ h0
    obtain ⟨a1, w1, e1⟩ := int_cells Try.underlying3 _ _ h1
    obtain ⟨a2, w2, e2⟩ := int_cells Try.underlying3 _ _ h2
    obtain ⟨a3, w3, e3⟩ := int_cells Try.underlying5 _ _ h3
    obtain ⟨p, ks, cap, e4, _, _, _, hq⟩ := rowq_of_trod encB (fun _ => True) Try.underlying23 (by kernel_rfl : Try.prog.cellsOf 4 = 1) (by omega) (fun n cs y _ h => bool_cells Try.underlying4 cs y h) h4
    refine ⟨⟨a0, a1, a2, a3, p, cap, ks⟩, ⟨(i64_wf w1).1, (i64_wf w1).2, (i64_wf w0).1, (i64_wf w0).2, (i64_wf w2).1, (i64_wf w2).2, (u8_wf w3).1, (u8_wf w3).2, rowq_b hq⟩, ?_⟩
    have f0 := (List.cons.inj (show [z0] = _ from e0)).1
    have f1 := (List.cons.inj (show [z1] = _ from e1)).1
    have f2 := (List.cons.inj (show [z2] = _ from e2)).1
    have f3 := (List.cons.inj (show [z3] = _ from e3)).1
    have f4 := (List.cons.inj (show [z4] = _ from e4)).1
    rw [f0, f1, f2, f3, f4]; rfl
end Go.Proofs.Ytkmdajbhkfneaaa.V
