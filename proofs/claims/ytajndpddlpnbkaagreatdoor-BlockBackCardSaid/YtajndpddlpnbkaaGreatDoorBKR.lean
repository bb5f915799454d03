/- A block's head as it stands in memory. -/
import Derived.Test.YtajndpddlpnbkaaGreatDoorBKa
import Derived.Test.YtajndpddlpnbkaaGreatDoorVLc
set_option maxRecDepth 10000
set_option linter.unusedVariables false
namespace Go.Proofs.YtajndpddlpnbkaaGreatDoor.V
open Go.Proofs.YtajndpddlpnbkaaGreatDoor.VL
theorem head_cells {H : Type} {enc : TypeId × Value → H} {w : World} {sp : Nat → Bool} {held : Bool} {n : Nat} (cs : List Value) (y : DataW H × List MemPlace) (h : DataW.trod enc Tryz.prog w 0 sp held n 40 cs = some y) : ∃ x : HeadT, HeadOk x ∧ cs = encH x := by
  obtain ⟨xs, m, _, _, hl, hlen, hf⟩ := DataW.trod_struct Tryz.underlying40 h
  rw [show Tryz.prog.cellsOf 40 = 8 by kernel_rfl] at hl
  have c3 : Tryz.prog.cellsOf 3 = 1 := by kernel_rfl
  have hlen : xs.length = 8 := hlen
  match cs, hl, xs, hlen with
  | [z0, z1, z2, z3, z4, z5, z6, z7], _, [y0, y1, y2, y3, y4, y5, y6, y7], _ =>
    have h0 : DataW.trod enc Tryz.prog w 0 sp held m 3 (([z0, z1, z2, z3, z4, z5, z6, z7].drop 0).take (Tryz.prog.cellsOf 3)) = some y0 := hf 0 _ rfl
    have h1 : DataW.trod enc Tryz.prog w 0 sp held m 3 (([z0, z1, z2, z3, z4, z5, z6, z7].drop 1).take (Tryz.prog.cellsOf 3)) = some y1 := hf 1 _ rfl
    have h2 : DataW.trod enc Tryz.prog w 0 sp held m 3 (([z0, z1, z2, z3, z4, z5, z6, z7].drop 2).take (Tryz.prog.cellsOf 3)) = some y2 := hf 2 _ rfl
    have h3 : DataW.trod enc Tryz.prog w 0 sp held m 3 (([z0, z1, z2, z3, z4, z5, z6, z7].drop 3).take (Tryz.prog.cellsOf 3)) = some y3 := hf 3 _ rfl
    have h4 : DataW.trod enc Tryz.prog w 0 sp held m 3 (([z0, z1, z2, z3, z4, z5, z6, z7].drop 4).take (Tryz.prog.cellsOf 3)) = some y4 := hf 4 _ rfl
    have h5 : DataW.trod enc Tryz.prog w 0 sp held m 3 (([z0, z1, z2, z3, z4, z5, z6, z7].drop 5).take (Tryz.prog.cellsOf 3)) = some y5 := hf 5 _ rfl
    have h6 : DataW.trod enc Tryz.prog w 0 sp held m 3 (([z0, z1, z2, z3, z4, z5, z6, z7].drop 6).take (Tryz.prog.cellsOf 3)) = some y6 := hf 6 _ rfl
    have h7 : DataW.trod enc Tryz.prog w 0 sp held m 3 (([z0, z1, z2, z3, z4, z5, z6, z7].drop 7).take (Tryz.prog.cellsOf 3)) = some y7 := hf 7 _ rfl
    rw [c3] at h0 h1 h2 h3 h4 h5 h6 h7
    obtain ⟨a0, w0, e0⟩ := int_cells Tryz.underlying3 _ _ h0
    obtain ⟨a1, w1, e1⟩ := int_cells Tryz.underlying3 _ _ h1
    obtain ⟨a2, w2, e2⟩ := int_cells Tryz.underlying3 _ _ h2
    obtain ⟨a3, w3, e3⟩ := int_cells Tryz.underlying3 _ _ h3
    obtain ⟨a4, w4, e4⟩ := int_cells Tryz.underlying3 _ _ h4
    obtain ⟨a5, w5, e5⟩ := int_cells Tryz.underlying3 _ _ h5
    obtain ⟨a6, w6, e6⟩ := int_cells Tryz.underlying3 _ _ h6
    obtain ⟨a7, w7, e7⟩ := int_cells Tryz.underlying3 _ _ h7
    refine ⟨⟨a0, a1, a2, a3, a4, a5, a6, a7⟩, ⟨(i64_wf w0).1, (i64_wf w0).2, (i64_wf w1).1, (i64_wf w1).2, (i64_wf w2).1, (i64_wf w2).2, (i64_wf w3).1, (i64_wf w3).2, (i64_wf w4).1, (i64_wf w4).2, (i64_wf w5).1, (i64_wf w5).2, (i64_wf w6).1, (i64_wf w6).2, (i64_wf w7).1, (i64_wf w7).2⟩, ?_⟩
    have f0 := (List.cons.inj (show [z0] = _ from e0)).1
    have f1 := (List.cons.inj (show [z1] = _ from e1)).1
    have f2 := (List.cons.inj (show [z2] = _ from e2)).1
    have f3 := (List.cons.inj (show [z3] = _ from e3)).1
    have f4 := (List.cons.inj (show [z4] = _ from e4)).1
    have f5 := (List.cons.inj (show [z5] = _ from e5)).1
    have f6 := (List.cons.inj (show [z6] = _ from e6)).1
    have f7 := (List.cons.inj (show [z7] = _ from e7)).1
    rw [f0, f1, f2, f3, f4, f5, f6, f7]; rfl
end Go.Proofs.YtajndpddlpnbkaaGreatDoor.V
