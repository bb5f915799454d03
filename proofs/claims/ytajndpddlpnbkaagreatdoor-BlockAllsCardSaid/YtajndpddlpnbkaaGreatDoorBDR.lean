/- A mark as it stands in memory. -/
import Derived.Test.YtajndpddlpnbkaaGreatDoorBDa
import Derived.Test.YtajndpddlpnbkaaGreatDoorVLc
set_option maxRecDepth 10000
set_option linter.unusedVariables false
namespace Go.Proofs.YtajndpddlpnbkaaGreatDoor.V
open Go.Proofs.YtajndpddlpnbkaaGreatDoor.VL
theorem mark_cells {H : Type} {enc : TypeId × Value → H} {w : World} {sp : Nat → Bool} {held : Bool} {n : Nat} (cs : List Value) (y : DataW H × List MemPlace) (h : DataW.trod enc Tryz.prog w 0 sp held n 71 cs = some y) : ∃ x : MarkT, MarkOk x ∧ cs = encM x := by
  obtain ⟨xs, m, _, _, hl, hlen, hf⟩ := DataW.trod_struct Tryz.underlying71 h
  rw [show Tryz.prog.cellsOf 71 = 3 by kernel_rfl] at hl
  have c3 : Tryz.prog.cellsOf 3 = 1 := by kernel_rfl
  have c5 : Tryz.prog.cellsOf 5 = 1 := by kernel_rfl
  have hlen : xs.length = 3 := hlen
  match cs, hl, xs, hlen with
  | [z0, z1, z2], _, [y0, y1, y2], _ =>
    have h0 : DataW.trod enc Tryz.prog w 0 sp held m 3 (([z0, z1, z2].drop 0).take (Tryz.prog.cellsOf 3)) = some y0 := hf 0 _ rfl
    have h1 : DataW.trod enc Tryz.prog w 0 sp held m 3 (([z0, z1, z2].drop 1).take (Tryz.prog.cellsOf 3)) = some y1 := hf 1 _ rfl
    have h2 : DataW.trod enc Tryz.prog w 0 sp held m 5 (([z0, z1, z2].drop 2).take (Tryz.prog.cellsOf 5)) = some y2 := hf 2 _ rfl
    rw [c3] at h0 h1
    rw [c5] at h2
    obtain ⟨a0, w0, e0⟩ := int_cells Tryz.underlying3 _ _ h0
    obtain ⟨a1, w1, e1⟩ := int_cells Tryz.underlying3 _ _ h1
    obtain ⟨a2, w2, e2⟩ := int_cells Tryz.underlying5 _ _ h2
    refine ⟨⟨a0, a1, a2⟩, ⟨(i64_wf w0).1, (i64_wf w0).2, (i64_wf w1).1, (i64_wf w1).2, (u8_wf w2).1, (u8_wf w2).2⟩, ?_⟩
    have f0 := (List.cons.inj (show [z0] = _ from e0)).1
    have f1 := (List.cons.inj (show [z1] = _ from e1)).1
    have f2 := (List.cons.inj (show [z2] = _ from e2)).1
    rw [f0, f1, f2]; rfl
end Go.Proofs.YtajndpddlpnbkaaGreatDoor.V
