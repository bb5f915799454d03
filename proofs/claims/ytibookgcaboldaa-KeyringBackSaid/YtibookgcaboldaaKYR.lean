/- A step of chapter 17's scripts, and a key ring, as they stand in memory. -/
import Derived.Test.YtibookgcaboldaaKYc
import Derived.Test.YtibookgcaboldaaVLc
set_option maxRecDepth 10000
set_option linter.unusedVariables false
namespace Go.Proofs.Ytibookgcaboldaa.V
open Go.Proofs.Ytibookgcaboldaa.VL
theorem slot_cells {H : Type} {enc : TypeId × Value → H} {w : World} {sp : Nat → Bool} {held : Bool} {n : Nat} (cs : List Value) (y : DataW H × List MemPlace) (h : DataW.trod enc Try.prog w 0 sp held n 23 cs = some y) : ∃ x : SlotT, SlotOk x ∧ cs = encS x := by
  obtain ⟨xs, m, _, _, hl, hlen, hf⟩ := DataW.trod_struct Try.underlying23 h
  rw [show Try.prog.cellsOf 23 = 5 by kernel_rfl] at hl
  have c4 : Try.prog.cellsOf 4 = 1 := by kernel_rfl
  have c3 : Try.prog.cellsOf 3 = 1 := by kernel_rfl
  have c9 : Try.prog.cellsOf 9 = 1 := by kernel_rfl
  have hlen : xs.length = 5 := hlen
  match cs, hl, xs, hlen with
  | [z0, z1, z2, z3, z4], _, [y0, y1, y2, y3, y4], _ =>
    have h0 : DataW.trod enc Try.prog w 0 sp held m 4 (([z0, z1, z2, z3, z4].drop 0).take (Try.prog.cellsOf 4)) = some y0 := hf 0 _ rfl
    have h1 : DataW.trod enc Try.prog w 0 sp held m 3 (([z0, z1, z2, z3, z4].drop 1).take (Try.prog.cellsOf 3)) = some y1 := hf 1 _ rfl
    have h2 : DataW.trod enc Try.prog w 0 sp held m 9 (([z0, z1, z2, z3, z4].drop 2).take (Try.prog.cellsOf 9)) = some y2 := hf 2 _ rfl
    have h3 : DataW.trod enc Try.prog w 0 sp held m 9 (([z0, z1, z2, z3, z4].drop 3).take (Try.prog.cellsOf 9)) = some y3 := hf 3 _ rfl
    have h4 : DataW.trod enc Try.prog w 0 sp held m 9 (([z0, z1, z2, z3, z4].drop 4).take (Try.prog.cellsOf 9)) = some y4 := hf 4 _ rfl
    rw [c4] at h0
    rw [c3] at h1
    rw [c9] at h2 h3 h4
    obtain ⟨a0, w0, e0⟩ := bool_cells Try.underlying4 _ _ h0
    obtain ⟨a1, w1, e1⟩ := int_cells Try.underlying3 _ _ h1
    obtain ⟨a2, w2, e2⟩ := str_cells Try.underlying9 _ _ h2
    obtain ⟨a3, w3, e3⟩ := str_cells Try.underlying9 _ _ h3
    obtain ⟨a4, w4, e4⟩ := str_cells Try.underlying9 _ _ h4
    refine ⟨⟨a0, a1, a2, a3, a4⟩, ⟨(i64_wf w1).1, (i64_wf w1).2, w2, w3, w4⟩, ?_⟩
    have f0 := (List.cons.inj (show [z0] = _ from e0)).1
    have f1 := (List.cons.inj (show [z1] = _ from e1)).1
    have f2 := (List.cons.inj (show [z2] = _ from e2)).1
    have f3 := (List.cons.inj (show [z3] = _ from e3)).1
    have f4 := (List.cons.inj (show [z4] = _ from e4)).1
    rw [f0, f1, f2, f3, f4]; rfl
theorem slots_cells {H : Type} {enc : TypeId × Value → H} {w : World} {sp : Nat → Bool} {held : Bool} {n : Nat} (cs : List Value) (y : DataW H × List MemPlace) (h : DataW.trod enc Try.prog w 0 sp held n 24 cs = some y) : ∃ l : List SlotT, l.length = 4 ∧ (∀ s ∈ l, SlotOk s) ∧ cs = encKs l := by
  obtain ⟨xs, m, _, _, hl, hlen, hf⟩ := DataW.trod_array Try.underlying24 h
  rw [show Try.prog.cellsOf 24 = 20 by kernel_rfl] at hl
  have c23 : Try.prog.cellsOf 23 = 5 := by kernel_rfl
  rw [c23] at hf
  have each : ∀ i, i < 4 → ∃ x : SlotT, SlotOk x ∧ (cs.drop (i * 5)).take 5 = encS x := fun i hi => by
    have e := hf i hi
    rw [List.getElem?_eq_getElem (by omega)] at e
    exact slot_cells _ _ e
  obtain ⟨s0, k0, e0⟩ := each 0 (by decide)
  obtain ⟨s1, k1, e1⟩ := each 1 (by decide)
  obtain ⟨s2, k2, e2⟩ := each 2 (by decide)
  obtain ⟨s3, k3, e3⟩ := each 3 (by decide)
  refine ⟨[s0, s1, s2, s3], rfl, fun s hs => ?_, ?_⟩
  · simp only [List.mem_cons, List.not_mem_nil, or_false] at hs
    rcases hs with rfl | rfl | rfl | rfl <;> assumption
  · have e : encKs [s0, s1, s2, s3] = encS s0 ++ (encS s1 ++ (encS s2 ++ (encS s3 ++ []))) := rfl
    rw [e, ← e0, ← e1, ← e2, ← e3]
    have f0 : cs.drop (0 * 5) = cs := rfl
    rw [f0]
    have f4 : cs.drop (4 * 5) = [] := List.drop_eq_nil_of_le (by omega)
    have g : ∀ i, cs.drop (i * 5) = (cs.drop (i * 5)).take 5 ++ cs.drop ((i + 1) * 5) := fun i => by
      rw [show (i + 1) * 5 = i * 5 + 5 by omega, ← List.drop_drop, List.take_append_drop]
    have g0 := g 0
    rw [f0] at g0
    have g3 := g 3
    rw [f4] at g3
    rw [← g3, ← g 2, ← g 1, ← g0]
theorem keys_cells {H : Type} {enc : TypeId × Value → H} {w : World} {sp : Nat → Bool} {held : Bool} {n : Nat} (cs : List Value) (y : DataW H × List MemPlace) (h : DataW.trod enc Try.prog w 0 sp held n 26 cs = some y) : ∃ x : KeysT, KeysOk x ∧ cs = encKeys x := by
  obtain ⟨xs, m, _, _, hl, hlen, hf⟩ := DataW.trod_struct Try.underlying26 h
  rw [show Try.prog.cellsOf 26 = 21 by kernel_rfl] at hl
  have c3 : Try.prog.cellsOf 3 = 1 := by kernel_rfl
  have c24 : Try.prog.cellsOf 24 = 20 := by kernel_rfl
  have hlen : xs.length = 2 := hlen
  match cs, hl, xs, hlen with
  | z :: cs, hl, [y0, y1], _ =>
    have h0 : DataW.trod enc Try.prog w 0 sp held m 3 (((z :: cs).drop 0).take (Try.prog.cellsOf 3)) = some y0 := hf 0 _ rfl
    have h1 : DataW.trod enc Try.prog w 0 sp held m 24 (((z :: cs).drop 1).take (Try.prog.cellsOf 24)) = some y1 := hf 1 _ rfl
    rw [c3] at h0
    rw [c24] at h1
    have hl2 : cs.length = 20 := by simpa using hl
    have e1 : ((z :: cs).drop 1).take 20 = cs := by
      show cs.take 20 = cs
      exact List.take_of_length_le (by omega)
    rw [e1] at h1
    obtain ⟨a0, w0, e0⟩ := int_cells Try.underlying3 _ _ h0
    obtain ⟨l, l0, l1, l2⟩ := slots_cells _ _ h1
    refine ⟨⟨a0, l⟩, ⟨(i64_wf w0).1, (i64_wf w0).2, l0, l1⟩, ?_⟩
    have f0 := (List.cons.inj (show [z] = _ from e0)).1
    rw [f0, l2]; rfl
end Go.Proofs.Ytibookgcaboldaa.V
