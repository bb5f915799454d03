/- What a store, a new block and a draw do to a view of memory. -/
import Derived.Test.YtkmdajbhkfneaaaVL1
import Derived.Laws.BytesArg
import Derived.Laws.CopyRow
import Derived.Laws.OwnMore
import Derived.Laws.Cells
import Derived.Lib.ConvBytes
set_option linter.unusedVariables false
namespace Go.Proofs.Ytkmdajbhkfneaaa.VL
open Go.RowKit View

theorem St.heap {g : View} {w0 w : World} {b : Nat} {o : Obj} {F : HProp} (s : St g w0 (sep (pt b o) F) w) : w.heap[b]? = some o := by
  obtain ⟨h, ⟨h1, h2, d, rfl, e, _⟩, dg, fit, _⟩ := s
  have e : h1 = View.one b o := e
  subst e
  exact fit b o (by unfold add View.one; simp)
theorem St.put {g : View} {w0 w w' : World} {b : Nat} {o o' : Obj} {F : HProp} (s : St g w0 (sep (pt b o) F) w)
    (hs : w'.heap.size = w.heap.size) (hb : w'.heap[b]? = some o') (hk : ∀ k, k ≠ b → w'.heap[k]? = w.heap[k]?)
    (h1 : w'.os = w.os) (h2 : w'.tape = w.tape) (h3 : w'.output = w.output) : St g w0 (sep (pt b o') F) w' := by
  obtain ⟨h, ⟨x, y, d, rfl, e, hf⟩, dg, fit, evo⟩ := s
  have e : x = View.one b o := e
  subst e
  have dis : ∀ z : View, Disj (View.one b o) z → Disj (View.one b o') z := fun z dz k => by
    rcases dz k with e | e
    · left; unfold View.one at *; split at e
      · cases e
      · rw [if_neg (by assumption)]
    · exact .inr e
  obtain ⟨d1, d2⟩ := disj_add.1 dg
  refine ⟨(View.one b o').add y, ⟨_, y, dis _ d, rfl, rfl, hf⟩, disj_add.2 ⟨dis _ d1, d2⟩, fun k v ek => ?_, evo.trans ⟨h1, h2, h3, by omega⟩⟩
  by_cases hkb : k = b
  · subst hkb
    have : v = o' := by
      unfold add View.one at ek; simp at ek; exact ek.symm
    rw [this]; exact hb
  · rw [hk k hkb]
    apply fit
    unfold add View.one at ek ⊢
    simp only [if_neg hkb] at ek ⊢
    exact ek
theorem St.new {g : View} {w0 w : World} {A : HProp} (s : St g w0 A w) (o : Obj) : St g w0 (sep (pt w.heap.size o) A) (w.alloc o) := by
  obtain ⟨h, ha, dg, fit, evo⟩ := s
  have fr : ∀ z : View, Fits z w → z w.heap.size = none := fun z fz => by
    cases e : z w.heap.size with
    | none => rfl
    | some o => exact absurd (fz.lt e) (Nat.lt_irrefl _)
  have dis : ∀ z : View, Fits z w → Disj (View.one w.heap.size o) z := fun z fz k => by
    by_cases hk : k = w.heap.size
    · subst hk; exact .inr (fr z fz)
    · left; unfold View.one; rw [if_neg hk]
  refine ⟨(View.one w.heap.size o).add h, ⟨_, h, dis h fit.left, rfl, rfl, ha⟩, disj_add.2 ⟨dis g (fit.right dg), dg⟩, fun k v ek => ?_, evo.trans ⟨rfl, rfl, rfl, by show w.heap.size ≤ (w.heap.push o).size; rw [Array.size_push]; omega⟩⟩
  show (w.heap.push o)[k]? = some v
  rw [Array.getElem?_push]
  by_cases hk : k = w.heap.size
  · rw [if_pos hk]
    unfold add View.one at ek; simp [hk] at ek; rw [ek]
  · rw [if_neg hk]
    apply fit
    unfold add View.one at ek
    simp only [if_neg hk] at ek
    unfold add
    exact ek
theorem St.drawn {g : View} {w0 w : World} {A : HProp} (s : St g w0 A w) (n : Nat) : St g w0 A { w with drawn := n } := by
  obtain ⟨h, ha, dg, fit, evo⟩ := s
  exact ⟨h, ha, dg, fit, evo.trans ⟨rfl, rfl, rfl, Nat.le_refl _⟩⟩
theorem St.drew {g : View} {w0 w : World} {A : HProp} (s : St g w0 A w) : St g w0 A w.drew := s.drawn _

/-- No cell is frozen (a string may share what lies behind the cells). -/
def okfr (n : Nat) (fr : Nat × Nat) : Prop := fr.2 ≤ fr.1 ∨ n ≤ fr.1
/-- A block of cells. -/
def cells (b : Nat) (t : TypeId) (c : Array Value) : HProp := hex fun fr : Nat × Nat => sep (hpure (okfr c.size fr)) (pt b (.cells c t fr))
/-- One value in each cell. -/
def one1 (v : Value) : Bool := match v with | .agg _ | .tuple _ => false | _ => true
theorem World.cell?_cells {w : World} {b : Nat} {c : Array Value} {t : TypeId} {fr : Nat × Nat} (h : w.heap[b]? = some (.cells c t fr)) (i : Nat) :
    w.cell? ⟨b, i, none⟩ = c[i]? := by unfold World.cell?; rw [h]; rfl
theorem St.cells_open {g : View} {w0 w : World} {b : Nat} {t : TypeId} {c : Array Value} {F : HProp} (s : St g w0 (sep (cells b t c) F) w) :
    ∃ fr, okfr c.size fr ∧ St g w0 (sep (pt b (.cells c t fr)) F) w ∧ w.heap[b]? = some (.cells c t fr) := by
  obtain ⟨fr, s1⟩ := s.ex
  rw [sep_assoc] at s1
  obtain ⟨h, s2⟩ := s1.pure
  exact ⟨fr, h, s2, s2.heap⟩
theorem St.cells_shut {g : View} {w0 w : World} {b : Nat} {t : TypeId} {c : Array Value} {F : HProp} {fr : Nat × Nat} (h : okfr c.size fr) (s : St g w0 (sep (pt b (.cells c t fr)) F) w) :
    St g w0 (sep (cells b t c) F) w := by
  have := St.pure_intro h s
  rw [← sep_assoc] at this
  exact (Imp.ex (F := fun fr : Nat × Nat => sep (hpure (okfr c.size fr)) (pt b (.cells c t fr))) fr).frame F g w0 w this
theorem add_none (b o n : Nat) : (⟨b, o, none⟩ : Addr).add n = ⟨b, o + n, none⟩ := by
  unfold Addr.add; split
  · subst_vars; rfl
  · rfl
theorem run_load_cells {P : Program} {w : World} {b : Nat} {c : Array Value} {t : TypeId} {fr : Nat × Nat} (h : w.heap[b]? = some (.cells c t fr)) {i : Nat} {v : Value} (hv : c[i]? = some v) :
    (load ⟨b, i, none⟩).run P w = .ok v w := by
  simp only [load, Sem.run, World.cell?_cells h, hv]
theorem run_loadCellsFrom_cells {P : Program} {w : World} {b : Nat} {c : Array Value} {t : TypeId} {fr : Nat × Nat} (h : w.heap[b]? = some (.cells c t fr)) (o : Nat) :
    ∀ (n i : Nat) (acc : Array Value), o + i + n ≤ c.size → (loadCellsFrom ⟨b, o, none⟩ i n acc).run P w = .ok (acc ++ c.extract (o + i) (o + i + n)) w := by
  intro n
  induction n with
  | zero => intro i acc hle; simp [loadCellsFrom]; omega
  | succ n ih =>
    intro i acc hle
    have hl : o + i < c.size := by omega
    unfold loadCellsFrom
    rw [add_none]
    show ((load ⟨b, o + i, none⟩).bind _).run P w = _
    rw [Sem.run_bind' , run_load_cells h (Array.getElem?_eq_getElem hl)]
    show (loadCellsFrom ⟨b, o, none⟩ (i + 1) n (acc.push c[o + i])).run P w = _
    rw [ih (i + 1) _ (by omega)]
    congr 1
    apply Array.ext'
    rw [show o + (i + 1) + n = o + i + (n + 1) from by omega, show o + (i + 1) = o + i + 1 from by omega]
    simp only [Array.toList_append, Array.toList_push, Array.toList_extract, List.append_assoc]
    congr 1
    rw [List.extract_eq_take_drop, List.extract_eq_take_drop]
    have : o + i < c.toList.length := by simpa using hl
    rw [List.drop_eq_getElem_cons this, show o + i + (n + 1) - (o + i) = (o + i + (n + 1) - (o + i + 1)) + 1 from by omega, List.take_succ_cons]
    simp
theorem run_loadCells_cells {P : Program} {w : World} {b : Nat} {c : Array Value} {t : TypeId} {fr : Nat × Nat} (h : w.heap[b]? = some (.cells c t fr)) (o n : Nat) (hle : o + n ≤ c.size) :
    (loadCells ⟨b, o, none⟩ n).run P w = .ok (c.extract o (o + n)) w := by
  unfold loadCells
  rw [run_loadCellsFrom_cells h o n 0 #[] (by omega)]
  simp
/-- Values written into a row of cells from a place on. -/
def writes (c : Array Value) (o : Nat) : List Value → Array Value
  | [] => c
  | v :: vs => writes (c.setIfInBounds o v) (o + 1) vs
theorem writes_size (c : Array Value) (o : Nat) (vs : List Value) : (writes c o vs).size = c.size := by
  induction vs generalizing c o with
  | nil => rfl
  | cons v vs ih => rw [writes, ih]; simp
theorem run_storeCells_view {P : Program} (b o : Nat) (t : TypeId) (fr : Nat × Nat) {g : View} {w0 : World} {F : HProp} : ∀ (vs : List Value) (i : Nat) (c : Array Value) (w : World),
    okfr c.size fr → St g w0 (sep (pt b (.cells c t fr)) F) w → o + i + vs.length ≤ c.size → (∀ v ∈ vs, one1 v = true) →
    ∃ w', (storeCells ⟨b, o, none⟩ vs i).run P w = .ok () w' ∧ St g w0 (sep (pt b (.cells (writes c (o + i) vs) t fr)) F) w' := by
  intro vs
  induction vs with
  | nil => intro i c w _ s _ _; exact ⟨w, rfl, s⟩
  | cons v vs ih =>
    intro i c w hfr s hle h1
    have hh := s.heap
    have hl : o + i < c.size := by simp at hle; omega
    have hst : (store ⟨b, o + i, none⟩ v).run P w = .ok () (w.setCell ⟨b, o + i, none⟩ v) := by
      have hc : w.cell? ⟨b, o + i, none⟩ = some c[o + i] := by rw [World.cell?_cells hh, Array.getElem?_eq_getElem hl]
      have hf : w.frozen? ⟨b, o + i, none⟩ = false := by
        unfold World.frozen?; rw [hh]
        show (decide (fr.1 ≤ o + i) && decide (o + i < fr.2)) = false
        unfold okfr at hfr
        by_cases h2 : fr.1 ≤ o + i
        · rw [decide_eq_false (show ¬ (o + i < fr.2) by omega), Bool.and_false]
        · rw [decide_eq_false h2]; rfl
      have hv := h1 v (by simp)
      unfold store
      cases v <;> first | (simp [one1] at hv; done) | simp only [Sem.run, hc, hf, if_false, Bool.false_eq_true]
    have s2 : St g w0 (sep (pt b (.cells (c.setIfInBounds (o + i) v) t fr)) F) (w.setCell ⟨b, o + i, none⟩ v) := by
      refine s.put ?_ ?_ ?_ rfl rfl rfl
      · simp [World.setCell]
      · simp [World.setCell, Array.getElem?_modify, hh]
      · intro k hk
        simp [World.setCell, Array.getElem?_modify, Ne.symm hk]
    have hz : (c.setIfInBounds (o + i) v).size = c.size := by simp
    obtain ⟨w', hr, s3⟩ := ih (i + 1) (c.setIfInBounds (o + i) v) (w.setCell ⟨b, o + i, none⟩ v) (by rw [hz]; exact hfr) s2 (by rw [hz]; simp at hle; omega) (fun u hu => h1 u (by simp [hu]))
    refine ⟨w', ?_, ?_⟩
    · unfold storeCells
      rw [add_none]
      show ((store ⟨b, o + i, none⟩ v).bind fun _ => storeCells ⟨b, o, none⟩ vs (i + 1)).run P w = _
      rw [Sem.run_bind', hst]
      exact hr
    · exact s3
end Go.Proofs.Ytkmdajbhkfneaaa.VL
