/- Operations with memory: loads, stores, new blocks; and those that ask for bounds. -/
import Derived.Test.YtkmdajbhkfneaaaVL6
set_option linter.unusedVariables false
set_option linter.unusedSimpArgs false
namespace Go.Proofs.Ytkmdajbhkfneaaa.VL
open Go.RowKit View

/-- Where a part stands among the parts. -/
inductive At : List HProp → HProp → (HProp → List HProp) → Prop
  | head {X : HProp} {l : List HProp} : At (X :: l) X fun Y => Y :: l
  | tail {X Z : HProp} {l : List HProp} {f : HProp → List HProp} : At l X f → At (Z :: l) X fun Y => Z :: f Y
theorem At.out {A : List HProp} {X : HProp} {f : HProp → List HProp} (h : At A X f) : ∃ L, star A = sep X (star L) ∧ ∀ Y, star (f Y) = sep Y (star L) := by
  induction h with
  | @head X l => exact ⟨l, rfl, fun _ => rfl⟩
  | @tail X Z l f _ ih =>
    obtain ⟨L, e1, e2⟩ := ih
    refine ⟨Z :: L, ?_, fun Y => ?_⟩
    · show sep Z (star l) = _; rw [e1, sep_left_comm]; rfl
    · show sep Z (star (f Y)) = _; rw [e2 Y, sep_left_comm]; rfl

section
variable {P : Program} {q : View} {T : Nat → Option TyI} {n : Nat} {σ : Facts} {A : List HProp} {f : HProp → List HProp}
theorem okfr_nil (n : Nat) : okfr n (0, 0) := .inl (Nat.le_refl _)
theorem opd_of {op : Op} {v : Value} {B : List HProp} (h : ∀ (a : Act) (o : Oper), Holds n σ a → o.op = op → ∀ g w0 w, Sub q g → St g w0 (star A) w → ∃ w', (execOp a.eval o).run P w = .ok (.value v) w' ∧ St g w0 (star B) w') :
    OpD P q n σ op (star A) v B := fun a o hσ ho g w0 w hq s => by
  obtain ⟨w', hr, s'⟩ := h a o hσ ho g w0 w hq s
  exact ⟨w', (), .inl hr, s'⟩
/-- An operation that only looks. -/
def OpQ (P : Program) (q : View) (n : Nat) (σ : Facts) (op : Op) (A : List HProp) (v : Value) : Prop :=
  ∀ (a : Act) (o : Oper), Holds n σ a → o.op = op → ∀ g w0 w, Sub q g → St g w0 (star A) w → (execOp a.eval o).run P w = .ok (.value v) w
theorem OpQ.opd {op : Op} {v : Value} (h : OpQ P q n σ op A v) : OpD P q n σ op (star A) v A := opd_of fun a o hσ ho g w0 w hq s => ⟨w, h a o hσ ho g w0 w hq s, s⟩
theorem load_run (hT : TabOk P T) {t : Nat} {ti : TyI} (ht : T t = some ti) {w : World} {b i : Nat} {c : Array Value} {tc : TypeId} {fr : Nat × Nat} (hh : w.heap[b]? = some (.cells c tc fr)) :
    (∀ v, isAggD ti.und = false → c[i]? = some v → (Instr.loadAt t (.pointer (some ⟨b, i, none⟩))).run P w = .ok v w) ∧
    (isAggD ti.und = true → i + ti.size ≤ c.size → (Instr.loadAt t (.pointer (some ⟨b, i, none⟩))).run P w = .ok (.agg (c.extract i (i + ti.size))) w) := by
  unfold Instr.loadAt
  simp only [Instr.sureAddr, Sem.run_bind, Sem.run_pure, Result.andThen]
  unfold loadVar
  simp only [Sem.run_bind, agg_run hT ht, Result.andThen]
  refine ⟨fun v ha hc => ?_, fun ha hle => ?_⟩
  · rw [ha]; exact run_load_cells hh hc
  · rw [ha]
    simp only [if_true, Sem.run_bind, size_run hT ht, Result.andThen]
    rw [run_loadCells_cells hh i ti.size hle]
    rfl
theorem exec_load {a : Act} {o : Oper} {t : Nat} {x : Operand} (ho : o.op = .load t x) : execOp a.eval o = (do pure (.value (← Instr.loadAt t (a.eval x)))) := by
  obtain ⟨dst, op, type, pos, after, guard⟩ := o
  obtain rfl : op = _ := ho
  rfl
theorem op_load (hT : TabOk P T) {t : Nat} {x : Operand} {b i : Nat} {ti : TyI} {tc : TypeId} {c : Array Value} {v : Value} (hx : ev σ x = some (.pointer (some ⟨b, i, none⟩))) (ht : T t = some ti) (ha : isAggD ti.und = false)
    (hA : At A (cells b tc c) f) (hc : c[i]? = some v) : OpQ P q n σ (.load t x) A v := fun a o hσ ho g w0 w hq s => by
  obtain ⟨L, e, _⟩ := hA.out
  obtain ⟨fr, _, _, hh⟩ := (show St g w0 (sep (cells b tc c) (star L)) w from e ▸ s).cells_open
  rw [exec_load ho, hσ.ev hx, Sem.run_bind, (load_run hT ht hh).1 v ha hc]; rfl
theorem op_load_agg (hT : TabOk P T) {t : Nat} {x : Operand} {b i : Nat} {ti : TyI} {tc : TypeId} {c : Array Value} (hx : ev σ x = some (.pointer (some ⟨b, i, none⟩))) (ht : T t = some ti) (ha : isAggD ti.und = true)
    (hA : At A (cells b tc c) f) (hc : i + ti.size ≤ c.size) : OpQ P q n σ (.load t x) A (.agg (c.extract i (i + ti.size))) := fun a o hσ ho g w0 w hq s => by
  obtain ⟨L, e, _⟩ := hA.out
  obtain ⟨fr, _, _, hh⟩ := (show St g w0 (sep (cells b tc c) (star L)) w from e ▸ s).cells_open
  rw [exec_load ho, hσ.ev hx, Sem.run_bind, (load_run hT ht hh).2 ha hc]; rfl
/-- A load from memory that stays as it is. -/
theorem op_load_old (hT : TabOk P T) {t : Nat} {x : Operand} {b i : Nat} {ti : TyI} {tc : TypeId} {c : Array Value} {fr : Nat × Nat} {v : Value} (hx : ev σ x = some (.pointer (some ⟨b, i, none⟩))) (ht : T t = some ti) (ha : isAggD ti.und = false)
    (hb : q b = some (.cells c tc fr)) (hc : c[i]? = some v) : OpQ P q n σ (.load t x) A v := fun a o hσ ho g w0 w hq s => by
  rw [exec_load ho, hσ.ev hx, Sem.run_bind, (load_run hT ht (s.old hq hb)).1 v ha hc]; rfl
theorem op_load_agg_old (hT : TabOk P T) {t : Nat} {x : Operand} {b i : Nat} {ti : TyI} {tc : TypeId} {c : Array Value} {fr : Nat × Nat} (hx : ev σ x = some (.pointer (some ⟨b, i, none⟩))) (ht : T t = some ti) (ha : isAggD ti.und = true)
    (hb : q b = some (.cells c tc fr)) (hc : i + ti.size ≤ c.size) : OpQ P q n σ (.load t x) A (.agg (c.extract i (i + ti.size))) := fun a o hσ ho g w0 w hq s => by
  rw [exec_load ho, hσ.ev hx, Sem.run_bind, (load_run hT ht (s.old hq hb)).2 ha hc]; rfl
/-- A store. -/
theorem op_store (hT : TabOk P T) {t : Nat} {x y : Operand} {b i : Nat} {ti : TyI} {tc : TypeId} {c : Array Value} {v : Value} (hx : ev σ x = some (.pointer (some ⟨b, i, none⟩))) (hy : ev σ y = some v) (ht : T t = some ti)
    (hA : At A (cells b tc c) f) (hv : v.cells.size = ti.size) (h1 : v.cells.toList.all one1 = true) (hc : i + ti.size ≤ c.size) :
    OpD P q n σ (.store t x y) (star A) undef (f (cells b tc (writes c i v.cells.toList))) := fun a o hσ ho g w0 w hq s => by
  obtain ⟨L, e, e'⟩ := hA.out
  obtain ⟨fr, hfr, s1, hh⟩ := (show St g w0 (sep (cells b tc c) (star L)) w from e ▸ s).cells_open
  obtain ⟨w', hr, s2⟩ := run_storeCells_view (P := P) b i tc fr v.cells.toList 0 c w hfr s1 (by simp; omega) (fun u hu => List.all_eq_true.1 h1 u hu)
  refine ⟨w', (), .inr ⟨?_, rfl⟩, ?_⟩
  · obtain ⟨dst, op, type, pos, after, guard⟩ := o
    obtain rfl : op = _ := ho
    rw [show execOp a.eval _ = (do Instr.storeAt t (a.eval x) (a.eval y); pure .skip) from rfl, hσ.ev hx, hσ.ev hy]
    unfold Instr.storeAt
    simp only [Instr.sureAddr, Sem.run_bind, Sem.run_pure, Result.andThen]
    unfold storeVar
    simp only [Sem.run_bind, size_run hT ht, Result.andThen]
    rw [if_neg (by simp [hv])]
    rw [hr]
  · rw [e' _]
    exact s2.cells_shut (by rw [writes_size]; exact hfr)
theorem newRow_st {g : View} {w0 w : World} {A : HProp} (s : St g w0 A w) (t : TypeId) (c : Array Value) :
    (newRow t c).run P w = .ok ⟨w.heap.size, 0, none⟩ (w.alloc (.cells c t)) ∧ St g w0 (sep (cells w.heap.size t c) A) (w.alloc (.cells c t)) :=
  ⟨rfl, (s.new _).cells_shut (okfr_nil _)⟩
/-- A new variable. -/
theorem op_alloc (hT : TabOk P T) {t : Nat} {ti : TyI} {z : Value} (ht : T t = some ti) (hz : ti.zero = some z) :
    OpX P q n σ (.alloc t) (star A) (fun r : Nat => .pointer (some ⟨r, 0, none⟩)) fun r => cells r t z.cells :: A := fun a o hσ ho g w0 w hq s => by
  obtain ⟨hr, s'⟩ := newRow_st (P := P) s t z.cells
  refine ⟨_, w.heap.size, .inl ?_, s'⟩
  obtain ⟨dst, op, type, pos, after, guard⟩ := o
  obtain rfl : op = _ := ho
  rw [show execOp a.eval _ = (do pure (.value (← Instr.alloc t true (.tuple #[])))) from rfl]
  unfold Instr.alloc
  simp only [Sem.run_bind, zero_run hT ht hz, Result.andThen, newVar, hr, Sem.run_pure]
theorem op_box {t : Nat} {x : Operand} {v : Value} (hx : ev σ x = some v) :
    OpX P q n σ (.box t x) (star A) (fun r : Nat => .pointer (some ⟨r, 0, none⟩)) fun r => cells r t v.cells :: A := fun a o hσ ho g w0 w hq s => by
  obtain ⟨hr, s'⟩ := newRow_st (P := P) s t v.cells
  refine ⟨_, w.heap.size, .inl ?_, s'⟩
  obtain ⟨dst, op, type, pos, after, guard⟩ := o
  obtain rfl : op = _ := ho
  rw [show execOp a.eval _ = (do pure (.value (← Instr.box t (a.eval x)))) from rfl, hσ.ev hx]
  unfold Instr.box
  simp only [Sem.run_bind, newVar, hr, Result.andThen, Sem.run_pure]
end
end Go.Proofs.Ytkmdajbhkfneaaa.VL
