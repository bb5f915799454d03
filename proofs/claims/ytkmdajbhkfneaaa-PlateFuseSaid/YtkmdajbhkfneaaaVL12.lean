/- The memory operations where the cells are listed: what comes out is listed again. -/
import Derived.Test.YtkmdajbhkfneaaaVL11
set_option linter.unusedVariables false
set_option linter.unusedSimpArgs false
namespace Go.Proofs.Ytkmdajbhkfneaaa.VL
open Go.RowKit View

def revTo : List Value → List Value → Option (List Value)
  | [], acc => some acc
  | x :: xs, acc => revTo xs (x :: acc)
theorem revTo_eq : ∀ (l acc r : List Value), revTo l acc = some r → r = l.reverse ++ acc := by
  intro l
  induction l with
  | nil => intro acc r h; cases h; rfl
  | cons x l ih => intro acc r h; rw [ih _ _ h]; simp
def takeTo : Nat → List Value → List Value → Option (List Value)
  | 0, _, acc => revTo acc []
  | _ + 1, [], _ => none
  | k + 1, x :: xs, acc => takeTo k xs (x :: acc)
def dropTake : Nat → Nat → List Value → Option (List Value)
  | 0, k, l => takeTo k l []
  | _ + 1, _, [] => none
  | i + 1, k, _ :: l => dropTake i k l
theorem takeTo_eq : ∀ (k : Nat) (l acc r : List Value), takeTo k l acc = some r → r = acc.reverse ++ l.take k ∧ k ≤ l.length := by
  intro k
  induction k with
  | zero => intro l acc r h; rw [revTo_eq _ _ _ h]; simp
  | succ k ih =>
    intro l acc r h
    cases l with
    | nil => cases h
    | cons x l =>
      obtain ⟨e, hle⟩ := ih _ _ _ h
      rw [e]; simp; exact hle
theorem dropTake_eq : ∀ (i k : Nat) (l r : List Value), dropTake i k l = some r → r = (l.drop i).take k ∧ i + k ≤ l.length := by
  intro i
  induction i with
  | zero => intro k l r h; obtain ⟨e, hle⟩ := takeTo_eq _ _ _ _ h; rw [e]; simp; exact hle
  | succ i ih =>
    intro k l r h
    cases l with
    | nil => cases h
    | cons x l =>
      obtain ⟨e, hle⟩ := ih _ _ _ h
      rw [e]; simp; omega
/-- The list with values put in from a place on (all of them fit), listed. -/
def putAll : Nat → List Value → List Value → List Value → Option (List Value)
  | _, [], [], acc => revTo acc []
  | i, [], x :: l, acc => putAll i [] l (x :: acc)
  | 0, v :: vs, _ :: l, acc => putAll 0 vs l (v :: acc)
  | 0, _ :: _, [], _ => none
  | i + 1, v :: vs, x :: l, acc => putAll i (v :: vs) l (x :: acc)
  | _ + 1, _ :: _, [], _ => none
theorem putAll_eq : ∀ (l : List Value) (i : Nat) (vs acc r : List Value), putAll i vs l acc = some r → (vs = [] ∨ i + vs.length ≤ l.length) ∧ r = acc.reverse ++ (writes ⟨l⟩ i vs).toList := by
  intro l
  induction l with
  | nil =>
    intro i vs acc r h
    cases vs with
    | nil => have h' : revTo acc [] = some r := by cases i <;> exact h
             rw [revTo_eq _ _ _ h']; simp [writes]
    | cons v vs => cases i <;> cases h
  | cons x l ih =>
    intro i vs acc r h
    cases vs with
    | nil =>
      have h' : putAll i [] l (x :: acc) = some r := by cases i <;> exact h
      obtain ⟨_, e⟩ := ih _ _ _ _ h'
      rw [e]; simp [writes]
    | cons v vs =>
      have shift : ∀ (vs : List Value) (i : Nat) (y : Value) (l : List Value), (writes ⟨y :: l⟩ (i + 1) vs).toList = y :: (writes ⟨l⟩ i vs).toList := by
        intro vs
        induction vs with
        | nil => intro i y l; rfl
        | cons u us ih2 =>
          intro i y l
          rw [writes, writes]
          have e1 : (⟨y :: l⟩ : Array Value).setIfInBounds (i + 1) u = ⟨y :: l.set i u⟩ := by apply Array.ext'; simp
          have e2 : (⟨l⟩ : Array Value).setIfInBounds i u = ⟨l.set i u⟩ := by apply Array.ext'; simp
          rw [e1, e2, ih2]
      cases i with
      | zero =>
        have h' : putAll 0 vs l (v :: acc) = some r := h
        obtain ⟨hle, e⟩ := ih _ _ _ _ h'
        refine ⟨.inr ?_, ?_⟩
        · rcases hle with rfl | hle
          · simp
          · simp at hle ⊢; omega
        · rw [e]
          have e1 : (⟨x :: l⟩ : Array Value).setIfInBounds 0 v = ⟨v :: l⟩ := by apply Array.ext'; simp
          rw [writes, e1, shift]
          simp
      | succ i =>
        have h' : putAll i (v :: vs) l (x :: acc) = some r := h
        obtain ⟨hle, e⟩ := ih _ _ _ _ h'
        refine ⟨.inr ?_, ?_⟩
        · rcases hle with hle | hle
          · cases hle
          · simp at hle ⊢; omega
        · rw [e, shift]; simp
def cellsL : Value → Option (List Value)
  | .agg ⟨l⟩ => some l
  | v => some [v]
theorem cellsL_eq {v : Value} {l : List Value} (h : cellsL v = some l) : v.cells = ⟨l⟩ := by
  cases v with
  | agg c => obtain ⟨l'⟩ := c; obtain rfl := Option.some.inj h; rfl
  | _ => obtain rfl := Option.some.inj h; rfl
section
variable {P : Program} {q : View} {T : Nat → Option TyI} {n : Nat} {σ : Facts} {A : List HProp} {f : HProp → List HProp}
/-- A load of one cell. -/
theorem opl_load (hT : TabOk P T) {t : Nat} {x : Operand} {b i : Nat} {ti : TyI} {tc : TypeId} {l : List Value} {v : Value} (hx : ev σ x = some (.pointer (some ⟨b, i, none⟩))) (ht : T t = some ti) (ha : isAggD ti.und = false)
    (hA : At A (cells b tc ⟨l⟩) f) (hc : nthV l i = some v) : OpQ P q n σ (.load t x) A v := op_load hT hx ht ha hA (by rw [nthV_eq] at hc; simpa using hc)
theorem opl_load_agg (hT : TabOk P T) {t : Nat} {x : Operand} {b i : Nat} {ti : TyI} {tc : TypeId} {l vs : List Value} (hx : ev σ x = some (.pointer (some ⟨b, i, none⟩))) (ht : T t = some ti) (ha : isAggD ti.und = true)
    (hA : At A (cells b tc ⟨l⟩) f) (hc : dropTake i ti.size l = some vs) : OpQ P q n σ (.load t x) A (.agg ⟨vs⟩) := by
  obtain ⟨e, hle⟩ := dropTake_eq _ _ _ _ hc
  have e2 : (⟨vs⟩ : Array Value) = (⟨l⟩ : Array Value).extract i (i + ti.size) := by
    apply Array.ext'
    rw [e, Array.toList_extract, List.extract_eq_take_drop, show i + ti.size - i = ti.size from by omega]
  rw [e2]
  exact op_load_agg hT hx ht ha hA (by simpa using hle)
theorem opl_store (hT : TabOk P T) {t : Nat} {x y : Operand} {b i : Nat} {ti : TyI} {tc : TypeId} {l l' vs : List Value} {v : Value} (hx : ev σ x = some (.pointer (some ⟨b, i, none⟩))) (hy : ev σ y = some v) (ht : T t = some ti)
    (hA : At A (cells b tc ⟨l⟩) f) (hv : cellsL v = some vs) (hz : vs.length = ti.size) (h1 : vs.all one1 = true) (hp : putAll i vs l [] = some l') (h0 : vs.isEmpty = false) :
    OpD P q n σ (.store t x y) (star A) undef (f (cells b tc ⟨l'⟩)) := by
  have ec := cellsL_eq hv
  obtain ⟨hle, e⟩ := putAll_eq _ _ _ _ _ hp
  have hle : i + vs.length ≤ l.length := hle.resolve_left fun h => by rw [h] at h0; cases h0
  have e2 : (⟨l'⟩ : Array Value) = writes ⟨l⟩ i v.cells.toList := by
    apply Array.ext'; rw [e, ec]; rfl
  rw [e2]
  exact op_store hT hx hy ht hA (by rw [ec]; exact hz) (by rw [ec]; exact h1) (by rw [← hz]; simpa using hle)
theorem opl_alloc (hT : TabOk P T) {t : Nat} {ti : TyI} {z : Value} {l : List Value} (ht : T t = some ti) (hz : ti.zero = some z) (hl : cellsL z = some l) :
    OpX P q n σ (.alloc t) (star A) (fun r : Nat => .pointer (some ⟨r, 0, none⟩)) fun r => cells r t ⟨l⟩ :: A := by
  have := op_alloc (P := P) (q := q) (n := n) (σ := σ) (A := A) hT ht hz
  rw [cellsL_eq hl] at this; exact this
theorem opl_box {t : Nat} {x : Operand} {v : Value} {l : List Value} (hx : ev σ x = some v) (hl : cellsL v = some l) :
    OpX P q n σ (.box t x) (star A) (fun r : Nat => .pointer (some ⟨r, 0, none⟩)) fun r => cells r t ⟨l⟩ :: A := by
  have := op_box (P := P) (q := q) (n := n) (σ := σ) (A := A) (t := t) hx
  rw [cellsL_eq hl] at this; exact this
/-- A struct's or an array's value of its parts. -/
theorem fill_run (hT : TabOk P T) {t : Nat} {ti : TyI} {z : Value} (ht : T t = some ti) (hz : ti.zero = some z) {ps : List (Nat × Value)} (w : World) {fields : Array Field} (hu : ti.und = .struct fields)
    {places : List (Nat × Nat)} (hp : fields.toList.map (fun fl => (T fl.type).map fun i => (fl.offset, i.size)) = places.map some) {r : Array Value} (hf : Instr.fill (fun i => (⟨places⟩ : Array (Nat × Nat))[i]?) z.cells ps = some r) :
    (Instr.build t ⟨ps⟩).run P w = .ok (.agg r) w := by
  unfold Instr.build
  simp only [Sem.run_bind, zero_run hT ht hz, und_run hT ht, hu, Result.andThen]
  have hm : ∀ (fs : List Field) (pl : List (Nat × Nat)), fs.map (fun fl => (T fl.type).map fun i => (fl.offset, i.size)) = pl.map some →
      (fs.mapM (fun (fl : Field) => (do pure (fl.offset, ← sizeOf fl.type) : Sem (Nat × Nat)))).run P w = .ok pl w := by
    intro fs
    induction fs with
    | nil => intro pl h; cases pl with | nil => rfl | cons _ _ => cases h
    | cons fl fs ih =>
      intro pl h
      cases pl with
      | nil => cases h
      | cons p pl =>
        simp only [List.map_cons, List.cons.injEq] at h
        obtain ⟨h1, h2⟩ := h
        cases hi : T fl.type with
        | none => rw [hi] at h1; cases h1
        | some i =>
          rw [hi] at h1
          obtain rfl := Option.some.inj h1
          rw [List.mapM_cons]
          simp only [Sem.run_bind, size_run hT hi, Result.andThen, Sem.run_pure, ih pl h2]
  rw [Array.mapM_eq_mapM_toList]
  simp only [Sem.run_map, hm _ _ hp, Result.andThen]
  rw [hf]
  rfl
end
end Go.Proofs.Ytkmdajbhkfneaaa.VL
