/- Rows: arguments that are slices, as rows that are only read; an argument reads behind the call as it did. -/
import Derived.Test.YtkmdajbhkfneaaaVL18
import Derived.Carry
import Derived.OpenShut
import Derived.ChangeOld
import Derived.Deep.Slices
set_option maxRecDepth 10000
set_option linter.unusedVariables false
namespace Go.Proofs.Ytkmdajbhkfneaaa.VL
open View RowKit ChangeShapes WideShapes
section
variable {H : Type} {enc : TypeId × Value → H} {P : Program} {w : World} {sp : Nat → Bool} {held : Bool}
theorem block_of_cell {w : World} {a : Addr} {v : Value} (h : w.cell? a = some v) : ∃ b o c t fr, a = ⟨b, o, none⟩ ∧ w.heap[b]? = some (.cells c t fr) ∧ c[o]? = some v := by
  obtain ⟨b, o, spot⟩ := a
  unfold World.cell? at h
  cases e : w.heap[b]? with
  | none => rw [show (⟨b, o, spot⟩ : Addr).block = b from rfl, e] at h; cases h
  | some ob =>
    rw [show (⟨b, o, spot⟩ : Addr).block = b from rfl, e] at h
    cases ob with
    | cells c t fr =>
      cases spot with
      | none => exact ⟨b, o, c, t, fr, rfl, e, by simpa using h⟩
      | some s => simp at h
    | _ => cases h
theorem addr_add (b o i : Nat) : Addr.add ⟨b, o, none⟩ i = ⟨b, o + i, none⟩ := by
  unfold Addr.add
  split
  · rename_i h; subst h; rfl
  · rfl
/-- The elements of a slice that reads as data, each by what 'hx' says of its cells. -/
theorem rowq_of_trod {X : Type} (encX : X → List Value) (good : X → Prop) {t e k : Nat} (ht : P.underlying t = some (.slice e)) (hk : P.cellsOf e = k) (hk0 : 0 < k)
    (hx : ∀ (n : Nat) (cs : List Value) y, cs.length = k → DataW.trod enc P w 0 sp held n e cs = some y → ∃ x, good x ∧ cs = encX x)
    {fuel : Nat} {cs : List Value} {y : DataW H × List MemPlace} (h : DataW.trod enc P w 0 sp held fuel t cs = some y) :
    ∃ (p : Option Addr) (xs : List X) (cap : Nat), cs = [.slice p xs.length cap] ∧ (∀ x ∈ xs, good x) ∧ xs.length ≤ 9223372036854775807 ∧ (∀ x ∈ xs, (encX x).length = k) ∧ RowQ (allV w) p xs.length k (xs.flatMap encX) := by
  rcases Deep.open_slice ht h with ⟨h0, _⟩ | ⟨a, len, cap, m, n, D, Pl, hcs, hb, hl, hm, hmm, _, hi⟩
  · exact ⟨none, [], 0, h0, by simp, by simp, by simp, RowQ.nil⟩
  · have hlm : len ≤ m := by rw [hmm]; split <;> omega
    have each : ∀ i, i < len → ∃ x, good x ∧ (encX x).length = k ∧ ∀ j, j < k → w.cell? (a.add (i * k + j)) = (encX x)[j]? := by
      intro i hil
      obtain ⟨cs', hc, hd⟩ := hi i (by omega)
      obtain ⟨_, hlen, hat⟩ := World.cells?_some hc
      rw [hk] at hlen hat
      obtain ⟨x, gx, ex⟩ := hx n cs' _ hlen hd
      subst ex
      refine ⟨x, gx, hlen, fun j hj => ?_⟩
      have := hat j hj
      rw [Deep.add_add] at this
      exact this
    have hlist : ∀ l, l ≤ len → ∃ xs : List X, xs.length = l ∧ (∀ x ∈ xs, good x) ∧ (∀ x ∈ xs, (encX x).length = k) ∧ (xs.flatMap encX).length = l * k ∧ ∀ i, i < l * k → w.cell? (a.add i) = (xs.flatMap encX)[i]? := by
      intro l
      induction l with
      | zero => intro _; exact ⟨[], rfl, by simp, by simp, by simp, by simp⟩
      | succ l ih =>
        intro hle
        obtain ⟨xs, h1, h2, h3, h4, h5⟩ := ih (by omega)
        obtain ⟨x, gx, hxl, hcell⟩ := each l (by omega)
        refine ⟨xs ++ [x], by simp [h1], ?_, ?_, ?_, ?_⟩
        · intro y hy
          rcases List.mem_append.1 hy with hy | hy
          · exact h2 y hy
          · obtain rfl : y = x := by simpa using hy
            exact gx
        · intro y hy
          rcases List.mem_append.1 hy with hy | hy
          · exact h3 y hy
          · obtain rfl : y = x := by simpa using hy
            exact hxl
        · simp [List.flatMap_append, h4, hxl, Nat.add_mul]
        · intro i hil
          rw [List.flatMap_append]
          rcases Nat.lt_or_ge i (l * k) with h | h
          · rw [List.getElem?_append_left (by omega)]; exact h5 i h
          · rw [List.getElem?_append_right (by omega), h4]
            have hj : i - l * k < k := by rw [Nat.add_mul] at hil; omega
            have := hcell (i - l * k) hj
            rw [show l * k + (i - l * k) = i by omega] at this
            simpa using this
    obtain ⟨xs, h1, h2, h3, h4, h5⟩ := hlist len (Nat.le_refl _)
    subst h1
    refine ⟨some a, xs, cap, hcs, h2, by unfold maxLen at hm; omega, h3, h4, ?_⟩
    rcases Nat.eq_zero_or_pos xs.length with h0 | h0
    · exact .inl h0
    · right
      have hpos : 0 < xs.length * k := Nat.mul_pos h0 hk0
      have hc0 := h5 0 hpos
      rw [List.getElem?_eq_getElem (by omega)] at hc0
      obtain ⟨b, o, c, tc, fr, ea, hh, _⟩ := block_of_cell hc0
      have ea' : a = ⟨b, o, none⟩ := by
        obtain ⟨b1, o1, s1⟩ := a
        simpa [Addr.add] using ea
      refine ⟨b, o, c, tc, fr, by rw [ea'], hh, fun i hil => ?_⟩
      have := h5 i hil
      rw [ea'] at this
      rw [addr_add] at this
      unfold World.cell? at this
      rw [show (⟨b, o + i, none⟩ : Addr).block = b from rfl, hh] at this
      simpa using this
theorem bool_cells {t n : Nat} (ht : P.underlying t = some .bool) (cs : List Value) (y : DataW H × List MemPlace) (h : DataW.trod enc P w 0 sp held n t cs = some y) : ∃ x : Bool, True ∧ cs = [.bool x] := by
  obtain ⟨b, e, _⟩ := DataW.trod_bool ht h
  exact ⟨b, trivial, e⟩
theorem u8_wf {n : Int} (h : (Lit.int .u8 n).wf = true) : 0 ≤ n ∧ n ≤ 255 := by
  simp [Lit.wf, IntKind.min, IntKind.max, IntKind.signed, IntKind.bits] at h
  omega
theorem i64_wf {n : Int} (h : (Lit.int .i64 n).wf = true) : -9223372036854775808 ≤ n ∧ n ≤ 9223372036854775807 := by
  simp [Lit.wf, IntKind.min, IntKind.max, IntKind.signed, IntKind.bits] at h
  omega
theorem int_cells {t n : Nat} {k : IntKind} (ht : P.underlying t = some (.int k)) (cs : List Value) (y : DataW H × List MemPlace) (h : DataW.trod enc P w 0 sp held n t cs = some y) : ∃ x : Int, (Lit.int k x).wf = true ∧ cs = [.int k x] := by
  obtain ⟨b, e, _, hw⟩ := DataW.trod_int ht h
  exact ⟨b, hw, e⟩
/-- An argument that is a slice: its value. -/
theorem open_rowq {X : Type} (encX : X → List Value) (good : X → Prop) {t e k : Nat} {r : Reach} {b0 : Nat} {v : Value} {d : DataW H} {ps : List MemPlace} (ht : P.underlying t = some (.slice e)) (hk : P.cellsOf e = k) (hk0 : 0 < k)
    (hx : ∀ (n : Nat) (cs : List Value) y, cs.length = k → DataW.trod enc P w 0 sp held n e cs = some y → ∃ x, good x ∧ cs = encX x)
    (hval : Value.okWide P w r b0 t v) (h : DataW.Trod enc P w 0 sp held t v d ps) :
    ∃ (p : Option Addr) (xs : List X) (cap : Nat), v = .slice p xs.length cap ∧ (∀ x ∈ xs, good x) ∧ xs.length ≤ 9223372036854775807 ∧ (∀ x ∈ xs, (encX x).length = k) ∧ RowQ (allV w) p xs.length k (xs.flatMap encX) := by
  obtain ⟨a, len, cap, rfl⟩ := okWide_slice ht hval
  obtain ⟨fuel, hf⟩ := h
  obtain ⟨p, xs, c, e1, h2⟩ := rowq_of_trod encX good ht hk hk0 hx hf
  have e1 : [Value.slice a len cap] = [.slice p xs.length c] := e1
  exact ⟨p, xs, c, by simpa using e1, h2⟩
theorem args_again (hl : laidOutB P = true) {W W' : World} (hb : Below W.heap.size W W') : ∀ {ts : List TypeId} {vs : List Value} {ds : List (DataW H)} {ps : List MemPlace}, (∀ t ∈ ts, P.readableRec t = true ∧ t < P.types.size) →
    DataW.TrodAll enc P W 0 (fun _ => true) true ts vs ds ps → DataW.TrodAll enc P W' 0 (fun b => decide (b < W.heap.size)) true ts vs ds ps := by
  intro ts
  induction ts with
  | nil =>
    intro vs ds ps _ h
    obtain ⟨rfl, rfl, rfl⟩ := trodAll_nil h
    exact trodAll_mk0
  | cons t ts ih =>
    intro vs ds ps ht h
    have hlt := DataW.TrodAll.lt h
    obtain ⟨v0, vs0, d0, ds0, p0, q0, rfl, rfl, rfl, h0, r0⟩ := trodAll_cons h
    have h1 := ht t (by simp)
    exact trodAll_cons_mk (Below.trod hl h1.1 h1.2 h0 hb fun x hx => hlt x (List.mem_append.2 (.inl hx))) (ih (fun t' h' => ht t' (by simp [h'])) r0)
def encB (x : Bool) : List Value := [.bool x]
def encI (k : IntKind) (x : Int) : List Value := [.int k x]
def encS (x : ByteArray) : List Value := [.string x]
def goodI (k : IntKind) (x : Int) : Prop := (Lit.int k x).wf = true
theorem rowq_map {X : Type} {f : X → Value} {q : View} {p : Option Addr} {n k : Nat} {xs : List X} (h : RowQ q p n k (xs.flatMap fun x => [f x])) : RowQ q p n k (xs.map f) := by
  have e : xs.flatMap (fun x => [f x]) = xs.map f := by
    clear h
    induction xs with
    | nil => rfl
    | cons x xs ih => rw [List.flatMap_cons, ih]; rfl
  rw [← e]; exact h
theorem rowq_b {q : View} {p : Option Addr} {n k : Nat} {xs : List Bool} (h : RowQ q p n k (xs.flatMap encB)) : RowQ q p n k (xs.map .bool) := rowq_map h
theorem rowq_i {kk : IntKind} {q : View} {p : Option Addr} {n k : Nat} {xs : List Int} (h : RowQ q p n k (xs.flatMap (encI kk))) : RowQ q p n k (xs.map (.int kk)) := rowq_map h
theorem args_all (hl : laidOutB P = true) {W W' : World} (hb : Below W.heap.size W W') {ts : List TypeId} {vs : List Value} {ds : List (DataW H)} {ps : List MemPlace} (ht : (ts.all fun t => P.readableRec t && decide (t < P.types.size)) = true)
    (h : DataW.TrodAll enc P W 0 (fun _ => true) true ts vs ds ps) : DataW.TrodAll enc P W' 0 (fun b => decide (b < W.heap.size)) true ts vs ds ps :=
  args_again hl hb (fun t h1 => by
    have := List.all_eq_true.1 ht t h1
    simpa using this) h
end
end Go.Proofs.Ytkmdajbhkfneaaa.VL
