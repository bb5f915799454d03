/- Views of memory: what a proof knows and owns of the heap; assertions on views; what a computation does to them. -/
import Derived.Orders
import Derived.OrdersHeld
import Derived.Below
import Derived.Deep.LoopGhost
set_option linter.unusedVariables false
namespace Go.Proofs.Ytkmdajbhkfneaaa.VL
open Go.RowKit

/-! ### Views -/
abbrev View := Nat → Option Obj
namespace View
def emp : View := fun _ => none
def one (b : Nat) (o : Obj) : View := fun k => if k = b then some o else none
def add (h g : View) : View := fun k => match h k with | some o => some o | none => g k
def Disj (h g : View) : Prop := ∀ k, h k = none ∨ g k = none
theorem Disj.symm {h g : View} (d : Disj h g) : Disj g h := fun k => (d k).symm
theorem add_comm {h g : View} (d : Disj h g) : h.add g = g.add h := by
  funext k; unfold add
  rcases d k with e | e
  · rw [e]; cases g k <;> rfl
  · rw [e]; cases h k <;> rfl
theorem add_assoc (a b c : View) : (a.add b).add c = a.add (b.add c) := by
  funext k; unfold add; cases a k <;> rfl
theorem emp_add (h : View) : emp.add h = h := rfl
theorem add_emp (h : View) : h.add emp = h := by funext k; unfold add emp; cases h k <;> rfl
theorem disj_emp (h : View) : Disj h emp := fun _ => .inr rfl
theorem emp_disj (h : View) : Disj emp h := fun _ => .inl rfl
theorem disj_add {a b c : View} : Disj (a.add b) c ↔ Disj a c ∧ Disj b c := by
  constructor
  · intro d
    refine ⟨fun k => ?_, fun k => ?_⟩
    · rcases d k with e | e
      · unfold add at e
        cases ha : a k with
        | none => exact .inl rfl
        | some o => rw [ha] at e; cases e
      · exact .inr e
    · rcases d k with e | e
      · unfold add at e
        cases ha : a k with
        | none => rw [ha] at e; exact .inl e
        | some o => rw [ha] at e; cases e
      · exact .inr e
  · rintro ⟨d1, d2⟩ k
    rcases d1 k with e | e
    · rcases d2 k with e2 | e2
      · left; unfold add; rw [e]; exact e2
      · exact .inr e2
    · exact .inr e
theorem disj_add' {a b c : View} : Disj a (b.add c) ↔ Disj a b ∧ Disj a c :=
  ⟨fun d => let ⟨x, y⟩ := disj_add.1 d.symm; ⟨x.symm, y.symm⟩, fun ⟨x, y⟩ => (disj_add.2 ⟨x.symm, y.symm⟩).symm⟩
end View
open View

/-- What the view holds stands in the heap. -/
def Fits (h : View) (w : World) : Prop := ∀ b o, h b = some o → w.heap[b]? = some o
/-- The streams are as they were, no block has gone. -/
structure Evo (w w' : World) : Prop where
  os : w'.os = w.os
  tape : w'.tape = w.tape
  output : w'.output = w.output
  size : w.heap.size ≤ w'.heap.size
theorem Evo.refl (w : World) : Evo w w := ⟨rfl, rfl, rfl, Nat.le_refl _⟩
theorem Evo.trans {a b c : World} (h : Evo a b) (k : Evo b c) : Evo a c := ⟨k.os.trans h.os, k.tape.trans h.tape, k.output.trans h.output, Nat.le_trans h.size k.size⟩

theorem Fits.left {h g : View} {w : World} (f : Fits (h.add g) w) : Fits h w := fun b o e => f b o (by unfold add; rw [e])
theorem Fits.right {h g : View} {w : World} (d : Disj h g) (f : Fits (h.add g) w) : Fits g w := fun b o e => f b o (by
  unfold add
  rcases d b with e2 | e2
  · rw [e2]; exact e
  · rw [e2] at e; cases e)
theorem Fits.lt {h : View} {w : World} (f : Fits h w) {b : Nat} {o : Obj} (e : h b = some o) : b < w.heap.size := by
  have := f b o e
  exact (Array.getElem?_eq_some_iff.1 this).1

/-! ### Assertions -/
abbrev HProp := View → Prop
def hemp : HProp := fun h => h = View.emp
def eqv (v : View) : HProp := fun h => h = v
def pt (b : Nat) (o : Obj) : HProp := fun h => h = View.one b o
def sep (A B : HProp) : HProp := fun h => ∃ h1 h2, Disj h1 h2 ∧ h = h1.add h2 ∧ A h1 ∧ B h2
def hpure (φ : Prop) : HProp := fun h => φ ∧ h = View.emp
def hex {X : Type} (F : X → HProp) : HProp := fun h => ∃ x, F x h
def star : List HProp → HProp
  | [] => hemp
  | A :: l => sep A (star l)

/-- In the world, beside the frame g, stands what A says; since w0 the streams are as they were. -/
def St (g : View) (w0 : World) (A : HProp) (w : World) : Prop := ∃ h, A h ∧ Disj h g ∧ Fits (h.add g) w ∧ Evo w0 w
/-- What A says gives what B says (what is left over may be forgotten). -/
def Imp (A B : HProp) : Prop := ∀ g w0 w, St g w0 A w → St g w0 B w
theorem Imp.refl (A : HProp) : Imp A A := fun _ _ _ h => h
theorem Imp.trans {A B C : HProp} (h : Imp A B) (k : Imp B C) : Imp A C := fun g w0 w s => k g w0 w (h g w0 w s)

/-- The frame may be enlarged by a part, and be made smaller again. -/
theorem St.split {g : View} {w0 : World} {A F : HProp} {w : World} (s : St g w0 (sep A F) w) :
    ∃ f, F f ∧ Disj f g ∧ St (f.add g) w0 A w := by
  obtain ⟨h, ⟨h1, h2, d, rfl, ha, hf⟩, dg, fit, evo⟩ := s
  obtain ⟨d1, d2⟩ := disj_add.1 dg
  exact ⟨h2, hf, d2, h1, ha, disj_add'.2 ⟨d, d1⟩, by rw [← add_assoc]; exact fit, evo⟩
theorem St.join {g : View} {w0 : World} {A F : HProp} {w : World} {f : View} (hf : F f) (d : Disj f g) (s : St (f.add g) w0 A w) :
    St g w0 (sep A F) w := by
  obtain ⟨h, ha, dg, fit, evo⟩ := s
  obtain ⟨d1, d2⟩ := disj_add'.1 dg
  exact ⟨h.add f, ⟨h, f, d1, rfl, ha, hf⟩, disj_add.2 ⟨d2, d⟩, by rw [add_assoc]; exact fit, evo⟩
theorem St.drop {g : View} {w0 : World} {A F : HProp} {w : World} (s : St g w0 (sep A F) w) : St g w0 A w := by
  obtain ⟨h, ⟨h1, h2, d, rfl, ha, _⟩, dg, fit, evo⟩ := s
  obtain ⟨d1, d2⟩ := disj_add.1 dg
  refine ⟨h1, ha, d1, fun b o e => ?_, evo⟩
  unfold add at e
  cases e1 : h1 b with
  | some o1 => rw [e1] at e; cases e; exact fit b _ (by unfold add; rw [e1])
  | none =>
    rw [e1] at e
    exact fit b o (by
      rcases d2 b with e2 | e2
      · unfold add; rw [e1, e2]; exact e
      · rw [e2] at e; cases e)
theorem sep_comm (A B : HProp) : sep A B = sep B A := by
  funext h
  exact propext ⟨fun ⟨h1, h2, d, e, a, b⟩ => ⟨h2, h1, d.symm, by rw [e, View.add_comm d], b, a⟩, fun ⟨h1, h2, d, e, a, b⟩ => ⟨h2, h1, d.symm, by rw [e, View.add_comm d], b, a⟩⟩
theorem sep_assoc (A B C : HProp) : sep (sep A B) C = sep A (sep B C) := by
  funext h
  refine propext ⟨?_, ?_⟩
  · rintro ⟨h12, h3, d, rfl, ⟨h1, h2, d', rfl, a, b⟩, c⟩
    obtain ⟨d1, d2⟩ := disj_add.1 d
    exact ⟨h1, h2.add h3, disj_add'.2 ⟨d', d1⟩, add_assoc _ _ _, a, h2, h3, d2, rfl, b, c⟩
  · rintro ⟨h1, h23, d, rfl, a, h2, h3, d', rfl, b, c⟩
    obtain ⟨d1, d2⟩ := disj_add'.1 d
    exact ⟨h1.add h2, h3, disj_add.2 ⟨d2, d'⟩, (add_assoc _ _ _).symm, ⟨h1, h2, d1, rfl, a, b⟩, c⟩
theorem sep_emp (A : HProp) : sep A hemp = A := by
  funext h
  refine propext ⟨?_, fun a => ⟨h, View.emp, disj_emp h, (add_emp h).symm, a, rfl⟩⟩
  rintro ⟨h1, h2, _, rfl, a, rfl⟩; rw [add_emp]; exact a
theorem emp_sep (A : HProp) : sep hemp A = A := by rw [sep_comm, sep_emp]
theorem sep_left_comm (A B C : HProp) : sep A (sep B C) = sep B (sep A C) := by rw [← sep_assoc, sep_comm A B, sep_assoc]
theorem Imp.frame {A B : HProp} (h : Imp A B) (F : HProp) : Imp (sep A F) (sep B F) := fun g w0 w s => by
  obtain ⟨f, hf, d, s1⟩ := s.split
  exact (h _ _ _ s1).join hf d
theorem Imp.frame_left {A B : HProp} (h : Imp A B) (F : HProp) : Imp (sep F A) (sep F B) := by
  rw [sep_comm F A, sep_comm F B]; exact h.frame F
theorem Imp.drop (A F : HProp) : Imp (sep A F) A := fun _ _ _ s => s.drop
theorem Imp.drop_left (A F : HProp) : Imp (sep F A) A := by rw [sep_comm]; exact Imp.drop A F
theorem Imp.ex {X : Type} {F : X → HProp} (x : X) : Imp (F x) (hex F) := fun _ _ _ ⟨h, a, r⟩ => ⟨h, ⟨x, a⟩, r⟩
theorem St.ex {X : Type} {F : X → HProp} {A : HProp} {g w0 w} (s : St g w0 (sep (hex F) A) w) : ∃ x, St g w0 (sep (F x) A) w := by
  obtain ⟨h, ⟨h1, h2, d, e, ⟨x, hx⟩, ha⟩, r⟩ := s
  exact ⟨x, h, ⟨h1, h2, d, e, hx, ha⟩, r⟩
theorem St.pure {φ : Prop} {A : HProp} {g w0 w} (s : St g w0 (sep (hpure φ) A) w) : φ ∧ St g w0 A w := by
  obtain ⟨h, ⟨h1, h2, _, rfl, ⟨p, rfl⟩, ha⟩, d, f, r⟩ := s
  rw [emp_add] at d f
  exact ⟨p, h2, ha, d, f, r⟩
theorem St.pure_intro {φ : Prop} (p : φ) {A : HProp} {g w0 w} (s : St g w0 A w) : St g w0 (sep (hpure φ) A) w := by
  obtain ⟨h, ha, r⟩ := s
  exact ⟨h, ⟨View.emp, h, emp_disj h, (emp_add h).symm, ⟨p, rfl⟩, ha⟩, r⟩
theorem star_append (A B : List HProp) : star (A ++ B) = sep (star A) (star B) := by
  induction A with
  | nil => exact (emp_sep _).symm
  | cons x A ih => show sep x (star (A ++ B)) = _; rw [ih, ← sep_assoc]; rfl
theorem star_one (A : HProp) : star [A] = A := sep_emp A

/-! ### What a computation does, beside memory that stays as it is (q) -/
def Sub (q g : View) : Prop := ∀ b o, q b = some o → g b = some o
theorem Sub.refl (q : View) : Sub q q := fun _ _ h => h
theorem Sub.emp (g : View) : Sub View.emp g := fun _ _ h => by cases h
theorem Sub.add {q f g : View} (d : Disj f g) (h : Sub q g) : Sub q (f.add g) := fun b o e => by
  have e2 := h b o e
  rcases d b with e1 | e1
  · unfold View.add; rw [e1]; exact e2
  · rw [e1] at e2; cases e2
theorem St.old {q g : View} {w0 w : World} {A : HProp} (s : St g w0 A w) (hq : Sub q g) {b : Nat} {o : Obj} (e : q b = some o) : w.heap[b]? = some o := by
  obtain ⟨h, _, d, fit, _⟩ := s
  exact fit.right d b o (hq b o e)
/-- A call: it returns, and what R says stands behind it. -/
def CallT (P : Program) (q : View) (f : FuncId) (args : Array Value) (A : HProp) (R : Value → HProp) : Prop :=
  ∀ g w0 w, Sub q g → St g w0 A w → Calls P f args w fun e w' => ∃ v, e = .returned v ∧ St g w0 (R v) w'
theorem CallT.frame {P : Program} {q : View} {f : FuncId} {args : Array Value} {A : HProp} {R : Value → HProp} (h : CallT P q f args A R) (F : HProp) :
    CallT P q f args (sep A F) fun v => sep (R v) F := fun g w0 w hq s => by
  obtain ⟨x, hf, d, s1⟩ := s.split
  exact (h _ _ _ (hq.add d) s1).mono fun e w' ⟨v, he, s2⟩ => ⟨v, he, s2.join hf d⟩
theorem CallT.conseq {P : Program} {q : View} {f : FuncId} {args : Array Value} {A A' : HProp} {R R' : Value → HProp} (h : CallT P q f args A R) (ha : Imp A' A) (hk : ∀ v, Imp (R v) (R' v)) :
    CallT P q f args A' R' := fun g w0 w hq s => (h _ _ _ hq (ha _ _ _ s)).mono fun _ _ ⟨v, he, s2⟩ => ⟨v, he, hk v _ _ _ s2⟩
theorem CallT.mono {P : Program} {q q' : View} {f : FuncId} {args : Array Value} {A : HProp} {R : Value → HProp} (h : CallT P q f args A R) (hs : Sub q q') : CallT P q' f args A R :=
  fun g w0 w hq s => h g w0 w (fun b o e => hq b o (hs b o e)) s
/-- A contract of the kit's kind (it computes, what stood before stands) is a contract on no memory. -/
theorem CallT.of_below {P : Program} {q : View} {f : FuncId} {args : Array Value} {v : Value} (h : ∀ w, Calls P f args w fun e w' => e = .returned v ∧ Below w.heap.size w w') :
    CallT P q f args hemp fun u => hpure (u = v) := fun g w0 w _ ⟨h0, he, d, fit, evo⟩ => (h w).mono fun e w' ⟨h1, hb⟩ => by
  subst he
  refine ⟨v, h1, View.emp, ⟨rfl, rfl⟩, d, fun b o e => ?_, evo.trans ⟨hb.os, hb.tape, hb.output, hb.size⟩⟩
  rw [hb.block b (fit.lt e)]; exact fit b o e
end Go.Proofs.Ytkmdajbhkfneaaa.VL
