/- Contracts: a frame, other words for the same, the kit's form of a contract. -/
import Derived.Test.YtkmdajbhkfneaaaVL15
set_option maxRecDepth 10000
set_option linter.unusedVariables false
namespace Go.Proofs.Ytkmdajbhkfneaaa.VL
open View RowKit
section
variable {P : Program} {q : View} {f : FuncId} {args : List Value} {B D : List HProp} {v : Value}
theorem FnX.conseq {X : Type} {u : X → Value} {D D' : X → List HProp} {B' : List HProp} (h : FnX P q f args B u D) (hB : Imp (star B') (star B)) (hD : ∀ x, Imp (star (D x)) (star (D' x))) : FnX P q f args B' u D' :=
  ⟨h.1, h.2.conseq hB fun z g w0 w s => by
    obtain ⟨hh, ⟨x, hx⟩, r⟩ := s
    have s2 : St g w0 (sep (hpure (z = u x)) (star (D x))) w := ⟨hh, hx, r⟩
    obtain ⟨e, s3⟩ := s2.pure
    exact Imp.ex (F := fun x => sep (hpure (z = u x)) (star (D' x))) x g w0 w ((hD x g w0 w s3).pure_intro e)⟩
theorem FnD.conseq {B' D' : List HProp} (h : FnD P q f args B v D) (hB : Imp (star B') (star B)) (hD : Imp (star D) (star D')) : FnD P q f args B' v D' := FnX.conseq h hB fun _ => hD
theorem FnX.frame {X : Type} {u : X → Value} {D : X → List HProp} (h : FnX P q f args B u D) (F : List HProp) : FnX P q f args (B ++ F) u fun x => D x ++ F :=
  ⟨h.1, (h.2.frame (star F)).conseq (by rw [star_append]; exact Imp.refl _) fun z g w0 w s => by
    obtain ⟨x, s2⟩ := s.ex
    rw [sep_assoc] at s2
    obtain ⟨e, s3⟩ := s2.pure
    exact Imp.ex (F := fun x => sep (hpure (z = u x)) (star (D x ++ F))) x g w0 w (by rw [star_append]; exact s3.pure_intro e)⟩
theorem FnD.frame (h : FnD P q f args B v D) (F : List HProp) : FnD P q f args (B ++ F) v (D ++ F) := FnX.frame h F
theorem FnX.hex {X Y : Type} [Inhabited Y] {F : Y → HProp} {u : X → Value} {D : X → List HProp} (h : ∀ y, FnX P q f args (F y :: B) u D) : FnX P q f args (hex F :: B) u D :=
  ⟨(h default).1, fun g w0 w hq s => by
    obtain ⟨y, s2⟩ := St.ex (F := F) s
    exact (h y).2 g w0 w hq s2⟩
theorem FnX.pure {X : Type} {φ : Prop} {u : X → Value} {D : X → List HProp} (hc : Callable P f) (h : φ → FnX P q f args B u D) : FnX P q f args (hpure φ :: B) u D :=
  ⟨hc, fun g w0 w hq s => by obtain ⟨e, s2⟩ := s.pure; exact (h e).2 g w0 w hq s2⟩
theorem FnX.mono {X : Type} {q' : View} {u : X → Value} {D : X → List HProp} (h : FnX P q f args B u D) (hs : Sub q q') : FnX P q' f args B u D := ⟨h.1, h.2.mono hs⟩
theorem FnD.mono {q' : View} (h : FnD P q f args B v D) (hs : Sub q q') : FnD P q' f args B v D := FnX.mono h hs
end
section
variable {P : Program} {q : View} {fn : Func} {R : Value → HProp} {k : List It} {σ : Facts} {A : List HProp}
/-- A loop, by what holds of its state. -/
theorem run_loopI {X : Type} {body : Code} (I : X → Prop) (F : X → Facts) (B : X → List HProp) (μ : X → Nat) (x0 : X) (i0 : I x0) (h0 : ∀ p ∈ F x0, p ∈ σ) (hA : Imp (star A) (star (B x0)))
    (round : ∀ x, I x → Run P q fn R (.code body :: .stop (fun g w0 a w => ∃ x', (I x' ∧ μ x' < μ x) ∧ Holds fn.ntmps (F x') a ∧ St g w0 (star (B x')) w) :: k) (F x) (B x)) :
    Run P q fn R (.code (.loop body) :: k) σ A := fun g w0 a w hq hσ s => by
  refine wp_loop_ghost (fun n a w => ∃ x, (I x ∧ μ x = n) ∧ Holds fn.ntmps (F x) a ∧ St g w0 (star (B x)) w) (μ x0) ⟨x0, ⟨i0, rfl⟩, hσ.sub h0, hA _ _ _ s⟩ ?_
  rintro n a w ⟨x, ⟨hi, rfl⟩, hf, hs⟩
  refine wp_mono (round x hi g w0 a w hq hf hs) ?_
  intro e a w he
  cases e with
  | normal => obtain ⟨x', hl, h1, h2⟩ := he; exact ⟨μ x', hl.2, x', ⟨hl.1, rfl⟩, h1, h2⟩
  | _ => exact he
end
theorem facts_nil {σ : Facts} : ∀ p ∈ ([] : Facts), p ∈ σ := fun _ h => by cases h
theorem facts_cons {σ F : Facts} {d : Nat} {v : Value} (h : lookup σ d = some v) (k : ∀ p ∈ F, p ∈ σ) : ∀ p ∈ (d, v) :: F, p ∈ σ := fun p hp => by
  rcases List.mem_cons.1 hp with rfl | hp
  · exact lookup_mem h
  · exact k p hp
/-- All of a world's memory. -/
def allV (w : World) : View := fun b => w.heap[b]?
theorem calls_of_FnX {P : Program} {f : FuncId} {args : List Value} {X : Type} {u : X → Value} {D : X → List HProp} {w : World} (h : FnX P (allV w) f args [] u D) :
    Calls P f ⟨args⟩ w fun e w' => (∃ x, e = .returned (u x)) ∧ Below w.heap.size w w' := by
  have s : St (allV w) w (star []) w := ⟨View.emp, rfl, emp_disj _, by rw [emp_add]; exact fun b o e => e, Evo.refl w⟩
  refine (h.2 (allV w) w w (Sub.refl _) s).mono ?_
  rintro e w' ⟨z, he, hh, ⟨x, hx⟩, d, fit, evo⟩
  have s2 : St (allV w) w (sep (hpure (z = u x)) (star (D x))) w' := ⟨hh, hx, d, fit, evo⟩
  obtain ⟨rfl, h2, _, d, fit, evo⟩ := s2.pure
  refine ⟨⟨x, he⟩, ?_⟩
  have hd := Fits.right d fit
  exact ⟨evo.os, evo.tape, evo.output, evo.size, fun k hk => by
    have e : allV w k = some w.heap[k] := Array.getElem?_eq_getElem hk
    rw [hd k _ e]; exact e.symm⟩
theorem calls_of_FnD {P : Program} {f : FuncId} {args : List Value} {v : Value} {D : List HProp} {w : World} (h : FnD P (allV w) f args [] v D) :
    Calls P f ⟨args⟩ w fun e w' => e = .returned v ∧ Below w.heap.size w w' :=
  (calls_of_FnX h).mono fun _ _ ⟨⟨_, e⟩, hb⟩ => ⟨e, hb⟩
end Go.Proofs.Ytkmdajbhkfneaaa.VL
