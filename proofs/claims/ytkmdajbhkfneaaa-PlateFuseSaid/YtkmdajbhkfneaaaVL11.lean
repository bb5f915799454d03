/- A region whose order is drawn: what only looks goes first, beside a part S of memory that nobody in the region writes. -/
import Derived.Test.YtkmdajbhkfneaaaVL10
import Derived.KernelRfl
set_option linter.unusedVariables false
set_option linter.unusedSimpArgs false
namespace Go.Proofs.Ytkmdajbhkfneaaa.VL
open Go.RowKit View

def nthG (l : List Oper) (i : Nat) : Option Oper :=
  match l, i with
  | v :: _, 0 => some v
  | _ :: l, i + 1 => nthG l i
  | [], _ => none
theorem nthG_eq (l : List Oper) (i : Nat) : nthG l i = l[i]? := by
  induction l generalizing i with
  | nil => cases i <;> rfl
  | cons v l ih => cases i with
    | zero => rfl
    | succ i => simpa [nthG] using ih i
theorem nthG_arr {ops : Array Oper} {i : Nat} {o : Oper} (h : nthG ops.toList i = some o) : ops[i]? = some o := by rw [nthG_eq] at h; simpa using h
def SW (g hS : View) (w : World) : Prop := Fits (hS.add g) w
/-- Whatever order is drawn from here on. -/
def RunA (P : Program) (q : View) (fn : Func) (R : Value → HProp) (k : List It) (ops : Array Oper) (m : Nat) (listed : Array Bool) (S : List HProp) (σ : Facts) (A : List HProp) : Prop :=
  ∀ hS g w0 a w, star S hS → Disj hS g → Sub q g → Holds fn.ntmps σ a → St g w0 (sep (eqv hS) (star A)) w → wpAnyH P .any ops (Post P fn R g w0 k) (SW g hS) m listed a w
section
variable {P : Program} {q : View} {T : Nat → Option TyI} {fn : Func} {R : Value → HProp} {k : List It} {σ σ' : Facts} {A A' S : List HProp} {ops : Array Oper} {m i : Nat} {listed : Array Bool} {o : Oper}
theorem St.sw {g : View} {w0 w : World} {hS : View} {F : HProp} (s : St g w0 (sep (eqv hS) F) w) : SW g hS w := by
  have s1 := s.drop
  obtain ⟨h, e, d, fit, _⟩ := s1
  have e : h = hS := e
  subst e; exact fit
theorem run_draw {id : Nat} (hM : P.follows .mixedOrders = true) (hA : Imp (star A) (sep (star S) (star A'))) (h : RunA P q fn R k ops ops.size (Array.replicate ops.size false) S σ A') :
    Run P q fn R (.code (.region id ops true) :: k) σ A := fun g w0 a w hq hσ s => by
  obtain ⟨hh, ⟨x, y, d, e, hs, ha⟩, dg, fit, evo⟩ := hA _ _ _ s
  refine wp_region_held (S := SW g x) hM ?_
  subst e
  exact h x g w0 a _ hs (disj_add.1 dg).1 hq hσ (St.drawn ⟨_, ⟨x, y, d, rfl, rfl, ha⟩, dg, fit, evo⟩ _)
theorem any_done (hr : Region.ready .any ops listed = []) (h : Run P q fn R k σ (S ++ A)) : RunA P q fn R k ops m listed S σ A := fun hS g w0 a w hs d hq hσ s => by
  refine wpAnyH_done hr (h g w0 a w hq hσ ?_) m
  rw [star_append]
  obtain ⟨hh, ⟨x, y, d1, e, (e2 : x = hS), ha⟩, dg, fit, evo⟩ := s
  subst e2
  exact ⟨hh, ⟨x, y, d1, e, hs, ha⟩, dg, fit, evo⟩
theorem any_take {v : Value} (hi : ops[i]? = some o) (hn : Region.noSelect ops = true) (hf : Region.free .any ops listed i = true) (hr : (Region.ready .any ops listed).contains i = true)
    (hy : ∀ hS g a, star S hS → Disj hS g → Sub q g → Holds fn.ntmps σ a → YieldsIf P ops (SW g hS) o v a) (hp : putF fn.ntmps o.dst v σ = some σ')
    (h : RunA P q fn R k ops m (listed.setIfInBounds i true) S σ' A) : RunA P q fn R k ops (m + 1) listed S σ A := fun hS g w0 a w hs d hq hσ s =>
  wpAnyH_take hi hn hf hr (fun c a w hc => absurd hc (Post_panic _ _ _ _)) (hy hS g a hs d hq hσ) s.sw (h hS g w0 _ w hs d hq (hσ.put hp) s)
theorem guardOf_region {n : Nat} {a : Act} (h : Holds n σ a) {b : Bool} (e : guardOf σ (ops.toList.map (·.dst)) o.guard = some b) : Region.wanted o (yielded ops a.tmps) = b := by
  rw [← wantedL_eq]; exact guardOf_eq h e
theorem any_pure (i : Nat) (hT : TabOk P T) (hi : ops[i]? = some o) (hn : Region.noSelect ops = true) (hf : Region.free .any ops listed i = true) (hr : (Region.ready .any ops listed).contains i = true)
    (h1 : pure1 T fn.ntmps (ops.toList.map (·.dst)) (slim o) σ = some σ') (h : RunA P q fn R k ops m (listed.setIfInBounds i true) S σ' A) : RunA P q fn R k ops (m + 1) listed S σ A := by
  unfold pure1 slim at h1
  simp only at h1
  cases hg : guardOf σ (ops.toList.map (·.dst)) o.guard with
  | none => rw [hg] at h1; cases h1
  | some b =>
    rw [hg] at h1
    cases b with
    | false => exact any_take hi hn hf hr (fun hS g a _ _ _ hσ => .inr ⟨guardOf_region hσ hg, rfl⟩) h1 h
    | true =>
      simp only at h1
      cases hv : pureV T σ o.op with
      | none => rw [hv] at h1; cases h1
      | some v =>
        rw [hv] at h1
        exact any_take hi hn hf hr (fun hS g a _ _ _ hσ => .inl ⟨guardOf_region hσ hg, fun w _ => pureV_run hT hσ hv w⟩) h1 h
theorem any_look (i : Nat) {v : Value} (hi : ops[i]? = some o) (hn : Region.noSelect ops = true) (hf : Region.free .any ops listed i = true) (hr : (Region.ready .any ops listed).contains i = true)
    (hg : guardOf σ (ops.toList.map (·.dst)) o.guard = some true) (hx : OpQ P q fn.ntmps σ o.op S v) (hp : putF fn.ntmps o.dst v σ = some σ')
    (h : RunA P q fn R k ops m (listed.setIfInBounds i true) S σ' A) : RunA P q fn R k ops (m + 1) listed S σ A :=
  any_take hi hn hf hr (fun hS g a hs d hq hσ => .inl ⟨guardOf_region hσ hg, fun w hw => hx a o hσ rfl g w w hq ⟨hS, hs, d, hw, Evo.refl w⟩⟩) hp h
/-- One that acts, the only one that may come up. -/
theorem any_op1 (i : Nat) {X : Type} {v : X → Value} {B : X → List HProp} {σ' : X → Facts} (hi : ops[i]? = some o) (hr : Region.ready .any ops listed = [i]) (hg : guardOf σ (ops.toList.map (·.dst)) o.guard = some true)
    (hx : OpX P q fn.ntmps σ o.op (star A) v B) (hp : ∀ x, putF fn.ntmps o.dst (v x) σ = some (σ' x)) (h : ∀ x, RunA P q fn R k ops m (listed.setIfInBounds i true) S (σ' x) (B x)) :
    RunA P q fn R k ops (m + 1) listed S σ A := fun hS g w0 a w hs d hq hσ s => by
  refine wpAnyH_all hr (by simp) fun j hj => ?_
  obtain rfl : j = i := by simpa using hj
  unfold wpOp
  rw [hi]
  simp only [guardOf_region hσ hg, if_true]
  left
  rw [sep_comm] at s
  obtain ⟨x, hx1, d1, s1⟩ := s.split
  have hx1 : x = hS := hx1
  subst hx1
  obtain ⟨w', y, hrun, s2⟩ := hx a o hσ rfl _ _ w (hq.add d1) s1
  have s3 := s2.join (F := eqv x) rfl d1
  rw [sep_comm] at s3
  have fin := h y x g w0 _ w' hs d hq (hσ.put (hp y)) s3
  unfold Oper.wp
  rcases hrun with hrun | ⟨hrun, hu⟩
  · rw [hrun]; exact ⟨s3.sw, fin⟩
  · rw [hrun]; rw [hu] at fin; exact ⟨s3.sw, fin⟩
theorem any_call1 (i : Nat) {c : Call} {f : FuncId} {vs : List Value} {B : HProp} {L : List HProp} {X : Type} {v : X → Value} {D : X → List HProp} {σ' : X → Facts}
    (hi : ops[i]? = some o) (hr : Region.ready .any ops listed = [i]) (ho : o.op = .call c) (hg : guardOf σ (ops.toList.map (·.dst)) o.guard = some true) (hv : calleeV σ c = some (f, vs)) (hc : Callable P f)
    (hx : CallT P q f vs.toArray B fun u => hex fun x => sep (hpure (u = v x)) (star (D x))) (hA : Imp (star A) (sep B (star L)))
    (hp : ∀ x, putF fn.ntmps o.dst (v x) σ = some (σ' x)) (h : ∀ x, RunA P q fn R k ops m (listed.setIfInBounds i true) S (σ' x) (D x ++ L)) :
    RunA P q fn R k ops (m + 1) listed S σ A := fun hS g w0 a w hs d hq hσ s => by
  refine wpAnyH_all hr (by simp) fun j hj => ?_
  obtain rfl : j = i := by simpa using hj
  unfold wpOp
  rw [hi]
  simp only [guardOf_region hσ hg, if_true]
  left
  rw [sep_comm] at s
  obtain ⟨x, hx1, d1, s1⟩ := s.split
  have hx1 : x = hS := hx1
  subst hx1
  unfold Oper.wp
  rw [calleeV_run hσ hv hc o ho]
  refine (hx.frame (star L) _ w0 w (hq.add d1) (hA _ _ _ s1)).mono ?_
  rintro e w' ⟨u, rfl, s'⟩
  obtain ⟨y, s2⟩ := s'.ex
  rw [sep_assoc] at s2
  obtain ⟨rfl, s3⟩ := s2.pure
  have s4 := s3.join (F := eqv x) rfl d1
  rw [← star_append, sep_comm] at s4
  exact ⟨s4.sw, h y x g w0 _ w' hs d hq (hσ.put (hp y)) s4⟩
end
end Go.Proofs.Ytkmdajbhkfneaaa.VL
