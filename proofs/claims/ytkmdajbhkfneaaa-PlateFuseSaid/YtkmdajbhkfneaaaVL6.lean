/- The steps of a walk: operations without memory, all at once; one operation; a call. -/
import Derived.Test.YtkmdajbhkfneaaaVL5
set_option linter.unusedVariables false
set_option linter.unusedSimpArgs false
namespace Go.Proofs.Ytkmdajbhkfneaaa.VL
open Go.RowKit View

def nthD (ds : List (Option Tmp)) (j : Nat) : Option Tmp :=
  match ds, j with
  | d :: _, 0 => d
  | _ :: ds, j + 1 => nthD ds j
  | [], _ => none
theorem nthD_eq (ds : List (Option Tmp)) (j : Nat) : nthD ds j = (ds[j]?).bind id := by
  induction ds generalizing j with
  | nil => cases j <;> rfl
  | cons d ds ih => cases j with
    | zero => rfl
    | succ j => simpa [nthD] using ih j
def guardOf (σ : Facts) (ds : List (Option Tmp)) (g : Option (Nat × Bool)) : Option Bool :=
  match g with
  | none => some true
  | some (j, want) => match nthD ds j with
    | none => none
    | some t => match lookup σ t, want with
      | some (.bool true), true => some true
      | some (.bool true), false => some false
      | some (.bool false), true => some false
      | some (.bool false), false => some true
      | _, _ => none
theorem lookup_lt {n : Nat} {σ : Facts} {a : Act} (h : Holds n σ a) {t : Nat} {b : Bool} (e : lookup σ t = some (.bool b)) : a.tmps[t]? = some (.bool b) := by
  have := h.all _ (lookup_mem e)
  simp only [Array.getD_eq_getD_getElem?] at this
  cases ht : a.tmps[t]? with
  | none => rw [ht] at this; cases this
  | some v => rw [ht] at this; exact congrArg some this
theorem guardOf_eq {n : Nat} {σ : Facts} {a : Act} (h : Holds n σ a) {ds : List (Option Tmp)} {o : Oper} {b : Bool} (e : guardOf σ ds o.guard = some b) : wantedL ds a o = b := by
  unfold wantedL
  unfold guardOf at e
  cases hg : o.guard with
  | none => rw [hg] at e; exact Option.some.inj e
  | some g =>
    obtain ⟨j, want⟩ := g
    rw [hg] at e
    simp only at e
    unfold yieldedL
    dsimp only
    rw [← nthD_eq]
    cases ht : nthD ds j with
    | none => rw [ht] at e; cases e
    | some t =>
      rw [ht] at e
      simp only [Option.bind_some] at e ⊢
      cases hl : lookup σ t with
      | none => rw [hl] at e; cases e
      | some v =>
        rw [hl] at e
        cases v <;> first | (cases want <;> cases e; done) | skip
        rename_i c
        rw [lookup_lt h hl]
        cases c <;> cases want <;> first | cases e | skip
        all_goals rfl
def pure1 (T : Nat → Option TyI) (n : Nat) (ds : List (Option Tmp)) (o : SOp) (σ : Facts) : Option Facts :=
  match guardOf σ ds o.guard with
  | some true => match pureV T σ o.op with
    | some v => putF n o.dst v σ
    | none => none
  | some false => putF n o.dst undef σ
  | none => none
def pureMany (T : Nat → Option TyI) (n : Nat) (ds : List (Option Tmp)) : List SOp → Facts → Option (List SOp × Facts)
  | [], σ => some ([], σ)
  | o :: os, σ => match pure1 T n ds o σ with
    | some σ' => pureMany T n ds os σ'
    | none => some (o :: os, σ)

section
variable {P : Program} {q : View} {T : Nat → Option TyI} {fn : Func} {R : Value → HProp} {k : List It} {σ σ' : Facts} {A A' : List HProp} {ds : List (Option Tmp)} {o : SOp} {os os' : List SOp}
theorem wp_value {a : Act} {w w' : World} {v : Value} {next : Act → World → Prop} {Q : Exit → Act → World → Prop} (h : (execOp a.eval o.oper).run P w = .ok (.value v) w') (hn : next (a.put o.dst v) w') : o.oper.wp P a w next Q := by
  unfold Oper.wp; rw [h]; exact hn
theorem pure1_wp (hT : TabOk P T) {n : Nat} {a : Act} (hσ : Holds n σ a) (h : pure1 T n ds o σ = some σ') {Q : Exit → Act → World → Prop} {w : World}
    (hn : ∀ a', Holds n σ' a' → wpL P ds Q (os.map SOp.oper) a' w) : wpL P ds Q ((o :: os).map SOp.oper) a w := by
  unfold pure1 at h
  rw [List.map_cons]
  unfold wpL
  cases hg : guardOf σ ds o.guard with
  | none => rw [hg] at h; cases h
  | some b =>
    rw [hg] at h
    rw [guardOf_eq (o := o.oper) hσ hg]
    cases b with
    | false => exact hn _ (hσ.put h)
    | true =>
      simp only at h
      cases hv : pureV T σ o.op with
      | none => rw [hv] at h; cases h
      | some v =>
        rw [hv] at h
        exact wp_value (pureV_run hT hσ (o := o.oper) hv w) (hn _ (hσ.put h))
theorem pureMany_wp (hT : TabOk P T) {n : Nat} {Q : Exit → Act → World → Prop} {w : World} : ∀ (os : List SOp) (σ σ' : Facts) (os' : List SOp) (a : Act), Holds n σ a → pureMany T n ds os σ = some (os', σ') →
    (∀ a', Holds n σ' a' → wpL P ds Q (os'.map SOp.oper) a' w) → wpL P ds Q (os.map SOp.oper) a w := by
  intro os
  induction os with
  | nil => intro σ σ' os' a hσ h hn; cases h; exact hn a hσ
  | cons o os ih =>
    intro σ σ' os' a hσ h hn
    unfold pureMany at h
    cases h1 : pure1 T n ds o σ with
    | none => rw [h1] at h; cases h; exact hn a hσ
    | some σ1 =>
      rw [h1] at h
      exact pure1_wp hT hσ h1 fun a' h' => ih σ1 σ' os' a' h' h hn
theorem run_pure (hT : TabOk P T) {σ1 : Facts} (h1 : pure1 T fn.ntmps ds o σ = some σ1) (h2 : pureMany T fn.ntmps ds os σ1 = some (os', σ')) (h : Run P q fn R (.ops ds os' :: k) σ' A) :
    Run P q fn R (.ops ds (o :: os) :: k) σ A := fun g w0 a w hq hσ s =>
  pure1_wp hT hσ h1 fun a' h' => pureMany_wp hT os σ1 σ' os' a' h' h2 fun a2 hσ2 => h g w0 a2 w hq hσ2 s
theorem Holds.same {n : Nat} {σ σ' : Facts} {a : Act} {t : Nat} {v : Value} (h : Holds n σ a) (hv : a.tmps.getD t undef = v) (e : putF n (some t) v σ = some σ') : Holds n σ' a := by
  refine ⟨h.defers, h.size, fun p hp => ?_⟩
  unfold putF at e
  simp only at e
  cases hb : Nat.blt t n with
  | false => rw [hb] at e; cases e
  | true =>
    rw [hb] at e
    rcases putAcc_mem e p hp with h1 | ⟨h1, h2⟩
    · simp only [List.mem_singleton] at h1
      subst h1; exact hv
    · exact h.all p h1
theorem run_pure1 (hT : TabOk P T) (h1 : pure1 T fn.ntmps ds o σ = some σ') (h : Run P q fn R (.ops ds os :: k) σ' A) : Run P q fn R (.ops ds (o :: os) :: k) σ A := fun g w0 a w hq hσ s =>
  pure1_wp hT hσ h1 fun a' h' => h g w0 a' w hq h' s
/-- A guard that hangs on what is not known: both ways. -/
theorem run_split {j t : Nat} {want b : Bool} {σ1 σ0 : Facts} (hg : o.guard = some (j, want)) (ht : nthD ds j = some t) (hl : lookup σ t = some (.bool b)) (h1 : putF fn.ntmps (some t) (.bool true) σ = some σ1) (h0 : putF fn.ntmps (some t) (.bool false) σ = some σ0)
    (k1 : b = true → Run P q fn R (.ops ds (o :: os) :: k) σ1 A) (k0 : b = false → Run P q fn R (.ops ds (o :: os) :: k) σ0 A) : Run P q fn R (.ops ds (o :: os) :: k) σ A := fun g w0 a w hq hσ s => by
  have hv : a.tmps.getD t undef = .bool b := hσ.all _ (lookup_mem hl)
  cases b with
  | true => exact k1 rfl g w0 a w hq (hσ.same hv h1) s
  | false => exact k0 rfl g w0 a w hq (hσ.same hv h0) s
theorem run_split_dec {j t : Nat} {want : Bool} {φ : Prop} [Decidable φ] {σ1 σ0 : Facts} (hg : o.guard = some (j, want)) (ht : nthD ds j = some t) (hl : lookup σ t = some (.bool (decide φ))) (h1 : putF fn.ntmps (some t) (.bool true) σ = some σ1) (h0 : putF fn.ntmps (some t) (.bool false) σ = some σ0)
    (k1 : φ → Run P q fn R (.ops ds (o :: os) :: k) σ1 A) (k0 : ¬φ → Run P q fn R (.ops ds (o :: os) :: k) σ0 A) : Run P q fn R (.ops ds (o :: os) :: k) σ A :=
  run_split hg ht hl h1 h0 (fun h => k1 (of_decide_eq_true h)) fun h => k0 (of_decide_eq_false h)
/-- One operation with a value and with memory. -/
def OpX (P : Program) (q : View) (n : Nat) (σ : Facts) (op : Op) (A : HProp) {X : Type} (v : X → Value) (B : X → List HProp) : Prop :=
  ∀ (a : Act) (o : Oper), Holds n σ a → o.op = op → ∀ g w0 w, Sub q g → St g w0 A w → ∃ w' x, ((execOp a.eval o).run P w = .ok (.value (v x)) w' ∨ ((execOp a.eval o).run P w = .ok .skip w' ∧ v x = undef)) ∧ St g w0 (star (B x)) w'
def OpD (P : Program) (q : View) (n : Nat) (σ : Facts) (op : Op) (A : HProp) (v : Value) (B : List HProp) : Prop := OpX P q n σ op A (fun _ : Unit => v) fun _ => B
theorem wpL_true {a : Act} (hσ : Holds fn.ntmps σ a) (hg : guardOf σ ds o.guard = some true) {Q : Exit → Act → World → Prop} {w : World} (h : o.oper.wp P a w (wpL P ds Q (os.map SOp.oper)) Q) : wpL P ds Q ((o :: os).map SOp.oper) a w := by
  rw [List.map_cons]; unfold wpL; rw [guardOf_eq (o := o.oper) hσ hg]; exact h
theorem run_opx {X : Type} {v : X → Value} {B : X → List HProp} {σ' : X → Facts} (hg : guardOf σ ds o.guard = some true) (h : OpX P q fn.ntmps σ o.op (star A) v B) (hp : ∀ x, putF fn.ntmps o.dst (v x) σ = some (σ' x))
    (hk : ∀ x, Run P q fn R (.ops ds os :: k) (σ' x) (B x)) : Run P q fn R (.ops ds (o :: os) :: k) σ A := fun g w0 a w hq hσ s => by
  refine wpL_true hσ hg ?_
  obtain ⟨w', x, hr, s'⟩ := h a o.oper hσ rfl g w0 w hq s
  have := hk x g w0 _ w' hq (hσ.put (hp x)) s'
  unfold Oper.wp
  rcases hr with hr | ⟨hr, hu⟩
  · rw [hr]; exact this
  · rw [hr]; rw [hu] at this; exact this
theorem run_op {v : Value} {B : List HProp} (hg : guardOf σ ds o.guard = some true) (h : OpD P q fn.ntmps σ o.op (star A) v B) (hp : putF fn.ntmps o.dst v σ = some σ')
    (hk : Run P q fn R (.ops ds os :: k) σ' B) : Run P q fn R (.ops ds (o :: os) :: k) σ A := run_opx hg h (fun _ => hp) fun _ => hk

/-! ### A call -/
def Callable (P : Program) (f : FuncId) : Prop := ∀ (args : Array Value) (w : World), (callFunc f args).run P w = .ok (.enter f args) w
theorem callFunc_run {f : FuncId} (hc : Callable P f) (args : Array Value) (w : World) : (callFunc f args).run P w = .ok (.enter f args) w := hc args w
/-- Whom a call calls, with what. -/
def calleeV (σ : Facts) (c : Call) : Option (FuncId × List Value) :=
  match c.callee with
  | .value x => match ev σ x, evs σ c.args.toList [] with
    | some (.func (.func f) ⟨first⟩ ⟨captured⟩), some vs => match first, captured with
      | [], [] => some (f, vs)
      | first, captured => some (f, first ++ vs ++ captured)
    | _, _ => none
  | _ => none
theorem calleeV_run {n : Nat} {a : Act} (hσ : Holds n σ a) {c : Call} {f : FuncId} {vs : List Value} (h : calleeV σ c = some (f, vs)) (hc : Callable P f) (o : Oper) (ho : o.op = .call c) (w : World) :
    (execOp a.eval o).run P w = .ok (.enter f vs.toArray) w := by
  obtain ⟨dst, op, type, pos, after, guard⟩ := o
  obtain rfl : op = .call c := ho
  unfold calleeV at h
  obtain ⟨callee, args, argTypes⟩ := c
  obtain ⟨args⟩ := args
  cases callee with
  | invoke r m => cases h
  | builtin b => cases h
  | value x =>
    simp only at h
    split at h
    · rename_i d1 d2 f' first captured vs' hx hv
      have key : (f', first ++ vs' ++ captured) = (f, vs) := by
        split at h
        · have := Option.some.inj h; simpa using this
        · exact Option.some.inj h
      obtain ⟨rfl, rfl⟩ := Prod.mk.inj key
      have e := evs_eq hσ hv
      simp only [execOp, resolve]
      rw [Sem.run_bind]
      simp only [hσ.ev hx, Deferred.ofValue, Sem.run_pure, Result.andThen, invoke]
      rw [callFunc_run hc]
      simp [e]
    · cases h
theorem run_call {c : Call} {f : FuncId} {vs : List Value} {B : HProp} {L : List HProp} {X : Type} {v : X → Value} {D : X → List HProp} {σ' : X → Facts}
    (ho : o.op = .call c) (hg : guardOf σ ds o.guard = some true) (hv : calleeV σ c = some (f, vs)) (hc : Callable P f)
    (h : CallT P q f vs.toArray B fun u => hex fun x => sep (hpure (u = v x)) (star (D x))) (hA : Imp (star A) (sep B (star L)))
    (hp : ∀ x, putF fn.ntmps o.dst (v x) σ = some (σ' x))
    (hk : ∀ x, Run P q fn R (.ops ds os :: k) (σ' x) (D x ++ L)) : Run P q fn R (.ops ds (o :: os) :: k) σ A := fun g w0 a w hq hσ s => by
  refine wpL_true hσ hg ?_
  unfold Oper.wp
  rw [calleeV_run hσ hv hc o.oper ho]
  refine (h.frame (star L) g w0 w hq (hA _ _ _ s)).mono ?_
  rintro e w' ⟨u, rfl, s'⟩
  obtain ⟨x, s1⟩ := s'.ex
  rw [sep_assoc] at s1
  obtain ⟨rfl, s2⟩ := s1.pure
  exact hk x g w0 _ w' hq (hσ.put (hp x)) (by rw [star_append]; exact s2)
/-- A call of a function that only reckons. -/
theorem run_call0 {c : Call} {f : FuncId} {vs : List Value} {u : Value}
    (ho : o.op = .call c) (hg : guardOf σ ds o.guard = some true) (hv : calleeV σ c = some (f, vs)) (hc : Callable P f)
    (h : CallT P q f vs.toArray hemp fun z => hpure (z = u)) (hp : putF fn.ntmps o.dst u σ = some σ') (hk : Run P q fn R (.ops ds os :: k) σ' A) : Run P q fn R (.ops ds (o :: os) :: k) σ A :=
  run_call (v := fun _ : Unit => u) (D := fun _ => []) (L := A) (B := hemp) ho hg hv hc
    (h.conseq (Imp.refl _) fun z g w0 w s => by
      have e : sep (hpure (z = u)) (star []) = hpure (z = u) := sep_emp _
      refine Imp.ex (F := fun _ : Unit => sep (hpure (z = u)) (star [])) () g w0 w ?_
      rw [e]; exact s)
    (by rw [emp_sep]; exact Imp.refl _) (fun _ => hp) fun _ => hk
end
end Go.Proofs.Ytkmdajbhkfneaaa.VL
