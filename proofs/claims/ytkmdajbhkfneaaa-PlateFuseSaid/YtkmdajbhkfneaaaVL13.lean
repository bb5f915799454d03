/- Parts of memory: fetched, opened, shut. Contracts in the form that a call asks. -/
import Derived.Test.YtkmdajbhkfneaaaVL12
set_option linter.unusedVariables false
set_option linter.unusedSimpArgs false
namespace Go.Proofs.Ytkmdajbhkfneaaa.VL
open Go.RowKit View

inductive Pull : List HProp → HProp → List HProp → Prop
  | head {X : HProp} {l : List HProp} : Pull (X :: l) X l
  | tail {X Z : HProp} {l r : List HProp} : Pull l X r → Pull (Z :: l) X (Z :: r)
theorem Pull.out {A L : List HProp} {X : HProp} (h : Pull A X L) : star A = sep X (star L) := by
  induction h with
  | head => rfl
  | @tail X Z l r _ ih => show sep Z (star l) = sep X (sep Z (star r)); rw [ih, sep_left_comm]
theorem imp_nil {A : HProp} : Imp A (star []) := fun g w0 w s => by
  have : St g w0 (sep hemp A) w := by rw [emp_sep]; exact s
  exact this.drop
theorem imp_pick {A L B : List HProp} {X : HProp} (h : Pull A X L) (k : Imp (star L) (star B)) : Imp (star A) (star (X :: B)) := by
  rw [h.out]; exact k.frame_left X
theorem imp_pure {A : HProp} {B : List HProp} {φ : Prop} (p : φ) (k : Imp A (star B)) : Imp A (star (hpure φ :: B)) := fun g w0 w s => (k g w0 w s).pure_intro p
theorem imp_ex {X : Type} {A : HProp} {B : List HProp} {F : X → HProp} (x : X) (k : Imp A (star (F x :: B))) : Imp A (star (hex F :: B)) := k.trans ((Imp.ex x).frame _)
theorem imp_star {A : HProp} {B l : List HProp} (k : Imp A (star (l ++ B))) : Imp A (star (star l :: B)) := by
  rw [star_append] at k; exact k
theorem imp_sep {A : HProp} {B : List HProp} {X Y : HProp} (k : Imp A (star (X :: Y :: B))) : Imp A (star (sep X Y :: B)) := by
  have e : star (sep X Y :: B) = star (X :: Y :: B) := sep_assoc _ _ _
  rw [e]; exact k
theorem imp_of_star {A B : List HProp} (k : Imp (star A) (star B)) : Imp (star A) (star B) := k
theorem imp_one {A : HProp} {B : HProp} (k : Imp A (star [B])) : Imp A B := by rw [star_one] at k; exact k
section
variable {P : Program} {q : View} {fn : Func} {R : Value → HProp} {k : List It} {σ : Facts} {A L l : List HProp} {X Y : HProp}
theorem run_pull (h : Pull A X L) (hk : Run P q fn R k σ (X :: L)) : Run P q fn R k σ A := hk.imp (by rw [h.out]; exact Imp.refl _)
theorem run_hex {Z : Type} {F : Z → HProp} (hk : ∀ x, Run P q fn R k σ (F x :: A)) : Run P q fn R k σ (hex F :: A) := fun g w0 a w hq hσ s => by
  obtain ⟨x, s1⟩ := s.ex
  exact hk x g w0 a w hq hσ s1
theorem run_hpure {φ : Prop} (hk : φ → Run P q fn R k σ A) : Run P q fn R k σ (hpure φ :: A) := fun g w0 a w hq hσ s => by
  obtain ⟨p, s1⟩ := s.pure
  exact hk p g w0 a w hq hσ s1
theorem run_star (hk : Run P q fn R k σ (l ++ A)) : Run P q fn R k σ (star l :: A) := hk.imp (by rw [star_append]; exact Imp.refl _)
theorem run_sep (hk : Run P q fn R k σ (X :: Y :: A)) : Run P q fn R k σ (sep X Y :: A) := hk.imp (by
  have e : star (sep X Y :: A) = star (X :: Y :: A) := sep_assoc _ _ _
  rw [e]; exact Imp.refl _)
theorem run_drop (hk : Run P q fn R k σ A) : Run P q fn R k σ (X :: A) := hk.imp (Imp.drop_left _ _)
/-- A slice with an element is no nil. -/
theorem run_sl_open {p : Option Addr} {n cap : Nat} {t : TypeId} {kk : Nat} {xs : List Value} (h0 : 0 < n)
    (hk : ∀ b spare, p = some ⟨b, 0, none⟩ → n * kk = xs.length → cap * kk = xs.length + spare.length → n ≤ cap → Run P q fn R k σ (cells b t ⟨xs ++ spare⟩ :: A)) :
    Run P q fn R k σ (sl p n cap t kk xs :: A) := fun g w0 a w hq hσ s => by
  rcases s.sl_open with ⟨_, h, _⟩ | ⟨b, spare, h1, h2, h3, h4, s1⟩
  · omega
  · exact hk b spare h1 h2 h3 h4 g w0 a w hq hσ s1
theorem run_sl_facts {p : Option Addr} {n cap : Nat} {t : TypeId} {kk : Nat} {xs : List Value}
    (hk : n * kk = xs.length → n ≤ cap → Run P q fn R k σ (sl p n cap t kk xs :: A)) : Run P q fn R k σ (sl p n cap t kk xs :: A) := fun g w0 a w hq hσ s => by
  rcases s.sl_open with ⟨h1, h2, h3, h4, _⟩ | ⟨b, spare, h1, h2, h3, h4, s1⟩
  · exact hk (by rw [h2, h4]; simp) (by omega) g w0 a w hq hσ s
  · exact hk h2 h4 g w0 a w hq hσ s
theorem imp_sl_shut {b n cap : Nat} {t : TypeId} {kk : Nat} {xs spare : List Value} {B : List HProp} {F : HProp} (h1 : n * kk = xs.length) (h2 : cap * kk = xs.length + spare.length) (h3 : n ≤ cap) (hi : Imp F (star (cells b t ⟨xs ++ spare⟩ :: B))) :
    Imp F (star (sl (some ⟨b, 0, none⟩) n cap t kk xs :: B)) := fun g w0 w s => (hi g w0 w s).sl_shut h1 h2 h3
theorem imp_sl_nil {t : TypeId} {kk : Nat} {B : List HProp} {F : HProp} (hi : Imp F (star B)) : Imp F (star (sl none 0 0 t kk [] :: B)) := fun g w0 w s => (hi g w0 w s).sl_nil t kk
end

/-- A function's contract: what it asks of memory, and for some x its value and what stands behind it. -/
def FnX (P : Program) (q : View) (f : FuncId) (args : List Value) (B : List HProp) {X : Type} (v : X → Value) (D : X → List HProp) : Prop :=
  Callable P f ∧ CallT P q f ⟨args⟩ (star B) fun u => hex fun x => sep (hpure (u = v x)) (star (D x))
def FnD (P : Program) (q : View) (f : FuncId) (args : List Value) (B : List HProp) (v : Value) (D : List HProp) : Prop := FnX P q f args B (fun _ : Unit => v) fun _ => D
def RX {X : Type} (v : X → Value) (D : X → List HProp) : Value → HProp := fun u => hex fun x => sep (hpure (u = v x)) (star (D x))
def RD (v : Value) (D : List HProp) : Value → HProp := RX (fun _ : Unit => v) fun _ => D
section
variable {P : Program} {q : View} {T : Nat → Option TyI} {fn : Func} {R : Value → HProp} {k : List It} {σ : Facts} {A L : List HProp}
theorem FnX.of_run {f : FuncId} {c : Code} {args : List Value} {B : List HProp} {X : Type} {v : X → Value} {D : X → List HProp} (hc : Callable P f) (hf : P.funcs[f]? = some fn) (hb : fn.body = some c) (σ : Facts) (hz : args.length ≤ fn.ntmps)
    (hσ : ∀ p ∈ σ, args[p.1]? = some p.2) (h : Run P q fn (RX v D) [.code c] σ B) : FnX P q f args B v D :=
  ⟨hc, CallT.of_run hf hb σ (by simpa using hz) (fun p hp => by simpa using hσ p hp) h⟩
theorem FnD.of_run {f : FuncId} {c : Code} {args : List Value} {B : List HProp} {v : Value} {D : List HProp} (hc : Callable P f) (hf : P.funcs[f]? = some fn) (hb : fn.body = some c) (σ : Facts) (hz : args.length ≤ fn.ntmps)
    (hσ : ∀ p ∈ σ, args[p.1]? = some p.2) (h : Run P q fn (RD v D) [.code c] σ B) : FnD P q f args B v D := FnX.of_run hc hf hb σ hz hσ h
theorem imp_RX {X : Type} {v : X → Value} {D : X → List HProp} {u : Value} (x : X) (e : u = v x) (h : Imp (star A) (star (D x))) : Imp (star A) (RX v D u) :=
  fun g w0 w s => Imp.ex (F := fun x => sep (hpure (u = v x)) (star (D x))) x g w0 w ((h g w0 w s).pure_intro e)
theorem imp_RD {v : Value} {D : List HProp} {u : Value} (e : u = v) (h : Imp (star A) (star D)) : Imp (star A) (RD v D u) := imp_RX () e h
/-- A list of parts taken out of another. -/
inductive Pulls : List HProp → List HProp → List HProp → Prop
  | nil {A : List HProp} : Pulls A [] A
  | cons {A B L L' : List HProp} {X : HProp} : Pull A X L → Pulls L B L' → Pulls A (X :: B) L'
theorem Pulls.out {A B L : List HProp} (h : Pulls A B L) : star A = sep (star B) (star L) := by
  induction h with
  | nil => exact (emp_sep _).symm
  | @cons A B L L' X h1 _ ih => rw [h1.out, ih, ← sep_assoc]; rfl
def appL : List HProp → List HProp → Option (List HProp)
  | [], L => some L
  | x :: xs, L => match appL xs L with
    | some r => some (x :: r)
    | none => none
theorem appL_eq : ∀ (D L r : List HProp), appL D L = some r → r = D ++ L := by
  intro D
  induction D with
  | nil => intro L r h; cases h; rfl
  | cons x D ih =>
    intro L r h
    unfold appL at h
    cases e : appL D L with
    | none => rw [e] at h; cases h
    | some z => rw [e] at h; cases h; rw [ih _ _ e]; rfl
theorem run_callx {ds : List (Option Tmp)} {o : SOp} {os : List SOp} {c : Call} {f : FuncId} {vs : List Value} {B : List HProp} {X : Type} {v : X → Value} {D : X → List HProp} {σ' : X → Facts}
    (ho : o.op = .call c) (hg : guardOf σ ds o.guard = some true) (hv : calleeV σ c = some (f, vs)) (h : FnX P q f vs B v D) (hA : Pulls A B L)
    (hp : ∀ x, putF fn.ntmps o.dst (v x) σ = some (σ' x)) {A' : X → List HProp} (hD : ∀ x, appL (D x) L = some (A' x)) (hk : ∀ x, Run P q fn R (.ops ds os :: k) (σ' x) (A' x)) : Run P q fn R (.ops ds (o :: os) :: k) σ A :=
  run_call (L := L) ho hg hv h.1 h.2 (by rw [hA.out]; exact Imp.refl _) hp fun x => by rw [← appL_eq _ _ _ (hD x)]; exact hk x
theorem run_calld {ds : List (Option Tmp)} {o : SOp} {os : List SOp} {c : Call} {f : FuncId} {vs : List Value} {B : List HProp} {v : Value} {D : List HProp} {σ' : Facts}
    (ho : o.op = .call c) (hg : guardOf σ ds o.guard = some true) (hv : calleeV σ c = some (f, vs)) (h : FnD P q f vs B v D) (hA : Pulls A B L)
    (hp : putF fn.ntmps o.dst v σ = some σ') {A' : List HProp} (hD : appL D L = some A') (hk : Run P q fn R (.ops ds os :: k) σ' A') : Run P q fn R (.ops ds (o :: os) :: k) σ A :=
  run_callx ho hg hv h hA (fun _ => hp) (fun _ => hD) fun _ => hk
/-- A contract of the kit's kind. -/
theorem FnD.of_below {f : FuncId} {args : List Value} {v : Value} (hc : Callable P f) (h : ∀ w, Calls P f ⟨args⟩ w fun e w' => e = .returned v ∧ Below w.heap.size w w') : FnD P q f args [] v [] :=
  ⟨hc, (CallT.of_below h).conseq (Imp.refl _) fun u g w0 w s => by
    refine Imp.ex (F := fun _ : Unit => sep (hpure (u = v)) (star [])) () g w0 w ?_
    have e : sep (hpure (u = v)) (star []) = hpure (u = v) := sep_emp _
    rw [e]; exact s⟩
theorem run_look {ds : List (Option Tmp)} {o : SOp} {os : List SOp} {v : Value} {σ' : Facts} (hg : guardOf σ ds o.guard = some true) (h : OpQ P q fn.ntmps σ o.op A v) (hp : putF fn.ntmps o.dst v σ = some σ') (hk : Run P q fn R (.ops ds os :: k) σ' A) :
    Run P q fn R (.ops ds (o :: os) :: k) σ A := run_op hg h.opd hp hk
section
variable {f : HProp → List HProp} {ds : List (Option Tmp)} {os : List SOp} {dst : Option Tmp} {type : TypeId} {gd : Option (Nat × Bool)} {σ' : Facts}
theorem w_load {t : Nat} {x : Operand} {b i : Nat} {ti : TyI} {tc : TypeId} {l : List Value} {v : Value} (hT : TabOk P T) (hg : guardOf σ ds gd = some true) (hx : ev σ x = some (.pointer (some ⟨b, i, none⟩))) (ht : T t = some ti) (ha : isAggD ti.und = false)
    (hA : At A (cells b tc ⟨l⟩) f) (hc : nthV l i = some v) (hp : putF fn.ntmps dst v σ = some σ') (hk : Run P q fn R (.ops ds os :: k) σ' A) : Run P q fn R (.ops ds (⟨dst, .load t x, type, gd⟩ :: os) :: k) σ A :=
  run_op hg (opl_load hT hx ht ha hA hc).opd hp hk
theorem w_load_agg {t : Nat} {x : Operand} {b i : Nat} {ti : TyI} {tc : TypeId} {l vs : List Value} (hT : TabOk P T) (hg : guardOf σ ds gd = some true) (hx : ev σ x = some (.pointer (some ⟨b, i, none⟩))) (ht : T t = some ti) (ha : isAggD ti.und = true)
    (hA : At A (cells b tc ⟨l⟩) f) (hc : dropTake i ti.size l = some vs) (hp : putF fn.ntmps dst (.agg ⟨vs⟩) σ = some σ') (hk : Run P q fn R (.ops ds os :: k) σ' A) : Run P q fn R (.ops ds (⟨dst, .load t x, type, gd⟩ :: os) :: k) σ A :=
  run_op hg (opl_load_agg hT hx ht ha hA hc).opd hp hk
theorem w_store {t : Nat} {x y : Operand} {b i : Nat} {ti : TyI} {tc : TypeId} {l l' vs : List Value} {v : Value} (hT : TabOk P T) (hg : guardOf σ ds gd = some true) (hx : ev σ x = some (.pointer (some ⟨b, i, none⟩))) (hy : ev σ y = some v) (ht : T t = some ti)
    (hv : cellsL v = some vs) (hz : vs.length = ti.size) (h1 : vs.all one1 = true) (h0 : vs.isEmpty = false) (hA : At A (cells b tc ⟨l⟩) f) (hp : putAll i vs l [] = some l') (hq : putF fn.ntmps dst undef σ = some σ')
    (hk : Run P q fn R (.ops ds os :: k) σ' (f (cells b tc ⟨l'⟩))) : Run P q fn R (.ops ds (⟨dst, .store t x y, type, gd⟩ :: os) :: k) σ A :=
  run_op hg (opl_store hT hx hy ht hA hv hz h1 hp h0) hq hk
/-- A store where the cells are no list that can be gone through. -/
theorem w_store_set {t : Nat} {x y : Operand} {b i : Nat} {ti : TyI} {tc : TypeId} {l : List Value} {v : Value} (hT : TabOk P T) (hg : guardOf σ ds gd = some true) (hx : ev σ x = some (.pointer (some ⟨b, i, none⟩))) (hy : ev σ y = some v) (ht : T t = some ti)
    (hv : cellsL v = some [v]) (hz : ti.size = 1) (h1 : one1 v = true) (hA : At A (cells b tc ⟨l⟩) f) (hi : i < l.length) (hq : putF fn.ntmps dst undef σ = some σ')
    (hk : Run P q fn R (.ops ds os :: k) σ' (f (cells b tc ⟨l.set i v⟩))) : Run P q fn R (.ops ds (⟨dst, .store t x y, type, gd⟩ :: os) :: k) σ A := by
  have ec := cellsL_eq hv
  have := op_store (P := P) (q := q) (n := fn.ntmps) hT hx hy ht hA (by rw [ec, hz]; rfl) (by rw [ec]; simp [h1]) (by rw [hz]; simpa using Nat.succ_le_of_lt hi)
  rw [ec] at this
  have e : writes ⟨l⟩ i (#[v] : Array Value).toList = ⟨l.set i v⟩ := by
    show (⟨l⟩ : Array Value).setIfInBounds i v = _
    apply Array.ext'; simp
  rw [show ({ toList := [v] } : Array Value).toList = (#[v] : Array Value).toList from rfl, e] at this
  exact run_op hg this hq hk
/-- A load where the cells are no list that can be gone through. -/
theorem w_load_at {t : Nat} {x : Operand} {b i : Nat} {ti : TyI} {tc : TypeId} {l : List Value} {v : Value} (hT : TabOk P T) (hg : guardOf σ ds gd = some true) (hx : ev σ x = some (.pointer (some ⟨b, i, none⟩))) (ht : T t = some ti) (ha : isAggD ti.und = false)
    (hA : At A (cells b tc ⟨l⟩) f) (hc : l[i]? = some v) (hp : putF fn.ntmps dst v σ = some σ') (hk : Run P q fn R (.ops ds os :: k) σ' A) : Run P q fn R (.ops ds (⟨dst, .load t x, type, gd⟩ :: os) :: k) σ A :=
  run_op hg (op_load hT hx ht ha hA (by simpa using hc)).opd hp hk
theorem w_load_agg_at {t : Nat} {x : Operand} {b i m : Nat} {ti : TyI} {tc : TypeId} {l vs : List Value} (hT : TabOk P T) (hg : guardOf σ ds gd = some true) (hx : ev σ x = some (.pointer (some ⟨b, i, none⟩))) (ht : T t = some ti) (ha : isAggD ti.und = true) (hm : ti.size = m)
    (hA : At A (cells b tc ⟨l⟩) f) (hc : (l.drop i).take m = vs) (hle : i + m ≤ l.length) (hp : putF fn.ntmps dst (.agg ⟨vs⟩) σ = some σ') (hk : Run P q fn R (.ops ds os :: k) σ' A) : Run P q fn R (.ops ds (⟨dst, .load t x, type, gd⟩ :: os) :: k) σ A := by
  have := op_load_agg (P := P) (q := q) (n := fn.ntmps) hT hx ht ha hA (by rw [hm]; simpa using hle)
  have e : (⟨l⟩ : Array Value).extract i (i + ti.size) = ⟨vs⟩ := by
    apply Array.ext'
    rw [Array.toList_extract, List.extract_eq_take_drop, hm, ← hc, show i + m - i = m from by omega]
  rw [e] at this
  exact run_op hg this.opd hp hk
theorem w_alloc {t : Nat} {ti : TyI} {z : Value} {l : List Value} {σ' : Nat → Facts} (hT : TabOk P T) (hg : guardOf σ ds gd = some true) (ht : T t = some ti) (hz : ti.zero = some z) (hl : cellsL z = some l) (hp : ∀ r, putF fn.ntmps dst (.pointer (some ⟨r, 0, none⟩)) σ = some (σ' r))
    (hk : ∀ r, Run P q fn R (.ops ds os :: k) (σ' r) (cells r t ⟨l⟩ :: A)) : Run P q fn R (.ops ds (⟨dst, .alloc t, type, gd⟩ :: os) :: k) σ A := run_opx hg (opl_alloc hT ht hz hl) hp hk
theorem w_box {t : Nat} {x : Operand} {v : Value} {l : List Value} {σ' : Nat → Facts} (hg : guardOf σ ds gd = some true) (hx : ev σ x = some v) (hl : cellsL v = some l) (hp : ∀ r, putF fn.ntmps dst (.pointer (some ⟨r, 0, none⟩)) σ = some (σ' r))
    (hk : ∀ r, Run P q fn R (.ops ds os :: k) (σ' r) (cells r t ⟨l⟩ :: A)) : Run P q fn R (.ops ds (⟨dst, .box t x, type, gd⟩ :: os) :: k) σ A := run_opx hg (opl_box hx hl) hp hk
end
end
end Go.Proofs.Ytkmdajbhkfneaaa.VL
