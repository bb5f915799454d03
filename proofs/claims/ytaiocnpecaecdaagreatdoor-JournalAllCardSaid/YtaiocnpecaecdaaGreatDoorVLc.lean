/- Contracts: a frame, other words for the same, the kit's form of a contract. -/
import Derived.Test.YtaiocnpecaecdaaGreatDoorVLb
import Derived.Carry
import Derived.OpenShut
import Derived.ChangeOld
import Derived.Deep.Slices
import Derived.WideLaws
import Derived.MapKept
import Derived.Laws.StructEq
import Derived.ChangeKeysEq
import Derived.WideKeyRuns
import Derived.Lib.SmallJoins
import Derived.DeepKeys
import Derived.Lib.Builder
import Derived.Lib.UnsafeStr
import Derived.Laws.Externs
set_option maxRecDepth 10000
set_option linter.unusedVariables false
set_option linter.unusedSimpArgs false
namespace Go.Proofs.YtaiocnpecaecdaaGreatDoor.VL
open View RowKit
section
variable {P : Program} {q : View} {f : FuncId} {args : List Value} {B D : List HProp} {v : Value}
theorem FnX.frame {X : Type} {u : X → Value} {D : X → List HProp} (h : FnX P q f args B u D) (F : List HProp) : FnX P q f args (B ++ F) u fun x => D x ++ F :=
  ⟨h.1, (h.2.frame (star F)).conseq (by rw [star_append]; exact Imp.refl _) fun z g w0 w s => by
    obtain ⟨x, s2⟩ := s.ex
    rw [sep_assoc] at s2
    obtain ⟨e, s3⟩ := s2.pure
    exact Imp.ex (F := fun x => sep (hpure (z = u x)) (star (D x ++ F))) x g w0 w (by rw [star_append]; exact s3.pure_intro e)⟩
theorem FnD.frame (h : FnD P q f args B v D) (F : List HProp) : FnD P q f args (B ++ F) v (D ++ F) := FnX.frame h F
theorem FnX.hex {X Y : Type} [Inhabited Y] {F : Y → HProp} {u : X → Value} {D : X → List HProp} (h : ∀ y, FnX P q f args (F y :: B) u D) : FnX P q f args (hex F :: B) u D :=
  ⟨(h default).1, fun g w0 w hq s => by
    obtain ⟨y, s2⟩ := St.ex (F := F) s
    exact (h y).2 g w0 w hq s2⟩
theorem FnX.pure {X : Type} {φ : Prop} {u : X → Value} {D : X → List HProp} (hc : Callable P f) (h : φ → FnX P q f args B u D) : FnX P q f args (hpure φ :: B) u D :=
  ⟨hc, fun g w0 w hq s => by obtain ⟨e, s2⟩ := s.pure; exact (h e).2 g w0 w hq s2⟩
theorem FnX.mono {X : Type} {q' : View} {u : X → Value} {D : X → List HProp} (h : FnX P q f args B u D) (hs : Sub q q') : FnX P q' f args B u D := ⟨h.1, h.2.mono hs⟩
theorem FnD.mono {q' : View} (h : FnD P q f args B v D) (hs : Sub q q') : FnD P q' f args B v D := FnX.mono h hs
end
section
variable {P : Program} {q : View} {fn : Func} {R : Value → HProp} {k : List It} {σ : Facts} {A : List HProp}
/-- A loop, by what holds of its state. -/
theorem run_loopI {_ : DS} {X : Type} {body : Code} (I : X → Prop) (F : X → Facts) (B : X → List HProp) (μ : X → Nat) (x0 : X) (i0 : I x0) (h0 : ∀ p ∈ F x0, p ∈ σ) (hA : Imp (star A) (star (B x0)))
    (round : ∀ x, I x → Run P q fn R (.code body :: .stop (fun g w0 a w => ∃ x', (I x' ∧ μ x' < μ x) ∧ Holds fn.ntmps (F x') a ∧ St g w0 (star (B x')) w) :: k) (F x) (B x)) :
    Run P q fn R (.code (.loop body) :: k) σ A := fun g w0 a w hq hσ s => by
  refine wp_loop_ghost (fun n a w => ∃ x, (I x ∧ μ x = n) ∧ Holds fn.ntmps (F x) a ∧ St g w0 (star (B x)) w) (μ x0) ⟨x0, ⟨i0, rfl⟩, hσ.sub h0, hA _ _ _ s⟩ ?_
  rintro n a w ⟨x, ⟨hi, rfl⟩, hf, hs⟩
  refine wp_mono (round x hi g w0 a w hq hf hs) ?_
  intro e a w he
  cases e with
  | normal => obtain ⟨x', hl, h1, h2⟩ := he; exact ⟨μ x', hl.2, x', ⟨hl.1, rfl⟩, h1, h2⟩
  | _ => exact he
end
theorem facts_nil {σ : Facts} : ∀ p ∈ ([] : Facts), p ∈ σ := fun _ h => by cases h
theorem facts_cons {σ F : Facts} {d : Nat} {v : Value} (h : lookup σ d = some v) (k : ∀ p ∈ F, p ∈ σ) : ∀ p ∈ (d, v) :: F, p ∈ σ := fun p hp => by
  rcases List.mem_cons.1 hp with rfl | hp
  · exact lookup_mem h
  · exact k p hp
/-- All of a world's memory. -/
def allV (w : World) : View := fun b => w.heap[b]?
theorem calls_of_FnX {P : Program} {f : FuncId} {args : List Value} {X : Type} {u : X → Value} {D : X → List HProp} {w : World} (h : FnX P (allV w) f args [] u D) :
    Calls P f ⟨args⟩ w fun e w' => (∃ x, e = .returned (u x)) ∧ Below w.heap.size w w' := by
  have s : St (allV w) w (star []) w := ⟨View.emp, rfl, emp_disj _, by rw [emp_add]; exact fun b o e => e, Evo.refl w⟩
  refine (h.2 (allV w) w w (Sub.refl _) s).mono ?_
  rintro e w' ⟨z, he, hh, ⟨x, hx⟩, d, fit, evo⟩
  have s2 : St (allV w) w (sep (hpure (z = u x)) (star (D x))) w' := ⟨hh, hx, d, fit, evo⟩
  obtain ⟨rfl, h2, _, d, fit, evo⟩ := s2.pure
  refine ⟨⟨x, he⟩, ?_⟩
  have hd := Fits.right d fit
  exact ⟨evo.os, evo.tape, evo.output, evo.size, fun k hk => by
    have e : allV w k = some w.heap[k] := Array.getElem?_eq_getElem hk
    rw [hd k _ e]; exact e.symm⟩
theorem calls_of_FnD {P : Program} {f : FuncId} {args : List Value} {v : Value} {D : List HProp} {w : World} (h : FnD P (allV w) f args [] v D) :
    Calls P f ⟨args⟩ w fun e w' => e = .returned v ∧ Below w.heap.size w w' :=
  (calls_of_FnX h).mono fun _ _ ⟨⟨_, e⟩, hb⟩ => ⟨e, hb⟩
end Go.Proofs.YtaiocnpecaecdaaGreatDoor.VL
namespace Go.Proofs.YtaiocnpecaecdaaGreatDoor.VL
open View RowKit
def appV : List Value → List Value → Option (List Value)
  | [], b => some b
  | x :: a, b => match appV a b with
    | some r => some (x :: r)
    | none => none
theorem appV_eq : ∀ (a b r : List Value), appV a b = some r → r = a ++ b := by
  intro a
  induction a with
  | nil => intro b r h; cases h; rfl
  | cons x a ih =>
    intro b r h
    unfold appV at h
    cases e : appV a b with
    | none => rw [e] at h; cases h
    | some z => rw [e] at h; cases h; rw [ih _ _ e]; rfl
def flatL : List Value → Option (List Value)
  | [] => some []
  | v :: vs => match cellsL v, flatL vs with
    | some a, some b => appV a b
    | _, _ => none
theorem flatL_eq : ∀ (vs l : List Value), flatL vs = some l → flat vs = l := by
  intro vs
  induction vs with
  | nil => intro l h; cases h; rfl
  | cons v vs ih =>
    intro l h
    unfold flatL at h
    cases e : cellsL v with
    | none => rw [e] at h; cases h
    | some a =>
      cases e2 : flatL vs with
      | none => rw [e, e2] at h; cases h
      | some b =>
        rw [e, e2] at h
        rw [appV_eq _ _ _ h, ← ih _ e2, show flat (v :: vs) = v.cells.toList ++ flat vs from rfl, cellsL_eq e]
/-- So many times nothing, cell by cell. -/
def zeroL (z : Value) (n : Nat) : List Value := (Builtin.zeroCells z.cells n).toList
section
variable {P : Program} {q : View} {T : Nat → Option TyI} {fn : Func} {R : Value → HProp} {kt : List It} {σ : Facts} {A : List HProp} {f : HProp → List HProp} {dst : Option Tmp} {type : TypeId} {gd : Option (Nat × Bool)} {st : Bool} {md : Md} {ds : List (Option Tmp)} {os : List SOp}
theorem w_built {_ : DS} {t e len : Nat} {ps : List (Nat × Operand)} {ti ei : TyI} {z : Value} {vs l : List Value} (hT : TabOk P T) (hg : guardOf σ ds gd = some true) (ht : T t = some ti) (hu : ti.und = .slice e) (he : T e = some ei) (hz : ei.zero = some z) (hzs : z.cells.size = ei.size) (hps : partsV σ 0 ps [] = some vs) (hl : vs.length = len) (hf : flatL vs = some l) (hk : ∀ v ∈ vs, v.cells.size = ei.size) (hs : len * ei.size ≤ 16777216) {σ' : Nat → Facts} (hp : ∀ r : Nat, putF fn.ntmps dst (.slice (some ⟨r, 0, none⟩) len len) σ = some (σ' r)) (hkk : ∀ r : Nat, Run P q fn R (.ops (.mem false) ds os :: kt) (σ' r) (cells r e ⟨l⟩ :: A)) : Run P q fn R (.ops (.mem false) ds (⟨dst, (.buildSlice t len ⟨ps⟩), type, gd⟩ :: os) :: kt) σ A :=
  w_buildSlice hT hg ht hu he hz hzs hps hl hk hs hp (by rw [flatL_eq _ _ hf]; exact hkk)
theorem w_made {_ : DS} {t e : Nat} {x y : Operand} {ti ei : TyI} {z : Value} {j k : IntKind} {m c : Int} (hT : TabOk P T) (hg : guardOf σ ds gd = some true) (hx : ev σ x = some (.int j m)) (hy : ev σ y = some (.int k c)) (ht : T t = some ti) (hu : ti.und = .slice e) (he : T e = some ei) (hz : ei.zero = some z) (hzs : z.cells.size = ei.size) (h0 : 0 ≤ m) (h1 : m ≤ c) {kb lm lc : Nat} (hlm : m.toNat = lm) (hlc : c.toNat = lc) (hkb : ei.bytes = kb) (h2 : kb * c ≤ 281474976710656) (h3 : c ≤ 9223372036854775807) {σ' : Nat → Facts} (hp : ∀ r : Nat, putF fn.ntmps dst (.slice (some ⟨r, 0, none⟩) lm lc) σ = some (σ' r)) (hkk : ∀ r : Nat, Run P q fn R (.ops (.mem false) ds os :: kt) (σ' r) (cells r e ⟨zeroL z lc⟩ :: A)) : Run P q fn R (.ops (.mem false) ds (⟨dst, (.makeSlice t x y), type, gd⟩ :: os) :: kt) σ A := by
  subst hlm hlc
  exact w_makeSlice hT hg hx hy ht hu he hz hzs h0 h1 (by rw [hkb]; exact h2) h3 hp hkk
theorem zeroL_one (z : Value) (hz : z.cells = #[z]) (n : Nat) : zeroL z n = List.replicate n z := by
  unfold zeroL; rw [zeroCells_one z hz]
theorem w_app {_ : DS} {x y : Operand} {t e ty : Nat} {ti ei tyi : TyI} {z v : Value} {p : Option Addr} {len cap m size kb : Nat} {xs news : List Value} {σ' : Option Addr × Nat → Facts} (hT : TabOk P T) (hg : guardOf σ ds gd = some true)
    (hx : ev σ x = some (.slice p len cap)) (hy : ev σ y = some v) (ht : T t = some ti) (hu : ti.und = .slice e) (he : T e = some ei) (hty : T ty = some tyi) (hni : rowD tyi.und) (hz : ei.zero = some z) (hzs : z.cells.size = ei.size) (hs : ei.size = size) (hkb : ei.bytes = kb)
    (hA : At A (sl p len cap e size xs) f) (hr : ∀ g w0 w, Sub q g → St g w0 (star A) w → Reads P size m v news w) (hnl : news.length = m * size) (h1 : news.all one1 = true) (hxl : xs.length = len * size)
    (hb : (len + m) * kb ≤ 140737488355328) (h63 : len + m ≤ 9223372036854775807) (hp : ∀ r : Option Addr × Nat, putF fn.ntmps dst (.slice r.1 (len + m) r.2) σ = some (σ' r))
    (hkk : ∀ r : Option Addr × Nat, Run P q fn R (.ops (.mem false) ds os :: kt) (σ' r) (f (sl r.1 (len + m) r.2 e size (xs ++ news)))) :
    Run P q fn R (.ops (.mem false) ds (⟨dst, .call { callee := .builtin .append, args := ⟨[x, y]⟩, argTypes := ⟨[t, ty]⟩ }, type, gd⟩ :: os) :: kt) σ A :=
  w_append hT hg hx hy ht hu he hty hni hz hzs hA hs hr hnl h1 hxl (by rw [hkb]; exact hb) h63 hp hkk
theorem pureV_fieldat {t f b o off size : Nat} {x : Operand} (hx : ev σ x = some (.pointer (some ⟨b, o, none⟩))) (hf : fieldV T t f = some (off, size)) : pureV T σ (.fieldAddr t x f) = some (.pointer (some ⟨b, o + off, none⟩)) := by
  show (match fieldV T t f, ev σ x with
    | some (off, _), some (.pointer (some ⟨b, o, none⟩)) => match o with
      | 0 => some (Value.pointer (some ⟨b, off, none⟩))
      | o => some (.pointer (some ⟨b, o + off, none⟩))
    | _, _ => none) = _
  rw [hf, hx]
  cases o with
  | zero => simp
  | succ o => rfl
theorem w_fieldat {_ : DS} {t ff b o off size : Nat} {x : Operand} {σ' : Facts} (hT : TabOk P T) (hg : guardOf σ ds gd = some true) (hx : ev σ x = some (.pointer (some ⟨b, o, none⟩))) (hf : fieldV T t ff = some (off, size)) (hp : putF fn.ntmps dst (.pointer (some ⟨b, o + off, none⟩)) σ = some σ')
    (hkk : Run P q fn R (.ops md ds os :: kt) σ' A) : Run P q fn R (.ops md ds (⟨dst, .fieldAddr t x ff, type, gd⟩ :: os) :: kt) σ A := by
  refine run_pure1 hT ?_ hkk
  unfold pure1
  simp only [hg, pureV_fieldat hx hf, hp]
theorem a_fieldat {_ : DS} (ii : Nat) {t ff b o off size : Nat} {x : Operand} {S : List HProp} {ops : Array Oper} {mm : Nat} {listed : Array Bool} {pos : String} {after : Array Edge} {σ' : Facts} (hT : TabOk P T) (hi : nthG ops.toList ii = some ⟨dst, .fieldAddr t x ff, type, pos, after, gd⟩) (hn : Region.noSelect ops = true) (hfr : Region.free .any ops listed ii = true) (hr : (Region.ready .any ops listed).contains ii = true)
    (hg : guardOf σ (ops.toList.map (·.dst)) gd = some true) (hx : ev σ x = some (.pointer (some ⟨b, o, none⟩))) (hf : fieldV T t ff = some (off, size)) (hp : putF fn.ntmps dst (.pointer (some ⟨b, o + off, none⟩)) σ = some σ')
    (hkk : RunA P q fn R kt ops mm (listed.setIfInBounds ii true) S σ' A) : RunA P q fn R kt ops (mm + 1) listed S σ A := by
  refine any_pure ii hT (nthG_arr hi) hn hfr hr ?_ hkk
  unfold pure1 slim
  simp only [hg, pureV_fieldat hx hf, hp]
variable {S : List HProp} {ops : Array Oper} {mm : Nat} {listed : Array Bool} {pos : String} {after : Array Edge}
theorem a_made {_ : DS} (ii : Nat) {t e : Nat} {x y : Operand} {ti ei : TyI} {z : Value} {j k : IntKind} {m c : Int} (hT : TabOk P T) (zi : nthG ops.toList ii = some ⟨dst, .makeSlice t x y, type, pos, after, gd⟩) (zr : Region.ready .any ops listed = [ii]) (hg : guardOf σ (ops.toList.map (·.dst)) gd = some true) (hx : ev σ x = some (.int j m)) (hy : ev σ y = some (.int k c)) (ht : T t = some ti) (hu : ti.und = .slice e) (he : T e = some ei) (hz : ei.zero = some z) (hzs : z.cells.size = ei.size) (h0 : 0 ≤ m) (h1 : m ≤ c) {kb lm lc : Nat} (hlm : m.toNat = lm) (hlc : c.toNat = lc) (hkb : ei.bytes = kb) (h2 : kb * c ≤ 281474976710656) (h3 : c ≤ 9223372036854775807) {σ' : Nat → Facts} (hp : ∀ r : Nat, putF fn.ntmps dst (.slice (some ⟨r, 0, none⟩) lm lc) σ = some (σ' r)) (hkk : ∀ r : Nat, RunA P q fn R kt ops mm (listed.setIfInBounds ii true) S (σ' r) (cells r e ⟨zeroL z lc⟩ :: A)) : RunA P q fn R kt ops (mm + 1) listed S σ A := by
  subst hlm hlc
  exact any_op1 ii (nthG_arr zi) zr hg (op_makeSlice hT hx hy ht hu he hz hzs h0 h1 (by rw [hkb]; exact h2) h3) hp hkk
theorem a_box {_ : DS} (ii : Nat) {t : Nat} {x : Operand} {v : Value} {l : List Value} {σ' : Nat → Facts} (zi : nthG ops.toList ii = some ⟨dst, .box t x, type, pos, after, gd⟩) (zr : Region.ready .any ops listed = [ii]) (hg : guardOf σ (ops.toList.map (·.dst)) gd = some true) (hx : ev σ x = some v) (hl : cellsL v = some l) (hp : ∀ r, putF fn.ntmps dst (.pointer (some ⟨r, 0, none⟩)) σ = some (σ' r))
    (hk : ∀ r, RunA P q fn R kt ops mm (listed.setIfInBounds ii true) S (σ' r) (cells r t ⟨l⟩ :: A)) : RunA P q fn R kt ops (mm + 1) listed S σ A :=
  any_op1 ii (nthG_arr zi) zr hg (opl_box hx hl) hp hk
/-- Operation i of a region comes up next. -/
def RunO [DS] (P : Program) (q : View) (fn : Func) (R : Value → HProp) (k : List It) (ops : Array Oper) (m : Nat) (listed : Array Bool) (S : List HProp) (σ : Facts) (A : List HProp) (i : Nat) : Prop :=
  ∀ hS g w0 a w, star S hS → Disj hS g → Sub q g → Holds fn.ntmps σ a → St g w0 (sep (eqv hS) (star A)) w →
    wpOp P ops (Post P fn R g w0 k) i (fun a' w' => SW g hS w' ∧ wpAnyH P .any ops (Post P fn R g w0 k) (SW g hS) m (listed.setIfInBounds i true) a' w') a w
theorem any_each {_ : DS} {i : Nat} {rs : List Nat} (hr : Region.ready .any ops listed = i :: rs) (h : RunO P q fn R kt ops mm listed S σ A i) (h2 : ∀ j ∈ rs, RunO P q fn R kt ops mm listed S σ A j) : RunA P q fn R kt ops (mm + 1) listed S σ A := fun hS g w0 a w hs d hq hσ s =>
  wpAnyH_all hr (by simp) fun j hj => by
    rcases List.mem_cons.1 hj with rfl | hj
    · exact h hS g w0 a w hs d hq hσ s
    · exact h2 j hj hS g w0 a w hs d hq hσ s
theorem any_two {_ : DS} {i j : Nat} (hr : Region.ready .any ops listed = [i, j]) (h : RunO P q fn R kt ops mm listed S σ A i) (h2 : RunO P q fn R kt ops mm listed S σ A j) : RunA P q fn R kt ops (mm + 1) listed S σ A :=
  any_each hr h fun x hx => by obtain rfl : x = j := by simpa using hx
                               exact h2
theorem ro_op {_ : DS} (i : Nat) {o : Oper} {X : Type} {v : X → Value} {B : X → List HProp} {σ' : X → Facts} (hi : ops[i]? = some o) (hg : guardOf σ (ops.toList.map (·.dst)) o.guard = some true)
    (hx : OpX P q fn.ntmps σ o.op (star A) v B) (hp : ∀ x, putF fn.ntmps o.dst (v x) σ = some (σ' x)) (h : ∀ x, RunA P q fn R kt ops mm (listed.setIfInBounds i true) S (σ' x) (B x)) :
    RunO P q fn R kt ops mm listed S σ A i := fun hS g w0 a w hs d hq hσ s => by
  unfold wpOp
  rw [hi]
  simp only [guardOf_region hσ hg, if_true]
  left
  rw [sep_comm] at s
  obtain ⟨x, hx1, d1, s1⟩ := s.split
  have hx1 : x = hS := hx1
  subst hx1
  obtain ⟨w', y, hrun, s2⟩ := hx a o hσ rfl _ _ w (hq.add d1) s1
  have s3 := s2.join (F := eqv x) rfl d1
  rw [sep_comm] at s3
  have fin := h y x g w0 _ w' hs d hq (hσ.put (hp y)) s3
  unfold Oper.wp
  rcases hrun with hrun | ⟨hrun, hu⟩
  · rw [hrun]; exact ⟨s3.sw, fin⟩
  · rw [hrun]; rw [hu] at fin; exact ⟨s3.sw, fin⟩
theorem o_made {_ : DS} (ii : Nat) {t e : Nat} {x y : Operand} {ti ei : TyI} {z : Value} {j k : IntKind} {m c : Int} (hT : TabOk P T) (zi : nthG ops.toList ii = some ⟨dst, .makeSlice t x y, type, pos, after, gd⟩) (hg : guardOf σ (ops.toList.map (·.dst)) gd = some true) (hx : ev σ x = some (.int j m)) (hy : ev σ y = some (.int k c)) (ht : T t = some ti) (hu : ti.und = .slice e) (he : T e = some ei) (hz : ei.zero = some z) (hzs : z.cells.size = ei.size) (h0 : 0 ≤ m) (h1 : m ≤ c) {kb lm lc : Nat} (hlm : m.toNat = lm) (hlc : c.toNat = lc) (hkb : ei.bytes = kb) (h2 : kb * c ≤ 281474976710656) (h3 : c ≤ 9223372036854775807) {σ' : Nat → Facts} (hp : ∀ r : Nat, putF fn.ntmps dst (.slice (some ⟨r, 0, none⟩) lm lc) σ = some (σ' r)) (hkk : ∀ r : Nat, RunA P q fn R kt ops mm (listed.setIfInBounds ii true) S (σ' r) (cells r e ⟨zeroL z lc⟩ :: A)) : RunO P q fn R kt ops mm listed S σ A ii := by
  subst hlm hlc
  exact ro_op ii (nthG_arr zi) hg (op_makeSlice hT hx hy ht hu he hz hzs h0 h1 (by rw [hkb]; exact h2) h3) hp hkk
end
end Go.Proofs.YtaiocnpecaecdaaGreatDoor.VL
namespace Go.Proofs.YtaiocnpecaecdaaGreatDoor.VL
open View RowKit
/-- A slice of n elements of k cells each, in memory that stays as it is. -/
def RowQ (q : View) (p : Option Addr) (n k : Nat) (vs : List Value) : Prop :=
  vs.length = n * k ∧ (n = 0 ∨ ∃ b o c tc fr, p = some ⟨b, o, none⟩ ∧ q b = some (.cells c tc fr) ∧ ∀ i, i < n * k → c[o + i]? = vs[i]?)
theorem RowQ.open_ {q : View} {p : Option Addr} {n k : Nat} {vs : List Value} (h : RowQ q p n k vs) (hn : 0 < n) : ∃ b o c tc fr, p = some ⟨b, o, none⟩ ∧ q b = some (.cells c tc fr) ∧ ∀ i, i < n * k → c[o + i]? = vs[i]? := by
  rcases h.2 with h | h
  · omega
  · exact h
theorem RowQ.mono {q q' : View} {p : Option Addr} {n k : Nat} {vs : List Value} (h : RowQ q p n k vs) (s : Sub q q') : RowQ q' p n k vs :=
  ⟨h.1, h.2.imp id fun ⟨b, o, c, tc, fr, e, hb, hi⟩ => ⟨b, o, c, tc, fr, e, s _ _ hb, hi⟩⟩
theorem RowQ.nil {q : View} {p : Option Addr} {k : Nat} : RowQ q p 0 k [] := ⟨by simp, .inl rfl⟩
theorem cells_view {b t : Nat} {c : Array Value} {hX : View} (h : cells b t c hX) : ∃ fr, hX = View.one b (.cells c t fr) := by
  obtain ⟨fr, h1, h2, _, e, ⟨_, e1⟩, e2⟩ := h
  have e2 : h2 = View.one b (.cells c t fr) := e2
  exact ⟨fr, by rw [e, e1, e2]; rfl⟩
theorem RowQ.of_cells {q hX : View} {b t n k : Nat} {l : List Value} (h : cells b t ⟨l⟩ hX) (s : Sub hX q) (hl : l.length = n * k) : RowQ q (some ⟨b, 0, none⟩) n k l := by
  obtain ⟨fr, e⟩ := cells_view h
  refine ⟨hl, .inr ⟨b, 0, ⟨l⟩, t, fr, rfl, s _ _ (by rw [e]; unfold View.one; rw [if_pos rfl]), fun i hi => ?_⟩⟩
  simp
section
variable {P : Program} {q : View} {f : FuncId} {args : List Value} {B : List HProp} {v : Value}
/-- What is only read by a call is lent to it. -/
theorem FnX.lend {X : HProp} {Y : Type} {u : Y → Value} {D : Y → List HProp} (hc : Callable P f) (h : ∀ q' hX, X hX → Sub hX q' → Sub q q' → FnX P q' f args B u D) : FnX P q f args (X :: B) u fun y => X :: D y :=
  ⟨hc, fun g w0 w hq s => by
    have s : St g w0 (sep X (star B)) w := s
    rw [sep_comm] at s
    obtain ⟨x, hx, d, s1⟩ := s.split
    have hs : Sub x (x.add g) := fun b o e => by unfold View.add; rw [e]
    refine ((h (x.add g) x hx hs (hq.add d)).2 _ w0 w (Sub.refl _) s1).mono ?_
    rintro e w' ⟨z, he, s2⟩
    refine ⟨z, he, ?_⟩
    obtain ⟨hh, ⟨y, hy⟩, r⟩ := s2
    have s3 : St (x.add g) w0 (sep (hpure (z = u y)) (star (D y))) w' := ⟨hh, hy, r⟩
    have s4 := s3.join (F := X) hx d
    rw [sep_assoc] at s4
    obtain ⟨e2, s5⟩ := s4.pure
    rw [sep_comm] at s5
    exact Imp.ex (F := fun y => sep (hpure (z = u y)) (star (X :: D y))) y g w0 w' (s5.pure_intro e2)⟩
theorem FnD.lend {X : HProp} {D : List HProp} (hc : Callable P f) (h : ∀ q' hX, X hX → Sub hX q' → Sub q q' → FnD P q' f args B v D) : FnD P q f args (X :: B) v (X :: D) := FnX.lend hc h
section
variable {T : Nat → Option TyI} {fn : Func} {R : Value → HProp} {kt : List It} {σ : Facts} {A : List HProp} {ff : HProp → List HProp} {dst : Option Tmp} {type : TypeId} {gd : Option (Nat × Bool)} {st : Bool} {md : Md} {ds : List (Option Tmp)} {os : List SOp}
theorem w_idxo {_ : DS} {t e kk : Nat} (o' : Nat) {ti ei : TyI} {x y : Operand} {b o len cap : Nat} {k : IntKind} {i : Int} {σ' : Facts} (hT : TabOk P T) (hg : guardOf σ ds gd = some true) (hx : ev σ x = some (.slice (some ⟨b, o, none⟩) len cap)) (hy : ev σ y = some (.int k i)) (ht : T t = some ti) (hu : ti.und = .slice e) (he : T e = some ei) (hs : ei.size = kk) (h0 : 0 ≤ i) (h1 : i < len) (ho : o + i.toNat * kk = o')
    (hp : putF fn.ntmps dst (.pointer (some ⟨b, o', none⟩)) σ = some σ') (hkk : Run P q fn R (.ops md ds os :: kt) σ' A) : Run P q fn R (.ops md ds (⟨dst, (.indexAddr t x y), type, gd⟩ :: os) :: kt) σ A := by
  subst hs ho
  exact w_indexAddr hT hg hx hy ht hu he h0 h1 hp hkk
variable {S : List HProp} {ops : Array Oper} {mm : Nat} {listed : Array Bool} {pos : String} {after : Array Edge}
end
end
end Go.Proofs.YtaiocnpecaecdaaGreatDoor.VL
namespace Go.Proofs.YtaiocnpecaecdaaGreatDoor.VL
open View RowKit ChangeShapes WideShapes
section
variable {H : Type} {enc : TypeId × Value → H} {P : Program} {w : World} {sp : Nat → Bool} {held : Bool}
theorem block_of_cell {w : World} {a : Addr} {v : Value} (h : w.cell? a = some v) : ∃ b o c t fr, a = ⟨b, o, none⟩ ∧ w.heap[b]? = some (.cells c t fr) ∧ c[o]? = some v := by
  obtain ⟨b, o, spot⟩ := a
  unfold World.cell? at h
  cases e : w.heap[b]? with
  | none => rw [show (⟨b, o, spot⟩ : Addr).block = b from rfl, e] at h; cases h
  | some ob =>
    rw [show (⟨b, o, spot⟩ : Addr).block = b from rfl, e] at h
    cases ob with
    | cells c t fr =>
      cases spot with
      | none => exact ⟨b, o, c, t, fr, rfl, e, by simpa using h⟩
      | some s => simp at h
    | _ => cases h
theorem addr_add (b o i : Nat) : Addr.add ⟨b, o, none⟩ i = ⟨b, o + i, none⟩ := by
  unfold Addr.add
  split
  · rename_i h; subst h; rfl
  · rfl
/-- The elements of a slice that reads as data, each by what 'hx' says of its cells. -/
theorem rowq_of_trod {X : Type} (encX : X → List Value) (good : X → Prop) {t e k : Nat} (ht : P.underlying t = some (.slice e)) (hk : P.cellsOf e = k) (hk0 : 0 < k)
    (hx : ∀ (n : Nat) (cs : List Value) y, cs.length = k → DataW.trod enc P w 0 sp held n e cs = some y → ∃ x, good x ∧ cs = encX x)
    {fuel : Nat} {cs : List Value} {y : DataW H × List MemPlace} (h : DataW.trod enc P w 0 sp held fuel t cs = some y) :
    ∃ (p : Option Addr) (xs : List X) (cap : Nat), cs = [.slice p xs.length cap] ∧ (∀ x ∈ xs, good x) ∧ xs.length ≤ 9223372036854775807 ∧ (∀ x ∈ xs, (encX x).length = k) ∧ RowQ (allV w) p xs.length k (xs.flatMap encX) := by
  rcases Deep.open_slice ht h with ⟨h0, _⟩ | ⟨a, len, cap, m, n, D, Pl, hcs, hb, hl, hm, hmm, _, hi⟩
  · exact ⟨none, [], 0, h0, by simp, by simp, by simp, RowQ.nil⟩
  · have hlm : len ≤ m := by rw [hmm]; split <;> omega
    have each : ∀ i, i < len → ∃ x, good x ∧ (encX x).length = k ∧ ∀ j, j < k → w.cell? (a.add (i * k + j)) = (encX x)[j]? := by
      intro i hil
      obtain ⟨cs', hc, hd⟩ := hi i (by omega)
      obtain ⟨_, hlen, hat⟩ := World.cells?_some hc
      rw [hk] at hlen hat
      obtain ⟨x, gx, ex⟩ := hx n cs' _ hlen hd
      subst ex
      refine ⟨x, gx, hlen, fun j hj => ?_⟩
      have := hat j hj
      rw [Deep.add_add] at this
      exact this
    have hlist : ∀ l, l ≤ len → ∃ xs : List X, xs.length = l ∧ (∀ x ∈ xs, good x) ∧ (∀ x ∈ xs, (encX x).length = k) ∧ (xs.flatMap encX).length = l * k ∧ ∀ i, i < l * k → w.cell? (a.add i) = (xs.flatMap encX)[i]? := by
      intro l
      induction l with
      | zero => intro _; exact ⟨[], rfl, by simp, by simp, by simp, by simp⟩
      | succ l ih =>
        intro hle
        obtain ⟨xs, h1, h2, h3, h4, h5⟩ := ih (by omega)
        obtain ⟨x, gx, hxl, hcell⟩ := each l (by omega)
        refine ⟨xs ++ [x], by simp [h1], ?_, ?_, ?_, ?_⟩
        · intro y hy
          rcases List.mem_append.1 hy with hy | hy
          · exact h2 y hy
          · obtain rfl : y = x := by simpa using hy
            exact gx
        · intro y hy
          rcases List.mem_append.1 hy with hy | hy
          · exact h3 y hy
          · obtain rfl : y = x := by simpa using hy
            exact hxl
        · simp [List.flatMap_append, h4, hxl, Nat.add_mul]
        · intro i hil
          rw [List.flatMap_append]
          rcases Nat.lt_or_ge i (l * k) with h | h
          · rw [List.getElem?_append_left (by omega)]; exact h5 i h
          · rw [List.getElem?_append_right (by omega), h4]
            have hj : i - l * k < k := by rw [Nat.add_mul] at hil; omega
            have := hcell (i - l * k) hj
            rw [show l * k + (i - l * k) = i by omega] at this
            simpa using this
    obtain ⟨xs, h1, h2, h3, h4, h5⟩ := hlist len (Nat.le_refl _)
    subst h1
    refine ⟨some a, xs, cap, hcs, h2, by unfold maxLen at hm; omega, h3, h4, ?_⟩
    rcases Nat.eq_zero_or_pos xs.length with h0 | h0
    · exact .inl h0
    · right
      have hpos : 0 < xs.length * k := Nat.mul_pos h0 hk0
      have hc0 := h5 0 hpos
      rw [List.getElem?_eq_getElem (by omega)] at hc0
      obtain ⟨b, o, c, tc, fr, ea, hh, _⟩ := block_of_cell hc0
      have ea' : a = ⟨b, o, none⟩ := by
        obtain ⟨b1, o1, s1⟩ := a
        simpa [Addr.add] using ea
      refine ⟨b, o, c, tc, fr, by rw [ea'], hh, fun i hil => ?_⟩
      have := h5 i hil
      rw [ea'] at this
      rw [addr_add] at this
      unfold World.cell? at this
      rw [show (⟨b, o + i, none⟩ : Addr).block = b from rfl, hh] at this
      simpa using this
theorem bool_cells {t n : Nat} (ht : P.underlying t = some .bool) (cs : List Value) (y : DataW H × List MemPlace) (h : DataW.trod enc P w 0 sp held n t cs = some y) : ∃ x : Bool, True ∧ cs = [.bool x] := by
  obtain ⟨b, e, _⟩ := DataW.trod_bool ht h
  exact ⟨b, trivial, e⟩
theorem u8_wf {n : Int} (h : (Lit.int .u8 n).wf = true) : 0 ≤ n ∧ n ≤ 255 := by
  simp [Lit.wf, IntKind.min, IntKind.max, IntKind.signed, IntKind.bits] at h
  omega
theorem i64_wf {n : Int} (h : (Lit.int .i64 n).wf = true) : -9223372036854775808 ≤ n ∧ n ≤ 9223372036854775807 := by
  simp [Lit.wf, IntKind.min, IntKind.max, IntKind.signed, IntKind.bits] at h
  omega
theorem int_cells {t n : Nat} {k : IntKind} (ht : P.underlying t = some (.int k)) (cs : List Value) (y : DataW H × List MemPlace) (h : DataW.trod enc P w 0 sp held n t cs = some y) : ∃ x : Int, (Lit.int k x).wf = true ∧ cs = [.int k x] := by
  obtain ⟨b, e, _, hw⟩ := DataW.trod_int ht h
  exact ⟨b, hw, e⟩
/-- An argument that is a slice: its value. -/
theorem open_rowq {X : Type} (encX : X → List Value) (good : X → Prop) {t e k : Nat} {r : Reach} {b0 : Nat} {v : Value} {d : DataW H} {ps : List MemPlace} (ht : P.underlying t = some (.slice e)) (hk : P.cellsOf e = k) (hk0 : 0 < k)
    (hx : ∀ (n : Nat) (cs : List Value) y, cs.length = k → DataW.trod enc P w 0 sp held n e cs = some y → ∃ x, good x ∧ cs = encX x)
    (hval : Value.okWide P w r b0 t v) (h : DataW.Trod enc P w 0 sp held t v d ps) :
    ∃ (p : Option Addr) (xs : List X) (cap : Nat), v = .slice p xs.length cap ∧ (∀ x ∈ xs, good x) ∧ xs.length ≤ 9223372036854775807 ∧ (∀ x ∈ xs, (encX x).length = k) ∧ RowQ (allV w) p xs.length k (xs.flatMap encX) := by
  obtain ⟨a, len, cap, rfl⟩ := okWide_slice ht hval
  obtain ⟨fuel, hf⟩ := h
  obtain ⟨p, xs, c, e1, h2⟩ := rowq_of_trod encX good ht hk hk0 hx hf
  have e1 : [Value.slice a len cap] = [.slice p xs.length c] := e1
  exact ⟨p, xs, c, by simpa using e1, h2⟩
theorem args_again (hl : laidOutB P = true) {W W' : World} (hb : Below W.heap.size W W') : ∀ {ts : List TypeId} {vs : List Value} {ds : List (DataW H)} {ps : List MemPlace}, (∀ t ∈ ts, P.readableRec t = true ∧ t < P.types.size) →
    DataW.TrodAll enc P W 0 (fun _ => true) true ts vs ds ps → DataW.TrodAll enc P W' 0 (fun b => decide (b < W.heap.size)) true ts vs ds ps := by
  intro ts
  induction ts with
  | nil =>
    intro vs ds ps _ h
    obtain ⟨rfl, rfl, rfl⟩ := trodAll_nil h
    exact trodAll_mk0
  | cons t ts ih =>
    intro vs ds ps ht h
    have hlt := DataW.TrodAll.lt h
    obtain ⟨v0, vs0, d0, ds0, p0, q0, rfl, rfl, rfl, h0, r0⟩ := trodAll_cons h
    have h1 := ht t (by simp)
    exact trodAll_cons_mk (Below.trod hl h1.1 h1.2 h0 hb fun x hx => hlt x (List.mem_append.2 (.inl hx))) (ih (fun t' h' => ht t' (by simp [h'])) r0)
def encB (x : Bool) : List Value := [.bool x]
theorem rowq_map {X : Type} {f : X → Value} {q : View} {p : Option Addr} {n k : Nat} {xs : List X} (h : RowQ q p n k (xs.flatMap fun x => [f x])) : RowQ q p n k (xs.map f) := by
  have e : xs.flatMap (fun x => [f x]) = xs.map f := by
    clear h
    induction xs with
    | nil => rfl
    | cons x xs ih => rw [List.flatMap_cons, ih]; rfl
  rw [← e]; exact h
theorem rowq_b {q : View} {p : Option Addr} {n k : Nat} {xs : List Bool} (h : RowQ q p n k (xs.flatMap encB)) : RowQ q p n k (xs.map .bool) := rowq_map h
theorem args_all (hl : laidOutB P = true) {W W' : World} (hb : Below W.heap.size W W') {ts : List TypeId} {vs : List Value} {ds : List (DataW H)} {ps : List MemPlace} (ht : (ts.all fun t => P.readableRec t && decide (t < P.types.size)) = true)
    (h : DataW.TrodAll enc P W 0 (fun _ => true) true ts vs ds ps) : DataW.TrodAll enc P W' 0 (fun b => decide (b < W.heap.size)) true ts vs ds ps :=
  args_again hl hb (fun t h1 => by
    have := List.all_eq_true.1 ht t h1
    simpa using this) h
end
end Go.Proofs.YtaiocnpecaecdaaGreatDoor.VL
namespace Go.Proofs.YtaiocnpecaecdaaGreatDoor.VL
open View RowKit
section
variable {P : Program} {q : View} {T : Nat → Option TyI} {fn : Func} {R : Value → HProp} {kt : List It} {σ : Facts} {A S : List HProp} {dst : Option Tmp} {type : TypeId} {gd : Option (Nat × Bool)} {ops : Array Oper} {mm : Nat} {listed : Array Bool} {pos : String} {after : Array Edge}
theorem a_load_old {_ : DS} (ii : Nat) {t : Nat} {x : Operand} {b i : Nat} {ti : TyI} {tc : TypeId} {c : Array Value} {fr : Nat × Nat} {v : Value} {σ' : Facts} (hT : TabOk P T) (hi : nthG ops.toList ii = some ⟨dst, .load t x, type, pos, after, gd⟩) (hn : Region.noSelect ops = true) (hf : Region.free .any ops listed ii = true) (hr : (Region.ready .any ops listed).contains ii = true)
    (hg : guardOf σ (ops.toList.map (·.dst)) gd = some true) (hx : ev σ x = some (.pointer (some ⟨b, i, none⟩))) (ht : T t = some ti) (ha : isAggD ti.und = false) (hb : q b = some (.cells c tc fr)) (hc : c[i]? = some v) (hp : putF fn.ntmps dst v σ = some σ')
    (hkk : RunA P q fn R kt ops mm (listed.setIfInBounds ii true) S σ' A) : RunA P q fn R kt ops (mm + 1) listed S σ A :=
  any_look ii (nthG_arr hi) hn hf hr hg (op_load_old hT hx ht ha hb hc) hp hkk
theorem a_idxo {_ : DS} (ii : Nat) {t e kk : Nat} (o' : Nat) {ti ei : TyI} {x y : Operand} {b o len cap : Nat} {k : IntKind} {i : Int} {σ' : Facts} (hT : TabOk P T) (zi : nthG ops.toList ii = some ⟨dst, .indexAddr t x y, type, pos, after, gd⟩) (zn : Region.noSelect ops = true) (zf : Region.free .any ops listed ii = true) (zr : (Region.ready .any ops listed).contains ii = true)
    (zg : guardOf σ (ops.toList.map (·.dst)) gd = some true) (hx : ev σ x = some (.slice (some ⟨b, o, none⟩) len cap)) (hy : ev σ y = some (.int k i)) (ht : T t = some ti) (hu : ti.und = .slice e) (he : T e = some ei) (hs : ei.size = kk) (h0 : 0 ≤ i) (h1 : i < len) (ho : o + i.toNat * kk = o')
    (hp : putF fn.ntmps dst (.pointer (some ⟨b, o', none⟩)) σ = some σ') (hkk : RunA P q fn R kt ops mm (listed.setIfInBounds ii true) S σ' A) : RunA P q fn R kt ops (mm + 1) listed S σ A := by
  subst hs ho
  exact any_look ii (nthG_arr zi) zn zf zr zg (op_indexAddr hT hx hy ht hu he h0 h1) hp hkk
end
end Go.Proofs.YtaiocnpecaecdaaGreatDoor.VL
namespace Go.Proofs.YtaiocnpecaecdaaGreatDoor.VL
open View RowKit
section
variable {P : Program} {q : View} {T : Nat → Option TyI} {n : Nat} {σ : Facts} {A : List HProp} {f : HProp → List HProp}
theorem St.sl_cells {g : View} {w0 w : World} {b len cap : Nat} {t : TypeId} {k : Nat} {xs : List Value} {F : HProp} (s : St g w0 (sep (sl (some ⟨b, 0, none⟩) len cap t k xs) F) w) :
    ∃ spare, len * k = xs.length ∧ cap * k = xs.length + spare.length ∧ len ≤ cap ∧ St g w0 (sep (cells b t (xs ++ spare).toArray) F) w := by
  rcases s.sl_open with ⟨h, _⟩ | ⟨b', spare, h, h1, h2, h3, s1⟩
  · cases h
  · obtain rfl : b = b' := by injection h with h; injection h
    exact ⟨spare, h1, h2, h3, s1⟩
theorem op_load_sl [DS] (hT : TabOk P T) {t : Nat} {x : Operand} {b i len cap k : Nat} {ti : TyI} {tc : TypeId} {xs : List Value} {v : Value} (hx : ev σ x = some (.pointer (some ⟨b, i, none⟩))) (ht : T t = some ti) (ha : isAggD ti.und = false)
    (hA : At A (sl (some ⟨b, 0, none⟩) len cap tc k xs) f) (hc : xs[i]? = some v) : OpQ P q n σ (.load t x) A v := fun a o hσ ho g w0 w hq s => by
  obtain ⟨L, e, _⟩ := hA.out
  obtain ⟨spare, h1, h2, h3, s1⟩ := (show St g w0 (sep (sl (some ⟨b, 0, none⟩) len cap tc k xs) (star L)) w from e ▸ s).sl_cells
  obtain ⟨fr, _, _, hh⟩ := s1.cells_open
  have hi : i < xs.length := (List.getElem?_eq_some_iff.1 hc).1
  rw [exec_load ho, hσ.ev hx, Sem.run_bind, (load_run hT ht hh).1 v ha (by simp [List.getElem?_append_left hi, hc])]; rfl
theorem op_load_agg_sl [DS] (hT : TabOk P T) {t : Nat} {x : Operand} {b i m len cap k : Nat} {ti : TyI} {tc : TypeId} {xs vs : List Value} (hx : ev σ x = some (.pointer (some ⟨b, i, none⟩))) (ht : T t = some ti) (ha : isAggD ti.und = true) (hm : ti.size = m)
    (hA : At A (sl (some ⟨b, 0, none⟩) len cap tc k xs) f) (hc : (xs.drop i).take m = vs) (hle : i + m ≤ xs.length) : OpQ P q n σ (.load t x) A (.agg ⟨vs⟩) := fun a o hσ ho g w0 w hq s => by
  obtain ⟨L, e, _⟩ := hA.out
  obtain ⟨spare, h1, h2, h3, s1⟩ := (show St g w0 (sep (sl (some ⟨b, 0, none⟩) len cap tc k xs) (star L)) w from e ▸ s).sl_cells
  obtain ⟨fr, _, _, hh⟩ := s1.cells_open
  rw [exec_load ho, hσ.ev hx, Sem.run_bind, (load_run hT ht hh).2 ha (by simp; omega)]
  have : (xs ++ spare).toArray.extract i (i + ti.size) = ⟨vs⟩ := by
    apply Array.ext'
    rw [hm, ← hc]
    simp only [List.extract_toArray, List.extract_eq_take_drop]
    rw [List.drop_append_of_le_length (by omega), List.take_append_of_le_length (by simp; omega), show i + m - i = m by omega]
  rw [this]; rfl
theorem writes_one (l : List Value) (i : Nat) (v : Value) : writes ⟨l⟩ i [v] = ⟨l.set i v⟩ := by
  unfold writes writes
  simp
theorem op_store_sl [DS] (hT : TabOk P T) {t : Nat} {x y : Operand} {b i len cap k : Nat} {ti : TyI} {tc : TypeId} {xs : List Value} {v : Value} (hx : ev σ x = some (.pointer (some ⟨b, i, none⟩))) (hy : ev σ y = some v) (ht : T t = some ti)
    (hA : At A (sl (some ⟨b, 0, none⟩) len cap tc k xs) f) (hv : cellsL v = some [v]) (hz : ti.size = 1) (h1 : one1 v = true) (hi : i < xs.length) :
    OpD P q n σ (.store t x y) (star A) undef (f (sl (some ⟨b, 0, none⟩) len cap tc k (xs.set i v))) := fun a o hσ ho g w0 w hq s => by
  obtain ⟨L, e, e'⟩ := hA.out
  obtain ⟨spare, g1, g2, g3, s0⟩ := (show St g w0 (sep (sl (some ⟨b, 0, none⟩) len cap tc k xs) (star L)) w from e ▸ s).sl_cells
  have s0' : St g w0 (star (cells b tc ⟨xs ++ spare⟩ :: L)) w := s0
  have hvc : v.cells = #[v] := cellsL_eq hv
  obtain ⟨w', u, hr, s2⟩ := op_store (P := P) (q := q) (n := n) (σ := σ) hT hx hy ht (At.head (X := cells b tc ⟨xs ++ spare⟩) (l := L)) (by rw [hvc, hz]; rfl) (by rw [hvc]; simp [h1]) (by rw [hz]; simp; omega) a o hσ ho g w0 w hq s0'
  refine ⟨w', (), hr, ?_⟩
  rw [e' _]
  have s3 : St g w0 (sep (cells b tc (writes ⟨xs ++ spare⟩ i v.cells.toList)) (star L)) w' := s2
  rw [hvc, show (#[v] : Array Value).toList = [v] from rfl, writes_one, List.set_append_left _ _ hi] at s3
  exact s3.sl_shut (by rw [List.length_set]; exact g1) (by rw [List.length_set]; exact g2) g3
end
section
variable {P : Program} {q : View} {T : Nat → Option TyI} {fn : Func} {R : Value → HProp} {k : List It} {σ σ' : Facts} {A L l : List HProp} {f : HProp → List HProp} {st : Bool} {md : Md} {ds : List (Option Tmp)} {os : List SOp} {dst : Option Tmp} {type : TypeId} {gd : Option (Nat × Bool)}
theorem w_load_sl {_ : DS} {t : Nat} {x : Operand} {b i len cap kk : Nat} {ti : TyI} {tc : TypeId} {xs : List Value} {v : Value} (hT : TabOk P T) (hg : guardOf σ ds gd = some true) (hx : ev σ x = some (.pointer (some ⟨b, i, none⟩))) (ht : T t = some ti) (ha : isAggD ti.und = false)
    (hA : At A (sl (some ⟨b, 0, none⟩) len cap tc kk xs) f) (hc : xs[i]? = some v) (hp : putF fn.ntmps dst v σ = some σ') (hk : Run P q fn R (.ops (.mem st) ds os :: k) σ' A) : Run P q fn R (.ops (.mem st) ds (⟨dst, .load t x, type, gd⟩ :: os) :: k) σ A :=
  run_look hg (op_load_sl hT hx ht ha hA hc) hp hk
theorem w_load_agg_sl {_ : DS} {t : Nat} {x : Operand} {b i m len cap kk : Nat} {ti : TyI} {tc : TypeId} {xs vs : List Value} (hT : TabOk P T) (hg : guardOf σ ds gd = some true) (hx : ev σ x = some (.pointer (some ⟨b, i, none⟩))) (ht : T t = some ti) (ha : isAggD ti.und = true) (hm : ti.size = m)
    (hA : At A (sl (some ⟨b, 0, none⟩) len cap tc kk xs) f) (hc : (xs.drop i).take m = vs) (hle : i + m ≤ xs.length) (hp : putF fn.ntmps dst (.agg ⟨vs⟩) σ = some σ') (hk : Run P q fn R (.ops (.mem st) ds os :: k) σ' A) : Run P q fn R (.ops (.mem st) ds (⟨dst, .load t x, type, gd⟩ :: os) :: k) σ A :=
  run_look hg (op_load_agg_sl hT hx ht ha hm hA hc hle) hp hk
theorem w_store_sl {_ : DS} {t : Nat} {x y : Operand} {b i len cap kk : Nat} {ti : TyI} {tc : TypeId} {xs : List Value} {v : Value} (hT : TabOk P T) (hg : guardOf σ ds gd = some true) (hx : ev σ x = some (.pointer (some ⟨b, i, none⟩))) (hy : ev σ y = some v) (ht : T t = some ti)
    (hv : cellsL v = some [v]) (hz : ti.size = 1) (h1 : one1 v = true) (hA : At A (sl (some ⟨b, 0, none⟩) len cap tc kk xs) f) (hi : i < xs.length) (hp : putF fn.ntmps dst undef σ = some σ') (hk : Run P q fn R (.ops (.mem false) ds os :: k) σ' (f (sl (some ⟨b, 0, none⟩) len cap tc kk (xs.set i v)))) :
    Run P q fn R (.ops (.mem false) ds (⟨dst, .store t x y, type, gd⟩ :: os) :: k) σ A :=
  run_op hg (op_store_sl hT hx hy ht hA hv hz h1 hi) hp hk
end
end Go.Proofs.YtaiocnpecaecdaaGreatDoor.VL
namespace Go.Proofs.YtaiocnpecaecdaaGreatDoor.VL
open View RowKit
section
variable {P : Program} {ops : Array Oper} {Q : Exit → Act → World → Prop} {fl : Nat → Nat}
/-- Operation i comes up, and does nothing but yield a value. -/
def lookOp (P : Program) (ops : Array Oper) (i : Nat) (K : Act → World → Prop) (a : Act) (w : World) : Prop :=
  match ops[i]? with
  | none => K a w
  | some o => if Region.wanted o (yielded ops a.tmps) = true then ∃ v, (execOp a.eval o).run P w = .ok (.value v) w ∧ K (a.put o.dst v) w else K (a.put o.dst undef) w
/-- Operation i comes up, and does nothing but yield a value that hangs on no world. -/
def pureOp (P : Program) (ops : Array Oper) (i : Nat) (K : Act → World → Prop) (a : Act) (w : World) : Prop :=
  match ops[i]? with
  | none => K a w
  | some o => if Region.wanted o (yielded ops a.tmps) = true then ∃ v, (∀ w', (execOp a.eval o).run P w' = .ok (.value v) w') ∧ K (a.put o.dst v) w else K (a.put o.dst undef) w
def fOp (P : Program) (ops : Array Oper) (fl : Nat → Nat) (Q : Exit → Act → World → Prop) (i : Nat) (K : Act → World → Prop) (a : Act) (w : World) : Prop :=
  if fl i = 2 then pureOp P ops i K a w else if fl i = 1 then lookOp P ops i K a w else wpOp P ops Q i K a w
def wpAnyF (P : Program) (ops : Array Oper) (fl : Nat → Nat) (Q : Exit → Act → World → Prop) : Nat → Array Bool → Act → World → Prop
  | 0, listed, a, w => Region.ready .any ops listed = [] ∧ Q .normal a w
  | fuel + 1, listed, a, w => (Region.ready .any ops listed = [] → Q .normal a w) ∧ ∀ i ∈ Region.ready .any ops listed, fOp P ops fl Q i (wpAnyF P ops fl Q fuel (listed.setIfInBounds i true)) a w
theorem lookOp_mono {i : Nat} {a : Act} {w : World} {K K' : Act → World → Prop} (h : ∀ a w, K a w → K' a w) (hh : lookOp P ops i K a w) : lookOp P ops i K' a w := by
  unfold lookOp at *
  split
  · rename_i ho; simp only [ho] at hh; exact h _ _ hh
  · rename_i o ho
    simp only [ho] at hh
    split
    · rename_i hw; rw [if_pos hw] at hh; obtain ⟨v, h1, h2⟩ := hh; exact ⟨v, h1, h _ _ h2⟩
    · rename_i hw; rw [if_neg hw] at hh; exact h _ _ hh
theorem wpOp_of_look {i : Nat} {a : Act} {w : World} {K : Act → World → Prop} (hh : lookOp P ops i K a w) : wpOp P ops Q i K a w := by
  unfold lookOp at hh
  unfold wpOp
  split
  · rename_i ho; simp only [ho] at hh; exact hh
  · rename_i o ho
    simp only [ho] at hh
    split
    · rename_i hw; rw [if_pos hw] at hh; obtain ⟨v, h1, h2⟩ := hh
      left; unfold Oper.wp; rw [h1]; exact h2
    · rename_i hw; rw [if_neg hw] at hh; exact hh
theorem pureOp_mono {i : Nat} {a : Act} {w : World} {K K' : Act → World → Prop} (h : ∀ a w, K a w → K' a w) (hh : pureOp P ops i K a w) : pureOp P ops i K' a w := by
  unfold pureOp at *
  split
  · rename_i ho; simp only [ho] at hh; exact h _ _ hh
  · rename_i o ho
    simp only [ho] at hh
    split
    · rename_i hw; rw [if_pos hw] at hh; obtain ⟨v, h1, h2⟩ := hh; exact ⟨v, h1, h _ _ h2⟩
    · rename_i hw; rw [if_neg hw] at hh; exact h _ _ hh
theorem look_of_pure {i : Nat} {a : Act} {w : World} {K : Act → World → Prop} (hh : pureOp P ops i K a w) : lookOp P ops i K a w := by
  unfold pureOp at hh
  unfold lookOp
  split
  · rename_i ho; simp only [ho] at hh; exact hh
  · rename_i o ho
    simp only [ho] at hh
    split
    · rename_i hw; rw [if_pos hw] at hh; obtain ⟨v, h1, h2⟩ := hh; exact ⟨v, h1 w, h2⟩
    · rename_i hw; rw [if_neg hw] at hh; exact hh
theorem fOp_mono {i : Nat} {a : Act} {w : World} {K K' : Act → World → Prop} (h : ∀ a w, K a w → K' a w) (hh : fOp P ops fl Q i K a w) : fOp P ops fl Q i K' a w := by
  unfold fOp at *
  split
  · rename_i hf; rw [if_pos hf] at hh; exact pureOp_mono h hh
  · rename_i hf; rw [if_neg hf] at hh
    split
    · rename_i hf; rw [if_pos hf] at hh; exact lookOp_mono h hh
    · rename_i hf; rw [if_neg hf] at hh; exact wpOp_mono h hh
theorem wpAny_of_F : ∀ (fuel : Nat) (listed : Array Bool) (a : Act) (w : World), wpAnyF P ops fl Q fuel listed a w → wpAny P .any ops Q fuel listed a w
  | 0, _, _, _, h => h
  | fuel + 1, listed, a, w, h => ⟨h.1, fun i hi => by
      have h2 := fOp_mono (fun a' w' h' => wpAny_of_F fuel _ a' w' h') (h.2 i hi)
      unfold fOp at h2
      split at h2
      · exact wpOp_of_look (look_of_pure h2)
      · split at h2
        · exact wpOp_of_look h2
        · exact h2⟩
/-- Operation o yields v here, and does nothing else. -/
def YieldsAtW (P : Program) (ops : Array Oper) (o : Oper) (v : Value) (a : Act) (w : World) : Prop :=
  (Region.wanted o (yielded ops a.tmps) = true ∧ (execOp a.eval o).run P w = .ok (.value v) w) ∨ (Region.wanted o (yielded ops a.tmps) = false ∧ v = undef)
theorem YieldsAtW.look {i : Nat} {o : Oper} {v : Value} {a : Act} {w : World} (hi : ops[i]? = some o) (hy : YieldsAtW P ops o v a w) {K : Act → World → Prop} (h : K (a.put o.dst v) w) : lookOp P ops i K a w := by
  unfold lookOp
  simp only [hi]
  rcases hy with ⟨hw, hv⟩ | ⟨hw, rfl⟩
  · rw [if_pos hw]; exact ⟨v, hv, h⟩
  · rw [if_neg (by rw [hw]; decide)]; exact h
theorem yields_of_look {i : Nat} {o : Oper} {a : Act} {w : World} {K : Act → World → Prop} (hi : ops[i]? = some o) (h : lookOp P ops i K a w) : ∃ v, YieldsAtW P ops o v a w ∧ K (a.put o.dst v) w := by
  unfold lookOp at h
  simp only [hi] at h
  by_cases hw : Region.wanted o (yielded ops a.tmps) = true
  · rw [if_pos hw] at h
    obtain ⟨v, h1, h2⟩ := h
    exact ⟨v, .inl ⟨hw, h1⟩, h2⟩
  · rw [if_neg hw] at h
    exact ⟨undef, .inr ⟨by simpa using hw, rfl⟩, h⟩
/-- Two looks that are apart. -/
theorem lookOp_put {j : Nat} {oi oj : Oper} {v : Value} (hj : ops[j]? = some oj) (hap : oi.apart ops oj = true)
    (hsi : ∀ cs b, oi.op ≠ .select cs b) (hsj : ∀ cs b, oj.op ≠ .select cs b) {K : Act → World → Prop} {a : Act} {w : World}
    (hy : YieldsAtW P ops oi v a w) (h : lookOp P ops j K (a.put oi.dst v) w) :
    lookOp P ops j (fun a' w' => (w' = w ∧ YieldsAtW P ops oi v a' w) ∧ K (a'.put oi.dst v) w') a w := by
  obtain ⟨h1, h2, h3⟩ := Oper.apart_spec hap
  have keep : ∀ u, YieldsAtW P ops oi v (a.put oj.dst u) w := fun u => by
    unfold YieldsAtW at *
    rw [execOp_put oi hsi a oj.dst u h3, wanted_put oi a oj.dst u h3]
    exact hy
  unfold lookOp at *
  simp only [hj] at *
  rw [wanted_put oj a oi.dst v h1, execOp_put oj hsj a oi.dst v h1] at h
  split
  · rename_i hw
    rw [if_pos hw] at h
    obtain ⟨u, g1, g2⟩ := h
    refine ⟨u, g1, ⟨by trivial, keep u⟩, ?_⟩
    rw [← Act.put_comm a v u h2]; exact g2
  · rename_i hw
    rw [if_neg hw] at h
    refine ⟨⟨by trivial, keep _⟩, ?_⟩
    rw [← Act.put_comm a v undef h2]; exact h
/-- A reckoning ahead of a look. -/
theorem pureOp_put {j : Nat} {oi oj : Oper} {v : Value} (hj : ops[j]? = some oj) (hap : oi.apart ops oj = true)
    (hsi : ∀ cs b, oi.op ≠ .select cs b) (hsj : ∀ cs b, oj.op ≠ .select cs b) {K : Act → World → Prop} {a : Act} {w : World}
    (hy : YieldsAtW P ops oi v a w) (h : pureOp P ops j K (a.put oi.dst v) w) :
    pureOp P ops j (fun a' w' => (w' = w ∧ YieldsAtW P ops oi v a' w) ∧ K (a'.put oi.dst v) w') a w := by
  obtain ⟨h1, h2, h3⟩ := Oper.apart_spec hap
  have keep : ∀ u, YieldsAtW P ops oi v (a.put oj.dst u) w := fun u => by
    unfold YieldsAtW at *
    rw [execOp_put oi hsi a oj.dst u h3, wanted_put oi a oj.dst u h3]
    exact hy
  unfold pureOp at *
  simp only [hj] at *
  rw [wanted_put oj a oi.dst v h1, execOp_put oj hsj a oi.dst v h1] at h
  split
  · rename_i hw
    rw [if_pos hw] at h
    obtain ⟨u, g1, g2⟩ := h
    refine ⟨u, g1, ⟨by trivial, keep u⟩, ?_⟩
    rw [← Act.put_comm a v u h2]; exact g2
  · rename_i hw
    rw [if_neg hw] at h
    refine ⟨⟨by trivial, keep _⟩, ?_⟩
    rw [← Act.put_comm a v undef h2]; exact h
theorem lookOp_putP {j : Nat} {oi oj : Oper} {v : Value} (hj : ops[j]? = some oj) (hap : oi.apart ops oj = true)
    (hsi : ∀ cs b, oi.op ≠ .select cs b) (hsj : ∀ cs b, oj.op ≠ .select cs b) {K : Act → World → Prop} {a : Act} {w : World}
    (hy : Yields P ops oi v a) (h : lookOp P ops j K (a.put oi.dst v) w) : lookOp P ops j (fun a' w' => Yields P ops oi v a' ∧ K (a'.put oi.dst v) w') a w := by
  obtain ⟨h1, h2, h3⟩ := Oper.apart_spec hap
  have keep : ∀ u, Yields P ops oi v (a.put oj.dst u) := fun u => hy.of_same (execOp_put oi hsi a oj.dst u h3) (wanted_put oi a oj.dst u h3)
  unfold lookOp at *
  simp only [hj] at *
  rw [wanted_put oj a oi.dst v h1, execOp_put oj hsj a oi.dst v h1] at h
  split
  · rename_i hw
    rw [if_pos hw] at h
    obtain ⟨u, g1, g2⟩ := h
    refine ⟨u, g1, keep u, ?_⟩
    rw [← Act.put_comm a v u h2]; exact g2
  · rename_i hw
    rw [if_neg hw] at h
    refine ⟨keep _, ?_⟩
    rw [← Act.put_comm a v undef h2]; exact h
theorem pureOp_putP {j : Nat} {oi oj : Oper} {v : Value} (hj : ops[j]? = some oj) (hap : oi.apart ops oj = true)
    (hsi : ∀ cs b, oi.op ≠ .select cs b) (hsj : ∀ cs b, oj.op ≠ .select cs b) {K : Act → World → Prop} {a : Act} {w : World}
    (hy : Yields P ops oi v a) (h : pureOp P ops j K (a.put oi.dst v) w) : pureOp P ops j (fun a' w' => Yields P ops oi v a' ∧ K (a'.put oi.dst v) w') a w := by
  obtain ⟨h1, h2, h3⟩ := Oper.apart_spec hap
  have keep : ∀ u, Yields P ops oi v (a.put oj.dst u) := fun u => hy.of_same (execOp_put oi hsi a oj.dst u h3) (wanted_put oi a oj.dst u h3)
  unfold pureOp at *
  simp only [hj] at *
  rw [wanted_put oj a oi.dst v h1, execOp_put oj hsj a oi.dst v h1] at h
  split
  · rename_i hw
    rw [if_pos hw] at h
    obtain ⟨u, g1, g2⟩ := h
    refine ⟨u, g1, keep u, ?_⟩
    rw [← Act.put_comm a v u h2]; exact g2
  · rename_i hw
    rw [if_neg hw] at h
    refine ⟨keep _, ?_⟩
    rw [← Act.put_comm a v undef h2]; exact h
theorem Yields.pureOp {i : Nat} {o : Oper} {v : Value} {a : Act} {w : World} (hi : ops[i]? = some o) (hy : Yields P ops o v a) {K : Act → World → Prop} (h : K (a.put o.dst v) w) : pureOp P ops i K a w := by
  unfold VL.pureOp
  simp only [hi]
  rcases hy with ⟨hw, hv⟩ | ⟨hw, rfl⟩
  · rw [if_pos hw]; exact ⟨v, hv, h⟩
  · rw [if_neg (by rw [hw]; decide)]; exact h
theorem yields_of_pure {i : Nat} {o : Oper} {a : Act} {w : World} {K : Act → World → Prop} (hi : ops[i]? = some o) (h : pureOp P ops i K a w) : ∃ v, Yields P ops o v a ∧ K (a.put o.dst v) w := by
  unfold VL.pureOp at h
  simp only [hi] at h
  by_cases hw : Region.wanted o (yielded ops a.tmps) = true
  · rw [if_pos hw] at h
    obtain ⟨v, h1, h2⟩ := h
    exact ⟨v, .inl ⟨hw, h1⟩, h2⟩
  · rw [if_neg hw] at h
    exact ⟨undef, .inr ⟨by simpa using hw, rfl⟩, h⟩
/-- A reckoning may be taken first, whatever else may come up. -/
theorem wpAnyF_firstP {i : Nat} {oi : Oper} {v : Value} (hi : ops[i]? = some oi) (hsel : ∀ (j : Nat) (o : Oper) cs b, ops[j]? = some o → o.op ≠ .select cs b) (hfi : fl i = 2)
    (hQ : ∀ c a w, ¬ Q (.panic c) a w) :
    ∀ (fuel : Nat) (listed : Array Bool) (a : Act) (w : World),
      (∀ j oj, ops[j]? = some oj → j ≠ i → listed.getD j true = false → (∀ e ∈ oj.after, Region.binds .any e = true → e.on ≠ i) → oi.apart ops oj = true) →
      i ∈ Region.ready .any ops listed → Yields P ops oi v a →
      wpAnyF P ops fl Q fuel (listed.setIfInBounds i true) (a.put oi.dst v) w → wpAnyF P ops fl Q (fuel + 1) listed a w := by
  intro fuel
  induction fuel with
  | zero =>
    intro listed a w _ hr hy H
    refine ⟨fun h => (by rw [h] at hr; cases hr), fun j hj => ?_⟩
    by_cases hji : j = i
    · subst hji; unfold fOp; rw [if_pos hfi]; exact Yields.pureOp hi hy H
    · have := ready_mono hj hji
      rw [H.1] at this
      cases this
  | succ fuel ih =>
    intro listed a w hfree hr hy H
    refine ⟨fun h => (by rw [h] at hr; cases hr), fun j hj => ?_⟩
    by_cases hji : j = i
    · subst hji; unfold fOp; rw [if_pos hfi]; exact Yields.pureOp hi hy H
    · have h1 := H.2 j (ready_mono hj hji)
      obtain ⟨hjun, oj, hoj, hall⟩ := mem_ready.1 hj
      have hnot : ∀ e ∈ oj.after, Region.binds .any e = true → e.on ≠ i := fun e he hb heq => by
        have h1 := hall e he hb
        have h0 := (mem_ready.1 hr).1
        rw [heq] at h1
        rcases Nat.lt_or_ge i listed.size with h' | h'
        · simp [h'] at h0 h1; rw [h0] at h1; cases h1
        · simp [Array.getElem?_eq_none h'] at h1
      have hap := hfree j oj hoj hji hjun hnot
      have hfree' : ∀ k ok, ops[k]? = some ok → k ≠ i → (listed.setIfInBounds j true).getD k true = false →
          (∀ e ∈ ok.after, Region.binds .any e = true → e.on ≠ i) → oi.apart ops ok = true := fun k ok hk hki hun hno => by
        refine hfree k ok hk hki ?_ hno
        by_cases hjk : j = k
        · subst hjk; exact hjun
        · rw [getD_set_ne true hjk] at hun; exact hun
      have fin : ∀ a' w', Yields P ops oi v a' ∧ wpAnyF P ops fl Q fuel ((listed.setIfInBounds i true).setIfInBounds j true) (a'.put oi.dst v) w' → wpAnyF P ops fl Q (fuel + 1) (listed.setIfInBounds j true) a' w' := fun a' w' h3 => by
        refine ih (listed.setIfInBounds j true) a' w' hfree' (ready_mono hr (Ne.symm hji)) h3.1 ?_
        rw [Array.setIfInBounds_comm _ _ hji]
        exact h3.2
      have s1 := fun cs b => hsel i oi cs b hi
      have s2 := fun cs b => hsel j oj cs b hoj
      unfold fOp at h1 ⊢
      split
      · rename_i hf; rw [if_pos hf] at h1
        exact pureOp_mono fin (pureOp_putP hoj hap s1 s2 hy h1)
      · rename_i hf; rw [if_neg hf] at h1
        split
        · rename_i hf; rw [if_pos hf] at h1
          exact lookOp_mono fin (lookOp_putP hoj hap s1 s2 hy h1)
        · rename_i hf; rw [if_neg hf] at h1
          exact wpOp_mono fin (wpOp_put hoj hap s1 s2 (fun c a w h => absurd h (hQ _ _ _)) hy h1)
theorem getD_both' {listed : Array Bool} {i : Nat} (h : listed.getD i true = false) : listed.getD i false = false := by
  rcases Nat.lt_or_ge i listed.size with h' | h'
  · simp [h'] at h ⊢; exact h
  · simp [Array.getElem?_eq_none h'] at h
def aftR (ops : List Oper) (i : Nat) : List Oper → List Bool → List Bool
  | [], acc => acc
  | o :: os, acc => aftR ops i os (acc ++ [o.after.any fun e => Region.binds .any e && (e.on == i || acc.getD e.on false)])
def aft (ops : Array Oper) (i : Nat) : List Bool := aftR ops.toList i ops.toList []
theorem aftR_pre (l : List Oper) (i : Nat) : ∀ (os : List Oper) (acc : List Bool) (j : Nat), j < acc.length → (aftR l i os acc).getD j false = acc.getD j false := by
  intro os
  induction os with
  | nil => intro acc j _; rfl
  | cons o os ih =>
    intro acc j hj
    unfold aftR
    rw [ih _ _ (by simp; omega)]
    rw [List.getD_eq_getElem?_getD, List.getD_eq_getElem?_getD, List.getElem?_append_left hj]
theorem aftR_at (l : List Oper) (i : Nat) : ∀ (os : List Oper) (acc : List Bool) (j : Nat) (o : Oper), os[j]? = some o → (aftR l i os acc).getD (acc.length + j) false = true →
    ∃ e ∈ o.after, Region.binds .any e = true ∧ (e.on = i ∨ (aftR l i os acc).getD e.on false = true) := by
  intro os
  induction os with
  | nil => intro acc j o h; cases h
  | cons x os ih =>
    intro acc j o h ht
    cases j with
    | zero =>
      obtain rfl := Option.some.inj h
      unfold aftR at ht
      rw [aftR_pre _ _ _ _ _ (by simp)] at ht
      rw [List.getD_eq_getElem?_getD, Nat.add_zero, List.getElem?_append_right (Nat.le_refl _), Nat.sub_self] at ht
      simp only [List.getElem?_cons_zero, Option.getD_some] at ht
      obtain ⟨e, he, hb⟩ := Array.any_eq_true'.1 ht
      simp only [Bool.and_eq_true, Bool.or_eq_true, beq_iff_eq] at hb
      refine ⟨e, he, hb.1, hb.2.imp id fun h2 => ?_⟩
      unfold aftR
      have hlt : e.on < acc.length := by
        rcases Nat.lt_or_ge e.on acc.length with h | h
        · exact h
        · rw [List.getD_eq_getElem?_getD, List.getElem?_eq_none h] at h2; cases h2
      rw [aftR_pre _ _ _ _ _ (by simp; omega), List.getD_eq_getElem?_getD, List.getElem?_append_left hlt, ← List.getD_eq_getElem?_getD]
      exact h2
    | succ j =>
      unfold aftR at ht ⊢
      refine ih _ j o (by simpa using h) ?_
      rw [show (acc ++ [x.after.any fun e => Region.binds .any e && (e.on == i || acc.getD e.on false)]).length + j = acc.length + (j + 1) by simp; omega]
      exact ht
theorem aft_spec {i j : Nat} {o : Oper} (hj : ops[j]? = some o) (h : (aft ops i).getD j false = true) : ∃ e ∈ o.after, Region.binds .any e = true ∧ (e.on = i ∨ (aft ops i).getD e.on false = true) := by
  unfold aft at *
  exact aftR_at ops.toList i ops.toList [] j o (by simpa using hj) (by simpa using h)
def lookB (ops : Array Oper) (fl : Nat → Nat) (listed : Array Bool) (i : Nat) : Bool :=
  match ops[i]? with
  | none => false
  | some oi => (Region.ready .any ops listed).contains i && fl i == 1 && (let D := aft ops i; (List.range ops.size).all fun j => j == i || (match ops[j]? with
      | some oj => if D.getD j false then !listed.getD j true else listed.getD j true || (Nat.ble 1 (fl j) && Nat.ble (fl j) 2 && oi.apart ops oj)
      | none => true))
theorem wpAnyF_first {i : Nat} {oi : Oper} {v : Value} (hi : ops[i]? = some oi) (hsel : ∀ (j : Nat) (o : Oper) cs b, ops[j]? = some o → o.op ≠ .select cs b) (hfi : fl i = 1)
    (R : Nat → Prop) (hR : ∀ j oj, ops[j]? = some oj → R j → j ≠ i → (fl j = 1 ∨ fl j = 2) ∧ oi.apart ops oj = true) (L0 : Array Bool)
    (hcl : ∀ j oj, ops[j]? = some oj → j ≠ i → L0.getD j true = false → (∀ e ∈ oj.after, Region.binds .any e = true → L0.getD e.on false = true ∨ R e.on) → (∀ e ∈ oj.after, Region.binds .any e = true → e.on ≠ i) → R j) :
    ∀ (fuel : Nat) (listed : Array Bool) (a : Act) (w : World), (∀ j, L0.getD j true = true → listed.getD j true = true) → (∀ j, listed.getD j false = true → L0.getD j false = true ∨ R j) →
      i ∈ Region.ready .any ops listed → YieldsAtW P ops oi v a w →
      wpAnyF P ops fl Q fuel (listed.setIfInBounds i true) (a.put oi.dst v) w → wpAnyF P ops fl Q (fuel + 1) listed a w := by
  intro fuel
  induction fuel with
  | zero =>
    intro listed a w _ _ hr hy H
    refine ⟨fun h => (by rw [h] at hr; cases hr), fun j hj => ?_⟩
    by_cases hji : j = i
    · subst hji; unfold fOp; rw [if_neg (by rw [hfi]; decide), if_pos hfi]; exact hy.look hi H
    · have := ready_mono hj hji
      rw [H.1] at this
      cases this
  | succ fuel ih =>
    intro listed a w hin hsub hr hy H
    refine ⟨fun h => (by rw [h] at hr; cases hr), fun j hj => ?_⟩
    by_cases hji : j = i
    · subst hji; unfold fOp; rw [if_neg (by rw [hfi]; decide), if_pos hfi]; exact hy.look hi H
    · have h1 := H.2 j (ready_mono hj hji)
      obtain ⟨hjun, oj, hoj, hall⟩ := mem_ready.1 hj
      have hnot : ∀ e ∈ oj.after, Region.binds .any e = true → e.on ≠ i := fun e he hb heq => by
        have h1 := hall e he hb
        have h0 := (mem_ready.1 hr).1
        rw [heq] at h1
        rcases Nat.lt_or_ge i listed.size with h' | h'
        · simp [h'] at h0 h1; rw [h0] at h1; cases h1
        · simp [Array.getElem?_eq_none h'] at h1
      have hj0 : L0.getD j true = false := by
        cases h : L0.getD j true with
        | false => rfl
        | true => rw [hin j h] at hjun; cases hjun
      have hRj : R j := hcl j oj hoj hji hj0 (fun e he hb => hsub _ (hall e he hb)) hnot
      obtain ⟨hfj, hap⟩ := hR j oj hoj hRj hji
      have fin : ∀ a' w', (w' = w ∧ YieldsAtW P ops oi v a' w) ∧ wpAnyF P ops fl Q fuel ((listed.setIfInBounds i true).setIfInBounds j true) (a'.put oi.dst v) w' → wpAnyF P ops fl Q (fuel + 1) (listed.setIfInBounds j true) a' w' := fun a' w' h3 => by
        obtain ⟨⟨rfl, hy'⟩, h4⟩ := h3
        refine ih (listed.setIfInBounds j true) a' w' (fun k hk => ?_) (fun k hk => ?_) (ready_mono hr (Ne.symm hji)) hy' ?_
        · by_cases hjk : j = k
          · subst hjk; rw [hj0] at hk; cases hk
          · rw [getD_set_ne true hjk]; exact hin k hk
        · by_cases hjk : j = k
          · subst hjk; exact .inr hRj
          · rw [getD_set_ne false hjk] at hk; exact hsub k hk
        · rw [Array.setIfInBounds_comm _ _ hji]
          exact h4
      unfold fOp at h1 ⊢
      rcases hfj with hf | hf
      · rw [if_neg (by rw [hf]; decide), if_pos hf] at h1 ⊢
        exact lookOp_mono fin (lookOp_put hoj hap (fun cs b => hsel i oi cs b hi) (fun cs b => hsel j oj cs b hoj) hy h1)
      · rw [if_pos hf] at h1 ⊢
        exact pureOp_mono fin (pureOp_put hoj hap (fun cs b => hsel i oi cs b hi) (fun cs b => hsel j oj cs b hoj) hy h1)
theorem wpAnyF_take {i : Nat} {oi : Oper} {v : Value} {fuel : Nat} {listed : Array Bool} {a : Act} {w : World} (hi : ops[i]? = some oi) (hs : Region.noSelect ops = true) (hb : lookB ops fl listed i = true)
    (hy : YieldsAtW P ops oi v a w) (h : wpAnyF P ops fl Q fuel (listed.setIfInBounds i true) (a.put oi.dst v) w) : wpAnyF P ops fl Q (fuel + 1) listed a w := by
  unfold lookB at hb
  simp only [hi, Bool.and_eq_true, beq_iff_eq] at hb
  obtain ⟨⟨hr, hf⟩, hall⟩ := hb
  have hr : i ∈ Region.ready .any ops listed := by simpa using hr
  have hiu := (mem_ready.1 hr).1
  have key : ∀ j oj, ops[j]? = some oj → j ≠ i → (if (aft ops i).getD j false = true then listed.getD j true = false else (listed.getD j true = true ∨ ((fl j = 1 ∨ fl j = 2) ∧ oi.apart ops oj = true))) := by
    intro j oj hj hne
    have := List.all_eq_true.1 hall j (List.mem_range.2 (Array.getElem?_eq_some_iff.1 hj).1)
    simp only [hj, Bool.or_eq_true, beq_iff_eq, hne, false_or] at this
    split
    · rename_i hd; rw [if_pos hd] at this; simpa using this
    · rename_i hd; rw [if_neg hd] at this
      simp only [Bool.or_eq_true, Bool.and_eq_true, Nat.ble_eq] at this
      rcases this with h | ⟨⟨h1, h2⟩, h3⟩
      · exact .inl h
      · exact .inr ⟨by omega, h3⟩
  refine wpAnyF_first hi (Region.noSelect_spec hs) hf (fun j => (aft ops i).getD j false = false ∧ listed.getD j true = false ∧ j ≠ i) (fun j oj hj hRj hne => ?_) listed ?_ fuel listed a w (fun _ h => h) (fun _ h => .inl h) hr hy h
  · have := key j oj hj hne
    rw [if_neg (by rw [hRj.1]; decide)] at this
    rcases this with h | h
    · rw [hRj.2.1] at h; cases h
    · exact h
  · intro j oj hj hne hu hedges hnoti
    refine ⟨?_, hu, hne⟩
    cases hd : (aft ops i).getD j false with
    | false => rfl
    | true =>
      exfalso
      obtain ⟨e, he, hb, hon⟩ := aft_spec hj hd
      rcases hon with hon | hon
      · exact hnoti e he hb hon
      · rcases hedges e he hb with h2 | h2
        · -- a listed one behind an unlisted one
          have hlt : e.on < ops.size := by
            rcases Nat.lt_or_ge e.on ops.size with h | h
            · exact h
            · exfalso
              have : ∀ (l : List Oper) (os : List Oper) (acc : List Bool), (aftR l i os acc).length = acc.length + os.length := by
                intro l os
                induction os with
                | nil => intro acc; rfl
                | cons o os ih => intro acc; unfold aftR; rw [ih]; simp; omega
              rw [List.getD_eq_getElem?_getD, List.getElem?_eq_none (by unfold aft; rw [this]; simpa using h)] at hon
              cases hon
          by_cases hei : e.on = i
          · exact hnoti e he hb hei
          · have := key e.on ops[e.on] (Array.getElem?_eq_getElem hlt) hei
            rw [if_pos hon] at this
            have : listed.getD e.on false = false := getD_both' this
            rw [this] at h2; cases h2
        · rw [h2.1] at hon; cases hon
def flatB (ops : Array Oper) (fl : Nat → Nat) : List Nat → Array Bool → Bool
  | [], listed => (Region.ready .any ops listed).isEmpty
  | i :: is, listed => (if fl i == 2 then ((Region.ready .any ops listed).contains i && Region.free .any ops listed i) else if fl i == 1 then lookB ops fl listed i else Region.ready .any ops listed == [i]) && flatB ops fl is (listed.setIfInBounds i true)
def wpF (P : Program) (ops : Array Oper) (fl : Nat → Nat) (Q : Exit → Act → World → Prop) : List Nat → Act → World → Prop
  | [], a, w => Q .normal a w
  | i :: is, a, w => fOp P ops fl Q i (wpF P ops fl Q is) a w
theorem wpAnyF_flat (hs : Region.noSelect ops = true) (hQ : ∀ c a w, ¬ Q (.panic c) a w) : ∀ (is : List Nat) (listed : Array Bool) (a : Act) (w : World), flatB ops fl is listed = true → wpF P ops fl Q is a w → wpAnyF P ops fl Q is.length listed a w := by
  intro is
  induction is with
  | nil =>
    intro listed a w hb h
    exact ⟨by simpa [flatB] using hb, h⟩
  | cons i is ih =>
    intro listed a w hb h
    simp only [flatB, Bool.and_eq_true] at hb
    obtain ⟨hb1, hb2⟩ := hb
    unfold wpF at h
    by_cases h2 : fl i = 2
    · rw [if_pos (by rw [h2]; rfl)] at hb1
      simp only [Bool.and_eq_true] at hb1
      have hi : ∃ oi, ops[i]? = some oi := by
        have := hb1.2
        unfold Region.free at this
        split at this
        · cases this
        · exact ⟨_, by assumption⟩
      obtain ⟨oi, hi⟩ := hi
      unfold fOp at h
      rw [if_pos h2] at h
      obtain ⟨v, hy, hk⟩ := yields_of_pure hi h
      exact wpAnyF_firstP hi (Region.noSelect_spec hs) h2 hQ is.length listed a w (Region.free_spec hi hb1.2) (by simpa using hb1.1) hy (ih _ _ _ hb2 hk)
    · rw [if_neg (by simpa using h2)] at hb1
      by_cases hf : fl i = 1
      · rw [if_pos (by rw [hf]; rfl)] at hb1
        have hi : ∃ oi, ops[i]? = some oi := by
          unfold lookB at hb1
          split at hb1
          · cases hb1
          · exact ⟨_, by assumption⟩
        obtain ⟨oi, hi⟩ := hi
        unfold fOp at h
        rw [if_neg h2, if_pos hf] at h
        obtain ⟨v, hy, hk⟩ := yields_of_look hi h
        exact wpAnyF_take hi hs hb1 hy (ih _ _ _ hb2 hk)
      · rw [if_neg (by simpa using hf)] at hb1
        have hr : Region.ready .any ops listed = [i] := by simpa using hb1
        refine ⟨fun h0 => (by rw [hr] at h0; cases h0), fun j hj => ?_⟩
        rw [hr] at hj
        obtain rfl : j = i := by simpa using hj
        exact fOp_mono (fun a' w' h' => ih _ a' w' hb2 h') h
end
def slimAt (ops : List Oper) : List Nat → Option (List SOp)
  | [] => some []
  | i :: is => match nthG ops i with
    | some ⟨dst, op, type, _, _, guard⟩ => match slimAt ops is with
      | some r => some (⟨dst, op, type, guard⟩ :: r)
      | none => none
    | none => none
def segItems (ds : List (Option Tmp)) (ops : List Oper) : List (Md × List Nat) → List It → Option (List It)
  | [], k => some k
  | (md, is) :: ss, k => match segItems ds ops ss k with
    | some r => match slimAt ops is with
      | some os => some (.ops md ds os :: r)
      | none => none
    | none => none
def segOrder : List (Md × List Nat) → List Nat
  | [] => []
  | (_, is) :: ss => is ++ segOrder ss
def clOf : Md → Nat
  | .pure => 2
  | .mem true => 1
  | .mem false => 0
def segB (fl : Nat → Nat) : List (Md × List Nat) → Bool
  | [] => true
  | (md, is) :: ss => is.all (fun i => fl i == clOf md) && segB fl ss
def flOf : List (Md × List Nat) → Nat → Nat
  | [], _ => 0
  | (md, is) :: ss, i => if is.contains i then clOf md else flOf ss i
section
variable {P : Program} {q : View} {fn : Func} {R : Value → HProp} {k : List It} {σ : Facts} {A : List HProp}
theorem Oper.wp_swap {o : Oper} {a : Act} {w : World} {K : Act → World → Prop} {Q Q' : Exit → Act → World → Prop} (hp : ∀ c a w, Q (.panic c) a w → Q' (.panic c) a w) (ho : LetsOut Q → LetsOut Q') (h : o.wp P a w K Q) : o.wp P a w K Q' := by
  unfold Oper.wp at *
  generalize (execOp a.eval o).run P w = r at *
  cases r with
  | ok n w' =>
    cases n <;> simp only [Oper.upon] at h ⊢ <;>
      first
        | exact h
        | exact Calls.mono h (fun e w'' he => by
            cases e with
            | returned v => exact he
            | panicked c => exact hp _ _ _ he
            | outgrown => exact ho he)
  | halt x w' => cases x <;> simp only [Oper.upon] at h ⊢ <;> first | exact h | exact hp _ _ _ h
theorem wpF_of_items {g : View} {w0 : World} {ops : List Oper} {fl : Nat → Nat} {ds : List (Option Tmp)} (hds : ds = ops.map (·.dst)) :
    ∀ (ss : List (Md × List Nat)) (k' : List It), segItems ds ops ss k = some k' → segB fl ss = true →
      (∀ e a w, e ≠ .normal → (Post P fn R g w0 k' e a w ↔ Post P fn R g w0 k e a w)) ∧ ∀ a w, Post P fn R g w0 k' .normal a w → wpF P ⟨ops⟩ fl (Post P fn R g w0 k) (segOrder ss) a w := by
  intro ss
  induction ss with
  | nil => intro k' h _; obtain rfl := Option.some.inj h; exact ⟨fun _ _ _ _ => Iff.rfl, fun a w h => h⟩
  | cons s ss ih =>
    obtain ⟨md, is⟩ := s
    intro k' h hb
    simp only [segB, Bool.and_eq_true] at hb
    unfold segItems at h
    cases hr : segItems ds ops ss k with
    | none => rw [hr] at h; cases h
    | some r =>
      rw [hr] at h
      simp only at h
      cases hos : slimAt ops is with
      | none => rw [hos] at h; cases h
      | some os =>
        rw [hos] at h
        obtain rfl := Option.some.inj h
        obtain ⟨i1, i2⟩ := ih r hr hb.2
        have hne : ∀ e a w, e ≠ Exit.normal → (Post P fn R g w0 (.ops md ds os :: r) e a w ↔ Post P fn R g w0 r e a w) := by
          intro e a w he
          cases e <;> first | exact absurd rfl he | exact Iff.rfl
        refine ⟨fun e a w he => (hne e a w he).trans (i1 e a w he), ?_⟩
        intro a w hp
        replace hp : wpL P md ds (Post P fn R g w0 r) (os.map SOp.oper) a w := hp
        have hall := hb.1
        clear h hne hb
        clear hr
        show wpF P ⟨ops⟩ fl (Post P fn R g w0 k) (is ++ segOrder ss) a w
        induction is generalizing os a w with
        | nil => obtain rfl := Option.some.inj hos; exact i2 a w hp
        | cons i is ihs =>
          unfold slimAt at hos
          cases hn : nthG ops i with
          | none => rw [hn] at hos; cases hos
          | some o =>
            rw [hn] at hos
            obtain ⟨dst, op, type, pos, after, guard⟩ := o
            simp only at hos
            cases hrs : slimAt ops is with
            | none => rw [hrs] at hos; cases hos
            | some rs =>
              rw [hrs] at hos
              obtain rfl := Option.some.inj hos
              have ho : ops[i]? = some ⟨dst, op, type, pos, after, guard⟩ := by rw [← nthG_eq]; exact hn
              have hoA : (⟨ops⟩ : Array Oper)[i]? = some ⟨dst, op, type, pos, after, guard⟩ := by simpa using ho
              simp only [List.all_cons, Bool.and_eq_true, beq_iff_eq] at hall
              have hs : slim ⟨dst, op, type, pos, after, guard⟩ = ⟨dst, op, type, guard⟩ := rfl
              rw [List.map_cons] at hp
              unfold wpL at hp
              have hwant : wantedL ds a (SOp.oper ⟨dst, op, type, guard⟩) = Region.wanted ⟨dst, op, type, pos, after, guard⟩ (yielded ⟨ops⟩ a.tmps) := by
                subst hds
                exact wantedL_eq ⟨ops⟩ a ⟨dst, op, type, pos, after, guard⟩
              have hex : execOp a.eval (SOp.oper ⟨dst, op, type, guard⟩) = execOp a.eval ⟨dst, op, type, pos, after, guard⟩ := slim_exec (o := ⟨dst, op, type, pos, after, guard⟩) _
              rw [hwant] at hp
              show fOp P ⟨ops⟩ fl (Post P fn R g w0 k) i (wpF P ⟨ops⟩ fl (Post P fn R g w0 k) (is ++ segOrder ss)) a w
              have next : ∀ a w, wpL P md ds (Post P fn R g w0 r) (rs.map SOp.oper) a w → wpF P ⟨ops⟩ fl (Post P fn R g w0 k) (is ++ segOrder ss) a w := fun a w h => ihs rs hrs a w h hall.2
              unfold fOp
              rw [hall.1]
              match md, hp, next with
              | .pure, hp, next =>
                rw [if_pos (show clOf Md.pure = 2 from rfl)]
                unfold pureOp
                rw [hoA]
                dsimp only
                by_cases hw : Region.wanted ⟨dst, op, type, pos, after, guard⟩ (yielded ⟨ops⟩ a.tmps) = true
                · rw [if_pos hw] at hp ⊢
                  obtain ⟨v, h1, h2⟩ := hp
                  rw [hex] at h1
                  exact ⟨v, h1, next _ _ h2⟩
                · rw [if_neg hw] at hp ⊢
                  exact next _ _ hp
              | .mem true, hp, next =>
                rw [if_neg (show ¬ clOf (.mem true) = 2 by decide), if_pos (show clOf (.mem true) = 1 from rfl)]
                unfold lookOp
                rw [hoA]
                dsimp only
                by_cases hw : Region.wanted ⟨dst, op, type, pos, after, guard⟩ (yielded ⟨ops⟩ a.tmps) = true
                · rw [if_pos hw] at hp ⊢
                  obtain ⟨v, h1, h2⟩ := hp
                  rw [hex] at h1
                  exact ⟨v, h1, next _ _ h2⟩
                · rw [if_neg hw] at hp ⊢
                  exact next _ _ hp
              | .mem false, hp, next =>
                rw [if_neg (show ¬ clOf (.mem false) = 2 by decide), if_neg (show ¬ clOf (.mem false) = 1 by decide)]
                unfold wpOp
                rw [hoA]
                dsimp only
                by_cases hw : Region.wanted ⟨dst, op, type, pos, after, guard⟩ (yielded ⟨ops⟩ a.tmps) = true
                · rw [if_pos hw] at hp ⊢
                  left
                  refine Oper.wp_mono (fun a' w' h' => next a' w' h') ?_
                  have := slim_wp ⟨dst, op, type, pos, after, guard⟩ a w _ _ (hs ▸ hp)
                  exact Oper.wp_swap (fun c a w h => (i1 _ a w (by simp)).1 h) (fun ⟨a, w, h⟩ => ⟨a, w, (i1 _ a w (by simp)).1 h⟩) this
                · rw [if_neg hw] at hp ⊢
                  exact next _ _ hp
/-- A drawn region by one order of it: segments of operations that only look (true), and of those that act (false). -/
theorem run_flat {_ : DS} {id : Nat} {os : List Oper} {ds : List (Option Tmp)} {k' : List It} (ss : List (Md × List Nat)) (hM : P.follows .mixedOrders = true) (hds : dsOf os [] = some ds) (hk' : segItems ds os ss k = some k')
    (hs : Region.noSelect ⟨os⟩ = true) (hlen : (segOrder ss).length = os.length)
    (hb : (segB (flOf ss) ss && flatB ⟨os⟩ (flOf ss) (segOrder ss) (Array.replicate os.length false)) = true)
    (h : Run P q fn R k' σ A) : Run P q fn R (.code (.region id ⟨os⟩ true) :: k) σ A := fun g w0 a w hq hσ s => by
  have e : ds = os.map (·.dst) := dsOf_eq _ _ _ hds
  simp only [Bool.and_eq_true] at hb
  refine wp_region_any hM ?_
  have h1 := h g w0 a { w with drawn := w.drawn + 1 } hq hσ (s.drawn _)
  obtain ⟨_, i2⟩ := wpF_of_items (P := P) (fn := fn) (R := R) (k := k) (g := g) (w0 := w0) e ss k' hk' hb.1
  have h2 := wpAnyF_flat (P := P) hs (fun c a w => Post_panic _ _ _ _) (segOrder ss) (Array.replicate os.length false) a { w with drawn := w.drawn + 1 } hb.2 (i2 _ _ h1)
  rw [hlen] at h2
  exact wpAny_of_F _ _ _ _ h2
end
end Go.Proofs.YtaiocnpecaecdaaGreatDoor.VL
namespace Go.Proofs.YtaiocnpecaecdaaGreatDoor.VL
open View RowKit
def pwN : Nat → Option Int
  | 0 => some 1
  | 1 => some 2
  | 2 => some 4
  | 3 => some 8
  | 4 => some 16
  | 5 => some 32
  | 6 => some 64
  | 7 => some 128
  | 8 => some 256
  | 9 => some 512
  | 10 => some 1024
  | 11 => some 2048
  | 12 => some 4096
  | 13 => some 8192
  | 14 => some 16384
  | 15 => some 32768
  | 16 => some 65536
  | 17 => some 131072
  | 18 => some 262144
  | 19 => some 524288
  | 20 => some 1048576
  | 21 => some 2097152
  | 22 => some 4194304
  | 23 => some 8388608
  | 24 => some 16777216
  | 25 => some 33554432
  | 26 => some 67108864
  | 27 => some 134217728
  | 28 => some 268435456
  | 29 => some 536870912
  | 30 => some 1073741824
  | 31 => some 2147483648
  | 32 => some 4294967296
  | 33 => some 8589934592
  | 34 => some 17179869184
  | 35 => some 34359738368
  | 36 => some 68719476736
  | 37 => some 137438953472
  | 38 => some 274877906944
  | 39 => some 549755813888
  | 40 => some 1099511627776
  | 41 => some 2199023255552
  | 42 => some 4398046511104
  | 43 => some 8796093022208
  | 44 => some 17592186044416
  | 45 => some 35184372088832
  | 46 => some 70368744177664
  | 47 => some 140737488355328
  | 48 => some 281474976710656
  | 49 => some 562949953421312
  | 50 => some 1125899906842624
  | 51 => some 2251799813685248
  | 52 => some 4503599627370496
  | 53 => some 9007199254740992
  | 54 => some 18014398509481984
  | 55 => some 36028797018963968
  | 56 => some 72057594037927936
  | 57 => some 144115188075855872
  | 58 => some 288230376151711744
  | 59 => some 576460752303423488
  | 60 => some 1152921504606846976
  | 61 => some 2305843009213693952
  | 62 => some 4611686018427387904
  | 63 => some 9223372036854775808
  | _ => none
theorem pwN_eq {n : Nat} {c : Int} (h : pwN n = some c) : c = 2 ^ n ∧ n ≤ 63 := by
  unfold pwN at h
  split at h <;> first | (obtain rfl := Option.some.inj h; exact ⟨by decide, by decide⟩) | (cases h; done)
def kmax : IntKind → Int
  | .i8 => 127 | .i16 => 32767 | .i32 => 2147483647 | .i64 => 9223372036854775807
  | .u8 => 255 | .u16 => 65535 | .u32 => 4294967295 | .u64 => 18446744073709551615
theorem kmax_bits (k : IntKind) : kmax k < 2 ^ k.bits := by cases k <;> decide
theorem wrap_in (k : IntKind) (n : Int) (h0 : 0 ≤ n) (h1 : n ≤ kmax k) : k.wrap n = n := by
  cases k <;> simp only [kmax] at h1 <;> (unfold IntKind.wrap; try unfold IntKind.bits; try unfold IntKind.signed) <;> simp <;> omega
def bitN (op : BinOp) (a b : Nat) : Option Nat :=
  match op with
  | .and => some (a &&& b)
  | .or => some (a ||| b)
  | .xor => some (a ^^^ b)
  | _ => none
theorem bits_nat {op : BinOp} {k : IntKind} {a b : Int} {r : Nat} (h : bitN op a.toNat b.toNat = some r) (a0 : 0 ≤ a) (b0 : 0 ≤ b) (a1 : a ≤ kmax k) (b1 : b ≤ kmax k) : bitsV op k a b = some (r : Int) ∧ (r : Int) ≤ kmax k := by
  obtain ⟨x, rfl⟩ : ∃ x : Nat, a = x := ⟨a.toNat, by omega⟩
  obtain ⟨y, rfl⟩ : ∃ y : Nat, b = y := ⟨b.toNat, by omega⟩
  have hk := kmax_bits k
  have hx : x < 2 ^ k.bits := by have : (x : Int) < 2 ^ k.bits := by omega
                                 exact_mod_cast this
  have hy : y < 2 ^ k.bits := by have : (y : Int) < 2 ^ k.bits := by omega
                                 exact_mod_cast this
  have km : ∃ m : Nat, kmax k = ((2 ^ m - 1 : Nat) : Int) := by
    cases k
    · exact ⟨7, rfl⟩
    · exact ⟨15, rfl⟩
    · exact ⟨31, rfl⟩
    · exact ⟨63, rfl⟩
    · exact ⟨8, rfl⟩
    · exact ⟨16, rfl⟩
    · exact ⟨32, rfl⟩
    · exact ⟨64, rfl⟩
  obtain ⟨m, hm⟩ := km
  have hp := Nat.two_pow_pos m
  have x1 : x < 2 ^ m := by rw [hm] at a1; omega
  have y1 : y < 2 ^ m := by rw [hm] at b1; omega
  simp only [Int.toNat_natCast] at h
  have key : ∀ r : Nat, r < 2 ^ m → (r : Int) ≤ kmax k := fun r hr => by rw [hm]; omega
  have ex : (BitVec.ofInt k.bits (x : Int)).toNat = x := by simp [Nat.mod_eq_of_lt hx]
  have ey : (BitVec.ofInt k.bits (y : Int)).toNat = y := by simp [Nat.mod_eq_of_lt hy]
  cases op <;> first | (cases h; done) | skip
  · obtain rfl := Option.some.inj h
    have := key (x &&& y) (Nat.lt_of_le_of_lt Nat.and_le_left x1)
    refine ⟨?_, this⟩
    unfold bitsV
    rw [BitVec.toNat_and, ex, ey, wrap_in k _ (by omega) this]
  · obtain rfl := Option.some.inj h
    have := key (x ||| y) (Nat.or_lt_two_pow x1 y1)
    refine ⟨?_, this⟩
    unfold bitsV
    rw [BitVec.toNat_or, ex, ey, wrap_in k _ (by omega) this]
  · obtain rfl := Option.some.inj h
    have := key (x ^^^ y) (Nat.xor_lt_two_pow x1 y1)
    refine ⟨?_, this⟩
    unfold bitsV
    rw [BitVec.toNat_xor, ex, ey, wrap_in k _ (by omega) this]
section
variable {P : Program} {q : View} {T : Nat → Option TyI} {n : Nat} {σ : Facts} {A : List HProp}
theorem op_bitn [DS] {op : BinOp} {t yt : Nat} {x y : Operand} {k : IntKind} {a b : Int} {r : Nat} (hx : ev σ x = some (.int k a)) (hy : ev σ y = some (.int k b)) (h : bitN op a.toNat b.toNat = some r)
    (a0 : 0 ≤ a) (b0 : 0 ≤ b) (a1 : a ≤ kmax k) (b1 : b ≤ kmax k) : OpQ P q n σ (.binOp op t x y yt) A (.int k (r : Int)) := opq_pure fun ac o hσ ho w => by
  obtain ⟨e, _⟩ := bits_nat h a0 b0 a1 b1
  have : (binS op t x y (.int k a) (.int k b)).run P w = .ok (.int k (r : Int)) w := by
    rw [binS_int]
    cases op <;> first | (cases h; done) | skip
    all_goals
      simp only [bitsV, Option.some.injEq] at e
      simp only [binOp, ne_eq, not_true_eq_false, if_false, Op.intBits]
      rw [← e]; rfl
  rw [exec_bin ho, hσ.ev hx, hσ.ev hy, Sem.run_bind, this]; rfl
theorem op_shrv [DS] {t yt : Nat} {x y : Operand} {k j : IntKind} {a b : Int} (hx : ev σ x = some (.int k a)) (hy : ev σ y = some (.int j b)) (b0 : 0 ≤ b) (b1 : b ≤ k.bits) (a0 : 0 ≤ a) :
    OpQ P q n σ (.binOp .shr t x y yt) A (.int k (a / 2 ^ b.toNat)) := by
  have key := op_shr (P := P) (q := q) (n := n) (A := A) (t := t) (yt := yt) hx hy b0
  rw [Nat.min_eq_left (by omega), Int.fdiv_eq_ediv_of_nonneg _ (Int.le_of_lt (Int.pow_pos (by decide)))] at key
  exact key
theorem op_shlc [DS] {t yt : Nat} {x y : Operand} {k j : IntKind} {a b c : Int} (hx : ev σ x = some (.int k a)) (hy : ev σ y = some (.int j b)) (hc : pwN b.toNat = some c) (b0 : 0 ≤ b) (b1 : b ≤ k.bits) (a0 : 0 ≤ a) (a1 : a * c ≤ kmax k) :
    OpQ P q n σ (.binOp .shl t x y yt) A (.int k (a * c)) := by
  obtain ⟨rfl, _⟩ := pwN_eq hc
  have key := op_shl (P := P) (q := q) (n := n) (A := A) (t := t) (yt := yt) hx hy b0
  rw [Nat.min_eq_left (by omega), wrap_in k _ (Int.mul_nonneg a0 (Int.le_of_lt (Int.pow_pos (by decide)))) a1] at key
  exact key
end
section
variable {P : Program} {q : View} {T : Nat → Option TyI} {fn : Func} {R : Value → HProp} {k : List It} {σ σ' : Facts} {A : List HProp} {st : Bool} {md : Md} {ds : List (Option Tmp)} {os : List SOp} {dst : Option Tmp} {type : TypeId} {gd : Option (Nat × Bool)}
theorem w_bitn {_ : DS} {op : BinOp} {t yt : Nat} {x y : Operand} {kk : IntKind} {a b : Int} {r : Nat} (hg : guardOf σ ds gd = some true) (hx : ev σ x = some (.int kk a)) (hy : ev σ y = some (.int kk b)) (h : bitN op a.toNat b.toNat = some r)
    (a0 : 0 ≤ a) (b0 : 0 ≤ b) (a1 : a ≤ kmax kk) (b1 : b ≤ kmax kk) (hp : putF fn.ntmps dst (.int kk (r : Int)) σ = some σ') (hk : Run P q fn R (.ops md ds os :: k) σ' A) : Run P q fn R (.ops md ds (⟨dst, .binOp op t x y yt, type, gd⟩ :: os) :: k) σ A :=
  run_lookP hg (op_bitn hx hy h a0 b0 a1 b1) hp hk
theorem w_shrv {_ : DS} {t yt : Nat} {x y : Operand} {kk j : IntKind} {a b : Int} (hg : guardOf σ ds gd = some true) (hx : ev σ x = some (.int kk a)) (hy : ev σ y = some (.int j b)) (b0 : 0 ≤ b) (b1 : b ≤ kk.bits) (a0 : 0 ≤ a)
    (hp : putF fn.ntmps dst (.int kk (a / 2 ^ b.toNat)) σ = some σ') (hk : Run P q fn R (.ops md ds os :: k) σ' A) : Run P q fn R (.ops md ds (⟨dst, .binOp .shr t x y yt, type, gd⟩ :: os) :: k) σ A :=
  run_lookP hg (op_shrv hx hy b0 b1 a0) hp hk
theorem w_shlc {_ : DS} {t yt : Nat} {x y : Operand} {kk j : IntKind} {a b c : Int} (hg : guardOf σ ds gd = some true) (hx : ev σ x = some (.int kk a)) (hy : ev σ y = some (.int j b)) (hc : pwN b.toNat = some c) (b0 : 0 ≤ b) (b1 : b ≤ kk.bits) (a0 : 0 ≤ a) (a1 : a * c ≤ kmax kk)
    (hp : putF fn.ntmps dst (.int kk (a * c)) σ = some σ') (hk : Run P q fn R (.ops md ds os :: k) σ' A) : Run P q fn R (.ops md ds (⟨dst, .binOp .shl t x y yt, type, gd⟩ :: os) :: k) σ A :=
  run_lookP hg (op_shlc hx hy hc b0 b1 a0 a1) hp hk
end
section
variable {P : Program} {q : View} {fn : Func} {R : Value → HProp} {k : List It} {σ : Facts} {A L : List HProp}
/-- A block of one's own as a slice of all of it. -/
theorem run_to_sl {_ : DS} {b n : Nat} {t : TypeId} {kk : Nat} {xs : List Value} (h1 : n * kk = xs.length) (hk : Run P q fn R k σ (sl (some ⟨b, 0, none⟩) n n t kk xs :: A)) : Run P q fn R k σ (cells b t ⟨xs⟩ :: A) :=
  hk.imp (fun g w0 w s => by
    have s1 : St g w0 (sep (cells b t (xs ++ []).toArray) (star A)) w := by rw [List.append_nil]; exact s
    exact s1.sl_shut h1 (by simpa using h1) (Nat.le_refl n))
end
end Go.Proofs.YtaiocnpecaecdaaGreatDoor.VL
namespace Go.Proofs.YtaiocnpecaecdaaGreatDoor.VL
open View RowKit
section
variable {P : Program} {q : View} {T : Nat → Option TyI} {n : Nat} {σ : Facts} {A : List HProp}
end
section
variable {P : Program} {q : View} {T : Nat → Option TyI} {fn : Func} {R : Value → HProp} {k : List It} {σ σ' : Facts} {A : List HProp} {st : Bool} {md : Md} {ds : List (Option Tmp)} {os : List SOp} {dst : Option Tmp} {type : TypeId} {gd : Option (Nat × Bool)}
end
/-- Whole numbers as cells. -/
def iv (l : List Nat) : List Value := l.map fun (n : Nat) => Value.int .i64 (n : Int)
@[simp] theorem iv_length (l : List Nat) : (iv l).length = l.length := List.length_map _
theorem iv_append (l m : List Nat) : iv (l ++ m) = iv l ++ iv m := List.map_append
theorem bv_append (l m : List UInt8) : bv (l ++ m) = bv l ++ bv m := List.map_append
attribute [simp] bv_length
section
variable {P : Program} {q : View} {T : Nat → Option TyI} {fn : Func} {R : Value → HProp} {k : List It} {σ σ' : Facts} {A L : List HProp} {f : HProp → List HProp} {st : Bool} {md : Md} {ds : List (Option Tmp)} {os : List SOp} {dst : Option Tmp} {type : TypeId} {gd : Option (Nat × Bool)}
end
end Go.Proofs.YtaiocnpecaecdaaGreatDoor.VL
namespace Go.Proofs.YtaiocnpecaecdaaGreatDoor.VL
open View RowKit
/-- From this place on these values stand, and stay. -/
def Old (q : View) (b o : Nat) (vs : List Value) : Prop := ∃ c tc fr, q b = some (.cells c tc fr) ∧ ∀ i, i < vs.length → c[o + i]? = vs[i]?
theorem Old.mono {q q' : View} {b o : Nat} {vs : List Value} (h : Old q b o vs) (s : Sub q q') : Old q' b o vs := by
  obtain ⟨c, tc, fr, h1, h2⟩ := h
  exact ⟨c, tc, fr, s _ _ h1, h2⟩
theorem RowQ.old {q : View} {p : Option Addr} {n k : Nat} {vs : List Value} (h : RowQ q p n k vs) (hn : 0 < n) : ∃ b o, p = some ⟨b, o, none⟩ ∧ Old q b o vs := by
  obtain ⟨b, o, c, tc, fr, e, hb, hi⟩ := h.open_ hn
  exact ⟨b, o, e, c, tc, fr, hb, fun i hlt => hi i (by rw [← h.1]; exact hlt)⟩
section
variable {P : Program} {q : View} {fn : Func} {R : Value → HProp} {T : Nat → Option TyI} {k kt : List It} {σ σ' : Facts} {A : List HProp} {st : Bool} {ds : List (Option Tmp)} {os : List SOp} {dst : Option Tmp} {type : TypeId} {gd : Option (Nat × Bool)}
theorem w_load_o {_ : DS} {t : Nat} {x : Operand} {b o i j : Nat} {ti : TyI} {vs : List Value} {v : Value} (hT : TabOk P T) (h : Old q b o vs) (hj : vs[j]? = some v) (hg : guardOf σ ds gd = some true) (hx : ev σ x = some (.pointer (some ⟨b, i, none⟩))) (ht : T t = some ti) (ha : isAggD ti.und = false) (hi : i = o + j) (hp : putF fn.ntmps dst v σ = some σ') (hkk : Run P q fn R (.ops (.mem st) ds os :: kt) σ' A) :
    Run P q fn R (.ops (.mem st) ds (⟨dst, (.load t x), type, gd⟩ :: os) :: kt) σ A := by
  obtain ⟨c, tc, fr, hb, hc⟩ := h
  subst hi
  exact w_load_old hT hg hx ht ha hb (by rw [hc j (List.getElem?_eq_some_iff.1 hj).1]; exact hj) hp hkk
theorem w_load_agg_o {_ : DS} {t : Nat} {x : Operand} {b o i j m : Nat} {ti : TyI} {vs ls : List Value} (hT : TabOk P T) (h : Old q b o vs) (hc : (vs.drop j).take m = ls) (hle : j + m ≤ vs.length) (h0 : 0 < m) (hg : guardOf σ ds gd = some true) (hx : ev σ x = some (.pointer (some ⟨b, i, none⟩))) (ht : T t = some ti) (ha : isAggD ti.und = true) (hm : ti.size = m) (hi : i = o + j) (hp : putF fn.ntmps dst (.agg ⟨ls⟩) σ = some σ') (hkk : Run P q fn R (.ops (.mem st) ds os :: kt) σ' A) :
    Run P q fn R (.ops (.mem st) ds (⟨dst, (.load t x), type, gd⟩ :: os) :: kt) σ A := by
  obtain ⟨c, tc, fr, hb, hcc⟩ := h
  subst hi hm hc
  have hsz : ∀ i, i < vs.length → o + i < c.size := fun i hi => by
    have := hcc i hi
    rw [List.getElem?_eq_getElem hi] at this
    exact (Array.getElem?_eq_some_iff.1 this).1
  have h1 : o + j + ti.size ≤ c.size := by
    have := hsz (j + ti.size - 1) (by omega); omega
  refine w_load_agg_old hT hg hx ht ha hb h1 ?_ hkk
  have e : c.extract (o + j) (o + j + ti.size) = ((vs.drop j).take ti.size).toArray := by
    apply Array.ext_getElem?
    intro i
    have e1 : ((vs.drop j).take ti.size).toArray[i]? = ((vs.drop j).take ti.size)[i]? := by simp
    rw [e1, Array.getElem?_extract, List.getElem?_take, List.getElem?_drop]
    by_cases hi : i < ti.size
    · rw [if_pos hi, if_pos (by omega), Nat.add_assoc, hcc (j + i) (by omega)]
    · rw [if_neg hi, if_neg (by omega)]
  rw [e]; exact hp
variable {S : List HProp} {ops : Array Oper} {mm : Nat} {listed : Array Bool} {pos : String} {after : Array Edge}
theorem a_load_o {_ : DS} (ii : Nat) {t : Nat} {x : Operand} {b o i j : Nat} {ti : TyI} {vs : List Value} {v : Value} (hT : TabOk P T) (h : Old q b o vs) (hj : vs[j]? = some v) (zi : nthG ops.toList ii = some ⟨dst, .load t x, type, pos, after, gd⟩) (zn : Region.noSelect ops = true) (zf : Region.free .any ops listed ii = true) (zr : (Region.ready .any ops listed).contains ii = true)
    (zg : guardOf σ (ops.toList.map (·.dst)) gd = some true) (hx : ev σ x = some (.pointer (some ⟨b, i, none⟩))) (ht : T t = some ti) (ha : isAggD ti.und = false) (hi : i = o + j) (hp : putF fn.ntmps dst v σ = some σ') (hkk : RunA P q fn R kt ops mm (listed.setIfInBounds ii true) S σ' A) : RunA P q fn R kt ops (mm + 1) listed S σ A := by
  obtain ⟨c, tc, fr, hb, hc⟩ := h
  subst hi
  exact a_load_old ii hT zi zn zf zr zg hx ht ha hb (by rw [hc j (List.getElem?_eq_some_iff.1 hj).1]; exact hj) hp hkk
end
end Go.Proofs.YtaiocnpecaecdaaGreatDoor.VL
namespace Go.Proofs.YtaiocnpecaecdaaGreatDoor.VL
open View RowKit
variable {P : Program} {q : View} {fn : Func} {R : Value → HProp} {k : List It} {σ σ' : Facts} {A A' : List HProp}
def isOps : It → Bool
  | .ops .. => true
  | _ => false
theorem Post_cut {g : View} {w0 : World} {J : View → World → Act → World → Prop} (h : ∀ a w, J g w0 a w → Post P fn R g w0 k .normal a w) : ∀ (pre : List It) (hpre : ∀ x ∈ pre, isOps x = false) (e : Exit) (a : Act) (w : World), Post P fn R g w0 (pre ++ .stop J :: k) e a w → Post P fn R g w0 (pre ++ k) e a w
  | [], hpre, e, a, w, hh => by
    cases e with
    | normal => exact h a w hh
    | _ => exact hh
  | .code c :: pre, hpre, e, a, w, hh => by
    cases e with
    | normal => exact wp_mono hh fun e a w => Post_cut h pre (fun x hx => hpre x (List.mem_cons_of_mem _ hx)) e a w
    | _ => exact Post_cut h pre (fun x hx => hpre x (List.mem_cons_of_mem _ hx)) _ a w hh
  | .blk id :: pre, hpre, e, a, w, hh => by
    cases e with
    | exit n =>
      have hh : (if n = id then Post P fn R g w0 (pre ++ .stop J :: k) .normal a w else Post P fn R g w0 (pre ++ .stop J :: k) (.exit n) a w) := hh
      show (if n = id then Post P fn R g w0 (pre ++ k) .normal a w else Post P fn R g w0 (pre ++ k) (.exit n) a w)
      by_cases hn : n = id
      · rw [if_pos hn] at hh ⊢; exact Post_cut h pre (fun x hx => hpre x (List.mem_cons_of_mem _ hx)) _ a w hh
      · rw [if_neg hn] at hh ⊢; exact Post_cut h pre (fun x hx => hpre x (List.mem_cons_of_mem _ hx)) _ a w hh
    | _ => exact Post_cut h pre (fun x hx => hpre x (List.mem_cons_of_mem _ hx)) _ a w hh
  | .ops md ds os :: pre, hpre, e, a, w, hh => absurd (hpre (.ops md ds os) List.mem_cons_self) (by simp [isOps])
  | .stop J' :: pre, hpre, e, a, w, hh => by
    cases e with
    | normal => exact hh
    | _ => exact Post_cut h pre (fun x hx => hpre x (List.mem_cons_of_mem _ hx)) _ a w hh
/-- The same, with what holds there. -/
theorem run_cutI {_ : DS} {X : Type} {c : Code} {id : Nat} (I : X → Prop) (F : X → Facts) (B : X → List HProp)
    (h : Run P q fn R (.code c :: .blk id :: .stop (fun g w0 a w => ∃ x', I x' ∧ Holds fn.ntmps (F x') a ∧ St g w0 (star (B x')) w) :: k) σ A) (hk : ∀ x, I x → Run P q fn R k (F x) (B x)) :
    Run P q fn R (.code c :: .blk id :: k) σ A := fun g w0 a w hq hσ s =>
  Post_cut (k := k) (fun a w ⟨x, hx, h1, h2⟩ => hk x hx g w0 a w hq h1 h2) [.code c, .blk id] (by simp [isOps]) .normal a w (h g w0 a w hq hσ s)
/-- The same in front of any code. -/
theorem run_cuti {_ : DS} {X : Type} {c : Code} (I : X → Prop) (F : X → Facts) (B : X → List HProp)
    (h : Run P q fn R (.code c :: .stop (fun g w0 a w => ∃ x', I x' ∧ Holds fn.ntmps (F x') a ∧ St g w0 (star (B x')) w) :: k) σ A) (hk : ∀ x, I x → Run P q fn R k (F x) (B x)) :
    Run P q fn R (.code c :: k) σ A := fun g w0 a w hq hσ s =>
  Post_cut (k := k) (fun a w ⟨x, hx, h1, h2⟩ => hk x hx g w0 a w hq h1 h2) [.code c] (by simp [isOps]) .normal a w (h g w0 a w hq hσ s)
end Go.Proofs.YtaiocnpecaecdaaGreatDoor.VL
namespace Go.Proofs.YtaiocnpecaecdaaGreatDoor.VL
open View RowKit
variable {P : Program} {q : View} {fn : Func} {R : Value → HProp} {k kt : List It} {σ σ' : Facts} {A A' S : List HProp} {ops : Array Oper} {mm : Nat} {listed : Array Bool}
theorem Post_out {g : View} {w0 : World} : ∀ (k : List It) (a : Act) (w : World), ¬ Post P fn R g w0 k .outgrown a w
  | [], a, w, h => h
  | .code c :: k, a, w, h => Post_out k a w h
  | .blk id :: k, a, w, h => Post_out k a w h
  | .ops md ds os :: k, a, w, h => Post_out k a w h
  | .stop J :: k, a, w, h => Post_out k a w h
/-- What stands where a row of operations ends. -/
def Fin [DS] {X : Type} (n : Nat) (F : X → Facts) (B : X → List HProp) : It := .stop fun g w0 a w => ∃ x, Holds n (F x) a ∧ St g w0 (star (B x)) w
theorem run_fin {_ : DS} {X : Type} {F : X → Facts} {B : X → List HProp} {md : Md} {ds : List (Option Tmp)} (x : X) (hF : F x = σ := by exact rfl) (hB : B x = A := by exact rfl) : Run P q fn R (.ops md ds [] :: Fin fn.ntmps F B :: k) σ A := fun g w0 a w hq hσ s =>
  show ∃ x, _ from ⟨x, by rw [hF]; exact hσ, by rw [hB]; exact s⟩
/-- Operation i, when it comes up, does what a row of it alone does. -/
theorem o_via {_ : DS} (i : Nat) {X : Type} {o : Oper} {F : X → Facts} {B : X → List HProp} (hi : nthG ops.toList i = some o) (hg : guardOf σ (ops.toList.map (·.dst)) o.guard = some true)
    (h1 : Run P q fn R (.ops (.mem false) (ops.toList.map (·.dst)) [slim o] :: Fin fn.ntmps F B :: []) σ A)
    (h : ∀ x, RunA P q fn R kt ops mm (listed.setIfInBounds i true) S (F x) (B x)) : RunO P q fn R kt ops mm listed S σ A i := fun hS g w0 a w hs d hq hσ s => by
  unfold wpOp
  rw [nthG_arr hi]
  simp only [guardOf_region hσ hg, if_true]
  left
  rw [sep_comm] at s
  obtain ⟨x, hx1, d1, s1⟩ := s.split
  have hx1 : x = hS := hx1
  subst hx1
  have h2 := h1 _ w0 a w (hq.add d1) hσ s1
  have h2 : wpL P (.mem false) (ops.toList.map (·.dst)) (Post P fn R _ w0 [Fin fn.ntmps F B]) ([slim o].map SOp.oper) a w := h2
  have h2 := wpL_slim (P := P) [o] a w h2
  unfold wpL at h2
  rw [guardOf_eq hσ hg, if_pos rfl] at h2
  have h2 : o.wp P a w (wpL P (.mem false) (ops.toList.map (·.dst)) (Post P fn R _ w0 [Fin fn.ntmps F B]) []) (Post P fn R _ w0 [Fin fn.ntmps F B]) := h2
  refine Oper.wp_swap (fun c a w hh => absurd hh (Post_panic _ _ _ _)) (fun ⟨a, w, hh⟩ => absurd hh (Post_out _ _ _)) (Oper.wp_mono ?_ h2)
  intro a' w' hh
  obtain ⟨y, hf, s2⟩ := (show ∃ y, Holds fn.ntmps (F y) a' ∧ St _ w0 (star (B y)) w' from hh)
  have s3 := s2.join (F := eqv x) rfl d1
  rw [sep_comm] at s3
  exact ⟨s3.sw, h y x g w0 a' w' hs d hq hf s3⟩
/-- The same, when it is the only one that may come up. -/
theorem a_via {_ : DS} (i : Nat) {X : Type} {o : Oper} {F : X → Facts} {B : X → List HProp} (hi : nthG ops.toList i = some o) (hr : Region.ready .any ops listed = [i]) (hg : guardOf σ (ops.toList.map (·.dst)) o.guard = some true)
    (h1 : Run P q fn R (.ops (.mem false) (ops.toList.map (·.dst)) [slim o] :: Fin fn.ntmps F B :: []) σ A)
    (h : ∀ x, RunA P q fn R kt ops mm (listed.setIfInBounds i true) S (F x) (B x)) : RunA P q fn R kt ops (mm + 1) listed S σ A :=
  any_each hr (o_via i hi hg h1 h) (by simp)
end Go.Proofs.YtaiocnpecaecdaaGreatDoor.VL
namespace Go.Proofs.YtaiocnpecaecdaaGreatDoor.VL
open View RowKit
/-- A map: its keys and elements, in the order in which they came. -/
def mapc (b : Nat) (l : List (Value × Value)) : HProp := hex fun x : Array MapEntry × Nat => sep (hpure (x.1.toList.map (fun e => (e.key, e.val)) = l)) (pt b (.map x.1 x.2))
theorem St.map_open {g : View} {w0 w : World} {b : Nat} {l : List (Value × Value)} {F : HProp} (s : St g w0 (sep (mapc b l) F) w) :
    ∃ es clock, es.toList.map (fun e => (e.key, e.val)) = l ∧ St g w0 (sep (pt b (.map es clock)) F) w ∧ w.heap[b]? = some (.map es clock) := by
  obtain ⟨x, s1⟩ := s.ex
  rw [sep_assoc] at s1
  obtain ⟨e, s2⟩ := s1.pure
  exact ⟨x.1, x.2, e, s2, s2.heap⟩
theorem St.map_shut {g : View} {w0 w : World} {b : Nat} {es : Array MapEntry} {clock : Nat} {l : List (Value × Value)} {F : HProp} (e : es.toList.map (fun e => (e.key, e.val)) = l) (s : St g w0 (sep (pt b (.map es clock)) F) w) : St g w0 (sep (mapc b l) F) w := by
  have h1 : St g w0 (sep (sep (hpure (es.toList.map (fun e => (e.key, e.val)) = l)) (pt b (.map es clock))) F) w := by
    rw [sep_assoc]; exact s.pure_intro e
  exact (Imp.ex (F := fun x : Array MapEntry × Nat => sep (hpure (x.1.toList.map (fun e => (e.key, e.val)) = l)) (pt b (.map x.1 x.2))) (es, clock)).frame F g w0 w h1
/-- What a look for a key finds. -/
structure KeyFind (P : Program) (t : TypeId) (k : Value) (l : List (Value × Value)) (r : Option (Nat × Value)) : Prop where
  check : ∀ e w, (Instr.checkKey e 10000 t k).run P w = .ok () w
  find : ∀ (es : List MapEntry) w, es.map (fun e => (e.key, e.val)) = l → (Instr.findKey t k es).run P w = .ok r w
section
variable {P : Program} {q : View} {T : Nat → Option TyI} {n : Nat} {σ : Facts} {A : List HProp} {f : HProp → List HProp}
theorem op_makeMap [DS] {t : Nat} : OpX P q n σ (.makeMap t none) (star A) (fun r : Nat => .map (some r)) fun r => mapc r [] :: A := fun a o hσ ho g w0 w hq s => by
  refine ⟨w.alloc (.map #[] 0), w.heap.size, .inl ?_, (s.new (.map #[] 0)).map_shut rfl⟩
  obtain ⟨dst, op, type, pos, after, guard⟩ := o
  obtain rfl : op = _ := ho
  rfl
theorem op_lookup [DS] (hT : TabOk P T) {t kt et b : Nat} {x y : Operand} {ti ei : TyI} {k z : Value} {l : List (Value × Value)} {r : Option (Nat × Value)} {ok : Bool} (hx : ev σ x = some (.map (some b))) (hy : ev σ y = some k) (ht : T t = some ti) (hu : ti.und = .map kt et) (he : T et = some ei) (hz : ei.zero = some z)
    (hA : At A (mapc b l) f) (hk : KeyFind P kt k l r) : OpQ P q n σ (.lookup t x y ok) A (if ok then .tuple #[(r.map (·.2)).getD z, .bool r.isSome] else (r.map (·.2)).getD z) := fun a o hσ ho g w0 w hq s => by
  obtain ⟨L, e, _⟩ := hA.out
  obtain ⟨es, clock, hes, _, hh⟩ := (show St g w0 (sep (mapc b l) (star L)) w from e ▸ s).map_open
  obtain ⟨dst, op, type, pos, after, guard⟩ := o
  obtain rfl : op = _ := ho
  rw [show execOp a.eval _ = (do pure (.value (← Instr.lookup t (a.eval x) (a.eval y) ok))) from rfl, hσ.ev hx, hσ.ev hy]
  have hf := hk.find es.toList w hes
  have hc := hk.check es.isEmpty w
  unfold Instr.lookup
  simp only [Sem.run_bind, und_run hT ht, hu, Result.andThen, Sem.run_pure, MapKept.run_getObj_map hh, hc, hf]
  cases r with
  | none =>
    simp only [Sem.run_bind, zero_run hT he hz, Result.andThen, Sem.run_pure]
    cases ok <;> rfl
  | some p => cases ok <;> rfl
theorem op_mapNew [DS] (hT : TabOk P T) {t kt et b : Nat} {x y z : Operand} {ti : TyI} {k v : Value} {l : List (Value × Value)} (hx : ev σ x = some (.map (some b))) (hy : ev σ y = some k) (hv : ev σ z = some v) (ht : T t = some ti) (hu : ti.und = .map kt et)
    (hA : At A (mapc b l) f) (hk : KeyFind P kt k l none) : OpD P q n σ (.mapUpdate t x y z) (star A) undef (f (mapc b (l ++ [(k, v)]))) := fun a o hσ ho g w0 w hq s => by
  obtain ⟨L, e, e'⟩ := hA.out
  obtain ⟨es, clock, hes, s1, hh⟩ := (show St g w0 (sep (mapc b l) (star L)) w from e ▸ s).map_open
  have hs := MapKept.heap_set (o' := .map (es.push { key := k, val := v, born := clock }) (clock + 1)) hh
  have s2 : St g w0 (sep (pt b (.map (es.push { key := k, val := v, born := clock }) (clock + 1))) (star L)) { w with heap := w.heap.setIfInBounds b (.map (es.push { key := k, val := v, born := clock }) (clock + 1)) } :=
    s1.put (by simp) hs.1 hs.2 rfl rfl rfl
  refine ⟨{ w with heap := w.heap.setIfInBounds b (.map (es.push { key := k, val := v, born := clock }) (clock + 1)) }, (), .inr ⟨?_, rfl⟩, ?_⟩
  rotate_left
  · show St g w0 (star (f _)) _
    rw [e' _]
    exact s2.map_shut (by simp [hes])
  · obtain ⟨dst, op, type, pos, after, guard⟩ := o
    obtain rfl : op = _ := ho
    rw [show execOp a.eval _ = (do Instr.mapUpdate t (a.eval x) (a.eval y) (a.eval z); pure .skip) from rfl, hσ.ev hx, hσ.ev hy, hσ.ev hv]
    have hf := hk.find es.toList w hes
    have hc := hk.check false w
    unfold Instr.mapUpdate
    simp only [Sem.run_bind, und_run hT ht, hu, Result.andThen, Sem.run_pure, MapKept.run_getObj_map hh, hc, hf, MapKept.run_setObj_map _ hh]
theorem op_lenMap [DS] (hT : TabOk P T) {t kt et b : Nat} {x : Operand} {ti : TyI} {l : List (Value × Value)} (hx : ev σ x = some (.map (some b))) (ht : T t = some ti) (hu : ti.und = .map kt et) (hA : At A (mapc b l) f) :
    OpQ P q n σ (.call { callee := .builtin .len, args := ⟨[x]⟩, argTypes := ⟨[t]⟩ }) A (.int .i64 (l.length : Int)) := fun a o hσ ho g w0 w hq s => by
  obtain ⟨L, e, _⟩ := hA.out
  obtain ⟨es, clock, hes, _, hh⟩ := (show St g w0 (sep (mapc b l) (star L)) w from e ▸ s).map_open
  obtain ⟨dst, op, type, pos, after, guard⟩ := o
  obtain rfl : op = _ := ho
  have hl : l.length = es.size := by rw [← hes]; simp
  simp only [execOp, resolve, invoke, builtin]
  rw [Sem.run_bind]
  simp only [Sem.run_pure, Result.andThen, List.map_toArray, List.map_cons, List.map_nil, hσ.ev hx]
  have : (Builtin.len_ #[t] type #[.map (some b)]).run P w = .ok (.int .i64 (l.length : Int)) w := by
    unfold Builtin.len_
    simp only [List.getElem?_toArray, List.getElem?_cons_zero]
    rw [Sem.run_bind, und_run hT ht, hu]
    simp only [Result.andThen, Sem.run_bind, MapKept.run_getObj_map hh, Sem.run_pure, hl]
    rfl
  rw [Sem.run_bind, this]; rfl
end
section
variable {P : Program} {q : View} {fn : Func} {R : Value → HProp} {T : Nat → Option TyI} {kt : List It} {σ σ' : Facts} {A : List HProp} {f : HProp → List HProp} {st : Bool} {ds : List (Option Tmp)} {os : List SOp} {dst : Option Tmp} {type : TypeId} {gd : Option (Nat × Bool)}
theorem w_makeMap {_ : DS} {t : Nat} {σ' : Nat → Facts} (hg : guardOf σ ds gd = some true) (hp : ∀ r, putF fn.ntmps dst (.map (some r)) σ = some (σ' r)) (hkk : ∀ r, Run P q fn R (.ops (.mem false) ds os :: kt) (σ' r) (mapc r [] :: A)) :
    Run P q fn R (.ops (.mem false) ds (⟨dst, .makeMap t none, type, gd⟩ :: os) :: kt) σ A := run_opx hg op_makeMap hp hkk
theorem w_look2n {_ : DS} {t ke et b : Nat} {x y : Operand} {ti ei : TyI} {k z : Value} {l : List (Value × Value)} (hT : TabOk P T) (hk : KeyFind P ke k l none) (hg : guardOf σ ds gd = some true) (hx : ev σ x = some (.map (some b))) (hy : ev σ y = some k) (ht : T t = some ti) (hu : ti.und = .map ke et) (he : T et = some ei) (hz : ei.zero = some z)
    (hA : At A (mapc b l) f) (hp : putF fn.ntmps dst (.tuple #[z, .bool false]) σ = some σ') (hkk : Run P q fn R (.ops (.mem st) ds os :: kt) σ' A) : Run P q fn R (.ops (.mem st) ds (⟨dst, .lookup t x y true, type, gd⟩ :: os) :: kt) σ A :=
  run_look hg (op_lookup hT hx hy ht hu he hz hA hk) hp hkk
theorem w_look2s {_ : DS} {t ke et b i : Nat} {x y : Operand} {ti ei : TyI} {k v z : Value} {l : List (Value × Value)} (hT : TabOk P T) (hk : KeyFind P ke k l (some (i, v))) (hg : guardOf σ ds gd = some true) (hx : ev σ x = some (.map (some b))) (hy : ev σ y = some k) (ht : T t = some ti) (hu : ti.und = .map ke et) (he : T et = some ei) (hz : ei.zero = some z)
    (hA : At A (mapc b l) f) (hp : putF fn.ntmps dst (.tuple #[v, .bool true]) σ = some σ') (hkk : Run P q fn R (.ops (.mem st) ds os :: kt) σ' A) : Run P q fn R (.ops (.mem st) ds (⟨dst, .lookup t x y true, type, gd⟩ :: os) :: kt) σ A :=
  run_look hg (op_lookup hT hx hy ht hu he hz hA hk) hp hkk
theorem w_mapNew {_ : DS} {t ke et b : Nat} {x y z : Operand} {ti : TyI} {k v : Value} {l : List (Value × Value)} (hT : TabOk P T) (hk : KeyFind P ke k l none) (hg : guardOf σ ds gd = some true) (hx : ev σ x = some (.map (some b))) (hy : ev σ y = some k) (hv : ev σ z = some v) (ht : T t = some ti) (hu : ti.und = .map ke et)
    (hA : At A (mapc b l) f) (hp : putF fn.ntmps dst undef σ = some σ') (hkk : Run P q fn R (.ops (.mem false) ds os :: kt) σ' (f (mapc b (l ++ [(k, v)])))) : Run P q fn R (.ops (.mem false) ds (⟨dst, .mapUpdate t x y z, type, gd⟩ :: os) :: kt) σ A :=
  run_op hg (op_mapNew hT hx hy hv ht hu hA hk) hp hkk
theorem w_lenMap {_ : DS} {t ke et b : Nat} {x : Operand} {ti : TyI} {l : List (Value × Value)} (hT : TabOk P T) (hg : guardOf σ ds gd = some true) (hx : ev σ x = some (.map (some b))) (ht : T t = some ti) (hu : ti.und = .map ke et) (hA : At A (mapc b l) f) (hp : putF fn.ntmps dst (.int .i64 (l.length : Int)) σ = some σ') (hkk : Run P q fn R (.ops (.mem st) ds os :: kt) σ' A) :
    Run P q fn R (.ops (.mem st) ds (⟨dst, .call { callee := .builtin .len, args := ⟨[x]⟩, argTypes := ⟨[t]⟩ }, type, gd⟩ :: os) :: kt) σ A :=
  run_look hg (op_lenMap hT hx ht hu hA) hp hkk
end
section
variable {P : Program} {q : View} {fn : Func} {R : Value → HProp} {kt : List It} {σ σ' : Facts} {A S : List HProp} {ops : Array Oper} {mm : Nat} {listed : Array Bool} {dst : Option Tmp} {type : TypeId} {pos : String} {after : Array Edge} {gd : Option (Nat × Bool)}
theorem a_shrv {_ : DS} (ii : Nat) {t yt : Nat} {x y : Operand} {k j : IntKind} {a b : Int} (zi : nthG ops.toList ii = some ⟨dst, .binOp .shr t x y yt, type, pos, after, gd⟩) (zn : Region.noSelect ops = true) (zf : Region.free .any ops listed ii = true) (zr : (Region.ready .any ops listed).contains ii = true) (zg : guardOf σ (ops.toList.map (·.dst)) gd = some true)
    (hx : ev σ x = some (.int k a)) (hy : ev σ y = some (.int j b)) (b0 : 0 ≤ b) (b1 : b ≤ k.bits) (a0 : 0 ≤ a) (hp : putF fn.ntmps dst (.int k (a / 2 ^ b.toNat)) σ = some σ') (hkk : RunA P q fn R kt ops mm (listed.setIfInBounds ii true) S σ' A) : RunA P q fn R kt ops (mm + 1) listed S σ A :=
  any_look ii (nthG_arr zi) zn zf zr zg (op_shrv hx hy b0 b1 a0) hp hkk
end
def findK {α : Type} [DecidableEq α] : List (α × Value) → α → Nat → Option (Nat × Value)
  | [], _, _ => none
  | (b, v) :: l, a, i => if a = b then some (i, v) else findK l a (i + 1)
theorem bytes_beq (a b : ByteArray) : (a == b) = decide (a = b) := by
  obtain ⟨x⟩ := a
  obtain ⟨y⟩ := b
  show (x == y) = _
  by_cases e : x = y
  · subst e; simp
  · rw [decide_eq_false (fun h => e (ByteArray.mk.inj h))]; simpa using e
theorem keyFind_str {P : Program} {t : TypeId} (hu : P.underlying t = some .string) (s : ByteArray) (l : List (ByteArray × Value)) : KeyFind P t (.string s) (l.map fun x => (.string x.1, x.2)) (findK l s 0) where
  check := fun e w => MapKept.run_checkKey hu (by first | exact ⟨_, rfl⟩ | (unfold MapKept.IsKey; trivial)) e 9999
  find := fun es w he => by
    refine MapKept.run_findKey hu ?_
    have key : ∀ (es : List MapEntry) (l : List (ByteArray × Value)) (i : Nat), es.map (fun e => (e.key, e.val)) = l.map (fun x => (Value.string x.1, x.2)) → Instr.findNow .string (.string s) es i = some (findK l s i) := by
      intro es
      induction es with
      | nil => intro l i h; cases l with
        | nil => rfl
        | cons x l => cases h
      | cons e es ih =>
        intro l i h
        cases l with
        | nil => cases h
        | cons x l =>
          simp only [List.map_cons, List.cons.injEq, Prod.mk.injEq] at h
          unfold Instr.findNow
          rw [h.1.1, show Instr.sameNow .string (.string s) (.string x.1) = some (s == x.1) from rfl]
          unfold findK
          by_cases hs : s = x.1
          · rw [if_pos hs]
            have : (s == x.1) = true := by rw [bytes_beq, decide_eq_true hs]
            rw [this]; simp only [h.1.2]
          · rw [if_neg hs]
            have : (s == x.1) = false := by rw [bytes_beq, decide_eq_false hs]
            rw [this]; exact ih l (i + 1) h.2
    exact key es l 0 he
/-- A field of a key. -/
inductive KV where
  | s (b : ByteArray)
  | i (k : IntKind) (n : Int)
  deriving DecidableEq
def KV.enc : KV → Value
  | .s b => .string b
  | .i k n => .int k n
def KV.fits (P : Program) (t : TypeId) : KV → Prop
  | .s _ => P.underlying t = some .string
  | .i k _ => P.underlying t = some (.int k)
def encK (l : List KV) : Value := .agg ⟨l.map KV.enc⟩
theorem KV.part {P : Program} {w : World} {t : TypeId} {x : KV} (h : x.fits P t) {xs : Array Value} {i : Nat} (hx : xs[i]? = some x.enc) : (Go.part t xs i).run P w = .ok x.enc w := by
  refine run_part_plain w ?_ hx
  unfold Program.plainKey
  cases x with
  | s b => rw [show P.underlying t = some .string from h]
  | i k n => rw [show P.underlying t = some (.int k) from h]
theorem KV.eq {P : Program} {w : World} {t : TypeId} {x y : KV} (d : Nat) (h : x.fits P t) (h2 : y.fits P t) : (Op.equalIn (d + 1) t x.enc y.enc).run P w = .ok (decide (x = y)) w := by
  cases x with
  | s a =>
    cases y with
    | s b =>
      refine (run_equalIn_string w d t a b h).trans ?_
      congr 1
      rw [← beq_toListBytes, bytes_beq, decide_eq_decide]
      exact ⟨fun e => by rw [e], fun e => KV.s.inj e⟩
    | i k n =>
      have h2 : P.underlying t = some (.int k) := h2
      rw [show P.underlying t = some .string from h] at h2; cases h2
  | i k m =>
    cases y with
    | s b =>
      have h2 : P.underlying t = some .string := h2
      rw [show P.underlying t = some (.int k) from h] at h2; cases h2
    | i j n =>
      have ej : k = j := by
        have h2 : P.underlying t = some (.int j) := h2
        rw [show P.underlying t = some (.int k) from h] at h2
        cases h2; rfl
      subst ej
      refine (run_equalIn_int w d t k k m n h).trans ?_
      congr 1
      by_cases e : m = n
      · subst e; simp
      · rw [decide_eq_false (fun h => e (KV.i.inj h).2)]; simpa using e
/-- The fields of a key's type, as they should be. -/
def RowFits (P : Program) (fs : List Field) (xs : List KV) : Prop := xs.length = fs.length ∧ ∀ (j : Nat) (f : Field) (x : KV), fs[j]? = some f → xs[j]? = some x → f.name ≠ "_" ∧ f.offset = j ∧ x.fits P f.type
theorem run_eqF {P : Program} {w : World} (d : Nat) (fs0 : List Field) (xs ys : List KV) (hx : RowFits P fs0 xs) (hy : RowFits P fs0 ys) : ∀ (fs : List Field) (i : Nat), fs0.drop i = fs →
    (Op.eqFields (d + 1) ⟨xs.map KV.enc⟩ ⟨ys.map KV.enc⟩ fs).run P w = .ok (decide (xs.drop i = ys.drop i)) w
  | [], i, h => by
    have hl : fs0.length ≤ i := by have := congrArg List.length h; simp at this; omega
    have e1 : xs.drop i = [] := List.drop_eq_nil_of_le (by rw [hx.1]; exact hl)
    have e2 : ys.drop i = [] := List.drop_eq_nil_of_le (by rw [hy.1]; exact hl)
    rw [e1, e2]; rfl
  | f :: fs, i, h => by
    have hi : i < fs0.length := by
      rcases Nat.lt_or_ge i fs0.length with h1 | h1
      · exact h1
      · rw [List.drop_eq_nil_of_le h1] at h; cases h
    have hd := List.drop_eq_getElem_cons hi
    rw [h] at hd
    obtain ⟨ef, efs⟩ := List.cons.inj hd
    have hfi : fs0[i]? = some f := by rw [List.getElem?_eq_getElem hi, ef]
    obtain ⟨x, hxi⟩ : ∃ x, xs[i]? = some x := ⟨_, List.getElem?_eq_getElem (by rw [hx.1]; exact hi)⟩
    obtain ⟨y, hyi⟩ : ∃ y, ys[i]? = some y := ⟨_, List.getElem?_eq_getElem (by rw [hy.1]; exact hi)⟩
    obtain ⟨n1, o1, f1⟩ := hx.2 i f x hfi hxi
    obtain ⟨_, _, f2⟩ := hy.2 i f y hfi hyi
    have p1 : (Go.part f.type ⟨xs.map KV.enc⟩ f.offset).run P w = .ok x.enc w := KV.part f1 (by rw [o1]; simp [hxi])
    have p2 : (Go.part f.type ⟨ys.map KV.enc⟩ f.offset).run P w = .ok y.enc w := KV.part f2 (by rw [o1]; simp [hyi])
    have ih := run_eqF (P := P) (w := w) d fs0 xs ys hx hy fs (i + 1) efs.symm
    have dx : xs.drop i = x :: xs.drop (i + 1) := by
      have hlt : i < xs.length := (List.getElem?_eq_some_iff.1 hxi).1
      rw [List.drop_eq_getElem_cons hlt, (List.getElem?_eq_some_iff.1 hxi).2]
    have dy : ys.drop i = y :: ys.drop (i + 1) := by
      have hlt : i < ys.length := (List.getElem?_eq_some_iff.1 hyi).1
      rw [List.drop_eq_getElem_cons hlt, (List.getElem?_eq_some_iff.1 hyi).2]
    unfold Op.eqFields
    rw [if_pos n1, Sem.run_bind, p1]
    simp only [Result.andThen_ok]
    rw [Sem.run_bind, p2]
    simp only [Result.andThen_ok]
    rw [Sem.run_bind, KV.eq d f1 f2]
    simp only [Result.andThen_ok]
    rw [dx, dy]
    by_cases e : x = y
    · subst e
      rw [decide_eq_true rfl]
      simp only [Bool.not_true, Bool.false_eq_true, if_false]
      rw [ih]; simp
    · rw [decide_eq_false e]
      simp only [Bool.not_false, if_true, Sem.run_pure]
      rw [decide_eq_false]
      intro h3
      exact e (List.cons.inj h3).1
theorem keyFind_agg {P : Program} {t : TypeId} {fs : Array Field} (hu : P.underlying t = some (.struct fs)) (hp : P.stoodInHeld t = false) (k : List KV) (l : List (List KV × Value)) (hk : RowFits P fs.toList k) (hl : ∀ x ∈ l, RowFits P fs.toList x.1) :
    KeyFind P t (encK k) (l.map fun x => (encK x.1, x.2)) (findK l k 0) where
  check := fun e w => by
    unfold encK Instr.checkKey
    simp only [Sem.run_bind, run_underlying hu, Result.andThen_ok]
    rw [← Array.forIn_toList]
    have hall : ∀ f ∈ fs.toList, ∃ x : KV, f.name ≠ "_" ∧ x.fits P f.type ∧ (⟨k.map KV.enc⟩ : Array Value)[f.offset]? = some x.enc := by
      intro f hf
      obtain ⟨j, hj⟩ := List.mem_iff_getElem?.1 hf
      obtain ⟨x, hx⟩ : ∃ x, k[j]? = some x := ⟨_, List.getElem?_eq_getElem (by rw [hk.1]; exact (List.getElem?_eq_some_iff.1 hj).1)⟩
      obtain ⟨n1, o1, f1⟩ := hk.2 j f x hj hx
      exact ⟨x, n1, f1, by rw [o1]; simp [hx]⟩
    generalize fs.toList = gs at hall
    clear hk hl hu
    induction gs with
    | nil => simp
    | cons f gs ih =>
      obtain ⟨x, n1, f1, px⟩ := hall f List.mem_cons_self
      have p1 : (Go.part f.type ⟨k.map KV.enc⟩ f.offset).run P w = .ok x.enc w := KV.part f1 px
      have c1 : (Instr.checkKey e 9999 f.type x.enc).run P w = .ok () w := by
        cases x with
        | s b => exact MapKept.run_checkKey (d := .string) (k := .string b) f1 trivial e 9998
        | i kk n => exact MapKept.run_checkKey (d := .int kk) (k := .int kk n) f1 rfl e 9998
      simp only [List.forIn_cons, Sem.run_bind, n1, ne_eq, not_false_eq_true, if_true, Result.andThen_ok, p1, c1, Sem.run_pure]
      exact ih fun g hg => hall g (List.mem_cons_of_mem _ hg)
  find := fun es w he => by
    rw [run_findKey_eq w (by rw [hu]) (encK k) es]
    have key : ∀ (es : List MapEntry) (l : List (List KV × Value)) (i : Nat), (∀ x ∈ l, RowFits P fs.toList x.1) → es.map (fun e => (e.key, e.val)) = l.map (fun x => (encK x.1, x.2)) → (Instr.findAsking t (encK k) es i).run P w = .ok (findK l k i) w := by
      intro es
      induction es with
      | nil => intro l i _ h; cases l with
        | nil => rfl
        | cons x l => cases h
      | cons e es ih =>
        intro l i hl h
        cases l with
        | nil => cases h
        | cons x l =>
          simp only [List.map_cons, List.cons.injEq, Prod.mk.injEq] at h
          unfold Instr.findAsking
          rw [h.1.1, Sem.run_bind]
          have hfo : P.fieldsOf t = fs := by unfold Program.fieldsOf; rw [hu]
          have : (Op.equal t (encK k) (encK x.1)).run P w = .ok (decide (k = x.1)) w := by
            have h1 := run_equalIn_struct w 9999 t (⟨k.map KV.enc⟩ : Array Value) ⟨x.1.map KV.enc⟩ (by rw [hfo]; exact hu) hp
            rw [hfo] at h1
            exact h1.trans (run_eqF 9998 fs.toList k x.1 hk (hl x List.mem_cons_self) fs.toList 0 rfl)
          rw [this]
          simp only [Result.andThen_ok]
          unfold findK
          by_cases hs : k = x.1
          · rw [if_pos hs, decide_eq_true hs]
            simp only [if_true, Sem.run_pure, h.1.2]
          · rw [if_neg hs, decide_eq_false hs]
            simp only [Bool.false_eq_true, if_false]
            exact ih l (i + 1) (fun y hy => hl y (List.mem_cons_of_mem _ hy)) h.2
    exact key es l 0 hl he
end Go.Proofs.YtaiocnpecaecdaaGreatDoor.VL
namespace Go.Proofs.YtaiocnpecaecdaaGreatDoor.VL
open View RowKit Go.Joins Go.ChangeShapes Go.WideShapes
theorem str_cells {P : Program} {H : Type} {enc : TypeId × Value → H} {w : World} {sp : Nat → Bool} {held : Bool} {t n : Nat} (ht : P.underlying t = some .string) (cs : List Value) (y : DataW H × List MemPlace) (h : DataW.trod enc P w 0 sp held n t cs = some y) : ∃ x : ByteArray, x.size ≤ 9223372036854775807 ∧ cs = [.string x] := by
  obtain ⟨b, e, _, hw⟩ := DataW.trod_string ht h
  exact ⟨b, hw, e⟩
theorem open_aggx {P : Program} {H : Type} {enc : TypeId × Value → H} {w : World} {sp : Nat → Bool} {held : Bool} {X : Type} (encX : X → List Value) (good : X → Prop) {r : Reach} {b0 t : Nat} {fs : Array Field} {v : Value} {d : DataW H} {ps : List MemPlace} (hs : P.underlying t = some (.struct fs))
    (hx : ∀ (n : Nat) (cs : List Value) y, DataW.trod enc P w 0 sp held n t cs = some y → ∃ x, good x ∧ cs = encX x)
    (hv : Value.okWide P w r b0 t v) (h : DataW.Trod enc P w 0 sp held t v d ps) : ∃ x, good x ∧ v = .agg ⟨encX x⟩ := by
  obtain ⟨cs, rfl, hsz⟩ := okWide_struct hs hv
  obtain ⟨fuel, hf⟩ := h
  obtain ⟨x, gx, e⟩ := hx _ _ _ hf
  have e : cs.toList = encX x := e
  exact ⟨x, gx, by rw [← e]⟩
end Go.Proofs.YtaiocnpecaecdaaGreatDoor.VL
namespace Go.Proofs.YtaiocnpecaecdaaGreatDoor.VL
open View RowKit
section
variable {P : Program} {q : View} {T : Nat → Option TyI} {n : Nat} {σ : Facts} {A : List HProp}
end
end Go.Proofs.YtaiocnpecaecdaaGreatDoor.VL
namespace Go.Proofs.YtaiocnpecaecdaaGreatDoor.VL
open View RowKit
/-- Words as cells. -/
def wv (l : List UInt32) : List Value := l.map fun w => Value.int .u32 (w.toNat : Int)
@[simp] theorem wv_length (l : List UInt32) : (wv l).length = l.length := List.length_map _
/-- Words as whole numbers' cells. -/
def uv (l : List UInt32) : List Value := l.map fun w => Value.int .i64 (w.toNat : Int)
@[simp] theorem uv_length (l : List UInt32) : (uv l).length = l.length := List.length_map _
section
variable {P : Program} {q : View} {T : Nat → Option TyI} {n : Nat} {σ : Facts} {A : List HProp} {f : HProp → List HProp}
end
section
variable {P : Program} {q : View} {T : Nat → Option TyI} {fn : Func} {R : Value → HProp} {k kt : List It} {σ σ' : Facts} {A L : List HProp} {f : HProp → List HProp} {st : Bool} {md : Md} {ds : List (Option Tmp)} {os : List SOp} {dst : Option Tmp} {type : TypeId} {gd : Option (Nat × Bool)} {S : List HProp} {ops : Array Oper} {mm : Nat} {listed : Array Bool} {pos : String} {after : Array Edge}
/-- A value that is known otherwise. -/
theorem run_to {_ : DS} (t : Nat) {v w : Value} (e : v = w) (hl : lookup σ t = some v) (h1 : putF fn.ntmps (some t) w σ = some σ') (h : Run P q fn R k σ' A) : Run P q fn R k σ A := by
  subst e
  exact fun g w0 a w hq hσ s => h g w0 a w hq (hσ.same (hσ.all _ (lookup_mem hl)) h1) s
end
end Go.Proofs.YtaiocnpecaecdaaGreatDoor.VL
namespace Go.Proofs.YtaiocnpecaecdaaGreatDoor.VL
open View RowKit
def putAt (cs : List Value) (o : Nat) (l : List Value) : List Value := cs.take o ++ l ++ cs.drop (o + l.length)
theorem writes_putAt (cs : List Value) (o : Nat) (l : List Value) (h : o + l.length ≤ cs.length) : writes ⟨cs⟩ o l = ⟨putAt cs o l⟩ := by
  have e := writes_append (cs.take o) l (cs.drop o) (by rw [List.length_drop]; omega)
  rw [List.take_append_drop, List.length_take, Nat.min_eq_left (by omega), List.drop_drop] at e
  exact e
section
variable {P : Program} {q : View} {T : Nat → Option TyI} {fn : Func} {R : Value → HProp} {k kt : List It} {σ σ' : Facts} {A L : List HProp} {f : HProp → List HProp} {st : Bool} {md : Md} {ds : List (Option Tmp)} {os : List SOp} {dst : Option Tmp} {type : TypeId} {gd : Option (Nat × Bool)}
end
end Go.Proofs.YtaiocnpecaecdaaGreatDoor.VL
namespace Go.Proofs.YtaiocnpecaecdaaGreatDoor.VL
open View RowKit
def resRun (tmps : Array Value) : ResultVar → Sem Value
  | .tmp t => pure (tmps.getD t undef)
  | .cell a t => do loadVar t (← asAddr (tmps.getD a undef))
/-- What a result is. -/
def ResIs (P : Program) (σ : Facts) (A : List HProp) (r : ResultVar) (v : Value) : Prop :=
  ∀ (g : View) (w0 w : World) (tmps : Array Value), (∀ t u, lookup σ t = some u → tmps.getD t undef = u) → St g w0 (star A) w → (resRun tmps r).run P w = .ok v w
section
variable {P : Program} {q : View} {T : Nat → Option TyI} {fn : Func} {R : Value → HProp} {k : List It} {σ : Facts} {A : List HProp} {f : HProp → List HProp}
theorem res_tmp {t : Nat} {v : Value} (e : lookup σ t = some v) : ResIs P σ A (.tmp t) v := fun g w0 w tmps h s => by
  show (pure (tmps.getD t undef) : Sem Value).run P w = _
  rw [h t v e]; rfl
theorem res_cell (hT : TabOk P T) {a t b : Nat} {ti : TyI} {tc : TypeId} {l : List Value} (e : lookup σ a = some (.pointer (some ⟨b, 0, none⟩))) (ht : T t = some ti) (ha : isAggD ti.und = true) (hA : At A (cells b tc ⟨l⟩) f) (hz : l.length = ti.size) :
    ResIs P σ A (.cell a t) (.agg ⟨l⟩) := fun g w0 w tmps h s => by
  obtain ⟨L, eL, _⟩ := hA.out
  obtain ⟨fr, _, _, hh⟩ := (show St g w0 (sep (cells b tc ⟨l⟩) (star L)) w from eL ▸ s).cells_open
  show (do loadVar t (← asAddr (tmps.getD a undef)) : Sem Value).run P w = _
  rw [h a _ e, Sem.run_bind]
  show (loadVar t ⟨b, 0, none⟩).run P w = _
  unfold loadVar
  simp only [Sem.run_bind, agg_run hT ht, Result.andThen, ha, if_true, size_run hT ht]
  rw [run_loadCells_cells hh 0 ti.size (by simp; omega)]
  simp only [Sem.run_pure, Result.andThen]
  congr 2
  apply Array.ext'
  simp
  rw [← hz, List.take_length]
theorem res_cell1 (hT : TabOk P T) {a t b : Nat} {ti : TyI} {tc : TypeId} {v : Value} (e : lookup σ a = some (.pointer (some ⟨b, 0, none⟩))) (ht : T t = some ti) (ha : isAggD ti.und = false) (hA : At A (cells b tc ⟨[v]⟩) f) :
    ResIs P σ A (.cell a t) v := fun g w0 w tmps h s => by
  obtain ⟨L, eL, _⟩ := hA.out
  obtain ⟨fr, _, _, hh⟩ := (show St g w0 (sep (cells b tc ⟨[v]⟩) (star L)) w from eL ▸ s).cells_open
  show (do loadVar t (← asAddr (tmps.getD a undef)) : Sem Value).run P w = _
  rw [h a _ e, Sem.run_bind]
  show (loadVar t ⟨b, 0, none⟩).run P w = _
  unfold loadVar
  simp only [Sem.run_bind, agg_run hT ht, Result.andThen, ha]
  exact run_load_cells hh rfl
theorem results_eq (fn : Func) (tmps : Array Value) : results fn tmps = (do let vs ← fn.results.mapM (resRun tmps); pure (if h : vs.size = 1 then vs[0] else .tuple vs)) := by
  unfold results
  congr
theorem results_run1 {r : ResultVar} (hr : fn.results = #[r]) (tmps : Array Value) (w : World) {v : Value} (h : (resRun tmps r).run P w = .ok v w) : (results fn tmps).run P w = .ok v w := by
  rw [results_eq, hr]
  simp [Sem.run_bind, h, Result.andThen]
theorem results_run2 {r s : ResultVar} (hr : fn.results = #[r, s]) (tmps : Array Value) (w : World) {v u : Value} (h : (resRun tmps r).run P w = .ok v w) (h2 : (resRun tmps s).run P w = .ok u w) : (results fn tmps).run P w = .ok (.tuple #[v, u]) w := by
  rw [results_eq, hr]
  simp [Sem.run_bind, h, h2, Result.andThen]
theorem results_run3 {r s p : ResultVar} (hr : fn.results = #[r, s, p]) (tmps : Array Value) (w : World) {v u z : Value} (h : (resRun tmps r).run P w = .ok v w) (h2 : (resRun tmps s).run P w = .ok u w) (h3 : (resRun tmps p).run P w = .ok z w) : (results fn tmps).run P w = .ok (.tuple #[v, u, z]) w := by
  rw [results_eq, hr]
  simp [Sem.run_bind, h, h2, h3, Result.andThen]
theorem run_ret1 {_ : DS} {r : ResultVar} {v : Value} (h : Imp (star A) (R v)) (hr : fn.results = #[r]) (h1 : ResIs P σ A r v) (hd : (default : List Deferred) = [] := by rfl) : Run P q fn R (.code .ret :: k) σ A := fun g w0 a w hq hσ s =>
  wp_ret (Post_ret k (post_end (hσ.defers.trans hd) (results_run1 hr a.tmps w (h1 g w0 w a.tmps (fun t u hu => hσ.all _ (lookup_mem hu)) s)) (h _ _ _ s)))
theorem run_ret2 {_ : DS} {r s : ResultVar} {v u : Value} (h : Imp (star A) (R (.tuple #[v, u]))) (hr : fn.results = #[r, s]) (h1 : ResIs P σ A r v) (h2 : ResIs P σ A s u) (hd : (default : List Deferred) = [] := by rfl) : Run P q fn R (.code .ret :: k) σ A := fun g w0 a w hq hσ st =>
  wp_ret (Post_ret k (post_end (hσ.defers.trans hd) (results_run2 hr a.tmps w (h1 g w0 w a.tmps (fun t u hu => hσ.all _ (lookup_mem hu)) st) (h2 g w0 w a.tmps (fun t u hu => hσ.all _ (lookup_mem hu)) st)) (h _ _ _ st)))
theorem run_ret3 {_ : DS} {r s p : ResultVar} {v u z : Value} (h : Imp (star A) (R (.tuple #[v, u, z]))) (hr : fn.results = #[r, s, p]) (h1 : ResIs P σ A r v) (h2 : ResIs P σ A s u) (h3 : ResIs P σ A p z) (hd : (default : List Deferred) = [] := by rfl) : Run P q fn R (.code .ret :: k) σ A := fun g w0 a w hq hσ st =>
  wp_ret (Post_ret k (post_end (hσ.defers.trans hd) (results_run3 hr a.tmps w (h1 g w0 w a.tmps (fun t u hu => hσ.all _ (lookup_mem hu)) st) (h2 g w0 w a.tmps (fun t u hu => hσ.all _ (lookup_mem hu)) st) (h3 g w0 w a.tmps (fun t u hu => hσ.all _ (lookup_mem hu)) st)) (h _ _ _ st)))
end
theorem wv_one (l : List UInt32) : (wv l).all one1 = true := List.all_eq_true.2 fun x hx => by
  unfold wv at hx
  obtain ⟨y, _, rfl⟩ := List.mem_map.1 hx
  rfl
theorem bv_one (l : List UInt8) : (bv l).all one1 = true := List.all_eq_true.2 fun x hx => by
  unfold bv at hx
  obtain ⟨y, _, rfl⟩ := List.mem_map.1 hx
  rfl
section
variable {P : Program} {q : View} {T : Nat → Option TyI} {fn : Func} {R : Value → HProp} {k : List It} {σ σ' : Facts} {A : List HProp} {f : HProp → List HProp} {st : Bool} {ds : List (Option Tmp)} {os : List SOp} {dst : Option Tmp} {type : TypeId} {gd : Option (Nat × Bool)}
/-- A value of several cells is laid into a part of a block. -/
theorem w_put {_ : DS} {t : Nat} {x y : Operand} {b i : Nat} {ti : TyI} {tc : TypeId} {l vs : List Value} (hT : TabOk P T) (hg : guardOf σ ds gd = some true) (hx : ev σ x = some (.pointer (some ⟨b, i, none⟩))) (hy : ev σ y = some (.agg ⟨vs⟩)) (ht : T t = some ti)
    (hz : vs.length = ti.size) (h1 : vs.all one1 = true) (hA : At A (cells b tc ⟨l⟩) f) (hi : i + vs.length ≤ l.length) (hq : putF fn.ntmps dst undef σ = some σ')
    (hk : Run P q fn R (.ops (.mem false) ds os :: k) σ' (f (cells b tc ⟨putAt l i vs⟩))) : Run P q fn R (.ops (.mem false) ds (⟨dst, .store t x y, type, gd⟩ :: os) :: k) σ A := by
  have := op_store (P := P) (q := q) (n := fn.ntmps) (f := f) hT hx hy ht hA (by show vs.toArray.size = _; simpa using hz) (by show (vs.toArray.toList).all one1 = true; simpa using h1) (by show i + ti.size ≤ l.toArray.size; rw [← hz]; simpa using hi)
  rw [show (Value.agg ⟨vs⟩).cells.toList = vs from rfl, writes_putAt _ _ _ hi] at this
  exact run_op hg this hq hk
theorem putAt_all (l vs : List Value) (h : vs.length = l.length) : putAt l 0 vs = vs := by
  unfold putAt
  rw [List.take_zero, List.nil_append, Nat.zero_add, h, List.drop_length, List.append_nil]
theorem w_putall {_ : DS} {t : Nat} {x y : Operand} {b : Nat} {ti : TyI} {tc : TypeId} {l vs : List Value} (hT : TabOk P T) (hg : guardOf σ ds gd = some true) (hx : ev σ x = some (.pointer (some ⟨b, 0, none⟩))) (hy : ev σ y = some (.agg ⟨vs⟩)) (ht : T t = some ti)
    (hz : vs.length = ti.size) (h1 : vs.all one1 = true) (hA : At A (cells b tc ⟨l⟩) f) (hi : vs.length = l.length) (hq : putF fn.ntmps dst undef σ = some σ')
    (hk : Run P q fn R (.ops (.mem false) ds os :: k) σ' (f (cells b tc ⟨vs⟩))) : Run P q fn R (.ops (.mem false) ds (⟨dst, .store t x y, type, gd⟩ :: os) :: k) σ A :=
  w_put hT hg hx hy ht hz h1 hA (by omega) hq (by rw [putAt_all _ _ hi]; exact hk)
/-- Cells that are known otherwise. -/
theorem run_ceq {_ : DS} (b : Nat) {t : TypeId} {xs : List Value} (ys : List Value) (e : xs = ys) (hk : Run P q fn R k σ (f (cells b t ⟨ys⟩))) (hA : At A (cells b t ⟨xs⟩) f) : Run P q fn R k σ A := by
  subst e
  obtain ⟨L, e1, e2⟩ := hA.out
  exact hk.imp (by rw [e1, e2]; exact Imp.refl _)
end
end Go.Proofs.YtaiocnpecaecdaaGreatDoor.VL
namespace Go.Proofs.YtaiocnpecaecdaaGreatDoor.VL
open View RowKit
section
variable {P : Program} {ops : Array Oper} {Q : Exit → Act → World → Prop} {T : World → Prop} {n0 : Nat}
end
section
variable {P : Program} {q : View} {T : Nat → Option TyI} {fn : Func} {R : Value → HProp} {k : List It} {σ σ' : Facts} {A A' S : List HProp} {ops : Array Oper} {m i n0 : Nat} {listed : Array Bool} {o : Oper}
end
end Go.Proofs.YtaiocnpecaecdaaGreatDoor.VL
namespace Go.Proofs.YtaiocnpecaecdaaGreatDoor.VL
open View RowKit
section
variable {P : Program} {q : View} {T : Nat → Option TyI} {n : Nat} {σ : Facts} {A : List HProp}
theorem eqk_run {t : Nat} {x y : Operand} {xs ys : Array Value} {la lb : List Lit} (m D : Nat) (hm : m ≤ 10000) (hg : P.eqGuardType P.depth t = false) (hk : P.keyTypeAt m t = true) (fa : (Value.agg xs).formed P t = true) (fb : (Value.agg ys).formed P t = true)
    (ka : P.keyLits D t xs.toList = some la) (kb : P.keyLits D t ys.toList = some lb) (c : Bool) (hc : c = true ↔ la = lb) (w : World) :
    (eqGuard .eql t x y (.agg xs) (.agg ys)).run P w = .ok () w ∧ (eqGuard .neq t x y (.agg xs) (.agg ys)).run P w = .ok () w ∧ (Op.equal t (.agg xs) (.agg ys)).run P w = .ok c w := by
  refine ⟨?_, ?_, ?_⟩
  · unfold eqGuard program
    simp [Sem.run, hg]
  · unfold eqGuard program
    simp [Sem.run, hg]
  · obtain ⟨r, hr, hrl⟩ := run_equalIn_deep (P := P) (10000 - m) m t hk w D D (.agg xs) (.agg ys) la lb fa fb ka kb
    rw [show 10000 - m + m = 10000 by omega] at hr
    have : r = c := by
      cases r <;> cases c <;> simp_all
    subst this
    exact hr
theorem op_eqk [DS] {t yt : Nat} {x y : Operand} {xs ys : Array Value} {la lb : List Lit} (m D : Nat) (c : Bool) (hc : c = true ↔ la = lb) (hx : ev σ x = some (.agg xs)) (hy : ev σ y = some (.agg ys)) (hm : m ≤ 10000) (hg : P.eqGuardType P.depth t = false) (hk : P.keyTypeAt m t = true) (fa : (Value.agg xs).formed P t = true) (fb : (Value.agg ys).formed P t = true)
    (ka : P.keyLits D t xs.toList = some la) (kb : P.keyLits D t ys.toList = some lb) : OpQ P q n σ (.binOp .eql t x y yt) A (.bool c) := opq_pure fun ac o hσ ho w => by
  obtain ⟨g1, _, e1⟩ := eqk_run (P := P) (x := x) (y := y) m D hm hg hk fa fb ka kb c hc w
  have : (binS .eql t x y (.agg xs) (.agg ys)).run P w = .ok (.bool c) w := by
    unfold binS
    rw [Sem.run_bind, g1]
    show (do pure (Value.bool (← Op.equal t (.agg xs) (.agg ys))) : Sem Value).run P w = _
    rw [Sem.run_bind, e1]; rfl
  rw [exec_bin ho, hσ.ev hx, hσ.ev hy, Sem.run_bind, this]; rfl
end
section
variable {P : Program} {q : View} {T : Nat → Option TyI} {fn : Func} {R : Value → HProp} {k : List It} {σ σ' : Facts} {A : List HProp} {md : Md} {ds : List (Option Tmp)} {os : List SOp} {dst : Option Tmp} {type : TypeId} {gd : Option (Nat × Bool)}
theorem w_eqk {_ : DS} {t yt : Nat} {x y : Operand} {xs ys : Array Value} {la lb : List Lit} (m D : Nat) (c : Bool) (hc : c = true ↔ la = lb) (hw : guardOf σ ds gd = some true) (hx : ev σ x = some (.agg xs)) (hy : ev σ y = some (.agg ys)) (hm : m ≤ 10000) (hg : P.eqGuardType P.depth t = false) (hk : P.keyTypeAt m t = true) (fa : (Value.agg xs).formed P t = true) (fb : (Value.agg ys).formed P t = true)
    (ka : P.keyLits D t xs.toList = some la) (kb : P.keyLits D t ys.toList = some lb) (hp : putF fn.ntmps dst (.bool c) σ = some σ') (hkk : Run P q fn R (.ops md ds os :: k) σ' A) : Run P q fn R (.ops md ds (⟨dst, .binOp .eql t x y yt, type, gd⟩ :: os) :: k) σ A :=
  run_lookP hw (op_eqk m D c hc hx hy hm hg hk fa fb ka kb) hp hkk
end
end Go.Proofs.YtaiocnpecaecdaaGreatDoor.VL
namespace Go.Proofs.YtaiocnpecaecdaaGreatDoor.VL
open View RowKit
section
variable {P : Program} {q : View} {T : Nat → Option TyI} {n : Nat} {σ : Facts} {A : List HProp}
end
section
variable {P : Program} {q : View} {T : Nat → Option TyI} {fn : Func} {R : Value → HProp} {k kt : List It} {σ σ' : Facts} {A : List HProp} {md : Md} {ds : List (Option Tmp)} {os : List SOp} {dst : Option Tmp} {type : TypeId} {gd : Option (Nat × Bool)}
end
end Go.Proofs.YtaiocnpecaecdaaGreatDoor.VL
namespace Go.Proofs.YtaiocnpecaecdaaGreatDoor.VL
open View RowKit
theorem cells_shape {w : World} {b t : Nat} {c : Array Value} {fr : Nat × Nat} (hh : w.heap[b]? = some (.cells c t fr)) : w.shape? b = some (t, c.size) := by
  simp [World.shape?, hh]
/-- A block goes out of sight. -/
theorem freeze_st {g : View} {w0 w : World} {b t n : Nat} {c : Array Value} {fr : Nat × Nat} {F : HProp} (s : St g w0 (sep (pt b (.cells c t fr)) F) w) : St g w0 F (w.freeze ⟨b, 0, none⟩ n) := by
  obtain ⟨h, ⟨h1, h2, d, rfl, rfl, hf⟩, dg, fit, evo⟩ := s
  obtain ⟨d1, d2⟩ := disj_add.1 dg
  unfold World.freeze
  split
  · refine ⟨h2, hf, d2, ?_, evo⟩
    intro k o e
    refine fit k o ?_
    rw [add_assoc]
    unfold View.add at e ⊢
    have : View.one b (.cells c t fr) k = none := by
      rcases d k with e1 | e1
      · exact e1
      · rcases d1 k with e2 | e2
        · exact e2
        · rw [e1] at e; simp only at e; rw [e2] at e; cases e
    rw [this]; exact e
  · refine ⟨h2, hf, d2, ?_, ⟨evo.os, evo.tape, evo.output, by simpa using evo.size⟩⟩
    intro k o e
    have hk : k ≠ b := by
      intro hkb
      subst hkb
      have h1 : View.one k (Obj.cells c t fr) k ≠ none := by simp [View.one]
      unfold View.add at e
      rcases d k with e1 | e1
      · exact h1 e1
      · rcases d1 k with e2 | e2
        · exact h1 e2
        · rw [e1] at e; simp only at e; rw [e2] at e; cases e
    have := fit k o (by
      rw [add_assoc]
      unfold View.add at e ⊢
      have : View.one b (.cells c t fr) k = none := by simp [View.one, hk]
      rw [this]; exact e)
    show (w.heap.modify _ _)[k]? = _
    rw [Array.getElem?_modify, if_neg (fun h => hk h.symm)]
    exact this
section
variable {P : Program} {q : View} {T : Nat → Option TyI} {n : Nat} {σ : Facts} {A : List HProp} {f : HProp → List HProp}
theorem exec_conv {a : Act} {o : Oper} {src dst : Nat} {x : Operand} (ho : o.op = .convert src dst x) : execOp a.eval o = (do pure (.value (← convert src dst (a.eval x)))) := by
  obtain ⟨d, op, type, pos, after, guard⟩ := o
  obtain rfl : op = _ := ho
  rfl
theorem op_tounsafe [DS] (hT : TabOk P T) {src dst t b i : Nat} {si di ti : TyI} {x : Operand} {tc : TypeId} {c : Array Value} (hx : ev σ x = some (.pointer (some ⟨b, i, none⟩))) (hs : T src = some si) (hsu : si.und = .pointer t) (hd : T dst = some di) (hdu : di.und = .unsafePointer)
    (ht : T t = some ti) (hz : ti.size ≠ 0) (hA : At A (cells b tc c) f) (hi : i < c.size) : OpQ P q n σ (.convert src dst x) A (.pointer (some ⟨b, i, none⟩)) := fun a o hσ ho g w0 w hq s => by
  obtain ⟨L, e, _⟩ := hA.out
  obtain ⟨fr, _, _, hh⟩ := (show St g w0 (sep (cells b tc c) (star L)) w from e ▸ s).cells_open
  obtain ⟨j, hj, hjs, _⟩ := (hT t ti ht).2
  have h1 := (hT src si hs).1
  have h2 := (hT dst di hd).1
  rw [hsu] at h1; rw [hdu] at h2
  rw [exec_conv ho, hσ.ev hx, Sem.run_bind, Lib.run_to_unsafe w _ h1 h2 hj (by rw [hjs]; exact hz) (cells_shape hh) hi]; rfl
theorem op_fromunsafe [DS] (hT : TabOk P T) {src dst u b i : Nat} {si di ui : TyI} {x : Operand} {tc : TypeId} {c : Array Value} (hx : ev σ x = some (.pointer (some ⟨b, i, none⟩))) (hs : T src = some si) (hsu : si.und = .unsafePointer) (hd : T dst = some di) (hdu : di.und = .pointer u)
    (hu : T u = some ui) (hA : At A (cells b tc c) f) (hl : liesAt P P.depth tc (c.size / P.cellsOf tc) i u 1 = true) : OpQ P q n σ (.convert src dst x) A (.pointer (some ⟨b, i, none⟩)) := fun a o hσ ho g w0 w hq s => by
  obtain ⟨L, e, _⟩ := hA.out
  obtain ⟨fr, _, _, hh⟩ := (show St g w0 (sep (cells b tc c) (star L)) w from e ▸ s).cells_open
  obtain ⟨j, hj, _⟩ := (hT u ui hu).2
  have h1 := (hT src si hs).1
  have h2 := (hT dst di hd).1
  rw [hsu] at h1; rw [hdu] at h2
  rw [exec_conv ho, hσ.ev hx, Sem.run_bind, Lib.run_from_unsafe w _ h1 h2 hj (cells_shape hh) hl]; rfl
theorem op_neqp [DS] (hT : TabOk P T) {t te yt : Nat} {ti ei : TyI} {x y : Operand} {a : Addr} (hx : ev σ x = some (.pointer (some a))) (hy : ev σ y = some (.pointer (some a))) (ht : T t = some ti) (hu : ti.und = .pointer te) (he : T te = some ei) :
    OpQ P q n σ (.binOp .neq t x y yt) A (.bool false) := opq_pure fun ac o hσ ho w => by
  obtain ⟨j, hj, _⟩ := (hT te ei he).2
  have h1 := (hT t ti ht).1
  rw [hu] at h1
  have : (binS .neq t x y (.pointer (some a)) (.pointer (some a))).run P w = .ok (.bool false) w := by
    unfold binS
    rw [Sem.run_bind]
    have hg : (eqGuard .neq t x y (.pointer (some a)) (.pointer (some a))).run P w = .ok () w := by
      unfold eqGuard program
      have : P.eqGuardType P.depth t = false := by
        have hd : P.depth = (2 * (P.types.size + Made.depth) + 1) + 1 := rfl
        rw [hd]
        unfold Program.eqGuardType
        simp [h1]
      simp [Sem.run, this]
    rw [hg]
    exact Lib.run_neq_ptr_same w a h1 hj
  rw [exec_bin ho, hσ.ev hx, hσ.ev hy, Sem.run_bind, this]; rfl
/-- A call of a function that has no body. -/
theorem calleeV_exec {_ : DS} {a : Act} (hσ : Holds n σ a) {c : Call} {fi : FuncId} {vs : List Value} (h : calleeV σ c = some (fi, vs)) (o : Oper) (ho : o.op = .call c) (w : World) :
    (execOp a.eval o).run P w = (callFunc fi vs.toArray).run P w := by
  obtain ⟨dst, op, type, pos, after, guard⟩ := o
  obtain rfl : op = .call c := ho
  unfold calleeV at h
  obtain ⟨callee, args, argTypes⟩ := c
  obtain ⟨args⟩ := args
  cases callee with
  | invoke r m => cases h
  | builtin b => cases h
  | value x =>
    simp only at h
    split at h
    · rename_i d1 d2 f' first captured vs' hx hv
      have key : (f', first ++ vs' ++ captured) = (fi, vs) := by
        split at h
        · have := Option.some.inj h; simpa using this
        · exact Option.some.inj h
      obtain ⟨rfl, rfl⟩ := Prod.mk.inj key
      have e := evs_eq hσ hv
      simp only [execOp, resolve]
      rw [Sem.run_bind]
      simp only [hσ.ev hx, Deferred.ofValue, Sem.run_pure, Result.andThen, invoke]
      simp [e]
    · cases h
/-- .. that is given by an entry which only reckons. -/
theorem op_extern [DS] {c : Call} {fi : FuncId} {fd : Func} {vs : List Value} {e : Array Value → Sem Value} {v : Value} (hv : calleeV σ c = some (fi, vs)) (hf : P.funcs[fi]? = some fd) (hname : (fd.name == "runtime.NumGoroutine") = false)
    (hb : fd.body.isNone = true) (hn : Extern.findNext fd = none) (he : Extern.find fd = some e) (hr : ∀ w, (e vs.toArray).run P w = .ok v w) : OpQ P q n σ (.call c) A v := fun a o hσ ho g w0 w hq s => by
  rw [calleeV_exec hσ hv o ho, run_callFunc_extern hf hname hb hn he, hr w]; rfl
/-- unsafe.SliceData of a slice that owns its cells. -/
theorem op_sdata [DS] {c : Call} {x : Operand} {t len cap k : Nat} {e : TypeId} {p : Option Addr} {xs : List Value} (hc : c = { callee := .builtin .unsafeSliceData, args := ⟨[x]⟩, argTypes := ⟨[t]⟩ }) (hx : ev σ x = some (.slice p len cap))
    (hA : At A (sl p len cap e k xs) f) (hz : len ≠ 0) : OpQ P q n σ (.call c) A (.pointer p) := fun a o hσ ho g w0 w hq s => by
  obtain ⟨L, e', _⟩ := hA.out
  have s1 : St g w0 (sep (sl p len cap e k xs) (star L)) w := e' ▸ s
  subst hc
  have hr : (Builtin.unsafeSliceData_ #[t] o.type #[.slice p len cap]).run P w = .ok (.pointer p) w := by
    rcases s1.sl_open with ⟨rfl, rfl, rfl, rfl, _⟩ | ⟨b, spare, rfl, h1, h2, h3, s2⟩
    · exact absurd rfl hz
    · exact Lib.run_unsafeSliceData_row w _ _ _ _ _ (by omega)
  have hx' := hσ.ev hx
  obtain ⟨d, op, type, pos, after, guard⟩ := o
  obtain rfl : op = _ := ho
  simp only [execOp, resolve]
  rw [Sem.run_bind]
  simp only [Sem.run_pure, Result.andThen, invoke, builtin]
  simp [hx', hr]
/-- unsafe.String of all the bytes of a slice: the slice is not looked at any more. -/
theorem op_ustr [DS] (hT : TabOk P T) {c : Call} {x y : Operand} {pt it len cap e : Nat} {pi ei : TyI} {p : Option Addr} {l : List UInt8} (hc : c = { callee := .builtin .unsafeString, args := ⟨[x, y]⟩, argTypes := ⟨[pt, it]⟩ }) (hx : ev σ x = some (.pointer p))
    (hy : ev σ y = some (.int .i64 (len : Int))) (hp : T pt = some pi) (hpu : pi.und = .pointer e) (he : T e = some ei) (hes : P.cellsOf e = 1) (h63 : l.length ≤ 9223372036854775807) (hA : At A (sl p len cap e 1 (bv l)) f) : OpD P q n σ (.call c) (star A) (.string ⟨l.toArray⟩) (f hemp) := opd_of fun a o hσ ho g w0 w hq s => by
  obtain ⟨L, e1, e2⟩ := hA.out
  have s1 : St g w0 (sep (sl p len cap e 1 (bv l)) (star L)) w := e1 ▸ s
  subst hc
  have hx' := hσ.ev hx
  have hy' := hσ.ev hy
  have h1 := (hT pt pi hp).1
  rw [hpu] at h1
  have key : ∃ w', (Builtin.unsafeString_ #[pt, it] o.type #[.pointer p, .int .i64 (len : Int)]).run P w = .ok (.string ⟨l.toArray⟩) w' ∧ St g w0 (sep hemp (star L)) w' := by
    rw [emp_sep]
    by_cases hl : l = []
    · subst hl
      have h0 : len = 0 := by
        rcases s1.sl_open with ⟨rfl, rfl, rfl, h4, _⟩ | ⟨b, spare, rfl, h1, h2, h3, s2⟩
        · rfl
        · simpa [bv] using h1
      subst h0
      exact ⟨w, Lib.run_unsafeString_none w _ _ _ _, Imp.drop_left _ _ _ _ _ s1⟩
    · rcases s1.sl_open with ⟨rfl, rfl, rfl, h4, _⟩ | ⟨b, spare, rfl, h1', h2, h3, s2⟩
      · exact absurd (by simpa [bv] using h4) hl
      · obtain ⟨fr, _, s3, hh⟩ := s2.cells_open
        have hlen : len = l.length := by
          rw [bv_length] at h1'; omega
        subst hlen
        refine ⟨_, Lib.run_unsafeString_row w pt it o.type e h1 hes b (bv l ++ spare).toArray.size (cells_shape hh) l hl (by simp [bv]) h63 ?_, freeze_st s3⟩
        intro j x hj
        have hj' : j < l.length := (List.getElem?_eq_some_iff.1 hj).1
        rw [add_none, World.cell?_cells hh]
        simp [bv, hj', List.getElem?_append_left, (List.getElem?_eq_some_iff.1 hj).2]
  obtain ⟨w', hr, s'⟩ := key
  refine ⟨w', ?_, ?_⟩
  · obtain ⟨d, op, type, pos, after, guard⟩ := o
    obtain rfl : op = _ := ho
    simp only [execOp, resolve]
    rw [Sem.run_bind]
    simp only [Sem.run_pure, Result.andThen, invoke, builtin]
    simp [hx', hy', hr]
  · rw [e2]; exact s'
end
section
variable {P : Program} {q : View} {T : Nat → Option TyI} {fn : Func} {R : Value → HProp} {kt : List It} {σ σ' : Facts} {A : List HProp} {f : HProp → List HProp} {st : Bool} {md : Md} {ds : List (Option Tmp)} {os : List SOp} {dst : Option Tmp} {type : TypeId} {gd : Option (Nat × Bool)}
theorem w_tounsafe {_ : DS} {src dt t b i : Nat} {si di ti : TyI} {x : Operand} {tc : TypeId} {c : Array Value} (hT : TabOk P T) (hg : guardOf σ ds gd = some true) (hx : ev σ x = some (.pointer (some ⟨b, i, none⟩))) (hs : T src = some si) (hsu : si.und = .pointer t) (hd : T dt = some di) (hdu : di.und = .unsafePointer)
    (ht : T t = some ti) (hz : ti.size ≠ 0) (hA : At A (cells b tc c) f) (hi : i < c.size) (hp : putF fn.ntmps dst (.pointer (some ⟨b, i, none⟩)) σ = some σ') (hkk : Run P q fn R (.ops (.mem st) ds os :: kt) σ' A) : Run P q fn R (.ops (.mem st) ds (⟨dst, .convert src dt x, type, gd⟩ :: os) :: kt) σ A :=
  run_look hg (op_tounsafe hT hx hs hsu hd hdu ht hz hA hi) hp hkk
theorem w_fromunsafe {_ : DS} {src dt u b i : Nat} {si di ui : TyI} {x : Operand} {tc : TypeId} {c : Array Value} (hT : TabOk P T) (hg : guardOf σ ds gd = some true) (hx : ev σ x = some (.pointer (some ⟨b, i, none⟩))) (hs : T src = some si) (hsu : si.und = .unsafePointer) (hd : T dt = some di) (hdu : di.und = .pointer u)
    (hu : T u = some ui) (hA : At A (cells b tc c) f) (hl : liesAt P P.depth tc (c.size / P.cellsOf tc) i u 1 = true) (hp : putF fn.ntmps dst (.pointer (some ⟨b, i, none⟩)) σ = some σ') (hkk : Run P q fn R (.ops (.mem st) ds os :: kt) σ' A) : Run P q fn R (.ops (.mem st) ds (⟨dst, .convert src dt x, type, gd⟩ :: os) :: kt) σ A :=
  run_look hg (op_fromunsafe hT hx hs hsu hd hdu hu hA hl) hp hkk
theorem w_neqp {_ : DS} {t te yt : Nat} {ti ei : TyI} {x y : Operand} {a : Addr} (hT : TabOk P T) (hg : guardOf σ ds gd = some true) (hx : ev σ x = some (.pointer (some a))) (hy : ev σ y = some (.pointer (some a))) (ht : T t = some ti) (hu : ti.und = .pointer te) (he : T te = some ei)
    (hp : putF fn.ntmps dst (.bool false) σ = some σ') (hkk : Run P q fn R (.ops md ds os :: kt) σ' A) : Run P q fn R (.ops md ds (⟨dst, .binOp .neq t x y yt, type, gd⟩ :: os) :: kt) σ A :=
  run_lookP hg (op_neqp hT hx hy ht hu he) hp hkk
theorem w_extern {_ : DS} {c : Call} {fi : FuncId} {fd : Func} {vs : List Value} {e : Array Value → Sem Value} {v : Value} (hr : ∀ w, (e vs.toArray).run P w = .ok v w) (hg : guardOf σ ds gd = some true) (hv : calleeV σ c = some (fi, vs)) (hf : P.funcs[fi]? = some fd) (hname : (fd.name == "runtime.NumGoroutine") = false)
    (hb : fd.body.isNone = true) (hn : Extern.findNext fd = none) (he : Extern.find fd = some e) (hp : putF fn.ntmps dst v σ = some σ') (hkk : Run P q fn R (.ops md ds os :: kt) σ' A) : Run P q fn R (.ops md ds (⟨dst, .call c, type, gd⟩ :: os) :: kt) σ A :=
  run_lookP hg (op_extern hv hf hname hb hn he hr) hp hkk
theorem w_sdata {_ : DS} {c : Call} {x : Operand} {t len cap k : Nat} {e : TypeId} {p : Option Addr} {xs : List Value} (hA : At A (sl p len cap e k xs) f) (hz : len ≠ 0) (hg : guardOf σ ds gd = some true) (hc : c = { callee := .builtin .unsafeSliceData, args := ⟨[x]⟩, argTypes := ⟨[t]⟩ }) (hx : ev σ x = some (.slice p len cap))
    (hp : putF fn.ntmps dst (.pointer p) σ = some σ') (hkk : Run P q fn R (.ops (.mem st) ds os :: kt) σ' A) : Run P q fn R (.ops (.mem st) ds (⟨dst, .call c, type, gd⟩ :: os) :: kt) σ A :=
  run_look hg (op_sdata hc hx hA hz) hp hkk
theorem w_ustr {_ : DS} {c : Call} {x y : Operand} {pt it len cap e : Nat} {pi ei : TyI} {p : Option Addr} {l : List UInt8} (hT : TabOk P T) (hes : P.cellsOf e = 1) (h63 : l.length ≤ 9223372036854775807) (hA : At A (sl p len cap e 1 (bv l)) f) (hg : guardOf σ ds gd = some true) (hc : c = { callee := .builtin .unsafeString, args := ⟨[x, y]⟩, argTypes := ⟨[pt, it]⟩ }) (hx : ev σ x = some (.pointer p))
    (hy : ev σ y = some (.int .i64 (len : Int))) (hpt : T pt = some pi) (hpu : pi.und = .pointer e) (he : T e = some ei) (hp : putF fn.ntmps dst (.string ⟨l.toArray⟩) σ = some σ') (hkk : Run P q fn R (.ops (.mem false) ds os :: kt) σ' (f hemp)) : Run P q fn R (.ops (.mem false) ds (⟨dst, .call c, type, gd⟩ :: os) :: kt) σ A :=
  run_op hg (op_ustr hT hc hx hy hpt hpu he hes h63 hA) hp hkk
end
end Go.Proofs.YtaiocnpecaecdaaGreatDoor.VL
namespace Go.Proofs.YtaiocnpecaecdaaGreatDoor.VL
open View RowKit
/-- What a defer statement lays aside. -/
def deferV (σ : Facts) (c : Call) : Option Deferred :=
  match c.callee with
  | .value x => match ev σ x, evs σ c.args.toList [] with
    | some (.func fv ⟨first⟩ captured), some vs => some ⟨.fn fv captured, ⟨first ++ vs⟩⟩
    | _, _ => none
  | _ => none
/-- What a deferred call that finds no panic does: it returns, and B is turned to C. -/
def DefT (P : Program) (q : View) (f : FuncId) (args : Array Value) (B C : HProp) : Prop :=
  ∀ g w0 w, Sub q g → St g w0 B w → CallsD P f args .returning w fun e u' w' => (∃ v, e = .returned v) ∧ u' = .returning ∧ St g w0 C w'
theorem DefT.frame {P : Program} {q : View} {f : FuncId} {args : Array Value} {B C : HProp} (h : DefT P q f args B C) (F : HProp) : DefT P q f args (sep B F) (sep C F) := fun g w0 w hq s => by
  obtain ⟨x, hf, d, s1⟩ := s.split
  exact (h _ _ _ (hq.add d) s1).mono fun e u' w' ⟨v, he, s2⟩ => ⟨v, he, s2.join hf d⟩
section
variable {P : Program} {q : View} {T : Nat → Option TyI} {fn : Func} {R : Value → HProp} {k : List It} {σ σ' : Facts} {A L M Bs Cs : List HProp} {ds : List (Option Tmp)} {os : List SOp} {dst : Option Tmp} {type : TypeId} {gd : Option (Nat × Bool)}
theorem run_defer {D : DS} {c : Call} {d : Deferred} (hd : deferV σ c = some d) (hg : guardOf σ ds gd = some true) (hp : putF fn.ntmps dst undef σ = some σ')
    (hk : @Run ⟨d :: D.default⟩ P q fn R (.ops (.mem false) ds os :: k) σ' A) : Run P q fn R (.ops (.mem false) ds (⟨dst, .defer c, type, gd⟩ :: os) :: k) σ A := fun g w0 a w hq hσ s => by
  refine wpL_true hσ hg ?_
  have hr : (execOp a.eval (SOp.oper ⟨dst, .defer c, type, gd⟩)).run P w = .ok (.defer d) w := by
    unfold deferV at hd
    obtain ⟨callee, args, argTypes⟩ := c
    obtain ⟨args⟩ := args
    cases callee with
    | invoke r m => cases hd
    | builtin b => cases hd
    | value x =>
      simp only at hd
      split at hd
      · rename_i d1 d2 fv first captured vs hx hv
        obtain rfl := Option.some.inj hd
        have e := evs_eq hσ hv
        show (do pure (.defer (← resolve _ _ _)) : Sem Next).run P w = _
        simp only [resolve]
        rw [Sem.run_bind]
        simp only [hσ.ev hx, Deferred.ofValue, Sem.run_pure, Result.andThen]
        simp [e]
      · cases hd
  unfold Oper.wp
  rw [hr]
  have h1 : @Holds ⟨d :: D.default⟩ fn.ntmps σ { a with defers := d :: a.defers } := @Holds.mk ⟨d :: D.default⟩ _ _ _ (by rw [hσ.defers]; rfl) hσ.size hσ.all
  exact hk g w0 _ w hq (@Holds.put ⟨d :: D.default⟩ _ _ _ _ _ _ h1 hp) s
theorem post_endD {g : View} {w0 : World} {a : Act} {w : World} {f : FuncId} {cap as : Array Value} {v : Value} {B C L : HProp} (hd : a.defers = [⟨.fn (.func f) cap, as⟩]) (hc : Callable P f) (hD : DefT P q f (as ++ cap) B C) (hq : Sub q g)
    (s : St g w0 (sep B L) w) (hr : ∀ w', St g w0 (sep C L) w' → (results fn a.tmps).run P w' = .ok v w') (hR : Imp (sep C L) (R v)) :
    Leaves P fn a.tmps (fun e w => ∃ v, e = .returned v ∧ St g w0 (R v) w) a.defers .returning w := by
  rw [hd]
  refine leaves_cons (f := f) (args := as ++ cap) (by simp) (by show (callFunc f (as ++ cap)).run P w = _; exact hc _ _) ?_
  refine ((hD.frame L) g w0 w hq s).mono ?_
  rintro e u' w' ⟨⟨z, rfl⟩, rfl, s'⟩
  exact ⟨v, hr w' s', v, rfl, hR _ _ _ s'⟩
theorem run_retD2 {D : DS} {r s : ResultVar} {v u : Value} {f : FuncId} {cap as args : Array Value} (hD : DefT P q f args (star Bs) (star Cs)) (hc : Callable P f) (h : Imp (star M) (R (.tuple #[v, u]))) (hr : fn.results = #[r, s]) (h1 : ResIs P σ M r v) (h2 : ResIs P σ M s u)
    (hA : Pulls A Bs L) (hM : appL Cs L = some M := by exact rfl) (hd : D.default = [⟨.fn (.func f) cap, as⟩] := by rfl) (ha : as ++ cap = args := by rfl) : Run P q fn R (.code .ret :: k) σ A := fun g w0 a w hq hσ st => by
  have ht : ∀ t u, lookup σ t = some u → a.tmps.getD t undef = u := fun t u hu => hσ.all _ (lookup_mem hu)
  subst ha
  obtain rfl := appL_eq _ _ _ hM
  refine wp_ret (Post_ret k (post_endD (hσ.defers.trans hd) hc hD hq (hA.out ▸ st) (fun w' s' => results_run2 hr a.tmps w' (h1 g w0 w' a.tmps ht ?_) (h2 g w0 w' a.tmps ht ?_)) ?_))
  · rw [star_append]; exact s'
  · rw [star_append]; exact s'
  · rw [← star_append]; exact h
end
/-- A closure that asks what was recovered, and is told of nothing. -/
theorem def_gave {P : Program} {q : View} {f i : FuncId} {fn : Func} {gf : FuncId} {X : Code} {ty1 ty2 : TypeId} {p1 p2 : String} {af1 af2 : Array Edge} {tys : Array TypeId} {x : Value} (hf : P.funcs[f]? = some fn)
    (hb : fn.body = some (.seq (.region i #[⟨some 1, .call ⟨.builtin .recover, #[], #[]⟩, ty1, p1, af1, none⟩, ⟨some 2, .call ⟨.value (.func gf), #[.tmp 1], tys⟩, ty2, p2, af2, none⟩] false) (.cond (.tmp 2) X .skip)))
    (hn : fn.ntmps = 3) (hres : fn.results = #[]) (hg : FnD P q gf [.nilIface] [] (.bool false) []) : DefT P q f #[x] hemp hemp := fun g w0 w hq s => by
  refine callsD_of_wpS hf hb ?_
  intro c0 cs hu
  refine wpS_seq (wpS_region ?_)
  have hrec : recoverD (c0 :: cs) = none := by simp [recoverD, hu]
  have hsz : (#[x] ++ Array.replicate (fn.ntmps - (#[x] : Array Value).size) undef) = #[x, undef, undef] := by rw [hn]; rfl
  rw [hsz]
  have e1 : ∀ a : Act, (execOp a.eval ⟨some 1, .call ⟨.builtin .recover, #[], #[]⟩, ty1, p1, af1, none⟩).run P w = .ok .recover w := fun a => rfl
  have e2 : (execOp (Act.eval { tmps := #[x, .nilIface, undef], defers := [] }) ⟨some 2, .call ⟨.value (.func gf), #[.tmp 1], tys⟩, ty2, p2, af2, none⟩).run P w = .ok (.enter gf #[.nilIface]) w := by
    have h1 : Act.eval { tmps := #[x, .nilIface, undef], defers := [] } (.func gf) = .func (.func gf) #[] #[] := rfl
    have h2 : Act.eval { tmps := #[x, .nilIface, undef], defers := [] } (.tmp 1) = .nilIface := rfl
    simp only [execOp, resolve]
    rw [Sem.run_bind]
    simp only [h1, Deferred.ofValue, Sem.run_pure, Result.andThen, invoke]
    rw [hg.1]
    simp [h2]
  show wpOpsS P _ _ [0, 1] _ _ _
  simp only [wpOpsS, Region.wanted]
  simp only [List.getElem?_toArray, List.getElem?_cons_zero, List.getElem?_cons_succ, e1, hrec, Act.put, if_true]
  rw [show (#[x, undef, undef] : Array Value).setIfInBounds 1 .nilIface = #[x, .nilIface, undef] from rfl, e2]
  simp only [Oper.upon]
  refine (hg.2 g w0 w hq s).mono ?_
  rintro e w' ⟨v, rfl, s'⟩
  obtain ⟨hv, ⟨_, hh⟩, r⟩ := s'
  obtain ⟨rfl, s2⟩ := (show St g w0 (sep (hpure (v = .bool false)) hemp) w' from ⟨hv, hh, r⟩).pure
  show (Code.cond (.tmp 2) X .skip).wpS P _ _ _ _
  refine wpS_cond (t := false) rfl ?_
  show Code.wpS P .skip _ _ _ _
  refine wpS_of_wp (wp_skip ?_)
  exact ⟨rfl, .returning, by rw [← hu], .tuple #[], results_none hres _ _ _, ⟨_, rfl⟩, rfl, s2⟩
section
variable {P : Program} {q : View} {T : Nat → Option TyI} {n : Nat} {σ σ' : Facts} {A : List HProp} {fn : Func} {R : Value → HProp} {kt : List It} {md : Md} {ds : List (Option Tmp)} {os : List SOp} {dst : Option Tmp} {type : TypeId} {gd : Option (Nat × Bool)}
/-- A nil value of an interface type is nil. -/
theorem op_eqnil [DS] {t yt : Nat} {x : Operand} {z : Value} {ms : Array (String × TypeId)} (hx : ev σ x = some .nilIface) (hz : z = .nilIface) (hu : P.underlying t = some (.interface ms)) : OpQ P q n σ (.binOp .eql t x (.const z) yt) A (.bool true) := opq_pure fun ac o hσ ho w => by
  subst hz
  have : (binS .eql t x (.const .nilIface) .nilIface .nilIface).run P w = .ok (.bool true) w := by
    unfold binS
    rw [Sem.run_bind]
    have hg : (eqGuard .eql t x (.const .nilIface) .nilIface .nilIface).run P w = .ok () w := by
      unfold eqGuard
      simp
    rw [hg]
    have h : ∀ d : Nat, (Op.equalIn (d + 1) t .nilIface .nilIface).run P w = .ok true w := fun d => by
      simp [Op.equalIn, run_underlying hu]
    show (do pure (Value.bool (← Op.equal t .nilIface .nilIface)) : Sem Value).run P w = _
    simp [Op.equal, Op.maxDepth, h 9999]
  rw [exec_bin ho, hσ.ev hx, hσ.ev (x := .const .nilIface) (v := .nilIface) rfl, Sem.run_bind, this]; rfl
theorem w_eqnil {_ : DS} {t yt : Nat} {x : Operand} {z : Value} {ms : Array (String × TypeId)} (hg : guardOf σ ds gd = some true) (hx : ev σ x = some .nilIface) (hz : z = .nilIface) (hu : P.underlying t = some (.interface ms))
    (hp : putF fn.ntmps dst (.bool true) σ = some σ') (hkk : Run P q fn R (.ops md ds os :: kt) σ' A) : Run P q fn R (.ops md ds (⟨dst, .binOp .eql t x (.const z) yt, type, gd⟩ :: os) :: kt) σ A :=
  run_lookP hg (op_eqnil hx hz hu) hp hkk
end
end Go.Proofs.YtaiocnpecaecdaaGreatDoor.VL
namespace Go.Proofs.YtaiocnpecaecdaaGreatDoor.VL
open View RowKit
section
variable {P : Program} {q : View} {fn : Func} {R : Value → HProp} {kt : List It} {σ σ' : Facts} {A S : List HProp} {ops : Array Oper} {mm : Nat} {listed : Array Bool}
/-- An operation whose guard says no. -/
theorem o_skip {_ : DS} (i : Nat) {o : Oper} (hi : nthG ops.toList i = some o) (hg : guardOf σ (ops.toList.map (·.dst)) o.guard = some false) (hp : putF fn.ntmps o.dst undef σ = some σ')
    (h : RunA P q fn R kt ops mm (listed.setIfInBounds i true) S σ' A) : RunO P q fn R kt ops mm listed S σ A i := fun hS g w0 a w hs d hq hσ s => by
  unfold wpOp
  rw [nthG_arr hi]
  simp only [guardOf_region hσ hg]
  exact ⟨s.sw, h hS g w0 _ w hs d hq (hσ.put hp) s⟩
theorem a_skip {_ : DS} (i : Nat) {o : Oper} (hi : nthG ops.toList i = some o) (hr : Region.ready .any ops listed = [i]) (hg : guardOf σ (ops.toList.map (·.dst)) o.guard = some false) (hp : putF fn.ntmps o.dst undef σ = some σ')
    (h : RunA P q fn R kt ops mm (listed.setIfInBounds i true) S σ' A) : RunA P q fn R kt ops (mm + 1) listed S σ A :=
  any_each hr (o_skip i hi hg hp h) (by simp)
end
section
variable {P : Program} {q : View} {T : Nat → Option TyI} {n : Nat} {σ σ' : Facts} {A : List HProp} {fn : Func} {R : Value → HProp} {k : List It} {md : Md} {ds : List (Option Tmp)} {os : List SOp} {dst : Option Tmp} {type : TypeId} {gd : Option (Nat × Bool)}
theorem op_nek [DS] {t yt : Nat} {x y : Operand} {xs ys : Array Value} {la lb : List Lit} (m D : Nat) (c : Bool) (hc : c = true ↔ la = lb) (hx : ev σ x = some (.agg xs)) (hy : ev σ y = some (.agg ys)) (hm : m ≤ 10000) (hg : P.eqGuardType P.depth t = false) (hk : P.keyTypeAt m t = true) (fa : (Value.agg xs).formed P t = true) (fb : (Value.agg ys).formed P t = true)
    (ka : P.keyLits D t xs.toList = some la) (kb : P.keyLits D t ys.toList = some lb) : OpQ P q n σ (.binOp .neq t x y yt) A (.bool (!c)) := opq_pure fun ac o hσ ho w => by
  obtain ⟨_, g1, e1⟩ := eqk_run (P := P) (x := x) (y := y) m D hm hg hk fa fb ka kb c hc w
  have : (binS .neq t x y (.agg xs) (.agg ys)).run P w = .ok (.bool (!c)) w := by
    unfold binS
    rw [Sem.run_bind, g1]
    show (do pure (Value.bool (!(← Op.equal t (.agg xs) (.agg ys)))) : Sem Value).run P w = _
    rw [Sem.run_bind, e1]; rfl
  rw [exec_bin ho, hσ.ev hx, hσ.ev hy, Sem.run_bind, this]; rfl
theorem w_nek {_ : DS} {t yt : Nat} {x y : Operand} {xs ys : Array Value} {la lb : List Lit} (m D : Nat) (c : Bool) (hc : c = true ↔ la = lb) (hw : guardOf σ ds gd = some true) (hx : ev σ x = some (.agg xs)) (hy : ev σ y = some (.agg ys)) (hm : m ≤ 10000) (hg : P.eqGuardType P.depth t = false) (hk : P.keyTypeAt m t = true) (fa : (Value.agg xs).formed P t = true) (fb : (Value.agg ys).formed P t = true)
    (ka : P.keyLits D t xs.toList = some la) (kb : P.keyLits D t ys.toList = some lb) (hp : putF fn.ntmps dst (.bool (!c)) σ = some σ') (hkk : Run P q fn R (.ops md ds os :: k) σ' A) : Run P q fn R (.ops md ds (⟨dst, .binOp .neq t x y yt, type, gd⟩ :: os) :: k) σ A :=
  run_lookP hw (op_nek m D c hc hx hy hm hg hk fa fb ka kb) hp hkk
end
/-- What lies behind the cells is marked as a text's. -/
theorem mark_st {g : View} {w0 w : World} {b t : Nat} {c : Array Value} {F : HProp} (s : St g w0 (sep (cells b t c) F) w) : St g w0 (sep (cells b t c) F) (w.freeze ⟨b, c.size, none⟩ 1) := by
  obtain ⟨fr, hfr, s1, hh⟩ := s.cells_open
  have hok : okfr c.size (if fr.1 == fr.2 then (c.size, c.size + 1) else (min fr.1 c.size, max fr.2 (c.size + 1))) := by
    unfold okfr at hfr ⊢
    split
    · exact .inr (Nat.le_refl _)
    · rename_i hne
      right
      show c.size ≤ min fr.1 c.size
      rcases hfr with h | h
      · exact absurd (by rw [h]; simp) hne
      · omega
  refine St.cells_shut hok ?_
  refine s1.put ?_ ?_ ?_ ?_ ?_ ?_
  · simp [World.freeze]
  · obtain ⟨lo, hi⟩ := fr
    simp [World.freeze, Array.getElem?_modify, hh]
  · intro k hk
    simp [World.freeze, Array.getElem?_modify, Ne.symm hk]
  · simp [World.freeze]
  · simp [World.freeze]
  · simp [World.freeze]
section
variable {P : Program} {q : View} {T : Nat → Option TyI} {n : Nat} {σ σ' : Facts} {A : List HProp} {f : HProp → List HProp} {fn : Func} {R : Value → HProp} {k : List It} {ds : List (Option Tmp)} {os : List SOp} {dst : Option Tmp} {type : TypeId} {gd : Option (Nat × Bool)}
/-- Bytes that were built out of a text. -/
theorem op_mark [DS] (hT : TabOk P T) {t e b len cap : Nat} {x : Operand} {ti ei : TyI} {tc : TypeId} {c : Array Value} (hx : ev σ x = some (.slice (some ⟨b, 0, none⟩) len cap)) (ht : T t = some ti) (hu : ti.und = .slice e) (he : T e = some ei) (heu : ei.und = .int .u8) (hA : At A (cells b tc c) f) :
    OpD P q n σ (.convert t t x) (star A) (.slice (some ⟨b, 0, none⟩) len cap) (f (cells b tc c)) := opd_of fun a o hσ ho g w0 w hq s => by
  obtain ⟨L, e1, e2⟩ := hA.out
  have s1 : St g w0 (sep (cells b tc c) (star L)) w := e1 ▸ s
  obtain ⟨fr, _, _, hh⟩ := s1.cells_open
  have h1 := (hT t ti ht).1
  have h2 := (hT e ei he).1
  rw [hu] at h1; rw [heu] at h2
  refine ⟨w.freeze ⟨b, c.size, none⟩ 1, ?_, by rw [e2]; exact mark_st s1⟩
  rw [exec_conv ho, hσ.ev hx, Sem.run_bind]
  have : (convert t t (.slice (some ⟨b, 0, none⟩) len cap)).run P w = .ok (.slice (some ⟨b, 0, none⟩) len cap) (w.freeze ⟨b, c.size, none⟩ 1) := by
    simp [convert, run_underlying h1, run_underlying h2, markStringish, cells_shape hh]
  rw [this]; rfl
theorem w_mark {_ : DS} {t e b len cap : Nat} {x : Operand} {ti ei : TyI} {tc : TypeId} {c : Array Value} (hT : TabOk P T) (hg : guardOf σ ds gd = some true) (hx : ev σ x = some (.slice (some ⟨b, 0, none⟩) len cap)) (ht : T t = some ti) (hu : ti.und = .slice e) (he : T e = some ei) (heu : ei.und = .int .u8) (hA : At A (cells b tc c) f)
    (hp : putF fn.ntmps dst (.slice (some ⟨b, 0, none⟩) len cap) σ = some σ') (hkk : Run P q fn R (.ops (.mem false) ds os :: k) σ' (f (cells b tc c))) : Run P q fn R (.ops (.mem false) ds (⟨dst, .convert t t x, type, gd⟩ :: os) :: k) σ A :=
  run_op hg (op_mark hT hx ht hu he heu hA) hp hkk
end
end Go.Proofs.YtaiocnpecaecdaaGreatDoor.VL
namespace Go.Proofs.YtaiocnpecaecdaaGreatDoor.VL
open View RowKit
def ifNil (op : BinOp) (v : Value) : Option Bool := match op, v with
  | .eql, .nilIface => some true
  | .neq, .nilIface => some false
  | .eql, .iface _ _ => some false
  | .neq, .iface _ _ => some true
  | _, _ => none
section
variable {P : Program} {q : View} {T : Nat → Option TyI} {n : Nat} {σ σ' : Facts} {A : List HProp} {fn : Func} {R : Value → HProp} {kt : List It} {md : Md} {ds : List (Option Tmp)} {os : List SOp} {dst : Option Tmp} {type : TypeId} {gd : Option (Nat × Bool)}
theorem op_ifnil [DS] {op : BinOp} {t yt : Nat} {x : Operand} {z v : Value} {ms : Array (String × TypeId)} {r : Bool} {ti : TyI} (hT : TabOk P T) (hx : ev σ x = some v) (hz : z = .nilIface) (hv : ifNil op v = some r) (ht : T t = some ti) (hi : ti.und = .interface ms) : OpQ P q n σ (.binOp op t x (.const z) yt) A (.bool r) := opq_pure fun ac o hσ ho w => by
  subst hz
  have hu := (hT t ti ht).1
  rw [hi] at hu
  have : (binS op t x (.const .nilIface) v .nilIface).run P w = .ok (.bool r) w := by
    unfold binS
    rw [Sem.run_bind]
    have hg : (eqGuard op t x (.const .nilIface) v .nilIface).run P w = .ok () w := by
      unfold eqGuard
      unfold ifNil at hv
      split at hv <;> first | (cases hv; done) | simp
    rw [hg]
    have h0 : ∀ d : Nat, (Op.equalIn (d + 1) t .nilIface .nilIface).run P w = .ok true w := fun d => by
      simp [Op.equalIn, run_underlying hu]
    have h1 : ∀ (d : Nat) (a : TypeId) (b : Value), (Op.equalIn (d + 1) t (.iface a b) .nilIface).run P w = .ok false w := fun d a b => by
      simp [Op.equalIn, run_underlying hu]
    unfold ifNil at hv
    split at hv
    · obtain rfl := Option.some.inj hv
      show (do pure (Value.bool (← Op.equal t .nilIface .nilIface)) : Sem Value).run P w = _
      simp [Op.equal, Op.maxDepth, h0 9999]
    · obtain rfl := Option.some.inj hv
      show (do pure (Value.bool (!(← Op.equal t .nilIface .nilIface))) : Sem Value).run P w = _
      simp [Op.equal, Op.maxDepth, h0 9999]
    · obtain rfl := Option.some.inj hv
      rename_i a b
      show (do pure (Value.bool (← Op.equal t (.iface a b) .nilIface)) : Sem Value).run P w = _
      simp [Op.equal, Op.maxDepth, h1 9999]
    · obtain rfl := Option.some.inj hv
      rename_i a b
      show (do pure (Value.bool (!(← Op.equal t (.iface a b) .nilIface))) : Sem Value).run P w = _
      simp [Op.equal, Op.maxDepth, h1 9999]
    · cases hv
  rw [exec_bin ho, hσ.ev hx, hσ.ev (x := .const .nilIface) (v := .nilIface) rfl, Sem.run_bind, this]; rfl
theorem w_ifnil {_ : DS} {op : BinOp} {t yt : Nat} {x : Operand} {z v : Value} {ms : Array (String × TypeId)} {r : Bool} {ti : TyI} (hT : TabOk P T) (hg : guardOf σ ds gd = some true) (hx : ev σ x = some v) (hz : z = .nilIface) (hv : ifNil op v = some r) (ht : T t = some ti) (hi : ti.und = .interface ms)
    (hp : putF fn.ntmps dst (.bool r) σ = some σ') (hkk : Run P q fn R (.ops md ds os :: kt) σ' A) : Run P q fn R (.ops md ds (⟨dst, .binOp op t x (.const z) yt, type, gd⟩ :: os) :: kt) σ A :=
  run_lookP hg (op_ifnil hT hx hz hv ht hi) hp hkk
def noIface : TypeDesc → Bool
  | .interface _ => false
  | _ => true
theorem exec_mki {a : Act} {o : Oper} {t : Nat} {x : Operand} (ho : o.op = .makeInterface t x) : execOp a.eval o = (do pure (.value (← Instr.makeInterface t (a.eval x)))) := by
  obtain ⟨d, op, type, pos, after, guard⟩ := o
  obtain rfl : op = _ := ho
  rfl
theorem op_mki [DS] {t : Nat} {x : Operand} {v : Value} {ti : TyI} (hT : TabOk P T) (hx : ev σ x = some v) (ht : T t = some ti) (hn : noIface ti.und = true) : OpQ P q n σ (.makeInterface t x) A (.iface t v) := opq_pure fun ac o hσ ho w => by
  have hu := (hT t ti ht).1
  have : (Instr.makeInterface t v).run P w = .ok (.iface t v) w := by
    unfold Instr.makeInterface
    rw [Sem.run_bind, run_underlying hu]
    simp only [Result.andThen]
    generalize ti.und = d at hn
    cases d <;> first | (cases hn; done) | rfl
  rw [exec_mki ho, hσ.ev hx, Sem.run_bind, this]; rfl
theorem w_mki {_ : DS} {t : Nat} {x : Operand} {v : Value} {ti : TyI} (hT : TabOk P T) (hg : guardOf σ ds gd = some true) (hx : ev σ x = some v) (ht : T t = some ti) (hn : noIface ti.und = true)
    (hp : putF fn.ntmps dst (.iface t v) σ = some σ') (hkk : Run P q fn R (.ops md ds os :: kt) σ' A) : Run P q fn R (.ops md ds (⟨dst, .makeInterface t x, type, gd⟩ :: os) :: kt) σ A :=
  run_lookP hg (op_mki hT hx ht hn) hp hkk
end
end Go.Proofs.YtaiocnpecaecdaaGreatDoor.VL
namespace Go.Proofs.YtaiocnpecaecdaaGreatDoor.VL
open View RowKit
section
variable {P : Program} {q : View} {T : Nat → Option TyI} {n : Nat} {σ : Facts} {A : List HProp} {f : HProp → List HProp}
theorem op_sdatan [DS] {c : Call} {x : Operand} {t : Nat} (hc : c = { callee := .builtin .unsafeSliceData, args := ⟨[x]⟩, argTypes := ⟨[t]⟩ }) (hx : ev σ x = some (.slice none 0 0)) : OpQ P q n σ (.call c) A (.pointer none) := fun a o hσ ho g w0 w hq s => by
  subst hc
  have hr : (Builtin.unsafeSliceData_ #[t] o.type #[.slice none 0 0]).run P w = .ok (.pointer none) w := rfl
  have hx' := hσ.ev hx
  obtain ⟨d, op, type, pos, after, guard⟩ := o
  obtain rfl : op = _ := ho
  simp only [execOp, resolve]
  rw [Sem.run_bind]
  simp only [Sem.run_pure, Result.andThen, invoke, builtin]
  simp [hx', hr]
end
section
variable {P : Program} {q : View} {T : Nat → Option TyI} {fn : Func} {R : Value → HProp} {kt : List It} {σ σ' : Facts} {A : List HProp} {f : HProp → List HProp} {st : Bool} {md : Md} {ds : List (Option Tmp)} {os : List SOp} {dst : Option Tmp} {type : TypeId} {gd : Option (Nat × Bool)}
theorem run_nil0 {fn : Func} {R : Value → HProp} {k : List It} {σ : Facts} {A : List HProp} {t : TypeId} {kk : Nat} (h : Run P q fn R k σ (sl none 0 0 t kk [] :: A)) : Run P q fn R k σ A := h.imp (imp_sl_nil (Imp.refl _))
theorem w_sdatan {_ : DS} {c : Call} {x : Operand} {t : Nat} (hg : guardOf σ ds gd = some true) (hc : c = { callee := .builtin .unsafeSliceData, args := ⟨[x]⟩, argTypes := ⟨[t]⟩ }) (hx : ev σ x = some (.slice none 0 0))
    (hp : putF fn.ntmps dst (.pointer none) σ = some σ') (hkk : Run P q fn R (.ops md ds os :: kt) σ' A) : Run P q fn R (.ops md ds (⟨dst, .call c, type, gd⟩ :: os) :: kt) σ A :=
  run_lookP hg (op_sdatan hc hx) hp hkk
end
end Go.Proofs.YtaiocnpecaecdaaGreatDoor.VL
