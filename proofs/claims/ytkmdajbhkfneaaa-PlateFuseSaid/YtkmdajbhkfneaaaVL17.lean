/- Rules with literal contents for slices that are built or made; regions whose order is drawn: several operations that may come up. -/
import Derived.Test.YtkmdajbhkfneaaaVL16
set_option maxRecDepth 10000
set_option linter.unusedVariables false
namespace Go.Proofs.Ytkmdajbhkfneaaa.VL
open View RowKit
def appV : List Value → List Value → Option (List Value)
  | [], b => some b
  | x :: a, b => match appV a b with
    | some r => some (x :: r)
    | none => none
theorem appV_eq : ∀ (a b r : List Value), appV a b = some r → r = a ++ b := by
  intro a
  induction a with
  | nil => intro b r h; cases h; rfl
  | cons x a ih =>
    intro b r h
    unfold appV at h
    cases e : appV a b with
    | none => rw [e] at h; cases h
    | some z => rw [e] at h; cases h; rw [ih _ _ e]; rfl
def flatL : List Value → Option (List Value)
  | [] => some []
  | v :: vs => match cellsL v, flatL vs with
    | some a, some b => appV a b
    | _, _ => none
theorem flatL_eq : ∀ (vs l : List Value), flatL vs = some l → flat vs = l := by
  intro vs
  induction vs with
  | nil => intro l h; cases h; rfl
  | cons v vs ih =>
    intro l h
    unfold flatL at h
    cases e : cellsL v with
    | none => rw [e] at h; cases h
    | some a =>
      cases e2 : flatL vs with
      | none => rw [e, e2] at h; cases h
      | some b =>
        rw [e, e2] at h
        rw [appV_eq _ _ _ h, ← ih _ e2, show flat (v :: vs) = v.cells.toList ++ flat vs from rfl, cellsL_eq e]
/-- So many times nothing, cell by cell. -/
def zeroL (z : Value) (n : Nat) : List Value := (Builtin.zeroCells z.cells n).toList
theorem zeroL_length (z : Value) (n : Nat) : (zeroL z n).length = n * z.cells.size := zeroCells_length _ _
section
variable {P : Program} {q : View} {T : Nat → Option TyI} {fn : Func} {R : Value → HProp} {kt : List It} {σ : Facts} {A : List HProp} {f : HProp → List HProp} {dst : Option Tmp} {type : TypeId} {gd : Option (Nat × Bool)} {ds : List (Option Tmp)} {os : List SOp}
theorem w_built {t e len : Nat} {ps : List (Nat × Operand)} {ti ei : TyI} {z : Value} {vs l : List Value} (hT : TabOk P T) (hg : guardOf σ ds gd = some true) (ht : T t = some ti) (hu : ti.und = .slice e) (he : T e = some ei) (hz : ei.zero = some z) (hzs : z.cells.size = ei.size) (hps : partsV σ 0 ps [] = some vs) (hl : vs.length = len) (hf : flatL vs = some l) (hk : ∀ v ∈ vs, v.cells.size = ei.size) (hs : len * ei.size ≤ 16777216) {σ' : Nat → Facts} (hp : ∀ r : Nat, putF fn.ntmps dst (.slice (some ⟨r, 0, none⟩) len len) σ = some (σ' r)) (hkk : ∀ r : Nat, Run P q fn R (.ops ds os :: kt) (σ' r) (cells r e ⟨l⟩ :: A)) : Run P q fn R (.ops ds (⟨dst, (.buildSlice t len ⟨ps⟩), type, gd⟩ :: os) :: kt) σ A :=
  w_buildSlice hT hg ht hu he hz hzs hps hl hk hs hp (by rw [flatL_eq _ _ hf]; exact hkk)
theorem w_made {t e : Nat} {x y : Operand} {ti ei : TyI} {z : Value} {j k : IntKind} {m c : Int} (hT : TabOk P T) (hg : guardOf σ ds gd = some true) (hx : ev σ x = some (.int j m)) (hy : ev σ y = some (.int k c)) (ht : T t = some ti) (hu : ti.und = .slice e) (he : T e = some ei) (hz : ei.zero = some z) (hzs : z.cells.size = ei.size) (h0 : 0 ≤ m) (h1 : m ≤ c) {kb lm lc : Nat} (hlm : m.toNat = lm) (hlc : c.toNat = lc) (hkb : ei.bytes = kb) (h2 : kb * c ≤ 281474976710656) (h3 : c ≤ 9223372036854775807) {σ' : Nat → Facts} (hp : ∀ r : Nat, putF fn.ntmps dst (.slice (some ⟨r, 0, none⟩) lm lc) σ = some (σ' r)) (hkk : ∀ r : Nat, Run P q fn R (.ops ds os :: kt) (σ' r) (cells r e ⟨zeroL z lc⟩ :: A)) : Run P q fn R (.ops ds (⟨dst, (.makeSlice t x y), type, gd⟩ :: os) :: kt) σ A := by
  subst hlm hlc
  exact w_makeSlice hT hg hx hy ht hu he hz hzs h0 h1 (by rw [hkb]; exact h2) h3 hp hkk
theorem zeroL_one (z : Value) (hz : z.cells = #[z]) (n : Nat) : zeroL z n = List.replicate n z := by
  unfold zeroL; rw [zeroCells_one z hz]
theorem w_app {x y : Operand} {t e ty : Nat} {ti ei tyi : TyI} {z v : Value} {p : Option Addr} {len cap m size kb : Nat} {xs news : List Value} {σ' : Option Addr × Nat → Facts} (hT : TabOk P T) (hg : guardOf σ ds gd = some true)
    (hx : ev σ x = some (.slice p len cap)) (hy : ev σ y = some v) (ht : T t = some ti) (hu : ti.und = .slice e) (he : T e = some ei) (hty : T ty = some tyi) (hni : rowD tyi.und) (hz : ei.zero = some z) (hzs : z.cells.size = ei.size) (hs : ei.size = size) (hkb : ei.bytes = kb)
    (hA : At A (sl p len cap e size xs) f) (hr : ∀ g w0 w, Sub q g → St g w0 (star A) w → Reads P size m v news w) (hnl : news.length = m * size) (h1 : news.all one1 = true) (hxl : xs.length = len * size)
    (hb : (len + m) * kb ≤ 140737488355328) (h63 : len + m ≤ 9223372036854775807) (hp : ∀ r : Option Addr × Nat, putF fn.ntmps dst (.slice r.1 (len + m) r.2) σ = some (σ' r))
    (hkk : ∀ r : Option Addr × Nat, Run P q fn R (.ops ds os :: kt) (σ' r) (f (sl r.1 (len + m) r.2 e size (xs ++ news)))) :
    Run P q fn R (.ops ds (⟨dst, .call { callee := .builtin .append, args := ⟨[x, y]⟩, argTypes := ⟨[t, ty]⟩ }, type, gd⟩ :: os) :: kt) σ A :=
  w_append hT hg hx hy ht hu he hty hni hz hzs hA hs hr hnl h1 hxl (by rw [hkb]; exact hb) h63 hp hkk
theorem a_app (ii : Nat) {x y : Operand} {t e ty : Nat} {ti ei tyi : TyI} {z v : Value} {p : Option Addr} {len cap m size kb : Nat} {xs news : List Value} {S : List HProp} {ops : Array Oper} {mm : Nat} {listed : Array Bool} {pos : String} {after : Array Edge} {σ' : Option Addr × Nat → Facts} (hT : TabOk P T)
    (zi : nthG ops.toList ii = some ⟨dst, .call { callee := .builtin .append, args := ⟨[x, y]⟩, argTypes := ⟨[t, ty]⟩ }, type, pos, after, gd⟩) (zr : Region.ready .any ops listed = [ii]) (hg : guardOf σ (ops.toList.map (·.dst)) gd = some true)
    (hx : ev σ x = some (.slice p len cap)) (hy : ev σ y = some v) (ht : T t = some ti) (hu : ti.und = .slice e) (he : T e = some ei) (hty : T ty = some tyi) (hni : rowD tyi.und) (hz : ei.zero = some z) (hzs : z.cells.size = ei.size) (hs : ei.size = size) (hkb : ei.bytes = kb)
    (hA : At A (sl p len cap e size xs) f) (hr : ∀ g w0 w, Sub q g → St g w0 (star A) w → Reads P size m v news w) (hnl : news.length = m * size) (h1 : news.all one1 = true) (hxl : xs.length = len * size)
    (hb : (len + m) * kb ≤ 140737488355328) (h63 : len + m ≤ 9223372036854775807) (hp : ∀ r : Option Addr × Nat, putF fn.ntmps dst (.slice r.1 (len + m) r.2) σ = some (σ' r))
    (hkk : ∀ r : Option Addr × Nat, RunA P q fn R kt ops mm (listed.setIfInBounds ii true) S (σ' r) (f (sl r.1 (len + m) r.2 e size (xs ++ news)))) : RunA P q fn R kt ops (mm + 1) listed S σ A :=
  a_append ii hT zi zr hg hx hy ht hu he hty hni hz hzs hA hs hr hnl h1 hxl (by rw [hkb]; exact hb) h63 hp hkk
theorem pureV_fieldat {t f b o off size : Nat} {x : Operand} (hx : ev σ x = some (.pointer (some ⟨b, o, none⟩))) (hf : fieldV T t f = some (off, size)) : pureV T σ (.fieldAddr t x f) = some (.pointer (some ⟨b, o + off, none⟩)) := by
  show (match fieldV T t f, ev σ x with
    | some (off, _), some (.pointer (some ⟨b, o, none⟩)) => match o with
      | 0 => some (Value.pointer (some ⟨b, off, none⟩))
      | o => some (.pointer (some ⟨b, o + off, none⟩))
    | _, _ => none) = _
  rw [hf, hx]
  cases o with
  | zero => simp
  | succ o => rfl
theorem w_fieldat {t ff b o off size : Nat} {x : Operand} {σ' : Facts} (hT : TabOk P T) (hg : guardOf σ ds gd = some true) (hx : ev σ x = some (.pointer (some ⟨b, o, none⟩))) (hf : fieldV T t ff = some (off, size)) (hp : putF fn.ntmps dst (.pointer (some ⟨b, o + off, none⟩)) σ = some σ')
    (hkk : Run P q fn R (.ops ds os :: kt) σ' A) : Run P q fn R (.ops ds (⟨dst, .fieldAddr t x ff, type, gd⟩ :: os) :: kt) σ A := by
  refine run_pure1 hT ?_ hkk
  unfold pure1
  simp only [hg, pureV_fieldat hx hf, hp]
theorem a_fieldat (ii : Nat) {t ff b o off size : Nat} {x : Operand} {S : List HProp} {ops : Array Oper} {mm : Nat} {listed : Array Bool} {pos : String} {after : Array Edge} {σ' : Facts} (hT : TabOk P T) (hi : nthG ops.toList ii = some ⟨dst, .fieldAddr t x ff, type, pos, after, gd⟩) (hn : Region.noSelect ops = true) (hfr : Region.free .any ops listed ii = true) (hr : (Region.ready .any ops listed).contains ii = true)
    (hg : guardOf σ (ops.toList.map (·.dst)) gd = some true) (hx : ev σ x = some (.pointer (some ⟨b, o, none⟩))) (hf : fieldV T t ff = some (off, size)) (hp : putF fn.ntmps dst (.pointer (some ⟨b, o + off, none⟩)) σ = some σ')
    (hkk : RunA P q fn R kt ops mm (listed.setIfInBounds ii true) S σ' A) : RunA P q fn R kt ops (mm + 1) listed S σ A := by
  refine any_pure ii hT (nthG_arr hi) hn hfr hr ?_ hkk
  unfold pure1 slim
  simp only [hg, pureV_fieldat hx hf, hp]
variable {S : List HProp} {ops : Array Oper} {mm : Nat} {listed : Array Bool} {pos : String} {after : Array Edge}
theorem a_made (ii : Nat) {t e : Nat} {x y : Operand} {ti ei : TyI} {z : Value} {j k : IntKind} {m c : Int} (hT : TabOk P T) (zi : nthG ops.toList ii = some ⟨dst, .makeSlice t x y, type, pos, after, gd⟩) (zr : Region.ready .any ops listed = [ii]) (hg : guardOf σ (ops.toList.map (·.dst)) gd = some true) (hx : ev σ x = some (.int j m)) (hy : ev σ y = some (.int k c)) (ht : T t = some ti) (hu : ti.und = .slice e) (he : T e = some ei) (hz : ei.zero = some z) (hzs : z.cells.size = ei.size) (h0 : 0 ≤ m) (h1 : m ≤ c) {kb lm lc : Nat} (hlm : m.toNat = lm) (hlc : c.toNat = lc) (hkb : ei.bytes = kb) (h2 : kb * c ≤ 281474976710656) (h3 : c ≤ 9223372036854775807) {σ' : Nat → Facts} (hp : ∀ r : Nat, putF fn.ntmps dst (.slice (some ⟨r, 0, none⟩) lm lc) σ = some (σ' r)) (hkk : ∀ r : Nat, RunA P q fn R kt ops mm (listed.setIfInBounds ii true) S (σ' r) (cells r e ⟨zeroL z lc⟩ :: A)) : RunA P q fn R kt ops (mm + 1) listed S σ A := by
  subst hlm hlc
  exact any_op1 ii (nthG_arr zi) zr hg (op_makeSlice hT hx hy ht hu he hz hzs h0 h1 (by rw [hkb]; exact h2) h3) hp hkk
theorem a_box (ii : Nat) {t : Nat} {x : Operand} {v : Value} {l : List Value} {σ' : Nat → Facts} (zi : nthG ops.toList ii = some ⟨dst, .box t x, type, pos, after, gd⟩) (zr : Region.ready .any ops listed = [ii]) (hg : guardOf σ (ops.toList.map (·.dst)) gd = some true) (hx : ev σ x = some v) (hl : cellsL v = some l) (hp : ∀ r, putF fn.ntmps dst (.pointer (some ⟨r, 0, none⟩)) σ = some (σ' r))
    (hk : ∀ r, RunA P q fn R kt ops mm (listed.setIfInBounds ii true) S (σ' r) (cells r t ⟨l⟩ :: A)) : RunA P q fn R kt ops (mm + 1) listed S σ A :=
  any_op1 ii (nthG_arr zi) zr hg (opl_box hx hl) hp hk
/-- Operation i of a region comes up next. -/
def RunO (P : Program) (q : View) (fn : Func) (R : Value → HProp) (k : List It) (ops : Array Oper) (m : Nat) (listed : Array Bool) (S : List HProp) (σ : Facts) (A : List HProp) (i : Nat) : Prop :=
  ∀ hS g w0 a w, star S hS → Disj hS g → Sub q g → Holds fn.ntmps σ a → St g w0 (sep (eqv hS) (star A)) w →
    wpOp P ops (Post P fn R g w0 k) i (fun a' w' => SW g hS w' ∧ wpAnyH P .any ops (Post P fn R g w0 k) (SW g hS) m (listed.setIfInBounds i true) a' w') a w
theorem any_each {i : Nat} {rs : List Nat} (hr : Region.ready .any ops listed = i :: rs) (h : RunO P q fn R kt ops mm listed S σ A i) (h2 : ∀ j ∈ rs, RunO P q fn R kt ops mm listed S σ A j) : RunA P q fn R kt ops (mm + 1) listed S σ A := fun hS g w0 a w hs d hq hσ s =>
  wpAnyH_all hr (by simp) fun j hj => by
    rcases List.mem_cons.1 hj with rfl | hj
    · exact h hS g w0 a w hs d hq hσ s
    · exact h2 j hj hS g w0 a w hs d hq hσ s
theorem any_two {i j : Nat} (hr : Region.ready .any ops listed = [i, j]) (h : RunO P q fn R kt ops mm listed S σ A i) (h2 : RunO P q fn R kt ops mm listed S σ A j) : RunA P q fn R kt ops (mm + 1) listed S σ A :=
  any_each hr h fun x hx => by obtain rfl : x = j := by simpa using hx
                               exact h2
theorem ro_op (i : Nat) {o : Oper} {X : Type} {v : X → Value} {B : X → List HProp} {σ' : X → Facts} (hi : ops[i]? = some o) (hg : guardOf σ (ops.toList.map (·.dst)) o.guard = some true)
    (hx : OpX P q fn.ntmps σ o.op (star A) v B) (hp : ∀ x, putF fn.ntmps o.dst (v x) σ = some (σ' x)) (h : ∀ x, RunA P q fn R kt ops mm (listed.setIfInBounds i true) S (σ' x) (B x)) :
    RunO P q fn R kt ops mm listed S σ A i := fun hS g w0 a w hs d hq hσ s => by
  unfold wpOp
  rw [hi]
  simp only [guardOf_region hσ hg, if_true]
  left
  rw [sep_comm] at s
  obtain ⟨x, hx1, d1, s1⟩ := s.split
  have hx1 : x = hS := hx1
  subst hx1
  obtain ⟨w', y, hrun, s2⟩ := hx a o hσ rfl _ _ w (hq.add d1) s1
  have s3 := s2.join (F := eqv x) rfl d1
  rw [sep_comm] at s3
  have fin := h y x g w0 _ w' hs d hq (hσ.put (hp y)) s3
  unfold Oper.wp
  rcases hrun with hrun | ⟨hrun, hu⟩
  · rw [hrun]; exact ⟨s3.sw, fin⟩
  · rw [hrun]; rw [hu] at fin; exact ⟨s3.sw, fin⟩
theorem ro_call (i : Nat) {o : Oper} {c : Call} {ff : FuncId} {vs : List Value} {B L : List HProp} {X : Type} {v : X → Value} {D : X → List HProp} {σ' : X → Facts} {A' : X → List HProp}
    (hi : ops[i]? = some o) (ho : o.op = .call c) (hg : guardOf σ (ops.toList.map (·.dst)) o.guard = some true) (hv : calleeV σ c = some (ff, vs)) (hf : FnX P q ff vs B v D) (hA : Pulls A B L)
    (hp : ∀ x, putF fn.ntmps o.dst (v x) σ = some (σ' x)) (hD : ∀ x, appL (D x) L = some (A' x)) (h : ∀ x, RunA P q fn R kt ops mm (listed.setIfInBounds i true) S (σ' x) (A' x)) :
    RunO P q fn R kt ops mm listed S σ A i := fun hS g w0 a w hs d hq hσ s => by
  unfold wpOp
  rw [hi]
  simp only [guardOf_region hσ hg, if_true]
  left
  rw [sep_comm] at s
  obtain ⟨x, hx1, d1, s1⟩ := s.split
  have hx1 : x = hS := hx1
  subst hx1
  unfold Oper.wp
  rw [calleeV_run hσ hv hf.1 o ho]
  refine (hf.2.frame (star L) _ w0 w (hq.add d1) (by rw [← hA.out]; exact s1)).mono ?_
  rintro e w' ⟨u, rfl, s'⟩
  obtain ⟨y, s2⟩ := s'.ex
  rw [sep_assoc] at s2
  obtain ⟨rfl, s3⟩ := s2.pure
  have s4 := s3.join (F := eqv x) rfl d1
  rw [← star_append, sep_comm, ← appL_eq _ _ _ (hD y)] at s4
  exact ⟨s4.sw, h y x g w0 _ w' hs d hq (hσ.put (hp y)) s4⟩
theorem o_made (ii : Nat) {t e : Nat} {x y : Operand} {ti ei : TyI} {z : Value} {j k : IntKind} {m c : Int} (hT : TabOk P T) (zi : nthG ops.toList ii = some ⟨dst, .makeSlice t x y, type, pos, after, gd⟩) (hg : guardOf σ (ops.toList.map (·.dst)) gd = some true) (hx : ev σ x = some (.int j m)) (hy : ev σ y = some (.int k c)) (ht : T t = some ti) (hu : ti.und = .slice e) (he : T e = some ei) (hz : ei.zero = some z) (hzs : z.cells.size = ei.size) (h0 : 0 ≤ m) (h1 : m ≤ c) {kb lm lc : Nat} (hlm : m.toNat = lm) (hlc : c.toNat = lc) (hkb : ei.bytes = kb) (h2 : kb * c ≤ 281474976710656) (h3 : c ≤ 9223372036854775807) {σ' : Nat → Facts} (hp : ∀ r : Nat, putF fn.ntmps dst (.slice (some ⟨r, 0, none⟩) lm lc) σ = some (σ' r)) (hkk : ∀ r : Nat, RunA P q fn R kt ops mm (listed.setIfInBounds ii true) S (σ' r) (cells r e ⟨zeroL z lc⟩ :: A)) : RunO P q fn R kt ops mm listed S σ A ii := by
  subst hlm hlc
  exact ro_op ii (nthG_arr zi) hg (op_makeSlice hT hx hy ht hu he hz hzs h0 h1 (by rw [hkb]; exact h2) h3) hp hkk
theorem o_callx (ii : Nat) {B L : List HProp} {c : Call} {ff : FuncId} {vs : List Value} {X : Type} {v : X → Value} {D : X → List HProp} {σ' : X → Facts} {A' : X → List HProp} (hi : nthG ops.toList ii = some ⟨dst, .call c, type, pos, after, gd⟩) (hg : guardOf σ (ops.toList.map (·.dst)) gd = some true)
    (hv : calleeV σ c = some (ff, vs)) (h : FnX P q ff vs B v D) (hA : Pulls A B L) (hp : ∀ x, putF fn.ntmps dst (v x) σ = some (σ' x)) (hD : ∀ x, appL (D x) L = some (A' x)) (hkk : ∀ x, RunA P q fn R kt ops mm (listed.setIfInBounds ii true) S (σ' x) (A' x)) : RunO P q fn R kt ops mm listed S σ A ii :=
  ro_call ii (nthG_arr hi) rfl hg hv h hA hp hD hkk
theorem o_calld (ii : Nat) {B L D : List HProp} {c : Call} {ff : FuncId} {vs : List Value} {v : Value} {σ' : Facts} {A' : List HProp} (hi : nthG ops.toList ii = some ⟨dst, .call c, type, pos, after, gd⟩) (hg : guardOf σ (ops.toList.map (·.dst)) gd = some true)
    (hv : calleeV σ c = some (ff, vs)) (h : FnD P q ff vs B v D) (hA : Pulls A B L) (hp : putF fn.ntmps dst v σ = some σ') (hD : appL D L = some A') (hkk : RunA P q fn R kt ops mm (listed.setIfInBounds ii true) S σ' A') : RunO P q fn R kt ops mm listed S σ A ii :=
  ro_call ii (nthG_arr hi) rfl hg hv h hA (fun _ => hp) (fun _ => hD) fun _ => hkk
end
end Go.Proofs.Ytkmdajbhkfneaaa.VL
