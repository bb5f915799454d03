/- Values of structs and arrays out of their parts; a field of a value; append and copy as a walk applies them. -/
import Derived.Test.YtkmdajbhkfneaaaVL14
set_option linter.unusedVariables false
set_option linter.unusedSimpArgs false
namespace Go.Proofs.Ytkmdajbhkfneaaa.VL
open Go.RowKit View

def placesV (T : Nat → Option TyI) : List Field → List (Nat × Nat) → Option (List (Nat × Nat))
  | [], acc => revD acc []
  | ⟨_, type, offset, _, _, _, _⟩ :: fs, acc => match T type with
    | some ⟨_, size, _, _⟩ => placesV T fs ((offset, size) :: acc)
    | none => none
theorem placesV_eq {T : Nat → Option TyI} : ∀ (fs : List Field) (acc r : List (Nat × Nat)), placesV T fs acc = some r → ∃ l, r = acc.reverse ++ l ∧ fs.map (fun fl => (T fl.type).map fun i => (fl.offset, i.size)) = l.map some := by
  intro fs
  induction fs with
  | nil => intro acc r h; rw [revD_eq _ _ _ h]; exact ⟨[], by simp, rfl⟩
  | cons fl fs ih =>
    intro acc r h
    obtain ⟨y0, type, offset, y1, y2, y3, y4⟩ := fl
    unfold placesV at h
    cases hT : T type with
    | none => rw [hT] at h; cases h
    | some i =>
      rw [hT] at h
      obtain ⟨u, size, by_, z⟩ := i
      obtain ⟨l, e1, e2⟩ := ih _ _ h
      refine ⟨(offset, size) :: l, by rw [e1]; simp, ?_⟩
      rw [List.map_cons, e2, hT]; rfl
def nthP (l : List (Nat × Nat)) (i : Nat) : Option (Nat × Nat) :=
  match l, i with
  | v :: _, 0 => some v
  | _ :: l, i + 1 => nthP l i
  | [], _ => none
theorem nthP_eq (l : List (Nat × Nat)) (i : Nat) : nthP l i = l[i]? := by
  induction l generalizing i with
  | nil => cases i <;> rfl
  | cons v l ih => cases i with
    | zero => rfl
    | succ i => simpa [nthP] using ih i
/-- The cells with the parts put in. -/
def fillL (σ : Facts) (place : Nat → Option (Nat × Nat)) : List (Nat × Operand) → List Value → Option (List Value)
  | [], l => some l
  | (i, x) :: ps, l => match place i, ev σ x with
    | some (off, sz), some v => match cellsL v with
      | some vs => bif Nat.beq vs.length sz then (bif vs.isEmpty then none else (match putAll off vs l [] with
        | some l' => fillL σ place ps l'
        | none => none)) else none
      | none => none
    | _, _ => none
theorem fillL_eq {σ : Facts} {a : Act} {n : Nat} (hσ : Holds n σ a) {place : Nat → Option (Nat × Nat)} : ∀ (ps : List (Nat × Operand)) (l r : List Value), fillL σ place ps l = some r →
    Instr.fill place ⟨l⟩ (ps.map fun (p : Nat × Operand) => (p.1, a.eval p.2)) = some ⟨r⟩ := by
  intro ps
  induction ps with
  | nil => intro l r h; cases h; rfl
  | cons p ps ih =>
    intro l r h
    obtain ⟨i, x⟩ := p
    unfold fillL at h
    split at h
    · rename_i d1 d2 off sz v hp hx
      split at h
      · rename_i d3 vs hc
        cases hb : Nat.beq vs.length sz with
        | false => rw [hb] at h; cases h
        | true =>
          rw [hb] at h
          cases he : vs.isEmpty with
          | true => rw [he] at h; cases h
          | false =>
            rw [he] at h
            simp only [cond_true, cond_false] at h
            split at h
            · rename_i d4 l' hu
              have ec := cellsL_eq hc
              obtain ⟨hle, e⟩ := putAll_eq _ _ _ _ _ hu
              have hle : off + vs.length ≤ l.length := hle.resolve_left fun h => by rw [h] at he; cases he
              have hsz : vs.length = sz := Nat.eq_of_beq_eq_true hb
              rw [List.map_cons]
              unfold Instr.fill
              simp only [hp, hσ.ev hx]
              have hvs : v.cells.size = sz := by rw [ec]; exact hsz
              have hcond : (decide (v.cells.size ≠ sz) || decide (off + v.cells.size > (⟨l⟩ : Array Value).size)) = false := by
                rw [hvs, ← hsz]; simp; exact hle
              rw [hcond]
              simp only [Bool.false_eq_true, if_false]
              have e1 : (v.cells.zipIdx.foldl (fun cs (x : Value × Nat) => cs.setIfInBounds (off + x.2) x.1) (⟨l⟩ : Array Value)) = writes ⟨l⟩ off v.cells.toList := by
                rw [← Array.foldl_toList, Array.toList_zipIdx, fold_writes]; rfl
              have e2 : (v.cells.zipIdx.foldl (fun cs (x : Value × Nat) => match x with | (c, j) => cs.setIfInBounds (off + j) c) (⟨l⟩ : Array Value)) = writes ⟨l⟩ off v.cells.toList := e1
              rw [e2]
              have e3 : writes ⟨l⟩ off v.cells.toList = ⟨l'⟩ := by
                apply Array.ext'; rw [ec, e]; rfl
              rw [e3]
              exact ih _ _ h
            · cases h
      · cases h
    · cases h
def buildV (T : Nat → Option TyI) (σ : Facts) (t : Nat) (ps : List (Nat × Operand)) : Option (List Value) :=
  match T t with
  | some ⟨.struct ⟨fields⟩, _, _, some (.agg ⟨z⟩)⟩ => match placesV T fields [] with
    | some pl => fillL σ (nthP pl) ps z
    | none => none
  | some ⟨.array _ e, _, _, some (.agg ⟨z⟩)⟩ => match T e with
    | some ⟨_, size, _, _⟩ => fillL σ (fun i => some (i * size, size)) ps z
    | none => none
  | _ => none
section
variable {P : Program} {q : View} {T : Nat → Option TyI} {n : Nat} {σ : Facts} {A : List HProp} {f : HProp → List HProp}
theorem op_build (hT : TabOk P T) {t : Nat} {ps : List (Nat × Operand)} {l : List Value} (h : buildV T σ t ps = some l) : OpQ P q n σ (.build t ⟨ps⟩) A (.agg ⟨l⟩) := opq_pure fun a o hσ ho w => by
  obtain ⟨dst, op, type, pos, after, guard⟩ := o
  obtain rfl : op = _ := ho
  rw [show execOp a.eval _ = (do pure (.value (← Instr.build t ((⟨ps⟩ : Array (Nat × Operand)).map fun (i, x) => (i, a.eval x))))) from rfl]
  have eps : ((⟨ps⟩ : Array (Nat × Operand)).map fun (i, x) => (i, a.eval x)) = ⟨ps.map fun (p : Nat × Operand) => (p.1, a.eval p.2)⟩ := by simp
  rw [eps]
  unfold buildV at h
  split at h
  · rename_i d fields s b z ht
    split at h
    · rename_i d2 pl hpl
      obtain ⟨l2, e1, e2⟩ := placesV_eq _ _ _ hpl
      simp only [List.reverse_nil, List.nil_append] at e1
      subst e1
      have hf := fillL_eq hσ _ _ _ h
      have hpe : (fun i => (⟨pl⟩ : Array (Nat × Nat))[i]?) = nthP pl := by funext i; rw [nthP_eq]; simp
      have := fill_run hT (r := ⟨l⟩) ht rfl (ps := ps.map fun (p : Nat × Operand) => (p.1, a.eval p.2)) w rfl e2 (by
        have e : (fun i => (⟨pl⟩ : Array (Nat × Nat))[i]?) = nthP pl := hpe
        rw [e]; exact hf)
      rw [Sem.run_bind, this]; rfl
    · cases h
  · rename_i d m e s b z ht
    split at h
    · rename_i d2 u size b2 z2 he
      have hf := fillL_eq hσ _ _ _ h
      rw [Sem.run_bind]
      unfold Instr.build
      simp only [Sem.run_bind, zero_run hT ht rfl, und_run hT ht, Result.andThen, size_run hT he]
      have e3 : (Value.agg ⟨z⟩).cells = ⟨z⟩ := rfl
      rw [e3, hf]; rfl
    · cases h
  · cases h
/-- A field of a value. -/
def fieldOf (T : Nat → Option TyI) (t f : Nat) (v : Value) : Option Value :=
  match T t, v with
  | some ⟨.struct ⟨fields⟩, _, _, _⟩, .agg ⟨l⟩ => match nthF fields f with
    | some ⟨_, type, offset, _, _, _, _⟩ => match T type with
      | some ⟨u, size, _, _⟩ => bif isAggD u then (match dropTake offset size l with | some r => some (.agg ⟨r⟩) | none => none) else nthV l offset
      | none => none
    | none => none
  | _, _ => none
theorem op_field (hT : TabOk P T) {t f : Nat} {x : Operand} {v r : Value} (hx : ev σ x = some v) (h : fieldOf T t f v = some r) : OpQ P q n σ (.field t x f) A r := opq_pure fun a o hσ ho w => by
  obtain ⟨dst, op, type, pos, after, guard⟩ := o
  obtain rfl : op = _ := ho
  rw [show execOp a.eval _ = (do pure (.value (← Instr.field t (a.eval x) f))) from rfl, hσ.ev hx]
  unfold fieldOf at h
  split at h
  · rename_i d1 d2 fields s b z l ht
    split at h
    · rename_i d3 y0 ftype off y1 y2 y3 y4 hf
      split at h
      · rename_i d4 u size b2 z2 hft
        rw [nthF_eq] at hf
        have hf' : (⟨fields⟩ : Array Field)[f]? = some ⟨y0, ftype, off, y1, y2, y3, y4⟩ := by simpa using hf
        unfold Instr.field
        simp only [Sem.run_bind, und_run hT ht, Result.andThen, hf', asAgg, Sem.run_pure]
        unfold part
        simp only [Sem.run_bind, agg_run hT hft, Result.andThen]
        cases hu : isAggD u with
        | true =>
          rw [hu] at h
          simp only [cond_true] at h
          split at h
          · rename_i d5 r2 hd
            obtain rfl := Option.some.inj h
            obtain ⟨e, hle⟩ := dropTake_eq _ _ _ _ hd
            simp only [if_true, Sem.run_bind, size_run hT hft, Result.andThen, Sem.run_pure]
            congr 4
            apply Array.ext'
            rw [e, Array.toList_extract, List.extract_eq_take_drop, show off + size - off = size from by omega]
          · cases h
        | false =>
          rw [hu] at h
          simp only [cond_false] at h
          rw [nthV_eq] at h
          have h' : (⟨l⟩ : Array Value)[off]? = some r := by simpa using h
          simp only [Bool.false_eq_true, if_false, h', Sem.run_pure, Result.andThen]
      · cases h
    · cases h
  · cases h
end
section
variable {P : Program} {q : View} {T : Nat → Option TyI} {fn : Func} {R : Value → HProp} {kt : List It} {σ : Facts} {A : List HProp} {f : HProp → List HProp} {ds : List (Option Tmp)} {os : List SOp} {dst : Option Tmp} {type : TypeId} {gd : Option (Nat × Bool)}
  {S : List HProp} {ops : Array Oper} {mm : Nat} {listed : Array Bool} {pos : String} {after : Array Edge}
theorem w_build {t : Nat} {ps : List (Nat × Operand)} {l : List Value} {σ' : Facts} (hT : TabOk P T) (hg : guardOf σ ds gd = some true) (h : buildV T σ t ps = some l) (hp : putF fn.ntmps dst (.agg ⟨l⟩) σ = some σ') (hkk : Run P q fn R (.ops ds os :: kt) σ' A) :
    Run P q fn R (.ops ds (⟨dst, .build t ⟨ps⟩, type, gd⟩ :: os) :: kt) σ A := run_op hg (op_build hT h).opd hp hkk
theorem w_field {t i : Nat} {x : Operand} {v r : Value} {σ' : Facts} (hT : TabOk P T) (hg : guardOf σ ds gd = some true) (hx : ev σ x = some v) (h : fieldOf T t i v = some r) (hp : putF fn.ntmps dst r σ = some σ') (hkk : Run P q fn R (.ops ds os :: kt) σ' A) :
    Run P q fn R (.ops ds (⟨dst, .field t x i, type, gd⟩ :: os) :: kt) σ A := run_op hg (op_field hT hx h).opd hp hkk
theorem a_build (ii : Nat) {t : Nat} {ps : List (Nat × Operand)} {l : List Value} {σ' : Facts} (hT : TabOk P T) (zi : nthG ops.toList ii = some ⟨dst, .build t ⟨ps⟩, type, pos, after, gd⟩) (zn : Region.noSelect ops = true) (zf : Region.free .any ops listed ii = true) (zr : (Region.ready .any ops listed).contains ii = true)
    (zg : guardOf σ (ops.toList.map (·.dst)) gd = some true) (h : buildV T σ t ps = some l) (hp : putF fn.ntmps dst (.agg ⟨l⟩) σ = some σ') (hkk : RunA P q fn R kt ops mm (listed.setIfInBounds ii true) S σ' A) : RunA P q fn R kt ops (mm + 1) listed S σ A :=
  any_look ii (nthG_arr zi) zn zf zr zg (op_build hT h) hp hkk
/-- append of a slice that lies in a block of its own. -/
theorem reads_own {q : View} {A : List HProp} {f : HProp → List HProp} {b m cap size : Nat} {tc : TypeId} {l : List Value} (hA : At A (cells b tc ⟨l⟩) f) (hl : l.length = m * size) :
    ∀ g w0 w, Sub q g → St g w0 (star A) w → Reads P size m (.slice (some ⟨b, 0, none⟩) m cap) l w := fun g w0 w hq s => by
  obtain ⟨L, e, _⟩ := hA.out
  obtain ⟨fr, _, _, hh⟩ := (show St g w0 (sep (cells b tc ⟨l⟩) (star L)) w from e ▸ s).cells_open
  have := reads_cells (P := P) (o := 0) (m := m) (cap := cap) (size := size) hh (by simp [hl])
  simpa [← hl] using this
theorem reads_slice {q : View} {A : List HProp} {f : HProp → List HProp} {p : Option Addr} {m cap size : Nat} {tc : TypeId} {l : List Value} (hA : At A (sl p m cap tc size l) f) :
    ∀ g w0 w, Sub q g → St g w0 (star A) w → Reads P size m (.slice p m cap) l w := fun g w0 w hq s => by
  obtain ⟨L, e, _⟩ := hA.out
  exact reads_sl (e ▸ s)
theorem w_append {x y : Operand} {t e ty : Nat} {ti ei tyi : TyI} {z v : Value} {p : Option Addr} {len cap m size : Nat} {xs news : List Value} {σ' : Option Addr × Nat → Facts} (hT : TabOk P T) (hg : guardOf σ ds gd = some true)
    (hx : ev σ x = some (.slice p len cap)) (hy : ev σ y = some v) (ht : T t = some ti) (hu : ti.und = .slice e) (he : T e = some ei) (hty : T ty = some tyi) (hni : rowD tyi.und) (hz : ei.zero = some z) (hzs : z.cells.size = ei.size)
    (hA : At A (sl p len cap e size xs) f) (hs : ei.size = size) (hr : ∀ g w0 w, Sub q g → St g w0 (star A) w → Reads P size m v news w) (hnl : news.length = m * size) (h1 : news.all one1 = true) (hxl : xs.length = len * size)
    (hb : (len + m) * ei.bytes ≤ 140737488355328) (h63 : len + m ≤ 9223372036854775807) (hp : ∀ r : Option Addr × Nat, putF fn.ntmps dst (.slice r.1 (len + m) r.2) σ = some (σ' r))
    (hkk : ∀ r : Option Addr × Nat, Run P q fn R (.ops ds os :: kt) (σ' r) (f (sl r.1 (len + m) r.2 e size (xs ++ news)))) :
    Run P q fn R (.ops ds (⟨dst, .call { callee := .builtin .append, args := ⟨[x, y]⟩, argTypes := ⟨[t, ty]⟩ }, type, gd⟩ :: os) :: kt) σ A := by
  subst hs
  exact run_opx hg (op_append hT rfl hx hy ht hu he hty hni hz hzs hA hr hnl h1 hxl hb h63) hp hkk
theorem a_append (ii : Nat) {x y : Operand} {t e ty : Nat} {ti ei tyi : TyI} {z v : Value} {p : Option Addr} {len cap m size : Nat} {xs news : List Value} {σ' : Option Addr × Nat → Facts} (hT : TabOk P T)
    (zi : nthG ops.toList ii = some ⟨dst, .call { callee := .builtin .append, args := ⟨[x, y]⟩, argTypes := ⟨[t, ty]⟩ }, type, pos, after, gd⟩) (zr : Region.ready .any ops listed = [ii]) (hg : guardOf σ (ops.toList.map (·.dst)) gd = some true)
    (hx : ev σ x = some (.slice p len cap)) (hy : ev σ y = some v) (ht : T t = some ti) (hu : ti.und = .slice e) (he : T e = some ei) (hty : T ty = some tyi) (hni : rowD tyi.und) (hz : ei.zero = some z) (hzs : z.cells.size = ei.size)
    (hA : At A (sl p len cap e size xs) f) (hs : ei.size = size) (hr : ∀ g w0 w, Sub q g → St g w0 (star A) w → Reads P size m v news w) (hnl : news.length = m * size) (h1 : news.all one1 = true) (hxl : xs.length = len * size)
    (hb : (len + m) * ei.bytes ≤ 140737488355328) (h63 : len + m ≤ 9223372036854775807) (hp : ∀ r : Option Addr × Nat, putF fn.ntmps dst (.slice r.1 (len + m) r.2) σ = some (σ' r))
    (hkk : ∀ r : Option Addr × Nat, RunA P q fn R kt ops mm (listed.setIfInBounds ii true) S (σ' r) (f (sl r.1 (len + m) r.2 e size (xs ++ news)))) : RunA P q fn R kt ops (mm + 1) listed S σ A := by
  subst hs
  exact any_op1 ii (nthG_arr zi) zr hg (op_append hT rfl hx hy ht hu he hty hni hz hzs hA hr hnl h1 hxl hb h63) hp hkk
theorem w_copy {x y : Operand} {t e ty : Nat} {ti ei : TyI} {v : Value} {b o len cap m size : Nat} {cs : List Value} {tc : TypeId} {news : List Value} {σ' : Facts} (hT : TabOk P T) (hg : guardOf σ ds gd = some true)
    (hx : ev σ x = some (.slice (some ⟨b, o, none⟩) len cap)) (hy : ev σ y = some v) (ht : T t = some ti) (hu : ti.und = .slice e) (he : T e = some ei) (hs : ei.size = size)
    (hA : At A (cells b tc ⟨cs⟩) f) (hr : ∀ g w0 w, Sub q g → St g w0 (star A) w → Reads P size m v news w) (h1 : news.all one1 = true) (hnl : news.length = m * size) (hin : o + min m len * size ≤ cs.length)
    (hp : putF fn.ntmps dst (.int .i64 (min m len : Nat)) σ = some σ') (hkk : Run P q fn R (.ops ds os :: kt) σ' (f (cells b tc (writes ⟨cs⟩ o (news.take (min m len * size)))))) :
    Run P q fn R (.ops ds (⟨dst, .call { callee := .builtin .copy, args := ⟨[x, y]⟩, argTypes := ⟨[t, ty]⟩ }, type, gd⟩ :: os) :: kt) σ A := by
  subst hs
  exact run_op hg (op_copy hT rfl hx hy ht hu he hA hr h1 hnl (by simpa using hin)) hp hkk
theorem a_copy (ii : Nat) {x y : Operand} {t e ty : Nat} {ti ei : TyI} {v : Value} {b o len cap m size : Nat} {cs : List Value} {tc : TypeId} {news : List Value} {σ' : Facts} (hT : TabOk P T)
    (zi : nthG ops.toList ii = some ⟨dst, .call { callee := .builtin .copy, args := ⟨[x, y]⟩, argTypes := ⟨[t, ty]⟩ }, type, pos, after, gd⟩) (zr : Region.ready .any ops listed = [ii]) (hg : guardOf σ (ops.toList.map (·.dst)) gd = some true)
    (hx : ev σ x = some (.slice (some ⟨b, o, none⟩) len cap)) (hy : ev σ y = some v) (ht : T t = some ti) (hu : ti.und = .slice e) (he : T e = some ei) (hs : ei.size = size)
    (hA : At A (cells b tc ⟨cs⟩) f) (hr : ∀ g w0 w, Sub q g → St g w0 (star A) w → Reads P size m v news w) (h1 : news.all one1 = true) (hnl : news.length = m * size) (hin : o + min m len * size ≤ cs.length)
    (hp : putF fn.ntmps dst (.int .i64 (min m len : Nat)) σ = some σ') (hkk : RunA P q fn R kt ops mm (listed.setIfInBounds ii true) S σ' (f (cells b tc (writes ⟨cs⟩ o (news.take (min m len * size)))))) : RunA P q fn R kt ops (mm + 1) listed S σ A := by
  subst hs
  exact any_op1 ii (nthG_arr zi) zr hg (op_copy hT rfl hx hy ht hu he hA hr h1 hnl (by simpa using hin)) (fun _ => hp) fun _ => hkk
theorem writes_all (cs news : List Value) (h : cs.length = news.length) : writes ⟨cs⟩ 0 news = ⟨news⟩ := by
  have := writes_append [] news cs (by omega)
  simp only [List.nil_append, List.length_nil] at this
  rw [show (⟨cs⟩ : Array Value) = cs.toArray from rfl, this, List.drop_of_length_le (by omega), List.append_nil]
end
end Go.Proofs.Ytkmdajbhkfneaaa.VL
