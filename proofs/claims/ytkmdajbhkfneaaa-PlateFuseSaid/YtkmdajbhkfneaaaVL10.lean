/- New slices, copy, bytes and texts. -/
import Derived.Test.YtkmdajbhkfneaaaVL9
import Derived.Laws.IdiomStrings
import Derived.Laws.BytesString
set_option linter.unusedVariables false
set_option linter.unusedSimpArgs false
namespace Go.Proofs.Ytkmdajbhkfneaaa.VL
open Go.RowKit View

section
variable {P : Program} {q : View} {T : Nat → Option TyI} {n : Nat} {σ : Facts} {A : List HProp} {f : HProp → List HProp}
theorem fold_writes (v : List Value) (off : Nat) : ∀ (j : Nat) (c : Array Value), (v.zipIdx j).foldl (fun cs (p : Value × Nat) => cs.setIfInBounds (off + p.2) p.1) c = writes c (off + j) v := by
  induction v with
  | nil => intro j c; rfl
  | cons x v ih =>
    intro j c
    rw [List.zipIdx_cons, List.foldl_cons, ih]
    rfl
theorem writes_app (c : Array Value) (o : Nat) (u v : List Value) : writes c o (u ++ v) = writes (writes c o u) (o + u.length) v := by
  induction u generalizing c o with
  | nil => rfl
  | cons x u ih =>
    rw [List.cons_append, writes, ih, writes]
    congr 1
    simp; omega
def enumI (i : Nat) : List Value → List (Nat × Value)
  | [] => []
  | v :: vs => (i, v) :: enumI (i + 1) vs
def flat (vs : List Value) : List Value := vs.flatMap fun v => v.cells.toList
theorem flat_length {k : Nat} {vs : List Value} (h : ∀ v ∈ vs, v.cells.size = k) : (flat vs).length = vs.length * k := by
  induction vs with
  | nil => simp [flat]
  | cons v vs ih =>
    have h1 := h v (by simp)
    have h2 := ih (fun u hu => h u (by simp [hu]))
    unfold flat at *
    rw [List.flatMap_cons, List.length_append, h2, Array.length_toList, h1, List.length_cons, Nat.add_mul]
    omega
theorem fill_enum (k : Nat) : ∀ (vs : List Value) (i : Nat) (c : Array Value), (∀ v ∈ vs, v.cells.size = k) → (i + vs.length) * k ≤ c.size →
    Instr.fill (fun i => some (i * k, k)) c (enumI i vs) = some (writes c (i * k) (flat vs)) := by
  intro vs
  induction vs with
  | nil => intro i c _ _; rfl
  | cons v vs ih =>
    intro i c h hle
    have hv := h v (by simp)
    have hle2 : i * k + k ≤ c.size := by
      have e : (i + (v :: vs).length) * k = i * k + k + vs.length * k := by rw [List.length_cons]; simp [Nat.add_mul]; omega
      omega
    unfold enumI Instr.fill
    simp only [hv]
    have hcond : (decide (k ≠ k) || decide (i * k + k > c.size)) = false := by simp; omega
    rw [hcond]
    simp only [Bool.false_eq_true, if_false]
    have e1 : (v.cells.zipIdx.foldl (fun cs (x : Value × Nat) => cs.setIfInBounds (i * k + x.2) x.1) c) = writes c (i * k) v.cells.toList := by
      rw [← Array.foldl_toList, Array.toList_zipIdx, fold_writes]; rfl
    have e2 : (v.cells.zipIdx.foldl (fun cs (x : Value × Nat) => match x with | (c, j) => cs.setIfInBounds (i * k + j) c) c) = writes c (i * k) v.cells.toList := e1
    rw [e2, ih (i + 1) _ (fun u hu => h u (by simp [hu])) (by rw [writes_size]; have e : (i + 1 + vs.length) = (i + (v :: vs).length) := by simp; omega
                                                              rw [e]; exact hle)]
    congr 1
    show _ = writes c (i * k) (v.cells.toList ++ flat vs)
    rw [writes_app]
    congr 1
    rw [Array.length_toList, hv, Nat.add_mul]; omega
/-- The parts of a literal, one for each place. -/
def partsV (σ : Facts) : Nat → List (Nat × Operand) → List Value → Option (List Value)
  | _, [], acc => some acc.reverse
  | i, (j, x) :: ps, acc => bif Nat.beq i j then (match ev σ x with | some v => partsV σ (i + 1) ps (v :: acc) | none => none) else none
theorem partsV_acc {a : Act} (hσ : Holds n σ a) : ∀ (ps : List (Nat × Operand)) (i : Nat) (acc r : List Value), partsV σ i ps acc = some r → ∃ l, r = acc.reverse ++ l ∧ ps.map (fun (p : Nat × Operand) => (p.1, a.eval p.2)) = enumI i l := by
  intro ps
  induction ps with
  | nil => intro i acc r h; obtain rfl := Option.some.inj h; exact ⟨[], by simp, rfl⟩
  | cons p ps ih =>
    intro i acc r h
    obtain ⟨j, x⟩ := p
    unfold partsV at h
    cases hb : Nat.beq i j with
    | false => rw [hb] at h; cases h
    | true =>
      rw [hb] at h
      simp only [cond_true] at h
      cases hx : ev σ x with
      | none => rw [hx] at h; cases h
      | some v =>
        rw [hx] at h
        obtain ⟨l, e1, e2⟩ := ih _ _ _ h
        refine ⟨v :: l, by rw [e1]; simp, ?_⟩
        rw [List.map_cons, e2, hσ.ev hx]
        show (j, v) :: enumI (i + 1) l = (i, v) :: enumI (i + 1) l
        rw [Nat.eq_of_beq_eq_true hb]
theorem partsV_eq {a : Act} (hσ : Holds n σ a) {ps : List (Nat × Operand)} {vs : List Value} (h : partsV σ 0 ps [] = some vs) : ps.map (fun (p : Nat × Operand) => (p.1, a.eval p.2)) = enumI 0 vs := by
  obtain ⟨l, e1, e2⟩ := partsV_acc hσ ps 0 [] vs h
  rw [e2, e1]; rfl
/-- A slice of listed values. -/
theorem op_buildSlice (hT : TabOk P T) {t e len : Nat} {ps : List (Nat × Operand)} {ti ei : TyI} {z : Value} {vs : List Value} (ht : T t = some ti) (hu : ti.und = .slice e) (he : T e = some ei) (hz : ei.zero = some z) (hzs : z.cells.size = ei.size)
    (hps : partsV σ 0 ps [] = some vs) (hl : vs.length = len) (hk : ∀ v ∈ vs, v.cells.size = ei.size) (hs : len * ei.size ≤ 16777216) :
    OpX P q n σ (.buildSlice t len ⟨ps⟩) (star A) (fun r : Nat => .slice (some ⟨r, 0, none⟩) len len) fun r => cells r e (flat vs).toArray :: A := fun a o hσ ho g w0 w hq s => by
  obtain ⟨hr, s'⟩ := newRow_st (P := P) s e (flat vs).toArray
  refine ⟨_, w.heap.size, .inl ?_, s'⟩
  obtain ⟨dst, op, type, pos, after, guard⟩ := o
  obtain rfl : op = _ := ho
  rw [show execOp a.eval _ = (do pure (.value (← Instr.buildSlice t len ((⟨ps⟩ : Array (Nat × Operand)).map fun (i, x) => (i, a.eval x))))) from rfl]
  have eps : ((⟨ps⟩ : Array (Nat × Operand)).map fun (i, x) => (i, a.eval x)) = ⟨enumI 0 vs⟩ := by
    rw [← partsV_eq hσ hps]; simp
  rw [eps]
  unfold Instr.buildSlice
  simp only [Sem.run_bind, und_run hT ht, hu, Result.andThen, size_run hT he]
  rw [if_neg (by omega)]
  have fl := flat_length hk
  have fin : ∀ (zz : Array Value), Instr.fill (fun i => some (i * ei.size, ei.size)) ((Array.range (len * ei.size)).map fun x => zz[x % zz.size]!) (enumI 0 vs) = some (flat vs).toArray := fun zz => by
    rw [fill_enum ei.size vs 0 _ hk (by simp [hl])]
    congr 1
    have e : ∀ c : Array Value, c.size = (flat vs).length → writes c (0 * ei.size) (flat vs) = (flat vs).toArray := fun c hc => by
      have := writes_append [] (flat vs) c.toList (by simp [hc])
      rw [Nat.zero_mul]
      simp only [List.nil_append, List.length_nil] at this
      rw [show c = c.toList.toArray from rfl, this, List.drop_of_length_le (by simp [hc]), List.append_nil]
    exact e _ (by simp [fl, hl])
  by_cases h0 : len * ei.size = 0
  · rw [if_pos h0]
    simp only [Sem.run_pure, fin, Sem.run_bind, hr, Result.andThen]
  · rw [if_neg h0]
    simp only [Sem.run_bind, zero_run hT he hz, Sem.run_pure, Result.andThen, fin, hr]
/-- A new slice of zeros. -/
theorem op_makeSlice (hT : TabOk P T) {t e : Nat} {x y : Operand} {ti ei : TyI} {z : Value} {j k : IntKind} {m c : Int} (hx : ev σ x = some (.int j m)) (hy : ev σ y = some (.int k c)) (ht : T t = some ti) (hu : ti.und = .slice e) (he : T e = some ei) (hz : ei.zero = some z) (hzs : z.cells.size = ei.size)
    (h0 : 0 ≤ m) (h1 : m ≤ c) (h2 : ei.bytes * c ≤ 281474976710656) (h3 : c ≤ 9223372036854775807) :
    OpX P q n σ (.makeSlice t x y) (star A) (fun r : Nat => .slice (some ⟨r, 0, none⟩) m.toNat c.toNat) fun r => cells r e (Builtin.zeroCells z.cells c.toNat) :: A := fun a o hσ ho g w0 w hq s => by
  obtain ⟨hr, s'⟩ := newRow_st (P := P) s e (Builtin.zeroCells z.cells c.toNat)
  refine ⟨_, w.heap.size, .inl ?_, s'⟩
  obtain ⟨dst, op, type, pos, after, guard⟩ := o
  obtain rfl : op = _ := ho
  obtain ⟨jj, hj, hjs, hjb, hjz⟩ := info_run hT he w
  rw [show execOp a.eval _ = (do pure (.value (← Instr.makeSlice t (a.eval x) (a.eval y)))) from rfl, hσ.ev hx, hσ.ev hy]
  have w1 : IntKind.i64.wrap m = m := wrap64_id (by omega) (by omega)
  have w2 : IntKind.i64.wrap c = c := wrap64_id (by omega) (by omega)
  have hc2 : ((jj.bytes : Int) * c > 281474976710656) = False := eq_false (by rw [hjb]; omega)
  have hm2 : ((jj.bytes : Int) * m > 281474976710656) = False := eq_false (by
    rw [hjb]
    have : (ei.bytes : Int) * m ≤ ei.bytes * c := Int.mul_le_mul_of_nonneg_left h1 (by omega)
    omega)
  unfold Instr.makeSlice
  simp only [Sem.run_bind, und_run hT ht, hu, Result.andThen, asInt, asIntOf, Sem.run_pure, hj, w1, w2]
  have t1 : (decide (c < 0) || decide ((jj.bytes : Int) * c > 2 ^ 48) || decide (m < 0) || decide (m > c)) = false := by
    rw [decide_eq_false (show ¬ c < 0 by omega), decide_eq_false (show ¬ m < 0 by omega), decide_eq_false (show ¬ m > c by omega), decide_eq_false (by
      show ¬ ((jj.bytes : Int) * c > 281474976710656)
      rw [hjb]; omega)]
    rfl
  rw [t1]
  simp only [Bool.false_eq_true, if_false]
  have room : ∀ b, (askRoom b).run P w = .ok () w := fun b => by unfold askRoom; split <;> rfl
  simp only [Sem.run_bind, Sem.run_pure, Result.andThen, room, size_run hT he]
  by_cases hn : c.toNat * ei.size = 0
  · rw [if_pos hn]
    have e0 : (Builtin.zeroCells z.cells c.toNat) = ((Array.range (c.toNat * ei.size)).map fun x => (#[] : Array Value)[x % (#[] : Array Value).size]!) := by
      unfold Builtin.zeroCells; rw [hzs, hn]; simp
    simp only [Sem.run_pure, Sem.run_bind, Result.andThen]
    rw [hn] at e0 ⊢
    rw [← e0, hr]
  · rw [if_neg hn]
    have e0 : (Builtin.zeroCells z.cells c.toNat) = ((Array.range (c.toNat * ei.size)).map fun x => z.cells[x % z.cells.size]!) := by
      unfold Builtin.zeroCells; rw [hzs]
    simp only [Sem.run_bind, zero_run hT he hz, Sem.run_pure, Result.andThen, ← e0, hr]
theorem zeroCells_one (z : Value) (hz : z.cells = #[z]) (m : Nat) : Builtin.zeroCells z.cells m = (List.replicate m z).toArray := by
  rw [hz]
  unfold Builtin.zeroCells
  apply Array.ext
  · simp
  · intro i h1 h2
    simp [Nat.mod_one]
/-- copy into a part of a block. -/
theorem op_copy (hT : TabOk P T) {c : Call} {x y : Operand} {t e ty : Nat} {ti ei : TyI} {v : Value} {b o len cap m : Nat} {cs : Array Value} {tc : TypeId} {news : List Value}
    (hc : c = { callee := .builtin .copy, args := ⟨[x, y]⟩, argTypes := ⟨[t, ty]⟩ }) (hx : ev σ x = some (.slice (some ⟨b, o, none⟩) len cap)) (hy : ev σ y = some v) (ht : T t = some ti) (hu : ti.und = .slice e) (he : T e = some ei)
    (hA : At A (cells b tc cs) f) (hr : ∀ g w0 w, Sub q g → St g w0 (star A) w → Reads P ei.size m v news w) (h1 : news.all one1 = true) (hnl : news.length = m * ei.size) (hin : o + min m len * ei.size ≤ cs.size) :
    OpD P q n σ (.call c) (star A) (.int .i64 (min m len : Nat)) (f (cells b tc (writes cs o (news.take (min m len * ei.size))))) := opd_of fun a op hσ ho g w0 w hq s => by
  obtain ⟨L, eA, eA'⟩ := hA.out
  obtain ⟨fr, hfr, s2, hh⟩ := (show St g w0 (sep (cells b tc cs) (star L)) w from eA ▸ s).cells_open
  have rd := hr g w0 w hq s
  have hmin : min m len * ei.size ≤ news.length := by rw [hnl]; exact Nat.mul_le_mul_right _ (Nat.min_le_left _ _)
  obtain ⟨w', hst, s3⟩ := run_storeCells_view (P := P) b o tc fr (news.take (min m len * ei.size)) 0 cs w hfr s2 (by rw [List.length_take]; omega)
    (fun u hu => List.all_eq_true.1 h1 u (List.mem_of_mem_take hu))
  refine ⟨w', ?_, by rw [eA' _]; exact s3.cells_shut (by rw [writes_size]; exact hfr)⟩
  obtain ⟨dst, op, type, pos, after, guard⟩ := op
  obtain rfl : op = _ := ho
  subst hc
  simp only [execOp, resolve, invoke, builtin]
  rw [Sem.run_bind]
  simp only [Sem.run_pure, Result.andThen, List.map_toArray, List.map_cons, List.map_nil, hσ.ev hx, hσ.ev hy]
  have hf := rd.2 (min m len) (Nat.min_le_left _ _) w.drawn
  have hf' : (Builtin.firstCells ei.size (min m len) v).run P w = .ok (news.take (min m len * ei.size)).toArray w := hf
  have hm : Nat.min m len = min m len := rfl
  have : (Builtin.copy_ #[t, ty] type #[.slice (some ⟨b, o, none⟩) len cap, v]).run P w = .ok (.int .i64 (min m len : Nat)) w' := by
    unfold Builtin.copy_
    simp only [List.getElem?_toArray, List.getElem?_cons_zero, List.getElem?_cons_succ]
    simp only [Sem.run_bind, und_run hT ht, hu, Result.andThen, rd.1, size_run hT he, hm, hf']
    rw [show (storeCells ⟨b, o, none⟩ (news.take (min m len * ei.size)).toArray.toList).run P w = .ok () w' from hst]
    rfl
  rw [Sem.run_bind, this]; rfl
/-- The bytes of a text as a slice. -/
theorem op_bytes (hT : TabOk P T) {src dst e : Nat} {x : Operand} {si di ei : TyI} {s : ByteArray} (hs : T src = some si) (hsu : si.und = .string) (hd : T dst = some di) (hdu : di.und = .slice e) (he : T e = some ei) (heu : ei.und = .int .u8) (hx : ev σ x = some (.string s)) :
    OpX P q n σ (.convert src dst x) (star A) (fun r : Option Addr × Nat => .slice r.1 s.size r.2) fun r => sl r.1 s.size r.2 e 1 (bv s.data.toList) :: A := fun a o hσ ho g w0 w hq st => by
  have h1 := (hT src si hs).1
  have h2 := (hT dst di hd).1
  have h3 := (hT e ei he).1
  rw [hsu] at h1; rw [hdu] at h2; rw [heu] at h3
  have hr := run_bytes_of_string (P := P) w src dst e s h1 h2 h3
  refine ⟨w.drew.alloc (.cells (bytesRow s (grownCap w s.size 0 e)) e ((bytesRow s (grownCap w s.size 0 e)).size, (bytesRow s (grownCap w s.size 0 e)).size + 1)), (some ⟨w.heap.size, 0, none⟩, grownCap w s.size 0 e), .inl ?_, ?_⟩
  · obtain ⟨dst', op, type, pos, after, guard⟩ := o
    obtain rfl : op = _ := ho
    rw [show execOp a.eval _ = (do pure (.value (← convert src dst (a.eval x)))) from rfl, hσ.ev hx, Sem.run_bind, hr]; rfl
  · have hge := grownCap_ge w s.size 0 e
    have s1 := (st.drew.new (.cells (bytesRow s (grownCap w s.size 0 e)) e ((bytesRow s (grownCap w s.size 0 e)).size, (bytesRow s (grownCap w s.size 0 e)).size + 1))).cells_shut (.inr (Nat.le_refl _))
    have er : bytesRow s (grownCap w s.size 0 e) = (bv s.data.toList ++ List.replicate (grownCap w s.size 0 e - s.size) (Value.int .u8 0)).toArray := by
      apply Array.ext'
      unfold bytesRow bv
      simp
    rw [er] at s1 ⊢
    have hz : s.data.toList.length = s.size := Array.length_toList
    refine St.sl_shut ?_ ?_ hge s1
    · rw [bv_length, hz, Nat.mul_one]
    · rw [bv_length, hz, List.length_replicate]; omega
theorem bytes_run (hT : TabOk P T) {src dst e : Nat} {si di ei : TyI} (hs : T src = some si) (hsu : si.und = .slice e) (hd : T dst = some di) (hdu : di.und = .string) (he : T e = some ei) (heu : ei.und = .int .u8)
    {w : World} {b o m cap : Nat} {c : Array Value} {tc : TypeId} {fr : Nat × Nat} (hh : w.heap[b]? = some (.cells c tc fr)) {l : List UInt8} (hl : l.length = m) (hc : (c.toList.drop o).take m = bv l) :
    (convert src dst (.slice (some ⟨b, o, none⟩) m cap)).run P w = .ok (.string ⟨l.toArray⟩) w := by
  have h1 := (hT src si hs).1
  have h2 := (hT dst di hd).1
  have h3 := (hT e ei he).1
  rw [hsu] at h1; rw [hdu] at h2; rw [heu] at h3
  subst hl
  refine run_convert_bytes_back w src dst e ⟨b, o, none⟩ cap l h1 h3 h2 fun j hj => ?_
  rw [add_none, World.cell?_cells hh]
  have e1 : ((c.toList.drop o).take l.length)[j]? = (bv l)[j]? := by rw [hc]
  rw [List.getElem?_take_of_lt hj, List.getElem?_drop] at e1
  rw [← Array.getElem?_toList, e1]
  unfold bv
  rw [List.getElem?_map, List.getElem?_eq_getElem hj]; rfl
/-- The text of a slice of bytes. -/
theorem op_string (hT : TabOk P T) {src dst e : Nat} {x : Operand} {si di ei : TyI} (hs : T src = some si) (hsu : si.und = .slice e) (hd : T dst = some di) (hdu : di.und = .string) (he : T e = some ei) (heu : ei.und = .int .u8)
    {p : Option Addr} {m cap : Nat} {l : List UInt8} (hx : ev σ x = some (.slice p m cap)) (hA : At A (sl p m cap e 1 (bv l)) f) : OpQ P q n σ (.convert src dst x) A (.string ⟨l.toArray⟩) := fun a o hσ ho g w0 w hq s => by
  obtain ⟨dst', op, type, pos, after, guard⟩ := o
  obtain rfl : op = _ := ho
  rw [show execOp a.eval _ = (do pure (.value (← convert src dst (a.eval x)))) from rfl, hσ.ev hx]
  obtain ⟨L, eA, _⟩ := hA.out
  rcases (show St g w0 (sep (sl p m cap e 1 (bv l)) (star L)) w from eA ▸ s).sl_open with ⟨rfl, rfl, rfl, h0, _⟩ | ⟨b, spare, rfl, g1, g2, g3, s1⟩
  · have : l = [] := by unfold bv at h0; simpa using h0
    subst this
    have h1 := (hT src si hs).1
    have h2 := (hT dst di hd).1
    have h3 := (hT e ei he).1
    rw [hsu] at h1; rw [hdu] at h2; rw [heu] at h3
    rw [Sem.run_bind, run_convert_bytes_nil (P := P) w src e h1 h3 0 0 dst h2]; rfl
  · obtain ⟨fr, _, _, hh⟩ := s1.cells_open
    rw [bv_length] at g1
    rw [Sem.run_bind, bytes_run hT hs hsu hd hdu he heu hh (l := l) (by omega) (by
      rw [show m = (bv l).length from by rw [bv_length]; omega]; simp)]
    rfl
theorem op_string_cells (hT : TabOk P T) {src dst e : Nat} {x : Operand} {si di ei : TyI} (hs : T src = some si) (hsu : si.und = .slice e) (hd : T dst = some di) (hdu : di.und = .string) (he : T e = some ei) (heu : ei.und = .int .u8)
    {b o m cap : Nat} {c : Array Value} {tc : TypeId} {l : List UInt8} (hx : ev σ x = some (.slice (some ⟨b, o, none⟩) m cap)) (hA : At A (cells b tc c) f) (hl : l.length = m) (hc : (c.toList.drop o).take m = bv l) :
    OpQ P q n σ (.convert src dst x) A (.string ⟨l.toArray⟩) := fun a op hσ ho g w0 w hq s => by
  obtain ⟨dst', op, type, pos, after, guard⟩ := op
  obtain rfl : op = _ := ho
  rw [show execOp a.eval _ = (do pure (.value (← convert src dst (a.eval x)))) from rfl, hσ.ev hx]
  obtain ⟨L, eA, _⟩ := hA.out
  obtain ⟨fr, _, _, hh⟩ := (show St g w0 (sep (cells b tc c) (star L)) w from eA ▸ s).cells_open
  rw [Sem.run_bind, bytes_run hT hs hsu hd hdu he heu hh hl hc]; rfl
end
end Go.Proofs.Ytkmdajbhkfneaaa.VL
