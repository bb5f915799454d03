/- Slices that the text itself made: append, copy, make; bytes and texts. -/
import Derived.Test.YtaiocnpecaecdaaGreatDoorVLa
import Derived.Laws.IdiomStrings
import Derived.Laws.BytesString
import Derived.KernelRfl
set_option maxRecDepth 10000
set_option linter.unusedVariables false
set_option linter.unusedSimpArgs false
namespace Go.Proofs.YtaiocnpecaecdaaGreatDoor.VL
open Go.RowKit View
/-- A slice that owns its cells, and the spare ones behind them; or nil. -/
def sl (p : Option Addr) (n cap : Nat) (t : TypeId) (k : Nat) (xs : List Value) : HProp := fun h =>
  (p = none ∧ n = 0 ∧ cap = 0 ∧ xs = [] ∧ h = View.emp) ∨
  ∃ b spare, p = some ⟨b, 0, none⟩ ∧ n * k = xs.length ∧ cap * k = xs.length + spare.length ∧ n ≤ cap ∧ cells b t (xs ++ spare).toArray h
def bv (l : List UInt8) : List Value := l.map fun b => .int .u8 (b.toNat : Int)
theorem bv_length (l : List UInt8) : (bv l).length = l.length := List.length_map _
theorem St.sl_open {g : View} {w0 w : World} {p : Option Addr} {n cap : Nat} {t : TypeId} {k : Nat} {xs : List Value} {F : HProp} (s : St g w0 (sep (sl p n cap t k xs) F) w) :
    (p = none ∧ n = 0 ∧ cap = 0 ∧ xs = [] ∧ St g w0 F w) ∨
    ∃ b spare, p = some ⟨b, 0, none⟩ ∧ n * k = xs.length ∧ cap * k = xs.length + spare.length ∧ n ≤ cap ∧ St g w0 (sep (cells b t (xs ++ spare).toArray) F) w := by
  obtain ⟨h, ⟨h1, h2, d, e, hs, hf⟩, r⟩ := s
  rcases hs with ⟨a1, a2, a3, a4, rfl⟩ | ⟨b, spare, a1, a2, a3, a4, hc⟩
  · left
    refine ⟨a1, a2, a3, a4, h2, hf, ?_⟩
    rw [emp_add] at e; rw [← e]; exact r
  · right
    exact ⟨b, spare, a1, a2, a3, a4, h, ⟨h1, h2, d, e, hc, hf⟩, r⟩
theorem St.sl_nil {g : View} {w0 w : World} {F : HProp} (t : TypeId) (k : Nat) (s : St g w0 F w) : St g w0 (sep (sl none 0 0 t k []) F) w := by
  obtain ⟨h, hf, r⟩ := s
  exact ⟨h, ⟨View.emp, h, emp_disj h, (emp_add h).symm, .inl ⟨rfl, rfl, rfl, rfl, rfl⟩, hf⟩, r⟩
theorem St.sl_shut {g : View} {w0 w : World} {b n cap : Nat} {t : TypeId} {k : Nat} {xs spare : List Value} {F : HProp} (h1 : n * k = xs.length) (h2 : cap * k = xs.length + spare.length) (h3 : n ≤ cap)
    (s : St g w0 (sep (cells b t (xs ++ spare).toArray) F) w) : St g w0 (sep (sl (some ⟨b, 0, none⟩) n cap t k xs) F) w := by
  obtain ⟨h, ⟨x, y, d, e, hc, hf⟩, r⟩ := s
  exact ⟨h, ⟨x, y, d, e, .inr ⟨b, spare, rfl, h1, h2, h3, hc⟩, hf⟩, r⟩
/-- What append and copy read. -/
def Reads (P : Program) (size m : Nat) (x : Value) (news : List Value) (w : World) : Prop :=
  (∀ w', (Builtin.lenOf x).run P w' = .ok m w') ∧ ∀ m', m' ≤ m → ∀ d, (Builtin.firstCells size m' x).run P { w with drawn := d } = .ok (news.take (m' * size)).toArray { w with drawn := d }
section
variable {P : Program} {q : View} {T : Nat → Option TyI} {n : Nat} {σ : Facts} {A : List HProp} {f : HProp → List HProp}
theorem reads_cells {w : World} {b o m cap size : Nat} {c : Array Value} {tc : TypeId} {fr : Nat × Nat} (hh : w.heap[b]? = some (.cells c tc fr)) (hle : o + m * size ≤ c.size) :
    Reads P size m (.slice (some ⟨b, o, none⟩) m cap) (c.toList.drop o |>.take (m * size)) w := by
  refine ⟨fun w' => rfl, fun m' hm d => ?_⟩
  have hle' : m' * size ≤ m * size := Nat.mul_le_mul_right _ hm
  unfold Builtin.firstCells
  rw [run_loadCells_cells (w := { w with drawn := d }) (fr := fr) (t := tc) (c := c) hh o (m' * size) (by omega)]
  congr 1
  apply Array.ext'
  rw [List.take_take, Nat.min_eq_left hle', Array.toList_extract, List.extract_eq_take_drop]
  congr 1
  omega
theorem reads_nil {w : World} {size cap : Nat} : Reads P size 0 (.slice none 0 cap) [] w := by
  refine ⟨fun w' => rfl, fun m' hm d => ?_⟩
  obtain rfl : m' = 0 := by omega
  rw [Nat.zero_mul]; rfl
theorem reads_string {w : World} (s : ByteArray) : Reads P 1 s.size (.string s) (bv s.data.toList) w := by
  refine ⟨fun w' => rfl, fun m' hm d => ?_⟩
  unfold Builtin.firstCells
  show Result.ok ((s.extract 0 m').data.map _) _ = _
  congr 1
  apply Array.ext'
  unfold bv
  rw [Array.toList_map, ByteArray.data_extract, Array.toList_extract, List.extract_eq_take_drop, Nat.mul_one, List.drop_zero, Nat.sub_zero, List.map_take]
theorem reads_sl {g : View} {w0 w : World} {p : Option Addr} {m cap : Nat} {t : TypeId} {k : Nat} {xs : List Value} {F : HProp} (s : St g w0 (sep (sl p m cap t k xs) F) w) : Reads P k m (.slice p m cap) xs w := by
  rcases s.sl_open with ⟨rfl, rfl, rfl, rfl, _⟩ | ⟨b, spare, rfl, h1, h2, h3, s1⟩
  · exact reads_nil
  · obtain ⟨fr, _, _, hh⟩ := s1.cells_open
    have := reads_cells (P := P) (o := 0) (m := m) (cap := cap) (size := k) hh (by simp; omega)
    rw [show (((xs ++ spare).toArray.toList.drop 0).take (m * k)) = xs from by rw [h1]; simp] at this
    exact this
def rowD (d : TypeDesc) : Prop := (∃ e, d = .slice e) ∨ d = .string
theorem zeroCells_length (z : Array Value) (m : Nat) : (Builtin.zeroCells z m).toList.length = m * z.size := by simp [Builtin.zeroCells]
/-- append, in whatever world: in place, or a new block. -/
theorem append_run (hT : TabOk P T) {t e ty : Nat} {ti ei tyi : TyI} {z : Value} (ht : T t = some ti) (hu : ti.und = .slice e) (he : T e = some ei) (hty : T ty = some tyi) (hni : rowD tyi.und) (hz : ei.zero = some z)
    {w : World} {p : Option Addr} {len cap m : Nat} {x : Value} {olds news : List Value} (hx : Reads P ei.size m x news w) (hnl : news.length = m * ei.size)
    (hold : ∀ d, (Builtin.firstCells ei.size len (.slice p len cap)).run P { w with drawn := d } = .ok olds.toArray { w with drawn := d }) (hlc : len ≤ cap) (hb : (len + m) * ei.bytes ≤ 140737488355328) (h63 : len + m ≤ 9223372036854775807) (ret : TypeId) :
    (len + m ≤ cap → ∀ a w', p = some a → (storeCells (a.add (len * ei.size)) news).run P w = .ok () w' → (Builtin.append_ #[t, ty] ret #[.slice p len cap, x]).run P w = .ok (.slice p (len + m) cap) w') ∧
    (len + m ≤ cap → p = none → (Builtin.append_ #[t, ty] ret #[.slice p len cap, x]).run P w = .ok (.slice p (len + m) cap) w) ∧
    (cap < len + m → ∃ c', len + m ≤ c' ∧ (Builtin.append_ #[t, ty] ret #[.slice p len cap, x]).run P w = .ok (.slice (some ⟨w.heap.size, 0, none⟩) (len + m) c') (w.drew.alloc (.cells (olds.toArray ++ news.toArray ++ Builtin.zeroCells z.cells (c' - (len + m))) e))) := by
  obtain ⟨j, hj, hjs, hjb, hjz⟩ := (hT e ei he).2
  have hul := (hT t ti ht).1
  rw [hu] at hul
  have hut := (hT ty tyi hty).1
  have hfull : ∀ d, (Builtin.firstCells ei.size m x).run P { w with drawn := d } = .ok news.toArray { w with drawn := d } := fun d => by
    rw [hx.2 m (Nat.le_refl _) d, List.take_of_length_le (by omega)]
  have hf0 : (Builtin.firstCells ei.size m x).run P w = .ok news.toArray w := hfull w.drawn
  generalize tyi.und = d at hni hut
  refine ⟨fun hroom a w' hp hst => ?_, fun hroom hp => ?_, fun hgrow => ?_⟩
  · subst hp
    rcases hni with ⟨e', rfl⟩ | rfl <;> simp [Builtin.append_, run_underlying hul, run_underlying hut, sizeOf, typeInfo, hj, hjs, hx.1, hroom, hf0, hst]
  · subst hp
    rcases hni with ⟨e', rfl⟩ | rfl <;> simp [Builtin.append_, run_underlying hul, run_underlying hut, sizeOf, typeInfo, hj, hjs, hx.1, hroom, hf0]
  · have hn : ¬ (len + m ≤ cap) := by omega
    have h63' : ¬ (9223372036854775807 < ((len : Int) + (m : Int))) := by omega
    have h48 := growslice_fits (bytes := ei.bytes) (show cap < len + m from hgrow) hb
    have h48' : ¬ (281474976710656 < Builtin.nextslicecap (len + m) cap * j.bytes) := by rw [hjb]; omega
    have hf1 : (Builtin.firstCells ei.size m x).run P w.drew = .ok news.toArray w.drew := hfull _
    have ho1 : (Builtin.firstCells ei.size len (.slice p len cap)).run P w.drew = .ok olds.toArray w.drew := hold _
    refine ⟨grownCap w (len + m) cap e, grownCap_ge _ _ _ _, ?_⟩
    rcases hni with ⟨e', rfl⟩ | rfl <;> simp [Builtin.append_, run_underlying hul, run_underlying hut, sizeOf, typeInfo, zeroValue, hj, hjs, hjz, hz, hx.1, hn, h63', h48', Question.forced, hf1, ho1, newRow, grownCap] <;> (congr 2; apply Array.ext'; simp [List.append_assoc])
theorem sl_first {g : View} {w0 w : World} {p : Option Addr} {len cap : Nat} {t : TypeId} {k : Nat} {xs : List Value} {F : HProp} (s : St g w0 (sep (sl p len cap t k xs) F) w) (d : Nat) :
    (Builtin.firstCells k len (.slice p len cap)).run P { w with drawn := d } = .ok xs.toArray { w with drawn := d } := by
  have h := (reads_sl (P := P) s).2 len (Nat.le_refl _) d
  rcases s.sl_open with ⟨rfl, rfl, rfl, rfl, _⟩ | ⟨b, spare, rfl, h1, _⟩
  · rw [h, Nat.zero_mul]; rfl
  · rw [h, h1, List.take_length]
theorem writes_append (xs news spare : List Value) (h : news.length ≤ spare.length) : writes (xs ++ spare).toArray xs.length news = (xs ++ news ++ spare.drop news.length).toArray := by
  induction news generalizing xs spare with
  | nil => simp [writes]
  | cons v vs ih =>
    cases spare with
    | nil => simp at h
    | cons u us =>
      have e : (xs ++ u :: us).toArray.setIfInBounds xs.length v = ((xs ++ [v]) ++ us).toArray := by
        apply Array.ext'
        simp
      rw [writes, e, show xs.length + 1 = (xs ++ [v]).length from by simp, ih (xs ++ [v]) us (by simpa using h)]
      simp
/-- append to a slice that owns its cells. -/
theorem op_append [DS] (hT : TabOk P T) {c : Call} {x y : Operand} {t e ty : Nat} {ti ei tyi : TyI} {z v : Value} {p : Option Addr} {len cap m : Nat} {xs news : List Value}
    (hc : c = { callee := .builtin .append, args := ⟨[x, y]⟩, argTypes := ⟨[t, ty]⟩ }) (hx : ev σ x = some (.slice p len cap)) (hy : ev σ y = some v) (ht : T t = some ti) (hu : ti.und = .slice e) (he : T e = some ei) (hty : T ty = some tyi) (hni : rowD tyi.und)
    (hz : ei.zero = some z) (hzs : z.cells.size = ei.size) (hA : At A (sl p len cap e ei.size xs) f) (hr : ∀ g w0 w, Sub q g → St g w0 (star A) w → Reads P ei.size m v news w) (hnl : news.length = m * ei.size) (h1 : news.all one1 = true)
    (hxl : xs.length = len * ei.size) (hb : (len + m) * ei.bytes ≤ 140737488355328) (h63 : len + m ≤ 9223372036854775807) :
    OpX P q n σ (.call c) (star A) (fun r : Option Addr × Nat => .slice r.1 (len + m) r.2) fun r => f (sl r.1 (len + m) r.2 e ei.size (xs ++ news)) := fun a o hσ ho g w0 w hq s => by
  obtain ⟨L, eA, eA'⟩ := hA.out
  have s0 : St g w0 (sep (sl p len cap e ei.size xs) (star L)) w := eA ▸ s
  have hlc : len ≤ cap := by
    rcases s0.sl_open with ⟨_, a2, _⟩ | ⟨_, _, _, _, _, h, _⟩ <;> omega
  obtain ⟨r1, r2, r3⟩ := append_run hT ht hu he hty hni hz (hr g w0 w hq s) hnl (fun d => sl_first s0 d) hlc hb h63 o.type
  have ex : ∀ r w', (Builtin.append_ #[t, ty] o.type #[.slice p len cap, v]).run P w = .ok r w' → (execOp a.eval o).run P w = .ok (.value r) w' := fun r w' h => by
    obtain ⟨dst, op, type, pos, after, guard⟩ := o
    obtain rfl : op = _ := ho
    subst hc
    simp only [execOp, resolve, invoke, builtin]
    rw [Sem.run_bind]
    simp only [Sem.run_pure, Result.andThen, List.map_toArray, List.map_cons, List.map_nil, hσ.ev hx, hσ.ev hy]
    rw [Sem.run_bind, h]; rfl
  by_cases hroom : len + m ≤ cap
  · rcases s0.sl_open with ⟨rfl, rfl, rfl, rfl, s1⟩ | ⟨b, spare, rfl, g1, g2, g3, s1⟩
    · obtain rfl : m = 0 := by omega
      have hn0 : news = [] := List.eq_nil_of_length_eq_zero (by simpa using hnl)
      subst hn0
      refine ⟨w, (none, 0), .inl (ex _ _ (r2 hroom rfl)), ?_⟩
      rw [eA' _]
      exact s0
    · obtain ⟨fr, hfr, s2, hh⟩ := s1.cells_open
      have hle : news.length ≤ spare.length := by
        have : (len + m) * ei.size ≤ cap * ei.size := Nat.mul_le_mul_right _ hroom
        rw [Nat.add_mul] at this
        omega
      obtain ⟨w', hr', s3⟩ := run_storeCells_view (P := P) b (len * ei.size) e fr news 0 (xs ++ spare).toArray w hfr s2 (by simp; omega) (fun u hu => List.all_eq_true.1 h1 u hu)
      refine ⟨w', (some ⟨b, 0, none⟩, cap), .inl (ex _ _ (r1 hroom _ w' rfl (by rw [add_none, Nat.zero_add]; exact hr'))), ?_⟩
      rw [eA' _]
      have s4 := s3.cells_shut (by rw [writes_size]; exact hfr)
      rw [Nat.add_zero, g1, writes_append _ _ _ hle] at s4
      refine s4.sl_shut ?_ ?_ hroom
      · rw [Nat.add_mul, List.length_append, ← hxl, ← hnl]
      · show cap * ei.size = _
        rw [List.length_append, List.length_drop]; omega
  · obtain ⟨c', hc', hr'⟩ := r3 (by omega)
    refine ⟨_, (some ⟨w.heap.size, 0, none⟩, c'), .inl (ex _ _ hr'), ?_⟩
    rw [eA' _]
    have s1 : St g w0 (star L) w := by
      rw [sep_comm] at s0; exact s0.drop
    obtain ⟨_, s2⟩ := newRow_st (P := P) s1.drew e (xs.toArray ++ news.toArray ++ Builtin.zeroCells z.cells (c' - (len + m)))
    have ee : xs.toArray ++ news.toArray ++ Builtin.zeroCells z.cells (c' - (len + m)) = (xs ++ news ++ (Builtin.zeroCells z.cells (c' - (len + m))).toList).toArray := by
      apply Array.ext'; simp
    rw [ee] at s2 ⊢
    refine St.sl_shut ?_ ?_ hc' s2
    · rw [Nat.add_mul, List.length_append, hxl, hnl]
    · rw [List.length_append, zeroCells_length, hzs, hxl, hnl, ← Nat.add_mul, ← Nat.add_mul]
      congr 1; omega
end
end Go.Proofs.YtaiocnpecaecdaaGreatDoor.VL
namespace Go.Proofs.YtaiocnpecaecdaaGreatDoor.VL
open Go.RowKit View
section
variable {P : Program} {q : View} {T : Nat → Option TyI} {n : Nat} {σ : Facts} {A : List HProp} {f : HProp → List HProp}
theorem fold_writes (v : List Value) (off : Nat) : ∀ (j : Nat) (c : Array Value), (v.zipIdx j).foldl (fun cs (p : Value × Nat) => cs.setIfInBounds (off + p.2) p.1) c = writes c (off + j) v := by
  induction v with
  | nil => intro j c; rfl
  | cons x v ih =>
    intro j c
    rw [List.zipIdx_cons, List.foldl_cons, ih]
    rfl
theorem writes_app (c : Array Value) (o : Nat) (u v : List Value) : writes c o (u ++ v) = writes (writes c o u) (o + u.length) v := by
  induction u generalizing c o with
  | nil => rfl
  | cons x u ih =>
    rw [List.cons_append, writes, ih, writes]
    congr 1
    simp; omega
def enumI (i : Nat) : List Value → List (Nat × Value)
  | [] => []
  | v :: vs => (i, v) :: enumI (i + 1) vs
def flat (vs : List Value) : List Value := vs.flatMap fun v => v.cells.toList
theorem flat_length {k : Nat} {vs : List Value} (h : ∀ v ∈ vs, v.cells.size = k) : (flat vs).length = vs.length * k := by
  induction vs with
  | nil => simp [flat]
  | cons v vs ih =>
    have h1 := h v (by simp)
    have h2 := ih (fun u hu => h u (by simp [hu]))
    unfold flat at *
    rw [List.flatMap_cons, List.length_append, h2, Array.length_toList, h1, List.length_cons, Nat.add_mul]
    omega
theorem fill_enum (k : Nat) : ∀ (vs : List Value) (i : Nat) (c : Array Value), (∀ v ∈ vs, v.cells.size = k) → (i + vs.length) * k ≤ c.size →
    Instr.fill (fun i => some (i * k, k)) c (enumI i vs) = some (writes c (i * k) (flat vs)) := by
  intro vs
  induction vs with
  | nil => intro i c _ _; rfl
  | cons v vs ih =>
    intro i c h hle
    have hv := h v (by simp)
    have hle2 : i * k + k ≤ c.size := by
      have e : (i + (v :: vs).length) * k = i * k + k + vs.length * k := by rw [List.length_cons]; simp [Nat.add_mul]; omega
      omega
    unfold enumI Instr.fill
    simp only [hv]
    have hcond : (decide (k ≠ k) || decide (i * k + k > c.size)) = false := by simp; omega
    rw [hcond]
    simp only [Bool.false_eq_true, if_false]
    have e1 : (v.cells.zipIdx.foldl (fun cs (x : Value × Nat) => cs.setIfInBounds (i * k + x.2) x.1) c) = writes c (i * k) v.cells.toList := by
      rw [← Array.foldl_toList, Array.toList_zipIdx, fold_writes]; rfl
    have e2 : (v.cells.zipIdx.foldl (fun cs (x : Value × Nat) => match x with | (c, j) => cs.setIfInBounds (i * k + j) c) c) = writes c (i * k) v.cells.toList := e1
    rw [e2, ih (i + 1) _ (fun u hu => h u (by simp [hu])) (by rw [writes_size]; have e : (i + 1 + vs.length) = (i + (v :: vs).length) := by simp; omega
                                                              rw [e]; exact hle)]
    congr 1
    show _ = writes c (i * k) (v.cells.toList ++ flat vs)
    rw [writes_app]
    congr 1
    rw [Array.length_toList, hv, Nat.add_mul]; omega
/-- The parts of a literal, one for each place. -/
def partsV (σ : Facts) : Nat → List (Nat × Operand) → List Value → Option (List Value)
  | _, [], acc => some acc.reverse
  | i, (j, x) :: ps, acc => bif Nat.beq i j then (match ev σ x with | some v => partsV σ (i + 1) ps (v :: acc) | none => none) else none
theorem partsV_acc {_ : DS} {a : Act} (hσ : Holds n σ a) : ∀ (ps : List (Nat × Operand)) (i : Nat) (acc r : List Value), partsV σ i ps acc = some r → ∃ l, r = acc.reverse ++ l ∧ ps.map (fun (p : Nat × Operand) => (p.1, a.eval p.2)) = enumI i l := by
  intro ps
  induction ps with
  | nil => intro i acc r h; obtain rfl := Option.some.inj h; exact ⟨[], by simp, rfl⟩
  | cons p ps ih =>
    intro i acc r h
    obtain ⟨j, x⟩ := p
    unfold partsV at h
    cases hb : Nat.beq i j with
    | false => rw [hb] at h; cases h
    | true =>
      rw [hb] at h
      simp only [cond_true] at h
      cases hx : ev σ x with
      | none => rw [hx] at h; cases h
      | some v =>
        rw [hx] at h
        obtain ⟨l, e1, e2⟩ := ih _ _ _ h
        refine ⟨v :: l, by rw [e1]; simp, ?_⟩
        rw [List.map_cons, e2, hσ.ev hx]
        show (j, v) :: enumI (i + 1) l = (i, v) :: enumI (i + 1) l
        rw [Nat.eq_of_beq_eq_true hb]
theorem partsV_eq {_ : DS} {a : Act} (hσ : Holds n σ a) {ps : List (Nat × Operand)} {vs : List Value} (h : partsV σ 0 ps [] = some vs) : ps.map (fun (p : Nat × Operand) => (p.1, a.eval p.2)) = enumI 0 vs := by
  obtain ⟨l, e1, e2⟩ := partsV_acc hσ ps 0 [] vs h
  rw [e2, e1]; rfl
/-- A slice of listed values. -/
theorem op_buildSlice [DS] (hT : TabOk P T) {t e len : Nat} {ps : List (Nat × Operand)} {ti ei : TyI} {z : Value} {vs : List Value} (ht : T t = some ti) (hu : ti.und = .slice e) (he : T e = some ei) (hz : ei.zero = some z) (hzs : z.cells.size = ei.size)
    (hps : partsV σ 0 ps [] = some vs) (hl : vs.length = len) (hk : ∀ v ∈ vs, v.cells.size = ei.size) (hs : len * ei.size ≤ 16777216) :
    OpX P q n σ (.buildSlice t len ⟨ps⟩) (star A) (fun r : Nat => .slice (some ⟨r, 0, none⟩) len len) fun r => cells r e (flat vs).toArray :: A := fun a o hσ ho g w0 w hq s => by
  obtain ⟨hr, s'⟩ := newRow_st (P := P) s e (flat vs).toArray
  refine ⟨_, w.heap.size, .inl ?_, s'⟩
  obtain ⟨dst, op, type, pos, after, guard⟩ := o
  obtain rfl : op = _ := ho
  rw [show execOp a.eval _ = (do pure (.value (← Instr.buildSlice t len ((⟨ps⟩ : Array (Nat × Operand)).map fun (i, x) => (i, a.eval x))))) from rfl]
  have eps : ((⟨ps⟩ : Array (Nat × Operand)).map fun (i, x) => (i, a.eval x)) = ⟨enumI 0 vs⟩ := by
    rw [← partsV_eq hσ hps]; simp
  rw [eps]
  unfold Instr.buildSlice
  simp only [Sem.run_bind, und_run hT ht, hu, Result.andThen, size_run hT he]
  rw [if_neg (by omega)]
  have fl := flat_length hk
  have fin : ∀ (zz : Array Value), Instr.fill (fun i => some (i * ei.size, ei.size)) ((Array.range (len * ei.size)).map fun x => zz[x % zz.size]!) (enumI 0 vs) = some (flat vs).toArray := fun zz => by
    rw [fill_enum ei.size vs 0 _ hk (by simp [hl])]
    congr 1
    have e : ∀ c : Array Value, c.size = (flat vs).length → writes c (0 * ei.size) (flat vs) = (flat vs).toArray := fun c hc => by
      have := writes_append [] (flat vs) c.toList (by simp [hc])
      rw [Nat.zero_mul]
      simp only [List.nil_append, List.length_nil] at this
      rw [show c = c.toList.toArray from rfl, this, List.drop_of_length_le (by simp [hc]), List.append_nil]
    exact e _ (by simp [fl, hl])
  by_cases h0 : len * ei.size = 0
  · rw [if_pos h0]
    simp only [Sem.run_pure, fin, Sem.run_bind, hr, Result.andThen]
  · rw [if_neg h0]
    simp only [Sem.run_bind, zero_run hT he hz, Sem.run_pure, Result.andThen, fin, hr]
/-- A new slice of zeros. -/
theorem op_makeSlice [DS] (hT : TabOk P T) {t e : Nat} {x y : Operand} {ti ei : TyI} {z : Value} {j k : IntKind} {m c : Int} (hx : ev σ x = some (.int j m)) (hy : ev σ y = some (.int k c)) (ht : T t = some ti) (hu : ti.und = .slice e) (he : T e = some ei) (hz : ei.zero = some z) (hzs : z.cells.size = ei.size)
    (h0 : 0 ≤ m) (h1 : m ≤ c) (h2 : ei.bytes * c ≤ 281474976710656) (h3 : c ≤ 9223372036854775807) :
    OpX P q n σ (.makeSlice t x y) (star A) (fun r : Nat => .slice (some ⟨r, 0, none⟩) m.toNat c.toNat) fun r => cells r e (Builtin.zeroCells z.cells c.toNat) :: A := fun a o hσ ho g w0 w hq s => by
  obtain ⟨hr, s'⟩ := newRow_st (P := P) s e (Builtin.zeroCells z.cells c.toNat)
  refine ⟨_, w.heap.size, .inl ?_, s'⟩
  obtain ⟨dst, op, type, pos, after, guard⟩ := o
  obtain rfl : op = _ := ho
  obtain ⟨jj, hj, hjs, hjb, hjz⟩ := info_run hT he w
  rw [show execOp a.eval _ = (do pure (.value (← Instr.makeSlice t (a.eval x) (a.eval y)))) from rfl, hσ.ev hx, hσ.ev hy]
  have w1 : IntKind.i64.wrap m = m := wrap64_id (by omega) (by omega)
  have w2 : IntKind.i64.wrap c = c := wrap64_id (by omega) (by omega)
  have hc2 : ((jj.bytes : Int) * c > 281474976710656) = False := eq_false (by rw [hjb]; omega)
  have hm2 : ((jj.bytes : Int) * m > 281474976710656) = False := eq_false (by
    rw [hjb]
    have : (ei.bytes : Int) * m ≤ ei.bytes * c := Int.mul_le_mul_of_nonneg_left h1 (by omega)
    omega)
  unfold Instr.makeSlice
  simp only [Sem.run_bind, und_run hT ht, hu, Result.andThen, asInt, asIntOf, Sem.run_pure, hj, w1, w2]
  have t1 : (decide (c < 0) || decide ((jj.bytes : Int) * c > 2 ^ 48) || decide (m < 0) || decide (m > c)) = false := by
    rw [decide_eq_false (show ¬ c < 0 by omega), decide_eq_false (show ¬ m < 0 by omega), decide_eq_false (show ¬ m > c by omega), decide_eq_false (by
      show ¬ ((jj.bytes : Int) * c > 281474976710656)
      rw [hjb]; omega)]
    rfl
  rw [t1]
  simp only [Bool.false_eq_true, if_false]
  have room : ∀ b, (askRoom b).run P w = .ok () w := fun b => by unfold askRoom; split <;> rfl
  simp only [Sem.run_bind, Sem.run_pure, Result.andThen, room, size_run hT he]
  by_cases hn : c.toNat * ei.size = 0
  · rw [if_pos hn]
    have e0 : (Builtin.zeroCells z.cells c.toNat) = ((Array.range (c.toNat * ei.size)).map fun x => (#[] : Array Value)[x % (#[] : Array Value).size]!) := by
      unfold Builtin.zeroCells; rw [hzs, hn]; simp
    simp only [Sem.run_pure, Sem.run_bind, Result.andThen]
    rw [hn] at e0 ⊢
    rw [← e0, hr]
  · rw [if_neg hn]
    have e0 : (Builtin.zeroCells z.cells c.toNat) = ((Array.range (c.toNat * ei.size)).map fun x => z.cells[x % z.cells.size]!) := by
      unfold Builtin.zeroCells; rw [hzs]
    simp only [Sem.run_bind, zero_run hT he hz, Sem.run_pure, Result.andThen, ← e0, hr]
theorem zeroCells_one (z : Value) (hz : z.cells = #[z]) (m : Nat) : Builtin.zeroCells z.cells m = (List.replicate m z).toArray := by
  rw [hz]
  unfold Builtin.zeroCells
  apply Array.ext
  · simp
  · intro i h1 h2
    simp [Nat.mod_one]
/-- The bytes of a text as a slice. -/
theorem op_bytes [DS] (hT : TabOk P T) {src dst e : Nat} {x : Operand} {si di ei : TyI} {s : ByteArray} (hs : T src = some si) (hsu : si.und = .string) (hd : T dst = some di) (hdu : di.und = .slice e) (he : T e = some ei) (heu : ei.und = .int .u8) (hx : ev σ x = some (.string s)) :
    OpX P q n σ (.convert src dst x) (star A) (fun r : Option Addr × Nat => .slice r.1 s.size r.2) fun r => sl r.1 s.size r.2 e 1 (bv s.data.toList) :: A := fun a o hσ ho g w0 w hq st => by
  have h1 := (hT src si hs).1
  have h2 := (hT dst di hd).1
  have h3 := (hT e ei he).1
  rw [hsu] at h1; rw [hdu] at h2; rw [heu] at h3
  have hr := run_bytes_of_string (P := P) w src dst e s h1 h2 h3
  refine ⟨w.drew.alloc (.cells (bytesRow s (grownCap w s.size 0 e)) e ((bytesRow s (grownCap w s.size 0 e)).size, (bytesRow s (grownCap w s.size 0 e)).size + 1)), (some ⟨w.heap.size, 0, none⟩, grownCap w s.size 0 e), .inl ?_, ?_⟩
  · obtain ⟨dst', op, type, pos, after, guard⟩ := o
    obtain rfl : op = _ := ho
    rw [show execOp a.eval _ = (do pure (.value (← convert src dst (a.eval x)))) from rfl, hσ.ev hx, Sem.run_bind, hr]; rfl
  · have hge := grownCap_ge w s.size 0 e
    have s1 := (st.drew.new (.cells (bytesRow s (grownCap w s.size 0 e)) e ((bytesRow s (grownCap w s.size 0 e)).size, (bytesRow s (grownCap w s.size 0 e)).size + 1))).cells_shut (.inr (Nat.le_refl _))
    have er : bytesRow s (grownCap w s.size 0 e) = (bv s.data.toList ++ List.replicate (grownCap w s.size 0 e - s.size) (Value.int .u8 0)).toArray := by
      apply Array.ext'
      unfold bytesRow bv
      simp
    rw [er] at s1 ⊢
    have hz : s.data.toList.length = s.size := Array.length_toList
    refine St.sl_shut ?_ ?_ hge s1
    · rw [bv_length, hz, Nat.mul_one]
    · rw [bv_length, hz, List.length_replicate]; omega
theorem bytes_run (hT : TabOk P T) {src dst e : Nat} {si di ei : TyI} (hs : T src = some si) (hsu : si.und = .slice e) (hd : T dst = some di) (hdu : di.und = .string) (he : T e = some ei) (heu : ei.und = .int .u8)
    {w : World} {b o m cap : Nat} {c : Array Value} {tc : TypeId} {fr : Nat × Nat} (hh : w.heap[b]? = some (.cells c tc fr)) {l : List UInt8} (hl : l.length = m) (hc : (c.toList.drop o).take m = bv l) :
    (convert src dst (.slice (some ⟨b, o, none⟩) m cap)).run P w = .ok (.string ⟨l.toArray⟩) w := by
  have h1 := (hT src si hs).1
  have h2 := (hT dst di hd).1
  have h3 := (hT e ei he).1
  rw [hsu] at h1; rw [hdu] at h2; rw [heu] at h3
  subst hl
  refine run_convert_bytes_back w src dst e ⟨b, o, none⟩ cap l h1 h3 h2 fun j hj => ?_
  rw [add_none, World.cell?_cells hh]
  have e1 : ((c.toList.drop o).take l.length)[j]? = (bv l)[j]? := by rw [hc]
  rw [List.getElem?_take_of_lt hj, List.getElem?_drop] at e1
  rw [← Array.getElem?_toList, e1]
  unfold bv
  rw [List.getElem?_map, List.getElem?_eq_getElem hj]; rfl
/-- The text of a slice of bytes. -/
theorem op_string [DS] (hT : TabOk P T) {src dst e : Nat} {x : Operand} {si di ei : TyI} (hs : T src = some si) (hsu : si.und = .slice e) (hd : T dst = some di) (hdu : di.und = .string) (he : T e = some ei) (heu : ei.und = .int .u8)
    {p : Option Addr} {m cap : Nat} {l : List UInt8} (hx : ev σ x = some (.slice p m cap)) (hA : At A (sl p m cap e 1 (bv l)) f) : OpQ P q n σ (.convert src dst x) A (.string ⟨l.toArray⟩) := fun a o hσ ho g w0 w hq s => by
  obtain ⟨dst', op, type, pos, after, guard⟩ := o
  obtain rfl : op = _ := ho
  rw [show execOp a.eval _ = (do pure (.value (← convert src dst (a.eval x)))) from rfl, hσ.ev hx]
  obtain ⟨L, eA, _⟩ := hA.out
  rcases (show St g w0 (sep (sl p m cap e 1 (bv l)) (star L)) w from eA ▸ s).sl_open with ⟨rfl, rfl, rfl, h0, _⟩ | ⟨b, spare, rfl, g1, g2, g3, s1⟩
  · have : l = [] := by unfold bv at h0; simpa using h0
    subst this
    have h1 := (hT src si hs).1
    have h2 := (hT dst di hd).1
    have h3 := (hT e ei he).1
    rw [hsu] at h1; rw [hdu] at h2; rw [heu] at h3
    rw [Sem.run_bind, run_convert_bytes_nil (P := P) w src e h1 h3 0 0 dst h2]; rfl
  · obtain ⟨fr, _, _, hh⟩ := s1.cells_open
    rw [bv_length] at g1
    rw [Sem.run_bind, bytes_run hT hs hsu hd hdu he heu hh (l := l) (by omega) (by
      rw [show m = (bv l).length from by rw [bv_length]; omega]; simp)]
    rfl
theorem op_string_cells [DS] (hT : TabOk P T) {src dst e : Nat} {x : Operand} {si di ei : TyI} (hs : T src = some si) (hsu : si.und = .slice e) (hd : T dst = some di) (hdu : di.und = .string) (he : T e = some ei) (heu : ei.und = .int .u8)
    {b o m cap : Nat} {c : Array Value} {tc : TypeId} {l : List UInt8} (hx : ev σ x = some (.slice (some ⟨b, o, none⟩) m cap)) (hA : At A (cells b tc c) f) (hl : l.length = m) (hc : (c.toList.drop o).take m = bv l) :
    OpQ P q n σ (.convert src dst x) A (.string ⟨l.toArray⟩) := fun a op hσ ho g w0 w hq s => by
  obtain ⟨dst', op, type, pos, after, guard⟩ := op
  obtain rfl : op = _ := ho
  rw [show execOp a.eval _ = (do pure (.value (← convert src dst (a.eval x)))) from rfl, hσ.ev hx]
  obtain ⟨L, eA, _⟩ := hA.out
  obtain ⟨fr, _, _, hh⟩ := (show St g w0 (sep (cells b tc c) (star L)) w from eA ▸ s).cells_open
  rw [Sem.run_bind, bytes_run hT hs hsu hd hdu he heu hh hl hc]; rfl
end
end Go.Proofs.YtaiocnpecaecdaaGreatDoor.VL
namespace Go.Proofs.YtaiocnpecaecdaaGreatDoor.VL
open Go.RowKit View
def nthG (l : List Oper) (i : Nat) : Option Oper :=
  match l, i with
  | v :: _, 0 => some v
  | _ :: l, i + 1 => nthG l i
  | [], _ => none
theorem nthG_eq (l : List Oper) (i : Nat) : nthG l i = l[i]? := by
  induction l generalizing i with
  | nil => cases i <;> rfl
  | cons v l ih => cases i with
    | zero => rfl
    | succ i => simpa [nthG] using ih i
theorem nthG_arr {ops : Array Oper} {i : Nat} {o : Oper} (h : nthG ops.toList i = some o) : ops[i]? = some o := by rw [nthG_eq] at h; simpa using h
def SW (g hS : View) (w : World) : Prop := Fits (hS.add g) w
/-- Whatever order is drawn from here on. -/
def RunA [DS] (P : Program) (q : View) (fn : Func) (R : Value → HProp) (k : List It) (ops : Array Oper) (m : Nat) (listed : Array Bool) (S : List HProp) (σ : Facts) (A : List HProp) : Prop :=
  ∀ hS g w0 a w, star S hS → Disj hS g → Sub q g → Holds fn.ntmps σ a → St g w0 (sep (eqv hS) (star A)) w → wpAnyH P .any ops (Post P fn R g w0 k) (SW g hS) m listed a w
section
variable {P : Program} {q : View} {T : Nat → Option TyI} {fn : Func} {R : Value → HProp} {k : List It} {σ σ' : Facts} {A A' S : List HProp} {ops : Array Oper} {m i : Nat} {listed : Array Bool} {o : Oper}
theorem St.sw {g : View} {w0 w : World} {hS : View} {F : HProp} (s : St g w0 (sep (eqv hS) F) w) : SW g hS w := by
  have s1 := s.drop
  obtain ⟨h, e, d, fit, _⟩ := s1
  have e : h = hS := e
  subst e; exact fit
theorem run_draw {_ : DS} {id : Nat} (hM : P.follows .mixedOrders = true) (hA : Imp (star A) (sep (star S) (star A'))) (h : RunA P q fn R k ops ops.size (Array.replicate ops.size false) S σ A') :
    Run P q fn R (.code (.region id ops true) :: k) σ A := fun g w0 a w hq hσ s => by
  obtain ⟨hh, ⟨x, y, d, e, hs, ha⟩, dg, fit, evo⟩ := hA _ _ _ s
  refine wp_region_held (S := SW g x) hM ?_
  subst e
  exact h x g w0 a _ hs (disj_add.1 dg).1 hq hσ (St.drawn ⟨_, ⟨x, y, d, rfl, rfl, ha⟩, dg, fit, evo⟩ _)
theorem any_done {_ : DS} (hr : Region.ready .any ops listed = []) (h : Run P q fn R k σ (S ++ A)) : RunA P q fn R k ops m listed S σ A := fun hS g w0 a w hs d hq hσ s => by
  refine wpAnyH_done hr (h g w0 a w hq hσ ?_) m
  rw [star_append]
  obtain ⟨hh, ⟨x, y, d1, e, (e2 : x = hS), ha⟩, dg, fit, evo⟩ := s
  subst e2
  exact ⟨hh, ⟨x, y, d1, e, hs, ha⟩, dg, fit, evo⟩
theorem any_take {_ : DS} {v : Value} (hi : ops[i]? = some o) (hn : Region.noSelect ops = true) (hf : Region.free .any ops listed i = true) (hr : (Region.ready .any ops listed).contains i = true)
    (hy : ∀ hS g a, star S hS → Disj hS g → Sub q g → Holds fn.ntmps σ a → YieldsIf P ops (SW g hS) o v a) (hp : putF fn.ntmps o.dst v σ = some σ')
    (h : RunA P q fn R k ops m (listed.setIfInBounds i true) S σ' A) : RunA P q fn R k ops (m + 1) listed S σ A := fun hS g w0 a w hs d hq hσ s =>
  wpAnyH_take hi hn hf hr (fun c a w hc => absurd hc (Post_panic _ _ _ _)) (hy hS g a hs d hq hσ) s.sw (h hS g w0 _ w hs d hq (hσ.put hp) s)
theorem guardOf_region {_ : DS} {n : Nat} {a : Act} (h : Holds n σ a) {b : Bool} (e : guardOf σ (ops.toList.map (·.dst)) o.guard = some b) : Region.wanted o (yielded ops a.tmps) = b := by
  rw [← wantedL_eq]; exact guardOf_eq h e
theorem any_pure {_ : DS} (i : Nat) (hT : TabOk P T) (hi : ops[i]? = some o) (hn : Region.noSelect ops = true) (hf : Region.free .any ops listed i = true) (hr : (Region.ready .any ops listed).contains i = true)
    (h1 : pure1 T fn.ntmps (ops.toList.map (·.dst)) (slim o) σ = some σ') (h : RunA P q fn R k ops m (listed.setIfInBounds i true) S σ' A) : RunA P q fn R k ops (m + 1) listed S σ A := by
  unfold pure1 slim at h1
  simp only at h1
  cases hg : guardOf σ (ops.toList.map (·.dst)) o.guard with
  | none => rw [hg] at h1; cases h1
  | some b =>
    rw [hg] at h1
    cases b with
    | false => exact any_take hi hn hf hr (fun hS g a _ _ _ hσ => .inr ⟨guardOf_region hσ hg, rfl⟩) h1 h
    | true =>
      simp only at h1
      cases hv : pureV T σ o.op with
      | none => rw [hv] at h1; cases h1
      | some v =>
        rw [hv] at h1
        exact any_take hi hn hf hr (fun hS g a _ _ _ hσ => .inl ⟨guardOf_region hσ hg, fun w _ => pureV_run hT hσ hv w⟩) h1 h
theorem any_look {_ : DS} (i : Nat) {v : Value} (hi : ops[i]? = some o) (hn : Region.noSelect ops = true) (hf : Region.free .any ops listed i = true) (hr : (Region.ready .any ops listed).contains i = true)
    (hg : guardOf σ (ops.toList.map (·.dst)) o.guard = some true) (hx : OpQ P q fn.ntmps σ o.op S v) (hp : putF fn.ntmps o.dst v σ = some σ')
    (h : RunA P q fn R k ops m (listed.setIfInBounds i true) S σ' A) : RunA P q fn R k ops (m + 1) listed S σ A :=
  any_take hi hn hf hr (fun hS g a hs d hq hσ => .inl ⟨guardOf_region hσ hg, fun w hw => hx a o hσ rfl g w w hq ⟨hS, hs, d, hw, Evo.refl w⟩⟩) hp h
/-- One that acts, the only one that may come up. -/
theorem any_op1 {_ : DS} (i : Nat) {X : Type} {v : X → Value} {B : X → List HProp} {σ' : X → Facts} (hi : ops[i]? = some o) (hr : Region.ready .any ops listed = [i]) (hg : guardOf σ (ops.toList.map (·.dst)) o.guard = some true)
    (hx : OpX P q fn.ntmps σ o.op (star A) v B) (hp : ∀ x, putF fn.ntmps o.dst (v x) σ = some (σ' x)) (h : ∀ x, RunA P q fn R k ops m (listed.setIfInBounds i true) S (σ' x) (B x)) :
    RunA P q fn R k ops (m + 1) listed S σ A := fun hS g w0 a w hs d hq hσ s => by
  refine wpAnyH_all hr (by simp) fun j hj => ?_
  obtain rfl : j = i := by simpa using hj
  unfold wpOp
  rw [hi]
  simp only [guardOf_region hσ hg, if_true]
  left
  rw [sep_comm] at s
  obtain ⟨x, hx1, d1, s1⟩ := s.split
  have hx1 : x = hS := hx1
  subst hx1
  obtain ⟨w', y, hrun, s2⟩ := hx a o hσ rfl _ _ w (hq.add d1) s1
  have s3 := s2.join (F := eqv x) rfl d1
  rw [sep_comm] at s3
  have fin := h y x g w0 _ w' hs d hq (hσ.put (hp y)) s3
  unfold Oper.wp
  rcases hrun with hrun | ⟨hrun, hu⟩
  · rw [hrun]; exact ⟨s3.sw, fin⟩
  · rw [hrun]; rw [hu] at fin; exact ⟨s3.sw, fin⟩
theorem any_call1 {_ : DS} (i : Nat) {c : Call} {f : FuncId} {vs : List Value} {B : HProp} {L : List HProp} {X : Type} {v : X → Value} {D : X → List HProp} {σ' : X → Facts}
    (hi : ops[i]? = some o) (hr : Region.ready .any ops listed = [i]) (ho : o.op = .call c) (hg : guardOf σ (ops.toList.map (·.dst)) o.guard = some true) (hv : calleeV σ c = some (f, vs)) (hc : Callable P f)
    (hx : CallT P q f vs.toArray B fun u => hex fun x => sep (hpure (u = v x)) (star (D x))) (hA : Imp (star A) (sep B (star L)))
    (hp : ∀ x, putF fn.ntmps o.dst (v x) σ = some (σ' x)) (h : ∀ x, RunA P q fn R k ops m (listed.setIfInBounds i true) S (σ' x) (D x ++ L)) :
    RunA P q fn R k ops (m + 1) listed S σ A := fun hS g w0 a w hs d hq hσ s => by
  refine wpAnyH_all hr (by simp) fun j hj => ?_
  obtain rfl : j = i := by simpa using hj
  unfold wpOp
  rw [hi]
  simp only [guardOf_region hσ hg, if_true]
  left
  rw [sep_comm] at s
  obtain ⟨x, hx1, d1, s1⟩ := s.split
  have hx1 : x = hS := hx1
  subst hx1
  unfold Oper.wp
  rw [calleeV_run hσ hv hc o ho]
  refine (hx.frame (star L) _ w0 w (hq.add d1) (hA _ _ _ s1)).mono ?_
  rintro e w' ⟨u, rfl, s'⟩
  obtain ⟨y, s2⟩ := s'.ex
  rw [sep_assoc] at s2
  obtain ⟨rfl, s3⟩ := s2.pure
  have s4 := s3.join (F := eqv x) rfl d1
  rw [← star_append, sep_comm] at s4
  exact ⟨s4.sw, h y x g w0 _ w' hs d hq (hσ.put (hp y)) s4⟩
end
end Go.Proofs.YtaiocnpecaecdaaGreatDoor.VL
namespace Go.Proofs.YtaiocnpecaecdaaGreatDoor.VL
open Go.RowKit View
def revTo : List Value → List Value → Option (List Value)
  | [], acc => some acc
  | x :: xs, acc => revTo xs (x :: acc)
theorem revTo_eq : ∀ (l acc r : List Value), revTo l acc = some r → r = l.reverse ++ acc := by
  intro l
  induction l with
  | nil => intro acc r h; cases h; rfl
  | cons x l ih => intro acc r h; rw [ih _ _ h]; simp
def takeTo : Nat → List Value → List Value → Option (List Value)
  | 0, _, acc => revTo acc []
  | _ + 1, [], _ => none
  | k + 1, x :: xs, acc => takeTo k xs (x :: acc)
def dropTake : Nat → Nat → List Value → Option (List Value)
  | 0, k, l => takeTo k l []
  | _ + 1, _, [] => none
  | i + 1, k, _ :: l => dropTake i k l
theorem takeTo_eq : ∀ (k : Nat) (l acc r : List Value), takeTo k l acc = some r → r = acc.reverse ++ l.take k ∧ k ≤ l.length := by
  intro k
  induction k with
  | zero => intro l acc r h; rw [revTo_eq _ _ _ h]; simp
  | succ k ih =>
    intro l acc r h
    cases l with
    | nil => cases h
    | cons x l =>
      obtain ⟨e, hle⟩ := ih _ _ _ h
      rw [e]; simp; exact hle
theorem dropTake_eq : ∀ (i k : Nat) (l r : List Value), dropTake i k l = some r → r = (l.drop i).take k ∧ i + k ≤ l.length := by
  intro i
  induction i with
  | zero => intro k l r h; obtain ⟨e, hle⟩ := takeTo_eq _ _ _ _ h; rw [e]; simp; exact hle
  | succ i ih =>
    intro k l r h
    cases l with
    | nil => cases h
    | cons x l =>
      obtain ⟨e, hle⟩ := ih _ _ _ h
      rw [e]; simp; omega
/-- The list with values put in from a place on (all of them fit), listed. -/
def putAll : Nat → List Value → List Value → List Value → Option (List Value)
  | _, [], [], acc => revTo acc []
  | i, [], x :: l, acc => putAll i [] l (x :: acc)
  | 0, v :: vs, _ :: l, acc => putAll 0 vs l (v :: acc)
  | 0, _ :: _, [], _ => none
  | i + 1, v :: vs, x :: l, acc => putAll i (v :: vs) l (x :: acc)
  | _ + 1, _ :: _, [], _ => none
theorem putAll_eq : ∀ (l : List Value) (i : Nat) (vs acc r : List Value), putAll i vs l acc = some r → (vs = [] ∨ i + vs.length ≤ l.length) ∧ r = acc.reverse ++ (writes ⟨l⟩ i vs).toList := by
  intro l
  induction l with
  | nil =>
    intro i vs acc r h
    cases vs with
    | nil => have h' : revTo acc [] = some r := by cases i <;> exact h
             rw [revTo_eq _ _ _ h']; simp [writes]
    | cons v vs => cases i <;> cases h
  | cons x l ih =>
    intro i vs acc r h
    cases vs with
    | nil =>
      have h' : putAll i [] l (x :: acc) = some r := by cases i <;> exact h
      obtain ⟨_, e⟩ := ih _ _ _ _ h'
      rw [e]; simp [writes]
    | cons v vs =>
      have shift : ∀ (vs : List Value) (i : Nat) (y : Value) (l : List Value), (writes ⟨y :: l⟩ (i + 1) vs).toList = y :: (writes ⟨l⟩ i vs).toList := by
        intro vs
        induction vs with
        | nil => intro i y l; rfl
        | cons u us ih2 =>
          intro i y l
          rw [writes, writes]
          have e1 : (⟨y :: l⟩ : Array Value).setIfInBounds (i + 1) u = ⟨y :: l.set i u⟩ := by apply Array.ext'; simp
          have e2 : (⟨l⟩ : Array Value).setIfInBounds i u = ⟨l.set i u⟩ := by apply Array.ext'; simp
          rw [e1, e2, ih2]
      cases i with
      | zero =>
        have h' : putAll 0 vs l (v :: acc) = some r := h
        obtain ⟨hle, e⟩ := ih _ _ _ _ h'
        refine ⟨.inr ?_, ?_⟩
        · rcases hle with rfl | hle
          · simp
          · simp at hle ⊢; omega
        · rw [e]
          have e1 : (⟨x :: l⟩ : Array Value).setIfInBounds 0 v = ⟨v :: l⟩ := by apply Array.ext'; simp
          rw [writes, e1, shift]
          simp
      | succ i =>
        have h' : putAll i (v :: vs) l (x :: acc) = some r := h
        obtain ⟨hle, e⟩ := ih _ _ _ _ h'
        refine ⟨.inr ?_, ?_⟩
        · rcases hle with hle | hle
          · cases hle
          · simp at hle ⊢; omega
        · rw [e, shift]; simp
def cellsL : Value → Option (List Value)
  | .agg ⟨l⟩ => some l
  | v => some [v]
theorem cellsL_eq {v : Value} {l : List Value} (h : cellsL v = some l) : v.cells = ⟨l⟩ := by
  cases v with
  | agg c => obtain ⟨l'⟩ := c; obtain rfl := Option.some.inj h; rfl
  | _ => obtain rfl := Option.some.inj h; rfl
section
variable {P : Program} {q : View} {T : Nat → Option TyI} {n : Nat} {σ : Facts} {A : List HProp} {f : HProp → List HProp}
/-- A load of one cell. -/
theorem opl_load {_ : DS} (hT : TabOk P T) {t : Nat} {x : Operand} {b i : Nat} {ti : TyI} {tc : TypeId} {l : List Value} {v : Value} (hx : ev σ x = some (.pointer (some ⟨b, i, none⟩))) (ht : T t = some ti) (ha : isAggD ti.und = false)
    (hA : At A (cells b tc ⟨l⟩) f) (hc : nthV l i = some v) : OpQ P q n σ (.load t x) A v := op_load hT hx ht ha hA (by rw [nthV_eq] at hc; simpa using hc)
theorem opl_load_agg {_ : DS} (hT : TabOk P T) {t : Nat} {x : Operand} {b i : Nat} {ti : TyI} {tc : TypeId} {l vs : List Value} (hx : ev σ x = some (.pointer (some ⟨b, i, none⟩))) (ht : T t = some ti) (ha : isAggD ti.und = true)
    (hA : At A (cells b tc ⟨l⟩) f) (hc : dropTake i ti.size l = some vs) : OpQ P q n σ (.load t x) A (.agg ⟨vs⟩) := by
  obtain ⟨e, hle⟩ := dropTake_eq _ _ _ _ hc
  have e2 : (⟨vs⟩ : Array Value) = (⟨l⟩ : Array Value).extract i (i + ti.size) := by
    apply Array.ext'
    rw [e, Array.toList_extract, List.extract_eq_take_drop, show i + ti.size - i = ti.size from by omega]
  rw [e2]
  exact op_load_agg hT hx ht ha hA (by simpa using hle)
theorem opl_store {_ : DS} (hT : TabOk P T) {t : Nat} {x y : Operand} {b i : Nat} {ti : TyI} {tc : TypeId} {l l' vs : List Value} {v : Value} (hx : ev σ x = some (.pointer (some ⟨b, i, none⟩))) (hy : ev σ y = some v) (ht : T t = some ti)
    (hA : At A (cells b tc ⟨l⟩) f) (hv : cellsL v = some vs) (hz : vs.length = ti.size) (h1 : vs.all one1 = true) (hp : putAll i vs l [] = some l') (h0 : vs.isEmpty = false) :
    OpD P q n σ (.store t x y) (star A) undef (f (cells b tc ⟨l'⟩)) := by
  have ec := cellsL_eq hv
  obtain ⟨hle, e⟩ := putAll_eq _ _ _ _ _ hp
  have hle : i + vs.length ≤ l.length := hle.resolve_left fun h => by rw [h] at h0; cases h0
  have e2 : (⟨l'⟩ : Array Value) = writes ⟨l⟩ i v.cells.toList := by
    apply Array.ext'; rw [e, ec]; rfl
  rw [e2]
  exact op_store hT hx hy ht hA (by rw [ec]; exact hz) (by rw [ec]; exact h1) (by rw [← hz]; simpa using hle)
theorem opl_alloc {_ : DS} (hT : TabOk P T) {t : Nat} {ti : TyI} {z : Value} {l : List Value} (ht : T t = some ti) (hz : ti.zero = some z) (hl : cellsL z = some l) :
    OpX P q n σ (.alloc t) (star A) (fun r : Nat => .pointer (some ⟨r, 0, none⟩)) fun r => cells r t ⟨l⟩ :: A := by
  have := op_alloc (P := P) (q := q) (n := n) (σ := σ) (A := A) hT ht hz
  rw [cellsL_eq hl] at this; exact this
theorem opl_box {_ : DS} {t : Nat} {x : Operand} {v : Value} {l : List Value} (hx : ev σ x = some v) (hl : cellsL v = some l) :
    OpX P q n σ (.box t x) (star A) (fun r : Nat => .pointer (some ⟨r, 0, none⟩)) fun r => cells r t ⟨l⟩ :: A := by
  have := op_box (P := P) (q := q) (n := n) (σ := σ) (A := A) (t := t) hx
  rw [cellsL_eq hl] at this; exact this
/-- A struct's or an array's value of its parts. -/
theorem fill_run (hT : TabOk P T) {t : Nat} {ti : TyI} {z : Value} (ht : T t = some ti) (hz : ti.zero = some z) {ps : List (Nat × Value)} (w : World) {fields : Array Field} (hu : ti.und = .struct fields)
    {places : List (Nat × Nat)} (hp : fields.toList.map (fun fl => (T fl.type).map fun i => (fl.offset, i.size)) = places.map some) {r : Array Value} (hf : Instr.fill (fun i => (⟨places⟩ : Array (Nat × Nat))[i]?) z.cells ps = some r) :
    (Instr.build t ⟨ps⟩).run P w = .ok (.agg r) w := by
  unfold Instr.build
  simp only [Sem.run_bind, zero_run hT ht hz, und_run hT ht, hu, Result.andThen]
  have hm : ∀ (fs : List Field) (pl : List (Nat × Nat)), fs.map (fun fl => (T fl.type).map fun i => (fl.offset, i.size)) = pl.map some →
      (fs.mapM (fun (fl : Field) => (do pure (fl.offset, ← sizeOf fl.type) : Sem (Nat × Nat)))).run P w = .ok pl w := by
    intro fs
    induction fs with
    | nil => intro pl h; cases pl with | nil => rfl | cons _ _ => cases h
    | cons fl fs ih =>
      intro pl h
      cases pl with
      | nil => cases h
      | cons p pl =>
        simp only [List.map_cons, List.cons.injEq] at h
        obtain ⟨h1, h2⟩ := h
        cases hi : T fl.type with
        | none => rw [hi] at h1; cases h1
        | some i =>
          rw [hi] at h1
          obtain rfl := Option.some.inj h1
          rw [List.mapM_cons]
          simp only [Sem.run_bind, size_run hT hi, Result.andThen, Sem.run_pure, ih pl h2]
  rw [Array.mapM_eq_mapM_toList]
  simp only [Sem.run_map, hm _ _ hp, Result.andThen]
  rw [hf]
  rfl
end
end Go.Proofs.YtaiocnpecaecdaaGreatDoor.VL
namespace Go.Proofs.YtaiocnpecaecdaaGreatDoor.VL
open Go.RowKit View
inductive Pull : List HProp → HProp → List HProp → Prop
  | head {X : HProp} {l : List HProp} : Pull (X :: l) X l
  | tail {X Z : HProp} {l r : List HProp} : Pull l X r → Pull (Z :: l) X (Z :: r)
theorem Pull.out {A L : List HProp} {X : HProp} (h : Pull A X L) : star A = sep X (star L) := by
  induction h with
  | head => rfl
  | @tail X Z l r _ ih => show sep Z (star l) = sep X (sep Z (star r)); rw [ih, sep_left_comm]
theorem imp_nil {A : HProp} : Imp A (star []) := fun g w0 w s => by
  have : St g w0 (sep hemp A) w := by rw [emp_sep]; exact s
  exact this.drop
theorem imp_pick {A L B : List HProp} {X : HProp} (h : Pull A X L) (k : Imp (star L) (star B)) : Imp (star A) (star (X :: B)) := by
  rw [h.out]; exact k.frame_left X
theorem imp_ex {X : Type} {A : HProp} {B : List HProp} {F : X → HProp} (x : X) (k : Imp A (star (F x :: B))) : Imp A (star (hex F :: B)) := k.trans ((Imp.ex x).frame _)
theorem imp_star {A : HProp} {B l : List HProp} (k : Imp A (star (l ++ B))) : Imp A (star (star l :: B)) := by
  rw [star_append] at k; exact k
section
variable {P : Program} {q : View} {fn : Func} {R : Value → HProp} {k : List It} {σ : Facts} {A L l : List HProp} {X Y : HProp}
theorem run_pull {_ : DS} (h : Pull A X L) (hk : Run P q fn R k σ (X :: L)) : Run P q fn R k σ A := hk.imp (by rw [h.out]; exact Imp.refl _)
theorem run_hex {_ : DS} {Z : Type} {F : Z → HProp} (hk : ∀ x, Run P q fn R k σ (F x :: A)) : Run P q fn R k σ (hex F :: A) := fun g w0 a w hq hσ s => by
  obtain ⟨x, s1⟩ := s.ex
  exact hk x g w0 a w hq hσ s1
theorem run_star {_ : DS} (hk : Run P q fn R k σ (l ++ A)) : Run P q fn R k σ (star l :: A) := hk.imp (by rw [star_append]; exact Imp.refl _)
theorem imp_sl_nil {t : TypeId} {kk : Nat} {B : List HProp} {F : HProp} (hi : Imp F (star B)) : Imp F (star (sl none 0 0 t kk [] :: B)) := fun g w0 w s => (hi g w0 w s).sl_nil t kk
end
/-- A function's contract: what it asks of memory, and for some x its value and what stands behind it. -/
def FnX (P : Program) (q : View) (f : FuncId) (args : List Value) (B : List HProp) {X : Type} (v : X → Value) (D : X → List HProp) : Prop :=
  Callable P f ∧ CallT P q f ⟨args⟩ (star B) fun u => hex fun x => sep (hpure (u = v x)) (star (D x))
def FnD (P : Program) (q : View) (f : FuncId) (args : List Value) (B : List HProp) (v : Value) (D : List HProp) : Prop := FnX P q f args B (fun _ : Unit => v) fun _ => D
def RX {X : Type} (v : X → Value) (D : X → List HProp) : Value → HProp := fun u => hex fun x => sep (hpure (u = v x)) (star (D x))
def RD (v : Value) (D : List HProp) : Value → HProp := RX (fun _ : Unit => v) fun _ => D
section
variable {P : Program} {q : View} {T : Nat → Option TyI} {fn : Func} {R : Value → HProp} {k : List It} {σ : Facts} {A L : List HProp}
theorem FnX.of_run {f : FuncId} {c : Code} {args : List Value} {B : List HProp} {X : Type} {v : X → Value} {D : X → List HProp} (hc : Callable P f) (hf : P.funcs[f]? = some fn) (hb : fn.body = some c) (σ : Facts) (hz : args.length ≤ fn.ntmps)
    (hσ : ∀ p ∈ σ, args[p.1]? = some p.2) (h : Run P q fn (RX v D) [.code c] σ B) : FnX P q f args B v D :=
  ⟨hc, CallT.of_run hf hb σ (by simpa using hz) (fun p hp => by simpa using hσ p hp) h⟩
theorem imp_RX {X : Type} {v : X → Value} {D : X → List HProp} {u : Value} (x : X) (e : u = v x) (h : Imp (star A) (star (D x))) : Imp (star A) (RX v D u) :=
  fun g w0 w s => Imp.ex (F := fun x => sep (hpure (u = v x)) (star (D x))) x g w0 w ((h g w0 w s).pure_intro e)
theorem imp_RD {v : Value} {D : List HProp} {u : Value} (e : u = v) (h : Imp (star A) (star D)) : Imp (star A) (RD v D u) := imp_RX () e h
/-- A list of parts taken out of another. -/
inductive Pulls : List HProp → List HProp → List HProp → Prop
  | nil {A : List HProp} : Pulls A [] A
  | cons {A B L L' : List HProp} {X : HProp} : Pull A X L → Pulls L B L' → Pulls A (X :: B) L'
theorem Pulls.out {A B L : List HProp} (h : Pulls A B L) : star A = sep (star B) (star L) := by
  induction h with
  | nil => exact (emp_sep _).symm
  | @cons A B L L' X h1 _ ih => rw [h1.out, ih, ← sep_assoc]; rfl
def appL : List HProp → List HProp → Option (List HProp)
  | [], L => some L
  | x :: xs, L => match appL xs L with
    | some r => some (x :: r)
    | none => none
theorem appL_eq : ∀ (D L r : List HProp), appL D L = some r → r = D ++ L := by
  intro D
  induction D with
  | nil => intro L r h; cases h; rfl
  | cons x D ih =>
    intro L r h
    unfold appL at h
    cases e : appL D L with
    | none => rw [e] at h; cases h
    | some z => rw [e] at h; cases h; rw [ih _ _ e]; rfl
theorem run_callx {_ : DS} {ds : List (Option Tmp)} {o : SOp} {os : List SOp} {c : Call} {f : FuncId} {vs : List Value} {B : List HProp} {X : Type} {v : X → Value} {D : X → List HProp} {σ' : X → Facts}
    (ho : o.op = .call c) (hg : guardOf σ ds o.guard = some true) (hv : calleeV σ c = some (f, vs)) (h : FnX P q f vs B v D) (hA : Pulls A B L)
    (hp : ∀ x, putF fn.ntmps o.dst (v x) σ = some (σ' x)) {A' : X → List HProp} (hD : ∀ x, appL (D x) L = some (A' x)) (hk : ∀ x, Run P q fn R (.ops (.mem false) ds os :: k) (σ' x) (A' x)) : Run P q fn R (.ops (.mem false) ds (o :: os) :: k) σ A :=
  run_call (L := L) ho hg hv h.1 h.2 (by rw [hA.out]; exact Imp.refl _) hp fun x => by rw [← appL_eq _ _ _ (hD x)]; exact hk x
theorem run_calld {_ : DS} {ds : List (Option Tmp)} {o : SOp} {os : List SOp} {c : Call} {f : FuncId} {vs : List Value} {B : List HProp} {v : Value} {D : List HProp} {σ' : Facts}
    (ho : o.op = .call c) (hg : guardOf σ ds o.guard = some true) (hv : calleeV σ c = some (f, vs)) (h : FnD P q f vs B v D) (hA : Pulls A B L)
    (hp : putF fn.ntmps o.dst v σ = some σ') {A' : List HProp} (hD : appL D L = some A') (hk : Run P q fn R (.ops (.mem false) ds os :: k) σ' A') : Run P q fn R (.ops (.mem false) ds (o :: os) :: k) σ A :=
  run_callx ho hg hv h hA (fun _ => hp) (fun _ => hD) fun _ => hk
/-- A contract of the kit's kind. -/
theorem FnD.of_below {f : FuncId} {args : List Value} {v : Value} (hc : Callable P f) (h : ∀ w, Calls P f ⟨args⟩ w fun e w' => e = .returned v ∧ Below w.heap.size w w') : FnD P q f args [] v [] :=
  ⟨hc, (CallT.of_below h).conseq (Imp.refl _) fun u g w0 w s => by
    refine Imp.ex (F := fun _ : Unit => sep (hpure (u = v)) (star [])) () g w0 w ?_
    have e : sep (hpure (u = v)) (star []) = hpure (u = v) := sep_emp _
    rw [e]; exact s⟩
theorem run_look {_ : DS} {st : Bool} {ds : List (Option Tmp)} {o : SOp} {os : List SOp} {v : Value} {σ' : Facts} (hg : guardOf σ ds o.guard = some true) (h : OpQ P q fn.ntmps σ o.op A v) (hp : putF fn.ntmps o.dst v σ = some σ') (hk : Run P q fn R (.ops (.mem st) ds os :: k) σ' A) :
    Run P q fn R (.ops (.mem st) ds (o :: os) :: k) σ A := fun g w0 a w hq hσ s => by
  have hr := h a o.oper hσ rfl g w0 w hq s
  have hc := hk g w0 _ w hq (hσ.put hp) s
  show wpL P (.mem st) ds _ ((o :: os).map SOp.oper) a w
  rw [List.map_cons]; unfold wpL; rw [guardOf_eq (o := o.oper) hσ hg]
  cases st with
  | true => exact ⟨v, hr, hc⟩
  | false => exact wp_value hr hc
/-- What hangs on no world at all. -/
theorem run_lookP {_ : DS} {ds : List (Option Tmp)} {o : SOp} {os : List SOp} {v : Value} {σ' : Facts} {md : Md} (hg : guardOf σ ds o.guard = some true) (h : OpQ P View.emp fn.ntmps σ o.op [] v) (hp : putF fn.ntmps o.dst v σ = some σ') (hk : Run P q fn R (.ops md ds os :: k) σ' A) :
    Run P q fn R (.ops md ds (o :: os) :: k) σ A := fun g w0 a w hq hσ s => by
  have hr : ∀ w', (execOp a.eval o.oper).run P w' = .ok (.value v) w' := fun w' => h a o.oper hσ rfl View.emp w' w' (Sub.refl _) ⟨View.emp, rfl, emp_disj _, (fun b o e => by cases e), Evo.refl _⟩
  have hc := hk g w0 _ w hq (hσ.put hp) s
  show wpL P md ds _ ((o :: os).map SOp.oper) a w
  rw [List.map_cons]; unfold wpL; rw [guardOf_eq (o := o.oper) hσ hg]
  match md with
  | .pure => exact ⟨v, hr, hc⟩
  | .mem true => exact ⟨v, hr w, hc⟩
  | .mem false => exact wp_value (hr w) hc
section
variable {f : HProp → List HProp} {st : Bool} {md : Md} {ds : List (Option Tmp)} {os : List SOp} {dst : Option Tmp} {type : TypeId} {gd : Option (Nat × Bool)} {σ' : Facts}
theorem w_load {_ : DS} {t : Nat} {x : Operand} {b i : Nat} {ti : TyI} {tc : TypeId} {l : List Value} {v : Value} (hT : TabOk P T) (hg : guardOf σ ds gd = some true) (hx : ev σ x = some (.pointer (some ⟨b, i, none⟩))) (ht : T t = some ti) (ha : isAggD ti.und = false)
    (hA : At A (cells b tc ⟨l⟩) f) (hc : nthV l i = some v) (hp : putF fn.ntmps dst v σ = some σ') (hk : Run P q fn R (.ops (.mem st) ds os :: k) σ' A) : Run P q fn R (.ops (.mem st) ds (⟨dst, .load t x, type, gd⟩ :: os) :: k) σ A :=
  run_look hg (opl_load hT hx ht ha hA hc) hp hk
theorem w_load_agg {_ : DS} {t : Nat} {x : Operand} {b i : Nat} {ti : TyI} {tc : TypeId} {l vs : List Value} (hT : TabOk P T) (hg : guardOf σ ds gd = some true) (hx : ev σ x = some (.pointer (some ⟨b, i, none⟩))) (ht : T t = some ti) (ha : isAggD ti.und = true)
    (hA : At A (cells b tc ⟨l⟩) f) (hc : dropTake i ti.size l = some vs) (hp : putF fn.ntmps dst (.agg ⟨vs⟩) σ = some σ') (hk : Run P q fn R (.ops (.mem st) ds os :: k) σ' A) : Run P q fn R (.ops (.mem st) ds (⟨dst, .load t x, type, gd⟩ :: os) :: k) σ A :=
  run_look hg (opl_load_agg hT hx ht ha hA hc) hp hk
theorem w_store {_ : DS} {t : Nat} {x y : Operand} {b i : Nat} {ti : TyI} {tc : TypeId} {l l' vs : List Value} {v : Value} (hT : TabOk P T) (hg : guardOf σ ds gd = some true) (hx : ev σ x = some (.pointer (some ⟨b, i, none⟩))) (hy : ev σ y = some v) (ht : T t = some ti)
    (hv : cellsL v = some vs) (hz : vs.length = ti.size) (h1 : vs.all one1 = true) (h0 : vs.isEmpty = false) (hA : At A (cells b tc ⟨l⟩) f) (hp : putAll i vs l [] = some l') (hq : putF fn.ntmps dst undef σ = some σ')
    (hk : Run P q fn R (.ops (.mem false) ds os :: k) σ' (f (cells b tc ⟨l'⟩))) : Run P q fn R (.ops (.mem false) ds (⟨dst, .store t x y, type, gd⟩ :: os) :: k) σ A :=
  run_op hg (opl_store hT hx hy ht hA hv hz h1 hp h0) hq hk
/-- A store where the cells are no list that can be gone through. -/
theorem w_store_set {_ : DS} {t : Nat} {x y : Operand} {b i : Nat} {ti : TyI} {tc : TypeId} {l : List Value} {v : Value} (hT : TabOk P T) (hg : guardOf σ ds gd = some true) (hx : ev σ x = some (.pointer (some ⟨b, i, none⟩))) (hy : ev σ y = some v) (ht : T t = some ti)
    (hv : cellsL v = some [v]) (hz : ti.size = 1) (h1 : one1 v = true) (hA : At A (cells b tc ⟨l⟩) f) (hi : i < l.length) (hq : putF fn.ntmps dst undef σ = some σ')
    (hk : Run P q fn R (.ops (.mem false) ds os :: k) σ' (f (cells b tc ⟨l.set i v⟩))) : Run P q fn R (.ops (.mem false) ds (⟨dst, .store t x y, type, gd⟩ :: os) :: k) σ A := by
  have ec := cellsL_eq hv
  have := op_store (P := P) (q := q) (n := fn.ntmps) hT hx hy ht hA (by rw [ec, hz]; rfl) (by rw [ec]; simp [h1]) (by rw [hz]; simpa using Nat.succ_le_of_lt hi)
  rw [ec] at this
  have e : writes ⟨l⟩ i (#[v] : Array Value).toList = ⟨l.set i v⟩ := by
    show (⟨l⟩ : Array Value).setIfInBounds i v = _
    apply Array.ext'; simp
  rw [show ({ toList := [v] } : Array Value).toList = (#[v] : Array Value).toList from rfl, e] at this
  exact run_op hg this hq hk
/-- A load where the cells are no list that can be gone through. -/
theorem w_load_at {_ : DS} {t : Nat} {x : Operand} {b i : Nat} {ti : TyI} {tc : TypeId} {l : List Value} {v : Value} (hT : TabOk P T) (hg : guardOf σ ds gd = some true) (hx : ev σ x = some (.pointer (some ⟨b, i, none⟩))) (ht : T t = some ti) (ha : isAggD ti.und = false)
    (hA : At A (cells b tc ⟨l⟩) f) (hc : l[i]? = some v) (hp : putF fn.ntmps dst v σ = some σ') (hk : Run P q fn R (.ops (.mem st) ds os :: k) σ' A) : Run P q fn R (.ops (.mem st) ds (⟨dst, .load t x, type, gd⟩ :: os) :: k) σ A :=
  run_look hg (op_load hT hx ht ha hA (by simpa using hc)) hp hk
theorem w_alloc {_ : DS} {t : Nat} {ti : TyI} {z : Value} {l : List Value} {σ' : Nat → Facts} (hT : TabOk P T) (hg : guardOf σ ds gd = some true) (ht : T t = some ti) (hz : ti.zero = some z) (hl : cellsL z = some l) (hp : ∀ r, putF fn.ntmps dst (.pointer (some ⟨r, 0, none⟩)) σ = some (σ' r))
    (hk : ∀ r, Run P q fn R (.ops (.mem false) ds os :: k) (σ' r) (cells r t ⟨l⟩ :: A)) : Run P q fn R (.ops (.mem false) ds (⟨dst, .alloc t, type, gd⟩ :: os) :: k) σ A := run_opx hg (opl_alloc hT ht hz hl) hp hk
theorem w_box {_ : DS} {t : Nat} {x : Operand} {v : Value} {l : List Value} {σ' : Nat → Facts} (hg : guardOf σ ds gd = some true) (hx : ev σ x = some v) (hl : cellsL v = some l) (hp : ∀ r, putF fn.ntmps dst (.pointer (some ⟨r, 0, none⟩)) σ = some (σ' r))
    (hk : ∀ r, Run P q fn R (.ops (.mem false) ds os :: k) (σ' r) (cells r t ⟨l⟩ :: A)) : Run P q fn R (.ops (.mem false) ds (⟨dst, .box t x, type, gd⟩ :: os) :: k) σ A := run_opx hg (opl_box hx hl) hp hk
end
end
end Go.Proofs.YtaiocnpecaecdaaGreatDoor.VL
namespace Go.Proofs.YtaiocnpecaecdaaGreatDoor.VL
open Go.RowKit View
section
variable {P : Program} {q : View} {T : Nat → Option TyI} {fn : Func} {R : Value → HProp} {kt : List It} {σ : Facts} {A : List HProp} {f : HProp → List HProp} {st : Bool} {md : Md} {ds : List (Option Tmp)} {os : List SOp} {dst : Option Tmp} {type : TypeId} {gd : Option (Nat × Bool)}
theorem w_load_old {_ : DS} {t : Nat} {x : Operand} {b i : Nat} {ti : TyI} {tc : TypeId} {c : Array Value} {fr : Nat × Nat} {v : Value} (hT : TabOk P T) (hg : guardOf σ ds gd = some true) (hx : ev σ x = some (.pointer (some ⟨b, i, none⟩))) (ht : T t = some ti) (ha : isAggD ti.und = false) (hb : q b = some (.cells c tc fr)) (hc : c[i]? = some v) {σ' : Facts} (hp : putF fn.ntmps dst v σ = some σ') (hkk : Run P q fn R (.ops (.mem st) ds os :: kt) σ' A) : Run P q fn R (.ops (.mem st) ds (⟨dst, (.load t x), type, gd⟩ :: os) :: kt) σ A :=
  run_look hg (op_load_old hT hx ht ha hb hc) hp hkk
theorem w_load_agg_old {_ : DS} {t : Nat} {x : Operand} {b i : Nat} {ti : TyI} {tc : TypeId} {c : Array Value} {fr : Nat × Nat} (hT : TabOk P T) (hg : guardOf σ ds gd = some true) (hx : ev σ x = some (.pointer (some ⟨b, i, none⟩))) (ht : T t = some ti) (ha : isAggD ti.und = true) (hb : q b = some (.cells c tc fr)) (hc : i + ti.size ≤ c.size) {σ' : Facts} (hp : putF fn.ntmps dst (.agg (c.extract i (i + ti.size))) σ = some σ') (hkk : Run P q fn R (.ops (.mem st) ds os :: kt) σ' A) : Run P q fn R (.ops (.mem st) ds (⟨dst, (.load t x), type, gd⟩ :: os) :: kt) σ A :=
  run_look hg (op_load_agg_old hT hx ht ha hb hc) hp hkk
theorem w_arith {_ : DS} {op : BinOp} {t yt : Nat} {x y : Operand} {a b r : Int}  (hg : guardOf σ ds gd = some true) (hx : ev σ x = some (.int .i64 a)) (hy : ev σ y = some (.int .i64 b)) (hr : arithV op a b = some r) (h1 : -9223372036854775808 ≤ r) (h2 : r ≤ 9223372036854775807) {σ' : Facts} (hp : putF fn.ntmps dst (.int .i64 r) σ = some σ') (hkk : Run P q fn R (.ops md ds os :: kt) σ' A) : Run P q fn R (.ops md ds (⟨dst, (.binOp op t x y yt), type, gd⟩ :: os) :: kt) σ A :=
  run_lookP hg (op_arith hx hy hr h1 h2) hp hkk
theorem w_quo {_ : DS} {t yt : Nat} {x y : Operand} {a b : Int}  (hg : guardOf σ ds gd = some true) (hx : ev σ x = some (.int .i64 a)) (hy : ev σ y = some (.int .i64 b)) (h0 : 0 ≤ a) (hb : 0 < b) (h2 : a ≤ 9223372036854775807) {σ' : Facts} (hp : putF fn.ntmps dst (.int .i64 (a / b)) σ = some σ') (hkk : Run P q fn R (.ops md ds os :: kt) σ' A) : Run P q fn R (.ops md ds (⟨dst, (.binOp .quo t x y yt), type, gd⟩ :: os) :: kt) σ A :=
  run_lookP hg (op_quo hx hy h0 hb h2) hp hkk
theorem w_rem {_ : DS} {t yt : Nat} {x y : Operand} {k : IntKind} {a b : Int}  (hg : guardOf σ ds gd = some true) (hx : ev σ x = some (.int k a)) (hy : ev σ y = some (.int k b)) (h0 : 0 ≤ a) (hb : 0 < b) {σ' : Facts} (hp : putF fn.ntmps dst (.int k (a % b)) σ = some σ') (hkk : Run P q fn R (.ops md ds os :: kt) σ' A) : Run P q fn R (.ops md ds (⟨dst, (.binOp .rem t x y yt), type, gd⟩ :: os) :: kt) σ A :=
  run_lookP hg (op_rem hx hy h0 hb) hp hkk
theorem w_shl {_ : DS} {t yt : Nat} {x y : Operand} {k j : IntKind} {a b : Int}  (hg : guardOf σ ds gd = some true) (hx : ev σ x = some (.int k a)) (hy : ev σ y = some (.int j b)) (h0 : 0 ≤ b) {σ' : Facts} (hp : putF fn.ntmps dst (.int k (k.wrap (a * 2 ^ min b.toNat k.bits))) σ = some σ') (hkk : Run P q fn R (.ops md ds os :: kt) σ' A) : Run P q fn R (.ops md ds (⟨dst, (.binOp .shl t x y yt), type, gd⟩ :: os) :: kt) σ A :=
  run_lookP hg (op_shl hx hy h0) hp hkk
theorem w_concat {_ : DS} {t yt : Nat} {x y : Operand} {a b : ByteArray}  (hg : guardOf σ ds gd = some true) (hx : ev σ x = some (.string a)) (hy : ev σ y = some (.string b)) (h : a.size + b.size ≤ 9223372036854775807) {σ' : Facts} (hp : putF fn.ntmps dst (.string (a ++ b)) σ = some σ') (hkk : Run P q fn R (.ops md ds os :: kt) σ' A) : Run P q fn R (.ops md ds (⟨dst, (.binOp .add t x y yt), type, gd⟩ :: os) :: kt) σ A :=
  run_lookP hg (op_concat hx hy h) hp hkk
theorem w_conv64 {_ : DS} {src dt : Nat} {x : Operand} {si di : TyI} {j : IntKind} {a : Int} (hT : TabOk P T) (hg : guardOf σ ds gd = some true) (hs : T src = some si) (hd : T dt = some di) (hk : di.und = .int .i64) (hx : ev σ x = some (.int j a)) (h1 : -9223372036854775808 ≤ a) (h2 : a ≤ 9223372036854775807) {σ' : Facts} (hp : putF fn.ntmps dst (.int .i64 a) σ = some σ') (hkk : Run P q fn R (.ops md ds os :: kt) σ' A) : Run P q fn R (.ops md ds (⟨dst, (.convert src dt x), type, gd⟩ :: os) :: kt) σ A :=
  run_lookP hg (op_conv64 hT hs hd hk hx h1 h2) hp hkk
theorem w_index {_ : DS} {t : Nat} {ti : TyI} {x y : Operand} {s : ByteArray} {k : IntKind} {i : Int} (hT : TabOk P T) (hg : guardOf σ ds gd = some true) (hx : ev σ x = some (.string s)) (hy : ev σ y = some (.int k i)) (ht : T t = some ti) (hu : ti.und = .string) (h0 : 0 ≤ i) (h1 : i < s.size) {σ' : Facts} (hp : putF fn.ntmps dst (.int .u8 (bAt s i.toNat)) σ = some σ') (hkk : Run P q fn R (.ops md ds os :: kt) σ' A) : Run P q fn R (.ops md ds (⟨dst, (.index t x y), type, gd⟩ :: os) :: kt) σ A :=
  run_lookP hg (op_index hT hx hy ht hu h0 h1) hp hkk
theorem w_indexAddr {_ : DS} {t e : Nat} {ti ei : TyI} {x y : Operand} {b o len cap : Nat} {k : IntKind} {i : Int} (hT : TabOk P T) (hg : guardOf σ ds gd = some true) (hx : ev σ x = some (.slice (some ⟨b, o, none⟩) len cap)) (hy : ev σ y = some (.int k i)) (ht : T t = some ti) (hu : ti.und = .slice e) (he : T e = some ei) (h0 : 0 ≤ i) (h1 : i < len) {σ' : Facts} (hp : putF fn.ntmps dst (.pointer (some ⟨b, o + i.toNat * ei.size, none⟩)) σ = some σ') (hkk : Run P q fn R (.ops md ds os :: kt) σ' A) : Run P q fn R (.ops md ds (⟨dst, (.indexAddr t x y), type, gd⟩ :: os) :: kt) σ A :=
  run_lookP hg (op_indexAddr hT hx hy ht hu he h0 h1) hp hkk
theorem w_idx1 {_ : DS} {t e : Nat} {ti ei : TyI} {x y : Operand} {b len cap : Nat} {k : IntKind} {i : Int} (hT : TabOk P T) (hg : guardOf σ ds gd = some true) (hx : ev σ x = some (.slice (some ⟨b, 0, none⟩) len cap)) (hy : ev σ y = some (.int k i)) (ht : T t = some ti) (hu : ti.und = .slice e) (he : T e = some ei) (hs : ei.size = 1) (h0 : 0 ≤ i) (h1 : i < len) {σ' : Facts} (hp : putF fn.ntmps dst (.pointer (some ⟨b, i.toNat, none⟩)) σ = some σ') (hkk : Run P q fn R (.ops md ds os :: kt) σ' A) : Run P q fn R (.ops md ds (⟨dst, (.indexAddr t x y), type, gd⟩ :: os) :: kt) σ A :=
  run_lookP hg (op_idx1 hT hx hy ht hu he hs h0 h1) hp hkk
theorem w_idxk {_ : DS} {t e : Nat} {ti ei : TyI} {x y : Operand} {b len cap : Nat} {k : IntKind} {i : Int} (hT : TabOk P T) (hg : guardOf σ ds gd = some true) (kk : Nat) (hx : ev σ x = some (.slice (some ⟨b, 0, none⟩) len cap)) (hy : ev σ y = some (.int k i)) (ht : T t = some ti) (hu : ti.und = .slice e) (he : T e = some ei) (hs : ei.size = kk) (h0 : 0 ≤ i) (h1 : i < len) {σ' : Facts} (hp : putF fn.ntmps dst (.pointer (some ⟨b, i.toNat * kk, none⟩)) σ = some σ') (hkk : Run P q fn R (.ops md ds os :: kt) σ' A) : Run P q fn R (.ops md ds (⟨dst, (.indexAddr t x y), type, gd⟩ :: os) :: kt) σ A :=
  run_lookP hg (op_idxk hT kk hx hy ht hu he hs h0 h1) hp hkk
theorem w_slice_str {_ : DS} {t : Nat} {ti : TyI} {x : Operand} {lo hi : Option Operand} {s : ByteArray} {l h : Int} (hT : TabOk P T) (hg : guardOf σ ds gd = some true) (hx : ev σ x = some (.string s)) (ht : T t = some ti) (hu : ti.und = .string) (hl : boundV σ lo 0 = some l) (hh : boundV σ hi s.size = some h) (h0 : 0 ≤ l) (h1 : l ≤ h) (h2 : h ≤ s.size) {σ' : Facts} (hp : putF fn.ntmps dst (.string (s.extract l.toNat h.toNat)) σ = some σ') (hkk : Run P q fn R (.ops md ds os :: kt) σ' A) : Run P q fn R (.ops md ds (⟨dst, (.slice t x lo hi none), type, gd⟩ :: os) :: kt) σ A :=
  run_lookP hg (op_slice_str hT hx ht hu hl hh h0 h1 h2) hp hkk
theorem w_buildSlice {_ : DS} {t e len : Nat} {ps : List (Nat × Operand)} {ti ei : TyI} {z : Value} {vs : List Value} (hT : TabOk P T) (hg : guardOf σ ds gd = some true) (ht : T t = some ti) (hu : ti.und = .slice e) (he : T e = some ei) (hz : ei.zero = some z) (hzs : z.cells.size = ei.size) (hps : partsV σ 0 ps [] = some vs) (hl : vs.length = len) (hk : ∀ v ∈ vs, v.cells.size = ei.size) (hs : len * ei.size ≤ 16777216) {σ' : Nat → Facts} (hp : ∀ r : Nat, putF fn.ntmps dst (.slice (some ⟨r, 0, none⟩) len len) σ = some (σ' r)) (hkk : ∀ r : Nat, Run P q fn R (.ops (.mem false) ds os :: kt) (σ' r) (cells r e (flat vs).toArray :: A)) : Run P q fn R (.ops (.mem false) ds (⟨dst, (.buildSlice t len ⟨ps⟩), type, gd⟩ :: os) :: kt) σ A :=
  run_opx hg (op_buildSlice hT ht hu he hz hzs hps hl hk hs) hp hkk
theorem w_makeSlice {_ : DS} {t e : Nat} {x y : Operand} {ti ei : TyI} {z : Value} {j k : IntKind} {m c : Int} (hT : TabOk P T) (hg : guardOf σ ds gd = some true) (hx : ev σ x = some (.int j m)) (hy : ev σ y = some (.int k c)) (ht : T t = some ti) (hu : ti.und = .slice e) (he : T e = some ei) (hz : ei.zero = some z) (hzs : z.cells.size = ei.size) (h0 : 0 ≤ m) (h1 : m ≤ c) (h2 : ei.bytes * c ≤ 281474976710656) (h3 : c ≤ 9223372036854775807) {σ' : Nat → Facts} (hp : ∀ r : Nat, putF fn.ntmps dst (.slice (some ⟨r, 0, none⟩) m.toNat c.toNat) σ = some (σ' r)) (hkk : ∀ r : Nat, Run P q fn R (.ops (.mem false) ds os :: kt) (σ' r) (cells r e (Builtin.zeroCells z.cells c.toNat) :: A)) : Run P q fn R (.ops (.mem false) ds (⟨dst, (.makeSlice t x y), type, gd⟩ :: os) :: kt) σ A :=
  run_opx hg (op_makeSlice hT hx hy ht hu he hz hzs h0 h1 h2 h3) hp hkk
theorem w_bytes {_ : DS} {src dt e : Nat} {x : Operand} {si di ei : TyI} {s : ByteArray} (hT : TabOk P T) (hg : guardOf σ ds gd = some true) (hs : T src = some si) (hsu : si.und = .string) (hd : T dt = some di) (hdu : di.und = .slice e) (he : T e = some ei) (heu : ei.und = .int .u8) (hx : ev σ x = some (.string s)) {σ' : Option Addr × Nat → Facts} (hp : ∀ r : Option Addr × Nat, putF fn.ntmps dst (.slice r.1 s.size r.2) σ = some (σ' r)) (hkk : ∀ r : Option Addr × Nat, Run P q fn R (.ops (.mem false) ds os :: kt) (σ' r) (sl r.1 s.size r.2 e 1 (bv s.data.toList) :: A)) : Run P q fn R (.ops (.mem false) ds (⟨dst, (.convert src dt x), type, gd⟩ :: os) :: kt) σ A :=
  run_opx hg (op_bytes hT hs hsu hd hdu he heu hx) hp hkk
theorem w_string {_ : DS} {src dt e : Nat} {x : Operand} {si di ei : TyI} {p : Option Addr} {m cap : Nat} {l : List UInt8} (hT : TabOk P T) (hg : guardOf σ ds gd = some true) (hs : T src = some si) (hsu : si.und = .slice e) (hd : T dt = some di) (hdu : di.und = .string) (he : T e = some ei) (heu : ei.und = .int .u8) (hx : ev σ x = some (.slice p m cap)) (hA : At A (sl p m cap e 1 (bv l)) f) {σ' : Facts} (hp : putF fn.ntmps dst (.string ⟨l.toArray⟩) σ = some σ') (hkk : Run P q fn R (.ops (.mem st) ds os :: kt) σ' A) : Run P q fn R (.ops (.mem st) ds (⟨dst, (.convert src dt x), type, gd⟩ :: os) :: kt) σ A :=
  run_look hg (op_string hT hs hsu hd hdu he heu hx hA) hp hkk
theorem w_string_cells {_ : DS} {src dt e : Nat} {x : Operand} {si di ei : TyI} {b o m cap : Nat} {c : Array Value} {tc : TypeId} {l : List UInt8} (hT : TabOk P T) (hg : guardOf σ ds gd = some true) (hs : T src = some si) (hsu : si.und = .slice e) (hd : T dt = some di) (hdu : di.und = .string) (he : T e = some ei) (heu : ei.und = .int .u8) (hx : ev σ x = some (.slice (some ⟨b, o, none⟩) m cap)) (hA : At A (cells b tc c) f) (hl : l.length = m) (hc : (c.toList.drop o).take m = bv l) {σ' : Facts} (hp : putF fn.ntmps dst (.string ⟨l.toArray⟩) σ = some σ') (hkk : Run P q fn R (.ops (.mem st) ds os :: kt) σ' A) : Run P q fn R (.ops (.mem st) ds (⟨dst, (.convert src dt x), type, gd⟩ :: os) :: kt) σ A :=
  run_look hg (op_string_cells hT hs hsu hd hdu he heu hx hA hl hc) hp hkk
variable {S : List HProp} {ops : Array Oper} {mm : Nat} {listed : Array Bool} {pos : String} {after : Array Edge}
theorem a_pure {_ : DS} (ii : Nat) {o : Oper} {σ' : Facts} (hT : TabOk P T) (hi : nthG ops.toList ii = some o) (hn : Region.noSelect ops = true) (hf : Region.free .any ops listed ii = true) (hr : (Region.ready .any ops listed).contains ii = true)
    (h1 : pure1 T fn.ntmps (ops.toList.map (·.dst)) (slim o) σ = some σ') (hkk : RunA P q fn R kt ops mm (listed.setIfInBounds ii true) S σ' A) : RunA P q fn R kt ops (mm + 1) listed S σ A := any_pure ii hT (nthG_arr hi) hn hf hr h1 hkk
theorem a_start {_ : DS} {id : Nat} {M : List HProp} (hM : P.follows .mixedOrders = true) (hA : Pulls A M S) (h : RunA P q fn R kt ops ops.size (Array.replicate ops.size false) S σ M) : Run P q fn R (.code (.region id ops true) :: kt) σ A :=
  run_draw hM (by rw [hA.out, sep_comm]; exact Imp.refl _) h
theorem a_done {_ : DS} {A' : List HProp} (hr : Region.ready .any ops listed = []) (hD : appL A S = some A') (h : Run P q fn R kt σ A') : RunA P q fn R kt ops mm listed S σ A :=
  any_done hr (h.imp (by rw [appL_eq _ _ _ hD, star_append, star_append, sep_comm]; exact Imp.refl _))
theorem a_calld {_ : DS} (ii : Nat) {B L D : List HProp} {c : Call} {ff : FuncId} {vs : List Value} {v : Value} {σ' : Facts} {A' : List HProp} (hi : nthG ops.toList ii = some ⟨dst, .call c, type, pos, after, gd⟩) (hr : Region.ready .any ops listed = [ii]) (hg : guardOf σ (ops.toList.map (·.dst)) gd = some true)
    (hv : calleeV σ c = some (ff, vs)) (h : FnD P q ff vs B v D) (hA : Pulls A B L) (hp : putF fn.ntmps dst v σ = some σ') (hD : appL D L = some A') (hkk : RunA P q fn R kt ops mm (listed.setIfInBounds ii true) S σ' A') : RunA P q fn R kt ops (mm + 1) listed S σ A :=
  any_call1 (L := L) ii (nthG_arr hi) hr rfl hg hv h.1 h.2 (by rw [hA.out]; exact Imp.refl _) (fun _ => hp) fun _ => by rw [← appL_eq _ _ _ hD]; exact hkk
theorem a_load {_ : DS} {t : Nat} {x : Operand} {b i : Nat} {ti : TyI} {tc : TypeId} {l : List Value} {v : Value} (ii : Nat) (hT : TabOk P T) (hi : nthG ops.toList ii = some ⟨dst, .load t x, type, pos, after, gd⟩) (hn : Region.noSelect ops = true) (hf : Region.free .any ops listed ii = true) (hr : (Region.ready .any ops listed).contains ii = true) (hg : guardOf σ (ops.toList.map (·.dst)) gd = some true)
    (hx : ev σ x = some (.pointer (some ⟨b, i, none⟩))) (ht : T t = some ti) (ha : isAggD ti.und = false) (hA : At S (cells b tc ⟨l⟩) f) (hc : nthV l i = some v) {σ' : Facts} (hp : putF fn.ntmps dst v σ = some σ') (hkk : RunA P q fn R kt ops mm (listed.setIfInBounds ii true) S σ' A) : RunA P q fn R kt ops (mm + 1) listed S σ A :=
  any_look ii (nthG_arr hi) hn hf hr hg (opl_load hT hx ht ha hA hc) hp hkk
theorem a_arith {_ : DS} (ii : Nat) {op : BinOp} {t yt : Nat} {x y : Operand} {a b r : Int}  (zi : nthG ops.toList ii = some ⟨dst, (.binOp op t x y yt), type, pos, after, gd⟩) (zn : Region.noSelect ops = true) (zf : Region.free .any ops listed ii = true) (zr : (Region.ready .any ops listed).contains ii = true) (zg : guardOf σ (ops.toList.map (·.dst)) gd = some true) (hx : ev σ x = some (.int .i64 a)) (hy : ev σ y = some (.int .i64 b)) (hr : arithV op a b = some r) (h1 : -9223372036854775808 ≤ r) (h2 : r ≤ 9223372036854775807) {σ' : Facts} (hp : putF fn.ntmps dst (.int .i64 r) σ = some σ') (hkk : RunA P q fn R kt ops mm (listed.setIfInBounds ii true) S σ' A) : RunA P q fn R kt ops (mm + 1) listed S σ A :=
  any_look ii (nthG_arr zi) zn zf zr zg (op_arith hx hy hr h1 h2) hp hkk
theorem a_concat {_ : DS} (ii : Nat) {t yt : Nat} {x y : Operand} {a b : ByteArray}  (zi : nthG ops.toList ii = some ⟨dst, (.binOp .add t x y yt), type, pos, after, gd⟩) (zn : Region.noSelect ops = true) (zf : Region.free .any ops listed ii = true) (zr : (Region.ready .any ops listed).contains ii = true) (zg : guardOf σ (ops.toList.map (·.dst)) gd = some true) (hx : ev σ x = some (.string a)) (hy : ev σ y = some (.string b)) (h : a.size + b.size ≤ 9223372036854775807) {σ' : Facts} (hp : putF fn.ntmps dst (.string (a ++ b)) σ = some σ') (hkk : RunA P q fn R kt ops mm (listed.setIfInBounds ii true) S σ' A) : RunA P q fn R kt ops (mm + 1) listed S σ A :=
  any_look ii (nthG_arr zi) zn zf zr zg (op_concat hx hy h) hp hkk
theorem a_slice_str {_ : DS} (ii : Nat) {t : Nat} {ti : TyI} {x : Operand} {lo hi : Option Operand} {s : ByteArray} {l h : Int} (hT : TabOk P T) (zi : nthG ops.toList ii = some ⟨dst, (.slice t x lo hi none), type, pos, after, gd⟩) (zn : Region.noSelect ops = true) (zf : Region.free .any ops listed ii = true) (zr : (Region.ready .any ops listed).contains ii = true) (zg : guardOf σ (ops.toList.map (·.dst)) gd = some true) (hx : ev σ x = some (.string s)) (ht : T t = some ti) (hu : ti.und = .string) (hl : boundV σ lo 0 = some l) (hh : boundV σ hi s.size = some h) (h0 : 0 ≤ l) (h1 : l ≤ h) (h2 : h ≤ s.size) {σ' : Facts} (hp : putF fn.ntmps dst (.string (s.extract l.toNat h.toNat)) σ = some σ') (hkk : RunA P q fn R kt ops mm (listed.setIfInBounds ii true) S σ' A) : RunA P q fn R kt ops (mm + 1) listed S σ A :=
  any_look ii (nthG_arr zi) zn zf zr zg (op_slice_str hT hx ht hu hl hh h0 h1 h2) hp hkk
end
end Go.Proofs.YtaiocnpecaecdaaGreatDoor.VL
namespace Go.Proofs.YtaiocnpecaecdaaGreatDoor.VL
open Go.RowKit View
def placesV (T : Nat → Option TyI) : List Field → List (Nat × Nat) → Option (List (Nat × Nat))
  | [], acc => revD acc []
  | ⟨_, type, offset, _, _, _, _⟩ :: fs, acc => match T type with
    | some ⟨_, size, _, _⟩ => placesV T fs ((offset, size) :: acc)
    | none => none
theorem placesV_eq {T : Nat → Option TyI} : ∀ (fs : List Field) (acc r : List (Nat × Nat)), placesV T fs acc = some r → ∃ l, r = acc.reverse ++ l ∧ fs.map (fun fl => (T fl.type).map fun i => (fl.offset, i.size)) = l.map some := by
  intro fs
  induction fs with
  | nil => intro acc r h; rw [revD_eq _ _ _ h]; exact ⟨[], by simp, rfl⟩
  | cons fl fs ih =>
    intro acc r h
    obtain ⟨y0, type, offset, y1, y2, y3, y4⟩ := fl
    unfold placesV at h
    cases hT : T type with
    | none => rw [hT] at h; cases h
    | some i =>
      rw [hT] at h
      obtain ⟨u, size, by_, z⟩ := i
      obtain ⟨l, e1, e2⟩ := ih _ _ h
      refine ⟨(offset, size) :: l, by rw [e1]; simp, ?_⟩
      rw [List.map_cons, e2, hT]; rfl
def nthP (l : List (Nat × Nat)) (i : Nat) : Option (Nat × Nat) :=
  match l, i with
  | v :: _, 0 => some v
  | _ :: l, i + 1 => nthP l i
  | [], _ => none
theorem nthP_eq (l : List (Nat × Nat)) (i : Nat) : nthP l i = l[i]? := by
  induction l generalizing i with
  | nil => cases i <;> rfl
  | cons v l ih => cases i with
    | zero => rfl
    | succ i => simpa [nthP] using ih i
/-- The cells with the parts put in. -/
def fillL (σ : Facts) (place : Nat → Option (Nat × Nat)) : List (Nat × Operand) → List Value → Option (List Value)
  | [], l => some l
  | (i, x) :: ps, l => match place i, ev σ x with
    | some (off, sz), some v => match cellsL v with
      | some vs => bif Nat.beq vs.length sz then (bif vs.isEmpty then none else (match putAll off vs l [] with
        | some l' => fillL σ place ps l'
        | none => none)) else none
      | none => none
    | _, _ => none
theorem fillL_eq {_ : DS} {σ : Facts} {a : Act} {n : Nat} (hσ : Holds n σ a) {place : Nat → Option (Nat × Nat)} : ∀ (ps : List (Nat × Operand)) (l r : List Value), fillL σ place ps l = some r →
    Instr.fill place ⟨l⟩ (ps.map fun (p : Nat × Operand) => (p.1, a.eval p.2)) = some ⟨r⟩ := by
  intro ps
  induction ps with
  | nil => intro l r h; cases h; rfl
  | cons p ps ih =>
    intro l r h
    obtain ⟨i, x⟩ := p
    unfold fillL at h
    split at h
    · rename_i d1 d2 off sz v hp hx
      split at h
      · rename_i d3 vs hc
        cases hb : Nat.beq vs.length sz with
        | false => rw [hb] at h; cases h
        | true =>
          rw [hb] at h
          cases he : vs.isEmpty with
          | true => rw [he] at h; cases h
          | false =>
            rw [he] at h
            simp only [cond_true, cond_false] at h
            split at h
            · rename_i d4 l' hu
              have ec := cellsL_eq hc
              obtain ⟨hle, e⟩ := putAll_eq _ _ _ _ _ hu
              have hle : off + vs.length ≤ l.length := hle.resolve_left fun h => by rw [h] at he; cases he
              have hsz : vs.length = sz := Nat.eq_of_beq_eq_true hb
              rw [List.map_cons]
              unfold Instr.fill
              simp only [hp, hσ.ev hx]
              have hvs : v.cells.size = sz := by rw [ec]; exact hsz
              have hcond : (decide (v.cells.size ≠ sz) || decide (off + v.cells.size > (⟨l⟩ : Array Value).size)) = false := by
                rw [hvs, ← hsz]; simp; exact hle
              rw [hcond]
              simp only [Bool.false_eq_true, if_false]
              have e1 : (v.cells.zipIdx.foldl (fun cs (x : Value × Nat) => cs.setIfInBounds (off + x.2) x.1) (⟨l⟩ : Array Value)) = writes ⟨l⟩ off v.cells.toList := by
                rw [← Array.foldl_toList, Array.toList_zipIdx, fold_writes]; rfl
              have e2 : (v.cells.zipIdx.foldl (fun cs (x : Value × Nat) => match x with | (c, j) => cs.setIfInBounds (off + j) c) (⟨l⟩ : Array Value)) = writes ⟨l⟩ off v.cells.toList := e1
              rw [e2]
              have e3 : writes ⟨l⟩ off v.cells.toList = ⟨l'⟩ := by
                apply Array.ext'; rw [ec, e]; rfl
              rw [e3]
              exact ih _ _ h
            · cases h
      · cases h
    · cases h
def buildV (T : Nat → Option TyI) (σ : Facts) (t : Nat) (ps : List (Nat × Operand)) : Option (List Value) :=
  match T t with
  | some ⟨.struct ⟨fields⟩, _, _, some (.agg ⟨z⟩)⟩ => match placesV T fields [] with
    | some pl => fillL σ (nthP pl) ps z
    | none => none
  | some ⟨.array _ e, _, _, some (.agg ⟨z⟩)⟩ => match T e with
    | some ⟨_, size, _, _⟩ => fillL σ (fun i => some (i * size, size)) ps z
    | none => none
  | _ => none
section
variable {P : Program} {q : View} {T : Nat → Option TyI} {n : Nat} {σ : Facts} {A : List HProp} {f : HProp → List HProp}
theorem op_build [DS] (hT : TabOk P T) {t : Nat} {ps : List (Nat × Operand)} {l : List Value} (h : buildV T σ t ps = some l) : OpQ P q n σ (.build t ⟨ps⟩) A (.agg ⟨l⟩) := opq_pure fun a o hσ ho w => by
  obtain ⟨dst, op, type, pos, after, guard⟩ := o
  obtain rfl : op = _ := ho
  rw [show execOp a.eval _ = (do pure (.value (← Instr.build t ((⟨ps⟩ : Array (Nat × Operand)).map fun (i, x) => (i, a.eval x))))) from rfl]
  have eps : ((⟨ps⟩ : Array (Nat × Operand)).map fun (i, x) => (i, a.eval x)) = ⟨ps.map fun (p : Nat × Operand) => (p.1, a.eval p.2)⟩ := by simp
  rw [eps]
  unfold buildV at h
  split at h
  · rename_i d fields s b z ht
    split at h
    · rename_i d2 pl hpl
      obtain ⟨l2, e1, e2⟩ := placesV_eq _ _ _ hpl
      simp only [List.reverse_nil, List.nil_append] at e1
      subst e1
      have hf := fillL_eq hσ _ _ _ h
      have hpe : (fun i => (⟨pl⟩ : Array (Nat × Nat))[i]?) = nthP pl := by funext i; rw [nthP_eq]; simp
      have := fill_run hT (r := ⟨l⟩) ht rfl (ps := ps.map fun (p : Nat × Operand) => (p.1, a.eval p.2)) w rfl e2 (by
        have e : (fun i => (⟨pl⟩ : Array (Nat × Nat))[i]?) = nthP pl := hpe
        rw [e]; exact hf)
      rw [Sem.run_bind, this]; rfl
    · cases h
  · rename_i d m e s b z ht
    split at h
    · rename_i d2 u size b2 z2 he
      have hf := fillL_eq hσ _ _ _ h
      rw [Sem.run_bind]
      unfold Instr.build
      simp only [Sem.run_bind, zero_run hT ht rfl, und_run hT ht, Result.andThen, size_run hT he]
      have e3 : (Value.agg ⟨z⟩).cells = ⟨z⟩ := rfl
      rw [e3, hf]; rfl
    · cases h
  · cases h
end
section
variable {P : Program} {q : View} {T : Nat → Option TyI} {fn : Func} {R : Value → HProp} {kt : List It} {σ : Facts} {A : List HProp} {f : HProp → List HProp} {st : Bool} {md : Md} {ds : List (Option Tmp)} {os : List SOp} {dst : Option Tmp} {type : TypeId} {gd : Option (Nat × Bool)}
  {S : List HProp} {ops : Array Oper} {mm : Nat} {listed : Array Bool} {pos : String} {after : Array Edge}
theorem w_build {_ : DS} {t : Nat} {ps : List (Nat × Operand)} {l : List Value} {σ' : Facts} (hT : TabOk P T) (hg : guardOf σ ds gd = some true) (h : buildV T σ t ps = some l) (hp : putF fn.ntmps dst (.agg ⟨l⟩) σ = some σ') (hkk : Run P q fn R (.ops md ds os :: kt) σ' A) :
    Run P q fn R (.ops md ds (⟨dst, .build t ⟨ps⟩, type, gd⟩ :: os) :: kt) σ A := run_lookP hg (op_build hT h) hp hkk
theorem a_build {_ : DS} (ii : Nat) {t : Nat} {ps : List (Nat × Operand)} {l : List Value} {σ' : Facts} (hT : TabOk P T) (zi : nthG ops.toList ii = some ⟨dst, .build t ⟨ps⟩, type, pos, after, gd⟩) (zn : Region.noSelect ops = true) (zf : Region.free .any ops listed ii = true) (zr : (Region.ready .any ops listed).contains ii = true)
    (zg : guardOf σ (ops.toList.map (·.dst)) gd = some true) (h : buildV T σ t ps = some l) (hp : putF fn.ntmps dst (.agg ⟨l⟩) σ = some σ') (hkk : RunA P q fn R kt ops mm (listed.setIfInBounds ii true) S σ' A) : RunA P q fn R kt ops (mm + 1) listed S σ A :=
  any_look ii (nthG_arr zi) zn zf zr zg (op_build hT h) hp hkk
/-- append of a slice that lies in a block of its own. -/
theorem reads_own {q : View} {A : List HProp} {f : HProp → List HProp} {b m cap size : Nat} {tc : TypeId} {l : List Value} (hA : At A (cells b tc ⟨l⟩) f) (hl : l.length = m * size) :
    ∀ g w0 w, Sub q g → St g w0 (star A) w → Reads P size m (.slice (some ⟨b, 0, none⟩) m cap) l w := fun g w0 w hq s => by
  obtain ⟨L, e, _⟩ := hA.out
  obtain ⟨fr, _, _, hh⟩ := (show St g w0 (sep (cells b tc ⟨l⟩) (star L)) w from e ▸ s).cells_open
  have := reads_cells (P := P) (o := 0) (m := m) (cap := cap) (size := size) hh (by simp [hl])
  simpa [← hl] using this
theorem w_append {_ : DS} {x y : Operand} {t e ty : Nat} {ti ei tyi : TyI} {z v : Value} {p : Option Addr} {len cap m size : Nat} {xs news : List Value} {σ' : Option Addr × Nat → Facts} (hT : TabOk P T) (hg : guardOf σ ds gd = some true)
    (hx : ev σ x = some (.slice p len cap)) (hy : ev σ y = some v) (ht : T t = some ti) (hu : ti.und = .slice e) (he : T e = some ei) (hty : T ty = some tyi) (hni : rowD tyi.und) (hz : ei.zero = some z) (hzs : z.cells.size = ei.size)
    (hA : At A (sl p len cap e size xs) f) (hs : ei.size = size) (hr : ∀ g w0 w, Sub q g → St g w0 (star A) w → Reads P size m v news w) (hnl : news.length = m * size) (h1 : news.all one1 = true) (hxl : xs.length = len * size)
    (hb : (len + m) * ei.bytes ≤ 140737488355328) (h63 : len + m ≤ 9223372036854775807) (hp : ∀ r : Option Addr × Nat, putF fn.ntmps dst (.slice r.1 (len + m) r.2) σ = some (σ' r))
    (hkk : ∀ r : Option Addr × Nat, Run P q fn R (.ops (.mem false) ds os :: kt) (σ' r) (f (sl r.1 (len + m) r.2 e size (xs ++ news)))) :
    Run P q fn R (.ops (.mem false) ds (⟨dst, .call { callee := .builtin .append, args := ⟨[x, y]⟩, argTypes := ⟨[t, ty]⟩ }, type, gd⟩ :: os) :: kt) σ A := by
  subst hs
  exact run_opx hg (op_append hT rfl hx hy ht hu he hty hni hz hzs hA hr hnl h1 hxl hb h63) hp hkk
end
end Go.Proofs.YtaiocnpecaecdaaGreatDoor.VL
