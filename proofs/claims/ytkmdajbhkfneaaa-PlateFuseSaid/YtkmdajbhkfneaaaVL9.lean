/- Slices that the text itself made: append, copy, make; bytes and texts. -/
import Derived.Test.YtkmdajbhkfneaaaVL8
set_option linter.unusedVariables false
set_option linter.unusedSimpArgs false
namespace Go.Proofs.Ytkmdajbhkfneaaa.VL
open Go.RowKit View

/-- A slice that owns its cells, and the spare ones behind them; or nil. -/
def sl (p : Option Addr) (n cap : Nat) (t : TypeId) (k : Nat) (xs : List Value) : HProp := fun h =>
  (p = none ∧ n = 0 ∧ cap = 0 ∧ xs = [] ∧ h = View.emp) ∨
  ∃ b spare, p = some ⟨b, 0, none⟩ ∧ n * k = xs.length ∧ cap * k = xs.length + spare.length ∧ n ≤ cap ∧ cells b t (xs ++ spare).toArray h
def bv (l : List UInt8) : List Value := l.map fun b => .int .u8 (b.toNat : Int)
theorem bv_length (l : List UInt8) : (bv l).length = l.length := List.length_map _

theorem St.sl_open {g : View} {w0 w : World} {p : Option Addr} {n cap : Nat} {t : TypeId} {k : Nat} {xs : List Value} {F : HProp} (s : St g w0 (sep (sl p n cap t k xs) F) w) :
    (p = none ∧ n = 0 ∧ cap = 0 ∧ xs = [] ∧ St g w0 F w) ∨
    ∃ b spare, p = some ⟨b, 0, none⟩ ∧ n * k = xs.length ∧ cap * k = xs.length + spare.length ∧ n ≤ cap ∧ St g w0 (sep (cells b t (xs ++ spare).toArray) F) w := by
  obtain ⟨h, ⟨h1, h2, d, e, hs, hf⟩, r⟩ := s
  rcases hs with ⟨a1, a2, a3, a4, rfl⟩ | ⟨b, spare, a1, a2, a3, a4, hc⟩
  · left
    refine ⟨a1, a2, a3, a4, h2, hf, ?_⟩
    rw [emp_add] at e; rw [← e]; exact r
  · right
    exact ⟨b, spare, a1, a2, a3, a4, h, ⟨h1, h2, d, e, hc, hf⟩, r⟩
theorem St.sl_nil {g : View} {w0 w : World} {F : HProp} (t : TypeId) (k : Nat) (s : St g w0 F w) : St g w0 (sep (sl none 0 0 t k []) F) w := by
  obtain ⟨h, hf, r⟩ := s
  exact ⟨h, ⟨View.emp, h, emp_disj h, (emp_add h).symm, .inl ⟨rfl, rfl, rfl, rfl, rfl⟩, hf⟩, r⟩
theorem St.sl_shut {g : View} {w0 w : World} {b n cap : Nat} {t : TypeId} {k : Nat} {xs spare : List Value} {F : HProp} (h1 : n * k = xs.length) (h2 : cap * k = xs.length + spare.length) (h3 : n ≤ cap)
    (s : St g w0 (sep (cells b t (xs ++ spare).toArray) F) w) : St g w0 (sep (sl (some ⟨b, 0, none⟩) n cap t k xs) F) w := by
  obtain ⟨h, ⟨x, y, d, e, hc, hf⟩, r⟩ := s
  exact ⟨h, ⟨x, y, d, e, .inr ⟨b, spare, rfl, h1, h2, h3, hc⟩, hf⟩, r⟩

/-- What append and copy read. -/
def Reads (P : Program) (size m : Nat) (x : Value) (news : List Value) (w : World) : Prop :=
  (∀ w', (Builtin.lenOf x).run P w' = .ok m w') ∧ ∀ m', m' ≤ m → ∀ d, (Builtin.firstCells size m' x).run P { w with drawn := d } = .ok (news.take (m' * size)).toArray { w with drawn := d }
section
variable {P : Program} {q : View} {T : Nat → Option TyI} {n : Nat} {σ : Facts} {A : List HProp} {f : HProp → List HProp}
theorem reads_cells {w : World} {b o m cap size : Nat} {c : Array Value} {tc : TypeId} {fr : Nat × Nat} (hh : w.heap[b]? = some (.cells c tc fr)) (hle : o + m * size ≤ c.size) :
    Reads P size m (.slice (some ⟨b, o, none⟩) m cap) (c.toList.drop o |>.take (m * size)) w := by
  refine ⟨fun w' => rfl, fun m' hm d => ?_⟩
  have hle' : m' * size ≤ m * size := Nat.mul_le_mul_right _ hm
  unfold Builtin.firstCells
  rw [run_loadCells_cells (w := { w with drawn := d }) (fr := fr) (t := tc) (c := c) hh o (m' * size) (by omega)]
  congr 1
  apply Array.ext'
  rw [List.take_take, Nat.min_eq_left hle', Array.toList_extract, List.extract_eq_take_drop]
  congr 1
  omega
theorem reads_nil {w : World} {size cap : Nat} : Reads P size 0 (.slice none 0 cap) [] w := by
  refine ⟨fun w' => rfl, fun m' hm d => ?_⟩
  obtain rfl : m' = 0 := by omega
  rw [Nat.zero_mul]; rfl
theorem reads_string {w : World} (s : ByteArray) : Reads P 1 s.size (.string s) (bv s.data.toList) w := by
  refine ⟨fun w' => rfl, fun m' hm d => ?_⟩
  unfold Builtin.firstCells
  show Result.ok ((s.extract 0 m').data.map _) _ = _
  congr 1
  apply Array.ext'
  unfold bv
  rw [Array.toList_map, ByteArray.data_extract, Array.toList_extract, List.extract_eq_take_drop, Nat.mul_one, List.drop_zero, Nat.sub_zero, List.map_take]
theorem reads_sl {g : View} {w0 w : World} {p : Option Addr} {m cap : Nat} {t : TypeId} {k : Nat} {xs : List Value} {F : HProp} (s : St g w0 (sep (sl p m cap t k xs) F) w) : Reads P k m (.slice p m cap) xs w := by
  rcases s.sl_open with ⟨rfl, rfl, rfl, rfl, _⟩ | ⟨b, spare, rfl, h1, h2, h3, s1⟩
  · exact reads_nil
  · obtain ⟨fr, _, _, hh⟩ := s1.cells_open
    have := reads_cells (P := P) (o := 0) (m := m) (cap := cap) (size := k) hh (by simp; omega)
    rw [show (((xs ++ spare).toArray.toList.drop 0).take (m * k)) = xs from by rw [h1]; simp] at this
    exact this
def cap48 : Nat := 281474976710656
def rowD (d : TypeDesc) : Prop := (∃ e, d = .slice e) ∨ d = .string
theorem zeroCells_length (z : Array Value) (m : Nat) : (Builtin.zeroCells z m).toList.length = m * z.size := by simp [Builtin.zeroCells]
/-- append, in whatever world: in place, or a new block. -/
theorem append_run (hT : TabOk P T) {t e ty : Nat} {ti ei tyi : TyI} {z : Value} (ht : T t = some ti) (hu : ti.und = .slice e) (he : T e = some ei) (hty : T ty = some tyi) (hni : rowD tyi.und) (hz : ei.zero = some z)
    {w : World} {p : Option Addr} {len cap m : Nat} {x : Value} {olds news : List Value} (hx : Reads P ei.size m x news w) (hnl : news.length = m * ei.size)
    (hold : ∀ d, (Builtin.firstCells ei.size len (.slice p len cap)).run P { w with drawn := d } = .ok olds.toArray { w with drawn := d }) (hlc : len ≤ cap) (hb : (len + m) * ei.bytes ≤ 140737488355328) (h63 : len + m ≤ 9223372036854775807) (ret : TypeId) :
    (len + m ≤ cap → ∀ a w', p = some a → (storeCells (a.add (len * ei.size)) news).run P w = .ok () w' → (Builtin.append_ #[t, ty] ret #[.slice p len cap, x]).run P w = .ok (.slice p (len + m) cap) w') ∧
    (len + m ≤ cap → p = none → (Builtin.append_ #[t, ty] ret #[.slice p len cap, x]).run P w = .ok (.slice p (len + m) cap) w) ∧
    (cap < len + m → ∃ c', len + m ≤ c' ∧ (Builtin.append_ #[t, ty] ret #[.slice p len cap, x]).run P w = .ok (.slice (some ⟨w.heap.size, 0, none⟩) (len + m) c') (w.drew.alloc (.cells (olds.toArray ++ news.toArray ++ Builtin.zeroCells z.cells (c' - (len + m))) e))) := by
  obtain ⟨j, hj, hjs, hjb, hjz⟩ := (hT e ei he).2
  have hul := (hT t ti ht).1
  rw [hu] at hul
  have hut := (hT ty tyi hty).1
  have hfull : ∀ d, (Builtin.firstCells ei.size m x).run P { w with drawn := d } = .ok news.toArray { w with drawn := d } := fun d => by
    rw [hx.2 m (Nat.le_refl _) d, List.take_of_length_le (by omega)]
  have hf0 : (Builtin.firstCells ei.size m x).run P w = .ok news.toArray w := hfull w.drawn
  generalize tyi.und = d at hni hut
  refine ⟨fun hroom a w' hp hst => ?_, fun hroom hp => ?_, fun hgrow => ?_⟩
  · subst hp
    rcases hni with ⟨e', rfl⟩ | rfl <;> simp [Builtin.append_, run_underlying hul, run_underlying hut, sizeOf, typeInfo, hj, hjs, hx.1, hroom, hf0, hst]
  · subst hp
    rcases hni with ⟨e', rfl⟩ | rfl <;> simp [Builtin.append_, run_underlying hul, run_underlying hut, sizeOf, typeInfo, hj, hjs, hx.1, hroom, hf0]
  · have hn : ¬ (len + m ≤ cap) := by omega
    have h63' : ¬ (9223372036854775807 < ((len : Int) + (m : Int))) := by omega
    have h48 := growslice_fits (bytes := ei.bytes) (show cap < len + m from hgrow) hb
    have h48' : ¬ (281474976710656 < Builtin.nextslicecap (len + m) cap * j.bytes) := by rw [hjb]; omega
    have hf1 : (Builtin.firstCells ei.size m x).run P w.drew = .ok news.toArray w.drew := hfull _
    have ho1 : (Builtin.firstCells ei.size len (.slice p len cap)).run P w.drew = .ok olds.toArray w.drew := hold _
    refine ⟨grownCap w (len + m) cap e, grownCap_ge _ _ _ _, ?_⟩
    rcases hni with ⟨e', rfl⟩ | rfl <;> simp [Builtin.append_, run_underlying hul, run_underlying hut, sizeOf, typeInfo, zeroValue, hj, hjs, hjz, hz, hx.1, hn, h63', h48', Question.forced, hf1, ho1, newRow, grownCap] <;> (congr 2; apply Array.ext'; simp [List.append_assoc])
theorem sl_first {g : View} {w0 w : World} {p : Option Addr} {len cap : Nat} {t : TypeId} {k : Nat} {xs : List Value} {F : HProp} (s : St g w0 (sep (sl p len cap t k xs) F) w) (d : Nat) :
    (Builtin.firstCells k len (.slice p len cap)).run P { w with drawn := d } = .ok xs.toArray { w with drawn := d } := by
  have h := (reads_sl (P := P) s).2 len (Nat.le_refl _) d
  rcases s.sl_open with ⟨rfl, rfl, rfl, rfl, _⟩ | ⟨b, spare, rfl, h1, _⟩
  · rw [h, Nat.zero_mul]; rfl
  · rw [h, h1, List.take_length]
theorem writes_append (xs news spare : List Value) (h : news.length ≤ spare.length) : writes (xs ++ spare).toArray xs.length news = (xs ++ news ++ spare.drop news.length).toArray := by
  induction news generalizing xs spare with
  | nil => simp [writes]
  | cons v vs ih =>
    cases spare with
    | nil => simp at h
    | cons u us =>
      have e : (xs ++ u :: us).toArray.setIfInBounds xs.length v = ((xs ++ [v]) ++ us).toArray := by
        apply Array.ext'
        simp
      rw [writes, e, show xs.length + 1 = (xs ++ [v]).length from by simp, ih (xs ++ [v]) us (by simpa using h)]
      simp
/-- append to a slice that owns its cells. -/
theorem op_append (hT : TabOk P T) {c : Call} {x y : Operand} {t e ty : Nat} {ti ei tyi : TyI} {z v : Value} {p : Option Addr} {len cap m : Nat} {xs news : List Value}
    (hc : c = { callee := .builtin .append, args := ⟨[x, y]⟩, argTypes := ⟨[t, ty]⟩ }) (hx : ev σ x = some (.slice p len cap)) (hy : ev σ y = some v) (ht : T t = some ti) (hu : ti.und = .slice e) (he : T e = some ei) (hty : T ty = some tyi) (hni : rowD tyi.und)
    (hz : ei.zero = some z) (hzs : z.cells.size = ei.size) (hA : At A (sl p len cap e ei.size xs) f) (hr : ∀ g w0 w, Sub q g → St g w0 (star A) w → Reads P ei.size m v news w) (hnl : news.length = m * ei.size) (h1 : news.all one1 = true)
    (hxl : xs.length = len * ei.size) (hb : (len + m) * ei.bytes ≤ 140737488355328) (h63 : len + m ≤ 9223372036854775807) :
    OpX P q n σ (.call c) (star A) (fun r : Option Addr × Nat => .slice r.1 (len + m) r.2) fun r => f (sl r.1 (len + m) r.2 e ei.size (xs ++ news)) := fun a o hσ ho g w0 w hq s => by
  obtain ⟨L, eA, eA'⟩ := hA.out
  have s0 : St g w0 (sep (sl p len cap e ei.size xs) (star L)) w := eA ▸ s
  have hlc : len ≤ cap := by
    rcases s0.sl_open with ⟨_, a2, _⟩ | ⟨_, _, _, _, _, h, _⟩ <;> omega
  obtain ⟨r1, r2, r3⟩ := append_run hT ht hu he hty hni hz (hr g w0 w hq s) hnl (fun d => sl_first s0 d) hlc hb h63 o.type
  have ex : ∀ r w', (Builtin.append_ #[t, ty] o.type #[.slice p len cap, v]).run P w = .ok r w' → (execOp a.eval o).run P w = .ok (.value r) w' := fun r w' h => by
    obtain ⟨dst, op, type, pos, after, guard⟩ := o
    obtain rfl : op = _ := ho
    subst hc
    simp only [execOp, resolve, invoke, builtin]
    rw [Sem.run_bind]
    simp only [Sem.run_pure, Result.andThen, List.map_toArray, List.map_cons, List.map_nil, hσ.ev hx, hσ.ev hy]
    rw [Sem.run_bind, h]; rfl
  by_cases hroom : len + m ≤ cap
  · rcases s0.sl_open with ⟨rfl, rfl, rfl, rfl, s1⟩ | ⟨b, spare, rfl, g1, g2, g3, s1⟩
    · obtain rfl : m = 0 := by omega
      have hn0 : news = [] := List.eq_nil_of_length_eq_zero (by simpa using hnl)
      subst hn0
      refine ⟨w, (none, 0), .inl (ex _ _ (r2 hroom rfl)), ?_⟩
      rw [eA' _]
      exact s0
    · obtain ⟨fr, hfr, s2, hh⟩ := s1.cells_open
      have hle : news.length ≤ spare.length := by
        have : (len + m) * ei.size ≤ cap * ei.size := Nat.mul_le_mul_right _ hroom
        rw [Nat.add_mul] at this
        omega
      obtain ⟨w', hr', s3⟩ := run_storeCells_view (P := P) b (len * ei.size) e fr news 0 (xs ++ spare).toArray w hfr s2 (by simp; omega) (fun u hu => List.all_eq_true.1 h1 u hu)
      refine ⟨w', (some ⟨b, 0, none⟩, cap), .inl (ex _ _ (r1 hroom _ w' rfl (by rw [add_none, Nat.zero_add]; exact hr'))), ?_⟩
      rw [eA' _]
      have s4 := s3.cells_shut (by rw [writes_size]; exact hfr)
      rw [Nat.add_zero, g1, writes_append _ _ _ hle] at s4
      refine s4.sl_shut ?_ ?_ hroom
      · rw [Nat.add_mul, List.length_append, ← hxl, ← hnl]
      · show cap * ei.size = _
        rw [List.length_append, List.length_drop]; omega
  · obtain ⟨c', hc', hr'⟩ := r3 (by omega)
    refine ⟨_, (some ⟨w.heap.size, 0, none⟩, c'), .inl (ex _ _ hr'), ?_⟩
    rw [eA' _]
    have s1 : St g w0 (star L) w := by
      rw [sep_comm] at s0; exact s0.drop
    obtain ⟨_, s2⟩ := newRow_st (P := P) s1.drew e (xs.toArray ++ news.toArray ++ Builtin.zeroCells z.cells (c' - (len + m)))
    have ee : xs.toArray ++ news.toArray ++ Builtin.zeroCells z.cells (c' - (len + m)) = (xs ++ news ++ (Builtin.zeroCells z.cells (c' - (len + m))).toList).toArray := by
      apply Array.ext'; simp
    rw [ee] at s2 ⊢
    refine St.sl_shut ?_ ?_ hc' s2
    · rw [Nat.add_mul, List.length_append, hxl, hnl]
    · rw [List.length_append, zeroCells_length, hzs, hxl, hnl, ← Nat.add_mul, ← Nat.add_mul]
      congr 1; omega
end
end Go.Proofs.Ytkmdajbhkfneaaa.VL
