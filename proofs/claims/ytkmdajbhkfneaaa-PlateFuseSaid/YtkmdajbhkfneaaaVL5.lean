/- What the function on the frame reckons is what the operation does. -/
import Derived.Test.YtkmdajbhkfneaaaVL4
set_option linter.unusedVariables false
set_option linter.unusedSimpArgs false
namespace Go.Proofs.Ytkmdajbhkfneaaa.VL
open Go.RowKit View
variable {P : Program} {T : Nat → Option TyI}

theorem und_run (hT : TabOk P T) {t : Nat} {i : TyI} (h : T t = some i) (w : World) : (underlying t).run P w = .ok i.und w := by
  have := (hT t i h).1
  unfold underlying program
  simp [Sem.run, this]
theorem size_run (hT : TabOk P T) {t : Nat} {i : TyI} (h : T t = some i) (w : World) : (sizeOf t).run P w = .ok i.size w := by
  obtain ⟨_, j, hj, hs, _⟩ := hT t i h
  unfold sizeOf typeInfo program
  simp [Sem.run, hj, hs]
theorem info_run (hT : TabOk P T) {t : Nat} {i : TyI} (h : T t = some i) (w : World) : ∃ j, (typeInfo t).run P w = .ok j w ∧ j.size = i.size ∧ j.bytes = i.bytes ∧ j.zero = i.zero := by
  obtain ⟨_, j, hj, hs⟩ := hT t i h
  refine ⟨j, ?_, hs⟩
  unfold typeInfo program
  simp [Sem.run, hj]
theorem zero_run (hT : TabOk P T) {t : Nat} {i : TyI} {z : Value} (h : T t = some i) (hz : i.zero = some z) (w : World) : (zeroValue t).run P w = .ok z w := by
  obtain ⟨_, j, hj, _, _, h0⟩ := hT t i h
  unfold zeroValue typeInfo program
  simp [Sem.run, hj, h0, hz]
theorem agg_run (hT : TabOk P T) {t : Nat} {i : TyI} (h : T t = some i) (w : World) : (isAgg t).run P w = .ok (isAggD i.und) w := by
  unfold isAgg
  rw [Sem.run_bind, und_run hT h]
  simp only [Result.andThen]
  cases i.und <;> rfl

theorem guard_int (op : BinOp) (t : TypeId) (x y : Operand) (j k : IntKind) (a b : Int) (w : World) : (eqGuard op t x y (.int j a) (.int k b)).run P w = .ok () w := by
  unfold eqGuard; cases op <;> rfl
theorem equal_bool {t : Nat} (h : P.underlying t = some .bool) (a b : Bool) (w : World) : (Op.equal t (.bool a) (.bool b)).run P w = .ok (a == b) w := by
  unfold Op.equal Op.maxDepth
  show (Op.equalIn (9999 + 1) t (.bool a) (.bool b)).run P w = _
  unfold Op.equalIn underlying program
  simp [Sem.run, h]
theorem equal_nil {t : Nat} {d : TypeDesc} (h : P.underlying t = some d) {u v : Value} {b : Bool} (ht : isNilT d u = true) (hb : nilV u v = some b) (w : World) : (Op.equal t u v).run P w = .ok b w := by
  unfold Op.equal Op.maxDepth
  show (Op.equalIn (9999 + 1) t u v).run P w = _
  unfold Op.equalIn underlying program
  match u, v, hb with
  | .pointer none, .pointer c, hb =>
    obtain rfl := Option.some.inj hb
    cases d <;> first | (simp [isNilT] at ht; done) | simp [Sem.run, h]
  | .pointer (some x), .pointer none, hb =>
    obtain rfl := Option.some.inj hb
    cases d <;> first | (simp [isNilT] at ht; done) | simp [Sem.run, h]
  | .slice none _ _, .slice c _ _, hb =>
    obtain rfl := Option.some.inj hb
    cases d <;> first | (simp [isNilT] at ht; done) | simp [Sem.run, h]
  | .slice (some x) _ _, .slice none _ _, hb =>
    obtain rfl := Option.some.inj hb
    cases d <;> first | (simp [isNilT] at ht; done) | simp [Sem.run, h]
  | .map none, .map c, hb =>
    obtain rfl := Option.some.inj hb
    cases d <;> first | (simp [isNilT] at ht; done) | simp [Sem.run, h]
  | .map (some x), .map none, hb =>
    obtain rfl := Option.some.inj hb
    cases d <;> first | (simp [isNilT] at ht; done) | simp [Sem.run, h]
theorem guard_nil (op : BinOp) (t : TypeId) (x y : Operand) {d : TypeDesc} {u : Value} (ht : isNilT d u = true) (v : Value) (w : World) : (eqGuard op t x y u v).run P w = .ok () w := by
  unfold eqGuard
  cases op <;> first | rfl | (cases u <;> first | (cases d <;> simp [isNilT] at ht; done) | rfl)
theorem guard_bool (op : BinOp) (t : TypeId) (x y : Operand) (a : Bool) (v : Value) (w : World) : (eqGuard op t x y (.bool a) v).run P w = .ok () w := by
  unfold eqGuard
  cases op <;> rfl
theorem guard_string (op : BinOp) (t : TypeId) (x y : Operand) (a : ByteArray) (v : Value) (w : World) : (eqGuard op t x y (.string a) v).run P w = .ok () w := by
  unfold eqGuard
  cases op <;> rfl
/-- Guard and operation of two operands together. -/
def binS (op : BinOp) (t : TypeId) (x y : Operand) (u v : Value) : Sem Value := do eqGuard op t x y u v; binOp op t u v
theorem binS_int (op : BinOp) (t : TypeId) (x y : Operand) (j k : IntKind) (a b : Int) (w : World) : (binS op t x y (.int j a) (.int k b)).run P w = (binOp op t (.int j a) (.int k b)).run P w := by
  unfold binS; rw [Sem.run_bind, guard_int]; rfl
theorem binOp_eql_nil {d : TypeDesc} {t : Nat} {u v : Value} (h : isNilT d u = true) : binOp .eql t u v = (do pure (.bool (← Op.equal t u v))) := by
  cases u <;> first | (cases d <;> simp [isNilT] at h; done) | rfl
theorem binOp_neq_nil {d : TypeDesc} {t : Nat} {u v : Value} (h : isNilT d u = true) : binOp .neq t u v = (do pure (.bool (!(← Op.equal t u v)))) := by
  cases u <;> first | (cases d <;> simp [isNilT] at h; done) | rfl
theorem toList_data (s : ByteArray) : s.toList = s.data.toList := by
  have key : ∀ (d i : Nat) (r : List UInt8), s.size - i = d → ByteArray.toList.loop s i r = r.reverse ++ s.data.toList.drop i := by
    intro d
    induction d with
    | zero =>
      intro i r h
      unfold ByteArray.toList.loop
      rw [if_neg (by omega), List.drop_of_length_le (by simp; show s.size ≤ i; omega), List.append_nil]
    | succ d ih =>
      intro i r h
      unfold ByteArray.toList.loop
      have hi : i < s.size := by omega
      rw [if_pos hi, ih (i + 1) _ (by omega)]
      have hi2 : i < s.data.toList.length := by simpa using hi
      rw [List.drop_eq_getElem_cons hi2]
      have : s.get! i = s.data.toList[i] := by
        show s.data[i]! = _
        rw [getElem!_pos s.data i (by simpa using hi)]; simp
      rw [this]; simp
  have := key (s.size - 0) 0 [] rfl
  simpa [ByteArray.toList] using this
theorem toList_beq (a b : ByteArray) : (a.toList == b.toList) = decide (a = b) := by
  rw [toList_data, toList_data]
  by_cases h : a = b
  · subst h; simp
  · rw [decide_eq_false h]
    rw [beq_eq_false_iff_ne]
    intro e
    apply h
    cases a; cases b
    congr 1
    exact Array.ext' e
theorem binV_run (hT : TabOk P T) {op : BinOp} {t : Nat} {u v r : Value} (h : binV T op t u v = some r) (x y : Operand) (w : World) : (binS op t x y u v).run P w = .ok r w := by
  have cmp : ∀ (j k : IntKind) (a b : Int) (q : Value), (if j = k then some q else none) = some r → (∀ hjk : j = k, (binOp op t (.int j a) (.int k b)).run P w = .ok q w) → (binS op t x y (.int j a) (.int k b)).run P w = .ok r w := by
    intro j k a b q h1 h2
    rw [binS_int]
    by_cases e : j = k
    · rw [if_pos e] at h1; obtain rfl := Option.some.inj h1; exact h2 e
    · rw [if_neg e] at h1; cases h1
  have ari : ∀ (j k : IntKind) (a b n : Int), (if j = k then (match wrapU j n with | some r => some (Value.int j r) | none => none) else none) = some r → (j = k → (binOp op t (.int j a) (.int k b)).run P w = .ok (.int j (j.wrap n)) w) → (binS op t x y (.int j a) (.int k b)).run P w = .ok r w := by
    intro j k a b n h1 h2
    rw [binS_int]
    by_cases e : j = k
    · rw [if_pos e] at h1
      cases hw : wrapU j n with
      | none => rw [hw] at h1; cases h1
      | some z =>
        rw [hw] at h1
        obtain rfl := Option.some.inj h1
        rw [h2 e, wrapU_eq hw]
    · rw [if_neg e] at h1; cases h1
  have bit : ∀ (j k : IntKind) (a b : Int), (if j = k then (match bitsV op j a b with | some r => some (Value.int j r) | none => none) else none) = some r → (binS op t x y (.int j a) (.int k b)).run P w = .ok r w := by
    intro j k a b h1
    rw [binS_int]
    by_cases e : j = k
    · subst e
      rw [if_pos rfl] at h1
      cases op <;> first | (simp [bitsV] at h1; done) | skip
      all_goals
        simp only [bitsV] at h1
        obtain rfl := Option.some.inj h1
        simp only [binOp, ne_eq, not_true_eq_false, if_false, Op.intBits]
        rfl
    · rw [if_neg e] at h1; cases h1
  have eqn : ∀ (u v : Value) (f : Bool → Bool), (match T t with | some i => (bif isNilT i.und u then (match nilV u v with | some b => some (Value.bool (f b)) | none => none) else none) | none => none) = some r →
      (∀ d b, isNilT d u = true → (Op.equal t u v).run P w = .ok b w → (binOp op t u v).run P w = .ok (.bool (f b)) w) → (binS op t x y u v).run P w = .ok r w := by
    intro u v f h1 h2
    cases hi : T t with
    | none => rw [hi] at h1; cases h1
    | some i =>
      rw [hi] at h1
      simp only at h1
      cases hn : isNilT i.und u with
      | false => rw [hn] at h1; cases h1
      | true =>
        rw [hn] at h1
        simp only [cond_true] at h1
        cases hb : nilV u v with
        | none => rw [hb] at h1; cases h1
        | some b =>
          rw [hb] at h1
          obtain rfl := Option.some.inj h1
          unfold binS
          rw [Sem.run_bind, guard_nil op t x y hn v]
          exact h2 _ b hn (equal_nil (hT t i hi).1 hn hb w)
  unfold binV at h
  split at h
  · exact cmp _ _ _ _ _ h fun e => by simp [binOp, e, Op.intCmp]; rfl
  · exact cmp _ _ _ _ _ h fun e => by simp [binOp, e, Op.intCmp]; rfl
  · exact cmp _ _ _ _ _ h fun e => by simp [binOp, e, Op.intCmp]
  · exact cmp _ _ _ _ _ h fun e => by simp [binOp, e, Op.intCmp]
  · exact cmp _ _ _ _ _ h fun e => by simp [binOp, e, Op.intCmp]
  · exact cmp _ _ _ _ _ h fun e => by simp [binOp, e, Op.intCmp]
  · obtain rfl := Option.some.inj h
    unfold binS; rw [Sem.run_bind, guard_string]; simp [binOp, Op.stringOp, Result.andThen, toList_beq]
  · obtain rfl := Option.some.inj h
    unfold binS; rw [Sem.run_bind, guard_string]; simp [binOp, Op.stringOp, Result.andThen, toList_beq]
  · split at h
    · rename_i hi
      obtain rfl := Option.some.inj h
      unfold binS; rw [Sem.run_bind, guard_bool]
      simp only [Result.andThen, binOp]
      rw [Sem.run_bind, equal_bool (hT t _ hi).1]; rfl
    · cases h
  · split at h
    · rename_i hi
      obtain rfl := Option.some.inj h
      unfold binS; rw [Sem.run_bind, guard_bool]
      simp only [Result.andThen, binOp]
      rw [Sem.run_bind, equal_bool (hT t _ hi).1]; rfl
    · cases h
  · refine eqn _ _ id ?_ ?_
    · revert h
      cases T t with
      | none => intro h; cases h
      | some i => dsimp only; cases isNilT i.und u <;> cases nilV u v <;> intro h <;> exact h
    · intro d b hn hb
      rw [binOp_eql_nil hn, Sem.run_bind, hb]; rfl
  · refine eqn _ _ not ?_ ?_
    · revert h
      cases T t with
      | none => intro h; cases h
      | some i => dsimp only; cases isNilT i.und u <;> cases nilV u v <;> intro h <;> exact h
    · intro d b hn hb
      rw [binOp_neq_nil hn, Sem.run_bind, hb]; rfl
  · exact ari _ _ _ _ _ h fun e => by simp [binOp, e, Op.intArith]
  · exact ari _ _ _ _ _ h fun e => by simp [binOp, e, Op.intArith]
  · exact ari _ _ _ _ _ h fun e => by simp [binOp, e, Op.intArith]
  · exact bit _ _ _ _ h
  · cases h
theorem evs_map {σ : Facts} {a : Act} {n : Nat} (hσ : Holds n σ a) : ∀ (xs : List Operand) (acc r : List Value), evs σ xs acc = some r → acc.reverse ++ xs.map a.eval = r := by
  intro xs
  induction xs with
  | nil => intro acc r h; obtain rfl := Option.some.inj h; simp
  | cons x xs ih =>
    intro acc r h
    unfold evs at h
    cases hx : ev σ x with
    | none => rw [hx] at h; cases h
    | some v =>
      rw [hx] at h
      have := ih _ _ h
      rw [List.map_cons, hσ.ev hx, ← this]
      simp
theorem evs_eq {σ : Facts} {a : Act} {n : Nat} (hσ : Holds n σ a) {xs : List Operand} {r : List Value} (h : evs σ xs [] = some r) : xs.map a.eval = r := by
  simpa using evs_map hσ xs [] r h
theorem fieldV_run (hT : TabOk P T) {s f off size : Nat} (h : fieldV T s f = some (off, size)) (b o : Nat) (w : World) :
    (Instr.fieldAt s (.pointer (some ⟨b, o, none⟩)) f).run P w = .ok (.pointer (some ⟨b, o + off, none⟩)) w := by
  unfold fieldV at h
  split at h
  · rename_i fields z1 z2 z3 hs
    split at h
    · rename_i fl y0 type offset y1 y2 y3 y4 hf
      split at h
      · rename_i i u sz x1 x2 hi
        cases hz : Nat.beq sz 0 with
        | true => rw [hz] at h; cases h
        | false =>
          rw [hz] at h
          simp only [cond_false, Option.some.injEq, Prod.mk.injEq] at h
          obtain ⟨rfl, rfl⟩ := h
          have hz0 : sz ≠ 0 := fun e => by rw [e] at hz; cases hz
          rw [nthF_eq] at hf
          have hf' : (⟨fields⟩ : Array Field)[f]? = some ⟨y0, type, offset, y1, y2, y3, y4⟩ := by simpa using hf
          unfold Instr.fieldAt
          rw [Sem.run_bind, und_run hT hs]
          simp only [Result.andThen, hf', Instr.sureAddr]
          unfold fieldPlace
          simp only [Sem.run_bind, Sem.run_pure, Result.andThen, size_run hT hi]
          rw [if_neg hz0]
          simp [add_none, Result.andThen]
      · cases h
    · cases h
  · cases h
def lenIs (d : TypeDesc) (v : Value) (n : Int) : Prop :=
  match d, v with
  | .string, .string s => (s.size : Int) = n
  | .slice _, .slice _ m _ => (m : Int) = n
  | .array m _, _ => (m : Int) = n
  | _, _ => False
theorem len_run (hT : TabOk P T) {t : Nat} {i : TyI} (h : T t = some i) (v : Value) (n : Int) (hv : lenIs i.und v n) (ty : Nat) (w : World) :
    (Builtin.len_ #[t] ty #[v]).run P w = .ok (.int .i64 n) w := by
  unfold Builtin.len_
  simp only [List.getElem?_toArray, List.getElem?_cons_zero]
  rw [Sem.run_bind, und_run hT h]
  simp only [Result.andThen]
  generalize hd : i.und = d at hv
  cases d <;> first | exact hv.elim | skip
  · cases v <;> first | exact hv.elim | (subst hv; rfl)
  · cases v <;> first | exact hv.elim | (subst hv; rfl)
  · subst hv; rfl
theorem pureV_run (hT : TabOk P T) {σ : Facts} {a : Act} {n : Nat} (hσ : Holds n σ a) {o : Oper} {v : Value} (h : pureV T σ o.op = some v) (w : World) :
    (execOp a.eval o).run P w = .ok (.value v) w := by
  obtain ⟨dst, op, type, pos, after, guard⟩ := o
  simp only at h
  unfold pureV at h
  split at h
  · rw [show execOp a.eval _ = pure (.value (a.eval _)) from rfl, hσ.ev h]; rfl
  · rw [show execOp a.eval _ = pure (.value (a.eval _)) from rfl, hσ.ev h]; rfl
  · split at h
    · rename_i hc; simp [execOp, hσ.ev hc, hσ.ev h, asBool, Result.andThen]
    · rename_i hc; simp [execOp, hσ.ev hc, hσ.ev h, asBool, Result.andThen]
    · cases h
  · split at h
    · rename_i op t x y z d1 d2 u q hx hy
      have := binV_run hT h x y w
      rw [show execOp a.eval _ = (do pure (.value (← binS op t x y (a.eval x) (a.eval y)))) from rfl, hσ.ev hx, hσ.ev hy, Sem.run_bind, this]; rfl
    · cases h
  · split at h
    · rename_i hx
      obtain rfl := Option.some.inj h
      simp [execOp, hσ.ev hx, Op.unary, Result.andThen]
    · cases h
  · split at h
    · rename_i l hx
      simp [execOp, hσ.ev hx, Instr.extract, ← nthV_eq, h, Result.andThen]
    · cases h
  · split at h
    · rename_i hx
      obtain rfl := Option.some.inj h
      simp [execOp, hσ.ev hx, Result.andThen]
    · cases h
  · split at h
    · rename_i s x f d1 d2 off sz b o hf hx
      have := fieldV_run hT hf b o w
      rw [show execOp a.eval _ = (do pure (.value (← Instr.fieldAt s (a.eval x) f))) from rfl, hσ.ev hx, Sem.run_bind, this]
      split at h
      · obtain rfl := Option.some.inj h; rw [Nat.zero_add]; rfl
      · obtain rfl := Option.some.inj h; rfl
    · cases h
  · rename_i x t
    have key : ∀ i v n, T t = some i → a.eval x = v → lenIs i.und v n →
        (execOp a.eval ⟨dst, .call { callee := .builtin .len, args := ⟨[x]⟩, argTypes := ⟨[t]⟩ }, type, pos, after, guard⟩).run P w = .ok (.value (.int .i64 n)) w := fun i v n hi hv hm => by
      have := len_run hT hi v n hm type w
      simp only [execOp, resolve, invoke, builtin]
      rw [Sem.run_bind]
      simp only [Sem.run_pure, Result.andThen, List.map_toArray, List.map_cons, List.map_nil, hv]
      rw [Sem.run_bind, this]; rfl
    split at h
    · rename_i hi hx; obtain rfl := Option.some.inj h; exact key _ _ _ hi (hσ.ev hx) rfl
    · rename_i hi hx; obtain rfl := Option.some.inj h; exact key _ _ _ hi (hσ.ev hx) rfl
    · rename_i hi hx; obtain rfl := Option.some.inj h; exact key _ _ _ hi (hσ.ev hx) rfl
    · cases h
  · split at h
    · rename_i l m h1 h2
      obtain rfl := Option.some.inj h
      rw [← evs_eq hσ h1, ← evs_eq hσ h2]
      simp [execOp, Instr.makeFunc, Result.andThen]
    · cases h
  · split at h
    · rename_i src dst x d1 d2 d3 i1 k z2 z3 z4 kk nn hs hd hx
      split at h
      · rename_i r hr
        obtain rfl := Option.some.inj h
        rw [show execOp a.eval _ = (do pure (.value (← convert src dst (a.eval x)))) from rfl, hσ.ev hx]
        unfold convert
        simp only [Sem.run_bind, und_run hT hs, und_run hT hd, Result.andThen]
        simp [Conv.intToInt, wrapU_eq hr]
      · cases h
    · rename_i src dst x d1 d2 d3 z1 z2 z3 z4 z5 z6 s hs hd hx
      obtain rfl := Option.some.inj h
      rw [show execOp a.eval _ = (do pure (.value (← convert src dst (a.eval x)))) from rfl, hσ.ev hx]
      unfold convert
      simp only [Sem.run_bind, und_run hT hs, und_run hT hd, Result.andThen]
      rfl
    · cases h
  · cases h
end Go.Proofs.Ytkmdajbhkfneaaa.VL
