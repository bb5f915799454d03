/- Operations that ask for bounds: arithmetic, places in texts and slices. -/
import Derived.Test.YtkmdajbhkfneaaaVL7
import Derived.IntWalk
set_option linter.unusedVariables false
set_option linter.unusedSimpArgs false
namespace Go.Proofs.Ytkmdajbhkfneaaa.VL
open Go.RowKit View

section
variable {P : Program} {q : View} {T : Nat → Option TyI} {n : Nat} {σ : Facts} {A : List HProp}
theorem opq_pure {op : Op} {v : Value} (h : ∀ (a : Act) (o : Oper), Holds n σ a → o.op = op → ∀ w, (execOp a.eval o).run P w = .ok (.value v) w) : OpQ P q n σ op A v :=
  fun a o hσ ho g w0 w hq s => h a o hσ ho w
theorem wrap64_id {r : Int} (h1 : -9223372036854775808 ≤ r) (h2 : r ≤ 9223372036854775807) : IntKind.i64.wrap r = r := IntWalk.i64_in r (by omega)
def arithV (op : BinOp) (a b : Int) : Option Int :=
  match op with
  | .add => some (a + b)
  | .sub => some (a - b)
  | .mul => some (a * b)
  | _ => none
theorem exec_bin {a : Act} {o : Oper} {op : BinOp} {t yt : Nat} {x y : Operand} (ho : o.op = .binOp op t x y yt) : execOp a.eval o = (do pure (.value (← binS op t x y (a.eval x) (a.eval y)))) := by
  obtain ⟨dst, op', type, pos, after, guard⟩ := o
  obtain rfl : op' = _ := ho
  rfl
theorem op_arith {op : BinOp} {t yt : Nat} {x y : Operand} {a b r : Int} (hx : ev σ x = some (.int .i64 a)) (hy : ev σ y = some (.int .i64 b)) (hr : arithV op a b = some r)
    (h1 : -9223372036854775808 ≤ r) (h2 : r ≤ 9223372036854775807) : OpQ P q n σ (.binOp op t x y yt) A (.int .i64 r) := opq_pure fun ac o hσ ho w => by
  have : (binS op t x y (.int .i64 a) (.int .i64 b)).run P w = .ok (.int .i64 r) w := by
    rw [binS_int]
    cases op <;> first | (cases hr; done) | (obtain rfl := Option.some.inj hr; simp only [binOp, ne_eq, not_true_eq_false, if_false, Op.intArith]; rw [wrap64_id h1 h2]; rfl)
  rw [exec_bin ho, hσ.ev hx, hσ.ev hy, Sem.run_bind, this]; rfl
theorem op_arithw {op : BinOp} {t yt : Nat} {x y : Operand} {a b r : Int} (hx : ev σ x = some (.int .i64 a)) (hy : ev σ y = some (.int .i64 b)) (hr : arithV op a b = some r) :
    OpQ P q n σ (.binOp op t x y yt) A (.int .i64 (IntKind.i64.wrap r)) := opq_pure fun ac o hσ ho w => by
  have : (binS op t x y (.int .i64 a) (.int .i64 b)).run P w = .ok (.int .i64 (IntKind.i64.wrap r)) w := by
    rw [binS_int]
    cases op <;> first | (cases hr; done) | (obtain rfl := Option.some.inj hr; simp only [binOp, ne_eq, not_true_eq_false, if_false, Op.intArith]; rfl)
  rw [exec_bin ho, hσ.ev hx, hσ.ev hy, Sem.run_bind, this]; rfl
theorem op_quo {t yt : Nat} {x y : Operand} {a b : Int} (hx : ev σ x = some (.int .i64 a)) (hy : ev σ y = some (.int .i64 b)) (h0 : 0 ≤ a) (hb : 0 < b) (h2 : a ≤ 9223372036854775807) :
    OpQ P q n σ (.binOp .quo t x y yt) A (.int .i64 (a / b)) := opq_pure fun ac o hσ ho w => by
  have hd : 0 ≤ a / b := Int.ediv_nonneg h0 (by omega)
  have hl : a / b ≤ a := Int.ediv_le_self b h0
  have : (binS .quo t x y (.int .i64 a) (.int .i64 b)).run P w = .ok (.int .i64 (a / b)) w := by
    rw [binS_int]
    simp only [binOp, ne_eq, not_true_eq_false, if_false, Op.intDiv]
    rw [if_neg (by omega), Int.tdiv_eq_ediv_of_nonneg h0, wrap64_id (by omega) (by omega)]; rfl
  rw [exec_bin ho, hσ.ev hx, hσ.ev hy, Sem.run_bind, this]; rfl
theorem op_rem {t yt : Nat} {x y : Operand} {k : IntKind} {a b : Int} (hx : ev σ x = some (.int k a)) (hy : ev σ y = some (.int k b)) (h0 : 0 ≤ a) (hb : 0 < b) :
    OpQ P q n σ (.binOp .rem t x y yt) A (.int k (a % b)) := opq_pure fun ac o hσ ho w => by
  have : (binS .rem t x y (.int k a) (.int k b)).run P w = .ok (.int k (a % b)) w := by
    rw [binS_int]
    simp only [binOp, ne_eq, not_true_eq_false, if_false, Op.intDiv]
    rw [if_neg (by omega), Int.tmod_eq_emod_of_nonneg h0]; rfl
  rw [exec_bin ho, hσ.ev hx, hσ.ev hy, Sem.run_bind, this]; rfl
theorem op_shl {t yt : Nat} {x y : Operand} {k j : IntKind} {a b : Int} (hx : ev σ x = some (.int k a)) (hy : ev σ y = some (.int j b)) (h0 : 0 ≤ b) :
    OpQ P q n σ (.binOp .shl t x y yt) A (.int k (k.wrap (a * 2 ^ min b.toNat k.bits))) := opq_pure fun ac o hσ ho w => by
  have : (binS .shl t x y (.int k a) (.int j b)).run P w = .ok (.int k (k.wrap (a * 2 ^ min b.toNat k.bits))) w := by
    rw [binS_int]
    simp only [binOp, Op.shift]
    rw [if_neg (by omega)]; rfl
  rw [exec_bin ho, hσ.ev hx, hσ.ev hy, Sem.run_bind, this]; rfl
theorem op_shr {t yt : Nat} {x y : Operand} {k j : IntKind} {a b : Int} (hx : ev σ x = some (.int k a)) (hy : ev σ y = some (.int j b)) (h0 : 0 ≤ b) :
    OpQ P q n σ (.binOp .shr t x y yt) A (.int k (a.fdiv (2 ^ min b.toNat k.bits))) := opq_pure fun ac o hσ ho w => by
  have : (binS .shr t x y (.int k a) (.int j b)).run P w = .ok (.int k (a.fdiv (2 ^ min b.toNat k.bits))) w := by
    rw [binS_int]
    simp only [binOp, Op.shift]
    rw [if_neg (by omega)]; rfl
  rw [exec_bin ho, hσ.ev hx, hσ.ev hy, Sem.run_bind, this]; rfl
theorem op_concat {t yt : Nat} {x y : Operand} {a b : ByteArray} (hx : ev σ x = some (.string a)) (hy : ev σ y = some (.string b)) (h : a.size + b.size ≤ 9223372036854775807) :
    OpQ P q n σ (.binOp .add t x y yt) A (.string (a ++ b)) := opq_pure fun ac o hσ ho w => by
  have : (binS .add t x y (.string a) (.string b)).run P w = .ok (.string (a ++ b)) w := by
    unfold binS; rw [Sem.run_bind, guard_string]
    simp only [binOp, Op.stringOp, Result.andThen]
    rw [if_neg (by
      have e : IntKind.i64.max = 9223372036854775807 := rfl
      rw [e]; omega)]; rfl
  rw [exec_bin ho, hσ.ev hx, hσ.ev hy, Sem.run_bind, this]; rfl
/-- A number becomes one of another kind and stays what it is. -/
theorem op_conv (hT : TabOk P T) {src dst : Nat} {x : Operand} {si di : TyI} {j k : IntKind} {a : Int} (hs : T src = some si) (hd : T dst = some di) (hk : di.und = .int k) (hx : ev σ x = some (.int j a)) (h : k.wrap a = a) :
    OpQ P q n σ (.convert src dst x) A (.int k a) := opq_pure fun ac o hσ ho w => by
  obtain ⟨dst', op, type, pos, after, guard⟩ := o
  obtain rfl : op = _ := ho
  rw [show execOp ac.eval _ = (do pure (.value (← convert src dst (ac.eval x)))) from rfl, hσ.ev hx]
  unfold convert
  simp only [Sem.run_bind, und_run hT hs, und_run hT hd, Result.andThen, hk]
  simp [Conv.intToInt, h]
theorem op_conv64 (hT : TabOk P T) {src dst : Nat} {x : Operand} {si di : TyI} {j : IntKind} {a : Int} (hs : T src = some si) (hd : T dst = some di) (hk : di.und = .int .i64) (hx : ev σ x = some (.int j a))
    (h1 : -9223372036854775808 ≤ a) (h2 : a ≤ 9223372036854775807) : OpQ P q n σ (.convert src dst x) A (.int .i64 a) := op_conv hT hs hd hk hx (wrap64_id h1 h2)
/-- The byte at a place of a text. -/
def bAt (s : ByteArray) (i : Nat) : Int := ((s.data.toList.getD i 0).toNat : Int)
theorem bAt_lt (s : ByteArray) (i : Nat) : 0 ≤ bAt s i ∧ bAt s i < 256 := by
  unfold bAt
  have := (s.data.toList.getD i 0).toNat_lt
  omega
theorem index_run (hT : TabOk P T) {t : Nat} {ti : TyI} (ht : T t = some ti) (hu : ti.und = .string) {s : ByteArray} {k : IntKind} {i : Int} (h0 : 0 ≤ i) (h1 : i < s.size) (w : World) :
    (Instr.index t (.string s) (.int k i)).run P w = .ok (.int .u8 (bAt s i.toNat)) w := by
  unfold Instr.index
  simp only [asIntOf, Sem.run_bind, Sem.run_pure, Result.andThen, und_run hT ht, hu]
  rw [if_pos h0]
  have hl : i.toNat < s.size := by omega
  have e : s[i.toNat]? = some s[i.toNat] := getElem?_pos s i.toNat hl
  simp only [e]
  have hl2 : i.toNat < s.data.toList.length := by simpa using hl
  have : s.data.toList.getD i.toNat 0 = s[i.toNat] := by
    rw [List.getD_eq_getElem?_getD, List.getElem?_eq_getElem hl2]; rfl
  unfold bAt
  rw [this]; rfl
theorem op_index (hT : TabOk P T) {t : Nat} {ti : TyI} {x y : Operand} {s : ByteArray} {k : IntKind} {i : Int} (hx : ev σ x = some (.string s)) (hy : ev σ y = some (.int k i)) (ht : T t = some ti) (hu : ti.und = .string)
    (h0 : 0 ≤ i) (h1 : i < s.size) : OpQ P q n σ (.index t x y) A (.int .u8 (bAt s i.toNat)) := opq_pure fun ac o hσ ho w => by
  obtain ⟨dst, op, type, pos, after, guard⟩ := o
  obtain rfl : op = _ := ho
  rw [show execOp ac.eval _ = (do pure (.value (← Instr.index t (ac.eval x) (ac.eval y)))) from rfl, hσ.ev hx, hσ.ev hy, Sem.run_bind, index_run hT ht hu h0 h1]; rfl
/-- The address of a place of a slice. -/
theorem op_indexAddr (hT : TabOk P T) {t e : Nat} {ti ei : TyI} {x y : Operand} {b o len cap : Nat} {k : IntKind} {i : Int} (hx : ev σ x = some (.slice (some ⟨b, o, none⟩) len cap)) (hy : ev σ y = some (.int k i)) (ht : T t = some ti)
    (hu : ti.und = .slice e) (he : T e = some ei) (h0 : 0 ≤ i) (h1 : i < len) : OpQ P q n σ (.indexAddr t x y) A (.pointer (some ⟨b, o + i.toNat * ei.size, none⟩)) := opq_pure fun ac op hσ ho w => by
  obtain ⟨dst, op, type, pos, after, guard⟩ := op
  obtain rfl : op = _ := ho
  rw [show execOp ac.eval _ = (do pure (.value (← Instr.indexAt t (ac.eval x) (ac.eval y)))) from rfl, hσ.ev hx, hσ.ev hy]
  unfold Instr.indexAt
  simp only [asIntOf, Sem.run_bind, Sem.run_pure, Result.andThen, und_run hT ht, hu]
  rw [if_pos ⟨h0, h1⟩]
  simp only [Sem.run_bind, size_run hT he, Result.andThen, Sem.run_pure, add_none]
theorem op_idx1 (hT : TabOk P T) {t e : Nat} {ti ei : TyI} {x y : Operand} {b len cap : Nat} {k : IntKind} {i : Int} (hx : ev σ x = some (.slice (some ⟨b, 0, none⟩) len cap)) (hy : ev σ y = some (.int k i)) (ht : T t = some ti)
    (hu : ti.und = .slice e) (he : T e = some ei) (hs : ei.size = 1) (h0 : 0 ≤ i) (h1 : i < len) : OpQ P q n σ (.indexAddr t x y) A (.pointer (some ⟨b, i.toNat, none⟩)) := by
  have := op_indexAddr (P := P) (q := q) (n := n) (A := A) hT hx hy ht hu he h0 h1
  rw [hs, Nat.zero_add, Nat.mul_one] at this
  exact this
theorem op_idxk (hT : TabOk P T) (kk : Nat) {t e : Nat} {ti ei : TyI} {x y : Operand} {b len cap : Nat} {k : IntKind} {i : Int} (hx : ev σ x = some (.slice (some ⟨b, 0, none⟩) len cap)) (hy : ev σ y = some (.int k i)) (ht : T t = some ti)
    (hu : ti.und = .slice e) (he : T e = some ei) (hs : ei.size = kk) (h0 : 0 ≤ i) (h1 : i < len) : OpQ P q n σ (.indexAddr t x y) A (.pointer (some ⟨b, i.toNat * kk, none⟩)) := by
  have := op_indexAddr (P := P) (q := q) (n := n) (A := A) hT hx hy ht hu he h0 h1
  rw [hs, Nat.zero_add] at this
  exact this
/-- The address of a place of an array. -/
theorem op_indexAddr_arr (hT : TabOk P T) {t e m : Nat} {ti ei : TyI} {x y : Operand} {b o : Nat} {k : IntKind} {i : Int} (hx : ev σ x = some (.pointer (some ⟨b, o, none⟩))) (hy : ev σ y = some (.int k i)) (ht : T t = some ti)
    (hu : ti.und = .array m e) (he : T e = some ei) (h0 : 0 ≤ i) (h1 : i < m) : OpQ P q n σ (.indexAddr t x y) A (.pointer (some ⟨b, o + i.toNat * ei.size, none⟩)) := opq_pure fun ac op hσ ho w => by
  obtain ⟨dst, op, type, pos, after, guard⟩ := op
  obtain rfl : op = _ := ho
  rw [show execOp ac.eval _ = (do pure (.value (← Instr.indexAt t (ac.eval x) (ac.eval y)))) from rfl, hσ.ev hx, hσ.ev hy]
  unfold Instr.indexAt
  simp only [asIntOf, Sem.run_bind, Sem.run_pure, Result.andThen, und_run hT ht, hu, Instr.sureAddr]
  rw [if_pos ⟨h0, h1⟩]
  simp only [Sem.run_bind, size_run hT he, Result.andThen, Sem.run_pure, add_none]
/-- Bounds of a cut. -/
def boundV (σ : Facts) (x : Option Operand) (d : Int) : Option Int :=
  match x with
  | none => some d
  | some x => match ev σ x with
    | some (.int _ i) => some i
    | _ => none
theorem sliceBounds_run {a : Act} (hσ : Holds n σ a) {lo hi : Option Operand} {len cap : Nat} {l h : Int} (hl : boundV σ lo 0 = some l) (hh : boundV σ hi len = some h) (h0 : 0 ≤ l) (h1 : l ≤ h) (h2 : h ≤ cap) (b : Bool) (w : World) :
    (Instr.sliceBounds b len cap (lo.map a.eval) (hi.map a.eval) none).run P w = .ok (l.toNat, h.toNat, cap) w := by
  have sb : ∀ (k : IntKind) (i : Int) (y : Nat) (code : BoundsCode), 0 ≤ i → i ≤ y → (Instr.sliceBound (.int k i) y code).run P w = .ok i.toNat w := fun k i y code g0 g1 => by
    unfold Instr.sliceBound
    simp only [asIntOf, Sem.run_bind, Sem.run_pure, Result.andThen]
    rw [if_pos ⟨g0, g1⟩]; rfl
  unfold Instr.sliceBounds
  have H : ∀ (r : Sem (Nat × Nat × Nat)), True := fun _ => trivial
  cases hi with
  | none =>
    obtain rfl := Option.some.inj hh
    cases lo with
    | none => obtain rfl := Option.some.inj hl; rfl
    | some x =>
      unfold boundV at hl
      simp only at hl
      split at hl
      · rename_i k i hx
        obtain rfl := Option.some.inj hl
        simp only [Option.map_none, Option.map_some, Sem.run_bind, Sem.run_pure, Result.andThen, hσ.ev hx]
        rw [sb _ _ _ _ h0 h1]; rfl
      · cases hl
  | some y =>
    unfold boundV at hh
    simp only at hh
    split at hh
    · rename_i k i hy
      obtain rfl := Option.some.inj hh
      cases lo with
      | none =>
        obtain rfl := Option.some.inj hl
        simp only [Option.map_none, Option.map_some, Sem.run_bind, Sem.run_pure, Result.andThen, hσ.ev hy]
        rw [sb _ _ _ _ h1 h2]; rfl
      | some x =>
        unfold boundV at hl
        simp only at hl
        split at hl
        · rename_i k2 i2 hx
          obtain rfl := Option.some.inj hl
          simp only [Option.map_some, Sem.run_bind, Sem.run_pure, Result.andThen, hσ.ev hy, hσ.ev hx]
          rw [sb _ _ _ _ (by omega) h2]
          simp only [Option.isSome_none, Bool.false_eq_true, if_false]
          rw [sb _ _ _ _ h0 (by omega)]
        · cases hl
    · cases hh
theorem op_slice_str (hT : TabOk P T) {t : Nat} {ti : TyI} {x : Operand} {lo hi : Option Operand} {s : ByteArray} {l h : Int} (hx : ev σ x = some (.string s)) (ht : T t = some ti) (hu : ti.und = .string)
    (hl : boundV σ lo 0 = some l) (hh : boundV σ hi s.size = some h) (h0 : 0 ≤ l) (h1 : l ≤ h) (h2 : h ≤ s.size) : OpQ P q n σ (.slice t x lo hi none) A (.string (s.extract l.toNat h.toNat)) := opq_pure fun ac o hσ ho w => by
  obtain ⟨dst, op, type, pos, after, guard⟩ := o
  obtain rfl : op = _ := ho
  rw [show execOp ac.eval _ = (do pure (.value (← Instr.sliceAt t (ac.eval x) (lo.map ac.eval) (hi.map ac.eval) none))) from rfl, hσ.ev hx]
  unfold Instr.sliceAt
  simp only [Sem.run_bind, und_run hT ht, hu, Result.andThen]
  unfold Instr.slice
  simp only [Sem.run_bind, und_run hT ht, hu, Result.andThen, Option.isSome_none, Bool.false_eq_true, if_false, Sem.run_pure]
  rw [sliceBounds_run hσ hl hh h0 h1 h2]
end
end Go.Proofs.Ytkmdajbhkfneaaa.VL
