/- Operations that touch no memory, reckoned by a function on what is known of the frame. -/
import Derived.Test.YtkmdajbhkfneaaaVL3
import Derived.Laws.Entries
set_option linter.unusedVariables false
set_option linter.unusedSimpArgs false
namespace Go.Proofs.Ytkmdajbhkfneaaa.VL
open Go.RowKit View

/-- A type, as far as the operations ask. -/
structure TyI where
  und : TypeDesc
  size : Nat
  bytes : Nat
  zero : Option Value
def TabOk (P : Program) (T : Nat → Option TyI) : Prop :=
  ∀ t i, T t = some i → P.underlying t = some i.und ∧ ∃ j, P.info? t = some j ∧ j.size = i.size ∧ j.bytes = i.bytes ∧ j.zero = i.zero

def lookupT : List (Nat × TyI) → Nat → Option TyI
  | [], _ => none
  | (t, i) :: l, k => bif Nat.beq t k then some i else lookupT l k
def TyOk (P : Program) (t : Nat) (i : TyI) : Prop := P.underlying t = some i.und ∧ ∃ j, P.info? t = some j ∧ j.size = i.size ∧ j.bytes = i.bytes ∧ j.zero = i.zero
theorem info_of {P : Program} {t : Nat} {j : TypeInfo} (h : P.types[t]? = some j) : P.info? t = some j := by
  unfold Tables.info?; rw [if_pos (Array.getElem?_eq_some_iff.1 h).1, h]
inductive AllTy (P : Program) : List (Nat × TyI) → Prop
  | nil : AllTy P []
  | cons {t : Nat} {i : TyI} {l : List (Nat × TyI)} (h : TyOk P t i) (r : AllTy P l) : AllTy P ((t, i) :: l)
theorem AllTy.ok {P : Program} {l : List (Nat × TyI)} (h : AllTy P l) : TabOk P (lookupT l) := by
  intro t i e
  induction h with
  | nil => cases e
  | @cons t' i' l h _ ih =>
    unfold lookupT at e
    cases hb : Nat.beq t' t with
    | true => rw [hb] at e; obtain rfl := Option.some.inj e; rw [← Nat.eq_of_beq_eq_true hb]; exact h
    | false => rw [hb] at e; exact ih e
def wrapU (k : IntKind) (n : Int) : Option Int :=
  match k with
  | .u8 => some (n % 256)
  | .u16 => some (n % 65536)
  | .u32 => some (n % 4294967296)
  | .u64 => some (n % 18446744073709551616)
  | _ => none
theorem wrapU_eq {k : IntKind} {n r : Int} (h : wrapU k n = some r) : k.wrap n = r := by
  cases k <;> first | (cases h; done) | (obtain rfl := Option.some.inj h; rfl)
def bitsV (op : BinOp) (k : IntKind) (a b : Int) : Option Int :=
  match op with
  | .and => some (k.wrap (BitVec.ofInt k.bits a &&& BitVec.ofInt k.bits b).toNat)
  | .or => some (k.wrap (BitVec.ofInt k.bits a ||| BitVec.ofInt k.bits b).toNat)
  | .xor => some (k.wrap (BitVec.ofInt k.bits a ^^^ BitVec.ofInt k.bits b).toNat)
  | .andNot => some (k.wrap (BitVec.ofInt k.bits a &&& ~~~(BitVec.ofInt k.bits b)).toNat)
  | _ => none
def nilV (u v : Value) : Option Bool :=
  match u, v with
  | .pointer none, .pointer b => some b.isNone
  | .pointer (some _), .pointer none => some false
  | .slice none _ _, .slice b _ _ => some b.isNone
  | .slice (some _) _ _, .slice none _ _ => some false
  | .map none, .map b => some b.isNone
  | .map (some _), .map none => some false
  | _, _ => none
def isNilT (d : TypeDesc) (u : Value) : Bool :=
  match d, u with
  | .pointer _, .pointer _ => true
  | .slice _, .slice _ _ _ => true
  | .map _ _, .map _ => true
  | _, _ => false
def binV (T : Nat → Option TyI) (op : BinOp) (t : Nat) (u v : Value) : Option Value :=
  match op, u, v with
  | .eql, .int j a, .int k b => if j = k then some (.bool (decide (a = b))) else none
  | .neq, .int j a, .int k b => if j = k then some (.bool (decide (a ≠ b))) else none
  | .lss, .int j a, .int k b => if j = k then some (.bool (decide (a < b))) else none
  | .leq, .int j a, .int k b => if j = k then some (.bool (decide (a ≤ b))) else none
  | .gtr, .int j a, .int k b => if j = k then some (.bool (decide (b < a))) else none
  | .geq, .int j a, .int k b => if j = k then some (.bool (decide (b ≤ a))) else none
  | .eql, .string a, .string b => some (.bool (decide (a = b)))
  | .neq, .string a, .string b => some (.bool (decide (a ≠ b)))
  | .eql, .bool a, .bool b => match T t with | some ⟨.bool, _, _, _⟩ => some (.bool (a == b)) | _ => none
  | .neq, .bool a, .bool b => match T t with | some ⟨.bool, _, _, _⟩ => some (.bool (!(a == b))) | _ => none
  | .eql, u, v => match T t with
    | some i => bif isNilT i.und u then (match nilV u v with | some b => some (.bool b) | none => none) else none
    | none => none
  | .neq, u, v => match T t with
    | some i => bif isNilT i.und u then (match nilV u v with | some b => some (.bool !b) | none => none) else none
    | none => none
  | .add, .int j a, .int k b => if j = k then (match wrapU j (a + b) with | some r => some (.int j r) | none => none) else none
  | .sub, .int j a, .int k b => if j = k then (match wrapU j (a - b) with | some r => some (.int j r) | none => none) else none
  | .mul, .int j a, .int k b => if j = k then (match wrapU j (a * b) with | some r => some (.int j r) | none => none) else none
  | op, .int j a, .int k b => if j = k then (match bitsV op j a b with | some r => some (.int j r) | none => none) else none
  | _, _, _ => none
def evs (σ : Facts) : List Operand → List Value → Option (List Value)
  | [], acc => some acc.reverse
  | x :: xs, acc => match ev σ x with | some v => evs σ xs (v :: acc) | none => none
def nthV (l : List Value) (i : Nat) : Option Value :=
  match l, i with
  | v :: _, 0 => some v
  | _ :: l, i + 1 => nthV l i
  | [], _ => none
theorem nthV_eq (l : List Value) (i : Nat) : nthV l i = l[i]? := by
  induction l generalizing i with
  | nil => cases i <;> rfl
  | cons v l ih => cases i with
    | zero => rfl
    | succ i => simpa [nthV] using ih i
def nthF (l : List Field) (i : Nat) : Option Field :=
  match l, i with
  | v :: _, 0 => some v
  | _ :: l, i + 1 => nthF l i
  | [], _ => none
theorem nthF_eq (l : List Field) (i : Nat) : nthF l i = l[i]? := by
  induction l generalizing i with
  | nil => cases i <;> rfl
  | cons v l ih => cases i with
    | zero => rfl
    | succ i => simpa [nthF] using ih i
def fieldV (T : Nat → Option TyI) (s f : Nat) : Option (Nat × Nat) :=
  match T s with
  | some ⟨.struct ⟨fields⟩, _, _, _⟩ => match nthF fields f with
    | some ⟨_, type, offset, _, _, _, _⟩ => match T type with
      | some ⟨_, size, _, _⟩ => bif Nat.beq size 0 then none else some (offset, size)
      | none => none
    | none => none
  | _ => none
def isAggD : TypeDesc → Bool
  | .struct _ | .array _ _ => true
  | _ => false
def pureV (T : Nat → Option TyI) (σ : Facts) : Op → Option Value
  | .move x | .assign x => ev σ x
  | .pick c a b => match ev σ c with
    | some (.bool true) => ev σ a
    | some (.bool false) => ev σ b
    | _ => none
  | .binOp op t x y _ => match ev σ x, ev σ y with
    | some u, some v => binV T op t u v
    | _, _ => none
  | .unOp .not _ x => match ev σ x with
    | some (.bool b) => some (.bool !b)
    | _ => none
  | .extract x i => match ev σ x with
    | some (.tuple ⟨l⟩) => nthV l i
    | _ => none
  | .nilCheck x => match ev σ x with
    | some (.pointer (some a)) => some (.pointer (some a))
    | _ => none
  | .fieldAddr s x f => match fieldV T s f, ev σ x with
    | some (off, _), some (.pointer (some ⟨b, o, none⟩)) => match o with
      | 0 => some (.pointer (some ⟨b, off, none⟩))
      | o => some (.pointer (some ⟨b, o + off, none⟩))
    | _, _ => none
  | .call { callee := .builtin .len, args := ⟨[x]⟩, argTypes := ⟨[t]⟩ } => match T t, ev σ x with
    | some ⟨.string, _, _, _⟩, some (.string s) => some (.int .i64 s.size)
    | some ⟨.slice _, _, _, _⟩, some (.slice _ n _) => some (.int .i64 n)
    | some ⟨.array n _, _, _, _⟩, some _ => some (.int .i64 n)
    | _, _ => none
  | .makeFunc fn ⟨first⟩ ⟨captured⟩ => match evs σ first [], evs σ captured [] with
    | some l, some m => some (.func fn ⟨l⟩ ⟨m⟩)
    | _, _ => none
  | .convert src dst x => match T src, T dst, ev σ x with
    | some _, some ⟨.int k, _, _, _⟩, some (.int _ n) => match wrapU k n with
      | some r => some (.int k r)
      | none => none
    | some ⟨.string, _, _, _⟩, some ⟨.string, _, _, _⟩, some (.string s) => some (.string s)
    | _, _, _ => none
  | _ => none
end Go.Proofs.Ytkmdajbhkfneaaa.VL
