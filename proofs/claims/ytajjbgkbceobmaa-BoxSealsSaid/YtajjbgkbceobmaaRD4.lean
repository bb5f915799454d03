/- The reference's tag. -/
import Derived.Test.YtajjbgkbceobmaaRD3
import Derived.Test.YtajjbgkbceobmaaHClamped
import Derived.Test.YtajjbgkbceobmaaHTagLaw
set_option maxRecDepth 10000
set_option linter.unusedVariables false
namespace Go.Proofs.Ytajjbgkbceobmaa.V
open Go.Proofs.Ytajjbgkbceobmaa.VL Go.Proofs.Ytajjbgkbceobmaa.VL.RD
attribute [local irreducible] Run
theorem leU_le (l : List UInt8) : leU l = Spec.le (l.map UInt8.toNat) := by
  induction l with
  | nil => rfl
  | cons b l ih => simp [leU, Spec.le, ih]
theorem leU_lt (l : List UInt8) : leU l < 256 ^ l.length := by
  induction l with
  | nil => simp [leU]
  | cons b l ih =>
    have := b.toNat_lt
    simp only [leU, List.length_cons, Nat.pow_succ]
    omega
theorem leU_append (a b : List UInt8) : leU (a ++ b) = leU a + 256 ^ a.length * leU b := by
  induction a with
  | nil => simp [leU]
  | cons x a ih =>
    simp only [List.cons_append, leU, ih, List.length_cons, Nat.pow_succ]
    rw [Nat.mul_add, Nat.mul_comm (256 ^ a.length) 256, Nat.mul_assoc]; omega
theorem p130_eq : Spec.P130 = RD.P130 := rfl
theorem clamps_lt : ∀ (l : List Nat) (i : Nat), (∀ b ∈ l, b < 256) → ∀ b ∈ Spec.clamps i l, b < 256 := by
  intro l
  induction l with
  | nil => intro i _ b h; cases h
  | cons x l ih =>
    intro i h b hb
    simp only [Spec.clamps, List.mem_cons] at hb
    rcases hb with rfl | hb
    · have := h x (by simp)
      unfold Spec.clampAt; split
      · omega
      · split <;> omega
    · exact ih _ (fun z hz => h z (by simp [hz])) b hb
theorem leU_clamped (key : ByteArray) : leU (Spec.clampedF key).data.toList = Spec.polyR key := by
  rw [leU_le]
  unfold Spec.clampedF Spec.polyR
  have : ∀ l : List Nat, (∀ b ∈ l, b < 256) → (l.map UInt8.ofNat).map UInt8.toNat = l := by
    intro l hl
    rw [List.map_map]
    conv => rhs; rw [← List.map_id l]
    apply List.map_congr_left
    intro b hb
    simp only [Function.comp, id]
    rw [UInt8.toNat_ofNat']; exact Nat.mod_eq_of_lt (hl b hb)
  dsimp only
  rw [this]
  exact clamps_lt _ _ fun b hb => by
    have := List.mem_of_mem_take hb
    unfold Spec.nats at this
    obtain ⟨u, _, rfl⟩ := List.mem_map.1 this
    exact u.toNat_lt
theorem clamped_size (key : ByteArray) (h : key.size = 32) : (Spec.clampedF key).size = 16 := by
  have : ∀ (l : List Nat) i, (Spec.clamps i l).length = l.length := by
    intro l; induction l with
    | nil => intro i; rfl
    | cons x l ih => intro i; simp [Spec.clamps, ih]
  show ((Spec.clamps 0 ((Spec.nats key).take 16)).map UInt8.ofNat).toArray.size = 16
  simp only [List.size_toArray, List.length_map, this, List.length_take]
  unfold Spec.nats
  rw [List.length_map]
  have : key.data.toList.length = 32 := by rw [Array.length_toList]; exact h
  omega
theorem clamped_spec (q : View) (key : ByteArray) (hk : key.size = 32) : FnD Try.prog q 28 [.string key] [] (.string (Spec.clampedF key)) [] :=
  FnD.of_below Try.call28 fun w => B.clamped_walk key w hk
/-- The first bits of a number. -/
def bitsOf (N n : Nat) : List Nat := (List.range n).map fun k => N / 2 ^ k % 2
theorem bitsOf_length (N n : Nat) : (bitsOf N n).length = n := by simp [bitsOf]
theorem bitsOf_snoc (N n : Nat) : bitsOf N (n + 1) = bitsOf N n ++ [N / 2 ^ n % 2] := by simp [bitsOf, List.range_succ]
theorem bitsOf_at (N n k : Nat) (h : k < n) : (bitsOf N n)[k]? = some (N / 2 ^ k % 2) := by simp [bitsOf, List.getElem?_range h]
def bytesOf (N n : Nat) : List UInt8 := (List.range n).map fun k => UInt8.ofNat (N / 256 ^ k % 256)
theorem bytesOf_length (N n : Nat) : (bytesOf N n).length = n := by simp [bytesOf]
theorem bytesOf_snoc (N n : Nat) : bytesOf N (n + 1) = bytesOf N n ++ [UInt8.ofNat (N / 256 ^ n % 256)] := by simp [bytesOf, List.range_succ]
theorem leB_at (n k : Nat) : ∀ i, i < k → (Spec.leB n k)[i]? = some (UInt8.ofNat (n / 256 ^ i % 256)) := by
  induction k generalizing n with
  | zero => intro i h; omega
  | succ k ih =>
    intro i h
    unfold Spec.leB
    cases i with
    | zero => simp
    | succ i => rw [List.getElem?_cons_succ, ih _ i (by omega), Nat.div_div_eq_div_mul, Nat.pow_succ, Nat.mul_comm (256 ^ i)]
theorem leB_length (n k : Nat) : (Spec.leB n k).length = k := by
  induction k generalizing n with
  | zero => rfl
  | succ k ih => simp [Spec.leB, ih]
theorem bytesOf_leB (N n m : Nat) (hm : m = 256 ^ n) : bytesOf N n = Spec.leB (N % m) n := by
  subst hm
  apply List.ext_getElem?
  intro i
  rcases Nat.lt_or_ge i n with h | h
  · rw [leB_at _ _ i h]
    simp only [bytesOf, List.getElem?_map, List.getElem?_range h, Option.map_some]
    congr 2
    obtain ⟨d, rfl⟩ : ∃ d, n = i + (d + 1) := ⟨n - i - 1, by omega⟩
    rw [Nat.pow_add, Nat.mod_mul_right_div_self, Nat.pow_succ, Nat.mul_comm (256 ^ d), Nat.mod_mul_right_mod]
  · rw [List.getElem?_eq_none (by rw [bytesOf_length]; exact h), List.getElem?_eq_none (by rw [leB_length]; exact h)]
end Go.Proofs.Ytajjbgkbceobmaa.V
