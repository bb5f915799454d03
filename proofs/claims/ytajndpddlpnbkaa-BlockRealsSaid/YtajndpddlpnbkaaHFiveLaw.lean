/- five's limbs have the number's own value. -/
import Derived.Test.YtajndpddlpnbkaaHFive
import Derived.Test.YtajndpddlpnbkaaHCopy
namespace Go.Proofs.Ytajndpddlpnbkaa.B
open Go.RowKit Go.Proofs.YtajndpddlpnbkaaW.PrintWords Go.Proofs.Ytajndpddlpnbkaa.Spec
theorem le_digit : ∀ (ns : List Nat) (k : Nat), (∀ b ∈ ns, b < 256) → le ns / 256 ^ k % 256 = ns.getD k 0
  | [], k, _ => by simp [le]
  | b :: l, 0, h => by have := h b (by simp); simp [le]; omega
  | b :: l, k + 1, h => by
    have hb := h b (by simp)
    have ih := le_digit l k (fun x hx => h x (by simp [hx]))
    rw [le, Nat.pow_succ, Nat.mul_comm (256 ^ k) 256, ← Nat.div_div_eq_div_mul, show (b + 256 * le l) / 256 = le l from by omega, ih]
    simp
theorem le_lt : ∀ (ns : List Nat), (∀ b ∈ ns, b < 256) → le ns < 256 ^ ns.length
  | [], _ => by simp [le]
  | b :: l, h => by
    have hb := h b (by simp)
    have ih := le_lt l (fun x hx => h x (by simp [hx]))
    simp only [le, List.length_cons, Nat.pow_succ]
    omega
theorem bit_of_byte (x r : Nat) (hr : r < 8) : x % 256 / 2 ^ r % 2 = x / 2 ^ r % 2 := by
  rcases (show r = 0 ∨ r = 1 ∨ r = 2 ∨ r = 3 ∨ r = 4 ∨ r = 5 ∨ r = 6 ∨ r = 7 from by omega) with h | h | h | h | h | h | h | h <;> subst h <;> simp only [Nat.reducePow] <;> omega
theorem fbit_cast (ns : List Nat) (n : Nat) (h : ∀ b ∈ ns, b < 256) : fbit (cast ns) n = ((le ns / 2 ^ n % 2 : Nat) : Int) := by
  have hd := le_digit ns (n / 8) h
  have hlt : ns.getD (n / 8) 0 < 256 := by rw [← hd]; omega
  unfold fbit
  rw [el_cast, ← hd]
  have e1 : (((le ns / 256 ^ (n / 8) % 256 : Nat) : Int) / 2 ^ (n % 8)) = ((le ns / 256 ^ (n / 8) % 256 / 2 ^ (n % 8) : Nat) : Int) := by
    rw [Int.natCast_ediv]; simp
  rw [e1, show (1 : Int) = ((1 : Nat) : Int) from rfl, u8_and_nat _ _ (Nat.lt_of_le_of_lt (Nat.div_le_self _ _) (by omega)) (by omega), nat_mask1, bit_of_byte _ _ (by omega), Nat.div_div_eq_div_mul]
  congr 3
  rw [show (256 : Nat) = 2 ^ 8 from rfl, ← Nat.pow_mul, ← Nat.pow_add]
  congr 1
  omega
theorem facc_cast (ns : List Nat) (i : Nat) (h : ∀ b ∈ ns, b < 256) : ∀ j, j ≤ 26 → facc (cast ns) i j = ((le ns / 2 ^ (26 * i) % 2 ^ j : Nat) : Int)
  | 0, _ => by simp [facc, Nat.mod_one]
  | j + 1, hj => by
    have ih := facc_cast ns i h j (by omega)
    have hp : 2 ^ j ≤ 33554432 := by
      have := Nat.pow_le_pow_right (n := 2) (by omega) (show j ≤ 25 from by omega)
      exact this
    have hp0 : 0 < 2 ^ j := Nat.pow_pos (by omega)
    rw [facc, ih, fbit_cast ns _ h]
    generalize hx : le ns / 2 ^ (26 * i) = x
    have e2 : le ns / 2 ^ (26 * i + j) % 2 = x / 2 ^ j % 2 := by rw [Nat.pow_add, ← Nat.div_div_eq_div_mul, hx]
    rw [e2]
    generalize hy : x / 2 ^ j % 2 = y
    have hy2 : y < 2 := by omega
    have hml : x % 2 ^ j < 2 ^ j := Nat.mod_lt _ hp0
    have hyp : y * 2 ^ j ≤ 33554432 := by
      rcases (show y = 0 ∨ y = 1 from by omega) with h | h <;> subst h <;> omega
    have e3 : IntKind.u64.wrap (IntKind.u64.wrap ((y : Nat) : Int) * 2 ^ j) = ((y * 2 ^ j : Nat) : Int) := by
      rw [IntKind.wrap_u64 (y : Int), Int.emod_eq_of_lt (by omega) (by omega), IntKind.wrap_u64]
      have : (y : Int) * 2 ^ j = ((y * 2 ^ j : Nat) : Int) := by simp
      rw [this, Int.emod_eq_of_lt (by omega) (by omega)]
    rw [e3, u64_or_nat _ _ (by omega) (by omega)]
    congr 1
    rw [Nat.or_comm, nat_join j _ _ (by rw [Nat.mul_mod_left]) hml, Nat.mod_pow_succ, hy, Nat.mul_comm, Nat.add_comm]
theorem five_plain (ns : List Nat) (h : ∀ b ∈ ns, b < 256) (hl : ns.length = 17) (h16 : ns.getD 16 0 ≤ 3) :
    ∃ r0 r1 r2 r3 r4, fall (cast ns) 5 0 = [r0, r1, r2, r3, r4] ∧ Small 67108864 r0 r1 r2 r3 r4 ∧ val5 r0 r1 r2 r3 r4 = (le ns : Int) := by
  have e : fall (cast ns) 5 0 = [facc (cast ns) 0 26, facc (cast ns) 1 26, facc (cast ns) 2 26, facc (cast ns) 3 26, facc (cast ns) 4 26] := rfl
  have hN : le ns < 1361129467683753853853498429727072845824 := by
    have h1 := le_digit ns 16 h
    have h2 := le_lt ns h
    rw [hl] at h2
    have h3 : le ns / 256 ^ 16 < 256 := by rw [Nat.div_lt_iff_lt_mul (by decide)]; exact h2
    have h4 : le ns / 256 ^ 16 ≤ 3 := by omega
    have h5 : (256 : Nat) ^ 16 = 340282366920938463463374607431768211456 := by decide
    rw [h5] at h4
    omega
  refine ⟨_, _, _, _, _, e, ?_, ?_⟩
  · unfold Small
    simp only [facc_cast ns _ h 26 (by omega)]
    omega
  · simp only [facc_cast ns _ h 26 (by omega)]
    unfold val5
    simp only [Nat.reducePow, Nat.reduceMul]
    omega
theorem five_any (ns : List Nat) (w : World) (h : ∀ b ∈ ns, b < 256) (hl : ns.length = 17) (h16 : ns.getD 16 0 ≤ 3) :
    Calls Try.prog 96 #[.agg (nums .u8 (cast ns)).toArray] w fun e w' => ∃ r0 r1 r2 r3 r4, e = .returned (.agg #[.int .u64 r0, .int .u64 r1, .int .u64 r2, .int .u64 r3, .int .u64 r4]) ∧ Small 67108864 r0 r1 r2 r3 r4 ∧ val5 r0 r1 r2 r3 r4 = (le ns : Int) ∧ Below w.heap.size w w' := by
  obtain ⟨r0, r1, r2, r3, r4, e1, e2, e3⟩ := five_plain ns h hl h16
  refine (five_walk (cast ns) w (by rw [cast_length, hl]) (fun i hi => ?_)).mono ?_
  · rw [el_cast]
    have := le_digit ns i h
    omega
  · rintro e w' ⟨he, hb⟩
    refine ⟨r0, r1, r2, r3, r4, ?_, e2, e3, hb⟩
    rw [he, e1]
    rfl
end Go.Proofs.Ytajndpddlpnbkaa.B
