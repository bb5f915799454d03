/- Plain laws of the reference's key stream: it is the specification's. -/
import Derived.Test.YtajjbgkbceobmaaBx8
import Derived.Test.YtajjbgkbceobmaaHBoxLaw
import Derived.Test.YtajjbgkbceobmaaHQuarter
import Derived.Test.YtajjbgkbceobmaaPureBoxSames
namespace Go.Proofs.Ytajjbgkbceobmaa.Pure
open Go.RowKit Go.Proofs.Ytajjbgkbceobmaa.B Go.Proofs.Ytajjbgkbceobmaa.Spec Go.Proofs.YtajjbgkbceobmaaW.PrintWords Go.Proofs.YtajjbgkbceobmaaW.PrintLast Go.Proofs.YtajjbgkbceobmaaW.PrintMore
set_option linter.unusedVariables false
section
theorem ofInt64 (a : Nat) (ha : a < 9223372036854775808) : (BitVec.ofInt 64 (a : Int)).toNat = a := by
  rw [BitVec.ofInt_natCast, BitVec.toNat_ofNat]; exact Nat.mod_eq_of_lt (by omega)
theorem i64_and_nat (a b : Nat) (ha : a < 9223372036854775808) (hb : b < 9223372036854775808) : bits .and .i64 (a : Int) (b : Int) = ((a &&& b : Nat) : Int) := by
  have hx : a &&& b < 2 ^ 63 := Nat.and_lt_two_pow _ (by omega)
  show IntKind.i64.wrap ((BitVec.ofInt 64 (a : Int) &&& BitVec.ofInt 64 (b : Int)).toNat : Int) = _
  rw [BitVec.toNat_and, ofInt64 a ha, ofInt64 b hb, IntKind.wrap_i64]
  omega
theorem i64_or_nat (a b : Nat) (ha : a < 9223372036854775808) (hb : b < 9223372036854775808) : bits .or .i64 (a : Int) (b : Int) = ((a ||| b : Nat) : Int) := by
  have hx : a ||| b < 2 ^ 63 := Nat.or_lt_two_pow (by omega) (by omega)
  show IntKind.i64.wrap ((BitVec.ofInt 64 (a : Int) ||| BitVec.ofInt 64 (b : Int)).toNat : Int) = _
  rw [BitVec.toNat_or, ofInt64 a ha, ofInt64 b hb, IntKind.wrap_i64]
  omega
theorem i64_xor_nat (a b : Nat) (ha : a < 9223372036854775808) (hb : b < 9223372036854775808) : bits .xor .i64 (a : Int) (b : Int) = ((a ^^^ b : Nat) : Int) := by
  have hx : a ^^^ b < 2 ^ 63 := Nat.xor_lt_two_pow (by omega) (by omega)
  show IntKind.i64.wrap ((BitVec.ofInt 64 (a : Int) ^^^ BitVec.ofInt 64 (b : Int)).toNat : Int) = _
  rw [BitVec.toNat_xor, ofInt64 a ha, ofInt64 b hb, IntKind.wrap_i64]
  omega
end
theorem wrap64_nat (a : Nat) (h : a < 9223372036854775808) : wrap64 (a : Int) = (a : Int) := by unfold wrap64; omega
theorem low_f (a : Nat) (h : a < 9223372036854775808) : grapnelref03_low.f (a : Int) = some ((a % M32 : Nat) : Int) := by
  unfold grapnelref03_low.f
  rw [show (4294967295 : Int) = ((4294967295 : Nat) : Int) from rfl, i64_and_nat a _ h (by omega)]
  congr 2
  exact Nat.and_two_pow_sub_one_eq_mod a 32
theorem left_f (x n : Nat) (hx : x < M32) (h0 : 0 < n) (hn : n < 32) : grapnelref03_left.f (x : Int) (n : Int) = some ((rotl x n : Nat) : Int) := by
  unfold M32 at hx
  have e1 : wrap64 (32 - (n : Int)) = ((32 - n : Nat) : Int) := by unfold wrap64; omega
  have hp : x * 2 ^ n < 9223372036854775808 := by
    have h1 : 2 ^ n ≤ 2 ^ 31 := Nat.pow_le_pow_right (by omega) (by omega)
    calc x * 2 ^ n ≤ 4294967295 * 2 ^ 31 := Nat.mul_le_mul (by omega) h1
      _ < 9223372036854775808 := by decide
  have hd : x / 2 ^ (32 - n) < 4294967296 := Nat.lt_of_le_of_lt (Nat.div_le_self _ _) hx
  have e2 : shl .i64 (x : Int) (n : Int) = ((x * 2 ^ n : Nat) : Int) := by
    unfold shl
    rw [Int.toNat_natCast, show min n IntKind.i64.bits = n from Nat.min_eq_left (by show n ≤ 64; omega), IntKind.wrap_i64]
    have : ((x : Int) * 2 ^ n) = ((x * 2 ^ n : Nat) : Int) := by push_cast; rfl
    rw [this]
    omega
  have e3 : shr .i64 (x : Int) ((32 - n : Nat) : Int) = ((x / 2 ^ (32 - n) : Nat) : Int) := by
    unfold shr
    rw [Int.toNat_natCast, show min (32 - n) IntKind.i64.bits = 32 - n from Nat.min_eq_left (by show 32 - n ≤ 64; omega)]
    push_cast
    rfl
  unfold grapnelref03_left.f
  rw [if_pos (by omega), e1, if_pos (by omega), e2, e3, i64_or_nat _ _ hp (by omega), low_f _ (Nat.or_lt_two_pow (n := 63) hp (by omega)), Option.bind_some]
  congr 2
  show (x * 2 ^ n ||| x / 2 ^ (32 - n)) % 2 ^ 32 = _
  rw [Nat.or_mod_two_pow]
  unfold rotl
  rw [Nat.mod_eq_of_lt (show x / 2 ^ (32 - n) < 2 ^ 32 by omega)]
  rfl
theorem rd_cast (x : List Nat) (i : Nat) : rd (cast x) (i : Int) = ((at_ x i : Nat) : Int) := by
  unfold rd at_ B.cast
  rw [Int.toNat_natCast, List.getD_eq_getElem?_getD, List.getD_eq_getElem?_getD, List.getElem?_map]
  cases x[i]? <;> rfl
theorem cast_length (x : List Nat) : (cast x).length = x.length := List.length_map _
section
variable {x : List Nat} (hx : ∀ v ∈ x, v < M32)
include hx
theorem add_step (a b : Nat) : grapnelref03_low.f (wrap64 (rd (cast x) (a : Int) + rd (cast x) (b : Int))) = some (((at_ x a + at_ x b) % M32 : Nat) : Int) := by
  have h1 := at_lt hx a
  have h2 := at_lt hx b
  unfold M32 at h1 h2
  rw [rd_cast, rd_cast, show ((at_ x a : Nat) : Int) + ((at_ x b : Nat) : Int) = ((at_ x a + at_ x b : Nat) : Int) by push_cast; rfl, wrap64_nat _ (by omega), low_f _ (by omega)]
theorem xor_step (a b n : Nat) (h0 : 0 < n) (hn : n < 32) : grapnelref03_left.f (bits .xor .i64 (rd (cast x) (a : Int)) (rd (cast x) (b : Int))) (n : Int) = some ((rotl (at_ x a ^^^ at_ x b) n : Nat) : Int) := by
  have h1 := at_lt hx a
  have h2 := at_lt hx b
  have h3 := xor32_lt h1 h2
  unfold M32 at h1 h2
  rw [rd_cast, rd_cast, i64_xor_nat _ _ (by omega) (by omega), left_f _ n h3 h0 hn]
theorem quarter_f (hl : x.length = 16) (a b c d : Nat) (ha : a < 16) (hb : b < 16) (hc : c < 16) (hd : d < 16) :
    grapnelref03_quarter.f (cast x) (a : Int) (b : Int) (c : Int) (d : Int) = some (cast (qr x a b c d)) := by
  unfold grapnelref03_quarter.f
  rw [Option.bind_some, if_pos (by rw [cast_length]; simp [hl]), Option.bind_some, List.nil_append]
  have hlen : ((cast x).length : Int) = 16 := by rw [cast_length, hl]; rfl
  rw [hlen, if_pos (by omega), if_pos (by omega), if_pos (by omega), if_pos (by omega)]
  have q1 := hx
  rw [add_step q1 a b, Option.bind_some, Option.bind_some, Int.toNat_natCast, ← cast_set, if_pos (by omega), if_pos (by omega)]
  have q2 := set_lt q1 a _ (mod32_lt (at_ x a) (at_ x b))
  generalize e2 : x.set a ((at_ x a + at_ x b) % M32) = x2 at q2 ⊢
  have s2 := xor_step q2 d a 16 (by omega) (by omega)
  rw [show ((16 : Nat) : Int) = 16 from rfl] at s2
  rw [s2, Option.bind_some, Option.bind_some, Int.toNat_natCast, ← cast_set, if_pos (by omega), if_pos (by omega)]
  have q3 := set_lt q2 d _ (rotl_lt _ 16 (xor32_lt (at_lt q2 d) (at_lt q2 a)))
  generalize e3 : x2.set d (rotl (at_ x2 d ^^^ at_ x2 a) 16) = x3 at q3 ⊢
  rw [add_step q3 c d, Option.bind_some, Option.bind_some, Int.toNat_natCast, ← cast_set]
  have q4 := set_lt q3 c _ (mod32_lt (at_ x3 c) (at_ x3 d))
  generalize e4 : x3.set c ((at_ x3 c + at_ x3 d) % M32) = x4 at q4 ⊢
  have s4 := xor_step q4 b c 12 (by omega) (by omega)
  rw [show ((12 : Nat) : Int) = 12 from rfl] at s4
  rw [s4, Option.bind_some, Option.bind_some, Int.toNat_natCast, ← cast_set]
  have q5 := set_lt q4 b _ (rotl_lt _ 12 (xor32_lt (at_lt q4 b) (at_lt q4 c)))
  generalize e5 : x4.set b (rotl (at_ x4 b ^^^ at_ x4 c) 12) = x5 at q5 ⊢
  rw [add_step q5 a b, Option.bind_some, Option.bind_some, ← cast_set]
  have q6 := set_lt q5 a _ (mod32_lt (at_ x5 a) (at_ x5 b))
  generalize e6 : x5.set a ((at_ x5 a + at_ x5 b) % M32) = x6 at q6 ⊢
  have s6 := xor_step q6 d a 8 (by omega) (by omega)
  rw [show ((8 : Nat) : Int) = 8 from rfl] at s6
  rw [s6, Option.bind_some, Option.bind_some, ← cast_set]
  have q7 := set_lt q6 d _ (rotl_lt _ 8 (xor32_lt (at_lt q6 d) (at_lt q6 a)))
  generalize e7 : x6.set d (rotl (at_ x6 d ^^^ at_ x6 a) 8) = x7 at q7 ⊢
  rw [add_step q7 c d, Option.bind_some, Option.bind_some, ← cast_set]
  have q8 := set_lt q7 c _ (mod32_lt (at_ x7 c) (at_ x7 d))
  generalize e8 : x7.set c ((at_ x7 c + at_ x7 d) % M32) = x8 at q8 ⊢
  have s8 := xor_step q8 b c 7 (by omega) (by omega)
  rw [show ((7 : Nat) : Int) = 7 from rfl] at s8
  rw [s8, Option.bind_some, ← cast_set]
  subst e2 e3 e4 e5 e6 e7 e8
  rfl
end
theorem qr_length (x : List Nat) (a b c d : Nat) : (qr x a b c d).length = x.length := by simp [qr]
theorem set_sum {x : List Nat} (hx : ∀ v ∈ x, v < M32) (a b c : Nat) : ∀ v ∈ x.set a ((at_ x b + at_ x c) % M32), v < M32 := set_lt hx a _ (mod32_lt _ _)
theorem set_rot {x : List Nat} (hx : ∀ v ∈ x, v < M32) (a b c n : Nat) : ∀ v ∈ x.set a (rotl (at_ x b ^^^ at_ x c) n), v < M32 := set_lt hx a _ (rotl_lt _ n (xor32_lt (at_lt hx b) (at_lt hx c)))
theorem qr_lt {x : List Nat} (hx : ∀ v ∈ x, v < M32) (a b c d : Nat) : ∀ v ∈ qr x a b c d, v < M32 :=
  set_rot (set_sum (set_rot (set_sum (set_rot (set_sum (set_rot (set_sum hx a a b) d d a 16) c c d) b b c 12) a a b) d d a 8) c c d) b b c 7
theorem dround_def (x : List Nat) : dround x = qr (qr (qr (qr (qr (qr (qr (qr x 0 4 8 12) 1 5 9 13) 2 6 10 14) 3 7 11 15) 0 5 10 15) 1 6 11 12) 2 7 8 13) 3 4 9 14 := rfl
theorem dround_ok {x : List Nat} (hl : x.length = 16) (hx : ∀ v ∈ x, v < M32) : (dround x).length = 16 ∧ ∀ v ∈ dround x, v < M32 := by
  rw [dround_def]
  refine ⟨by rw [qr_length, qr_length, qr_length, qr_length, qr_length, qr_length, qr_length, qr_length, hl], ?_⟩
  apply qr_lt
  apply qr_lt
  apply qr_lt
  apply qr_lt
  apply qr_lt
  apply qr_lt
  apply qr_lt
  apply qr_lt
  exact hx
theorem l1_step (s : List Int) (x : List Nat) (hl : x.length = 16) (hx : ∀ v ∈ x, v < M32) (k : Nat) (i : Nat) (hi : i < 10) :
    grapnelref03_Block.l1 (k + 1) s (cast x) (i : Int) = grapnelref03_Block.l1 k s (cast (dround x)) ((i + 1 : Nat) : Int) := by
  rw [grapnelref03_Block.l1, if_pos (by omega)]
  have h1 := hx
  have c1 : grapnelref03_quarter.f (cast x) 0 4 8 12 = some (cast (qr x 0 4 8 12)) := quarter_f h1 hl 0 4 8 12 (by omega) (by omega) (by omega) (by omega)
  have h2 := qr_lt h1 0 4 8 12
  have l2 : (qr x 0 4 8 12).length = 16 := by rw [qr_length, hl]
  rw [c1, Option.bind_some]
  generalize e2 : qr x 0 4 8 12 = x2 at h2 l2 ⊢
  have c2 : grapnelref03_quarter.f (cast x2) 1 5 9 13 = some (cast (qr x2 1 5 9 13)) := quarter_f h2 l2 1 5 9 13 (by omega) (by omega) (by omega) (by omega)
  have h3 := qr_lt h2 1 5 9 13
  have l3 : (qr x2 1 5 9 13).length = 16 := by rw [qr_length, l2]
  rw [c2, Option.bind_some]
  generalize e3 : qr x2 1 5 9 13 = x3 at h3 l3 ⊢
  have c3 : grapnelref03_quarter.f (cast x3) 2 6 10 14 = some (cast (qr x3 2 6 10 14)) := quarter_f h3 l3 2 6 10 14 (by omega) (by omega) (by omega) (by omega)
  have h4 := qr_lt h3 2 6 10 14
  have l4 : (qr x3 2 6 10 14).length = 16 := by rw [qr_length, l3]
  rw [c3, Option.bind_some]
  generalize e4 : qr x3 2 6 10 14 = x4 at h4 l4 ⊢
  have c4 : grapnelref03_quarter.f (cast x4) 3 7 11 15 = some (cast (qr x4 3 7 11 15)) := quarter_f h4 l4 3 7 11 15 (by omega) (by omega) (by omega) (by omega)
  have h5 := qr_lt h4 3 7 11 15
  have l5 : (qr x4 3 7 11 15).length = 16 := by rw [qr_length, l4]
  rw [c4, Option.bind_some]
  generalize e5 : qr x4 3 7 11 15 = x5 at h5 l5 ⊢
  have c5 : grapnelref03_quarter.f (cast x5) 0 5 10 15 = some (cast (qr x5 0 5 10 15)) := quarter_f h5 l5 0 5 10 15 (by omega) (by omega) (by omega) (by omega)
  have h6 := qr_lt h5 0 5 10 15
  have l6 : (qr x5 0 5 10 15).length = 16 := by rw [qr_length, l5]
  rw [c5, Option.bind_some]
  generalize e6 : qr x5 0 5 10 15 = x6 at h6 l6 ⊢
  have c6 : grapnelref03_quarter.f (cast x6) 1 6 11 12 = some (cast (qr x6 1 6 11 12)) := quarter_f h6 l6 1 6 11 12 (by omega) (by omega) (by omega) (by omega)
  have h7 := qr_lt h6 1 6 11 12
  have l7 : (qr x6 1 6 11 12).length = 16 := by rw [qr_length, l6]
  rw [c6, Option.bind_some]
  generalize e7 : qr x6 1 6 11 12 = x7 at h7 l7 ⊢
  have c7 : grapnelref03_quarter.f (cast x7) 2 7 8 13 = some (cast (qr x7 2 7 8 13)) := quarter_f h7 l7 2 7 8 13 (by omega) (by omega) (by omega) (by omega)
  have h8 := qr_lt h7 2 7 8 13
  have l8 : (qr x7 2 7 8 13).length = 16 := by rw [qr_length, l7]
  rw [c7, Option.bind_some]
  generalize e8 : qr x7 2 7 8 13 = x8 at h8 l8 ⊢
  have c8 : grapnelref03_quarter.f (cast x8) 3 4 9 14 = some (cast (qr x8 3 4 9 14)) := quarter_f h8 l8 3 4 9 14 (by omega) (by omega) (by omega) (by omega)
  rw [c8, Option.bind_some]
  have ew : wrap64 ((i : Int) + 1) = ((i + 1 : Nat) : Int) := by unfold wrap64; omega
  rw [ew]
  subst e2 e3 e4 e5 e6 e7 e8
  rfl
theorem l1_all (s : List Int) : ∀ (c i : Nat) (x : List Nat) (k : Nat), i + c = 10 → x.length = 16 → (∀ v ∈ x, v < M32) →
    grapnelref03_Block.l1 (c + 1 + k) s (cast x) (i : Int) = grapnelref03_Block.l2 k s (cast (Spec.rounds c x)) [] 0 := by
  intro c
  induction c with
  | zero =>
    intro i x k hi hl hx
    rw [show 0 + 1 + k = k + 1 by omega, grapnelref03_Block.l1, if_neg (by omega)]
    rfl
  | succ c ih =>
    intro i x k hi hl hx
    obtain ⟨h1, h2⟩ := dround_ok hl hx
    rw [show c + 1 + 1 + k = (c + 1 + k) + 1 by omega, l1_step s x hl hx _ i (by omega), ih (i + 1) (dround x) k (by omega) h1 h2]
    rfl
theorem word_bytes (t : Nat) (h : t < M32) : ([(Go.bits .and .i64 (t : Int) 255) % 256, (Go.bits .and .i64 ((t : Int) / 256) 255) % 256, (Go.bits .and .i64 ((t : Int) / 65536) 255) % 256, ((t : Int) / 16777216) % 256] : List Int) = cast (wordBytes t) := by
  unfold M32 at h
  have a : ∀ n : Nat, n < 4294967296 → Go.bits .and .i64 (n : Int) 255 = ((n % 256 : Nat) : Int) := by
    intro n hn
    rw [show (255 : Int) = ((255 : Nat) : Int) from rfl, i64_and_nat n 255 (by omega) (by omega)]
    congr 1
    exact Nat.and_two_pow_sub_one_eq_mod n 8
  rw [show (t : Int) / 256 = ((t / 256 : Nat) : Int) by omega, show (t : Int) / 65536 = ((t / 65536 : Nat) : Int) by omega, show (t : Int) / 16777216 = ((t / 16777216 : Nat) : Int) by omega, a t (by omega), a (t / 256) (by omega), a (t / 65536) (by omega)]
  have r : B.cast (wordBytes t) = [((t % 256 : Nat) : Int), ((t / 256 % 256 : Nat) : Int), ((t / 65536 % 256 : Nat) : Int), ((t / 16777216 % 256 : Nat) : Int)] := rfl
  rw [r]
  have z1 : ((t % 256 : Nat) : Int) % 256 = ((t % 256 : Nat) : Int) := by omega
  have z2 : ((t / 256 % 256 : Nat) : Int) % 256 = ((t / 256 % 256 : Nat) : Int) := by omega
  have z3 : ((t / 65536 % 256 : Nat) : Int) % 256 = ((t / 65536 % 256 : Nat) : Int) := by omega
  have z4 : ((t / 16777216 : Nat) : Int) % 256 = ((t / 16777216 % 256 : Nat) : Int) := by omega
  rw [z1, z2, z3, z4]
theorem l2_all (s r : List Nat) (hs : s.length = 16) (hr : r.length = 16) (ls : ∀ v ∈ s, v < M32) (lr : ∀ v ∈ r, v < M32) : ∀ (c i k : Nat), i + c = 16 →
    grapnelref03_Block.l2 (c + 1 + k) (cast s) (cast r) (cast (((List.range i).map fun j => (at_ r j + at_ s j) % M32).flatMap wordBytes)) (i : Int) = some (strOfNums (cast (((List.range 16).map fun j => (at_ r j + at_ s j) % M32).flatMap wordBytes))) := by
  intro c
  induction c with
  | zero =>
    intro i k hi
    obtain rfl : i = 16 := by omega
    rw [show 0 + 1 + k = k + 1 by omega, grapnelref03_Block.l2, if_neg (by omega)]
  | succ c ih =>
    intro i k hi
    have h1 := at_lt ls i
    have h2 := at_lt lr i
    have hl : (((List.range i).map fun j => (at_ r j + at_ s j) % M32).flatMap wordBytes).length = 4 * i := by
      generalize (fun j => (at_ r j + at_ s j) % M32) = f
      clear ih hi h1 h2
      induction i with
      | zero => rfl
      | succ i ih => rw [List.range_succ, List.map_append, List.flatMap_append, List.length_append, ih]; simp [wordBytes]; omega
    unfold M32 at h1 h2
    rw [show c + 1 + 1 + k = (c + 1 + k) + 1 by omega, grapnelref03_Block.l2, if_pos (by omega), if_pos (by omega), if_pos (by rw [cast_length, hr]; omega), if_pos (by rw [cast_length, hs]; omega)]
    rw [rd_cast, rd_cast, show ((at_ r i : Nat) : Int) + ((at_ s i : Nat) : Int) = ((at_ r i + at_ s i : Nat) : Int) by push_cast; rfl, wrap64_nat _ (by omega), low_f _ (by omega), Option.bind_some, word_bytes _ (mod32_lt _ _), Option.bind_some]
    rw [if_pos (by rw [cast_length, cast_length, hl]; simp [wordBytes]; omega)]
    have ew : wrap64 ((i : Int) + 1) = ((i + 1 : Nat) : Int) := by unfold wrap64; omega
    rw [ew, ← ih (i + 1) k (by omega)]
    congr 1
    rw [List.range_succ, List.map_append, List.flatMap_append]
    unfold B.cast
    rw [List.map_append]
    simp
theorem word_f (s : ByteArray) (i : Nat) (h : i + 3 < s.size) (hi : i < 1000) : grapnelref03_word.f s (i : Int) = some ((Spec.word (nats s) i : Nat) : Int) := by
  have l0 := byteAt_lt s i
  have l1 := byteAt_lt s (i + 1)
  have l2 := byteAt_lt s (i + 2)
  have l3 := byteAt_lt s (i + 3)
  have w1 : wrap64 ((i : Int) + 1) = ((i + 1 : Nat) : Int) := by unfold wrap64; omega
  have w2 : wrap64 ((i : Int) + 2) = ((i + 2 : Nat) : Int) := by unfold wrap64; omega
  have w3 : wrap64 ((i : Int) + 3) = ((i + 3 : Nat) : Int) := by unfold wrap64; omega
  unfold grapnelref03_word.f
  rw [w1, w2, w3, if_pos (by omega), if_pos (by omega), if_pos (by omega), if_pos (by omega), if_pos (by omega), if_pos (by omega), if_pos (by omega), if_pos (by omega)]
  rw [bt_nat s i (by omega), bt_nat s (i + 1) (by omega), bt_nat s (i + 2) (by omega), bt_nat s (i + 3) (by omega)]
  have e : Spec.word (nats s) i = byteAt s i + 256 * byteAt s (i + 1) + 65536 * byteAt s (i + 2) + 16777216 * byteAt s (i + 3) := rfl
  rw [e]
  generalize byteAt s i = a at l0 ⊢
  generalize byteAt s (i + 1) = b at l1 ⊢
  generalize byteAt s (i + 2) = c at l2 ⊢
  generalize byteAt s (i + 3) = d at l3 ⊢
  have q1 : wrap64 ((b : Int) * 256) = ((256 * b : Nat) : Int) := by unfold wrap64; omega
  have q2 : wrap64 ((c : Int) * 65536) = ((65536 * c : Nat) : Int) := by unfold wrap64; omega
  have q3 : wrap64 ((d : Int) * 16777216) = ((16777216 * d : Nat) : Int) := by unfold wrap64; omega
  rw [wrap64_nat a (by omega), wrap64_nat b (by omega), wrap64_nat c (by omega), wrap64_nat d (by omega), q1, q2, q3]
  have s1 : (a : Int) + ((256 * b : Nat) : Int) = ((a + 256 * b : Nat) : Int) := by omega
  rw [s1, wrap64_nat _ (by omega)]
  have s2 : ((a + 256 * b : Nat) : Int) + ((65536 * c : Nat) : Int) = ((a + 256 * b + 65536 * c : Nat) : Int) := by omega
  rw [s2, wrap64_nat _ (by omega)]
  have s3 : ((a + 256 * b + 65536 * c : Nat) : Int) + ((16777216 * d : Nat) : Int) = ((a + 256 * b + 65536 * c + 16777216 * d : Nat) : Int) := by omega
  rw [s3, wrap64_nat _ (by omega)]
def wordsOf (s : ByteArray) (i : Nat) : List Nat := (List.range i).map fun j => Spec.word (nats s) (4 * j)
theorem wordsOf_succ (s : ByteArray) (i : Nat) : wordsOf s (i + 1) = wordsOf s i ++ [Spec.word (nats s) (4 * i)] := by unfold wordsOf; rw [List.range_succ, List.map_append]; rfl
theorem wordsOf_length (s : ByteArray) (i : Nat) : (wordsOf s i).length = i := by simp [wordsOf]
def sigma : List Nat := [1634760805, 857760878, 2036477234, 1797285236]
theorem cast_append (a b : List Nat) : B.cast (a ++ b) = B.cast a ++ B.cast b := List.map_append
theorem l0_all (key nonce : ByteArray) (n : Nat) (hk : key.size = 32) (hc : nonce.size = 12) (hn : n < M32) : ∀ (c i k : Nat), i + c = 8 →
    grapnelref03_Block.l0 (c + 1 + k) key nonce (n : Int) (B.cast (sigma ++ wordsOf key i)) (i : Int) = grapnelref03_Block.l1 k (B.cast (state key nonce n)) (B.cast (state key nonce n)) 0 := by
  intro c
  induction c with
  | zero =>
    intro i k hi
    obtain rfl : i = 8 := by omega
    have c0 : grapnelref03_word.f nonce 0 = some ((Spec.word (nats nonce) 0 : Nat) : Int) := word_f nonce 0 (by omega) (by omega)
    have c1 : grapnelref03_word.f nonce 4 = some ((Spec.word (nats nonce) 4 : Nat) : Int) := word_f nonce 4 (by omega) (by omega)
    have c2 : grapnelref03_word.f nonce 8 = some ((Spec.word (nats nonce) 8 : Nat) : Int) := word_f nonce 8 (by omega) (by omega)
    have es : B.cast (sigma ++ wordsOf key 8) ++ [(n : Int), ((Spec.word (nats nonce) 0 : Nat) : Int), ((Spec.word (nats nonce) 4 : Nat) : Int), ((Spec.word (nats nonce) 8 : Nat) : Int)] = B.cast (state key nonce n) := by
      unfold M32 at hn
      have e : state key nonce n = (sigma ++ wordsOf key 8) ++ [n, Spec.word (nats nonce) 0, Spec.word (nats nonce) 4, Spec.word (nats nonce) 8] := by
        unfold state
        rw [Nat.mod_eq_of_lt (show n < M32 from hn), List.append_assoc]
        rfl
      rw [e, cast_append]
      rfl
    have el : (B.cast (sigma ++ wordsOf key 8)).length = 12 := by rw [cast_length, List.length_append, wordsOf_length]; rfl
    rw [show 0 + 1 + k = k + 1 by omega, grapnelref03_Block.l0, if_neg (by omega), c0, Option.bind_some, c1, Option.bind_some, c2, Option.bind_some, Option.bind_some, if_pos (by rw [el]; simp), Option.bind_some, Option.bind_some, es, List.nil_append]
    rw [if_pos]
    rw [cast_length]
    have : (state key nonce n).length = 16 := by simp [state]
    rw [this]; decide
  | succ c ih =>
    intro i k hi
    have w1 : wrap64 (4 * (i : Int)) = ((4 * i : Nat) : Int) := by unfold wrap64; omega
    have w2 : wrap64 ((i : Int) + 1) = ((i + 1 : Nat) : Int) := by unfold wrap64; omega
    rw [show c + 1 + 1 + k = (c + 1 + k) + 1 by omega, grapnelref03_Block.l0, if_pos (by omega), w1, word_f key (4 * i) (by omega) (by omega), Option.bind_some, w2]
    rw [if_pos (by rw [cast_length, List.length_append, wordsOf_length]; simp [sigma]; omega), ← ih (i + 1) k (by omega), wordsOf_succ, ← List.append_assoc, cast_append (sigma ++ wordsOf key i)]
    rfl
theorem state_ok (key nonce : ByteArray) (n : Nat) (hn : n < M32) : (state key nonce n).length = 16 ∧ ∀ v ∈ state key nonce n, v < M32 := by
  refine ⟨by simp [state], fun v hv => ?_⟩
  unfold state at hv
  simp only [List.mem_append, List.mem_map, List.mem_range] at hv
  rcases hv with ((hv | ⟨i, _, rfl⟩) | hv) | ⟨i, _, rfl⟩
  · unfold M32
    simp only [List.mem_cons, List.not_mem_nil, or_false] at hv
    omega
  · exact word_lt _ _
  · obtain rfl : v = n % M32 := by simpa using hv
    exact Nat.mod_lt _ (by decide)
  · exact word_lt _ _
theorem rounds_ok : ∀ (k : Nat) (x : List Nat), x.length = 16 → (∀ v ∈ x, v < M32) → (Spec.rounds k x).length = 16 ∧ ∀ v ∈ Spec.rounds k x, v < M32 := by
  intro k
  induction k with
  | zero => intro x h1 h2; exact ⟨h1, h2⟩
  | succ k ih => intro x h1 h2; obtain ⟨h3, h4⟩ := dround_ok h1 h2; exact ih _ h3 h4
theorem block_f (key nonce : ByteArray) (n k : Nat) (hk : key.size = 32) (hc : nonce.size = 12) (hn : n < M32) (h : 37 ≤ k) :
    grapnelref03_Block.f k key nonce (n : Int) = some (strOfNums (B.cast (Spec.block key nonce n))) := by
  obtain ⟨m, rfl⟩ : ∃ m, k = 8 + 1 + (10 + 1 + (16 + 1 + m)) := ⟨k - 37, by omega⟩
  obtain ⟨h1, h2⟩ := state_ok key nonce n hn
  obtain ⟨h3, h4⟩ := rounds_ok 10 _ h1 h2
  have e0 := l0_all key nonce n hk hc hn 8 0 (10 + 1 + (16 + 1 + m)) (by omega)
  have e1 := l1_all (B.cast (state key nonce n)) 10 0 (state key nonce n) (16 + 1 + m) (by omega) h1 h2
  have e2 := l2_all (state key nonce n) (Spec.rounds 10 (state key nonce n)) h1 h3 h2 h4 16 0 m (by omega)
  show grapnelref03_Block.l0 _ key nonce (n : Int) (B.cast (sigma ++ wordsOf key 0)) ((0 : Nat) : Int) = _
  rw [e0]
  rw [show (0 : Int) = ((0 : Nat) : Int) from rfl, e1]
  exact e2
end Go.Proofs.Ytajjbgkbceobmaa.Pure
