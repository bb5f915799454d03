/- The arithmetic of Poly1305 in five limbs: what carried, times, whole and five hand back. -/
import Derived.Test.YtajndpddlpnbkaaHWords
namespace Go.Proofs.Ytajndpddlpnbkaa.B
open Go.RowKit
theorem and26 (x : Int) (h0 : 0 ≤ x) (h1 : x < 18446744073709551616) : bits .and .u64 x 67108863 = x % 67108864 := by
  obtain ⟨n, rfl⟩ := Int.eq_ofNat_of_zero_le h0
  rw [show (67108863 : Int) = ((67108863 : Nat) : Int) from rfl, u64_and_nat n 67108863 (by omega) (by omega), nat_mask26]
  omega
def limbs (a b c d e : Int) : Value := .agg #[.int .u64 a, .int .u64 b, .int .u64 c, .int .u64 d, .int .u64 e]
/-- A number in five limbs. -/
def val5 (a b c d e : Int) : Int := a + 67108864 * b + 4503599627370496 * c + 302231454903657293676544 * d + 20282409603651670423947251286016 * e
def P5 : Int := 1361129467683753853853498429727072845819
/-- r is t, c times the prime taken away. -/
structure IsCarried (t0 t1 t2 t3 t4 r0 r1 r2 r3 r4 c : Int) : Prop where
  val : val5 r0 r1 r2 r3 r4 + c * P5 = val5 t0 t1 t2 t3 t4
  l0 : 0 ≤ r0
  u0 : r0 < 67108864 + 5 * c
  l1 : 0 ≤ r1
  u1 : r1 < 67108864
  l2 : 0 ≤ r2
  u2 : r2 < 67108864
  l3 : 0 ≤ r3
  u3 : r3 < 67108864
  l4 : 0 ≤ r4
  u4 : r4 < 67108864
  lc : 0 ≤ c
theorem carried_plain (t0 t1 t2 t3 t4 : Int) (h0 : 0 ≤ t0) (h1 : 0 ≤ t1) (h2 : 0 ≤ t2) (h3 : 0 ≤ t3) (h4 : 0 ≤ t4) :
    IsCarried t0 t1 t2 t3 t4 (t0 % 67108864 + 5 * ((t4 + (t3 + (t2 + (t1 + t0 / 67108864) / 67108864) / 67108864) / 67108864) / 67108864))
      ((t1 + t0 / 67108864) % 67108864) ((t2 + (t1 + t0 / 67108864) / 67108864) % 67108864) ((t3 + (t2 + (t1 + t0 / 67108864) / 67108864) / 67108864) % 67108864)
      ((t4 + (t3 + (t2 + (t1 + t0 / 67108864) / 67108864) / 67108864) / 67108864) % 67108864) ((t4 + (t3 + (t2 + (t1 + t0 / 67108864) / 67108864) / 67108864) / 67108864) / 67108864) := by
  generalize e0 : t0 / 67108864 = q0
  generalize e1 : (t1 + q0) / 67108864 = q1
  generalize e2 : (t2 + q1) / 67108864 = q2
  generalize e3 : (t3 + q2) / 67108864 = q3
  generalize e4 : (t4 + q3) / 67108864 = q4
  constructor <;> (try unfold val5 P5) <;> omega
set_option maxHeartbeats 1000000 in
theorem carried_any (t0 t1 t2 t3 t4 : Int) (w : World) (h0 : 0 ≤ t0) (k0 : t0 < 1152921504606846976) (h1 : 0 ≤ t1) (k1 : t1 < 1152921504606846976) (h2 : 0 ≤ t2) (k2 : t2 < 1152921504606846976) (h3 : 0 ≤ t3) (k3 : t3 < 1152921504606846976) (h4 : 0 ≤ t4) (k4 : t4 < 1152921504606846976) :
    Calls Try.prog 114 #[.agg #[.int .u64 t0, .int .u64 t1, .int .u64 t2, .int .u64 t3, .int .u64 t4]] w fun e w' => ∃ r0 r1 r2 r3 r4 c, e = .returned (.agg #[.int .u64 r0, .int .u64 r1, .int .u64 r2, .int .u64 r3, .int .u64 r4]) ∧ IsCarried t0 t1 t2 t3 t4 r0 r1 r2 r3 r4 c ∧ Below w.heap.size w w' := by
  go_enter Try.func114, Try.ntmps114
  go_wp2
  go_rounds 6
  go_returns
  refine ⟨_, _, _, _, _, _, ?_, carried_plain t0 t1 t2 t3 t4 h0 h1 h2 h3 h4, ?_⟩
  · rw [and26 _ (by omega) (by omega), and26 _ (by omega) (by omega), and26 _ (by omega) (by omega), and26 _ (by omega) (by omega), and26 _ (by omega) (by omega), IntKind.wrap_u64, Int.emod_eq_of_lt (by omega) (by omega)]
  · go_grown
end Go.Proofs.Ytajndpddlpnbkaa.B
