/- whole: a number in five limbs, below the prime. -/
import Derived.Test.YtajndpddlpnbkaaHTimes
namespace Go.Proofs.Ytajndpddlpnbkaa.B
open Go.RowKit Go.Proofs.YtajndpddlpnbkaaW.PrintWords
def WholeEnds (h0 h1 h2 h3 h4 : Int) (w : World) (e : Ending) (w' : World) : Prop :=
  ∃ q0 q1 q2 q3 q4, e = .returned (.agg #[.int .u64 q0, .int .u64 q1, .int .u64 q2, .int .u64 q3, .int .u64 q4]) ∧ Small 67108864 q0 q1 q2 q3 q4 ∧ val5 q0 q1 q2 q3 q4 = val5 h0 h1 h2 h3 h4 % P5 ∧ Below w.heap.size w w'
theorem whole_lo {h q0 q1 q2 q3 q4 k : Int} (S : Small 67108864 q0 q1 q2 q3 q4) (hv : val5 q0 q1 q2 q3 q4 + k * P5 = h)
    (hg : ((q4 + (q3 + (q2 + (q1 + (q0 + 5) / 67108864) / 67108864) / 67108864) / 67108864) / 67108864) = 0) : val5 q0 q1 q2 q3 q4 = h % P5 := by
  have h1 : val5 q0 q1 q2 q3 q4 < P5 := by unfold Small val5 P5 at *; omega
  have h2 : 0 ≤ val5 q0 q1 q2 q3 q4 := by unfold Small val5 at *; omega
  rw [← hv, Int.add_mul_emod_self_right, Int.emod_eq_of_lt h2 h1]
theorem whole_hi {h q0 q1 q2 q3 q4 k : Int} (S : Small 67108864 q0 q1 q2 q3 q4) (hv : val5 q0 q1 q2 q3 q4 + k * P5 = h)
    (hg : ¬ ((q4 + (q3 + (q2 + (q1 + (q0 + 5) / 67108864) / 67108864) / 67108864) / 67108864) / 67108864) = 0) :
    Small 67108864 ((q0 + 5) % 67108864) ((q1 + (q0 + 5) / 67108864) % 67108864) ((q2 + (q1 + (q0 + 5) / 67108864) / 67108864) % 67108864) ((q3 + (q2 + (q1 + (q0 + 5) / 67108864) / 67108864) / 67108864) % 67108864) ((q4 + (q3 + (q2 + (q1 + (q0 + 5) / 67108864) / 67108864) / 67108864) / 67108864) % 67108864) ∧
    val5 ((q0 + 5) % 67108864) ((q1 + (q0 + 5) / 67108864) % 67108864) ((q2 + (q1 + (q0 + 5) / 67108864) / 67108864) % 67108864) ((q3 + (q2 + (q1 + (q0 + 5) / 67108864) / 67108864) / 67108864) % 67108864) ((q4 + (q3 + (q2 + (q1 + (q0 + 5) / 67108864) / 67108864) / 67108864) / 67108864) % 67108864) = h % P5 := by
  refine ⟨by unfold Small; omega, ?_⟩
  generalize e0 : (q0 + 5) / 67108864 = x0 at *
  generalize e1 : (q1 + x0) / 67108864 = x1 at *
  generalize e2 : (q2 + x1) / 67108864 = x2 at *
  generalize e3 : (q3 + x2) / 67108864 = x3 at *
  have h4 : (q4 + x3) / 67108864 = 1 := by unfold Small at *; omega
  generalize ev : val5 ((q0 + 5) % 67108864) ((q1 + x0) % 67108864) ((q2 + x1) % 67108864) ((q3 + x2) % 67108864) ((q4 + x3) % 67108864) = v
  have hb : v + P5 = val5 q0 q1 q2 q3 q4 := by unfold val5 P5 at *; omega
  have h1 : v < P5 := by
    have : val5 q0 q1 q2 q3 q4 < 1361129467683753853853498429727072845824 := by unfold Small val5 at *; omega
    unfold P5 at *; omega
  have h2 : 0 ≤ v := by unfold val5 at ev; omega
  have h3 : h = v + (k + 1) * P5 := by rw [Int.add_mul]; omega
  rw [h3, Int.add_mul_emod_self_right, Int.emod_eq_of_lt h2 h1]
set_option maxHeartbeats 1000000 in
theorem whole_any (h0 h1 h2 h3 h4 : Int) (w : World) (hs : Small 67108864 0 h1 h2 h3 h4) (hl : 0 ≤ h0) (hu : h0 < 67108869) :
    Calls Try.prog 98 #[.agg #[.int .u64 h0, .int .u64 h1, .int .u64 h2, .int .u64 h3, .int .u64 h4]] w (WholeEnds h0 h1 h2 h3 h4 w) := by
  have HS := Aside0.mk hs
  unfold Small at hs
  go_enter Try.func98, Try.ntmps98
  go_wp2_with fail
  refine (carried_any h0 h1 h2 h3 h4 _ (by omega) (by omega) (by omega) (by omega) (by omega) (by omega) (by omega) (by omega) (by omega) (by omega)).mono ?_
  rintro e w1 ⟨r0, r1, r2, r3, r4, c, rfl, hc, hb1⟩
  have S1 : Small 67108864 r0 r1 r2 r3 r4 := by
    obtain ⟨k1, k2, k3, k4, k5, k6, k7, k8, k9, k10, k11, k12⟩ := hc
    unfold Small val5 P5 at *
    omega
  have HC := Aside0.mk hc
  have H1 := Aside0.mk S1
  clear hc hs
  unfold Small at S1
  go_wp2_with fail
  refine (carried_any r0 r1 r2 r3 r4 _ (by omega) (by omega) (by omega) (by omega) (by omega) (by omega) (by omega) (by omega) (by omega) (by omega)).mono ?_
  rintro e w2 ⟨q0, q1, q2, q3, q4, d, rfl, hd, hb2⟩
  have S2 : Small 67108864 q0 q1 q2 q3 q4 := by
    obtain ⟨k1, k2, k3, k4, k5, k6, k7, k8, k9, k10, k11, k12⟩ := hd
    unfold Small val5 P5 at *
    omega
  have hv : val5 q0 q1 q2 q3 q4 + (c + d) * P5 = val5 h0 h1 h2 h3 h4 := by
    have := hd.val; have := HC.out.val
    rw [Int.add_mul]; omega
  have HV := Aside0.mk hv
  have H2 := Aside0.mk S2
  clear hd S1 hv
  unfold Small at S2
  have BH : Blk w2 w.heap.size 152 #[.int .u64 h0, .int .u64 h1, .int .u64 h2, .int .u64 h3, .int .u64 h4] :=
    ((Blk.alloc (Blk.new w _ _) _).below hb1 (by simp; omega)).below hb2 (Nat.lt_of_lt_of_le (by simp; omega) hb1.size)
  have BZ : Blk w2 (w.heap.size + 1) 152 #[.int .u64 0, .int .u64 0, .int .u64 0, .int .u64 0, .int .u64 0] :=
    (Blk.below (Blk.at_new (by simp)) hb1 (by simp)).below hb2 (Nat.lt_of_lt_of_le (by simp) hb1.size)
  have hbc : Below w.heap.size w w2 := by
    have e1 : Below w.heap.size w w1 := (((Below.refl _ _).alloc (Nat.le_refl _) _).alloc (by simp) _).trans (hb1.mono (by simp; omega))
    exact e1.trans (hb2.mono e1.size)
  have HBC := Aside0.mk hbc
  have hz : w.heap.size + 1 < w2.heap.size := BZ.lt
  have hz0 : w.heap.size < w2.heap.size := BH.lt
  have hc0 : w2.cell? ⟨w.heap.size, 0, none⟩ = some (.int .u64 h0) := BH.cell 0
  have fH0 := BH.frozen 0
  have hc1 : w2.cell? ⟨w.heap.size, 1, none⟩ = some (.int .u64 h1) := BH.cell 1
  have fH1 := BH.frozen 1
  have hc2 : w2.cell? ⟨w.heap.size, 2, none⟩ = some (.int .u64 h2) := BH.cell 2
  have fH2 := BH.frozen 2
  have hc3 : w2.cell? ⟨w.heap.size, 3, none⟩ = some (.int .u64 h3) := BH.cell 3
  have fH3 := BH.frozen 3
  have hc4 : w2.cell? ⟨w.heap.size, 4, none⟩ = some (.int .u64 h4) := BH.cell 4
  have fH4 := BH.frozen 4
  have zc0 : w2.cell? ⟨w.heap.size + 1, 0, none⟩ = some (.int .u64 0) := BZ.cell 0
  have fZ0 := BZ.frozen 0
  have zc1 : w2.cell? ⟨w.heap.size + 1, 1, none⟩ = some (.int .u64 0) := BZ.cell 1
  have fZ1 := BZ.frozen 1
  have zc2 : w2.cell? ⟨w.heap.size + 1, 2, none⟩ = some (.int .u64 0) := BZ.cell 2
  have fZ2 := BZ.frozen 2
  have zc3 : w2.cell? ⟨w.heap.size + 1, 3, none⟩ = some (.int .u64 0) := BZ.cell 3
  have fZ3 := BZ.frozen 3
  have zc4 : w2.cell? ⟨w.heap.size + 1, 4, none⟩ = some (.int .u64 0) := BZ.cell 4
  have fZ4 := BZ.frozen 4
  have HBH := Aside0.mk BH
  have HBZ := Aside0.mk BZ
  clear BH BZ hbc hb1 hb2
  go_wp2
  with_reducible refine wp_loop_rounds 5 ?_
  iterate 4
    rw [rounds_succ]
    go_wp2
    go_region
    go_wp2
  rw [rounds_succ]
  by_cases hg : (((q4 + (q3 + (q2 + (q1 + (q0 + 5) / 67108864) / 67108864) / 67108864) / 67108864) / 67108864 : Int) == 0) = true
  · repeat (first | go_values | go_skip | go_guarded | go_step | go_upon)
    refine bodyPost_ret (v := .agg #[.int .u64 q0, .int .u64 q1, .int .u64 q2, .int .u64 q3, .int .u64 q4]) (by simp [results, Try.results98, go_sem, zc0, zc1, zc2, zc3, zc4, hz]) rfl ?_
    refine ⟨q0, q1, q2, q3, q4, rfl, H2.out, whole_lo H2.out HV.out (by simpa using hg), ?_⟩
    have hbc := HBC.out
    go_grown
  · have hg' : (((q4 + (q3 + (q2 + (q1 + (q0 + 5) / 67108864) / 67108864) / 67108864) / 67108864) / 67108864 : Int) == 0) = false := by simpa using hg
    obtain ⟨k1, k2⟩ := whole_hi H2.out HV.out (by simpa using hg)
    rw [← and26 (q0 + 5) (by omega) (by omega), ← and26 (q1 + (q0 + 5) / 67108864) (by omega) (by omega), ← and26 (q2 + (q1 + (q0 + 5) / 67108864) / 67108864) (by omega) (by omega), ← and26 (q3 + (q2 + (q1 + (q0 + 5) / 67108864) / 67108864) / 67108864) (by omega) (by omega), ← and26 (q4 + (q3 + (q2 + (q1 + (q0 + 5) / 67108864) / 67108864) / 67108864) / 67108864) (by omega) (by omega)] at k1 k2
    have K1 := Aside0.mk k1
    have K2 := Aside0.mk k2
    clear hg k1 k2
    repeat (first | go_values | go_skip | go_guarded | go_step | go_upon)
    refine bodyPost_ret (v := .agg #[.int .u64 (bits .and .u64 (q0 + 5) 67108863), .int .u64 (bits .and .u64 (q1 + (q0 + 5) / 67108864) 67108863), .int .u64 (bits .and .u64 (q2 + (q1 + (q0 + 5) / 67108864) / 67108864) 67108863), .int .u64 (bits .and .u64 (q3 + (q2 + (q1 + (q0 + 5) / 67108864) / 67108864) / 67108864) 67108863), .int .u64 (bits .and .u64 (q4 + (q3 + (q2 + (q1 + (q0 + 5) / 67108864) / 67108864) / 67108864) / 67108864) 67108863)])
      (by simp [results, Try.results98, go_sem, zc0, zc1, zc2, zc3, zc4, hz]) rfl ?_
    refine ⟨_, _, _, _, _, rfl, K1.out, K2.out, ?_⟩
    have hbc := HBC.out
    go_grown
end Go.Proofs.Ytajndpddlpnbkaa.B
