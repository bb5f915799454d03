/- times: a product modulo 2^130 - 5, in five limbs. -/
import Derived.Test.YtajndpddlpnbkaaHTimesLaw
namespace Go.Proofs.Ytajndpddlpnbkaa.B
open Go.RowKit Go.Proofs.YtajndpddlpnbkaaW.PrintWords
theorem five_of {k : IntKind} {a : List Int} (ha : a.length = 5) : ∃ a0 a1 a2 a3 a4, (nums k a).toArray = #[.int k a0, .int k a1, .int k a2, .int k a3, .int k a4] := by
  match a, ha with | [a0, a1, a2, a3, a4], _ => exact ⟨a0, a1, a2, a3, a4, rfl⟩
/-- A number in five limbs, times another one, modulo 2^130 - 5: the limbs stay small. -/
def Timed (x y r0 r1 r2 r3 r4 : Int) : Prop := (∃ c : Int, val5 r0 r1 r2 r3 r4 + c * P5 = x * y) ∧ Small 67108864 0 r1 r2 r3 r4 ∧ 0 ≤ r0 ∧ r0 < 67108869
theorem carried2_plain {t0 t1 t2 t3 t4 r0 r1 r2 r3 r4 c q0 q1 q2 q3 q4 d : Int} (hs : Small 576460752303423488 t0 t1 t2 t3 t4) (h : IsCarried t0 t1 t2 t3 t4 r0 r1 r2 r3 r4 c) (k : IsCarried r0 r1 r2 r3 r4 q0 q1 q2 q3 q4 d) :
    val5 q0 q1 q2 q3 q4 + (c + d) * P5 = val5 t0 t1 t2 t3 t4 ∧ Small 67108864 0 q1 q2 q3 q4 ∧ 0 ≤ q0 ∧ q0 < 67108869 ∧ 0 ≤ c + d := by
  obtain ⟨h1, h2, h3, h4, h5, h6, h7, h8, h9, h10, h11, h12⟩ := h
  obtain ⟨k1, k2, k3, k4, k5, k6, k7, k8, k9, k10, k11, k12⟩ := k
  unfold Small at *
  unfold val5 P5 at *
  have : d ≤ 1 := by omega
  refine ⟨?_, ?_, ?_, ?_, ?_⟩ <;> omega
theorem carried1_small {t0 t1 t2 t3 t4 r0 r1 r2 r3 r4 c : Int} (hs : Small 576460752303423488 t0 t1 t2 t3 t4) (h : IsCarried t0 t1 t2 t3 t4 r0 r1 r2 r3 r4 c) :
    Small 1152921504606846976 r0 r1 r2 r3 r4 := by
  obtain ⟨h1, h2, h3, h4, h5, h6, h7, h8, h9, h10, h11, h12⟩ := h
  unfold Small at *
  unfold val5 P5 at *
  omega
def TimesEnds (s0 s1 s2 s3 s4 : Int) (w : World) (e : Ending) (w' : World) : Prop :=
  ∃ r0 r1 r2 r3 r4 c d q0 q1 q2 q3 q4, e = .returned (.agg #[.int .u64 q0, .int .u64 q1, .int .u64 q2, .int .u64 q3, .int .u64 q4]) ∧ IsCarried s0 s1 s2 s3 s4 r0 r1 r2 r3 r4 c ∧ IsCarried r0 r1 r2 r3 r4 q0 q1 q2 q3 q4 d ∧ Below w.heap.size w w'
set_option maxHeartbeats 1000000 in
theorem times_walk (a b : List Int) (w : World) (ha : a.length = 5) (hb : b.length = 5) (s0 s1 s2 s3 s4 : Int) (hs : tall a b 5 = [s0, s1, s2, s3, s4]) (sm : Small 576460752303423488 s0 s1 s2 s3 s4) :
    Calls Try.prog 97 #[.agg (nums .u64 a).toArray, .agg (nums .u64 b).toArray] w (TimesEnds s0 s1 s2 s3 s4 w) := by
  obtain ⟨a0, a1, a2, a3, a4, ea⟩ := five_of (k := .u64) ha
  obtain ⟨b0, b1, b2, b3, b4, eb⟩ := five_of (k := .u64) hb
  rw [ea, eb]
  have EA := Aside0.mk ea
  have EB := Aside0.mk eb
  have LA := Aside0.mk ha
  have LB := Aside0.mk hb
  have HS := Aside0.mk hs
  have SM := Aside0.mk sm
  clear ea eb ha hb hs sm
  go_enter Try.func97, Try.ntmps97
  go_wp2
  go_loopw [9] (fun v9 wr => ∃ i : Nat, i ≤ 5 ∧ v9 = .int .i64 i ∧ Aside0 (Arr wr w.heap.size 152 .u64 a ∧ Arr wr (w.heap.size + 1) 152 .u64 b ∧ Arr wr (w.heap.size + 3) 152 .u64 (tall a b i) ∧ Arr wr (w.heap.size + 2) 152 .u64 [0, 0, 0, 0, 0] ∧ Below w.heap.size w wr)) (fun v9 _ => 5 - (intOf v9).toNat)
  case atStart =>
    refine ⟨0, by omega, rfl, ⟨?_, ?_, ?_, ?_, ?_⟩⟩
    · exact Arr.alloc (Arr.alloc (Arr.alloc (Arr.at_new rfl EA.out.symm) _) _) _
    · exact Arr.alloc (Arr.alloc (Arr.at_new (by simp) EB.out.symm) _) _
    · exact Arr.at_new (by simp) rfl
    · exact Arr.alloc (Arr.at_new (by simp) (by rfl)) _
    · go_grown
  case round =>
    obtain ⟨i, hi, rfl, HW⟩ := hrel
    by_cases hlt : i < 5
    · have hi0 : (0 : Int) ≤ (i : Int) := by omega
      have hi5 : (i : Int) < 5 := by omega
      go_wp2
      go_loopw [12] (fun v12 wr => ∃ j : Nat, j ≤ 5 ∧ v12 = .int .i64 j ∧ Aside0 (Arr wr w.heap.size 152 .u64 a ∧ Arr wr (w.heap.size + 1) 152 .u64 b ∧ Arr wr (w.heap.size + 3) 152 .u64 (trow a b (tall a b i) i j) ∧ Arr wr (w.heap.size + 2) 152 .u64 [0, 0, 0, 0, 0] ∧ Below w.heap.size w wr)) (fun v12 _ => 5 - (intOf v12).toNat)
      case atStart => exact ⟨0, by omega, rfl, HW⟩
      case round =>
        obtain ⟨j, hj, rfl, HW⟩ := hrel
        by_cases hjt : j < 5
        · have hj0 : (0 : Int) ≤ (j : Int) := by omega
          have hj5 : (j : Int) < 5 := by omega
          have ca := HW.out.1.at_ i (by rw [LA.out]; exact hlt)
          have cb := HW.out.2.1.at_ j (by rw [LB.out]; exact hjt)
          have ct := HW.out.2.2.1.at_ ((i + j) % 5) (by rw [trow_length, tall_length]; omega)
          have ft := HW.out.2.2.1.free ((i + j) % 5)
          by_cases h4 : 4 < i + j
          all_goals
            go_wp2
            go_quiet (fail)
            go_wp2
            go_roundw
            case rel =>
              refine ⟨j + 1, by omega, by go_num, ⟨Arr.far (HW.out.1.drewN _) (by dsimp only; omega) _, Arr.far (HW.out.2.1.drewN _) (by dsimp only; omega) _, ?_, Arr.far (HW.out.2.2.2.1.drewN _) (by dsimp only; omega) _, ?_⟩⟩
              · show Arr _ _ _ _ (tstep a b (trow a b (tall a b i) i j) i j)
                first | rw [tstep_hi _ _ _ _ _ h4] | rw [tstep_lo _ _ _ _ _ h4]
                exact (HW.out.2.2.1.drewN _).store _ _
              · exact (below_drewN HW.out.2.2.2.2 _).setCell (by dsimp only; omega) _
            case measure => simp [intOf]; omega
        · obtain rfl : j = 5 := by omega
          go_wp2
          go_roundw
          case rel => exact ⟨i + 1, by omega, by go_num, HW⟩
          case measure => simp [intOf]; omega
    · obtain rfl : i = 5 := by omega
      have HT : Blk wr (w.heap.size + 3) 152 #[.int .u64 s0, .int .u64 s1, .int .u64 s2, .int .u64 s3, .int .u64 s4] := by
        have := HW.out.2.2.1
        rw [HS.out] at this
        exact this
      have HZ : Blk wr (w.heap.size + 2) 152 #[.int .u64 0, .int .u64 0, .int .u64 0, .int .u64 0, .int .u64 0] := HW.out.2.2.2.1
      have c0 : wr.cell? ⟨w.heap.size + 3, 0, none⟩ = some (.int .u64 s0) := HT.cell 0
      have c1 : wr.cell? ⟨w.heap.size + 3, 1, none⟩ = some (.int .u64 s1) := HT.cell 1
      have c2 : wr.cell? ⟨w.heap.size + 3, 2, none⟩ = some (.int .u64 s2) := HT.cell 2
      have c3 : wr.cell? ⟨w.heap.size + 3, 3, none⟩ = some (.int .u64 s3) := HT.cell 3
      have c4 : wr.cell? ⟨w.heap.size + 3, 4, none⟩ = some (.int .u64 s4) := HT.cell 4
      have S0 := SM.out
      unfold Small at S0
      go_wp2_with fail
      refine (carried_any s0 s1 s2 s3 s4 _ (by omega) (by omega) (by omega) (by omega) (by omega) (by omega) (by omega) (by omega) (by omega) (by omega)).mono ?_
      rintro e w1 ⟨r0, r1, r2, r3, r4, c, rfl, hc, hb1⟩
      have S1 := carried1_small SM.out hc
      have HZ1 := HZ.below hb1 (HZ.lt)
      have hbb : Below w.heap.size w w1 := (HW.out.2.2.2.2).trans (hb1.mono HW.out.2.2.2.2.size)
      clear c0 c1 c2 c3 c4 HT HZ S0
      have HC := Aside0.mk hc
      clear hc
      unfold Small at S1
      go_wp2_with fail
      refine (carried_any r0 r1 r2 r3 r4 _ (by omega) (by omega) (by omega) (by omega) (by omega) (by omega) (by omega) (by omega) (by omega) (by omega)).mono ?_
      rintro e w2 ⟨q0, q1, q2, q3, q4, d, rfl, hd, hb2⟩
      have HZ2 := HZ1.below hb2 HZ1.lt
      have hbc : Below w.heap.size w w2 := hbb.trans (hb2.mono hbb.size)
      have HD := Aside0.mk hd
      clear hd S1
      have z0 : w2.cell? ⟨w.heap.size + 2, 0, none⟩ = some (.int .u64 0) := HZ2.cell 0
      have z1 : w2.cell? ⟨w.heap.size + 2, 1, none⟩ = some (.int .u64 0) := HZ2.cell 1
      have z2 : w2.cell? ⟨w.heap.size + 2, 2, none⟩ = some (.int .u64 0) := HZ2.cell 2
      have z3 : w2.cell? ⟨w.heap.size + 2, 3, none⟩ = some (.int .u64 0) := HZ2.cell 3
      have z4 : w2.cell? ⟨w.heap.size + 2, 4, none⟩ = some (.int .u64 0) := HZ2.cell 4
      have f0 := HZ2.frozen 0
      have f1 := HZ2.frozen 1
      have f2 := HZ2.frozen 2
      have f3 := HZ2.frozen 3
      have f4 := HZ2.frozen 4
      go_wp2
      have HB := Aside0.mk (((((HZ2.set_ 0 (.int .u64 q0)).set_ 1 (.int .u64 q1)).set_ 2 (.int .u64 q2)).set_ 3 (.int .u64 q3)).set_ 4 (.int .u64 q4))
      refine bodyPost_ret (results_cell_row rfl _ _ (w.heap.size + 2) 152 #[.int .u64 q0, .int .u64 q1, .int .u64 q2, .int .u64 q3, .int .u64 q4] (0, 0) _ rfl HB.out Try.underlying152 rfl (by kernel_rfl)) rfl ?_
      refine ⟨r0, r1, r2, r3, r4, c, d, q0, q1, q2, q3, q4, rfl, HC.out, HD.out, ?_⟩
      repeat (refine Below.setCell ?_ (by dsimp only; omega) _)
      exact hbc
theorem times_any (a0 a1 a2 a3 a4 b0 b1 b2 b3 b4 : Int) (w : World) (ha : Small 268435456 a0 a1 a2 a3 a4) (hb : Small 67108864 b0 b1 b2 b3 b4) :
    Calls Try.prog 97 #[.agg #[.int .u64 a0, .int .u64 a1, .int .u64 a2, .int .u64 a3, .int .u64 a4], .agg #[.int .u64 b0, .int .u64 b1, .int .u64 b2, .int .u64 b3, .int .u64 b4]] w fun e w' => ∃ q0 q1 q2 q3 q4, e = .returned (.agg #[.int .u64 q0, .int .u64 q1, .int .u64 q2, .int .u64 q3, .int .u64 q4]) ∧ Timed (val5 a0 a1 a2 a3 a4) (val5 b0 b1 b2 b3 b4) q0 q1 q2 q3 q4 ∧ Below w.heap.size w w' := by
  obtain ⟨s0, s1, s2, s3, s4, k, hs, ht⟩ := times_plain a0 a1 a2 a3 a4 b0 b1 b2 b3 b4 ha hb
  refine (times_walk [a0, a1, a2, a3, a4] [b0, b1, b2, b3, b4] w rfl rfl s0 s1 s2 s3 s4 hs ht.small).mono ?_
  rintro e w' ⟨r0, r1, r2, r3, r4, c, d, q0, q1, q2, q3, q4, rfl, hc, hd, hb⟩
  obtain ⟨h1, h2, h3, h4, h5⟩ := carried2_plain ht.small hc hd
  refine ⟨q0, q1, q2, q3, q4, rfl, ⟨⟨c + d + k, ?_⟩, h2, h3, h4⟩, hb⟩
  · rw [← ht.val, ← h1, Int.add_mul (c + d)]; omega
end Go.Proofs.Ytajndpddlpnbkaa.B
