/- box.Tag is Poly1305's tag. -/
import Derived.Test.YtajndpddlpnbkaaHTagLaw
namespace Go.Proofs.Ytajndpddlpnbkaa.B
open Go.RowKit Go.Proofs.YtajndpddlpnbkaaW.PrintWords Go.Proofs.Ytajndpddlpnbkaa.Spec
set_option maxHeartbeats 1000000 in
set_option maxRecDepth 100000 in
theorem tag_walk (key s : ByteArray) (w : World) (hk : key.size = 32) (hs : s.size ≤ 140737488355328) :
    Calls Try.prog 75 #[.string key, .string s] w (TagEnds key s w) := by
  have hk0 : ((key.size : Int) != 32) = false := by rw [hk]; rfl
  obtain ⟨w1, hr, hA, hgr, hz⟩ := arr_copy (P := Try.prog) (w := w.alloc (.cells (nums .u8 zeros17).toArray 151)) (Arr.new w 151 .u8 zeros17) 70 9 3 5 16 17 16 key Try.underlying70 (by kernel_rfl) (by rw [hk]; rfl) (by decide)
  replace hr : (Builtin.copy_ #[70, 9] 3 #[.slice (some ⟨w.heap.size, 0, none⟩) 16 17, .string key]).run Try.prog (w.alloc (.cells #[.int .u8 0, .int .u8 0, .int .u8 0, .int .u8 0, .int .u8 0, .int .u8 0, .int .u8 0, .int .u8 0, .int .u8 0, .int .u8 0, .int .u8 0, .int .u8 0, .int .u8 0, .int .u8 0, .int .u8 0, .int .u8 0, .int .u8 0] 151)) = .ok (.int .i64 16) w1 := hr
  have hl : ((nats key).take 16).length = 16 := by rw [List.length_take, nats_length, hk]; rfl
  obtain ⟨k0, k1, k2, k3, k4, k5, k6, k7, k8, k9, k10, k11, k12, k13, k14, k15, hks⟩ := sixteen_of hl
  have hlt : ∀ b ∈ [k0, k1, k2, k3, k4, k5, k6, k7, k8, k9, k10, k11, k12, k13, k14, k15], b < 256 := by rw [← hks]; intro b hb; exact nats_lt key b (List.mem_of_mem_take hb)
  have HK := Aside0.mk hks
  rw [hks] at hA
  have hA' : Blk w1 w.heap.size 151 #[.int .u8 (k0 : Int), .int .u8 (k1 : Int), .int .u8 (k2 : Int), .int .u8 (k3 : Int), .int .u8 (k4 : Int), .int .u8 (k5 : Int), .int .u8 (k6 : Int), .int .u8 (k7 : Int), .int .u8 (k8 : Int), .int .u8 (k9 : Int), .int .u8 (k10 : Int), .int .u8 (k11 : Int), .int .u8 (k12 : Int), .int .u8 (k13 : Int), .int .u8 (k14 : Int), .int .u8 (k15 : Int), .int .u8 0] := hA
  have HA := Aside0.mk hA'
  have HGR := Aside0.mk hgr
  simp only [World.size_alloc] at hz
  have c0 : w1.cell? ⟨w.heap.size, 0, none⟩ = some (.int .u8 (k0 : Int)) := hA'.cell 0
  have c1 : w1.cell? ⟨w.heap.size, 1, none⟩ = some (.int .u8 (k1 : Int)) := hA'.cell 1
  have c2 : w1.cell? ⟨w.heap.size, 2, none⟩ = some (.int .u8 (k2 : Int)) := hA'.cell 2
  have c3 : w1.cell? ⟨w.heap.size, 3, none⟩ = some (.int .u8 (k3 : Int)) := hA'.cell 3
  have c4 : w1.cell? ⟨w.heap.size, 4, none⟩ = some (.int .u8 (k4 : Int)) := hA'.cell 4
  have c5 : w1.cell? ⟨w.heap.size, 5, none⟩ = some (.int .u8 (k5 : Int)) := hA'.cell 5
  have c6 : w1.cell? ⟨w.heap.size, 6, none⟩ = some (.int .u8 (k6 : Int)) := hA'.cell 6
  have c7 : w1.cell? ⟨w.heap.size, 7, none⟩ = some (.int .u8 (k7 : Int)) := hA'.cell 7
  have c8 : w1.cell? ⟨w.heap.size, 8, none⟩ = some (.int .u8 (k8 : Int)) := hA'.cell 8
  have c9 : w1.cell? ⟨w.heap.size, 9, none⟩ = some (.int .u8 (k9 : Int)) := hA'.cell 9
  have c10 : w1.cell? ⟨w.heap.size, 10, none⟩ = some (.int .u8 (k10 : Int)) := hA'.cell 10
  have c11 : w1.cell? ⟨w.heap.size, 11, none⟩ = some (.int .u8 (k11 : Int)) := hA'.cell 11
  have c12 : w1.cell? ⟨w.heap.size, 12, none⟩ = some (.int .u8 (k12 : Int)) := hA'.cell 12
  have c13 : w1.cell? ⟨w.heap.size, 13, none⟩ = some (.int .u8 (k13 : Int)) := hA'.cell 13
  have c14 : w1.cell? ⟨w.heap.size, 14, none⟩ = some (.int .u8 (k14 : Int)) := hA'.cell 14
  have c15 : w1.cell? ⟨w.heap.size, 15, none⟩ = some (.int .u8 (k15 : Int)) := hA'.cell 15
  have c16 : w1.cell? ⟨w.heap.size, 16, none⟩ = some (.int .u8 0) := hA'.cell 16
  have f3 := hA'.frozen 3
  have f4 := hA'.frozen 4
  have f7 := hA'.frozen 7
  have f8 := hA'.frozen 8
  have f11 := hA'.frozen 11
  have f12 := hA'.frozen 12
  have f15 := hA'.frozen 15
  obtain ⟨m3, e3, d3⟩ : ∃ m : Nat, bits .and .u8 (k3 : Int) 15 = (m : Int) ∧ Aside0 (m = k3 % 16) := ⟨_, and15 k3 (hlt _ (by simp)), ⟨rfl⟩⟩
  obtain ⟨m7, e7, d7⟩ : ∃ m : Nat, bits .and .u8 (k7 : Int) 15 = (m : Int) ∧ Aside0 (m = k7 % 16) := ⟨_, and15 k7 (hlt _ (by simp)), ⟨rfl⟩⟩
  obtain ⟨m11, e11, d11⟩ : ∃ m : Nat, bits .and .u8 (k11 : Int) 15 = (m : Int) ∧ Aside0 (m = k11 % 16) := ⟨_, and15 k11 (hlt _ (by simp)), ⟨rfl⟩⟩
  obtain ⟨m15, e15, d15⟩ : ∃ m : Nat, bits .and .u8 (k15 : Int) 15 = (m : Int) ∧ Aside0 (m = k15 % 16) := ⟨_, and15 k15 (hlt _ (by simp)), ⟨rfl⟩⟩
  obtain ⟨m4, e4, d4⟩ : ∃ m : Nat, bits .and .u8 (k4 : Int) 252 = (m : Int) ∧ Aside0 (m = k4 - k4 % 4) := ⟨_, and252 k4 (hlt _ (by simp)), ⟨rfl⟩⟩
  obtain ⟨m8, e8, d8⟩ : ∃ m : Nat, bits .and .u8 (k8 : Int) 252 = (m : Int) ∧ Aside0 (m = k8 - k8 % 4) := ⟨_, and252 k8 (hlt _ (by simp)), ⟨rfl⟩⟩
  obtain ⟨m12, e12, d12⟩ : ∃ m : Nat, bits .and .u8 (k12 : Int) 252 = (m : Int) ∧ Aside0 (m = k12 - k12 % 4) := ⟨_, and252 k12 (hlt _ (by simp)), ⟨rfl⟩⟩
  have HLT := Aside0.mk hlt
  clear hA hA' hks hl hlt hgr
  go_enter Try.func75, Try.ntmps75
  go_wp2
  go_rounds 5
  with_reducible refine wp_loop_rounds 4 ?_
  iterate 3
    rw [rounds_succ]
    go_wp2
  have HR := Aside0.mk (((Blk.lit (((((((HA.out.set_ 3 (.int .u8 (m3 : Int))).set_ 7 (.int .u8 (m7 : Int))).set_ 11 (.int .u8 (m11 : Int))).set_ 15 (.int .u8 (m15 : Int))).set_ 4 (.int .u8 (m4 : Int))).set_ 8 (.int .u8 (m8 : Int))).set_ 12 (.int .u8 (m12 : Int))) (cs' := #[.int .u8 (k0 : Int), .int .u8 (k1 : Int), .int .u8 (k2 : Int), .int .u8 (m3 : Int), .int .u8 (m4 : Int), .int .u8 (k5 : Int), .int .u8 (k6 : Int), .int .u8 (m7 : Int), .int .u8 (m8 : Int), .int .u8 (k9 : Int), .int .u8 (k10 : Int), .int .u8 (m11 : Int), .int .u8 (m12 : Int), .int .u8 (k13 : Int), .int .u8 (k14 : Int), .int .u8 (m15 : Int), .int .u8 0]) (by simp only [List.setIfInBounds_toArray, List.set_cons_succ, List.set_cons_zero])).alloc (.cells #[.int .i64 3, .int .i64 7, .int .i64 11, .int .i64 15] 3)).alloc (.cells #[.int .i64 4, .int .i64 8, .int .i64 12] 3))
  rw [rounds_succ]
  go_wp2_with (refine wpList_load_row rfl 151 (.tmp 6) rfl w.heap.size rfl 151 _ (0, 0) _ HR.out Try.underlying151 rfl (by kernel_rfl) ?_)
  refine (five_at k0 k1 k2 m3 m4 k5 k6 m7 m8 k9 k10 m11 m12 k13 k14 m15 0 _ ?_ (by omega)).mono ?_
  · rw [d3.out, d4.out, d7.out, d8.out, d11.out, d12.out, d15.out]; exact clamp_lt _ _ _ _ _ _ _ _ _ _ _ _ _ _ _ _ HLT.out
  rintro e w2 ⟨y0, y1, y2, y3, y4, rfl, hy, hv, hb2⟩
  have hv' : val5 y0 y1 y2 y3 y4 = (polyR key : Int) := by
    rw [hv, d3.out, d4.out, d7.out, d8.out, d11.out, d12.out, d15.out, polyR_of HK.out]
  have B2 : Below w.heap.size w w2 := by
    have b1 : Below w.heap.size w w1 := ((Below.refl _ _).alloc (Nat.le_refl _) _).grown HGR.out (by simp) (by intro k hk; injection hk with hk; omega)
    have hzz := hz
    refine Below.trans ?_ (hb2.mono (by simp [hzz]; omega))
    go_grown
  have HY := Aside0.mk hy
  have HV := Aside0.mk hv'
  have HB2 := Aside0.mk B2
  clear hv hv' hy B2 hb2 HA HGR HK HLT d3 d4 d7 d8 d11 d12 d15 e3 e4 e7 e8 e11 e12 e15 f3 f4 f7 f8 f11 f12 f15 c0 c1 c2 c3 c4 c5 c6 c7 c8 c9 c10 c11 c12 c13 c14 c15 c16 hr hz
  go_wp2
  go_loopw [13] (fun v13 wr => ∃ (i : Nat) (h0 h1 h2 h3 h4 : Int), v13 = .int .i64 i ∧ Aside0 (Blk wr w2.heap.size 152 #[.int .u64 y0, .int .u64 y1, .int .u64 y2, .int .u64 y3, .int .u64 y4] ∧ Blk wr (w2.heap.size + 1) 152 #[.int .u64 h0, .int .u64 h1, .int .u64 h2, .int .u64 h3, .int .u64 h4] ∧ Below w.heap.size w wr ∧
      i ≤ s.size + 15 ∧ Small 67108864 0 h1 h2 h3 h4 ∧ 0 ≤ h0 ∧ h0 < 67108869 ∧ polyH (polyR key) (val5 h0 h1 h2 h3 h4).toNat ((nats s).drop i) % P130 = polyH (polyR key) 0 (nats s) % P130)) (fun v13 _ => s.size - (intOf v13).toNat)
  case atStart =>
    have hG : w.heap.size ≤ w2.heap.size := HB2.out.size
    refine ⟨0, 0, 0, 0, 0, 0, rfl, ⟨?_, ?_, ?_, by omega, by unfold Small; omega, by omega, by omega, rfl⟩⟩
    · exact Blk.alloc (Blk.new _ _ _) _
    · exact Blk.at_new (by simp)
    · have := HB2.out
      go_grown
  case round =>
    obtain ⟨i, h0, h1, h2, h3, h4, rfl, HW⟩ := hrel
    have hib : i ≤ s.size + 15 := HW.out.2.2.2.1
    by_cases hlt : i < s.size
    · have hi0 : (0 : Int) ≤ (i : Int) := by omega
      have hi1 : (i : Int) < s.size := by omega
      have hi2 : (i : Int) ≤ s.size := by omega
      obtain ⟨n, hn⟩ : ∃ n, n = Nat.min (s.extract i s.size).size 16 := ⟨_, rfl⟩
      have hn16 : n ≤ 16 := by rw [hn]; exact Nat.min_le_right _ _
      obtain ⟨w3, hr, hA, hgr, hz⟩ := arr_copy (P := Try.prog) (w := (wr.alloc (.cells (nums .u8 zeros17).toArray 151)).drew) (Arr.drew (Arr.new wr 151 .u8 zeros17)) 70 9 3 5 16 17 n (s.extract i s.size) Try.underlying70 (by kernel_rfl) hn (by show n ≤ 17; omega)
      replace hr : (Builtin.copy_ #[70, 9] 3 #[.slice (some ⟨wr.heap.size, 0, none⟩) 16 17, .string (s.extract i s.size)]).run Try.prog ((wr.alloc (.cells #[.int .u8 0, .int .u8 0, .int .u8 0, .int .u8 0, .int .u8 0, .int .u8 0, .int .u8 0, .int .u8 0, .int .u8 0, .int .u8 0, .int .u8 0, .int .u8 0, .int .u8 0, .int .u8 0, .int .u8 0, .int .u8 0, .int .u8 0] 151)).drew) = .ok (.int .i64 n) w3 := hr
      have HA := Aside0.mk hA
      have HGR := Aside0.mk hgr
      have HN := Aside0.mk hn
      simp only [World.size_alloc, World.size_drew] at hz
      have hn0 : (0 : Int) ≤ (n : Int) := by omega
      have hn17 : (n : Int) < 17 := by omega
      clear hA hgr hn
      obtain ⟨q1, q2, q3, q4, q5⟩ := chunk_ns HN.out
      have hXl : (cast ((nats (s.extract i s.size)).take n) ++ zeros17.drop n).length = 17 := by
        have := congrArg List.length q1
        rwa [List.length_set, cast_length, q2] at this
      have hA3 := HA.out.store n 1
      rw [q1] at hA3
      have ch := HA.out.at_ n (by rw [hXl]; omega)
      have fh := HA.out.free n
      have HA3 := Aside0.mk hA3
      have Q := Aside0.mk q5
      have hi17 : (Try.prog.info? 151).map (·.size) = some (nums .u8 (cast (chunk s i n))).toArray.size := by
        rw [show (nums .u8 (cast (chunk s i n))).toArray.size = 17 from by simp [nums, cast_length, q2]]
        kernel_rfl
      have HI17 := Aside0.mk hi17
      have Q2 := Aside0.mk q2
      have Q3 := Aside0.mk q3
      have Q4 := Aside0.mk q4
      clear hA3 q1 q5 hXl q2 q3 q4 hi17
      go_wp2
      go_region
      go_wp2_with (refine wpList_load_row rfl 151 (.tmp 14) rfl wr.heap.size rfl 151 _ (0, 0) _ HA3.out Try.underlying151 rfl HI17.out ?_)
      refine (five_any (chunk s i n) _ Q3.out Q2.out Q4.out).mono ?_
      rintro e w4 ⟨x0, x1, x2, x3, x4, rfl, hx, hxv, hb4⟩
      have lG : w2.heap.size + 1 < wr.heap.size := HW.out.2.1.lt
      have hz3 := hz
      have BY4 := ((((HW.out.1.alloc (.cells (nums .u8 zeros17).toArray 151)).drew).grown HGR.out (by intro e; injection e; omega)).far (p := ⟨wr.heap.size, n, none⟩) (by dsimp only; omega) (.int .u8 1)).below hb4 (by rw [World.size_setCell, hz3]; omega)
      have BH4 := ((((HW.out.2.1.alloc (.cells (nums .u8 zeros17).toArray 151)).drew).grown HGR.out (by intro e; injection e; omega)).far (p := ⟨wr.heap.size, n, none⟩) (by dsimp only; omega) (.int .u8 1)).below hb4 (by rw [World.size_setCell, hz3]; omega)
      have lw : w.heap.size ≤ wr.heap.size := HW.out.2.2.1.size
      have B4 : Below w.heap.size w w4 := by
        refine Below.trans ?_ (hb4.mono (by rw [World.size_setCell, hz3]; omega))
        refine Below.setCell ?_ (by dsimp only; omega) _
        exact (((HW.out.2.2.1.alloc lw _)).drew).grown HGR.out (by simp; omega) (by intro k hk; injection hk with hk; omega)
      have c0 : w4.cell? ⟨w2.heap.size + 1, 0, none⟩ = some (.int .u64 h0) := BH4.cell 0
      have f0 := BH4.frozen 0
      have g0 : w4.cell? ⟨w2.heap.size, 0, none⟩ = some (.int .u64 y0) := BY4.cell 0
      have c1 : w4.cell? ⟨w2.heap.size + 1, 1, none⟩ = some (.int .u64 h1) := BH4.cell 1
      have f1 := BH4.frozen 1
      have g1 : w4.cell? ⟨w2.heap.size, 1, none⟩ = some (.int .u64 y1) := BY4.cell 1
      have c2 : w4.cell? ⟨w2.heap.size + 1, 2, none⟩ = some (.int .u64 h2) := BH4.cell 2
      have f2 := BH4.frozen 2
      have g2 : w4.cell? ⟨w2.heap.size, 2, none⟩ = some (.int .u64 y2) := BY4.cell 2
      have c3 : w4.cell? ⟨w2.heap.size + 1, 3, none⟩ = some (.int .u64 h3) := BH4.cell 3
      have f3 := BH4.frozen 3
      have g3 : w4.cell? ⟨w2.heap.size, 3, none⟩ = some (.int .u64 y3) := BY4.cell 3
      have c4 : w4.cell? ⟨w2.heap.size + 1, 4, none⟩ = some (.int .u64 h4) := BH4.cell 4
      have f4 := BH4.frozen 4
      have g4 : w4.cell? ⟨w2.heap.size, 4, none⟩ = some (.int .u64 y4) := BY4.cell 4
      have hgz : w2.heap.size + 1 < w4.heap.size := BH4.lt
      have hgz0 : w2.heap.size < w4.heap.size := BY4.lt
      have HBY4 := Aside0.mk BY4
      have HBH4 := Aside0.mk BH4
      have HB4 := Aside0.mk B4
      have HX := Aside0.mk hx
      have HXV := Aside0.mk hxv
      have hsh := HW.out.2.2.2.2.1
      have hl0 := HW.out.2.2.2.2.2.1
      have hu0 := HW.out.2.2.2.2.2.2.1
      unfold Small at hx hsh
      clear BY4 BH4 B4 hb4 hxv hz hz3 hr ch fh
      go_wp2
      with_reducible refine wp_loop_rounds 6 ?_
      iterate 5
        rw [rounds_succ]
        go_wp2
        go_region
        go_wp2
      rw [rounds_succ]
      go_wp2_with fail
      have hy5 := HY.out
      refine (times_any (h0 + x0) (h1 + x1) (h2 + x2) (h3 + x3) (h4 + x4) y0 y1 y2 y3 y4 _ (by unfold Small; omega) hy5).mono ?_
      rintro e w5 ⟨q0, q1, q2, q3, q4, rfl, ht, hb5⟩
      have BY5 := ((Blk.alloc (((((HBY4.out.far (p := ⟨w2.heap.size + 1, 0, none⟩) (by dsimp only; omega) (.int .u64 (h0 + x0))).far (p := ⟨w2.heap.size + 1, 1, none⟩) (by dsimp only; omega) (.int .u64 (h1 + x1))).far (p := ⟨w2.heap.size + 1, 2, none⟩) (by dsimp only; omega) (.int .u64 (h2 + x2))).far (p := ⟨w2.heap.size + 1, 3, none⟩) (by dsimp only; omega) (.int .u64 (h3 + x3))).far (p := ⟨w2.heap.size + 1, 4, none⟩) (by dsimp only; omega) (.int .u64 (h4 + x4))) (.cells #[.int .u64 x0, .int .u64 x1, .int .u64 x2, .int .u64 x3, .int .u64 x4] 152)).drew.drew.drew.drew.drew).below hb5 (by simp; omega)
      have BH5 := ((Blk.alloc (((((HBH4.out.set_ 0 (.int .u64 (h0 + x0))).set_ 1 (.int .u64 (h1 + x1))).set_ 2 (.int .u64 (h2 + x2))).set_ 3 (.int .u64 (h3 + x3))).set_ 4 (.int .u64 (h4 + x4))) (.cells #[.int .u64 x0, .int .u64 x1, .int .u64 x2, .int .u64 x3, .int .u64 x4] 152)).drew.drew.drew.drew.drew).below hb5 (by simp; omega)
      rw [set5 rfl] at BH5
      have lw4 : w.heap.size ≤ w4.heap.size := HB4.out.size
      have lw2 : w.heap.size ≤ w2.heap.size := HB2.out.size
      have B5 : Below w.heap.size w w5 := by
        refine Below.trans ?_ (hb5.mono (by simp; omega))
        have := HB4.out
        go_grown
      have HT := Aside0.mk ht
      have HBY5 := Aside0.mk BY5
      have HBH5 := Aside0.mk BH5
      have HB5 := Aside0.mk B5
      have z0 : w5.cell? ⟨w2.heap.size + 1, 0, none⟩ = some (.int .u64 (h0 + x0)) := BH5.cell 0
      have z1 : w5.cell? ⟨w2.heap.size + 1, 1, none⟩ = some (.int .u64 (h1 + x1)) := BH5.cell 1
      have z2 : w5.cell? ⟨w2.heap.size + 1, 2, none⟩ = some (.int .u64 (h2 + x2)) := BH5.cell 2
      have z3 : w5.cell? ⟨w2.heap.size + 1, 3, none⟩ = some (.int .u64 (h3 + x3)) := BH5.cell 3
      have z4 : w5.cell? ⟨w2.heap.size + 1, 4, none⟩ = some (.int .u64 (h4 + x4)) := BH5.cell 4
      have v0 := BH5.frozen 0
      have v1 := BH5.frozen 1
      have v2 := BH5.frozen 2
      have v3 := BH5.frozen 3
      have v4 := BH5.frozen 4
      clear ht BY5 BH5 B5 hb5 c0 c1 c2 c3 c4 f0 f1 f2 f3 f4 g0 g1 g2 g3 g4
      go_wp2
      go_roundw
      case rel =>
        refine ⟨i + 16, q0, q1, q2, q3, q4, by go_num, ⟨?_, ?_, ?_, by omega, HT.out.2.1, HT.out.2.2.1, HT.out.2.2.2, ?_⟩⟩
        · exact ((((HBY5.out.far (by dsimp only; omega) _).far (by dsimp only; omega) _).far (by dsimp only; omega) _).far (by dsimp only; omega) _).far (by dsimp only; omega) _
        · have z := ((((HBH5.out.set_ 0 (.int .u64 q0)).set_ 1 (.int .u64 q1)).set_ 2 (.int .u64 q2)).set_ 3 (.int .u64 q3)).set_ 4 (.int .u64 q4)
          rw [set5 rfl] at z
          exact z
        · exact ((((HB5.out.setCell (by dsimp only; omega) _).setCell (by dsimp only; omega) _).setCell (by dsimp only; omega) _).setCell (by dsimp only; omega) _).setCell (by dsimp only; omega) _
        · rw [round_law hlt HW.out.2.2.2.2.1 hl0 HX.out HXV.out Q.out HV.out HT.out]
          exact HW.out.2.2.2.2.2.2.2
      case measure => simp [intOf]; omega
    · have BH := HW.out.2.1
      have c0 : wr.cell? ⟨w2.heap.size + 1, 0, none⟩ = some (.int .u64 h0) := BH.cell 0
      have f0 := BH.frozen 0
      have c1 : wr.cell? ⟨w2.heap.size + 1, 1, none⟩ = some (.int .u64 h1) := BH.cell 1
      have f1 := BH.frozen 1
      have c2 : wr.cell? ⟨w2.heap.size + 1, 2, none⟩ = some (.int .u64 h2) := BH.cell 2
      have f2 := BH.frozen 2
      have c3 : wr.cell? ⟨w2.heap.size + 1, 3, none⟩ = some (.int .u64 h3) := BH.cell 3
      have f3 := BH.frozen 3
      have c4 : wr.cell? ⟨w2.heap.size + 1, 4, none⟩ = some (.int .u64 h4) := BH.cell 4
      have f4 := BH.frozen 4
      have lG : w2.heap.size + 1 < wr.heap.size := BH.lt
      have HBH := Aside0.mk BH
      have hsh := HW.out.2.2.2.2.1
      have hl0 := HW.out.2.2.2.2.2.1
      have hu0 := HW.out.2.2.2.2.2.2.1
      have HF : Aside0 ((val5 h0 h1 h2 h3 h4).toNat % P130 = polyH (polyR key) 0 (nats s)) := ⟨by
        have e1 := HW.out.2.2.2.2.2.2.2
        have e2 : (nats s).drop i = [] := List.drop_eq_nil_of_le (by rw [nats_length]; omega)
        rw [e2, polyH, if_pos rfl, Nat.mod_eq_of_lt (polyH_lt (polyR key) _ 0 (nats s) (Nat.le_refl _) (by decide))] at e1
        exact e1⟩
      clear BH
      go_wp2_with fail
      refine (whole_any h0 h1 h2 h3 h4 _ hsh hl0 hu0).mono ?_
      rintro e w6 ⟨q0, q1, q2, q3, q4, rfl, hq, hqv, hb6⟩
      have BH6 := HBH.out.below hb6 lG
      have B6 : Below w.heap.size w w6 := HW.out.2.2.1.trans (hb6.mono HW.out.2.2.1.size)
      have z0 : w6.cell? ⟨w2.heap.size + 1, 0, none⟩ = some (.int .u64 h0) := BH6.cell 0
      have z1 : w6.cell? ⟨w2.heap.size + 1, 1, none⟩ = some (.int .u64 h1) := BH6.cell 1
      have z2 : w6.cell? ⟨w2.heap.size + 1, 2, none⟩ = some (.int .u64 h2) := BH6.cell 2
      have z3 : w6.cell? ⟨w2.heap.size + 1, 3, none⟩ = some (.int .u64 h3) := BH6.cell 3
      have z4 : w6.cell? ⟨w2.heap.size + 1, 4, none⟩ = some (.int .u64 h4) := BH6.cell 4
      have v0 := BH6.frozen 0
      have v1 := BH6.frozen 1
      have v2 := BH6.frozen 2
      have v3 := BH6.frozen 3
      have v4 := BH6.frozen 4
      have lG6 : w2.heap.size + 1 < w6.heap.size := BH6.lt
      have HBH6 := Aside0.mk BH6
      have HB6 := Aside0.mk B6
      have HQ := Aside0.mk hq
      have hN : (val5 q0 q1 q2 q3 q4).toNat = polyH (polyR key) 0 (nats s) := by
        rw [hqv, ← HF.out, P5_cast, Int.toNat_emod (by unfold Small val5 at *; omega) (by omega)]
        rfl
      have HN := Aside0.mk hN
      have lw2 : w.heap.size ≤ w2.heap.size := HB2.out.size
      clear BH6 B6 hb6 hq hqv hN c0 c1 c2 c3 c4 f0 f1 f2 f3 f4 HBH hsh
      go_wp2
      have AQ0 := ((((HBH6.out.set_ 0 (.int .u64 q0)).set_ 1 (.int .u64 q1)).set_ 2 (.int .u64 q2)).set_ 3 (.int .u64 q3)).set_ 4 (.int .u64 q4)
      rw [set5 rfl] at AQ0
      have BQ0 := ((((HB6.out.setCell (p := ⟨w2.heap.size + 1, 0, none⟩) (by dsimp only; omega) (.int .u64 q0)).setCell (p := ⟨w2.heap.size + 1, 1, none⟩) (by dsimp only; omega) (.int .u64 q1)).setCell (p := ⟨w2.heap.size + 1, 2, none⟩) (by dsimp only; omega) (.int .u64 q2)).setCell (p := ⟨w2.heap.size + 1, 3, none⟩) (by dsimp only; omega) (.int .u64 q3)).setCell (p := ⟨w2.heap.size + 1, 4, none⟩) (by dsimp only; omega) (.int .u64 q4)
      have AQ := Aside0.mk AQ0
      have BQ := Aside0.mk BQ0
      obtain ⟨T, hT⟩ : ∃ T, T = polyH (polyR key) 0 (nats s) + le ((nats key).drop 16) := ⟨_, rfl⟩
      have HT := Aside0.mk hT
      obtain ⟨NN, hNN⟩ : ∃ NN, NN = (val5 q0 q1 q2 q3 q4).toNat := ⟨_, rfl⟩
      have HNN := Aside0.mk hNN
      obtain ⟨KK, hKK⟩ : ∃ KK, KK = le ((nats key).drop 16) := ⟨_, rfl⟩
      have HKK := Aside0.mk hKK
      have HTT : Aside0 (T = NN + KK) := ⟨by rw [hT, hNN, hKK, HN.out]⟩
      have HKD : Aside0 (∀ i, KK / 256 ^ i % 256 = byteAt key (16 + i)) := ⟨fun i => by rw [hKK]; exact key_digit key i⟩
      have HBT : Aside0 (∀ n, n < 128 → bits .and .u64 (el [q0, q1, q2, q3, q4] (n / 26) / 2 ^ (n % 26)) 1 = ((NN / 2 ^ n % 2 : Nat) : Int)) := ⟨fun n hn => by rw [hNN]; exact limb_bit HQ.out n hn⟩
      clear AQ0 BQ0 hT hNN hKK z0 z1 z2 z3 z4 v0 v1 v2 v3 v4
      go_loopw [18, 19, 88] (fun v18 v19 v88 wx => ∃ (i c : Nat), v88 = .int .i64 i ∧ v19 = .int .u64 c ∧ Aside0 (i ≤ 16 ∧ c + NN / 256 ^ i + KK / 256 ^ i = T / 256 ^ i ∧ c ≤ 1 ∧ Arr wx (w2.heap.size + 1) 152 .u64 [q0, q1, q2, q3, q4] ∧ Below w.heap.size w wx ∧ w6.heap.size ≤ wx.heap.size ∧ wx.ownsRow w6.heap.size 5 1 v18 (outs T i).length (nums .u8 (outs T i)))) (fun _ _ v88 _ => 16 - (intOf v88).toNat)
      case atStart => exact ⟨0, 0, rfl, rfl, ⟨by omega, by simp [HTT.out], by omega, AQ.out, BQ.out, by simp, own_nil _ _ _ _⟩⟩
      case round =>
        obtain ⟨i, c, rfl, rfl, HW⟩ := hrel
        obtain ⟨hi16, hcarry, hc1, hA, hB, hsz, hown⟩ := HW.out
        have HC := Aside0.mk hcarry
        have HO := Aside0.mk hown
        have HA := Aside0.mk hA
        have HB := Aside0.mk hB
        clear hcarry hown hA hB HW
        by_cases hlt : i < 16
        · have hi0 : (0 : Int) ≤ (i : Int) := by omega
          have hi1 : (i : Int) < 16 := by omega
          have hks : 16 + i < key.size := by omega
          have hks1 : (16 : Int) + (i : Int) < (key.size : Int) := by omega
          have hnk := nat_at key (16 + i) hks
          have hkl := byteAt_lt key (16 + i)
          have lw6 : w.heap.size ≤ w6.heap.size := by omega
          have hKD := HKD.out i
          have HKDi := Aside0.mk hKD
          clear hKD
          go_wp2
          go_loop [21, 98] (fun v21 v98 => ∃ j sm : Nat, j ≤ 8 ∧ sm ≤ 1000 ∧ v98 = .int .i64 j ∧ v21 = .int .u64 sm ∧ Aside0 (sm = byteAt key (16 + i) + c + NN / 256 ^ i % 2 ^ j)) (fun _ v98 => 8 - (intOf v98).toNat)
          case atStart => exact ⟨0, byteAt key (16 + i) + c, by omega, by omega, rfl, by go_num, ⟨by simp [Nat.mod_one]⟩⟩
          case round =>
            obtain ⟨j, sm, hj8, hsm, rfl, rfl, HS⟩ := hrel
            by_cases hjt : j < 8
            · have hj0 : (0 : Int) ≤ (j : Int) := by omega
              have hj1 : (j : Int) < 8 := by omega
              have ca := HA.out.at_ ((8 * i + j) / 26) (by show _ < 5; omega)
              obtain ⟨b, hb, hbl, HBB⟩ : ∃ b : Nat, bits .and .u64 (el [q0, q1, q2, q3, q4] ((8 * i + j) / 26) / 2 ^ ((8 * i + j) % 26)) 1 = (b : Int) ∧ b < 2 ∧ Aside0 (b = NN / 2 ^ (8 * i + j) % 2) := ⟨_, HBT.out (8 * i + j) (by omega), by omega, ⟨rfl⟩⟩
              obtain ⟨y, hy, hyl, HYY⟩ : ∃ y : Nat, IntKind.u64.wrap ((b : Int) * 2 ^ j) = (y : Int) ∧ y ≤ 128 ∧ Aside0 (y = b * 2 ^ j) := ⟨_, (bit_shift b j hbl hjt).1, (bit_shift b j hbl hjt).2, ⟨rfl⟩⟩
              go_wp2
              go_round
              case rel =>
                have e1 : sm + y = byteAt key (16 + i) + c + NN / 256 ^ i % 2 ^ (j + 1) := by
                  rw [HS.out, HYY.out, HBB.out, bits_step, Nat.pow_add, ← Nat.div_div_eq_div_mul, show (256 : Nat) ^ i = 2 ^ (8 * i) from by rw [Nat.pow_mul]]
                  omega
                have e2 : NN / 256 ^ i % 2 ^ (j + 1) < 256 := Nat.lt_of_lt_of_le (Nat.mod_lt _ (Nat.pow_pos (by omega))) (Nat.pow_le_pow_right (n := 2) (by omega) (show j + 1 ≤ 8 by omega))
                exact ⟨j + 1, sm + y, by omega, by omega, by go_num, by go_num, ⟨e1⟩⟩
              case measure => simp [intOf]; omega
            · obtain rfl : j = 8 := by omega
              obtain ⟨k1, k2, k3⟩ := carry_step (sm := sm) HC.out (by rw [HS.out, HKDi.out]) hc1
              have K1 := Aside0.mk k1
              have K2 := Aside0.mk k2
              have K3 := Aside0.mk k3
              clear k1 k2 k3
              go_wp2_with (at_builtin; refine print_append_num (w0 := wr) w6.heap.size rfl (.tmp 118) (.tmp 121) 70 5 .u8 1 rfl Try.underlying70 infoU8 (by decide) _ (outs T i) _ rfl rfl HO.out (Below.refl _ _) hsz (by rw [outs_length]; omega) ?_; intro v1 w1 hown1 hbel1 hg1 hat1)
              go_roundw
              case rel =>
                refine ⟨i + 1, sm / 256, by go_num, by go_num, ⟨by omega, K2.out, K3.out, HA.out.below hbel1 lG6, HB.out.trans (hbel1.mono lw6), Nat.le_trans hsz hbel1.size, ?_⟩⟩
                rw [outs_succ, ← K1.out, Int.natCast_emod]
                first | exact hown1 | (rw [IntKind.wrap_u8] at hown1; exact hown1)
              case measure => simp [intOf]; omega
        · obtain rfl : i = 16 := by omega
          have kc : ∀ v, wr.ownsRow w6.heap.size 5 1 v (outs T 16).length (nums .u8 (outs T 16)) → (convert 70 9 v).run Try.prog wr = .ok (.string (strOfNums (outs T 16))) wr := fun v hv => own_string Try.underlying70 Try.underlying5 Try.underlying9 hv
          have kc1 := kc _ HO.out
          rw [tag_bytes key s T HT.out] at kc1
          clear kc
          go_wp2
          go_ret2
          exact ⟨rfl, HB.out⟩
end Go.Proofs.Ytajndpddlpnbkaa.B
namespace Go.Proofs.Ytajndpddlpnbkaa.B
open Go.RowKit
def box_Tag.f (a0 a1 : ByteArray) : Option (ByteArray × Int) := if a1.size ≤ 140737488355328 then some (Spec.tagF a0 a1) else none
set_option maxHeartbeats 1000000 in
theorem tag_no (key s : ByteArray) (w : World) (hk : ¬ key.size = 32) :
    Calls Try.prog 75 #[.string key, .string s] w fun e w' => e = .returned (.tuple #[.string Spec.none_, .int .i64 1]) ∧ Below w.heap.size w w' := by
  have hk0 : ((key.size : Int) != 32) = true := by rw [bne_iff_ne]; omega
  go_enter Try.func75, Try.ntmps75
  go_wp2
  go_ret2
  exact ⟨rfl, Below.refl _ _⟩
theorem box_Tag.calls (a0 a1 : ByteArray) (r1 : ByteArray) (r2 : Int) (w : World) (h : box_Tag.f a0 a1 = some (r1, r2)) :
    Calls Try.prog 75 #[.string a0, .string a1] w fun e w' => e = .returned (.tuple #[.string r1, .int .i64 r2]) ∧ Below w.heap.size w w' := by
  unfold box_Tag.f at h
  by_cases hs : a1.size ≤ 140737488355328
  · rw [if_pos hs] at h
    unfold Spec.tagF at h
    by_cases hk : a0.size = 32
    · rw [if_pos hk] at h
      obtain ⟨rfl, rfl⟩ := Prod.mk.inj (Option.some.inj h)
      exact (tag_walk a0 a1 w hk hs).mono fun e w' he => he
    · rw [if_neg hk] at h
      obtain ⟨rfl, rfl⟩ := Prod.mk.inj (Option.some.inj h)
      exact tag_no a0 a1 w hk
  · rw [if_neg hs] at h
    cases h
end Go.Proofs.Ytajndpddlpnbkaa.B
