/- five: the five limbs of a number of 17 bytes. -/
import Derived.Test.YtajndpddlpnbkaaHTimes
namespace Go.Proofs.Ytajndpddlpnbkaa.B
open Go.RowKit Go.Proofs.YtajndpddlpnbkaaW.PrintWords
theorem seventeen_of {k : IntKind} {a : List Int} (ha : a.length = 17) : ∃ b0 b1 b2 b3 b4 b5 b6 b7 b8 b9 b10 b11 b12 b13 b14 b15 b16, (nums k a).toArray = #[.int k b0, .int k b1, .int k b2, .int k b3, .int k b4, .int k b5, .int k b6, .int k b7, .int k b8, .int k b9, .int k b10, .int k b11, .int k b12, .int k b13, .int k b14, .int k b15, .int k b16] := by
  match a, ha with | [b0, b1, b2, b3, b4, b5, b6, b7, b8, b9, b10, b11, b12, b13, b14, b15, b16], _ => exact ⟨b0, b1, b2, b3, b4, b5, b6, b7, b8, b9, b10, b11, b12, b13, b14, b15, b16, rfl⟩
/-- Bit n of a row of bytes. -/
def fbit (bs : List Int) (n : Nat) : Int := bits .and .u8 (el bs (n / 8) / 2 ^ (n % 8)) 1
/-- Limb i behind so many bits. -/
def facc (bs : List Int) (i : Nat) : Nat → Int
  | 0 => 0
  | j + 1 => bits .or .u64 (facc bs i j) (IntKind.u64.wrap (IntKind.u64.wrap (fbit bs (26 * i + j)) * 2 ^ j))
/-- All limbs, those from i on still 0, limb i behind j bits. -/
def fall (bs : List Int) (i j : Nat) : List Int := (List.range 5).map fun k => if k < i then facc bs k 26 else if k = i then facc bs i j else 0
theorem fall_length (bs : List Int) (i j : Nat) : (fall bs i j).length = 5 := by simp [fall]
theorem el_fall (bs : List Int) (i j : Nat) (hi : i < 5) : el (fall bs i j) i = facc bs i j := by simp [fall, el, hi]
theorem fall_step (bs : List Int) (i j : Nat) (_hi : i < 5) : fall bs i (j + 1) = (fall bs i j).set i (facc bs i (j + 1)) := by
  apply List.ext_getElem
  · simp [fall]
  · intro n h1 h2
    simp [fall] at h1
    simp only [fall, List.getElem_map, List.getElem_range, List.getElem_set]
    by_cases h : i = n
    · subst h; simp
    · rw [if_neg h]; by_cases h3 : n < i
      · simp [h3]
      · have : ¬ n = i := fun e => h e.symm
        simp [h3, this]
theorem fall_next (bs : List Int) (i : Nat) : fall bs i 26 = fall bs (i + 1) 0 := by
  simp only [fall]
  apply List.map_congr_left
  intro k _
  by_cases h1 : k < i
  · rw [if_pos h1, if_pos (by omega)]
  · by_cases h2 : k = i
    · subst h2; rw [if_neg h1, if_pos rfl, if_pos (by omega)]
    · rw [if_neg h1, if_neg h2, if_neg (by omega)]
      by_cases h3 : k = i + 1
      · subst h3; simp [facc]
      · rw [if_neg h3]
def FiveEnds (bs : List Int) (w : World) (e : Ending) (w' : World) : Prop := e = .returned (.agg (nums .u64 (fall bs 5 0)).toArray) ∧ Below w.heap.size w w'
set_option maxHeartbeats 1000000 in
theorem five_walk (bs : List Int) (w : World) (hb : bs.length = 17) (hB : ∀ i, i < 17 → 0 ≤ el bs i ∧ el bs i ≤ 255) :
    Calls Try.prog 96 #[.agg (nums .u8 bs).toArray] w (FiveEnds bs w) := by
  obtain ⟨b0, b1, b2, b3, b4, b5, b6, b7, b8, b9, b10, b11, b12, b13, b14, b15, b16, eb⟩ := seventeen_of (k := .u8) hb
  rw [eb]
  have EB := Aside0.mk eb
  have LB := Aside0.mk hb
  have HBB := Aside0.mk hB
  clear eb hb hB
  go_enter Try.func96, Try.ntmps96
  go_wp2
  go_loopw [7] (fun v7 wr => ∃ i : Nat, i ≤ 5 ∧ v7 = .int .i64 i ∧ Aside0 (Arr wr w.heap.size 151 .u8 bs ∧ Arr wr (w.heap.size + 2) 152 .u64 (fall bs i 0) ∧ Arr wr (w.heap.size + 1) 152 .u64 [0, 0, 0, 0, 0] ∧ Below w.heap.size w wr)) (fun v7 _ => 5 - (intOf v7).toNat)
  case atStart =>
    refine ⟨0, by omega, rfl, ⟨?_, ?_, ?_, ?_⟩⟩
    · exact Arr.alloc (Arr.alloc (Arr.at_new rfl EB.out.symm) _) _
    · exact Arr.at_new (by simp) (by rfl)
    · exact Arr.alloc (Arr.at_new (by simp) (by rfl)) _
    · go_grown
  case round =>
    obtain ⟨i, hi, rfl, HW⟩ := hrel
    by_cases hlt : i < 5
    · have hi0 : (0 : Int) ≤ (i : Int) := by omega
      have hi5 : (i : Int) < 5 := by omega
      go_wp2
      go_loopw [10] (fun v10 wr => ∃ j : Nat, j ≤ 26 ∧ v10 = .int .i64 j ∧ Aside0 (Arr wr w.heap.size 151 .u8 bs ∧ Arr wr (w.heap.size + 2) 152 .u64 (fall bs i j) ∧ Arr wr (w.heap.size + 1) 152 .u64 [0, 0, 0, 0, 0] ∧ Below w.heap.size w wr)) (fun v10 _ => 26 - (intOf v10).toNat)
      case atStart => exact ⟨0, by omega, rfl, HW⟩
      case round =>
        obtain ⟨j, hj, rfl, HW⟩ := hrel
        by_cases hjt : j < 26
        · have hj0 : (0 : Int) ≤ (j : Int) := by omega
          have hj5 : (j : Int) < 26 := by omega
          have ca := HW.out.1.at_ ((26 * i + j) / 8) (by rw [LB.out]; omega)
          have ct := HW.out.2.1.at_ i (by rw [fall_length]; exact hlt)
          rw [el_fall _ _ _ hlt] at ct
          have ft := HW.out.2.1.free i
          go_wp2
          go_region
          go_wp2
          go_roundw
          case rel =>
            refine ⟨j + 1, by omega, by go_num, ⟨(Arr.far HW.out.1 (by dsimp only; omega) _).drew, ?_, (Arr.far HW.out.2.2.1 (by dsimp only; omega) _).drew, ?_⟩⟩
            · rw [fall_step _ _ _ hlt]
              exact (HW.out.2.1.store _ _).drew
            · exact (HW.out.2.2.2.setCell (by dsimp only; omega) _).drew
          case measure => simp [intOf]; omega
        · obtain rfl : j = 26 := by omega
          go_wp2
          go_roundw
          case rel => exact ⟨i + 1, by omega, by go_num, ⟨HW.out.1, (fall_next bs i) ▸ HW.out.2.1, HW.out.2.2⟩⟩
          case measure => simp [intOf]; omega
    · obtain rfl : i = 5 := by omega
      obtain ⟨t0, t1, t2, t3, t4, et⟩ := five_of (k := .u64) (fall_length bs 5 0)
      have HT : Blk wr (w.heap.size + 2) 152 #[.int .u64 t0, .int .u64 t1, .int .u64 t2, .int .u64 t3, .int .u64 t4] := et ▸ HW.out.2.1
      have HZ : Blk wr (w.heap.size + 1) 152 #[.int .u64 0, .int .u64 0, .int .u64 0, .int .u64 0, .int .u64 0] := HW.out.2.2.1
      have ET := Aside0.mk et
      clear et
      have c0 : wr.cell? ⟨w.heap.size + 2, 0, none⟩ = some (.int .u64 t0) := HT.cell 0
      have c1 : wr.cell? ⟨w.heap.size + 2, 1, none⟩ = some (.int .u64 t1) := HT.cell 1
      have c2 : wr.cell? ⟨w.heap.size + 2, 2, none⟩ = some (.int .u64 t2) := HT.cell 2
      have c3 : wr.cell? ⟨w.heap.size + 2, 3, none⟩ = some (.int .u64 t3) := HT.cell 3
      have c4 : wr.cell? ⟨w.heap.size + 2, 4, none⟩ = some (.int .u64 t4) := HT.cell 4
      have z0 : wr.cell? ⟨w.heap.size + 1, 0, none⟩ = some (.int .u64 0) := HZ.cell 0
      have z1 : wr.cell? ⟨w.heap.size + 1, 1, none⟩ = some (.int .u64 0) := HZ.cell 1
      have z2 : wr.cell? ⟨w.heap.size + 1, 2, none⟩ = some (.int .u64 0) := HZ.cell 2
      have z3 : wr.cell? ⟨w.heap.size + 1, 3, none⟩ = some (.int .u64 0) := HZ.cell 3
      have z4 : wr.cell? ⟨w.heap.size + 1, 4, none⟩ = some (.int .u64 0) := HZ.cell 4
      have f0 := HZ.frozen 0
      have f1 := HZ.frozen 1
      have f2 := HZ.frozen 2
      have f3 := HZ.frozen 3
      have f4 := HZ.frozen 4
      repeat (first | go_values | go_skip | go_guarded | go_step | go_upon)
      refine bodyPost_ret (v := .agg #[.int .u64 t0, .int .u64 t1, .int .u64 t2, .int .u64 t3, .int .u64 t4]) (by simp [results, Try.results96, go_sem, z0, z1, z2, z3, z4]) rfl ?_
      refine ⟨by rw [ET.out], ?_⟩
      have hbc := HW.out.2.2.2
      go_grown
end Go.Proofs.Ytajndpddlpnbkaa.B
