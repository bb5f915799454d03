/- The reference's clamped. -/
import Derived.Test.YtajndpddlpnbkaaHBytes
namespace Go.Proofs.Ytajndpddlpnbkaa.B
open Go.RowKit Go.Proofs.YtajndpddlpnbkaaW.PrintWords Go.Proofs.Ytajndpddlpnbkaa.Spec
/-- The first sixteen bytes, those below i clamped. -/
def cup (key : ByteArray) (i : Nat) : List Nat := (List.range 16).map fun k => if k < i then clampAt k (byteAt key k) else byteAt key k
theorem cup_length (key : ByteArray) (i : Nat) : (cup key i).length = 16 := by simp [cup]
theorem el_cup (key : ByteArray) (i : Nat) (hi : i < 16) : el (cast (cup key i)) i = (byteAt key i : Int) := by
  rw [el_cast]; simp [cup, hi]
theorem cup_step (key : ByteArray) (i : Nat) (_hi : i < 16) : cast (cup key (i + 1)) = (cast (cup key i)).set i ((clampAt i (byteAt key i) : Nat) : Int) := by
  apply List.ext_getElem
  · simp [cast, cup]
  · intro n h1 h2
    simp only [cast, cup, List.getElem_map, List.getElem_range, List.getElem_set]
    by_cases h : i = n
    · subst h; simp
    · rw [if_neg h]
      by_cases h3 : n < i
      · rw [if_pos h3, if_pos (by omega)]
      · rw [if_neg h3, if_neg (by omega)]
theorem cup_same (key : ByteArray) (i : Nat) (h : clampAt i (byteAt key i) = byteAt key i) : cup key (i + 1) = cup key i := by
  unfold cup
  apply List.map_congr_left
  intro n _
  by_cases h3 : n < i
  · rw [if_pos h3, if_pos (by omega)]
  · by_cases h4 : n = i
    · subst h4; rw [if_pos (by omega), if_neg h3, h]
    · rw [if_neg h3, if_neg (by omega)]
theorem cup_zero (key : ByteArray) (hk : key.size = 32) : cast (nats (key.extract 0 16)) = cast (cup key 0) := by
  congr 1
  apply List.ext_getElem
  · rw [nats_length, ByteArray.size_extract, cup_length, hk]; rfl
  · intro n h1 h2
    rw [cup_length] at h2
    simp only [cup, List.getElem_map, List.getElem_range]
    rw [if_neg (by omega)]
    have h3 : n < (key.extract 0 16).size := by rw [nats_length] at h1; exact h1
    unfold byteAt at_
    have h4 : n < (nats key).length := by rw [nats_length, hk]; omega
    rw [List.getD_eq_getElem?_getD, List.getElem?_eq_getElem h4]
    simp only [nats, List.getElem_map, Option.getD_some, ByteArray.data_extract, Array.getElem_toList, Array.getElem_extract, Nat.zero_add]
theorem cup_all (key : ByteArray) (hk : key.size = 32) : strOfNums (cast (cup key 16)) = clampedF key := by
  rw [strOfNums_cast, clampedF]
  congr 2
  congr 1
  have hl : ((nats key).take 16).length = 16 := by rw [List.length_take, nats_length, hk]; rfl
  have hc : ∀ (l : List Nat) (i : Nat), clamps i l = (List.range l.length).map fun k => clampAt (i + k) (l.getD k 0) := by
    intro l
    induction l with
    | nil => intro i; rfl
    | cons b l ih =>
      intro i
      rw [clamps, ih, List.length_cons, List.range_succ_eq_map, List.map_cons, List.map_map]
      congr 1
      apply List.map_congr_left
      intro k _
      simp only [Function.comp, List.getD_cons_succ]
      congr 1
      omega
  rw [hc, hl]
  unfold cup
  apply List.map_congr_left
  intro k hk'
  have hk' : k < 16 := by simpa using hk'
  rw [if_pos hk', Nat.zero_add]
  congr 1
  unfold byteAt at_
  rw [List.getD_eq_getElem?_getD, List.getD_eq_getElem?_getD, List.getElem?_take_of_lt hk']
set_option maxHeartbeats 1000000 in
theorem clamped_walk (key : ByteArray) (w : World) (hk : key.size = 32) :
    Calls Try.prog 103 #[.string key] w fun e w' => e = .returned (.string (clampedF key)) ∧ Below w.heap.size w w' := by
  have hk1 : (16 : Int) ≤ (key.size : Int) := by omega
  have kb : ∀ W : World, (convert 9 70 (.string (key.extract 0 16))).run Try.prog W = .ok (.slice (some ⟨W.heap.size, 0, none⟩) 16 (grownCap W 16 0 5)) (Lib.bytesWorld W 5 (key.extract 0 16)) := fun W => by
    have h := Lib.run_convert_string_bytes W 9 70 5 (key.extract 0 16) Try.underlying9 Try.underlying70 Try.underlying5
    rwa [show (key.extract 0 16).size = 16 from by rw [ByteArray.size_extract, hk]; rfl] at h
  have HZ := Aside0.mk (cup_zero key hk)
  have HA := Aside0.mk (cup_all key hk)
  go_enter Try.func103, Try.ntmps103
  go_wp2
  clear kb
  go_loopw [4] (fun v4 wr => ∃ i : Nat, v4 = .int .i64 i ∧ Aside0 (i ≤ 16 ∧ Bts wr w.heap.size 5 (cast (cup key i)) ∧ Below w.heap.size w wr)) (fun v4 _ => 16 - (intOf v4).toNat)
  case atStart => exact ⟨0, rfl, ⟨by omega, HZ.out ▸ Bts.new w _ _, bytesWorld_below (Below.refl _ _) (Nat.le_refl _) _ _⟩⟩
  case round =>
    obtain ⟨i, rfl, HW⟩ := hrel
    have hi16 : i ≤ 16 := HW.out.1
    by_cases hlt : i < 16
    · have hi0 : (0 : Int) ≤ (i : Int) := by omega
      have hi1 : (i : Int) < 16 := by omega
      have ca := HW.out.2.1.at_ i (by rw [cast_length, cup_length]; exact hlt)
      rw [el_cup key i hlt] at ca
      have fa := HW.out.2.1.free i (by rw [cast_length, cup_length]; exact hlt)
      have hbl := byteAt_lt key i
      by_cases h3 : i % 4 = 3
      · have b3 : (((i : Int) % 4) == 3) = true := by rw [beq_iff_eq]; omega
        have b0 : (((i : Int) % 4) == 0) = false := by rw [beq_eq_false_iff_ne]; omega
        have hC : Aside0 (clampAt i (byteAt key i) = byteAt key i % 16) := ⟨by unfold clampAt; rw [if_pos h3]⟩
        clear h3
        go_wp2
        go_roundw
        case rel =>
          refine ⟨i + 1, by go_num, ⟨by omega, ?_, HW.out.2.2.setCell (by dsimp only; omega) _⟩⟩
          rw [cup_step key i hlt, hC.out, Int.natCast_emod]
          exact HW.out.2.1.store _ _
        case measure => simp [intOf]; omega
      · by_cases h0 : i % 4 = 0 ∧ 0 < i
        · have b3 : (((i : Int) % 4) == 3) = false := by rw [beq_eq_false_iff_ne]; omega
          have b0 : (((i : Int) % 4) == 0) = true := by rw [beq_iff_eq]; omega
          have b1 : (0 : Int) < (i : Int) := by omega
          have hC : Aside0 (clampAt i (byteAt key i) = byteAt key i - byteAt key i % 4) := ⟨by unfold clampAt; rw [if_neg h3, if_pos h0]⟩
          clear h3 h0
          go_wp2
          go_region
          go_wp2
          go_roundw
          case rel =>
            refine ⟨i + 1, by go_num, ⟨by omega, ?_, ?_⟩⟩
            · rw [cup_step key i hlt, hC.out, Int.ofNat_sub (Nat.mod_le _ _), Int.natCast_emod]
              exact (HW.out.2.1.store _ _).drew
            · exact (HW.out.2.2.setCell (by dsimp only; omega) _).drew
          case measure => simp [intOf]; omega
        · have b3 : (((i : Int) % 4) == 3) = false := by rw [beq_eq_false_iff_ne]; omega
          have hC : Aside0 (clampAt i (byteAt key i) = byteAt key i) := ⟨by unfold clampAt; rw [if_neg h3, if_neg h0]⟩
          by_cases h4 : i % 4 = 0
          · have b0 : (((i : Int) % 4) == 0) = true := by rw [beq_iff_eq]; omega
            have b1 : ¬ (0 : Int) < (i : Int) := by omega
            have b2 : decide ((0 : Int) < (i : Int)) = false := decide_eq_false b1
            clear h3 h0 h4
            go_wp2
            go_roundw
            case rel =>
              refine ⟨i + 1, by go_num, ⟨by omega, ?_, HW.out.2.2⟩⟩
              rw [cup_same key i hC.out]; exact HW.out.2.1
            case measure => simp [intOf]; omega
          · have b0 : (((i : Int) % 4) == 0) = false := by rw [beq_eq_false_iff_ne]; omega
            clear h3 h0 h4
            go_wp2
            go_roundw
            case rel =>
              refine ⟨i + 1, by go_num, ⟨by omega, ?_, HW.out.2.2⟩⟩
              rw [cup_same key i hC.out]; exact HW.out.2.1
            case measure => simp [intOf]; omega
    · obtain rfl : i = 16 := by omega
      have kc := fun cap => Bts.string (P := Try.prog) HW.out.2.1 Try.underlying70 Try.underlying5 Try.underlying9 16 cap (by rw [cast_length, cup_length])
      rw [HA.out] at kc
      go_wp2
      go_ret
      exact ⟨rfl, HW.out.2.2⟩
def grapnelref03_clamped.f (a0 : ByteArray) : Option ByteArray := if a0.size = 32 then some (Spec.clampedF a0) else none
end Go.Proofs.Ytajndpddlpnbkaa.B
