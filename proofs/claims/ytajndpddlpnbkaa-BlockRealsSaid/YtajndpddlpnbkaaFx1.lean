/- Words and walks for the row that is claimed: what it needs of them. -/
import Derived.Test.YtajndpddlpnbkaaFx0
namespace Go.Proofs.Ytajndpddlpnbkaa.F
open Go.RowKit Go.Proofs.YtajndpddlpnbkaaW.PrintWords Go.Proofs.YtajndpddlpnbkaaW.PrintLast Go.Proofs.YtajndpddlpnbkaaW.PrintMore
attribute [local go_sem] max2_int min2_int max_two min_two max_three min_three max_four min_four   -- for this text's walks alone
set_option linter.unusedVariables false
set_option linter.unusedSimpArgs false
mutual
def box_framed.l0 : Nat → List Int → List Int → Int → Int → Option (ByteArray)
  | 0, _, _, _, _ => none
  | k + 1, x5, x33, x34, x35 => if x35 < x34 then (if 0 ≤ x35 then (if x35 < (x33.length : Int) then (box_framed.l1 k x5 (rd x33 x35) x33 x34 x35 0) else (none)) else (none)) else (some (strOfNums x5))
def box_framed.l1 : Nat → List Int → Int → List Int → Int → Int → Int → Option (ByteArray)
  | 0, _, _, _, _, _, _ => none
  | k + 1, x5, x7, x33, x34, x35, x39 => if x39 < 8 then (if 0 ≤ (wrap64 (8 * x39)) then (if x5.length < 140737488355328 then (box_framed.l1 k (x5 ++ [(shr .i64 x7 (wrap64 (8 * x39))) % 256]) x7 x33 x34 x35 (wrap64 (x39 + 1))) else (none)) else (none)) else (box_framed.l0 k x5 x33 x34 (wrap64 (x35 + 1)))
end
def box_framed.f (k : Nat) (a0 : ByteArray) (a1 : ByteArray) : Option (ByteArray) := (some (([] : List Int) : List Int)).bind fun y101 => (if y101.length + a0.size < 140737488355328 then ((some (y101 ++ bytesOf a0 : List Int)).bind fun y104 => (if 0 ≤ ((16 - ((a0.size : Int) % 16)) % 16) then (if y104.length + ((16 - ((a0.size : Int) % 16)) % 16 : Int).toNat < 140737488355328 then ((some (y104 ++ List.replicate ((16 - ((a0.size : Int) % 16)) % 16 : Int).toNat 0 : List Int)).bind fun y107 => (if y107.length + a1.size < 140737488355328 then ((some (y107 ++ bytesOf a1 : List Int)).bind fun y110 => (if 0 ≤ ((16 - ((a1.size : Int) % 16)) % 16) then (if y110.length + ((16 - ((a1.size : Int) % 16)) % 16 : Int).toNat < 140737488355328 then ((some (([(a0.size : Int), (a1.size : Int)] : List Int) : List Int)).bind fun y116 => (box_framed.l0 k (y110 ++ List.replicate ((16 - ((a1.size : Int) % 16)) % 16 : Int).toNat 0) y116 (y116.length : Int) 0)) else (none)) else (none))) else (none))) else (none)) else (none))) else (none))
set_option maxHeartbeats 8000000 in
set_option maxRecDepth 100000 in
theorem box_framed.calls (k : Nat) (a0 : ByteArray) (a1 : ByteArray) (r : ByteArray) (w : World) (h : box_framed.f k a0 a1 = some r) :
    Calls Try.prog 76 #[.string a0, .string a1] w fun e w' => e = .returned (.string r) ∧ Below w.heap.size w w' := by
  have HB := Aside0.mk (Below.refl w.heap.size w)
  have H : ((some (([] : List Int) : List Int)).bind fun y101 => (if y101.length + a0.size < 140737488355328 then ((some (y101 ++ bytesOf a0 : List Int)).bind fun y104 => (if 0 ≤ ((16 - ((a0.size : Int) % 16)) % 16) then (if y104.length + ((16 - ((a0.size : Int) % 16)) % 16 : Int).toNat < 140737488355328 then ((some (y104 ++ List.replicate ((16 - ((a0.size : Int) % 16)) % 16 : Int).toNat 0 : List Int)).bind fun y107 => (if y107.length + a1.size < 140737488355328 then ((some (y107 ++ bytesOf a1 : List Int)).bind fun y110 => (if 0 ≤ ((16 - ((a1.size : Int) % 16)) % 16) then (if y110.length + ((16 - ((a1.size : Int) % 16)) % 16 : Int).toNat < 140737488355328 then ((some (([(a0.size : Int), (a1.size : Int)] : List Int) : List Int)).bind fun y116 => (box_framed.l0 k (y110 ++ List.replicate ((16 - ((a1.size : Int) % 16)) % 16 : Int).toNat 0) y116 (y116.length : Int) 0)) else (none)) else (none))) else (none))) else (none)) else (none))) else (none))) = some r := h
  clear h
  obtain ⟨y101, hy101⟩ : ∃ y_ : List Int, y_ = (([] : List Int)) := ⟨_, rfl⟩
  replace H : (if y101.length + a0.size < 140737488355328 then ((some (y101 ++ bytesOf a0 : List Int)).bind fun y104 => (if 0 ≤ ((16 - ((a0.size : Int) % 16)) % 16) then (if y104.length + ((16 - ((a0.size : Int) % 16)) % 16 : Int).toNat < 140737488355328 then ((some (y104 ++ List.replicate ((16 - ((a0.size : Int) % 16)) % 16 : Int).toNat 0 : List Int)).bind fun y107 => (if y107.length + a1.size < 140737488355328 then ((some (y107 ++ bytesOf a1 : List Int)).bind fun y110 => (if 0 ≤ ((16 - ((a1.size : Int) % 16)) % 16) then (if y110.length + ((16 - ((a1.size : Int) % 16)) % 16 : Int).toNat < 140737488355328 then ((some (([(a0.size : Int), (a1.size : Int)] : List Int) : List Int)).bind fun y116 => (box_framed.l0 k (y110 ++ List.replicate ((16 - ((a1.size : Int) % 16)) % 16 : Int).toNat 0) y116 (y116.length : Int) 0)) else (none)) else (none))) else (none))) else (none)) else (none))) else (none)) = some r := by first | (rw [hy101]; with_reducible exact H) | (have H2_ := (Option.bind_some _ _).symm.trans H; rw [hy101]; with_reducible exact H2_) | (have H2_ := (Option.bind_some _ _).symm.trans H; with_reducible exact H2_) | with_reducible exact H | (rw [hy101]; exact H) | exact H
  have Ny101 := Aside0.mk hy101
  clear hy101
  by_cases c3 : y101.length + a0.size < 140737488355328
  · rw [if_pos c3] at H
    have LMc3 := Aside0.mk c3
    clear c3
    obtain ⟨y104, hy104⟩ : ∃ y_ : List Int, y_ = (y101 ++ bytesOf a0) := ⟨_, rfl⟩
    replace H : (if 0 ≤ ((16 - ((a0.size : Int) % 16)) % 16) then (if y104.length + ((16 - ((a0.size : Int) % 16)) % 16 : Int).toNat < 140737488355328 then ((some (y104 ++ List.replicate ((16 - ((a0.size : Int) % 16)) % 16 : Int).toNat 0 : List Int)).bind fun y107 => (if y107.length + a1.size < 140737488355328 then ((some (y107 ++ bytesOf a1 : List Int)).bind fun y110 => (if 0 ≤ ((16 - ((a1.size : Int) % 16)) % 16) then (if y110.length + ((16 - ((a1.size : Int) % 16)) % 16 : Int).toNat < 140737488355328 then ((some (([(a0.size : Int), (a1.size : Int)] : List Int) : List Int)).bind fun y116 => (box_framed.l0 k (y110 ++ List.replicate ((16 - ((a1.size : Int) % 16)) % 16 : Int).toNat 0) y116 (y116.length : Int) 0)) else (none)) else (none))) else (none))) else (none)) else (none)) = some r := by first | (rw [hy104]; with_reducible exact H) | (have H2_ := (Option.bind_some _ _).symm.trans H; rw [hy104]; with_reducible exact H2_) | (have H2_ := (Option.bind_some _ _).symm.trans H; with_reducible exact H2_) | with_reducible exact H | (rw [hy104]; exact H) | exact H
    have Ny104 := Aside0.mk hy104
    clear hy104
    obtain ⟨ji4, hji4⟩ : ∃ j_ : Int, ((16 - ((a0.size : Int) % 16)) % 16) = j_ := ⟨_, rfl⟩
    replace H : (if 0 ≤ (ji4) then (if y104.length + (ji4 : Int).toNat < 140737488355328 then ((some (y104 ++ List.replicate (ji4 : Int).toNat 0 : List Int)).bind fun y107 => (if y107.length + a1.size < 140737488355328 then ((some (y107 ++ bytesOf a1 : List Int)).bind fun y110 => (if 0 ≤ ((16 - ((a1.size : Int) % 16)) % 16) then (if y110.length + ((16 - ((a1.size : Int) % 16)) % 16 : Int).toNat < 140737488355328 then ((some (([(a0.size : Int), (a1.size : Int)] : List Int) : List Int)).bind fun y116 => (box_framed.l0 k (y110 ++ List.replicate ((16 - ((a1.size : Int) % 16)) % 16 : Int).toNat 0) y116 (y116.length : Int) 0)) else (none)) else (none))) else (none))) else (none)) else (none)) = some r := by first | (rw [hji4] at H; exact H) | (simp only [hji4] at H ⊢; exact H)
    by_cases c5 : 0 ≤ (ji4)
    · rw [if_pos c5] at H
      have c5b0 := eq_true c5
      have c5b1 : decide (0 ≤ (ji4)) = true := decide_eq_true c5
      clear c5
      by_cases c6 : y104.length + (ji4 : Int).toNat < 140737488355328
      · rw [if_pos c6] at H
        have LMc6 := Aside0.mk c6
        clear c6
        obtain ⟨y107, hy107⟩ : ∃ y_ : List Int, y_ = (y104 ++ List.replicate (ji4 : Int).toNat 0) := ⟨_, rfl⟩
        replace H : (if y107.length + a1.size < 140737488355328 then ((some (y107 ++ bytesOf a1 : List Int)).bind fun y110 => (if 0 ≤ ((16 - ((a1.size : Int) % 16)) % 16) then (if y110.length + ((16 - ((a1.size : Int) % 16)) % 16 : Int).toNat < 140737488355328 then ((some (([(a0.size : Int), (a1.size : Int)] : List Int) : List Int)).bind fun y116 => (box_framed.l0 k (y110 ++ List.replicate ((16 - ((a1.size : Int) % 16)) % 16 : Int).toNat 0) y116 (y116.length : Int) 0)) else (none)) else (none))) else (none)) = some r := by first | (rw [hy107]; with_reducible exact H) | (have H2_ := (Option.bind_some _ _).symm.trans H; rw [hy107]; with_reducible exact H2_) | (have H2_ := (Option.bind_some _ _).symm.trans H; with_reducible exact H2_) | with_reducible exact H | (rw [hy107]; exact H) | exact H
        have Ny107 := Aside0.mk hy107
        clear hy107
        by_cases c7 : y107.length + a1.size < 140737488355328
        · rw [if_pos c7] at H
          have LMc7 := Aside0.mk c7
          clear c7
          obtain ⟨y110, hy110⟩ : ∃ y_ : List Int, y_ = (y107 ++ bytesOf a1) := ⟨_, rfl⟩
          replace H : (if 0 ≤ ((16 - ((a1.size : Int) % 16)) % 16) then (if y110.length + ((16 - ((a1.size : Int) % 16)) % 16 : Int).toNat < 140737488355328 then ((some (([(a0.size : Int), (a1.size : Int)] : List Int) : List Int)).bind fun y116 => (box_framed.l0 k (y110 ++ List.replicate ((16 - ((a1.size : Int) % 16)) % 16 : Int).toNat 0) y116 (y116.length : Int) 0)) else (none)) else (none)) = some r := by first | (rw [hy110]; with_reducible exact H) | (have H2_ := (Option.bind_some _ _).symm.trans H; rw [hy110]; with_reducible exact H2_) | (have H2_ := (Option.bind_some _ _).symm.trans H; with_reducible exact H2_) | with_reducible exact H | (rw [hy110]; exact H) | exact H
          have Ny110 := Aside0.mk hy110
          clear hy110
          obtain ⟨ji8, hji8⟩ : ∃ j_ : Int, ((16 - ((a1.size : Int) % 16)) % 16) = j_ := ⟨_, rfl⟩
          replace H : (if 0 ≤ (ji8) then (if y110.length + (ji8 : Int).toNat < 140737488355328 then ((some (([(a0.size : Int), (a1.size : Int)] : List Int) : List Int)).bind fun y116 => (box_framed.l0 k (y110 ++ List.replicate (ji8 : Int).toNat 0) y116 (y116.length : Int) 0)) else (none)) else (none)) = some r := by first | (rw [hji8] at H; exact H) | (simp only [hji8] at H ⊢; exact H)
          by_cases c9 : 0 ≤ (ji8)
          · rw [if_pos c9] at H
            have c9b0 := eq_true c9
            have c9b1 : decide (0 ≤ (ji8)) = true := decide_eq_true c9
            clear c9
            by_cases c10 : y110.length + (ji8 : Int).toNat < 140737488355328
            · rw [if_pos c10] at H
              have LMc10 := Aside0.mk c10
              clear c10
              obtain ⟨y113, hy113⟩ : ∃ y_ : List Int, y_ = (y110 ++ List.replicate (ji8 : Int).toNat 0) := ⟨_, rfl⟩
              replace H : ((some (([(a0.size : Int), (a1.size : Int)] : List Int) : List Int)).bind fun y116 => (box_framed.l0 k y113 y116 (y116.length : Int) 0)) = some r := by first | (rw [hy113]; with_reducible exact H) | (have H2_ := (Option.bind_some _ _).symm.trans H; rw [hy113]; with_reducible exact H2_) | (have H2_ := (Option.bind_some _ _).symm.trans H; with_reducible exact H2_) | with_reducible exact H | (rw [hy113]; exact H) | exact H
              have Ny113 := Aside0.mk hy113
              clear hy113
              obtain ⟨y116, hy116⟩ : ∃ y_ : List Int, y_ = (([(a0.size : Int), (a1.size : Int)] : List Int)) := ⟨_, rfl⟩
              replace H : (box_framed.l0 k y113 y116 (y116.length : Int) 0) = some r := by first | (rw [hy116]; with_reducible exact H) | (have H2_ := (Option.bind_some _ _).symm.trans H; rw [hy116]; with_reducible exact H2_) | (have H2_ := (Option.bind_some _ _).symm.trans H; with_reducible exact H2_) | with_reducible exact H | (rw [hy116]; exact H) | exact H
              have Ny116 := Aside0.mk hy116
              clear hy116
              have H' := Aside0.mk H
              clear H
              go_enter Try.func76, Try.ntmps76
              go_wp2_with (first | ((with_reducible refine gate_dst (N := 9) rfl ?_); refine Kd.R_lit (Kd.int .u8) _ 5 ?hg (N := 9) ?hd (xs := ([] : List Int)) (inner := []) (ok := fun _ => True) (okp := fun _ => True) ?hr ?hp (fun _ hk => hk) trivial (Below.refl _ _) (Nat.le_refl _) (by simp) ?_; (case hd => rfl); (case hg => rfl); (case hr => first | (go_simp; done) | (go_simp; rfl)); (case hp => exact (Reps.none _ _)); intro v102 w11 ho12 hb hg_ hnew_; clear hg_ hnew_; (first | rw [← Ny101.out] at ho12 | (simp only [Int.reduceToNat] at ho12; rw [← Ny101.out] at ho12)); have n0_ := Aside0.mk (Kd.R_lower ho12 (below_size (by repeat (first | (with_reducible first | exact HB.out | apply below_alloc | apply pw_below_drewN | apply below_drew1) | exact HB.out)))); have n1_ := Aside0.mk (below_step (by repeat (first | (with_reducible first | exact HB.out | apply below_alloc | apply pw_below_drewN | apply below_drew1) | exact HB.out)) hb); clear HB; have HO103 := n0_; have HB := n1_; clear n0_ n1_; clear hb ho12) | (at_builtin; refine print_append_str (w0 := w) w.heap.size rfl (.tmp 9) _ 70 9 5 rfl Try.underlying70 Try.underlying9 info5 v102 y101 a0 rfl rfl ?aO ?aB ?aS ?aL ?_; (case aB => exact (by repeat (first | (with_reducible first | exact HB.out | apply below_alloc | apply pw_below_drewN | apply below_drew1) | exact HB.out))); (case aO => exact (Kd.own_of_R (by (with_reducible repeat (first | apply Kd.R_alloc | apply Kd.R_drewN | apply Kd.R_drew)); exact HO103.out))); (case aS => exact (below_size (by repeat (first | (with_reducible first | exact HB.out | apply below_alloc | apply pw_below_drewN | apply below_drew1) | exact HB.out)))); (case aL => have := LMc3.out; omega); intro v105 w13 ho0 hb hg; have ho := Kd.R_of_own (h1 := fun _ => rfl) (ok := fun _ => True) ho0 (fun _ _ => trivial); clear ho0; have hat := True.intro; rw [← Ny104.out] at ho; change Kd.R (Kd.int .u8) 5 w13 w.heap.size (fun _ => True) v105 y104 at ho; have n0_ := Aside0.mk (hb); have n1_ := Aside0.mk (ho); clear HB; clear HO103; have HB := n0_; have HO106 := n1_; clear n0_ n1_; clear ho hb hg hat) | (at_builtin; refine Kd.R_append_zeros (Kd.int .u8) (w0 := w) w.heap.size rfl (.tmp 12) (.tmp 17) 70 3 5 (.int .u8 0) 1 rfl Try.underlying70 Try.underlying3 info5 rfl (by decide) (by omega) v105 y104 0 (ji4 : Int) (fun _ => True) rfl (by first | rfl | exact congrArg (Value.int _) hji4) rfl ?aF ?aO (of_decide_eq_true (by first | (with_reducible assumption) | assumption)) ?aB ?aS ?aL ?_; (case aB => exact (by repeat (first | (with_reducible first | exact HB.out | apply below_alloc | apply pw_below_drewN | apply below_drew1) | exact HB.out))); (case aF => exact (fun _ _ => trivial)); (case aO => exact (by (with_reducible repeat (first | apply Kd.R_alloc | apply Kd.R_drewN | apply Kd.R_drew)); exact HO106.out)); (case aS => exact (below_size (by repeat (first | (with_reducible first | exact HB.out | apply below_alloc | apply pw_below_drewN | apply below_drew1) | exact HB.out)))); (case aL => have := LMc6.out; omega); intro v108 w14 ho hb hg hat; rw [← Ny107.out] at ho; have n0_ := Aside0.mk (hb); have n1_ := Aside0.mk (ho); clear HB; clear HO106; have HB := n0_; have HO109 := n1_; clear n0_ n1_; clear ho hb hg hat) | (at_builtin; refine print_append_str (w0 := w) w.heap.size rfl (.tmp 19) _ 70 9 5 rfl Try.underlying70 Try.underlying9 info5 v108 y107 a1 rfl rfl ?aO ?aB ?aS ?aL ?_; (case aB => exact (by repeat (first | (with_reducible first | exact HB.out | apply below_alloc | apply pw_below_drewN | apply below_drew1) | exact HB.out))); (case aO => exact (Kd.own_of_R (by (with_reducible repeat (first | apply Kd.R_alloc | apply Kd.R_drewN | apply Kd.R_drew)); exact HO109.out))); (case aS => exact (below_size (by repeat (first | (with_reducible first | exact HB.out | apply below_alloc | apply pw_below_drewN | apply below_drew1) | exact HB.out)))); (case aL => have := LMc7.out; omega); intro v111 w15 ho0 hb hg; have ho := Kd.R_of_own (h1 := fun _ => rfl) (ok := fun _ => True) ho0 (fun _ _ => trivial); clear ho0; have hat := True.intro; rw [← Ny110.out] at ho; change Kd.R (Kd.int .u8) 5 w15 w.heap.size (fun _ => True) v111 y110 at ho; have n0_ := Aside0.mk (hb); have n1_ := Aside0.mk (ho); clear HB; clear HO109; have HB := n0_; have HO112 := n1_; clear n0_ n1_; clear ho hb hg hat) | (at_builtin; refine Kd.R_append_zeros (Kd.int .u8) (w0 := w) w.heap.size rfl (.tmp 22) (.tmp 27) 70 3 5 (.int .u8 0) 1 rfl Try.underlying70 Try.underlying3 info5 rfl (by decide) (by omega) v111 y110 0 (ji8 : Int) (fun _ => True) rfl (by first | rfl | exact congrArg (Value.int _) hji8) rfl ?aF ?aO (of_decide_eq_true (by first | (with_reducible assumption) | assumption)) ?aB ?aS ?aL ?_; (case aB => exact (by repeat (first | (with_reducible first | exact HB.out | apply below_alloc | apply pw_below_drewN | apply below_drew1) | exact HB.out))); (case aF => exact (fun _ _ => trivial)); (case aO => exact (by (with_reducible repeat (first | apply Kd.R_alloc | apply Kd.R_drewN | apply Kd.R_drew)); exact HO112.out)); (case aS => exact (below_size (by repeat (first | (with_reducible first | exact HB.out | apply below_alloc | apply pw_below_drewN | apply below_drew1) | exact HB.out)))); (case aL => have := LMc10.out; omega); intro v114 w16 ho hb hg hat; rw [← Ny113.out] at ho; have n0_ := Aside0.mk (hb); have n1_ := Aside0.mk (ho); clear HB; clear HO112; have HB := n0_; have HO115 := n1_; clear n0_ n1_; clear ho hb hg hat) | ((with_reducible refine gate_dst (N := 33) rfl ?_); refine Kd.R_lit (Kd.int .i64) _ 3 ?hg (N := 33) ?hd (xs := ([(a0.size : Int), (a1.size : Int)] : List Int)) (inner := [.int .i64 (a0.size : Int), .int .i64 (a1.size : Int)]) (ok := fun _ => True) (okp := fun _ => True) ?hr ?hp (fun _ hk => hk) trivial (Below.refl _ _) (Nat.le_refl _) (by simp) ?_; (case hd => rfl); (case hg => rfl); (case hr => first | (go_simp; done) | (go_simp; rfl)); (case hp => exact (Reps.one (show Kd.M (Kd.int .i64) _ _ _ (a0.size : Int) [.int .i64 (a0.size : Int)] from rfl) (Reps.one (show Kd.M (Kd.int .i64) _ _ _ (a1.size : Int) [.int .i64 (a1.size : Int)] from rfl) (Reps.none _ _)))); intro v117 w17 ho18 hb hg_ hnew_; clear hg_ hnew_; (first | rw [← Ny116.out] at ho18 | (simp only [Int.reduceToNat] at ho18; rw [← Ny116.out] at ho18)); have n0_ := Aside0.mk (Kd.R_below (by (with_reducible repeat (first | apply Kd.R_alloc | apply Kd.R_drewN | apply Kd.R_drew)); exact HO115.out) hb); have n1_ := Aside0.mk (Kd.R_lower ho18 (below_size (by repeat (first | (with_reducible first | exact HB.out | apply below_alloc | apply pw_below_drewN | apply below_drew1) | exact HB.out)))); have n2_ := Aside0.mk (below_step (by repeat (first | (with_reducible first | exact HB.out | apply below_alloc | apply pw_below_drewN | apply below_drew1) | exact HB.out)) hb); clear HO115; clear HB; have HO115 := n0_; have HO118 := n1_; have HB := n2_; clear n0_ n1_ n2_; clear hb ho18; obtain ⟨Ao19, co19, eo19⟩ := Kd.R_slice HO118.out; subst eo19))
              go_loopg [5, 35] k (fun kq v5 v35 w' => ∃ (x5_1 : List Int) (x35_1 : Int), v35 = .int .i64 x35_1 ∧ Aside0 (box_framed.l0 kq x5_1 y116 (y116.length : Int) x35_1 = some r) ∧ Aside0 (kq ≤ k) ∧ Aside0 (Kd.R (Kd.int .u8) 5 w' w.heap.size (fun _ => True) v5 x5_1) ∧ Aside0 (Kd.R (Kd.int .i64) 3 w' w.heap.size (fun _ => True) (.slice Ao19 y116.length co19) y116) ∧ Aside0 (Below w.heap.size w w'))
              case atStart => exact ⟨(y113), (0), (by first | rfl | (simp; done) | (simp [*]; done)), H', ⟨Nat.le_refl _⟩, ⟨by (with_reducible repeat (first | apply Kd.R_alloc | apply Kd.R_drewN | apply Kd.R_drew)); exact HO115.out⟩, ⟨by (with_reducible repeat (first | apply Kd.R_alloc | apply Kd.R_drewN | apply Kd.R_drew)); exact HO118.out⟩, ⟨by repeat (first | (with_reducible first | exact HB.out | apply below_alloc | apply pw_below_drewN | apply below_drew1) | exact HB.out)⟩⟩
              case round =>
                clear H'
                try clear c1
                try clear p2
                try clear c3
                try clear c5
                try clear c5b0
                try clear c5b1
                try clear c6
                try clear c7
                try clear c9
                try clear c9b0
                try clear c9b1
                try clear c10
                obtain ⟨x5_1, x35_1, rfl, HA, HK1, HO_5, HO_33, HB⟩ := hrel
                cases gk with
                | zero => exact absurd HA.out (by simp [box_framed.l0])
                | succ k1 =>
                  have H := HA.out
                  clear HA
                  simp only [box_framed.l0] at H
                  by_cases c20 : x35_1 < (y116.length : Int)
                  · rw [if_pos c20] at H
                    have c20b0 : decide (x35_1 < (y116.length : Int)) = true := decide_eq_true c20
                    clear c20
                    by_cases c21 : 0 ≤ x35_1
                    · rw [if_pos c21] at H
                      have c21b0 : decide (0 ≤ x35_1) = true := decide_eq_true c21
                      clear c21
                      by_cases c22 : x35_1 < (y116.length : Int)
                      · rw [if_pos c22] at H
                        have c22b0 : decide (x35_1 < (y116.length : Int)) = true := decide_eq_true c22
                        clear c22
                        have H' := Aside0.mk H
                        clear H
                        have p119 : 0 ≤ (x35_1 : Int) := of_decide_eq_true (by first | (with_reducible assumption) | assumption)
                        have q119 : x35_1 < (y116.length : Int) := of_decide_eq_true (by first | (with_reducible assumption) | assumption)
                        obtain ⟨ad119, e119, hx119_0⟩ := Kd.at_int (Kd.R_reads' HO_33.out).2.2 x35_1 p119 q119
                        cases e119
                        replace p119 := eq_true p119
                        replace q119 := eq_true q119
                        go_wp2
                        go_loopg [5, 39] k1 (fun kq v5 v39 w' => ∃ (x5_2 : List Int) (x39_2 : Int), v39 = .int .i64 x39_2 ∧ Aside0 (box_framed.l1 kq x5_2 (rd y116 x35_1) y116 (y116.length : Int) x35_1 x39_2 = some r) ∧ Aside0 (kq ≤ k1) ∧ Aside0 (Kd.R (Kd.int .u8) 5 w' w.heap.size (fun _ => True) v5 x5_2) ∧ Aside0 (Kd.R (Kd.int .i64) 3 w' w.heap.size (fun _ => True) (.slice (some ad119) y116.length co19) y116) ∧ Aside0 (Below w.heap.size w w'))
                        case atStart => exact ⟨(x5_1), (0), (by first | rfl | (simp; done) | (simp [*]; done)), H', ⟨Nat.le_refl _⟩, ⟨by (with_reducible repeat (first | apply Kd.R_alloc | apply Kd.R_drewN | apply Kd.R_drew)); exact HO_5.out⟩, ⟨by (with_reducible repeat (first | apply Kd.R_alloc | apply Kd.R_drewN | apply Kd.R_drew)); exact HO_33.out⟩, ⟨by repeat (first | (with_reducible first | exact HB.out | apply below_alloc | apply pw_below_drewN | apply below_drew1) | exact HB.out)⟩⟩
                        case round =>
                          clear H'
                          try clear c1
                          try clear p1
                          try clear q1
                          try clear hx1
                          try clear c2
                          try clear p2
                          try clear c3
                          try clear c5
                          try clear c5b0
                          try clear c5b1
                          try clear c6
                          try clear c7
                          try clear c9
                          try clear c9b0
                          try clear c9b1
                          try clear c10
                          try clear p11
                          try clear q11
                          try clear hx11
                          try clear c20
                          try clear c20b0
                          try clear c21
                          try clear c21b0
                          try clear c22
                          try clear c22b0
                          try clear hx119_0
                          try clear p119
                          try clear p2
                          try clear q119
                          obtain ⟨x5_2, x39_2, rfl, HA, HK2, HO_5, HO_33, HB⟩ := hrel
                          cases gk with
                          | zero => exact absurd HA.out (by simp [box_framed.l1])
                          | succ k2 =>
                            have H := HA.out
                            clear HA
                            simp only [box_framed.l1] at H
                            by_cases c23 : x39_2 < 8
                            · rw [if_pos c23] at H
                              have c23b0 : decide (x39_2 < 8) = true := decide_eq_true c23
                              clear c23
                              obtain ⟨ji24, hji24⟩ : ∃ j_ : Int, (wrap64 (8 * x39_2)) = j_ := ⟨_, rfl⟩
                              replace H : (if 0 ≤ (ji24) then (if x5_2.length < 140737488355328 then (box_framed.l1 k2 (x5_2 ++ [(shr .i64 (rd y116 x35_1) (ji24)) % 256]) (rd y116 x35_1) y116 (y116.length : Int) x35_1 (wrap64 (x39_2 + 1))) else (none)) else (none)) = some r := by first | (rw [hji24] at H; exact H) | (simp only [hji24] at H ⊢; exact H)
                              have hji24w : (IntKind.i64.wrap (8 * x39_2)) = ji24 := (i64_w _).trans hji24
                              by_cases c25 : 0 ≤ (ji24)
                              · rw [if_pos c25] at H
                                have c25b0 := eq_true c25
                                have c25b1 : decide (0 ≤ (ji24)) = true := decide_eq_true c25
                                clear c25
                                obtain ⟨ji26, hji26⟩ : ∃ j_ : Int, (shr .i64 (rd y116 x35_1) (ji24)) = j_ := ⟨_, rfl⟩
                                replace H : (if x5_2.length < 140737488355328 then (box_framed.l1 k2 (x5_2 ++ [(ji26) % 256]) (rd y116 x35_1) y116 (y116.length : Int) x35_1 (wrap64 (x39_2 + 1))) else (none)) = some r := by first | (rw [hji26] at H; exact H) | (simp only [hji26] at H ⊢; exact H)
                                have hji26_ : ((rd y116 x35_1) / 2 ^ min (ji24).toNat 64) = ji26 := hji26
                                have hji26z : (ji24) ≤ 64 → ((rd y116 x35_1) / 2 ^ (ji24).toNat) = ji26 := shr_small hji26
                                by_cases c27 : x5_2.length < 140737488355328
                                · rw [if_pos c27] at H
                                  have LMc27 := Aside0.mk c27
                                  clear c27
                                  obtain ⟨y120, hy120⟩ : ∃ y_ : List Int, y_ = (x5_2 ++ [(ji26) % 256]) := ⟨_, rfl⟩
                                  replace H : (box_framed.l1 k2 y120 (rd y116 x35_1) y116 (y116.length : Int) x35_1 (wrap64 (x39_2 + 1))) = some r := by first | (rw [hy120]; with_reducible exact H) | (have H2_ := (Option.bind_some _ _).symm.trans H; rw [hy120]; with_reducible exact H2_) | (have H2_ := (Option.bind_some _ _).symm.trans H; with_reducible exact H2_) | with_reducible exact H | (rw [hy120]; exact H) | exact H
                                  have Ny120 := Aside0.mk hy120
                                  clear hy120
                                  have H' := Aside0.mk H
                                  clear H
                                  go_wp2_with (first | ((with_reducible refine gate_builtin (b := .append) (xs := #[.tmp 42, .tmp 48]) rfl ?_); at_builtin; refine Kd.R_append (Kd.int .u8) (w0 := w) w.heap.size rfl (.tmp 42) (.tmp 48) 70 5 (.int .u8 0) 1 rfl Try.underlying70 info5 rfl (by decide) (by omega) u5 x5_2 ((ji26) % 256) [.int .u8 ((ji26) % 256)] (fun _ => True) (fun _ => False) rfl rfl ?aP (fun _ hk => hk.elim) ?aF ?aO ?aB ?aS ?aL ?_; (case aP => exact rfl); (case aB => exact (by repeat (first | (with_reducible first | exact HB.out | apply below_alloc | apply pw_below_drewN | apply below_drew1) | exact HB.out))); (case aF => exact (fun _ _ => trivial)); (case aO => exact (by (with_reducible repeat (first | apply Kd.R_alloc | apply Kd.R_drewN | apply Kd.R_drew)); exact HO_5.out)); (case aS => exact (below_size (by repeat (first | (with_reducible first | exact HB.out | apply below_alloc | apply pw_below_drewN | apply below_drew1) | exact HB.out)))); (case aL => have := LMc27.out; omega); intro v121 w28 ho hb hg hat; rw [← Ny120.out] at ho; have n0_ := Aside0.mk (Kd.R_over' (by (with_reducible repeat (first | apply Kd.R_alloc | apply Kd.R_drewN | apply Kd.R_drew)); exact HO_33.out) (Kd.R_typed (by (with_reducible repeat (first | apply Kd.R_alloc | apply Kd.R_drewN | apply Kd.R_drew)); exact HO_5.out)) (by decide) hg); have n1_ := Aside0.mk (hb); have n2_ := Aside0.mk (ho); clear HO_33; clear HB; clear HO_5; have HO_33 := n0_; have HB := n1_; have HO122 := n2_; clear n0_ n1_ n2_; clear ho hb hg hat))
                                  go_roundg k2
                                  case measure => have := HK1.out; have := HK2.out; omega
                                  case rel => exact ⟨(y120), (wrap64 (x39_2 + 1)), (by first | rfl | (simp; done) | (simp [*]; done)), H', ⟨by have := HK1.out; have := HK2.out; omega⟩, ⟨by (with_reducible repeat (first | apply Kd.R_alloc | apply Kd.R_drewN | apply Kd.R_drew)); exact HO122.out⟩, ⟨by (with_reducible repeat (first | apply Kd.R_alloc | apply Kd.R_drewN | apply Kd.R_drew)); exact HO_33.out⟩, ⟨by repeat (first | (with_reducible first | exact HB.out | apply below_alloc | apply pw_below_drewN | apply below_drew1) | exact HB.out)⟩⟩
                                · rw [if_neg c27] at H
                                  exact absurd H (by simp)
                              · rw [if_neg c25] at H
                                exact absurd H (by simp)
                            · rw [if_neg c23] at H
                              have c23b0 : decide (x39_2 < 8) = false := decide_eq_false c23
                              clear c23
                              have H' := Aside0.mk H
                              clear H
                              go_wp2
                              go_roundg k2
                              case measure => have := HK1.out; have := HK2.out; omega
                              case rel => exact ⟨(x5_2), (wrap64 (x35_1 + 1)), (by first | rfl | (simp; done) | (simp [*]; done)), H', ⟨by have := HK1.out; have := HK2.out; omega⟩, ⟨by (with_reducible repeat (first | apply Kd.R_alloc | apply Kd.R_drewN | apply Kd.R_drew)); exact HO_5.out⟩, ⟨by (with_reducible repeat (first | apply Kd.R_alloc | apply Kd.R_drewN | apply Kd.R_drew)); exact HO_33.out⟩, ⟨by repeat (first | (with_reducible first | exact HB.out | apply below_alloc | apply pw_below_drewN | apply below_drew1) | exact HB.out)⟩⟩
                      · rw [if_neg c22] at H
                        exact absurd H (by simp)
                    · rw [if_neg c21] at H
                      exact absurd H (by simp)
                  · rw [if_neg c20] at H
                    have c20b0 : decide (x35_1 < (y116.length : Int)) = false := decide_eq_false c20
                    clear c20
                    obtain rfl := Option.some.inj H
                    have hcv29 := own_string (P := Try.prog) Try.underlying70 Try.underlying5 Try.underlying9 (Kd.own_of_R HO_5.out)
                    go_wp2
                    go_ret
                    exact ⟨by first | rfl | (simp [errW_none, errW_some] <;> rfl) | (simp only [← hji4, ← hji8]; first | rfl | (simp [errW_none, errW_some] <;> rfl)) | (simp [*, errW_none, errW_some] <;> rfl), by repeat (first | (with_reducible first | exact HB.out | apply below_alloc | apply pw_below_drewN | apply below_drew1) | exact HB.out)⟩
            · rw [if_neg c10] at H
              exact absurd H (by simp)
          · rw [if_neg c9] at H
            exact absurd H (by simp)
        · rw [if_neg c7] at H
          exact absurd H (by simp)
      · rw [if_neg c6] at H
        exact absurd H (by simp)
    · rw [if_neg c5] at H
      exact absurd H (by simp)
  · rw [if_neg c3] at H
    exact absurd H (by simp)
end Go.Proofs.Ytajndpddlpnbkaa.F
