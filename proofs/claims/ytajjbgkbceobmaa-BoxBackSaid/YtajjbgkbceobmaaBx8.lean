/- Words and walks for the row that is claimed: what it needs of them. -/
import Derived.Test.YtajjbgkbceobmaaBx0
import Derived.Test.YtajjbgkbceobmaaBx1
import Derived.Test.YtajjbgkbceobmaaBx5
import Derived.Test.YtajjbgkbceobmaaBx7
import Derived.Test.YtajjbgkbceobmaaHStream
namespace Go.Proofs.Ytajjbgkbceobmaa.B
open Go.RowKit Go.Proofs.YtajjbgkbceobmaaW.PrintWords Go.Proofs.YtajjbgkbceobmaaW.PrintLast Go.Proofs.YtajjbgkbceobmaaW.PrintMore
attribute [local go_sem] max2_int min2_int max_two min_two max_three min_three max_four min_four   -- for this text's walks alone
set_option linter.unusedVariables false
set_option linter.unusedSimpArgs false
mutual
def grapnelref03_Stream.j0 : Nat → ByteArray → ByteArray → Int → ByteArray → Bool → Option (ByteArray × Int)
  | 0, _, _, _, _, _ => none
  | k + 1, x0, x1, x2, x3, x20 => if x20 = true then (some ((⟨#[]⟩ : ByteArray), 1)) else (if x2 < 0 then (grapnelref03_Stream.j1 k x0 x1 x2 x3 true) else (if x2 > 4294967295 then (grapnelref03_Stream.j1 k x0 x1 x2 x3 true) else (grapnelref03_Stream.j1 k x0 x1 x2 x3 (decide ((wrap64 (Int.tdiv (wrap64 ((x3.size : Int) + 63)) 64)) > (wrap64 (4294967296 - x2)))))))
def grapnelref03_Stream.j1 : Nat → ByteArray → ByteArray → Int → ByteArray → Bool → Option (ByteArray × Int)
  | 0, _, _, _, _, _ => none
  | k + 1, x0, x1, x2, x3, x35 => if x35 = true then (some ((⟨#[]⟩ : ByteArray), 2)) else (grapnelref03_Stream.l0 k x0 x1 x2 x3 ([] : List Int) (⟨#[]⟩ : ByteArray) 0)
def grapnelref03_Stream.l0 : Nat → ByteArray → ByteArray → Int → ByteArray → List Int → ByteArray → Int → Option (ByteArray × Int)
  | 0, _, _, _, _, _, _, _ => none
  | k + 1, x0, x1, x2, x3, x10, x11, x12 => if x12 < (x3.size : Int) then (if (Int.tmod x12 64) = 0 then ((grapnelref03_Block.f k x0 x1 (wrap64 (x2 + (wrap64 (Int.tdiv x12 64))))).bind fun t293 => (if 0 ≤ x12 then (if 0 ≤ (Int.tmod x12 64) then (if (Int.tmod x12 64) < (t293.size : Int) then (if x10.length < 140737488355328 then (grapnelref03_Stream.l0 k x0 x1 x2 x3 (x10 ++ [Go.bits .xor .u8 (bt x3 x12) (bt t293 (Int.tmod x12 64))]) t293 (wrap64 (x12 + 1))) else (none)) else (none)) else (none)) else (none))) else (if 0 ≤ x12 then (if 0 ≤ (Int.tmod x12 64) then (if (Int.tmod x12 64) < (x11.size : Int) then (if x10.length < 140737488355328 then (grapnelref03_Stream.l0 k x0 x1 x2 x3 (x10 ++ [Go.bits .xor .u8 (bt x3 x12) (bt x11 (Int.tmod x12 64))]) x11 (wrap64 (x12 + 1))) else (none)) else (none)) else (none)) else (none))) else (some (strOfNums x10, 0))
end
def grapnelref03_Stream.f (k : Nat) (a0 : ByteArray) (a1 : ByteArray) (a2 : Int) (a3 : ByteArray) : Option (ByteArray × Int) := if (a0.size : Int) = 32 then (grapnelref03_Stream.j0 k a0 a1 a2 a3 ((a1.size : Int) != 12)) else (grapnelref03_Stream.j0 k a0 a1 a2 a3 true)
def grapnellaw03_BoxStreams.f (k : Nat) (a0 : ByteArray) (a1 : ByteArray) (a2 : Int) (a3 : ByteArray) : Option (Bool) := (grapnellaw03_cut.f a3 4096).bind fun t300 => ((box_Stream.f a0 a1 a2 t300).bind fun bt301 => ((grapnelref03_Stream.f k a0 a1 a2 t300).bind fun bt303 => (if bt301.1.toList = bt303.1.toList then (if bt301.2 = bt303.2 then ((grapnellaw03_awake.f).bind fun t305 => (some t305)) else (some false)) else (some false))))
/-- THE ONE PURE STATEMENT of grapnellaw03_BoxStreams: yours. -/
def grapnellaw03_BoxStreams.Pure : Prop := ∀ (a0 : ByteArray) (a1 : ByteArray) (a2 : Int) (a3 : ByteArray), a0.size ≤ 140737488351232 → a1.size ≤ 140737488351232 → (Lit.int .i64 a2).wf = true → a3.size ≤ 140737488351232 → ∃ k, grapnellaw03_BoxStreams.f k a0 a1 a2 a3 = some true
def grapnellaw03_whole.f (a0 : ByteArray) (a1 : Int) : Option (ByteArray) := (grapnellaw03_cut.f a0 a1).bind fun t306 => (if 0 ≤ (wrap64 (a1 - (t306.size : Int))) then (if (wrap64 (a1 - (t306.size : Int)) : Int).toNat ≤ 281474976710656 then ((some (List.replicate (wrap64 (a1 - (t306.size : Int)) : Int).toNat 0 : List Int)).bind fun y307 => (if t306.size + (strOfNums y307).size ≤ 9223372036854775807 then (some (t306 ++ (strOfNums y307))) else (none))) else (none)) else (none))
set_option maxHeartbeats 8000000 in
set_option maxRecDepth 100000 in
theorem grapnellaw03_whole.calls (a0 : ByteArray) (a1 : Int) (r : ByteArray) (w : World) (h : grapnellaw03_whole.f a0 a1 = some r) :
    Calls Try.prog 19 #[.string a0, .int .i64 a1] w fun e w' => e = .returned (.string r) ∧ Below w.heap.size w w' := by
  have HB := Aside0.mk (Below.refl w.heap.size w)
  have H : ((grapnellaw03_cut.f a0 a1).bind fun t306 => (if 0 ≤ (wrap64 (a1 - (t306.size : Int))) then (if (wrap64 (a1 - (t306.size : Int)) : Int).toNat ≤ 281474976710656 then ((some (List.replicate (wrap64 (a1 - (t306.size : Int)) : Int).toNat 0 : List Int)).bind fun y307 => (if t306.size + (strOfNums y307).size ≤ 9223372036854775807 then (some (t306 ++ (strOfNums y307))) else (none))) else (none)) else (none))) = some r := h
  clear h
  replace H := Option.bind_eq_some_iff.mp H
  obtain ⟨t306, A30, H⟩ := H
  replace H : (if 0 ≤ (wrap64 (a1 - (t306.size : Int))) then (if (wrap64 (a1 - (t306.size : Int)) : Int).toNat ≤ 281474976710656 then ((some (List.replicate (wrap64 (a1 - (t306.size : Int)) : Int).toNat 0 : List Int)).bind fun y307 => (if t306.size + (strOfNums y307).size ≤ 9223372036854775807 then (some (t306 ++ (strOfNums y307))) else (none))) else (none)) else (none)) = some r := H
  have A3 := Aside0.mk A30
  clear A30
  obtain ⟨ji4, hji4⟩ : ∃ j_ : Int, (wrap64 (a1 - (t306.size : Int))) = j_ := ⟨_, rfl⟩
  replace H : (if 0 ≤ (ji4) then (if (ji4 : Int).toNat ≤ 281474976710656 then ((some (List.replicate (ji4 : Int).toNat 0 : List Int)).bind fun y307 => (if t306.size + (strOfNums y307).size ≤ 9223372036854775807 then (some (t306 ++ (strOfNums y307))) else (none))) else (none)) else (none)) = some r := by first | (rw [hji4] at H; exact H) | (simp only [hji4] at H ⊢; exact H)
  (try rw [hji4] at A3)
  have hji4w : (IntKind.i64.wrap (a1 - (t306.size : Int))) = ji4 := (i64_w _).trans hji4
  by_cases c5 : 0 ≤ (ji4)
  · rw [if_pos c5] at H
    have c5b0 := eq_true c5
    have c5b1 : decide (0 ≤ (ji4)) = true := decide_eq_true c5
    clear c5
    by_cases c6 : (ji4 : Int).toNat ≤ 281474976710656
    · rw [if_pos c6] at H
      have c6b0 := eq_true c6
      have c6b1 : decide ((ji4 : Int).toNat ≤ 281474976710656) = true := decide_eq_true c6
      clear c6
      obtain ⟨y307, hy307⟩ : ∃ y_ : List Int, y_ = (List.replicate (ji4 : Int).toNat 0) := ⟨_, rfl⟩
      replace H : (if t306.size + (strOfNums y307).size ≤ 9223372036854775807 then (some (t306 ++ (strOfNums y307))) else (none)) = some r := by first | (rw [hy307]; with_reducible exact H) | (have H2_ := (Option.bind_some _ _).symm.trans H; rw [hy307]; with_reducible exact H2_) | (have H2_ := (Option.bind_some _ _).symm.trans H; with_reducible exact H2_) | with_reducible exact H | (rw [hy307]; exact H) | exact H
      have Ny307 := Aside0.mk hy307
      clear hy307
      by_cases c7 : t306.size + (strOfNums y307).size ≤ 9223372036854775807
      · rw [if_pos c7] at H
        have c7b0 := eq_true c7
        have c7b1 : decide (t306.size + (strOfNums y307).size ≤ 9223372036854775807) = true := decide_eq_true c7
        try have c7b2 : (9223372036854775807 < t306.size + (strOfNums y307).size) = False := eq_false (Nat.not_lt.2 c7)
        obtain rfl := Option.some.inj H
        go_enter Try.func19, Try.ntmps19
        go_wp2_with (first | ((with_reducible refine gate_callee (f := 12) rfl ?_); refine goesL_ (some 7) rfl rfl Try.func12 (by kernel_rfl) rfl #[.string a0, .int .i64 a1] rfl (by (try simp only [List.map_toArray, List.map_cons, List.map_nil]); first | done | rfl | (simp only [List.length_drop, List.length_take]; rfl)) ?_; (with_reducible refine (grapnellaw03_cut.calls a0 a1 t306 _ A3.out).mono ?_); rintro e w' ⟨rfl, ⟨nd, rfl⟩⟩; refine ⟨_, rfl, ?_⟩) | ((with_reducible refine gate_dst (N := 13) rfl ?_); refine Kd.R_make (Kd.int .u8) _ 5 rfl (N := 13) rfl 34 _ _ rfl ji4 rfl rfl Try.underlying34 (.int .u8 0) 1 info5 rfl (by decide) (by omega) 0 (ok := fun _ => True) (okp := fun _ => True) rfl (fun _ hk => hk) trivial (of_decide_eq_true (by first | (with_reducible assumption) | assumption)) (Nat.le_trans (Nat.mul_le_mul_right _ (of_decide_eq_true (by first | (with_reducible assumption) | assumption) : ji4.toNat ≤ 281474976710656)) (by omega)) (Below.refl _ _) (Nat.le_refl _) ?_; intro v308 w8 ho9 hb hg_ hnew_; clear hg_ hnew_; (first | rw [← Ny307.out] at ho9 | (simp only [Int.reduceToNat] at ho9; rw [← Ny307.out] at ho9)); have n0_ := Aside0.mk (Kd.R_lower ho9 (below_size (by repeat (first | (with_reducible first | exact HB.out | apply below_alloc | apply pw_below_drewN | apply below_drew1) | exact HB.out)))); have n1_ := Aside0.mk (below_step (by repeat (first | (with_reducible first | exact HB.out | apply below_alloc | apply pw_below_drewN | apply below_drew1) | exact HB.out)) hb); clear HB; have HO309 := n0_; have HB := n1_; clear n0_ n1_; clear hb ho9; have hcv10 := own_string (P := Try.prog) Try.underlying34 Try.underlying5 Try.underlying9 (Kd.own_of_R HO309.out)))
        go_ret
        exact ⟨by first | rfl | (simp [errW_none, errW_some] <;> rfl) | (simp only [← hji4]; first | rfl | (simp [errW_none, errW_some] <;> rfl)) | (simp [*, errW_none, errW_some] <;> rfl), by repeat (first | (with_reducible first | exact HB.out | apply below_alloc | apply pw_below_drewN | apply below_drew1) | exact HB.out)⟩
      · rw [if_neg c7] at H
        exact absurd H (by simp)
    · rw [if_neg c6] at H
      exact absurd H (by simp)
  · rw [if_neg c5] at H
    exact absurd H (by simp)
end Go.Proofs.Ytajjbgkbceobmaa.B
