/- Words and walks for the row that is claimed: what it needs of them. -/
import Derived.Test.YtajjbgkbceobmaaBx0
import Derived.Test.YtajjbgkbceobmaaBx1
import Derived.Test.YtajjbgkbceobmaaBx5
import Derived.Test.YtajjbgkbceobmaaBx8
import Derived.Test.YtajjbgkbceobmaaHStream
import Derived.Test.YtajjbgkbceobmaaHTagged
namespace Go.Proofs.Ytajjbgkbceobmaa.B
open Go.RowKit Go.Proofs.YtajjbgkbceobmaaW.PrintWords Go.Proofs.YtajjbgkbceobmaaW.PrintLast Go.Proofs.YtajjbgkbceobmaaW.PrintMore
attribute [local go_sem] max2_int min2_int max_two min_two max_three min_three max_four min_four   -- for this text's walks alone
set_option linter.unusedVariables false
set_option linter.unusedSimpArgs false
def grapnellaw03_BoxTwice.f (a0 : ByteArray) (a1 : ByteArray) (a2 : Int) (a3 : ByteArray) : Option (Bool) := (grapnellaw03_whole.f a0 32).bind fun t310 => ((grapnellaw03_whole.f a1 12).bind fun t311 => ((grapnellaw03_cut.f a3 4096).bind fun t312 => ((box_Stream.f t310 t311 a2 t312).bind fun bt313 => ((box_Stream.f t310 t311 a2 bt313.1).bind fun bt315 => (if bt313.2 = 0 then (if bt315.2 = 0 then (if bt315.1.toList = t312.toList then ((grapnellaw03_awake.f).bind fun t317 => (some t317)) else (some false)) else (some false)) else (if bt313.2 = 2 then (if bt313.1.toList = ([] : List UInt8) then ((grapnellaw03_awake.f).bind fun t318 => (some t318)) else (some false)) else (some false)))))))
/-- THE ONE PURE STATEMENT of grapnellaw03_BoxTwice: yours. -/
def grapnellaw03_BoxTwice.Pure : Prop := ∀ (a0 : ByteArray) (a1 : ByteArray) (a2 : Int) (a3 : ByteArray), a0.size ≤ 140737488351232 → a1.size ≤ 140737488351232 → (Lit.int .i64 a2).wf = true → a3.size ≤ 140737488351232 → grapnellaw03_BoxTwice.f a0 a1 a2 a3 = some true
def grapnellaw03_BoxParts.j0 : Nat → ByteArray → ByteArray → Int → ByteArray → Bool → Option (Bool)
  | 0, _, _, _, _, _ => none
  | k + 1, x0, x1, x2, x3, x29 => if x29 = true then ((grapnellaw03_awake.f).bind fun t322 => (some t322)) else (if 0 ≤ (wrap64 (64 * x2)) then (if (wrap64 (64 * x2)) ≤ (x3.size : Int) then ((box_Stream.f x0 x1 1 (x3.extract 0 ((wrap64 (64 * x2)) : Int).toNat)).bind fun bt323 => ((box_Stream.f x0 x1 (wrap64 (1 + x2)) (x3.extract ((wrap64 (64 * x2)) : Int).toNat x3.size)).bind fun bt325 => ((box_Stream.f x0 x1 1 x3).bind fun bt327 => (if bt323.2 = 0 then (if bt325.2 = 0 then (if bt327.2 = 0 then (if bt323.1.size + bt325.1.size ≤ 9223372036854775807 then (if (bt323.1 ++ bt325.1).toList = bt327.1.toList then ((grapnellaw03_awake.f).bind fun t329 => (some t329)) else (some false)) else (none)) else (some false)) else (some false)) else (some false))))) else (none)) else (none))
def grapnellaw03_BoxParts.f (k : Nat) (a0 : ByteArray) (a1 : ByteArray) (a2 : Int) (a3 : ByteArray) : Option (Bool) := (grapnellaw03_whole.f a0 32).bind fun t319 => ((grapnellaw03_whole.f a1 12).bind fun t320 => ((grapnellaw03_cut.f a3 4096).bind fun t321 => (if a2 < 0 then (grapnellaw03_BoxParts.j0 k t319 t320 a2 t321 true) else (grapnellaw03_BoxParts.j0 k t319 t320 a2 t321 (decide (a2 > (wrap64 ((t321.size : Int) / 64))))))))
set_option maxHeartbeats 8000000 in
set_option maxRecDepth 100000 in
theorem grapnellaw03_BoxParts.calls (k : Nat) (a0 : ByteArray) (a1 : ByteArray) (a2 : Int) (a3 : ByteArray) (r : Bool) (w : World) (h : grapnellaw03_BoxParts.f k a0 a1 a2 a3 = some r) :
    Calls Try.prog 7 #[.string a0, .string a1, .int .i64 a2, .string a3] w fun e w' => e = .returned (.bool r) ∧ Below w.heap.size w w' := by
  have HB := Aside0.mk (Below.refl w.heap.size w)
  have H : ((grapnellaw03_whole.f a0 32).bind fun t319 => ((grapnellaw03_whole.f a1 12).bind fun t320 => ((grapnellaw03_cut.f a3 4096).bind fun t321 => (if a2 < 0 then (grapnellaw03_BoxParts.j0 k t319 t320 a2 t321 true) else (grapnellaw03_BoxParts.j0 k t319 t320 a2 t321 (decide (a2 > (wrap64 ((t321.size : Int) / 64))))))))) = some r := h
  clear h
  replace H := Option.bind_eq_some_iff.mp H
  obtain ⟨t319, A50, H⟩ := H
  replace H : ((grapnellaw03_whole.f a1 12).bind fun t320 => ((grapnellaw03_cut.f a3 4096).bind fun t321 => (if a2 < 0 then (grapnellaw03_BoxParts.j0 k t319 t320 a2 t321 true) else (grapnellaw03_BoxParts.j0 k t319 t320 a2 t321 (decide (a2 > (wrap64 ((t321.size : Int) / 64)))))))) = some r := H
  have A5 := Aside0.mk A50
  clear A50
  replace H := Option.bind_eq_some_iff.mp H
  obtain ⟨t320, A60, H⟩ := H
  replace H : ((grapnellaw03_cut.f a3 4096).bind fun t321 => (if a2 < 0 then (grapnellaw03_BoxParts.j0 k t319 t320 a2 t321 true) else (grapnellaw03_BoxParts.j0 k t319 t320 a2 t321 (decide (a2 > (wrap64 ((t321.size : Int) / 64))))))) = some r := H
  have A6 := Aside0.mk A60
  clear A60
  replace H := Option.bind_eq_some_iff.mp H
  obtain ⟨t321, A70, H⟩ := H
  replace H : (if a2 < 0 then (grapnellaw03_BoxParts.j0 k t319 t320 a2 t321 true) else (grapnellaw03_BoxParts.j0 k t319 t320 a2 t321 (decide (a2 > (wrap64 ((t321.size : Int) / 64)))))) = some r := H
  have A7 := Aside0.mk A70
  clear A70
  have HC8 := Aside0.mk H
  clear H
  go_enter Try.func7, Try.ntmps7
  go_upto_region 4 with (first | ((with_reducible refine gate_callee (f := 19) rfl ?_); refine goesL_ (some 16) rfl rfl Try.func19 (by kernel_rfl) rfl #[.string a0, .int .i64 32] rfl (by (try simp only [List.map_toArray, List.map_cons, List.map_nil]); first | done | rfl | (simp only [List.length_drop, List.length_take]; rfl)) ?_; (with_reducible refine (grapnellaw03_whole.calls a0 32 t319 _ A5.out).mono ?_); rintro e w9 ⟨rfl, hb⟩; refine ⟨_, rfl, ?_⟩; have n0_ := Aside0.mk (below_step (by repeat (first | (with_reducible first | exact HB.out | apply below_alloc | apply pw_below_drewN | apply below_drew1) | exact HB.out)) hb); clear HB; have HB := n0_; clear n0_; (try clear hb); (try clear hb2); (try clear hk); (try clear hi)) | ((with_reducible refine gate_callee (f := 19) rfl ?_); refine goesL_ (some 18) rfl rfl Try.func19 (by kernel_rfl) rfl #[.string a1, .int .i64 12] rfl (by (try simp only [List.map_toArray, List.map_cons, List.map_nil]); first | done | rfl | (simp only [List.length_drop, List.length_take]; rfl)) ?_; (with_reducible refine (grapnellaw03_whole.calls a1 12 t320 _ A6.out).mono ?_); rintro e w10 ⟨rfl, hb⟩; refine ⟨_, rfl, ?_⟩; have n0_ := Aside0.mk (below_step (by repeat (first | (with_reducible first | exact HB.out | apply below_alloc | apply pw_below_drewN | apply below_drew1) | exact HB.out)) hb); clear HB; have HB := n0_; clear n0_; (try clear hb); (try clear hb2); (try clear hk); (try clear hi)) | ((with_reducible refine gate_callee (f := 12) rfl ?_); refine goesL_ (some 20) rfl rfl Try.func12 (by kernel_rfl) rfl #[.string a3, .int .i64 4096] rfl (by (try simp only [List.map_toArray, List.map_cons, List.map_nil]); first | done | rfl | (simp only [List.length_drop, List.length_take]; rfl)) ?_; (with_reducible refine (grapnellaw03_cut.calls a3 4096 t321 _ A7.out).mono ?_); rintro e w' ⟨rfl, ⟨nd, rfl⟩⟩; refine ⟨_, rfl, ?_⟩))
  (try simp only [Act.put, List.setIfInBounds_toArray, List.set_cons_zero, List.set_cons_succ])
  go_cut [29] (fun v29 wc => ∃ (kq : Nat) (x29_7 : Bool), v29 = .bool x29_7 ∧ Aside0 (grapnellaw03_BoxParts.j0 kq t319 t320 a2 t321 x29_7 = some r) ∧ Aside0 (kq ≤ k) ∧ Aside0 (Below w.heap.size w wc))
  case first =>
    have H := HC8.out
    clear HC8
    by_cases c11 : a2 < 0
    · rw [if_pos c11] at H
      have c11b0 : decide (a2 < 0) = true := decide_eq_true c11
      clear c11
      (first | rw [c11b0] | (simp only [i64_w, i32_w]; rw [c11b0]) | skip)
      have H' := Aside0.mk H
      clear H
      go_wp2
      go_meet
      case rel => exact ⟨_, (true), (by first | rfl | (simp; done) | (simp [*]; done)), H', ⟨by first | omega | exact Nat.le_refl _⟩, ⟨by repeat (first | (with_reducible first | exact HB.out | apply below_alloc | apply pw_below_drewN | apply below_drew1) | exact HB.out)⟩⟩
    · rw [if_neg c11] at H
      have c11b0 : decide (a2 < 0) = false := decide_eq_false c11
      clear c11
      (first | rw [c11b0] | (simp only [i64_w, i32_w]; rw [c11b0]) | skip)
      have H' := Aside0.mk H
      clear H
      go_wp2
      go_meet
      case rel => exact ⟨_, (decide (a2 > (wrap64 ((t321.size : Int) / 64)))), (by first | rfl | (simp; done) | (simp [*]; done)), H', ⟨by first | omega | exact Nat.le_refl _⟩, ⟨by repeat (first | (with_reducible first | exact HB.out | apply below_alloc | apply pw_below_drewN | apply below_drew1) | exact HB.out)⟩⟩
  case rest =>
    clear HC8
    try clear c1
    try clear p2
    try clear p6
    try clear c7
    try clear c11
    try clear c11b0
    obtain ⟨kq, x29_7, rfl, HA, HJ7, HB⟩ := hcut
    cases kq with
    | zero => exact absurd HA.out (by simp [grapnellaw03_BoxParts.j0])
    | succ kj7 =>
      have H := HA.out
      clear HA
      simp only [grapnellaw03_BoxParts.j0] at H
      by_cases c12 : x29_7 = true
      · subst c12
        have H1 : ((grapnellaw03_awake.f).bind fun t322 => (some t322)) = some r := by rw [if_pos rfl] at H; exact H
        clear H
        have H := H1
        clear H1
        replace H := Option.bind_eq_some_iff.mp H
        obtain ⟨t322, A130, H⟩ := H
        replace H : (some t322) = some r := H
        have A13 := Aside0.mk A130
        clear A130
        obtain rfl := Option.some.inj H
        go_wp2_with (first | ((with_reducible refine gate_callee (f := 15) rfl ?_); refine goesL_ (some 30) rfl rfl Try.func15 (by kernel_rfl) rfl #[] rfl (by (try simp only [List.map_toArray, List.map_cons, List.map_nil]); first | done | rfl | (simp only [List.length_drop, List.length_take]; rfl)) ?_; (with_reducible refine (grapnellaw03_awake.calls  t322 _ A13.out).mono ?_); rintro e w14 ⟨rfl, hb⟩; refine ⟨_, rfl, ?_⟩; have n0_ := Aside0.mk (below_step (by repeat (first | (with_reducible first | exact HB.out | apply below_alloc | apply pw_below_drewN | apply below_drew1) | exact HB.out)) hb); clear HB; have HB := n0_; clear n0_; (try clear hb); (try clear hb2); (try clear hk); (try clear hi)))
        go_ret
        exact ⟨by first | rfl | (simp [errW_none, errW_some] <;> rfl) | (simp [*, errW_none, errW_some] <;> rfl), by repeat (first | (with_reducible first | exact HB.out | apply below_alloc | apply pw_below_drewN | apply below_drew1) | exact HB.out)⟩
      · replace c12 := Bool.eq_false_iff.mpr c12
        subst c12
        have H1 : (if 0 ≤ (wrap64 (64 * a2)) then (if (wrap64 (64 * a2)) ≤ (t321.size : Int) then ((box_Stream.f t319 t320 1 (t321.extract 0 ((wrap64 (64 * a2)) : Int).toNat)).bind fun bt323 => ((box_Stream.f t319 t320 (wrap64 (1 + a2)) (t321.extract ((wrap64 (64 * a2)) : Int).toNat t321.size)).bind fun bt325 => ((box_Stream.f t319 t320 1 t321).bind fun bt327 => (if bt323.2 = 0 then (if bt325.2 = 0 then (if bt327.2 = 0 then (if bt323.1.size + bt325.1.size ≤ 9223372036854775807 then (if (bt323.1 ++ bt325.1).toList = bt327.1.toList then ((grapnellaw03_awake.f).bind fun t329 => (some t329)) else (some false)) else (none)) else (some false)) else (some false)) else (some false))))) else (none)) else (none)) = some r := by rw [if_neg (show ¬ (false = true) by decide)] at H; exact H
        clear H
        have H := H1
        clear H1
        obtain ⟨ji15, hji15⟩ : ∃ j_ : Int, (wrap64 (64 * a2)) = j_ := ⟨_, rfl⟩
        replace H : (if 0 ≤ (ji15) then (if (ji15) ≤ (t321.size : Int) then ((box_Stream.f t319 t320 1 (t321.extract 0 ((ji15) : Int).toNat)).bind fun bt323 => ((box_Stream.f t319 t320 (wrap64 (1 + a2)) (t321.extract ((ji15) : Int).toNat t321.size)).bind fun bt325 => ((box_Stream.f t319 t320 1 t321).bind fun bt327 => (if bt323.2 = 0 then (if bt325.2 = 0 then (if bt327.2 = 0 then (if bt323.1.size + bt325.1.size ≤ 9223372036854775807 then (if (bt323.1 ++ bt325.1).toList = bt327.1.toList then ((grapnellaw03_awake.f).bind fun t329 => (some t329)) else (some false)) else (none)) else (some false)) else (some false)) else (some false))))) else (none)) else (none)) = some r := by first | (rw [hji15] at H; exact H) | (simp only [hji15] at H ⊢; exact H)
        have hji15w : (IntKind.i64.wrap (64 * a2)) = ji15 := (i64_w _).trans hji15
        by_cases c16 : 0 ≤ (ji15)
        · rw [if_pos c16] at H
          have c16mx : max ji15 0 = ji15 := by omega
          have c16b0 := eq_true c16
          have c16b1 : decide (0 ≤ (ji15)) = true := decide_eq_true c16
          clear c16
          by_cases c17 : (ji15) ≤ (t321.size : Int)
          · rw [if_pos c17] at H
            have c17b0 := eq_true c17
            have c17b1 : decide ((ji15) ≤ (t321.size : Int)) = true := decide_eq_true c17
            clear c17
            replace H := Option.bind_eq_some_iff.mp H
            obtain ⟨⟨t323, t324⟩, A180, H⟩ := H
            replace H : ((box_Stream.f t319 t320 (wrap64 (1 + a2)) (t321.extract ((ji15) : Int).toNat t321.size)).bind fun bt325 => ((box_Stream.f t319 t320 1 t321).bind fun bt327 => (if t324 = 0 then (if bt325.2 = 0 then (if bt327.2 = 0 then (if t323.size + bt325.1.size ≤ 9223372036854775807 then (if (t323 ++ bt325.1).toList = bt327.1.toList then ((grapnellaw03_awake.f).bind fun t329 => (some t329)) else (some false)) else (none)) else (some false)) else (some false)) else (some false)))) = some r := H
            have A18 := Aside0.mk A180
            clear A180
            have c19b0 := eq_true (of_decide_eq_true (by first | (with_reducible assumption) | assumption) : 0 ≤ (ji15))
            have c20b0 := eq_true (of_decide_eq_true (by first | (with_reducible assumption) | assumption) : (ji15) ≤ (t321.size : Int))
            replace H := Option.bind_eq_some_iff.mp H
            obtain ⟨⟨t325, t326⟩, A210, H⟩ := H
            replace H : ((box_Stream.f t319 t320 1 t321).bind fun bt327 => (if t324 = 0 then (if t326 = 0 then (if bt327.2 = 0 then (if t323.size + t325.size ≤ 9223372036854775807 then (if (t323 ++ t325).toList = bt327.1.toList then ((grapnellaw03_awake.f).bind fun t329 => (some t329)) else (some false)) else (none)) else (some false)) else (some false)) else (some false))) = some r := H
            have A21 := Aside0.mk A210
            clear A210
            replace H := Option.bind_eq_some_iff.mp H
            obtain ⟨⟨t327, t328⟩, A220, H⟩ := H
            replace H : (if t324 = 0 then (if t326 = 0 then (if t328 = 0 then (if t323.size + t325.size ≤ 9223372036854775807 then (if (t323 ++ t325).toList = t327.toList then ((grapnellaw03_awake.f).bind fun t329 => (some t329)) else (some false)) else (none)) else (some false)) else (some false)) else (some false)) = some r := H
            have A22 := Aside0.mk A220
            clear A220
            by_cases c23 : t324 = 0
            · rw [if_pos c23] at H
              have c23b0 : (t324 == 0) = true := beq_iff_eq.mpr c23
              have c23b1 : (t324 != 0) = false := bne_eq_false_iff_eq.mpr c23
              clear c23
              by_cases c24 : t326 = 0
              · rw [if_pos c24] at H
                have c24b0 : (t326 == 0) = true := beq_iff_eq.mpr c24
                have c24b1 : (t326 != 0) = false := bne_eq_false_iff_eq.mpr c24
                clear c24
                by_cases c25 : t328 = 0
                · rw [if_pos c25] at H
                  have c25b0 : (t328 == 0) = true := beq_iff_eq.mpr c25
                  have c25b1 : (t328 != 0) = false := bne_eq_false_iff_eq.mpr c25
                  clear c25
                  by_cases c26 : t323.size + t325.size ≤ 9223372036854775807
                  · rw [if_pos c26] at H
                    have c26b0 := eq_true c26
                    have c26b1 : decide (t323.size + t325.size ≤ 9223372036854775807) = true := decide_eq_true c26
                    try have c26b2 : (9223372036854775807 < t323.size + t325.size) = False := eq_false (Nat.not_lt.2 c26)
                    by_cases c27 : (t323 ++ t325).toList = t327.toList
                    · rw [if_pos c27] at H
                      have c27b0 : ((t323 ++ t325).toList == t327.toList) = true := beq_iff_eq.mpr c27
                      have c27b1 : ((t323 ++ t325).toList != t327.toList) = false := bne_eq_false_iff_eq.mpr c27
                      clear c27
                      replace H := Option.bind_eq_some_iff.mp H
                      obtain ⟨t329, A280, H⟩ := H
                      replace H : (some t329) = some r := H
                      have A28 := Aside0.mk A280
                      clear A280
                      obtain rfl := Option.some.inj H
                      go_wp2_with (first | ((with_reducible refine gate_callee (f := 17) rfl ?_); refine goesL_ (some 38) rfl rfl Try.func17 (by kernel_rfl) rfl #[.string t319, .string t320, .int .i64 1, .string (t321.extract 0 ((ji15) : Int).toNat)] rfl (by (try simp only [List.map_toArray, List.map_cons, List.map_nil]); first | done | (simp only [hji15]; rfl) | rfl | (simp only [List.length_drop, List.length_take]; rfl)) ?_; (with_reducible refine (box_Stream.calls t319 t320 1 (t321.extract 0 ((ji15) : Int).toNat) t323 t324 _ A18.out).mono ?_); rintro e w29 ⟨rfl, hb⟩; refine ⟨_, rfl, ?_⟩; have n0_ := Aside0.mk (below_step (by repeat (first | (with_reducible first | exact HB.out | apply below_alloc | apply pw_below_drewN | apply below_drew1) | exact HB.out)) hb); clear HB; have HB := n0_; clear n0_; (try clear hb); (try clear hb2); (try clear hk); (try clear hi)) | ((with_reducible refine gate_callee (f := 17) rfl ?_); refine goesL_ (some 50) rfl rfl Try.func17 (by kernel_rfl) rfl #[.string t319, .string t320, .int .i64 (wrap64 (1 + a2)), .string (t321.extract ((ji15) : Int).toNat t321.size)] rfl (by (try simp only [List.map_toArray, List.map_cons, List.map_nil]); first | done | (simp only [hji15]; rfl) | rfl | (simp only [List.length_drop, List.length_take]; rfl)) ?_; (with_reducible refine (box_Stream.calls t319 t320 (wrap64 (1 + a2)) (t321.extract ((ji15) : Int).toNat t321.size) t325 t326 _ A21.out).mono ?_); rintro e w30 ⟨rfl, hb⟩; refine ⟨_, rfl, ?_⟩; have n0_ := Aside0.mk (below_step (by repeat (first | (with_reducible first | exact HB.out | apply below_alloc | apply pw_below_drewN | apply below_drew1) | exact HB.out)) hb); clear HB; have HB := n0_; clear n0_; (try clear hb); (try clear hb2); (try clear hk); (try clear hi)) | ((with_reducible refine gate_callee (f := 17) rfl ?_); refine goesL_ (some 57) rfl rfl Try.func17 (by kernel_rfl) rfl #[.string t319, .string t320, .int .i64 1, .string t321] rfl (by (try simp only [List.map_toArray, List.map_cons, List.map_nil]); first | done | rfl | (simp only [List.length_drop, List.length_take]; rfl)) ?_; (with_reducible refine (box_Stream.calls t319 t320 1 t321 t327 t328 _ A22.out).mono ?_); rintro e w31 ⟨rfl, hb⟩; refine ⟨_, rfl, ?_⟩; have n0_ := Aside0.mk (below_step (by repeat (first | (with_reducible first | exact HB.out | apply below_alloc | apply pw_below_drewN | apply below_drew1) | exact HB.out)) hb); clear HB; have HB := n0_; clear n0_; (try clear hb); (try clear hb2); (try clear hk); (try clear hi)) | (go_at_call 15; (with_reducible refine (grapnellaw03_awake.calls  t329 _ A28.out).mono ?_); rintro e w32 ⟨rfl, hb⟩; have n0_ := Aside0.mk (below_step (by repeat (first | (with_reducible first | exact HB.out | apply below_alloc | apply pw_below_drewN | apply below_drew1) | exact HB.out)) hb); clear HB; have HB := n0_; clear n0_; (try clear hb); (try clear hb2); (try clear hk); (try clear hi)))
                      go_ret
                      exact ⟨by first | rfl | (simp [errW_none, errW_some] <;> rfl) | (simp only [← hji15]; first | rfl | (simp [errW_none, errW_some] <;> rfl)) | (simp [*, errW_none, errW_some] <;> rfl), by repeat (first | (with_reducible first | exact HB.out | apply below_alloc | apply pw_below_drewN | apply below_drew1) | exact HB.out)⟩
                    · rw [if_neg c27] at H
                      have c27b0 : ((t323 ++ t325).toList == t327.toList) = false := beq_eq_false_iff_ne.mpr c27
                      have c27b1 : ((t323 ++ t325).toList != t327.toList) = true := bne_iff_ne.mpr c27
                      obtain rfl := Option.some.inj H
                      go_wp2_with (first | ((with_reducible refine gate_callee (f := 17) rfl ?_); refine goesL_ (some 38) rfl rfl Try.func17 (by kernel_rfl) rfl #[.string t319, .string t320, .int .i64 1, .string (t321.extract 0 ((ji15) : Int).toNat)] rfl (by (try simp only [List.map_toArray, List.map_cons, List.map_nil]); first | done | (simp only [hji15]; rfl) | rfl | (simp only [List.length_drop, List.length_take]; rfl)) ?_; (with_reducible refine (box_Stream.calls t319 t320 1 (t321.extract 0 ((ji15) : Int).toNat) t323 t324 _ A18.out).mono ?_); rintro e w33 ⟨rfl, hb⟩; refine ⟨_, rfl, ?_⟩; have n0_ := Aside0.mk (below_step (by repeat (first | (with_reducible first | exact HB.out | apply below_alloc | apply pw_below_drewN | apply below_drew1) | exact HB.out)) hb); clear HB; have HB := n0_; clear n0_; (try clear hb); (try clear hb2); (try clear hk); (try clear hi)) | ((with_reducible refine gate_callee (f := 17) rfl ?_); refine goesL_ (some 50) rfl rfl Try.func17 (by kernel_rfl) rfl #[.string t319, .string t320, .int .i64 (wrap64 (1 + a2)), .string (t321.extract ((ji15) : Int).toNat t321.size)] rfl (by (try simp only [List.map_toArray, List.map_cons, List.map_nil]); first | done | (simp only [hji15]; rfl) | rfl | (simp only [List.length_drop, List.length_take]; rfl)) ?_; (with_reducible refine (box_Stream.calls t319 t320 (wrap64 (1 + a2)) (t321.extract ((ji15) : Int).toNat t321.size) t325 t326 _ A21.out).mono ?_); rintro e w34 ⟨rfl, hb⟩; refine ⟨_, rfl, ?_⟩; have n0_ := Aside0.mk (below_step (by repeat (first | (with_reducible first | exact HB.out | apply below_alloc | apply pw_below_drewN | apply below_drew1) | exact HB.out)) hb); clear HB; have HB := n0_; clear n0_; (try clear hb); (try clear hb2); (try clear hk); (try clear hi)) | ((with_reducible refine gate_callee (f := 17) rfl ?_); refine goesL_ (some 57) rfl rfl Try.func17 (by kernel_rfl) rfl #[.string t319, .string t320, .int .i64 1, .string t321] rfl (by (try simp only [List.map_toArray, List.map_cons, List.map_nil]); first | done | rfl | (simp only [List.length_drop, List.length_take]; rfl)) ?_; (with_reducible refine (box_Stream.calls t319 t320 1 t321 t327 t328 _ A22.out).mono ?_); rintro e w35 ⟨rfl, hb⟩; refine ⟨_, rfl, ?_⟩; have n0_ := Aside0.mk (below_step (by repeat (first | (with_reducible first | exact HB.out | apply below_alloc | apply pw_below_drewN | apply below_drew1) | exact HB.out)) hb); clear HB; have HB := n0_; clear n0_; (try clear hb); (try clear hb2); (try clear hk); (try clear hi)))
                      go_ret
                      exact ⟨by first | rfl | (simp [errW_none, errW_some] <;> rfl) | (simp only [← hji15]; first | rfl | (simp [errW_none, errW_some] <;> rfl)) | (simp [*, errW_none, errW_some] <;> rfl), by repeat (first | (with_reducible first | exact HB.out | apply below_alloc | apply pw_below_drewN | apply below_drew1) | exact HB.out)⟩
                  · rw [if_neg c26] at H
                    exact absurd H (by simp)
                · rw [if_neg c25] at H
                  have c25b0 : (t328 == 0) = false := beq_eq_false_iff_ne.mpr c25
                  have c25b1 : (t328 != 0) = true := bne_iff_ne.mpr c25
                  obtain rfl := Option.some.inj H
                  go_wp2_with (first | ((with_reducible refine gate_callee (f := 17) rfl ?_); refine goesL_ (some 38) rfl rfl Try.func17 (by kernel_rfl) rfl #[.string t319, .string t320, .int .i64 1, .string (t321.extract 0 ((ji15) : Int).toNat)] rfl (by (try simp only [List.map_toArray, List.map_cons, List.map_nil]); first | done | (simp only [hji15]; rfl) | rfl | (simp only [List.length_drop, List.length_take]; rfl)) ?_; (with_reducible refine (box_Stream.calls t319 t320 1 (t321.extract 0 ((ji15) : Int).toNat) t323 t324 _ A18.out).mono ?_); rintro e w36 ⟨rfl, hb⟩; refine ⟨_, rfl, ?_⟩; have n0_ := Aside0.mk (below_step (by repeat (first | (with_reducible first | exact HB.out | apply below_alloc | apply pw_below_drewN | apply below_drew1) | exact HB.out)) hb); clear HB; have HB := n0_; clear n0_; (try clear hb); (try clear hb2); (try clear hk); (try clear hi)) | ((with_reducible refine gate_callee (f := 17) rfl ?_); refine goesL_ (some 50) rfl rfl Try.func17 (by kernel_rfl) rfl #[.string t319, .string t320, .int .i64 (wrap64 (1 + a2)), .string (t321.extract ((ji15) : Int).toNat t321.size)] rfl (by (try simp only [List.map_toArray, List.map_cons, List.map_nil]); first | done | (simp only [hji15]; rfl) | rfl | (simp only [List.length_drop, List.length_take]; rfl)) ?_; (with_reducible refine (box_Stream.calls t319 t320 (wrap64 (1 + a2)) (t321.extract ((ji15) : Int).toNat t321.size) t325 t326 _ A21.out).mono ?_); rintro e w37 ⟨rfl, hb⟩; refine ⟨_, rfl, ?_⟩; have n0_ := Aside0.mk (below_step (by repeat (first | (with_reducible first | exact HB.out | apply below_alloc | apply pw_below_drewN | apply below_drew1) | exact HB.out)) hb); clear HB; have HB := n0_; clear n0_; (try clear hb); (try clear hb2); (try clear hk); (try clear hi)) | ((with_reducible refine gate_callee (f := 17) rfl ?_); refine goesL_ (some 57) rfl rfl Try.func17 (by kernel_rfl) rfl #[.string t319, .string t320, .int .i64 1, .string t321] rfl (by (try simp only [List.map_toArray, List.map_cons, List.map_nil]); first | done | rfl | (simp only [List.length_drop, List.length_take]; rfl)) ?_; (with_reducible refine (box_Stream.calls t319 t320 1 t321 t327 t328 _ A22.out).mono ?_); rintro e w38 ⟨rfl, hb⟩; refine ⟨_, rfl, ?_⟩; have n0_ := Aside0.mk (below_step (by repeat (first | (with_reducible first | exact HB.out | apply below_alloc | apply pw_below_drewN | apply below_drew1) | exact HB.out)) hb); clear HB; have HB := n0_; clear n0_; (try clear hb); (try clear hb2); (try clear hk); (try clear hi)))
                  go_ret
                  exact ⟨by first | rfl | (simp [errW_none, errW_some] <;> rfl) | (simp only [← hji15]; first | rfl | (simp [errW_none, errW_some] <;> rfl)) | (simp [*, errW_none, errW_some] <;> rfl), by repeat (first | (with_reducible first | exact HB.out | apply below_alloc | apply pw_below_drewN | apply below_drew1) | exact HB.out)⟩
              · rw [if_neg c24] at H
                have c24b0 : (t326 == 0) = false := beq_eq_false_iff_ne.mpr c24
                have c24b1 : (t326 != 0) = true := bne_iff_ne.mpr c24
                obtain rfl := Option.some.inj H
                go_wp2_with (first | ((with_reducible refine gate_callee (f := 17) rfl ?_); refine goesL_ (some 38) rfl rfl Try.func17 (by kernel_rfl) rfl #[.string t319, .string t320, .int .i64 1, .string (t321.extract 0 ((ji15) : Int).toNat)] rfl (by (try simp only [List.map_toArray, List.map_cons, List.map_nil]); first | done | (simp only [hji15]; rfl) | rfl | (simp only [List.length_drop, List.length_take]; rfl)) ?_; (with_reducible refine (box_Stream.calls t319 t320 1 (t321.extract 0 ((ji15) : Int).toNat) t323 t324 _ A18.out).mono ?_); rintro e w39 ⟨rfl, hb⟩; refine ⟨_, rfl, ?_⟩; have n0_ := Aside0.mk (below_step (by repeat (first | (with_reducible first | exact HB.out | apply below_alloc | apply pw_below_drewN | apply below_drew1) | exact HB.out)) hb); clear HB; have HB := n0_; clear n0_; (try clear hb); (try clear hb2); (try clear hk); (try clear hi)) | ((with_reducible refine gate_callee (f := 17) rfl ?_); refine goesL_ (some 50) rfl rfl Try.func17 (by kernel_rfl) rfl #[.string t319, .string t320, .int .i64 (wrap64 (1 + a2)), .string (t321.extract ((ji15) : Int).toNat t321.size)] rfl (by (try simp only [List.map_toArray, List.map_cons, List.map_nil]); first | done | (simp only [hji15]; rfl) | rfl | (simp only [List.length_drop, List.length_take]; rfl)) ?_; (with_reducible refine (box_Stream.calls t319 t320 (wrap64 (1 + a2)) (t321.extract ((ji15) : Int).toNat t321.size) t325 t326 _ A21.out).mono ?_); rintro e w40 ⟨rfl, hb⟩; refine ⟨_, rfl, ?_⟩; have n0_ := Aside0.mk (below_step (by repeat (first | (with_reducible first | exact HB.out | apply below_alloc | apply pw_below_drewN | apply below_drew1) | exact HB.out)) hb); clear HB; have HB := n0_; clear n0_; (try clear hb); (try clear hb2); (try clear hk); (try clear hi)) | ((with_reducible refine gate_callee (f := 17) rfl ?_); refine goesL_ (some 57) rfl rfl Try.func17 (by kernel_rfl) rfl #[.string t319, .string t320, .int .i64 1, .string t321] rfl (by (try simp only [List.map_toArray, List.map_cons, List.map_nil]); first | done | rfl | (simp only [List.length_drop, List.length_take]; rfl)) ?_; (with_reducible refine (box_Stream.calls t319 t320 1 t321 t327 t328 _ A22.out).mono ?_); rintro e w41 ⟨rfl, hb⟩; refine ⟨_, rfl, ?_⟩; have n0_ := Aside0.mk (below_step (by repeat (first | (with_reducible first | exact HB.out | apply below_alloc | apply pw_below_drewN | apply below_drew1) | exact HB.out)) hb); clear HB; have HB := n0_; clear n0_; (try clear hb); (try clear hb2); (try clear hk); (try clear hi)))
                go_ret
                exact ⟨by first | rfl | (simp [errW_none, errW_some] <;> rfl) | (simp only [← hji15]; first | rfl | (simp [errW_none, errW_some] <;> rfl)) | (simp [*, errW_none, errW_some] <;> rfl), by repeat (first | (with_reducible first | exact HB.out | apply below_alloc | apply pw_below_drewN | apply below_drew1) | exact HB.out)⟩
            · rw [if_neg c23] at H
              have c23b0 : (t324 == 0) = false := beq_eq_false_iff_ne.mpr c23
              have c23b1 : (t324 != 0) = true := bne_iff_ne.mpr c23
              obtain rfl := Option.some.inj H
              go_wp2_with (first | ((with_reducible refine gate_callee (f := 17) rfl ?_); refine goesL_ (some 38) rfl rfl Try.func17 (by kernel_rfl) rfl #[.string t319, .string t320, .int .i64 1, .string (t321.extract 0 ((ji15) : Int).toNat)] rfl (by (try simp only [List.map_toArray, List.map_cons, List.map_nil]); first | done | (simp only [hji15]; rfl) | rfl | (simp only [List.length_drop, List.length_take]; rfl)) ?_; (with_reducible refine (box_Stream.calls t319 t320 1 (t321.extract 0 ((ji15) : Int).toNat) t323 t324 _ A18.out).mono ?_); rintro e w42 ⟨rfl, hb⟩; refine ⟨_, rfl, ?_⟩; have n0_ := Aside0.mk (below_step (by repeat (first | (with_reducible first | exact HB.out | apply below_alloc | apply pw_below_drewN | apply below_drew1) | exact HB.out)) hb); clear HB; have HB := n0_; clear n0_; (try clear hb); (try clear hb2); (try clear hk); (try clear hi)) | ((with_reducible refine gate_callee (f := 17) rfl ?_); refine goesL_ (some 50) rfl rfl Try.func17 (by kernel_rfl) rfl #[.string t319, .string t320, .int .i64 (wrap64 (1 + a2)), .string (t321.extract ((ji15) : Int).toNat t321.size)] rfl (by (try simp only [List.map_toArray, List.map_cons, List.map_nil]); first | done | (simp only [hji15]; rfl) | rfl | (simp only [List.length_drop, List.length_take]; rfl)) ?_; (with_reducible refine (box_Stream.calls t319 t320 (wrap64 (1 + a2)) (t321.extract ((ji15) : Int).toNat t321.size) t325 t326 _ A21.out).mono ?_); rintro e w43 ⟨rfl, hb⟩; refine ⟨_, rfl, ?_⟩; have n0_ := Aside0.mk (below_step (by repeat (first | (with_reducible first | exact HB.out | apply below_alloc | apply pw_below_drewN | apply below_drew1) | exact HB.out)) hb); clear HB; have HB := n0_; clear n0_; (try clear hb); (try clear hb2); (try clear hk); (try clear hi)) | ((with_reducible refine gate_callee (f := 17) rfl ?_); refine goesL_ (some 57) rfl rfl Try.func17 (by kernel_rfl) rfl #[.string t319, .string t320, .int .i64 1, .string t321] rfl (by (try simp only [List.map_toArray, List.map_cons, List.map_nil]); first | done | rfl | (simp only [List.length_drop, List.length_take]; rfl)) ?_; (with_reducible refine (box_Stream.calls t319 t320 1 t321 t327 t328 _ A22.out).mono ?_); rintro e w44 ⟨rfl, hb⟩; refine ⟨_, rfl, ?_⟩; have n0_ := Aside0.mk (below_step (by repeat (first | (with_reducible first | exact HB.out | apply below_alloc | apply pw_below_drewN | apply below_drew1) | exact HB.out)) hb); clear HB; have HB := n0_; clear n0_; (try clear hb); (try clear hb2); (try clear hk); (try clear hi)))
              go_ret
              exact ⟨by first | rfl | (simp [errW_none, errW_some] <;> rfl) | (simp only [← hji15]; first | rfl | (simp [errW_none, errW_some] <;> rfl)) | (simp [*, errW_none, errW_some] <;> rfl), by repeat (first | (with_reducible first | exact HB.out | apply below_alloc | apply pw_below_drewN | apply below_drew1) | exact HB.out)⟩
          · rw [if_neg c17] at H
            exact absurd H (by simp)
        · rw [if_neg c16] at H
          exact absurd H (by simp)
/-- THE ONE PURE STATEMENT of grapnellaw03_BoxParts: yours. -/
def grapnellaw03_BoxParts.Pure : Prop := ∀ (a0 : ByteArray) (a1 : ByteArray) (a2 : Int) (a3 : ByteArray), a0.size ≤ 140737488351232 → a1.size ≤ 140737488351232 → (Lit.int .i64 a2).wf = true → a3.size ≤ 140737488351232 → ∃ k, grapnellaw03_BoxParts.f k a0 a1 a2 a3 = some true
theorem grapnellaw03_BoxParts.walk (P : grapnellaw03_BoxParts.Pure) (a0 : ByteArray) (a1 : ByteArray) (a2 : Int) (a3 : ByteArray) (w : World) (w0 : a0.size ≤ 140737488351232) (w1 : a1.size ≤ 140737488351232) (w2 : (Lit.int .i64 a2).wf = true) (w3 : a3.size ≤ 140737488351232) :
    Calls Try.prog 7 #[.string a0, .string a1, .int .i64 a2, .string a3] w fun e w' => e = .returned (.bool true) ∧ Below w.heap.size w w' := by
  obtain ⟨k, h⟩ := P a0 a1 a2 a3 w0 w1 w2 w3
  refine (grapnellaw03_BoxParts.calls k a0 a1 a2 a3 true w h).mono ?_
  rintro e w' ⟨rfl, hd⟩
  exact ⟨rfl, hd⟩
end Go.Proofs.Ytajjbgkbceobmaa.B
