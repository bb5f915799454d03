/- Words and walks for the row that is claimed: what it needs of them. -/
import Derived.Test.YtajjbgkbceobmaaBx0
import Derived.Test.YtajjbgkbceobmaaBx1
import Derived.Test.YtajjbgkbceobmaaBx5
import Derived.Test.YtajjbgkbceobmaaBx8
import Derived.Test.YtajjbgkbceobmaaHStream
import Derived.Test.YtajjbgkbceobmaaHTagged
namespace Go.Proofs.Ytajjbgkbceobmaa.B
open Go.RowKit Go.Proofs.YtajjbgkbceobmaaW.PrintWords Go.Proofs.YtajjbgkbceobmaaW.PrintLast Go.Proofs.YtajjbgkbceobmaaW.PrintMore
attribute [local go_sem] max2_int min2_int max_two min_two max_three min_three max_four min_four   -- for this text's walks alone
set_option linter.unusedVariables false
set_option linter.unusedSimpArgs false
def grapnellaw03_BoxTwice.f (a0 : ByteArray) (a1 : ByteArray) (a2 : Int) (a3 : ByteArray) : Option (Bool) := (grapnellaw03_whole.f a0 32).bind fun t310 => ((grapnellaw03_whole.f a1 12).bind fun t311 => ((grapnellaw03_cut.f a3 4096).bind fun t312 => ((box_Stream.f t310 t311 a2 t312).bind fun bt313 => ((box_Stream.f t310 t311 a2 bt313.1).bind fun bt315 => (if bt313.2 = 0 then (if bt315.2 = 0 then (if bt315.1.toList = t312.toList then ((grapnellaw03_awake.f).bind fun t317 => (some t317)) else (some false)) else (some false)) else (if bt313.2 = 2 then (if bt313.1.toList = ([] : List UInt8) then ((grapnellaw03_awake.f).bind fun t318 => (some t318)) else (some false)) else (some false)))))))
/-- THE ONE PURE STATEMENT of grapnellaw03_BoxTwice: yours. -/
def grapnellaw03_BoxTwice.Pure : Prop := ∀ (a0 : ByteArray) (a1 : ByteArray) (a2 : Int) (a3 : ByteArray), a0.size ≤ 140737488351232 → a1.size ≤ 140737488351232 → (Lit.int .i64 a2).wf = true → a3.size ≤ 140737488351232 → grapnellaw03_BoxTwice.f a0 a1 a2 a3 = some true
def grapnellaw03_BoxParts.j0 : Nat → ByteArray → ByteArray → Int → ByteArray → Bool → Option (Bool)
  | 0, _, _, _, _, _ => none
  | k + 1, x0, x1, x2, x3, x29 => if x29 = true then ((grapnellaw03_awake.f).bind fun t322 => (some t322)) else (if 0 ≤ (wrap64 (64 * x2)) then (if (wrap64 (64 * x2)) ≤ (x3.size : Int) then ((box_Stream.f x0 x1 1 (x3.extract 0 ((wrap64 (64 * x2)) : Int).toNat)).bind fun bt323 => ((box_Stream.f x0 x1 (wrap64 (1 + x2)) (x3.extract ((wrap64 (64 * x2)) : Int).toNat x3.size)).bind fun bt325 => ((box_Stream.f x0 x1 1 x3).bind fun bt327 => (if bt323.2 = 0 then (if bt325.2 = 0 then (if bt327.2 = 0 then (if bt323.1.size + bt325.1.size ≤ 9223372036854775807 then (if (bt323.1 ++ bt325.1).toList = bt327.1.toList then ((grapnellaw03_awake.f).bind fun t329 => (some t329)) else (some false)) else (none)) else (some false)) else (some false)) else (some false))))) else (none)) else (none))
def grapnellaw03_BoxParts.f (k : Nat) (a0 : ByteArray) (a1 : ByteArray) (a2 : Int) (a3 : ByteArray) : Option (Bool) := (grapnellaw03_whole.f a0 32).bind fun t319 => ((grapnellaw03_whole.f a1 12).bind fun t320 => ((grapnellaw03_cut.f a3 4096).bind fun t321 => (if a2 < 0 then (grapnellaw03_BoxParts.j0 k t319 t320 a2 t321 true) else (grapnellaw03_BoxParts.j0 k t319 t320 a2 t321 (decide (a2 > (wrap64 ((t321.size : Int) / 64))))))))
/-- THE ONE PURE STATEMENT of grapnellaw03_BoxParts: yours. -/
def grapnellaw03_BoxParts.Pure : Prop := ∀ (a0 : ByteArray) (a1 : ByteArray) (a2 : Int) (a3 : ByteArray), a0.size ≤ 140737488351232 → a1.size ≤ 140737488351232 → (Lit.int .i64 a2).wf = true → a3.size ≤ 140737488351232 → ∃ k, grapnellaw03_BoxParts.f k a0 a1 a2 a3 = some true
mutual
def box_framed.l0 : Nat → List Int → List Int → Int → Int → Option (ByteArray)
  | 0, _, _, _, _ => none
  | k + 1, x5, x33, x34, x35 => if x35 < x34 then (if 0 ≤ x35 then (if x35 < (x33.length : Int) then (box_framed.l1 k x5 (rd x33 x35) x33 x34 x35 0) else (none)) else (none)) else (some (strOfNums x5))
def box_framed.l1 : Nat → List Int → Int → List Int → Int → Int → Int → Option (ByteArray)
  | 0, _, _, _, _, _, _ => none
  | k + 1, x5, x7, x33, x34, x35, x39 => if x39 < 8 then (if 0 ≤ (wrap64 (8 * x39)) then (if x5.length < 140737488355328 then (box_framed.l1 k (x5 ++ [(shr .i64 x7 (wrap64 (8 * x39))) % 256]) x7 x33 x34 x35 (wrap64 (x39 + 1))) else (none)) else (none)) else (box_framed.l0 k x5 x33 x34 (wrap64 (x35 + 1)))
end
def box_framed.f (k : Nat) (a0 : ByteArray) (a1 : ByteArray) : Option (ByteArray) := (some (([] : List Int) : List Int)).bind fun y330 => (if y330.length + a0.size < 140737488355328 then ((some (y330 ++ bytesOf a0 : List Int)).bind fun y333 => (if 0 ≤ ((16 - ((a0.size : Int) % 16)) % 16) then (if y333.length + ((16 - ((a0.size : Int) % 16)) % 16 : Int).toNat < 140737488355328 then ((some (y333 ++ List.replicate ((16 - ((a0.size : Int) % 16)) % 16 : Int).toNat 0 : List Int)).bind fun y336 => (if y336.length + a1.size < 140737488355328 then ((some (y336 ++ bytesOf a1 : List Int)).bind fun y339 => (if 0 ≤ ((16 - ((a1.size : Int) % 16)) % 16) then (if y339.length + ((16 - ((a1.size : Int) % 16)) % 16 : Int).toNat < 140737488355328 then ((some (([(a0.size : Int), (a1.size : Int)] : List Int) : List Int)).bind fun y345 => (box_framed.l0 k (y339 ++ List.replicate ((16 - ((a1.size : Int) % 16)) % 16 : Int).toNat 0) y345 (y345.length : Int) 0)) else (none)) else (none))) else (none))) else (none)) else (none))) else (none))
def box_Seal.f (a0 : ByteArray) (a1 : ByteArray) (a2 : ByteArray) (a3 : ByteArray) : Option (ByteArray × Int) := (box_Stream.f a0 a1 1 a3).bind fun bt352 => (if bt352.2 = 0 then ((box_tagged.f a0 a1 a2 bt352.1).bind fun t354 => (if bt352.1.size + t354.size ≤ 9223372036854775807 then (some (bt352.1 ++ t354, 0)) else (none))) else (some ((⟨#[]⟩ : ByteArray), bt352.2)))
set_option maxHeartbeats 8000000 in
set_option maxRecDepth 100000 in
theorem box_Seal.calls (a0 : ByteArray) (a1 : ByteArray) (a2 : ByteArray) (a3 : ByteArray) (r1 : ByteArray) (r2 : Int) (w : World) (h : box_Seal.f a0 a1 a2 a3 = some (r1, r2)) :
    Calls Try.prog 20 #[.string a0, .string a1, .string a2, .string a3] w fun e w' => e = .returned (.tuple #[.string r1, .int .i64 r2]) ∧ Below w.heap.size w w' := by
  have HB := Aside0.mk (Below.refl w.heap.size w)
  have H : ((box_Stream.f a0 a1 1 a3).bind fun bt352 => (if bt352.2 = 0 then ((box_tagged.f a0 a1 a2 bt352.1).bind fun t354 => (if bt352.1.size + t354.size ≤ 9223372036854775807 then (some (bt352.1 ++ t354, 0)) else (none))) else (some ((⟨#[]⟩ : ByteArray), bt352.2)))) = some (r1, r2) := h
  clear h
  replace H := Option.bind_eq_some_iff.mp H
  obtain ⟨⟨t352, t353⟩, A50, H⟩ := H
  replace H : (if t353 = 0 then ((box_tagged.f a0 a1 a2 t352).bind fun t354 => (if t352.size + t354.size ≤ 9223372036854775807 then (some (t352 ++ t354, 0)) else (none))) else (some ((⟨#[]⟩ : ByteArray), t353))) = some (r1, r2) := H
  have A5 := Aside0.mk A50
  clear A50
  by_cases c6 : t353 = 0
  · rw [if_pos c6] at H
    have c6b0 : (t353 == 0) = true := beq_iff_eq.mpr c6
    have c6b1 : (t353 != 0) = false := bne_eq_false_iff_eq.mpr c6
    clear c6
    replace H := Option.bind_eq_some_iff.mp H
    obtain ⟨t354, A70, H⟩ := H
    replace H : (if t352.size + t354.size ≤ 9223372036854775807 then (some (t352 ++ t354, 0)) else (none)) = some (r1, r2) := H
    have A7 := Aside0.mk A70
    clear A70
    by_cases c8 : t352.size + t354.size ≤ 9223372036854775807
    · rw [if_pos c8] at H
      have c8b0 := eq_true c8
      have c8b1 : decide (t352.size + t354.size ≤ 9223372036854775807) = true := decide_eq_true c8
      try have c8b2 : (9223372036854775807 < t352.size + t354.size) = False := eq_false (Nat.not_lt.2 c8)
      simp only [Option.some.injEq, Prod.mk.injEq] at H
      obtain ⟨rfl, rfl⟩ := H
      go_enter Try.func20, Try.ntmps20
      go_wp2_with (first | ((with_reducible refine gate_callee (f := 17) rfl ?_); refine goesL_ (some 16) rfl rfl Try.func17 (by kernel_rfl) rfl #[.string a0, .string a1, .int .i64 1, .string a3] rfl (by (try simp only [List.map_toArray, List.map_cons, List.map_nil]); first | done | rfl | (simp only [List.length_drop, List.length_take]; rfl)) ?_; (with_reducible refine (box_Stream.calls a0 a1 1 a3 t352 t353 _ A5.out).mono ?_); rintro e w9 ⟨rfl, hb⟩; refine ⟨_, rfl, ?_⟩; have n0_ := Aside0.mk (below_step (by repeat (first | (with_reducible first | exact HB.out | apply below_alloc | apply pw_below_drewN | apply below_drew1) | exact HB.out)) hb); clear HB; have HB := n0_; clear n0_; (try clear hb); (try clear hb2); (try clear hk); (try clear hi)) | ((with_reducible refine gate_callee (f := 33) rfl ?_); refine goesL_ (some 27) rfl rfl Try.func33 (by kernel_rfl) rfl #[.string a0, .string a1, .string a2, .string t352] rfl (by (try simp only [List.map_toArray, List.map_cons, List.map_nil]); first | done | rfl | (simp only [List.length_drop, List.length_take]; rfl)) ?_; (with_reducible refine (box_tagged.calls a0 a1 a2 t352 t354 _ A7.out).mono ?_); rintro e w10 ⟨rfl, hb⟩; refine ⟨_, rfl, ?_⟩; have n0_ := Aside0.mk (below_step (by repeat (first | (with_reducible first | exact HB.out | apply below_alloc | apply pw_below_drewN | apply below_drew1) | exact HB.out)) hb); clear HB; have HB := n0_; clear n0_; (try clear hb); (try clear hb2); (try clear hk); (try clear hi)))
      go_ret2
      exact ⟨by first | rfl | (simp [errW_none, errW_some] <;> rfl) | (simp [*, errW_none, errW_some] <;> rfl), by repeat (first | (with_reducible first | exact HB.out | apply below_alloc | apply pw_below_drewN | apply below_drew1) | exact HB.out)⟩
    · rw [if_neg c8] at H
      exact absurd H (by simp)
  · rw [if_neg c6] at H
    have c6b0 : (t353 == 0) = false := beq_eq_false_iff_ne.mpr c6
    have c6b1 : (t353 != 0) = true := bne_iff_ne.mpr c6
    simp only [Option.some.injEq, Prod.mk.injEq] at H
    obtain ⟨rfl, rfl⟩ := H
    go_enter Try.func20, Try.ntmps20
    go_wp2_with (first | ((with_reducible refine gate_callee (f := 17) rfl ?_); refine goesL_ (some 16) rfl rfl Try.func17 (by kernel_rfl) rfl #[.string a0, .string a1, .int .i64 1, .string a3] rfl (by (try simp only [List.map_toArray, List.map_cons, List.map_nil]); first | done | rfl | (simp only [List.length_drop, List.length_take]; rfl)) ?_; (with_reducible refine (box_Stream.calls a0 a1 1 a3 t352 t353 _ A5.out).mono ?_); rintro e w11 ⟨rfl, hb⟩; refine ⟨_, rfl, ?_⟩; have n0_ := Aside0.mk (below_step (by repeat (first | (with_reducible first | exact HB.out | apply below_alloc | apply pw_below_drewN | apply below_drew1) | exact HB.out)) hb); clear HB; have HB := n0_; clear n0_; (try clear hb); (try clear hb2); (try clear hk); (try clear hi)))
    go_ret2
    exact ⟨by first | rfl | (simp [errW_none, errW_some] <;> rfl) | (simp [*, errW_none, errW_some] <;> rfl), by repeat (first | (with_reducible first | exact HB.out | apply below_alloc | apply pw_below_drewN | apply below_drew1) | exact HB.out)⟩
def grapnelref03_even.l0 : Nat → ByteArray → Option (ByteArray)
  | 0, _ => none
  | k + 1, x0 => if ((x0.size : Int) % 16) = 0 then (some x0) else (if x0.size + 1 ≤ 9223372036854775807 then (grapnelref03_even.l0 k (x0 ++ (⟨#[0]⟩ : ByteArray))) else (none))
def grapnelref03_even.f (k : Nat) (a0 : ByteArray) : Option (ByteArray) := grapnelref03_even.l0 k a0
def grapnelref03_long.l0 : Nat → Int → List Int → Int → Option (ByteArray)
  | 0, _, _, _ => none
  | k + 1, x0, x3, x4 => if x4 < 8 then (if x3.length < 140737488355328 then (grapnelref03_long.l0 k (wrap64 (Int.tdiv x0 256)) (x3 ++ [(Int.tmod x0 256) % 256]) (wrap64 (x4 + 1))) else (none)) else (some (strOfNums x3))
def grapnelref03_long.f (k : Nat) (a0 : Int) : Option (ByteArray) := grapnelref03_long.l0 k a0 ([] : List Int) 0
end Go.Proofs.Ytajjbgkbceobmaa.B
