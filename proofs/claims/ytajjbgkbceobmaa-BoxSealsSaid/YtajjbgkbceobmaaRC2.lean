/- The reference's quarter of a round. -/
import Derived.Test.YtajjbgkbceobmaaRC1
set_option maxRecDepth 10000
set_option linter.unusedVariables false
namespace Go.Proofs.Ytajjbgkbceobmaa.V
open Go.Proofs.Ytajjbgkbceobmaa.VL
attribute [local irreducible] Run
def low32 (l : List Nat) : Prop := ∀ i, l.getD i 0 < 4294967296
theorem low32_set {l : List Nat} (h : low32 l) (a v : Nat) (hv : v < 4294967296) : low32 (l.set a v) := fun i => by
  rw [List.getD_eq_getElem?_getD, List.getElem?_set]
  split
  · split
    · exact hv
    · decide
  · rw [← List.getD_eq_getElem?_getD]; exact h i
theorem lenll : True := trivial
theorem low32_mod (n : Nat) : n % 4294967296 < 4294967296 := Nat.mod_lt _ (by decide)
theorem quarter_spec (q : View) (b0 c0 : Nat) (l : List Nat) (ll : l.length = 16) (hl : low32 l) (a b c d : Nat) (ha : a < 16) (hb : b < 16) (hc : c < 16) (hd : d < 16) :
    FnX Try.prog q 41 [.slice (some ⟨b0, 0, none⟩) 16 c0, .int .i64 a, .int .i64 b, .int .i64 c, .int .i64 d] [sl (some ⟨b0, 0, none⟩) 16 c0 3 1 (iv l)] (fun r : Nat × Nat => .slice (some ⟨r.1, 0, none⟩) 16 r.2)
      fun r => [sl (some ⟨r.1, 0, none⟩) 16 r.2 3 1 (iv (Spec.qr l a b c d)), sl (some ⟨b0, 0, none⟩) 16 c0 3 1 (iv l)] := by
  (first | refine FnD.go Try.call41 Try.func41 rfl rfl rfl ?_ | refine FnX.go Try.call41 Try.func41 rfl rfl rfl ?_)
  (repeat (first | refine g ?_ | refine s_flat 2 [(.pure, [0, 1, 2, 3, 4, 6, 7, 8]), (.mem true, [5, 9]), (.pure, [10]), (.mem false, [11]), (.pure, [12]), (.mem false, [13])] ?_ | refine s_flat 3 [(.pure, [0, 1, 2, 3, 4, 6, 7, 8]), (.mem true, [5, 9]), (.pure, [10]), (.mem false, [11]), (.pure, [12]), (.mem false, [13])] ?_ | refine s_flat 4 [(.pure, [0, 1, 2, 3, 4, 6, 7, 8]), (.mem true, [5, 9]), (.pure, [10]), (.mem false, [11]), (.pure, [12]), (.mem false, [13])] ?_ | refine s_flat 5 [(.pure, [0, 1, 2, 3, 4, 6, 7, 8]), (.mem true, [5, 9]), (.pure, [10]), (.mem false, [11]), (.pure, [12]), (.mem false, [13])] ?_ | refine s_flat 6 [(.pure, [0, 1, 2, 3, 4, 6, 7, 8]), (.mem true, [5, 9]), (.pure, [10]), (.mem false, [11]), (.pure, [12]), (.mem false, [13])] ?_ | refine s_flat 7 [(.pure, [0, 1, 2, 3, 4, 6, 7, 8]), (.mem true, [5, 9]), (.pure, [10]), (.mem false, [11]), (.pure, [12]), (.mem false, [13])] ?_ | refine s_flat 8 [(.pure, [0, 1, 2, 3, 4, 6, 7, 8]), (.mem true, [5, 9]), (.pure, [10]), (.mem false, [11]), (.pure, [12]), (.mem false, [13])] ?_ | refine s_flat 9 [(.pure, [0, 1, 2, 3, 4, 6, 7, 8]), (.mem true, [5, 9]), (.pure, [10]), (.mem false, [11]), (.pure, [12]), (.mem false, [13])] ?_ | refine gv ?_))
  refine s_built fun r => ?_
  (repeat (first | refine g ?_ | refine s_flat 2 [(.pure, [0, 1, 2, 3, 4, 6, 7, 8]), (.mem true, [5, 9]), (.pure, [10]), (.mem false, [11]), (.pure, [12]), (.mem false, [13])] ?_ | refine s_flat 3 [(.pure, [0, 1, 2, 3, 4, 6, 7, 8]), (.mem true, [5, 9]), (.pure, [10]), (.mem false, [11]), (.pure, [12]), (.mem false, [13])] ?_ | refine s_flat 4 [(.pure, [0, 1, 2, 3, 4, 6, 7, 8]), (.mem true, [5, 9]), (.pure, [10]), (.mem false, [11]), (.pure, [12]), (.mem false, [13])] ?_ | refine s_flat 5 [(.pure, [0, 1, 2, 3, 4, 6, 7, 8]), (.mem true, [5, 9]), (.pure, [10]), (.mem false, [11]), (.pure, [12]), (.mem false, [13])] ?_ | refine s_flat 6 [(.pure, [0, 1, 2, 3, 4, 6, 7, 8]), (.mem true, [5, 9]), (.pure, [10]), (.mem false, [11]), (.pure, [12]), (.mem false, [13])] ?_ | refine s_flat 7 [(.pure, [0, 1, 2, 3, 4, 6, 7, 8]), (.mem true, [5, 9]), (.pure, [10]), (.mem false, [11]), (.pure, [12]), (.mem false, [13])] ?_ | refine s_flat 8 [(.pure, [0, 1, 2, 3, 4, 6, 7, 8]), (.mem true, [5, 9]), (.pure, [10]), (.mem false, [11]), (.pure, [12]), (.mem false, [13])] ?_ | refine s_flat 9 [(.pure, [0, 1, 2, 3, 4, 6, 7, 8]), (.mem true, [5, 9]), (.pure, [10]), (.mem false, [11]), (.pure, [12]), (.mem false, [13])] ?_ | refine gv ?_))
  refine run_to_sl (n := 0) (kk := 1) rfl ?_
  refine s_app 1 8 (reads_slice (At.tail At.head)) (hxl := rfl) (hnl := by rw [iv_length, ll]) (h1 := by unfold iv; simp [one1]) fun r2 => ?_
  obtain ⟨p, cy⟩ := r2
  dsimp only
  refine s_ptr p fun y eb _ hcy => ?_
  subst eb
  rw [List.nil_append, Nat.zero_add]
  have uy1 : l.getD a 0 < 4294967296 := hl a
  have wy1 : l.getD b 0 < 4294967296 := hl b
  (repeat (first | refine g ?_ | refine s_flat 2 [(.pure, [0, 1, 2, 3, 4, 6, 7, 8]), (.mem true, [5, 9]), (.pure, [10]), (.mem false, [11]), (.pure, [12]), (.mem false, [13])] ?_ | refine s_flat 3 [(.pure, [0, 1, 2, 3, 4, 6, 7, 8]), (.mem true, [5, 9]), (.pure, [10]), (.mem false, [11]), (.pure, [12]), (.mem false, [13])] ?_ | refine s_flat 4 [(.pure, [0, 1, 2, 3, 4, 6, 7, 8]), (.mem true, [5, 9]), (.pure, [10]), (.mem false, [11]), (.pure, [12]), (.mem false, [13])] ?_ | refine s_flat 5 [(.pure, [0, 1, 2, 3, 4, 6, 7, 8]), (.mem true, [5, 9]), (.pure, [10]), (.mem false, [11]), (.pure, [12]), (.mem false, [13])] ?_ | refine s_flat 6 [(.pure, [0, 1, 2, 3, 4, 6, 7, 8]), (.mem true, [5, 9]), (.pure, [10]), (.mem false, [11]), (.pure, [12]), (.mem false, [13])] ?_ | refine s_flat 7 [(.pure, [0, 1, 2, 3, 4, 6, 7, 8]), (.mem true, [5, 9]), (.pure, [10]), (.mem false, [11]), (.pure, [12]), (.mem false, [13])] ?_ | refine s_flat 8 [(.pure, [0, 1, 2, 3, 4, 6, 7, 8]), (.mem true, [5, 9]), (.pure, [10]), (.mem false, [11]), (.pure, [12]), (.mem false, [13])] ?_ | refine s_flat 9 [(.pure, [0, 1, 2, 3, 4, 6, 7, 8]), (.mem true, [5, 9]), (.pure, [10]), (.mem false, [11]), (.pure, [12]), (.mem false, [13])] ?_ | refine gv ?_))
  refine s_call (low_spec' q ((l.getD a 0 : Nat) + (l.getD b 0 : Nat) : Int) (l.getD a 0 + l.getD b 0) (by push_cast; rfl) (by omega)) ?_
  (repeat (first | refine gr ?_ | refine gv ?_))
  obtain ⟨y1, ey1⟩ : ∃ y1, y1 = l.set a ((l.getD a 0 + l.getD b 0) % 4294967296) := ⟨_, rfl⟩
  rw [← ey1]
  have hy1 : low32 y1 := by rw [ey1]; exact low32_set hl _ _ (low32_mod _)
  have ly1 : y1.length = 16 := by rw [ey1, List.length_set]; exact ll
  have uy2 : y1.getD d 0 < 4294967296 := hy1 d
  have wy2 : y1.getD a 0 < 4294967296 := hy1 a
  (repeat (first | refine g ?_ | refine s_flat 2 [(.pure, [0, 1, 2, 3, 4, 6, 7, 8]), (.mem true, [5, 9]), (.pure, [10]), (.mem false, [11]), (.pure, [12]), (.mem false, [13])] ?_ | refine s_flat 3 [(.pure, [0, 1, 2, 3, 4, 6, 7, 8]), (.mem true, [5, 9]), (.pure, [10]), (.mem false, [11]), (.pure, [12]), (.mem false, [13])] ?_ | refine s_flat 4 [(.pure, [0, 1, 2, 3, 4, 6, 7, 8]), (.mem true, [5, 9]), (.pure, [10]), (.mem false, [11]), (.pure, [12]), (.mem false, [13])] ?_ | refine s_flat 5 [(.pure, [0, 1, 2, 3, 4, 6, 7, 8]), (.mem true, [5, 9]), (.pure, [10]), (.mem false, [11]), (.pure, [12]), (.mem false, [13])] ?_ | refine s_flat 6 [(.pure, [0, 1, 2, 3, 4, 6, 7, 8]), (.mem true, [5, 9]), (.pure, [10]), (.mem false, [11]), (.pure, [12]), (.mem false, [13])] ?_ | refine s_flat 7 [(.pure, [0, 1, 2, 3, 4, 6, 7, 8]), (.mem true, [5, 9]), (.pure, [10]), (.mem false, [11]), (.pure, [12]), (.mem false, [13])] ?_ | refine s_flat 8 [(.pure, [0, 1, 2, 3, 4, 6, 7, 8]), (.mem true, [5, 9]), (.pure, [10]), (.mem false, [11]), (.pure, [12]), (.mem false, [13])] ?_ | refine s_flat 9 [(.pure, [0, 1, 2, 3, 4, 6, 7, 8]), (.mem true, [5, 9]), (.pure, [10]), (.mem false, [11]), (.pure, [12]), (.mem false, [13])] ?_ | refine gv ?_))
  have zy2 : y1.getD d 0 ^^^ y1.getD a 0 < 4294967296 := Nat.xor_lt_two_pow (n := 32) (hy1 d) (hy1 a)
  refine s_call (left_spec q (y1.getD d 0 ^^^ y1.getD a 0) 16 zy2 (by decide)) ?_
  (repeat (first | refine gr ?_ | refine gv ?_))
  obtain ⟨y2, ey2⟩ : ∃ y2, y2 = y1.set d (Spec.rotl (y1.getD d 0 ^^^ y1.getD a 0) 16) := ⟨_, rfl⟩
  rw [← ey2]
  have hy2 : low32 y2 := by rw [ey2]; exact low32_set hy1 _ _ (rotl_lt _ _ zy2)
  have ly2 : y2.length = 16 := by rw [ey2, List.length_set]; exact ly1
  have uy3 : y2.getD c 0 < 4294967296 := hy2 c
  have wy3 : y2.getD d 0 < 4294967296 := hy2 d
  (repeat (first | refine g ?_ | refine s_flat 2 [(.pure, [0, 1, 2, 3, 4, 6, 7, 8]), (.mem true, [5, 9]), (.pure, [10]), (.mem false, [11]), (.pure, [12]), (.mem false, [13])] ?_ | refine s_flat 3 [(.pure, [0, 1, 2, 3, 4, 6, 7, 8]), (.mem true, [5, 9]), (.pure, [10]), (.mem false, [11]), (.pure, [12]), (.mem false, [13])] ?_ | refine s_flat 4 [(.pure, [0, 1, 2, 3, 4, 6, 7, 8]), (.mem true, [5, 9]), (.pure, [10]), (.mem false, [11]), (.pure, [12]), (.mem false, [13])] ?_ | refine s_flat 5 [(.pure, [0, 1, 2, 3, 4, 6, 7, 8]), (.mem true, [5, 9]), (.pure, [10]), (.mem false, [11]), (.pure, [12]), (.mem false, [13])] ?_ | refine s_flat 6 [(.pure, [0, 1, 2, 3, 4, 6, 7, 8]), (.mem true, [5, 9]), (.pure, [10]), (.mem false, [11]), (.pure, [12]), (.mem false, [13])] ?_ | refine s_flat 7 [(.pure, [0, 1, 2, 3, 4, 6, 7, 8]), (.mem true, [5, 9]), (.pure, [10]), (.mem false, [11]), (.pure, [12]), (.mem false, [13])] ?_ | refine s_flat 8 [(.pure, [0, 1, 2, 3, 4, 6, 7, 8]), (.mem true, [5, 9]), (.pure, [10]), (.mem false, [11]), (.pure, [12]), (.mem false, [13])] ?_ | refine s_flat 9 [(.pure, [0, 1, 2, 3, 4, 6, 7, 8]), (.mem true, [5, 9]), (.pure, [10]), (.mem false, [11]), (.pure, [12]), (.mem false, [13])] ?_ | refine gv ?_))
  refine s_call (low_spec' q ((y2.getD c 0 : Nat) + (y2.getD d 0 : Nat) : Int) (y2.getD c 0 + y2.getD d 0) (by push_cast; rfl) (by omega)) ?_
  (repeat (first | refine gr ?_ | refine gv ?_))
  obtain ⟨y3, ey3⟩ : ∃ y3, y3 = y2.set c ((y2.getD c 0 + y2.getD d 0) % 4294967296) := ⟨_, rfl⟩
  rw [← ey3]
  have hy3 : low32 y3 := by rw [ey3]; exact low32_set hy2 _ _ (low32_mod _)
  have ly3 : y3.length = 16 := by rw [ey3, List.length_set]; exact ly2
  have uy4 : y3.getD b 0 < 4294967296 := hy3 b
  have wy4 : y3.getD c 0 < 4294967296 := hy3 c
  (repeat (first | refine g ?_ | refine s_flat 2 [(.pure, [0, 1, 2, 3, 4, 6, 7, 8]), (.mem true, [5, 9]), (.pure, [10]), (.mem false, [11]), (.pure, [12]), (.mem false, [13])] ?_ | refine s_flat 3 [(.pure, [0, 1, 2, 3, 4, 6, 7, 8]), (.mem true, [5, 9]), (.pure, [10]), (.mem false, [11]), (.pure, [12]), (.mem false, [13])] ?_ | refine s_flat 4 [(.pure, [0, 1, 2, 3, 4, 6, 7, 8]), (.mem true, [5, 9]), (.pure, [10]), (.mem false, [11]), (.pure, [12]), (.mem false, [13])] ?_ | refine s_flat 5 [(.pure, [0, 1, 2, 3, 4, 6, 7, 8]), (.mem true, [5, 9]), (.pure, [10]), (.mem false, [11]), (.pure, [12]), (.mem false, [13])] ?_ | refine s_flat 6 [(.pure, [0, 1, 2, 3, 4, 6, 7, 8]), (.mem true, [5, 9]), (.pure, [10]), (.mem false, [11]), (.pure, [12]), (.mem false, [13])] ?_ | refine s_flat 7 [(.pure, [0, 1, 2, 3, 4, 6, 7, 8]), (.mem true, [5, 9]), (.pure, [10]), (.mem false, [11]), (.pure, [12]), (.mem false, [13])] ?_ | refine s_flat 8 [(.pure, [0, 1, 2, 3, 4, 6, 7, 8]), (.mem true, [5, 9]), (.pure, [10]), (.mem false, [11]), (.pure, [12]), (.mem false, [13])] ?_ | refine s_flat 9 [(.pure, [0, 1, 2, 3, 4, 6, 7, 8]), (.mem true, [5, 9]), (.pure, [10]), (.mem false, [11]), (.pure, [12]), (.mem false, [13])] ?_ | refine gv ?_))
  have zy4 : y3.getD b 0 ^^^ y3.getD c 0 < 4294967296 := Nat.xor_lt_two_pow (n := 32) (hy3 b) (hy3 c)
  refine s_call (left_spec q (y3.getD b 0 ^^^ y3.getD c 0) 12 zy4 (by decide)) ?_
  (repeat (first | refine gr ?_ | refine gv ?_))
  obtain ⟨y4, ey4⟩ : ∃ y4, y4 = y3.set b (Spec.rotl (y3.getD b 0 ^^^ y3.getD c 0) 12) := ⟨_, rfl⟩
  rw [← ey4]
  have hy4 : low32 y4 := by rw [ey4]; exact low32_set hy3 _ _ (rotl_lt _ _ zy4)
  have ly4 : y4.length = 16 := by rw [ey4, List.length_set]; exact ly3
  have uy5 : y4.getD a 0 < 4294967296 := hy4 a
  have wy5 : y4.getD b 0 < 4294967296 := hy4 b
  (repeat (first | refine g ?_ | refine s_flat 2 [(.pure, [0, 1, 2, 3, 4, 6, 7, 8]), (.mem true, [5, 9]), (.pure, [10]), (.mem false, [11]), (.pure, [12]), (.mem false, [13])] ?_ | refine s_flat 3 [(.pure, [0, 1, 2, 3, 4, 6, 7, 8]), (.mem true, [5, 9]), (.pure, [10]), (.mem false, [11]), (.pure, [12]), (.mem false, [13])] ?_ | refine s_flat 4 [(.pure, [0, 1, 2, 3, 4, 6, 7, 8]), (.mem true, [5, 9]), (.pure, [10]), (.mem false, [11]), (.pure, [12]), (.mem false, [13])] ?_ | refine s_flat 5 [(.pure, [0, 1, 2, 3, 4, 6, 7, 8]), (.mem true, [5, 9]), (.pure, [10]), (.mem false, [11]), (.pure, [12]), (.mem false, [13])] ?_ | refine s_flat 6 [(.pure, [0, 1, 2, 3, 4, 6, 7, 8]), (.mem true, [5, 9]), (.pure, [10]), (.mem false, [11]), (.pure, [12]), (.mem false, [13])] ?_ | refine s_flat 7 [(.pure, [0, 1, 2, 3, 4, 6, 7, 8]), (.mem true, [5, 9]), (.pure, [10]), (.mem false, [11]), (.pure, [12]), (.mem false, [13])] ?_ | refine s_flat 8 [(.pure, [0, 1, 2, 3, 4, 6, 7, 8]), (.mem true, [5, 9]), (.pure, [10]), (.mem false, [11]), (.pure, [12]), (.mem false, [13])] ?_ | refine s_flat 9 [(.pure, [0, 1, 2, 3, 4, 6, 7, 8]), (.mem true, [5, 9]), (.pure, [10]), (.mem false, [11]), (.pure, [12]), (.mem false, [13])] ?_ | refine gv ?_))
  refine s_call (low_spec' q ((y4.getD a 0 : Nat) + (y4.getD b 0 : Nat) : Int) (y4.getD a 0 + y4.getD b 0) (by push_cast; rfl) (by omega)) ?_
  (repeat (first | refine gr ?_ | refine gv ?_))
  obtain ⟨y5, ey5⟩ : ∃ y5, y5 = y4.set a ((y4.getD a 0 + y4.getD b 0) % 4294967296) := ⟨_, rfl⟩
  rw [← ey5]
  have hy5 : low32 y5 := by rw [ey5]; exact low32_set hy4 _ _ (low32_mod _)
  have ly5 : y5.length = 16 := by rw [ey5, List.length_set]; exact ly4
  have uy6 : y5.getD d 0 < 4294967296 := hy5 d
  have wy6 : y5.getD a 0 < 4294967296 := hy5 a
  (repeat (first | refine g ?_ | refine s_flat 2 [(.pure, [0, 1, 2, 3, 4, 6, 7, 8]), (.mem true, [5, 9]), (.pure, [10]), (.mem false, [11]), (.pure, [12]), (.mem false, [13])] ?_ | refine s_flat 3 [(.pure, [0, 1, 2, 3, 4, 6, 7, 8]), (.mem true, [5, 9]), (.pure, [10]), (.mem false, [11]), (.pure, [12]), (.mem false, [13])] ?_ | refine s_flat 4 [(.pure, [0, 1, 2, 3, 4, 6, 7, 8]), (.mem true, [5, 9]), (.pure, [10]), (.mem false, [11]), (.pure, [12]), (.mem false, [13])] ?_ | refine s_flat 5 [(.pure, [0, 1, 2, 3, 4, 6, 7, 8]), (.mem true, [5, 9]), (.pure, [10]), (.mem false, [11]), (.pure, [12]), (.mem false, [13])] ?_ | refine s_flat 6 [(.pure, [0, 1, 2, 3, 4, 6, 7, 8]), (.mem true, [5, 9]), (.pure, [10]), (.mem false, [11]), (.pure, [12]), (.mem false, [13])] ?_ | refine s_flat 7 [(.pure, [0, 1, 2, 3, 4, 6, 7, 8]), (.mem true, [5, 9]), (.pure, [10]), (.mem false, [11]), (.pure, [12]), (.mem false, [13])] ?_ | refine s_flat 8 [(.pure, [0, 1, 2, 3, 4, 6, 7, 8]), (.mem true, [5, 9]), (.pure, [10]), (.mem false, [11]), (.pure, [12]), (.mem false, [13])] ?_ | refine s_flat 9 [(.pure, [0, 1, 2, 3, 4, 6, 7, 8]), (.mem true, [5, 9]), (.pure, [10]), (.mem false, [11]), (.pure, [12]), (.mem false, [13])] ?_ | refine gv ?_))
  have zy6 : y5.getD d 0 ^^^ y5.getD a 0 < 4294967296 := Nat.xor_lt_two_pow (n := 32) (hy5 d) (hy5 a)
  refine s_call (left_spec q (y5.getD d 0 ^^^ y5.getD a 0) 8 zy6 (by decide)) ?_
  (repeat (first | refine gr ?_ | refine gv ?_))
  obtain ⟨y6, ey6⟩ : ∃ y6, y6 = y5.set d (Spec.rotl (y5.getD d 0 ^^^ y5.getD a 0) 8) := ⟨_, rfl⟩
  rw [← ey6]
  have hy6 : low32 y6 := by rw [ey6]; exact low32_set hy5 _ _ (rotl_lt _ _ zy6)
  have ly6 : y6.length = 16 := by rw [ey6, List.length_set]; exact ly5
  have uy7 : y6.getD c 0 < 4294967296 := hy6 c
  have wy7 : y6.getD d 0 < 4294967296 := hy6 d
  (repeat (first | refine g ?_ | refine s_flat 2 [(.pure, [0, 1, 2, 3, 4, 6, 7, 8]), (.mem true, [5, 9]), (.pure, [10]), (.mem false, [11]), (.pure, [12]), (.mem false, [13])] ?_ | refine s_flat 3 [(.pure, [0, 1, 2, 3, 4, 6, 7, 8]), (.mem true, [5, 9]), (.pure, [10]), (.mem false, [11]), (.pure, [12]), (.mem false, [13])] ?_ | refine s_flat 4 [(.pure, [0, 1, 2, 3, 4, 6, 7, 8]), (.mem true, [5, 9]), (.pure, [10]), (.mem false, [11]), (.pure, [12]), (.mem false, [13])] ?_ | refine s_flat 5 [(.pure, [0, 1, 2, 3, 4, 6, 7, 8]), (.mem true, [5, 9]), (.pure, [10]), (.mem false, [11]), (.pure, [12]), (.mem false, [13])] ?_ | refine s_flat 6 [(.pure, [0, 1, 2, 3, 4, 6, 7, 8]), (.mem true, [5, 9]), (.pure, [10]), (.mem false, [11]), (.pure, [12]), (.mem false, [13])] ?_ | refine s_flat 7 [(.pure, [0, 1, 2, 3, 4, 6, 7, 8]), (.mem true, [5, 9]), (.pure, [10]), (.mem false, [11]), (.pure, [12]), (.mem false, [13])] ?_ | refine s_flat 8 [(.pure, [0, 1, 2, 3, 4, 6, 7, 8]), (.mem true, [5, 9]), (.pure, [10]), (.mem false, [11]), (.pure, [12]), (.mem false, [13])] ?_ | refine s_flat 9 [(.pure, [0, 1, 2, 3, 4, 6, 7, 8]), (.mem true, [5, 9]), (.pure, [10]), (.mem false, [11]), (.pure, [12]), (.mem false, [13])] ?_ | refine gv ?_))
  refine s_call (low_spec' q ((y6.getD c 0 : Nat) + (y6.getD d 0 : Nat) : Int) (y6.getD c 0 + y6.getD d 0) (by push_cast; rfl) (by omega)) ?_
  (repeat (first | refine gr ?_ | refine gv ?_))
  obtain ⟨y7, ey7⟩ : ∃ y7, y7 = y6.set c ((y6.getD c 0 + y6.getD d 0) % 4294967296) := ⟨_, rfl⟩
  rw [← ey7]
  have hy7 : low32 y7 := by rw [ey7]; exact low32_set hy6 _ _ (low32_mod _)
  have ly7 : y7.length = 16 := by rw [ey7, List.length_set]; exact ly6
  have uy8 : y7.getD b 0 < 4294967296 := hy7 b
  have wy8 : y7.getD c 0 < 4294967296 := hy7 c
  (repeat (first | refine g ?_ | refine s_flat 2 [(.pure, [0, 1, 2, 3, 4, 6, 7, 8]), (.mem true, [5, 9]), (.pure, [10]), (.mem false, [11]), (.pure, [12]), (.mem false, [13])] ?_ | refine s_flat 3 [(.pure, [0, 1, 2, 3, 4, 6, 7, 8]), (.mem true, [5, 9]), (.pure, [10]), (.mem false, [11]), (.pure, [12]), (.mem false, [13])] ?_ | refine s_flat 4 [(.pure, [0, 1, 2, 3, 4, 6, 7, 8]), (.mem true, [5, 9]), (.pure, [10]), (.mem false, [11]), (.pure, [12]), (.mem false, [13])] ?_ | refine s_flat 5 [(.pure, [0, 1, 2, 3, 4, 6, 7, 8]), (.mem true, [5, 9]), (.pure, [10]), (.mem false, [11]), (.pure, [12]), (.mem false, [13])] ?_ | refine s_flat 6 [(.pure, [0, 1, 2, 3, 4, 6, 7, 8]), (.mem true, [5, 9]), (.pure, [10]), (.mem false, [11]), (.pure, [12]), (.mem false, [13])] ?_ | refine s_flat 7 [(.pure, [0, 1, 2, 3, 4, 6, 7, 8]), (.mem true, [5, 9]), (.pure, [10]), (.mem false, [11]), (.pure, [12]), (.mem false, [13])] ?_ | refine s_flat 8 [(.pure, [0, 1, 2, 3, 4, 6, 7, 8]), (.mem true, [5, 9]), (.pure, [10]), (.mem false, [11]), (.pure, [12]), (.mem false, [13])] ?_ | refine s_flat 9 [(.pure, [0, 1, 2, 3, 4, 6, 7, 8]), (.mem true, [5, 9]), (.pure, [10]), (.mem false, [11]), (.pure, [12]), (.mem false, [13])] ?_ | refine gv ?_))
  have zy8 : y7.getD b 0 ^^^ y7.getD c 0 < 4294967296 := Nat.xor_lt_two_pow (n := 32) (hy7 b) (hy7 c)
  refine s_call (left_spec q (y7.getD b 0 ^^^ y7.getD c 0) 7 zy8 (by decide)) ?_
  (repeat (first | refine gr ?_ | refine gv ?_))
  obtain ⟨y8, ey8⟩ : ∃ y8, y8 = y7.set b (Spec.rotl (y7.getD b 0 ^^^ y7.getD c 0) 7) := ⟨_, rfl⟩
  rw [← ey8]
  have hy8 : low32 y8 := by rw [ey8]; exact low32_set hy7 _ _ (rotl_lt _ _ zy8)
  have ly8 : y8.length = 16 := by rw [ey8, List.length_set]; exact ly7
  (repeat (first | refine g ?_ | refine s_flat 2 [(.pure, [0, 1, 2, 3, 4, 6, 7, 8]), (.mem true, [5, 9]), (.pure, [10]), (.mem false, [11]), (.pure, [12]), (.mem false, [13])] ?_ | refine s_flat 3 [(.pure, [0, 1, 2, 3, 4, 6, 7, 8]), (.mem true, [5, 9]), (.pure, [10]), (.mem false, [11]), (.pure, [12]), (.mem false, [13])] ?_ | refine s_flat 4 [(.pure, [0, 1, 2, 3, 4, 6, 7, 8]), (.mem true, [5, 9]), (.pure, [10]), (.mem false, [11]), (.pure, [12]), (.mem false, [13])] ?_ | refine s_flat 5 [(.pure, [0, 1, 2, 3, 4, 6, 7, 8]), (.mem true, [5, 9]), (.pure, [10]), (.mem false, [11]), (.pure, [12]), (.mem false, [13])] ?_ | refine s_flat 6 [(.pure, [0, 1, 2, 3, 4, 6, 7, 8]), (.mem true, [5, 9]), (.pure, [10]), (.mem false, [11]), (.pure, [12]), (.mem false, [13])] ?_ | refine s_flat 7 [(.pure, [0, 1, 2, 3, 4, 6, 7, 8]), (.mem true, [5, 9]), (.pure, [10]), (.mem false, [11]), (.pure, [12]), (.mem false, [13])] ?_ | refine s_flat 8 [(.pure, [0, 1, 2, 3, 4, 6, 7, 8]), (.mem true, [5, 9]), (.pure, [10]), (.mem false, [11]), (.pure, [12]), (.mem false, [13])] ?_ | refine s_flat 9 [(.pure, [0, 1, 2, 3, 4, 6, 7, 8]), (.mem true, [5, 9]), (.pure, [10]), (.mem false, [11]), (.pure, [12]), (.mem false, [13])] ?_ | refine gv ?_))
  refine run_ret rfl (imp_RX (y, cy) rfl ?_)
  have e : Spec.qr l a b c d = y8 := by
    rw [ey8, ey7, ey6, ey5, ey4, ey3, ey2, ey1]; rfl
  rw [e]
  exact shut
theorem qr_low (l : List Nat) (hl : low32 l) (a b c d : Nat) : low32 (Spec.qr l a b c d) := by
  have A : ∀ l : List Nat, low32 l → ∀ i j k, low32 (l.set i ((l.getD j 0 + l.getD k 0) % Spec.M32)) := fun l h i j k => low32_set h i _ (Nat.mod_lt _ (by decide))
  have B : ∀ l : List Nat, low32 l → ∀ i j k n, low32 (l.set i (Spec.rotl (l.getD j 0 ^^^ l.getD k 0) n)) := fun l h i j k n => low32_set h i _ (rotl_lt _ n (Nat.xor_lt_two_pow (n := 32) (h j) (h k)))
  exact B _ (A _ (B _ (A _ (B _ (A _ (B _ (A _ hl a a b) d d a 16) c c d) b b c 12) a a b) d d a 8) c c d) b b c 7
theorem qr_len (l : List Nat) (a b c d : Nat) : (Spec.qr l a b c d).length = l.length := by
  unfold Spec.qr; simp only [List.length_set]
end Go.Proofs.Ytajjbgkbceobmaa.V
