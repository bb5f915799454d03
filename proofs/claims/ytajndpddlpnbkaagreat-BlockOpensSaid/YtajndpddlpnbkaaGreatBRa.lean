/- The document's numbers as bytes, of any width; the document's head. -/
import Derived.Test.YtajndpddlpnbkaaGreatVKa
import Derived.Test.YtajndpddlpnbkaaGreatBKa
set_option maxRecDepth 10000
set_option linter.unusedVariables false
namespace Go.Proofs.YtajndpddlpnbkaaGreat.V
open Go.Proofs.YtajndpddlpnbkaaGreat.VL Go.Proofs.YtajndpddlpnbkaaGreat.VL.Sha
attribute [local irreducible] Run
theorem refPutI_spec (q : View) (n : Int) (w : Nat) (h1 : 1 ≤ w) (h6 : w ≤ 6) (hn : n ≤ 9223372036854775807) : FnD Tryz.prog q 37 [.int .i64 n, .int .i64 (w : Int)] [] (.tuple #[.string (V.putF n w).1, .int .i64 (V.putF n w).2]) [] := by
  unfold V.putF
  rw [if_neg (by omega), Int.toNat_natCast]
  (first | refine FnD.go Tryz.call37 Tryz.func37 rfl rfl rfl ?_ | refine FnX.go Tryz.call37 Tryz.func37 rfl rfl rfl ?_)
  by_cases h0 : n < 0
  · rw [if_pos (.inl h0)]
    (repeat (first | refine g ?_))
    exact run_ret rfl (imp_RD rfl shut)
  obtain ⟨m0, rfl⟩ : ∃ m : Nat, n = m := ⟨n.toNat, by omega⟩
  (repeat (first | refine g ?_))
  refine run_loopI (X := Nat × Option Addr × Nat) (fun x => x.1 ≤ w) (fun x => [(0, .int .i64 ((m0 / 256 ^ x.1 : Nat) : Int)), (1, .int .i64 (w : Int)), (6, .slice x.2.1 (leb m0 x.1).length x.2.2), (7, .int .i64 (x.1 : Int))])
    (fun x => [sl x.2.1 (leb m0 x.1).length x.2.2 5 1 (bv (leb m0 x.1))]) (fun x => w - x.1) (0, none, 0) (Nat.zero_le _) (by dsimp only; rw [Nat.pow_zero, Nat.div_one]; exact fct) shut ?_
  intro ⟨i, p, c⟩ hi
  dsimp only at *
  have hle : m0 / 256 ^ i ≤ m0 := Nat.div_le_self _ _
  obtain ⟨m, hm⟩ : ∃ m, m = m0 / 256 ^ i := ⟨_, rfl⟩
  rw [← hm] at hle ⊢
  have hll := leb_length m0 i
  (repeat (first | refine g ?_))
  refine run_cond_dec rfl ?_ ?_
  · intro h
    (repeat (first | refine g ?_))
    refine s_built fun r1 => ?_
    (repeat (first | refine g ?_))
    refine s_app 1 1 (reads_own At.head rfl) (hxl := by rw [bv_length, Nat.mul_one]) fun r2 => ?_
    have e : bv (leb m0 i) ++ [Value.int .u8 ((m : Int) % 256 % 256)] = bv (leb m0 (i + 1)) := by
      rw [leb_succ, bv_append, ← hm, show (m : Int) % 256 % 256 = ((UInt8.ofNat (m % 256)).toNat : Int) by rw [UInt8.toNat_ofNat', Nat.mod_eq_of_lt (Nat.mod_lt _ (by decide))]; omega]; rfl
    refine s_eq e ?_
    have el : (leb m0 i).length + 1 = (leb m0 (i + 1)).length := by rw [leb_length, leb_length]
    rw [el]
    (repeat (first | refine g ?_))
    have e2 : (m : Int) / 256 = ((m0 / 256 ^ (i + 1) : Nat) : Int) := by
      rw [Nat.pow_succ, ← Nat.div_div_eq_div_mul, ← hm]; omega
    refine run_stop_loop (i + 1, r2) ?_ fct shut
    exact ⟨by dsimp only; omega, by dsimp only; omega⟩
  · intro h
    obtain rfl : i = w := by omega
    have hq : ((m0 : Nat) : Int) / 2 ^ (8 * i) = (m : Int) := by
      rw [show ((m0 : Nat) : Int) / 2 ^ (8 * i) = ((m0 / 2 ^ (8 * i) : Nat) : Int) by rw [Int.natCast_ediv, Int.natCast_pow]; rfl, Nat.pow_mul, hm]
    by_cases hm0 : m = 0
    · subst hm0
      rw [if_neg (by rw [hq]; rintro (h | h); omega; exact h rfl), Int.toNat_natCast]
      (repeat (first | refine g ?_))
      refine s_string ?_
      (repeat (first | refine g ?_))
      exact run_ret rfl (imp_RD rfl shut)
    · rw [if_pos (.inr (by rw [hq]; omega))]
      (repeat (first | refine g ?_))
      exact run_ret rfl (imp_RD rfl shut)
def iP (P : List (Int × Nat)) : List Value := P.map fun x => .int .i64 x.1
def wP (P : List (Int × Nat)) : List Value := P.map fun x => .int .i64 (x.2 : Int)
def laidF (P : List (Int × Nat)) : ByteArray × Bool := if P.all okN = true then (bl (numsL P), true) else (⟨#[]⟩, false)
theorem laid_spec (q : View) (r w : Nat) (P : List (Int × Nat)) (hP : ∀ x ∈ P, 1 ≤ x.2 ∧ x.2 ≤ 6 ∧ x.1 ≤ 9223372036854775807) (hl : P.length ≤ 1000) :
    FnD Tryz.prog q 29 [.slice (some ⟨r, 0, none⟩) P.length P.length, .slice (some ⟨w, 0, none⟩) P.length P.length] [cells r 3 ⟨iP P⟩, cells w 3 ⟨wP P⟩]
      (.tuple #[.string (laidF P).1, .bool (laidF P).2]) [] := by
  have hi0 : (iP P).length = P.length := List.length_map ..
  have hw0 : (wP P).length = P.length := List.length_map ..
  (first | refine FnD.go Tryz.call29 Tryz.func29 rfl rfl rfl ?_ | refine FnX.go Tryz.call29 Tryz.func29 rfl rfl rfl ?_)
  (repeat (first | refine g ?_ | refine s_flat 5 [(.pure, [0, 1, 2, 4, 5, 6]), (.mem true, [3, 7]), (.mem false, [8]), (.pure, [9, 10, 11, 12, 13])] ?_))
  refine run_loopI (X := Nat) (fun i => i ≤ P.length ∧ (P.take i).all okN = true) (fun i => [(0, .slice (some ⟨r, 0, none⟩) P.length P.length), (1, .slice (some ⟨w, 0, none⟩) P.length P.length), (6, .string (bl (numsL (P.take i)))), (7, .int .i64 (i : Int))])
    (fun _ => [cells r 3 ⟨iP P⟩, cells w 3 ⟨wP P⟩]) (fun i => P.length - i) 0 ⟨Nat.zero_le _, rfl⟩ fct shut ?_
  intro i ⟨hi, hok⟩
  have hz : (bl (numsL (P.take i))).size ≤ 6 * i := by
    show (numsL (P.take i)).toArray.size ≤ _
    rw [List.size_toArray, numsL_len]
    have : ∀ l : List (Int × Nat), (∀ x ∈ l, x.2 ≤ 6) → (l.map (·.2)).sum ≤ 6 * l.length := by
      intro l
      induction l with
      | nil => intro _; simp
      | cons x l ih =>
        intro h
        have := ih (fun y hy => h y (List.mem_cons_of_mem _ hy))
        have := h x List.mem_cons_self
        simp only [List.map_cons, List.sum_cons, List.length_cons]; omega
    have := this (P.take i) (fun x hx => (hP x (List.mem_of_mem_take hx)).2.1)
    rw [List.length_take] at this; omega
  (repeat (first | refine g ?_ | refine s_flat 5 [(.pure, [0, 1, 2, 4, 5, 6]), (.mem true, [3, 7]), (.mem false, [8]), (.pure, [9, 10, 11, 12, 13])] ?_))
  refine run_cond_dec rfl ?_ ?_
  · intro h
    have hiP : i < P.length := by omega
    obtain ⟨x, hx⟩ : ∃ x, P[i]? = some x := ⟨_, List.getElem?_eq_getElem hiP⟩
    have hxP := hP x (List.mem_of_getElem? hx)
    have hx1 : (iP P)[i]? = some (.int .i64 x.1) := by unfold iP; rw [List.getElem?_map, hx]; rfl
    have hx2 : (wP P)[i]? = some (.int .i64 (x.2 : Int)) := by unfold wP; rw [List.getElem?_map, hx]; rfl
    have cp := refPutI_spec q x.1 x.2 hxP.1 hxP.2.1 hxP.2.2
    have htk : P.take (i + 1) = P.take i ++ [x] := by rw [List.take_add_one, hx]; rfl
    (repeat (first | refine g ?_ | refine s_flat 5 [(.pure, [0, 1, 2, 4, 5, 6]), (.mem true, [3, 7]), (.mem false, [8]), (.pure, [9, 10, 11, 12, 13])] ?_))
    refine s_loadat hx1 ?_
    (repeat (first | refine g ?_ | refine s_flat 5 [(.pure, [0, 1, 2, 4, 5, 6]), (.mem true, [3, 7]), (.mem false, [8]), (.pure, [9, 10, 11, 12, 13])] ?_))
    refine s_loadat hx2 ?_
    (repeat (first | refine g ?_ | refine s_flat 5 [(.pure, [0, 1, 2, 4, 5, 6]), (.mem true, [3, 7]), (.mem false, [8]), (.pure, [9, 10, 11, 12, 13])] ?_))
    refine s_call cp ?_
    (repeat (first | refine g ?_ | refine s_flat 5 [(.pure, [0, 1, 2, 4, 5, 6]), (.mem true, [3, 7]), (.mem false, [8]), (.pure, [9, 10, 11, 12, 13])] ?_))
    cases hox : okN x with
    | true =>
      have e1 := putF_ok x hox hxP.1 hxP.2.1
      rw [e1]
      dsimp only
      have z2 : (bl (leb x.1.toNat x.2)).size = x.2 := by show (leb x.1.toNat x.2).toArray.size = _; rw [List.size_toArray, leb_length]
      have e2 : bl (numsL (P.take i)) ++ bl (leb x.1.toNat x.2) = bl (numsL (P.take (i + 1))) := by
        rw [htk]
        unfold numsL bl
        exact ByteArray.ext (by simp)
      (repeat (first | refine g ?_ | refine s_flat 5 [(.pure, [0, 1, 2, 4, 5, 6]), (.mem true, [3, 7]), (.mem false, [8]), (.pure, [9, 10, 11, 12, 13])] ?_))
      rw [e2]
      exact run_stop_loop (i + 1) ⟨⟨by omega, by rw [htk, List.all_append, hok]; simp [hox]⟩, by omega⟩ fct shut
    | false =>
      have e1 : V.putF x.1 x.2 = (⟨#[]⟩, 2) := by
        have hd := of_decide_eq_false hox
        unfold V.putF
        rw [if_neg (by omega), if_pos (by
          rw [Int.toNat_natCast]
          by_cases h1 : x.1 < 0
          · exact .inl h1
          · exact .inr (fun h2 => hd ⟨by omega, h2⟩))]
      rw [e1]
      dsimp only
      have hall : P.all okN = false := by
        rw [List.all_eq_false]
        exact ⟨x, List.mem_of_getElem? hx, by rw [hox]; decide⟩
      unfold laidF
      rw [if_neg (by rw [hall]; decide)]
      (repeat (first | refine g ?_ | refine s_flat 5 [(.pure, [0, 1, 2, 4, 5, 6]), (.mem true, [3, 7]), (.mem false, [8]), (.pure, [9, 10, 11, 12, 13])] ?_))
      exact run_ret rfl (imp_RD rfl shut)
  · intro h
    obtain rfl : i = P.length := by omega
    rw [List.take_length] at hok
    unfold laidF
    rw [if_pos hok, List.take_length]
    (repeat (first | refine g ?_ | refine s_flat 5 [(.pure, [0, 1, 2, 4, 5, 6]), (.mem true, [3, 7]), (.mem false, [8]), (.pure, [9, 10, 11, 12, 13])] ?_))
    exact run_ret rfl (imp_RD rfl shut)
def wHd : List Value := [.int .i64 6, .int .i64 4, .int .i64 2, .int .i64 4, .int .i64 4, .int .i64 4, .int .i64 6, .int .i64 6]
theorem widths_spec (q : View) : FnX Tryz.prog q 30 [] [] (fun r : Nat => .slice (some ⟨r, 0, none⟩) 8 8) fun r => [cells r 3 ⟨wHd⟩] := by
  (first | refine FnD.go Tryz.call30 Tryz.func30 rfl rfl rfl ?_ | refine FnX.go Tryz.call30 Tryz.func30 rfl rfl rfl ?_)
  (repeat (first | refine g ?_))
  refine s_built fun r => ?_
  (repeat (first | refine g ?_))
  exact run_ret rfl (imp_RX r rfl shut)
end Go.Proofs.YtajndpddlpnbkaaGreat.V
namespace Go.Proofs.YtajndpddlpnbkaaGreat.V
open Go.Proofs.YtajndpddlpnbkaaGreat.VL Go.Proofs.YtajndpddlpnbkaaGreat.VL.Sha
attribute [local irreducible] Run numB
theorem rhead_spec (q : View) (h : HeadT) (hh : HeadOk h) : FnD Tryz.prog q 14 [.agg ⟨encH h⟩] [] (.tuple #[.string (headF h).1, .int .i64 (headF h).2]) [] := by
  have cl := fun r w => laid_spec q r w (fldH h) (by
    obtain ⟨v0, v1, a0, a1, k0, k1, i0, i1, g0, g1, x0, x1, r0, r1, s0, s1⟩ := hh
    intro x hx
    unfold fldH at hx
    simp only [List.mem_cons, List.not_mem_nil, or_false] at hx
    rcases hx with rfl | rfl | rfl | rfl | rfl | rfl | rfl | rfl <;> exact ⟨Nat.le_of_ble_eq_true rfl, Nat.le_of_ble_eq_true rfl, by assumption⟩) (by show 8 ≤ 1000; decide)
  have cl : ∀ r w, FnD Tryz.prog q 29 [.slice (some ⟨r, 0, none⟩) 8 8, .slice (some ⟨w, 0, none⟩) 8 8] [cells r 3 ⟨encH h⟩, cells w 3 ⟨wHd⟩] (.tuple #[.string (laidF (fldH h)).1, .bool (laidF (fldH h)).2]) [] := cl
  unfold encH at cl ⊢
  (first | refine FnD.go Tryz.call14 Tryz.func14 rfl rfl rfl ?_ | refine FnX.go Tryz.call14 Tryz.func14 rfl rfl rfl ?_)
  (repeat (first | refine g ?_))
  refine s_box fun b => ?_
  (repeat (first | refine g ?_))
  refine d_start [] ?_
  (first | refine d_pure 0 ?_ | refine d_load 0 ?_ | refine d_arith 0 ?_ | refine d_rem 0 ?_ | refine d_quo 0 ?_ | refine d_shrv 0 ?_ | refine d_fieldat 0 ?_ | refine d_idx1 0 ?_ | refine d_index 0 ?_ | refine d_conv64 0 ?_ | refine d_slices 0 ?_ | refine d_concat 0 ?_ | refine d_build 0 ?_)
  (first | refine d_pure 1 ?_ | refine d_load 1 ?_ | refine d_arith 1 ?_ | refine d_rem 1 ?_ | refine d_quo 1 ?_ | refine d_shrv 1 ?_ | refine d_fieldat 1 ?_ | refine d_idx1 1 ?_ | refine d_index 1 ?_ | refine d_conv64 1 ?_ | refine d_slices 1 ?_ | refine d_concat 1 ?_ | refine d_build 1 ?_)
  (first | refine d_pure 2 ?_ | refine d_load 2 ?_ | refine d_arith 2 ?_ | refine d_rem 2 ?_ | refine d_quo 2 ?_ | refine d_shrv 2 ?_ | refine d_fieldat 2 ?_ | refine d_idx1 2 ?_ | refine d_index 2 ?_ | refine d_conv64 2 ?_ | refine d_slices 2 ?_ | refine d_concat 2 ?_ | refine d_build 2 ?_)
  (first | refine d_pure 3 ?_ | refine d_load 3 ?_ | refine d_arith 3 ?_ | refine d_rem 3 ?_ | refine d_quo 3 ?_ | refine d_shrv 3 ?_ | refine d_fieldat 3 ?_ | refine d_idx1 3 ?_ | refine d_index 3 ?_ | refine d_conv64 3 ?_ | refine d_slices 3 ?_ | refine d_concat 3 ?_ | refine d_build 3 ?_)
  (first | refine d_pure 4 ?_ | refine d_load 4 ?_ | refine d_arith 4 ?_ | refine d_rem 4 ?_ | refine d_quo 4 ?_ | refine d_shrv 4 ?_ | refine d_fieldat 4 ?_ | refine d_idx1 4 ?_ | refine d_index 4 ?_ | refine d_conv64 4 ?_ | refine d_slices 4 ?_ | refine d_concat 4 ?_ | refine d_build 4 ?_)
  (first | refine d_pure 5 ?_ | refine d_load 5 ?_ | refine d_arith 5 ?_ | refine d_rem 5 ?_ | refine d_quo 5 ?_ | refine d_shrv 5 ?_ | refine d_fieldat 5 ?_ | refine d_idx1 5 ?_ | refine d_index 5 ?_ | refine d_conv64 5 ?_ | refine d_slices 5 ?_ | refine d_concat 5 ?_ | refine d_build 5 ?_)
  (first | refine d_pure 6 ?_ | refine d_load 6 ?_ | refine d_arith 6 ?_ | refine d_rem 6 ?_ | refine d_quo 6 ?_ | refine d_shrv 6 ?_ | refine d_fieldat 6 ?_ | refine d_idx1 6 ?_ | refine d_index 6 ?_ | refine d_conv64 6 ?_ | refine d_slices 6 ?_ | refine d_concat 6 ?_ | refine d_build 6 ?_)
  (first | refine d_pure 7 ?_ | refine d_load 7 ?_ | refine d_arith 7 ?_ | refine d_rem 7 ?_ | refine d_quo 7 ?_ | refine d_shrv 7 ?_ | refine d_fieldat 7 ?_ | refine d_idx1 7 ?_ | refine d_index 7 ?_ | refine d_conv64 7 ?_ | refine d_slices 7 ?_ | refine d_concat 7 ?_ | refine d_build 7 ?_)
  (first | refine d_pure 8 ?_ | refine d_load 8 ?_ | refine d_arith 8 ?_ | refine d_rem 8 ?_ | refine d_quo 8 ?_ | refine d_shrv 8 ?_ | refine d_fieldat 8 ?_ | refine d_idx1 8 ?_ | refine d_index 8 ?_ | refine d_conv64 8 ?_ | refine d_slices 8 ?_ | refine d_concat 8 ?_ | refine d_build 8 ?_)
  (first | refine d_pure 9 ?_ | refine d_load 9 ?_ | refine d_arith 9 ?_ | refine d_rem 9 ?_ | refine d_quo 9 ?_ | refine d_shrv 9 ?_ | refine d_fieldat 9 ?_ | refine d_idx1 9 ?_ | refine d_index 9 ?_ | refine d_conv64 9 ?_ | refine d_slices 9 ?_ | refine d_concat 9 ?_ | refine d_build 9 ?_)
  (first | refine d_pure 10 ?_ | refine d_load 10 ?_ | refine d_arith 10 ?_ | refine d_rem 10 ?_ | refine d_quo 10 ?_ | refine d_shrv 10 ?_ | refine d_fieldat 10 ?_ | refine d_idx1 10 ?_ | refine d_index 10 ?_ | refine d_conv64 10 ?_ | refine d_slices 10 ?_ | refine d_concat 10 ?_ | refine d_build 10 ?_)
  (first | refine d_pure 11 ?_ | refine d_load 11 ?_ | refine d_arith 11 ?_ | refine d_rem 11 ?_ | refine d_quo 11 ?_ | refine d_shrv 11 ?_ | refine d_fieldat 11 ?_ | refine d_idx1 11 ?_ | refine d_index 11 ?_ | refine d_conv64 11 ?_ | refine d_slices 11 ?_ | refine d_concat 11 ?_ | refine d_build 11 ?_)
  (first | refine d_pure 12 ?_ | refine d_load 12 ?_ | refine d_arith 12 ?_ | refine d_rem 12 ?_ | refine d_quo 12 ?_ | refine d_shrv 12 ?_ | refine d_fieldat 12 ?_ | refine d_idx1 12 ?_ | refine d_index 12 ?_ | refine d_conv64 12 ?_ | refine d_slices 12 ?_ | refine d_concat 12 ?_ | refine d_build 12 ?_)
  (first | refine d_pure 13 ?_ | refine d_load 13 ?_ | refine d_arith 13 ?_ | refine d_rem 13 ?_ | refine d_quo 13 ?_ | refine d_shrv 13 ?_ | refine d_fieldat 13 ?_ | refine d_idx1 13 ?_ | refine d_index 13 ?_ | refine d_conv64 13 ?_ | refine d_slices 13 ?_ | refine d_concat 13 ?_ | refine d_build 13 ?_)
  (first | refine d_pure 14 ?_ | refine d_load 14 ?_ | refine d_arith 14 ?_ | refine d_rem 14 ?_ | refine d_quo 14 ?_ | refine d_shrv 14 ?_ | refine d_fieldat 14 ?_ | refine d_idx1 14 ?_ | refine d_index 14 ?_ | refine d_conv64 14 ?_ | refine d_slices 14 ?_ | refine d_concat 14 ?_ | refine d_build 14 ?_)
  (first | refine d_pure 15 ?_ | refine d_load 15 ?_ | refine d_arith 15 ?_ | refine d_rem 15 ?_ | refine d_quo 15 ?_ | refine d_shrv 15 ?_ | refine d_fieldat 15 ?_ | refine d_idx1 15 ?_ | refine d_index 15 ?_ | refine d_conv64 15 ?_ | refine d_slices 15 ?_ | refine d_concat 15 ?_ | refine d_build 15 ?_)
  refine d_two 16 17 ?_ ?_
  · refine d_ovia 16 (X := Nat) (h1 := by refine s_built fun r => ?_; exact run_fin r) (h := fun r1 => ?_)
    refine d_via 17 (X := Nat) (h1 := by refine s_callx (widths_spec q) fun r => ?_; exact run_fin r) (h := fun w1 => ?_)
    refine d_via1 18 (h1 := by refine s_call (cl r1 w1) ?_; exact run_fin1) (h := ?_)
    (first | refine d_pure 19 ?_ | refine d_load 19 ?_ | refine d_arith 19 ?_ | refine d_rem 19 ?_ | refine d_quo 19 ?_ | refine d_shrv 19 ?_ | refine d_fieldat 19 ?_ | refine d_idx1 19 ?_ | refine d_index 19 ?_ | refine d_conv64 19 ?_ | refine d_slices 19 ?_ | refine d_concat 19 ?_ | refine d_build 19 ?_)
    (first | refine d_pure 20 ?_ | refine d_load 20 ?_ | refine d_arith 20 ?_ | refine d_rem 20 ?_ | refine d_quo 20 ?_ | refine d_shrv 20 ?_ | refine d_fieldat 20 ?_ | refine d_idx1 20 ?_ | refine d_index 20 ?_ | refine d_conv64 20 ?_ | refine d_slices 20 ?_ | refine d_concat 20 ?_ | refine d_build 20 ?_)
    (first | refine d_pure 21 ?_ | refine d_load 21 ?_ | refine d_arith 21 ?_ | refine d_rem 21 ?_ | refine d_quo 21 ?_ | refine d_shrv 21 ?_ | refine d_fieldat 21 ?_ | refine d_idx1 21 ?_ | refine d_index 21 ?_ | refine d_conv64 21 ?_ | refine d_slices 21 ?_ | refine d_concat 21 ?_ | refine d_build 21 ?_)
    (first | refine d_pure 22 ?_ | refine d_load 22 ?_ | refine d_arith 22 ?_ | refine d_rem 22 ?_ | refine d_quo 22 ?_ | refine d_shrv 22 ?_ | refine d_fieldat 22 ?_ | refine d_idx1 22 ?_ | refine d_index 22 ?_ | refine d_conv64 22 ?_ | refine d_slices 22 ?_ | refine d_concat 22 ?_ | refine d_build 22 ?_)
    (first | refine d_pure 23 ?_ | refine d_load 23 ?_ | refine d_arith 23 ?_ | refine d_rem 23 ?_ | refine d_quo 23 ?_ | refine d_shrv 23 ?_ | refine d_fieldat 23 ?_ | refine d_idx1 23 ?_ | refine d_index 23 ?_ | refine d_conv64 23 ?_ | refine d_slices 23 ?_ | refine d_concat 23 ?_ | refine d_build 23 ?_)
    refine d_done ?_
    cases hok : (fldH h).all okN with
    | false =>
      unfold laidF headF
      rw [hok, if_neg (by decide), if_neg (by decide)]
      (repeat (first | refine g ?_))
      exact run_ret rfl (imp_RD rfl shut)
    | true =>
      unfold laidF headF
      rw [hok, if_pos rfl, if_pos rfl]
      dsimp only
      have z0 : (⟨#[71, 82, 80, 78]⟩ : ByteArray).size = 4 := rfl
      have z1 : (bl (numsL (fldH h))).size = 36 := by show (numsL (fldH h)).toArray.size = 36; rw [List.size_toArray, numsL_len]; rfl
      have z2 : ((⟨#[71, 82, 80, 78]⟩ : ByteArray) ++ bl (numsL (fldH h))).size = 40 := by rw [ByteArray.size_append]; omega
      have z3 := bl0_size 8
      have e1 : (⟨#[71, 82, 80, 78]⟩ : ByteArray) ++ bl (numsL (fldH h)) ++ bl (List.replicate 8 0) = bl (headL h) := by
        unfold headL bl
        exact ByteArray.ext (by simp [magicL])
      have cn : FnD Tryz.prog q 31 [.int .i64 8] [] (.string (bl (List.replicate 8 0))) [] := noughts_spec q 8 (by decide)
      obtain ⟨Z, hZ⟩ : ∃ Z, Z = bl (List.replicate 8 0) := ⟨_, rfl⟩
      rw [← hZ] at cn e1 z3
      (repeat (first | refine g ?_))
      refine s_call cn ?_
      (repeat (first | refine g ?_))
      rw [e1]
      exact run_ret rfl (imp_RD rfl shut)
  · refine d_ovia 17 (X := Nat) (h1 := by refine s_callx (widths_spec q) fun r => ?_; exact run_fin r) (h := fun w1 => ?_)
    refine d_via 16 (X := Nat) (h1 := by refine s_built fun r => ?_; exact run_fin r) (h := fun r1 => ?_)
    refine d_via1 18 (h1 := by refine s_call (cl r1 w1) ?_; exact run_fin1) (h := ?_)
    (first | refine d_pure 19 ?_ | refine d_load 19 ?_ | refine d_arith 19 ?_ | refine d_rem 19 ?_ | refine d_quo 19 ?_ | refine d_shrv 19 ?_ | refine d_fieldat 19 ?_ | refine d_idx1 19 ?_ | refine d_index 19 ?_ | refine d_conv64 19 ?_ | refine d_slices 19 ?_ | refine d_concat 19 ?_ | refine d_build 19 ?_)
    (first | refine d_pure 20 ?_ | refine d_load 20 ?_ | refine d_arith 20 ?_ | refine d_rem 20 ?_ | refine d_quo 20 ?_ | refine d_shrv 20 ?_ | refine d_fieldat 20 ?_ | refine d_idx1 20 ?_ | refine d_index 20 ?_ | refine d_conv64 20 ?_ | refine d_slices 20 ?_ | refine d_concat 20 ?_ | refine d_build 20 ?_)
    (first | refine d_pure 21 ?_ | refine d_load 21 ?_ | refine d_arith 21 ?_ | refine d_rem 21 ?_ | refine d_quo 21 ?_ | refine d_shrv 21 ?_ | refine d_fieldat 21 ?_ | refine d_idx1 21 ?_ | refine d_index 21 ?_ | refine d_conv64 21 ?_ | refine d_slices 21 ?_ | refine d_concat 21 ?_ | refine d_build 21 ?_)
    (first | refine d_pure 22 ?_ | refine d_load 22 ?_ | refine d_arith 22 ?_ | refine d_rem 22 ?_ | refine d_quo 22 ?_ | refine d_shrv 22 ?_ | refine d_fieldat 22 ?_ | refine d_idx1 22 ?_ | refine d_index 22 ?_ | refine d_conv64 22 ?_ | refine d_slices 22 ?_ | refine d_concat 22 ?_ | refine d_build 22 ?_)
    (first | refine d_pure 23 ?_ | refine d_load 23 ?_ | refine d_arith 23 ?_ | refine d_rem 23 ?_ | refine d_quo 23 ?_ | refine d_shrv 23 ?_ | refine d_fieldat 23 ?_ | refine d_idx1 23 ?_ | refine d_index 23 ?_ | refine d_conv64 23 ?_ | refine d_slices 23 ?_ | refine d_concat 23 ?_ | refine d_build 23 ?_)
    refine d_done ?_
    cases hok : (fldH h).all okN with
    | false =>
      unfold laidF headF
      rw [hok, if_neg (by decide), if_neg (by decide)]
      (repeat (first | refine g ?_))
      exact run_ret rfl (imp_RD rfl shut)
    | true =>
      unfold laidF headF
      rw [hok, if_pos rfl, if_pos rfl]
      dsimp only
      have z0 : (⟨#[71, 82, 80, 78]⟩ : ByteArray).size = 4 := rfl
      have z1 : (bl (numsL (fldH h))).size = 36 := by show (numsL (fldH h)).toArray.size = 36; rw [List.size_toArray, numsL_len]; rfl
      have z2 : ((⟨#[71, 82, 80, 78]⟩ : ByteArray) ++ bl (numsL (fldH h))).size = 40 := by rw [ByteArray.size_append]; omega
      have z3 := bl0_size 8
      have e1 : (⟨#[71, 82, 80, 78]⟩ : ByteArray) ++ bl (numsL (fldH h)) ++ bl (List.replicate 8 0) = bl (headL h) := by
        unfold headL bl
        exact ByteArray.ext (by simp [magicL])
      have cn : FnD Tryz.prog q 31 [.int .i64 8] [] (.string (bl (List.replicate 8 0))) [] := noughts_spec q 8 (by decide)
      obtain ⟨Z, hZ⟩ : ∃ Z, Z = bl (List.replicate 8 0) := ⟨_, rfl⟩
      rw [← hZ] at cn e1 z3
      (repeat (first | refine g ?_))
      refine s_call cn ?_
      (repeat (first | refine g ?_))
      rw [e1]
      exact run_ret rfl (imp_RD rfl shut)
end Go.Proofs.YtajndpddlpnbkaaGreat.V
namespace Go.Proofs.YtajndpddlpnbkaaGreat.V
open Go.Proofs.YtajndpddlpnbkaaGreat.VL Go.Proofs.YtajndpddlpnbkaaGreat.VL.Sha
attribute [local irreducible] Run numB
theorem rnonce_spec (q : View) (h : HeadT) (ha : okN (h.addr, 4) = true) (hv : okN (h.ver, 6) = true) (a1 : h.addr ≤ 9223372036854775807) (r1 : h.ver ≤ 9223372036854775807) :
    FnD Tryz.prog q 16 [.agg ⟨encH h⟩] [] (.string (nonceB h)) [] := by
  have c1 := refPutI_spec q h.addr 4 (by decide) (by decide) a1
  have e1 := putF_ok (h.addr, 4) ha (by show 1 ≤ 4; decide) (by show 4 ≤ 6; decide)
  dsimp only at e1
  rw [e1] at c1
  rw [show ((4 : Nat) : Int) = 4 from rfl] at c1
  have c2 := refPutI_spec q h.ver 6 (by decide) (by decide) r1
  have e2 := putF_ok (h.ver, 6) hv (by show 1 ≤ 6; decide) (by show 6 ≤ 6; decide)
  dsimp only at e2
  rw [e2] at c2
  rw [show ((6 : Nat) : Int) = 6 from rfl] at c2
  have e3 : (bl (leb h.addr.toNat 4) ++ bl (leb h.ver.toNat 6)) ++ bl (List.replicate 2 0) = nonceB h := by
    unfold nonceB bl
    exact ByteArray.ext (by simp)
  have z1 : (bl (leb h.addr.toNat 4)).size = 4 := by show (leb h.addr.toNat 4).toArray.size = 4; rw [List.size_toArray, leb_length]
  have z2 : (bl (leb h.ver.toNat 6)).size = 6 := by show (leb h.ver.toNat 6).toArray.size = 6; rw [List.size_toArray, leb_length]
  have z3 := bl0_size 2
  have cn : FnD Tryz.prog q 31 [.int .i64 2] [] (.string (bl (List.replicate 2 0))) [] := noughts_spec q 2 (by decide)
  obtain ⟨X, hX⟩ : ∃ X, X = bl (leb h.addr.toNat 4) := ⟨_, rfl⟩
  obtain ⟨Y, hY⟩ : ∃ Y, Y = bl (leb h.ver.toNat 6) := ⟨_, rfl⟩
  obtain ⟨Z, hZ⟩ : ∃ Z, Z = bl (List.replicate 2 0) := ⟨_, rfl⟩
  rw [← hX] at z1
  rw [← hY] at z2
  rw [← hZ] at cn e3 z3
  have z4 : (X ++ Y).size = 10 := by rw [ByteArray.size_append]; omega
  rw [← hX] at c1 e3
  rw [← hY] at c2 e3
  unfold encH
  dsimp only at c1 c2
  (first | refine FnD.go Tryz.call16 Tryz.func16 rfl rfl rfl ?_ | refine FnX.go Tryz.call16 Tryz.func16 rfl rfl rfl ?_)
  (repeat (first | refine g ?_))
  refine s_box fun b => ?_
  (repeat (first | refine g ?_))
  refine s_call c1 ?_
  (repeat (first | refine g ?_))
  refine s_call c2 ?_
  (repeat (first | refine g ?_))
  refine s_call cn ?_
  (repeat (first | refine g ?_))
  rw [e3]
  exact run_ret rfl (imp_RD rfl shut)
theorem rbseal_len (q : View) (v : Value) (V : HProp) (h : HeadT) (body : ByteArray) (hz : body.size ≠ 448) :
    FnD Tryz.prog q 7 [v, .agg ⟨encH h⟩, .string body] [V] (.tuple #[.string ⟨#[]⟩, .int .i64 1]) [V] := by
  (first | refine FnD.go Tryz.call7 Tryz.func7 rfl rfl rfl ?_ | refine FnX.go Tryz.call7 Tryz.func7 rfl rfl rfl ?_)
  (repeat (first | refine g ?_))
  refine s_box fun b => ?_
  (repeat (first | refine g ?_))
  exact run_ret rfl (imp_RD rfl shut)
theorem rbseal_no (q : View) (v : Value) (V : HProp) (h : HeadT) (hh : HeadOk h) (body : ByteArray) (hz : body.size = 448) (hok : (fldH h).all okN = false) :
    FnD Tryz.prog q 7 [v, .agg ⟨encH h⟩, .string body] [V] (.tuple #[.string ⟨#[]⟩, .int .i64 2]) [V] := by
  have ch := rhead_spec q h hh
  unfold headF at ch
  rw [if_neg (by rw [hok]; decide)] at ch
  (first | refine FnD.go Tryz.call7 Tryz.func7 rfl rfl rfl ?_ | refine FnX.go Tryz.call7 Tryz.func7 rfl rfl rfl ?_)
  (repeat (first | refine g ?_))
  refine s_box fun b => ?_
  (repeat (first | refine g ?_))
  refine s_call ch ?_
  (repeat (first | refine g ?_))
  exact run_ret rfl (imp_RD rfl shut)
theorem rbseal_call (q : View) (v : Value) (V V' : HProp) (h : HeadT) (hh : HeadOk h) (body : ByteArray) (hz : body.size = 448) (hok : (fldH h).all okN = true) (F : ByteArray) (e : Int) (hF : F.size ≤ 1000000)
    (hc : FnD Tryz.prog q 15 [v, .int .i64 h.salt, .string (nonceB h), .string (bl (headL h)), .string body] [V] (.tuple #[.string F, .int .i64 e]) [V']) :
    FnD Tryz.prog q 7 [v, .agg ⟨encH h⟩, .string body] [V] (.tuple #[.string (if e = 0 then bl (headL h) ++ F else ⟨#[]⟩), .int .i64 e]) [V'] := by
  have ch := rhead_spec q h hh
  unfold headF at ch
  rw [if_pos hok] at ch
  have cn := rnonce_spec q h (ok_nonce hok).1 (ok_nonce hok).2 hh.a1 hh.r1
  have zH := headL_size h
  obtain ⟨H, hH⟩ : ∃ H, H = bl (headL h) := ⟨_, rfl⟩
  rw [← hH] at ch hc zH ⊢
  dsimp only at ch
  (first | refine FnD.go Tryz.call7 Tryz.func7 rfl rfl rfl ?_ | refine FnX.go Tryz.call7 Tryz.func7 rfl rfl rfl ?_)
  (repeat (first | refine g ?_))
  refine s_box fun b => ?_
  (repeat (first | refine g ?_))
  refine s_call ch ?_
  (repeat (first | refine g ?_))
  refine d_start [V] ?_
  (first | refine d_pure 0 ?_ | refine d_load 0 ?_ | refine d_arith 0 ?_ | refine d_rem 0 ?_ | refine d_quo 0 ?_ | refine d_shrv 0 ?_ | refine d_fieldat 0 ?_ | refine d_idx1 0 ?_ | refine d_index 0 ?_ | refine d_conv64 0 ?_ | refine d_slices 0 ?_ | refine d_concat 0 ?_ | refine d_build 0 ?_)
  (first | refine d_pure 1 ?_ | refine d_load 1 ?_ | refine d_arith 1 ?_ | refine d_rem 1 ?_ | refine d_quo 1 ?_ | refine d_shrv 1 ?_ | refine d_fieldat 1 ?_ | refine d_idx1 1 ?_ | refine d_index 1 ?_ | refine d_conv64 1 ?_ | refine d_slices 1 ?_ | refine d_concat 1 ?_ | refine d_build 1 ?_)
  (first | refine d_pure 2 ?_ | refine d_load 2 ?_ | refine d_arith 2 ?_ | refine d_rem 2 ?_ | refine d_quo 2 ?_ | refine d_shrv 2 ?_ | refine d_fieldat 2 ?_ | refine d_idx1 2 ?_ | refine d_index 2 ?_ | refine d_conv64 2 ?_ | refine d_slices 2 ?_ | refine d_concat 2 ?_ | refine d_build 2 ?_)
  refine d_getall 3 rfl ?_
  (first | refine d_pure 5 ?_ | refine d_load 5 ?_ | refine d_arith 5 ?_ | refine d_rem 5 ?_ | refine d_quo 5 ?_ | refine d_shrv 5 ?_ | refine d_fieldat 5 ?_ | refine d_idx1 5 ?_ | refine d_index 5 ?_ | refine d_conv64 5 ?_ | refine d_slices 5 ?_ | refine d_concat 5 ?_ | refine d_build 5 ?_)
  (first | refine d_pure 6 ?_ | refine d_load 6 ?_ | refine d_arith 6 ?_ | refine d_rem 6 ?_ | refine d_quo 6 ?_ | refine d_shrv 6 ?_ | refine d_fieldat 6 ?_ | refine d_idx1 6 ?_ | refine d_index 6 ?_ | refine d_conv64 6 ?_ | refine d_slices 6 ?_ | refine d_concat 6 ?_ | refine d_build 6 ?_)
  refine d_call 4 cn ?_
  refine d_call 7 hc ?_
  (first | refine d_pure 8 ?_ | refine d_load 8 ?_ | refine d_arith 8 ?_ | refine d_rem 8 ?_ | refine d_quo 8 ?_ | refine d_shrv 8 ?_ | refine d_fieldat 8 ?_ | refine d_idx1 8 ?_ | refine d_index 8 ?_ | refine d_conv64 8 ?_ | refine d_slices 8 ?_ | refine d_concat 8 ?_ | refine d_build 8 ?_)
  (first | refine d_pure 9 ?_ | refine d_load 9 ?_ | refine d_arith 9 ?_ | refine d_rem 9 ?_ | refine d_quo 9 ?_ | refine d_shrv 9 ?_ | refine d_fieldat 9 ?_ | refine d_idx1 9 ?_ | refine d_index 9 ?_ | refine d_conv64 9 ?_ | refine d_slices 9 ?_ | refine d_concat 9 ?_ | refine d_build 9 ?_)
  (first | refine d_pure 10 ?_ | refine d_load 10 ?_ | refine d_arith 10 ?_ | refine d_rem 10 ?_ | refine d_quo 10 ?_ | refine d_shrv 10 ?_ | refine d_fieldat 10 ?_ | refine d_idx1 10 ?_ | refine d_index 10 ?_ | refine d_conv64 10 ?_ | refine d_slices 10 ?_ | refine d_concat 10 ?_ | refine d_build 10 ?_)
  (first | refine d_pure 11 ?_ | refine d_load 11 ?_ | refine d_arith 11 ?_ | refine d_rem 11 ?_ | refine d_quo 11 ?_ | refine d_shrv 11 ?_ | refine d_fieldat 11 ?_ | refine d_idx1 11 ?_ | refine d_index 11 ?_ | refine d_conv64 11 ?_ | refine d_slices 11 ?_ | refine d_concat 11 ?_ | refine d_build 11 ?_)
  (first | refine d_pure 12 ?_ | refine d_load 12 ?_ | refine d_arith 12 ?_ | refine d_rem 12 ?_ | refine d_quo 12 ?_ | refine d_shrv 12 ?_ | refine d_fieldat 12 ?_ | refine d_idx1 12 ?_ | refine d_index 12 ?_ | refine d_conv64 12 ?_ | refine d_slices 12 ?_ | refine d_concat 12 ?_ | refine d_build 12 ?_)
  refine d_done ?_
  by_cases he : e = 0
  · subst he
    rw [if_pos rfl]
    (repeat (first | refine g ?_))
    exact run_ret rfl (imp_RD rfl shut)
  · rw [if_neg he]
    (repeat (first | refine g ?_))
    exact run_ret rfl (imp_RD rfl shut)
theorem rbseal_ideal (q : View) (b : Nat) (s : VSt) (hs : VOk 1000000 s) (h : HeadT) (hh : HeadOk h) (body : ByteArray) :
    FnD Tryz.prog q 7 [.pointer (some ⟨b, 0, none⟩), .agg ⟨encH h⟩, .string body] [rAt b s] (.tuple #[.string (bsealF s h body).1.1, .int .i64 (bsealF s h body).1.2]) [rAt b (bsealF s h body).2] := by
  unfold bsealF
  by_cases hz : body.size ≠ 448
  · rw [if_pos hz]
    exact rbseal_len q _ _ h body hz
  · rw [if_neg hz]
    have hz : body.size = 448 := by omega
    cases hok : (fldH h).all okN with
    | false =>
      rw [if_neg (by decide)]
      exact rbseal_no q _ _ h hh body hz hok
    | true =>
      rw [if_pos rfl]
      have hw := bwrong_ok (ok_salt hok) h
      have hz16 := numB_size (cntN s.es (sealedK h.salt (nonceB h) (bl (headL h)) body)) 16 (by decide)
      have hc := rseal_spec q b s hs h.salt (nonceB h) (bl (headL h)) body (by omega)
      unfold sealF at hc
      rw [if_neg (by rw [hw]; decide)] at hc
      have := rbseal_call q (.pointer (some ⟨b, 0, none⟩)) _ _ h hh body hz hok _ _ (by dsimp only; rw [ByteArray.size_append]; omega) hc
      rw [if_pos rfl] at this
      exact this
end Go.Proofs.YtajndpddlpnbkaaGreat.V
namespace Go.Proofs.YtajndpddlpnbkaaGreat.V
open Go.Proofs.YtajndpddlpnbkaaGreat.VL
attribute [local irreducible] Run
theorem refGet_spec (q : View) (s : ByteArray) (o w : Nat) (h1 : 1 ≤ w) (hw : w ≤ 6) (h : o + w ≤ s.size) (hs : s.size ≤ 1000000) :
    FnD Tryz.prog q 58 [.string s, .int .i64 (o : Int), .int .i64 (w : Int)] [] (.tuple #[.int .i64 (lev s.data.toList o w : Nat), .int .i64 0]) [] := by
  (first | refine FnD.go Tryz.call58 Tryz.func58 rfl rfl rfl ?_ | refine FnX.go Tryz.call58 Tryz.func58 rfl rfl rfl ?_)
  (repeat (first | refine g ?_))
  refine run_loopI (X := Nat × Nat) (fun x => x.1 ≤ w ∧ x.2 * 256 ^ x.1 + lev s.data.toList o x.1 = lev s.data.toList o w) (fun x => [(0, .string s), (1, .int .i64 (o : Int)), (9, .int .i64 ((x.1 : Int) - 1)), (8, .int .i64 (x.2 : Int))])
    (fun x => []) (fun x => x.1) (w, 0) ⟨Nat.le_refl _, by rw [Nat.zero_mul, Nat.zero_add]⟩ fct shut ?_
  intro ⟨i, n⟩ ⟨hi, hn⟩
  dsimp only at *
  have hl := lev_lt s.data.toList o w
  have hp := pow6 w hw
  (repeat (first | refine g ?_))
  refine run_cond_dec rfl ?_ ?_
  · intro hc
    obtain ⟨j, rfl⟩ : ∃ j, i = j + 1 := ⟨i - 1, by omega⟩
    obtain ⟨u, hu⟩ : ∃ u, u = (s.data.toList.getD (o + j) 0).toNat := ⟨_, rfl⟩
    have hub : u < 256 := by rw [hu]; exact (s.data.toList.getD (o + j) 0).toNat_lt
    have hpj : 1 ≤ 256 ^ j := Nat.pow_pos (by decide)
    have hn2 : (n * 256) * 256 ^ j = n * 256 ^ (j + 1) := by rw [Nat.pow_succ, Nat.mul_assoc, Nat.mul_comm 256]
    have hn3 : n * 256 ≤ (n * 256) * 256 ^ j := Nat.le_mul_of_pos_right _ hpj
    (repeat (first | refine g ?_))
    refine s_to 44 (v := .int .u8 (bAt s ((o : Int) + (((j + 1 : Nat) : Int) - 1)).toNat)) (w := .int .u8 (u : Int)) (by rw [show ((o : Int) + (((j + 1 : Nat) : Int) - 1)).toNat = o + j by omega, hu]; rfl) ?_
    refine s_conv64 ?_
    (repeat (first | refine g ?_))
    have e1 : (n : Int) * 256 + (u : Int) = ((n * 256 + u : Nat) : Int) := by omega
    have e2 : ((j + 1 : Nat) : Int) - 1 - 1 = (j : Int) - 1 := by omega
    rw [e1, e2]
    refine run_stop_loop (j, n * 256 + u) ⟨⟨by dsimp only; omega, ?_⟩, by dsimp only; omega⟩ fct shut
    dsimp only
    rw [Nat.add_mul, hn2, ← hn, lev, ← hu]
    omega
  · intro hc
    obtain rfl : i = 0 := by omega
    have e : n = lev s.data.toList o w := by rw [← hn]; simp [lev]
    (repeat (first | refine g ?_))
    exact run_ret (by rw [← e]; rfl) (imp_RD rfl shut)
end Go.Proofs.YtajndpddlpnbkaaGreat.V
namespace Go.Proofs.YtajndpddlpnbkaaGreat.V
open Go.Proofs.YtajndpddlpnbkaaGreat.VL Go.Proofs.YtajndpddlpnbkaaGreat.VL.Sha
attribute [local irreducible] Run numB
/-- The numbers that stand from a place on, each in its width. -/
def readL (l : List UInt8) : Nat → List Nat → List Nat
  | _, [] => []
  | o, w :: ws => lev l o w :: readL l (o + w) ws
theorem readL_snoc (l : List UInt8) (w : Nat) : ∀ (ws : List Nat) (o : Nat), readL l o (ws ++ [w]) = readL l o ws ++ [lev l (o + ws.sum) w]
  | [], o => by simp [readL]
  | v :: ws, o => by
    rw [List.cons_append, readL, readL, readL_snoc l w ws (o + v), List.sum_cons, Nat.add_assoc]; rfl
theorem readL_len (l : List UInt8) : ∀ (ws : List Nat) (o : Nat), (readL l o ws).length = ws.length
  | [], _ => rfl
  | v :: ws, o => by rw [readL, List.length_cons, readL_len l ws, List.length_cons]
theorem sum_le (a : List Nat) (w : Nat) (b : List Nat) : a.sum + w ≤ (a ++ w :: b).sum := by
  rw [List.sum_append, List.sum_cons]; omega
theorem read_spec (q : View) (s : ByteArray) (o w : Nat) (W : List Nat) (hW : ∀ x ∈ W, 1 ≤ x ∧ x ≤ 6) (hl : W.length ≤ 1000) (ho : o + W.sum ≤ s.size) (hs : s.size ≤ 1000000) :
    FnX Tryz.prog q 46 [.string s, .int .i64 (o : Int), .slice (some ⟨w, 0, none⟩) W.length W.length] [cells w 3 ⟨iv W⟩]
      (fun x : Option Addr × Nat => .slice x.1 (readL s.data.toList o W).length x.2) fun x => [sl x.1 (readL s.data.toList o W).length x.2 3 1 (iv (readL s.data.toList o W))] := by
  (first | refine FnD.go Tryz.call46 Tryz.func46 rfl rfl rfl ?_ | refine FnX.go Tryz.call46 Tryz.func46 rfl rfl rfl ?_)
  (repeat (first | refine g ?_))
  refine run_loopI (X := Nat × Option Addr × Nat) (fun x => x.1 ≤ W.length) (fun x => [(0, .string s), (1, .int .i64 ((o + (W.take x.1).sum : Nat) : Int)), (2, .slice (some ⟨w, 0, none⟩) W.length W.length), (7, .slice x.2.1 (readL s.data.toList o (W.take x.1)).length x.2.2), (8, .int .i64 (x.1 : Int))])
    (fun x => [cells w 3 ⟨iv W⟩, sl x.2.1 (readL s.data.toList o (W.take x.1)).length x.2.2 3 1 (iv (readL s.data.toList o (W.take x.1)))]) (fun x => W.length - x.1) (0, none, 0) (Nat.zero_le _) fct shut ?_
  intro ⟨i, p, c⟩ hi
  dsimp only at *
  have hrl := readL_len s.data.toList (W.take i) o
  rw [List.length_take] at hrl
  (repeat (first | refine g ?_))
  refine run_cond_dec rfl ?_ ?_
  · intro h
    have hiW : i < W.length := by omega
    obtain ⟨x, hx⟩ : ∃ x, W[i]? = some x := ⟨_, List.getElem?_eq_getElem hiW⟩
    have hxW := hW x (List.mem_of_getElem? hx)
    have hvx : (iv W)[i]? = some (.int .i64 (x : Int)) := by unfold iv; rw [List.getElem?_map, hx]; rfl
    have htk : W.take (i + 1) = W.take i ++ [x] := by rw [List.take_add_one, hx]; rfl
    have hsum : (W.take i).sum + x ≤ W.sum := by
      have := sum_le (W.take i) x (W.drop (i + 1))
      have e : W.take i ++ x :: W.drop (i + 1) = W := by
        have := List.take_append_drop (i + 1) W
        rw [htk, List.append_assoc] at this; exact this
      rw [e] at this; exact this
    have hsn : (W.take (i + 1)).sum = (W.take i).sum + x := by rw [htk, List.sum_append]; simp
    have hrn : readL s.data.toList o (W.take (i + 1)) = readL s.data.toList o (W.take i) ++ [lev s.data.toList (o + (W.take i).sum) x] := by rw [htk, readL_snoc]
    have cg := refGet_spec q s (o + (W.take i).sum) x hxW.1 hxW.2 (by omega) hs
    (repeat (first | refine g ?_))
    refine s_loadat hvx ?_
    (repeat (first | refine g ?_))
    refine s_call cg ?_
    (repeat (first | refine g ?_))
    refine s_built fun r1 => ?_
    (repeat (first | refine g ?_))
    refine s_app 1 8 (reads_own At.head rfl) (hxl := by rw [iv_length, Nat.mul_one]) fun r2 => ?_
    have e : iv (readL s.data.toList o (W.take i)) ++ [Value.int .i64 (lev s.data.toList (o + (W.take i).sum) x : Nat)] = iv (readL s.data.toList o (W.take (i + 1))) := by rw [hrn, iv_append]; rfl
    refine s_eq e ?_
    have el : (readL s.data.toList o (W.take i)).length + 1 = (readL s.data.toList o (W.take (i + 1))).length := by rw [hrn, List.length_append]; rfl
    rw [el]
    (repeat (first | refine g ?_))
    refine s_loadat hvx ?_
    (repeat (first | refine g ?_))
    have e2 : ((o + (W.take i).sum : Nat) : Int) + (x : Int) = ((o + (W.take (i + 1)).sum : Nat) : Int) := by rw [hsn]; omega
    rw [e2]
    exact run_stop_loop (i + 1, r2) ⟨by dsimp only; omega, by dsimp only; omega⟩ fct shut
  · intro h
    obtain rfl : i = W.length := by omega
    rw [List.take_length]
    (repeat (first | refine g ?_))
    exact run_ret rfl (imp_RX (p, c) rfl shut)
end Go.Proofs.YtajndpddlpnbkaaGreat.V
namespace Go.Proofs.YtajndpddlpnbkaaGreat.V
open Go.Proofs.YtajndpddlpnbkaaGreat.VL Go.Proofs.YtajndpddlpnbkaaGreat.VL.Sha
attribute [local irreducible] Run numB
theorem sized_spec (q : View) (s : ByteArray) (n : Nat) (hz : s.size = n) (hn : n ≤ 1000000) : FnD Tryz.prog q 45 [.string s, .int .i64 (n : Int)] [] (.int .i64 0) [] := by
  (first | refine FnD.go Tryz.call45 Tryz.func45 rfl rfl rfl ?_ | refine FnX.go Tryz.call45 Tryz.func45 rfl rfl rfl ?_)
  (repeat (first | refine g ?_))
  exact run_ret rfl (imp_RD rfl shut)
def wHN : List Nat := [6, 4, 2, 4, 4, 4, 6, 6]
theorem readH_spec (q : View) (s : ByteArray) (hz : s.size = 48) (w : Nat) : FnX Tryz.prog q 46 [.string s, .int .i64 4, .slice (some ⟨w, 0, none⟩) 8 8] [cells w 3 ⟨wHd⟩]
      (fun x : Option Addr × Nat => .slice x.1 8 x.2) fun x => [sl x.1 8 x.2 3 1 [.int .i64 (headP s).vol, .int .i64 (headP s).addr, .int .i64 (headP s).kind, .int .i64 (headP s).ino, .int .i64 (headP s).gen, .int .i64 (headP s).index, .int .i64 (headP s).ver, .int .i64 (headP s).salt]] :=
  read_spec q s 4 w wHN (by decide) (by decide) (by show 4 + 36 ≤ s.size; omega) (by omega)
attribute [local irreducible] ByteArray.extract in
theorem rheadOf_spec (q : View) (s : ByteArray) (hz : s.size = 48) : FnD Tryz.prog q 19 [.string s] [] (.tuple #[.agg ⟨encH (headOfF s).1⟩, .int .i64 (headOfF s).2]) [] := by
  have cs : FnD Tryz.prog q 45 [.string s, .int .i64 48] [] (.int .i64 0) [] := sized_spec q s 48 hz (by decide)
  have cn : FnD Tryz.prog q 31 [.int .i64 8] [] (.string (bl (List.replicate 8 0))) [] := noughts_spec q 8 (by decide)
  have cr := readH_spec q s hz
  unfold headOfF
  have e1 : s.extract (40 : Int).toNat (s.size : Int).toNat = s.extract 40 48 := by rw [hz]; rfl
  have e2 : s.extract (0 : Int).toNat (4 : Int).toNat = s.extract 0 4 := rfl
  have e3 : bl magicL = ⟨#[71, 82, 80, 78]⟩ := rfl
  obtain ⟨Z, hZ⟩ : ∃ Z, Z = bl (List.replicate 8 0) := ⟨_, rfl⟩
  rw [← hZ] at cn ⊢
  rw [e3, ← e1, ← e2]
  (first | refine FnD.go Tryz.call19 Tryz.func19 rfl rfl rfl ?_ | refine FnX.go Tryz.call19 Tryz.func19 rfl rfl rfl ?_)
  (repeat (first | refine g ?_ | refine s_flat 4 [(.pure, [0, 1, 2, 3, 4, 5]), (.mem false, [6]), (.pure, [7, 8])] ?_ | refine s_flat 7 [(.pure, [0, 1, 3, 4, 6, 7, 9, 10, 12, 13, 15, 16, 18, 19, 21, 22]), (.mem true, [2, 5, 8, 11, 14, 17, 20, 23]), (.pure, [24]), (.mem false, [25]), (.pure, [26])] ?_))
  refine s_alloc fun r2 => ?_
  (repeat (first | refine g ?_ | refine s_flat 4 [(.pure, [0, 1, 2, 3, 4, 5]), (.mem false, [6]), (.pure, [7, 8])] ?_ | refine s_flat 7 [(.pure, [0, 1, 3, 4, 6, 7, 9, 10, 12, 13, 15, 16, 18, 19, 21, 22]), (.mem true, [2, 5, 8, 11, 14, 17, 20, 23]), (.pure, [24]), (.mem false, [25]), (.pure, [26])] ?_))
  refine s_call cs ?_
  by_cases hM : s.extract (0 : Int).toNat (4 : Int).toNat ≠ ⟨#[71, 82, 80, 78]⟩
  · rw [if_neg (fun h => hM h.2)]
    (repeat (first | refine g ?_ | refine s_flat 4 [(.pure, [0, 1, 2, 3, 4, 5]), (.mem false, [6]), (.pure, [7, 8])] ?_ | refine s_flat 7 [(.pure, [0, 1, 3, 4, 6, 7, 9, 10, 12, 13, 15, 16, 18, 19, 21, 22]), (.mem true, [2, 5, 8, 11, 14, 17, 20, 23]), (.pure, [24]), (.mem false, [25]), (.pure, [26])] ?_))
    refine run_ret2 (imp_RD ?_ shut) rfl (res_cell tabOk rfl rfl rfl (by repeat (first | (with_reducible exact At.head) | apply At.tail)) rfl) (res_tmp rfl)
    rfl
  · have hM2 := Classical.not_not.1 hM
    by_cases hU : s.extract (40 : Int).toNat (s.size : Int).toNat ≠ Z
    · rw [if_neg (fun h => hU h.1)]
      (repeat (first | refine g ?_ | refine s_flat 4 [(.pure, [0, 1, 2, 3, 4, 5]), (.mem false, [6]), (.pure, [7, 8])] ?_ | refine s_flat 7 [(.pure, [0, 1, 3, 4, 6, 7, 9, 10, 12, 13, 15, 16, 18, 19, 21, 22]), (.mem true, [2, 5, 8, 11, 14, 17, 20, 23]), (.pure, [24]), (.mem false, [25]), (.pure, [26])] ?_))
      refine s_call cn ?_
      (repeat (first | refine g ?_ | refine s_flat 4 [(.pure, [0, 1, 2, 3, 4, 5]), (.mem false, [6]), (.pure, [7, 8])] ?_ | refine s_flat 7 [(.pure, [0, 1, 3, 4, 6, 7, 9, 10, 12, 13, 15, 16, 18, 19, 21, 22]), (.mem true, [2, 5, 8, 11, 14, 17, 20, 23]), (.pure, [24]), (.mem false, [25]), (.pure, [26])] ?_))
      refine run_ret2 (imp_RD ?_ shut) rfl (res_cell tabOk rfl rfl rfl (by repeat (first | (with_reducible exact At.head) | apply At.tail)) rfl) (res_tmp rfl)
      rfl
    · rw [if_pos ⟨Classical.not_not.1 hU, hM2⟩]
      (repeat (first | refine g ?_ | refine s_flat 4 [(.pure, [0, 1, 2, 3, 4, 5]), (.mem false, [6]), (.pure, [7, 8])] ?_ | refine s_flat 7 [(.pure, [0, 1, 3, 4, 6, 7, 9, 10, 12, 13, 15, 16, 18, 19, 21, 22]), (.mem true, [2, 5, 8, 11, 14, 17, 20, 23]), (.pure, [24]), (.mem false, [25]), (.pure, [26])] ?_))
      refine s_call cn ?_
      (repeat (first | refine g ?_ | refine s_flat 4 [(.pure, [0, 1, 2, 3, 4, 5]), (.mem false, [6]), (.pure, [7, 8])] ?_ | refine s_flat 7 [(.pure, [0, 1, 3, 4, 6, 7, 9, 10, 12, 13, 15, 16, 18, 19, 21, 22]), (.mem true, [2, 5, 8, 11, 14, 17, 20, 23]), (.pure, [24]), (.mem false, [25]), (.pure, [26])] ?_))
      refine s_callx (widths_spec q) fun w => ?_
      (repeat (first | refine g ?_ | refine s_flat 4 [(.pure, [0, 1, 2, 3, 4, 5]), (.mem false, [6]), (.pure, [7, 8])] ?_ | refine s_flat 7 [(.pure, [0, 1, 3, 4, 6, 7, 9, 10, 12, 13, 15, 16, 18, 19, 21, 22]), (.mem true, [2, 5, 8, 11, 14, 17, 20, 23]), (.pure, [24]), (.mem false, [25]), (.pure, [26])] ?_))
      refine s_callx (cr w) fun pc => ?_
      obtain ⟨p, c⟩ := pc
      dsimp only
      refine s_ptr p (h0 := by decide) (fun br er _ _ => ?_)
      subst er
      (repeat (first | refine g ?_ | refine s_flat 4 [(.pure, [0, 1, 2, 3, 4, 5]), (.mem false, [6]), (.pure, [7, 8])] ?_ | refine s_flat 7 [(.pure, [0, 1, 3, 4, 6, 7, 9, 10, 12, 13, 15, 16, 18, 19, 21, 22]), (.mem true, [2, 5, 8, 11, 14, 17, 20, 23]), (.pure, [24]), (.mem false, [25]), (.pure, [26])] ?_ | refine s_loadsl rfl ?_))
      refine run_ret2 (imp_RD ?_ shut) rfl (res_cell tabOk rfl rfl rfl (by repeat (first | (with_reducible exact At.head) | apply At.tail)) rfl) (res_tmp rfl)
      rfl
theorem rbopen_len (q : View) (v : Value) (V : HProp) (s : ByteArray) (hz : s.size ≠ 512) :
    FnD Tryz.prog q 9 [v, .string s] [V] (.tuple #[.agg ⟨encH zeroH⟩, .string ⟨#[]⟩, .int .i64 1]) [V] := by
  (first | refine FnD.go Tryz.call9 Tryz.func9 rfl rfl rfl ?_ | refine FnX.go Tryz.call9 Tryz.func9 rfl rfl rfl ?_)
  (repeat (first | refine g ?_))
  refine s_alloc fun r => ?_
  (repeat (first | refine g ?_))
  refine s_ceq r (encH zeroH) ?_ ?_
  · rfl
  refine run_ret3 (imp_RD ?_ shut) rfl (res_cell tabOk rfl rfl rfl (by repeat (first | (with_reducible exact At.head) | apply At.tail)) rfl) (res_tmp rfl) (res_tmp rfl)
  rfl
theorem rbopen_no (q : View) (v : Value) (V : HProp) (s : ByteArray) (hz : s.size = 512) (hg : ¬ headGood s) :
    FnD Tryz.prog q 9 [v, .string s] [V] (.tuple #[.agg ⟨encH zeroH⟩, .string ⟨#[]⟩, .int .i64 5]) [V] := by
  have ch := rheadOf_spec q (s.extract 0 48) (by rw [ByteArray.size_extract]; omega)
  rw [headOf_bad hg] at ch
  dsimp only at ch
  have e1 : s.extract (0 : Int).toNat (48 : Int).toNat = s.extract 0 48 := rfl
  obtain ⟨S1, h1⟩ : ∃ S, S = s.extract 0 48 := ⟨_, rfl⟩
  rw [← h1] at ch e1
  (first | refine FnD.go Tryz.call9 Tryz.func9 rfl rfl rfl ?_ | refine FnX.go Tryz.call9 Tryz.func9 rfl rfl rfl ?_)
  (repeat (first | refine g ?_))
  refine s_alloc fun r => ?_
  (repeat (first | refine g ?_))
  refine s_to 17 (v := .string (s.extract (0 : Int).toNat (48 : Int).toNat)) (w := .string S1) (by rw [e1]) ?_
  refine s_call ch ?_
  (repeat (first | refine g ?_))
  refine s_alloc fun r2 => ?_
  (repeat (first | refine g ?_))
  refine s_ceq r (encH zeroH) ?_ ?_
  · rfl
  refine run_ret3 (imp_RD ?_ shut) rfl (res_cell tabOk rfl rfl rfl (by repeat (first | (with_reducible exact At.head) | apply At.tail)) rfl) (res_tmp rfl) (res_tmp rfl)
  rfl
theorem rbopen_call (q : View) (v : Value) (V V' : HProp) (s : ByteArray) (hz : s.size = 512) (hg : headGood s) (F : ByteArray) (e : Int)
    (hc : FnD Tryz.prog q 20 [v, .int .i64 (openH s).salt, .string (nonceB (openH s)), .string (s.extract 0 48), .string (s.extract 48 512)] [V] (.tuple #[.string F, .int .i64 e]) [V']) :
    FnD Tryz.prog q 9 [v, .string s] [V] (.tuple #[.agg ⟨encH (if e = 0 then openH s else zeroH)⟩, .string (if e = 0 then F else ⟨#[]⟩), .int .i64 e]) [V'] := by
  have ch := rheadOf_spec q (s.extract 0 48) (by rw [ByteArray.size_extract]; omega)
  rw [headOf_good hg] at ch
  dsimp only at ch
  have hok := headP_fld (s.extract 0 48)
  have cn := rnonce_spec q (openH s) (ok_nonce hok).1 (ok_nonce hok).2 (headP_ok _).a1 (headP_ok _).r1
  have e1 : s.extract (0 : Int).toNat (48 : Int).toNat = s.extract 0 48 := rfl
  have e2 : s.extract (48 : Int).toNat (s.size : Int).toNat = s.extract 48 512 := by rw [hz]; rfl
  obtain ⟨S1, h1⟩ : ∃ S, S = s.extract 0 48 := ⟨_, rfl⟩
  obtain ⟨S2, h2⟩ : ∃ S, S = s.extract 48 512 := ⟨_, rfl⟩
  obtain ⟨H, hH⟩ : ∃ H, H = openH s := ⟨_, rfl⟩
  rw [← h1] at ch e1 hc
  rw [← h2] at e2 hc
  rw [← hH] at ch cn hc ⊢
  unfold encH at ch
  (first | refine FnD.go Tryz.call9 Tryz.func9 rfl rfl rfl ?_ | refine FnX.go Tryz.call9 Tryz.func9 rfl rfl rfl ?_)
  (repeat (first | refine g ?_))
  refine s_alloc fun r => ?_
  (repeat (first | refine g ?_))
  refine s_to 17 (v := .string (s.extract (0 : Int).toNat (48 : Int).toNat)) (w := .string S1) (by rw [e1]) ?_
  refine s_call ch ?_
  (repeat (first | refine g ?_))
  refine s_alloc fun r2 => ?_
  (repeat (first | refine g ?_))
  refine s_ceq r2 (encH H) ?_ ?_
  · rfl
  unfold encH at cn ⊢
  rw [← e1, ← e2] at hc
  refine d_start [V] ?_
  (first | refine d_pure 0 ?_ | refine d_load 0 ?_ | refine d_arith 0 ?_ | refine d_rem 0 ?_ | refine d_quo 0 ?_ | refine d_shrv 0 ?_ | refine d_fieldat 0 ?_ | refine d_idx1 0 ?_ | refine d_index 0 ?_ | refine d_conv64 0 ?_ | refine d_slices 0 ?_ | refine d_concat 0 ?_ | refine d_build 0 ?_)
  (first | refine d_pure 1 ?_ | refine d_load 1 ?_ | refine d_arith 1 ?_ | refine d_rem 1 ?_ | refine d_quo 1 ?_ | refine d_shrv 1 ?_ | refine d_fieldat 1 ?_ | refine d_idx1 1 ?_ | refine d_index 1 ?_ | refine d_conv64 1 ?_ | refine d_slices 1 ?_ | refine d_concat 1 ?_ | refine d_build 1 ?_)
  (first | refine d_pure 2 ?_ | refine d_load 2 ?_ | refine d_arith 2 ?_ | refine d_rem 2 ?_ | refine d_quo 2 ?_ | refine d_shrv 2 ?_ | refine d_fieldat 2 ?_ | refine d_idx1 2 ?_ | refine d_index 2 ?_ | refine d_conv64 2 ?_ | refine d_slices 2 ?_ | refine d_concat 2 ?_ | refine d_build 2 ?_)
  refine d_getall 3 rfl ?_
  (first | refine d_pure 5 ?_ | refine d_load 5 ?_ | refine d_arith 5 ?_ | refine d_rem 5 ?_ | refine d_quo 5 ?_ | refine d_shrv 5 ?_ | refine d_fieldat 5 ?_ | refine d_idx1 5 ?_ | refine d_index 5 ?_ | refine d_conv64 5 ?_ | refine d_slices 5 ?_ | refine d_concat 5 ?_ | refine d_build 5 ?_)
  (first | refine d_pure 6 ?_ | refine d_load 6 ?_ | refine d_arith 6 ?_ | refine d_rem 6 ?_ | refine d_quo 6 ?_ | refine d_shrv 6 ?_ | refine d_fieldat 6 ?_ | refine d_idx1 6 ?_ | refine d_index 6 ?_ | refine d_conv64 6 ?_ | refine d_slices 6 ?_ | refine d_concat 6 ?_ | refine d_build 6 ?_)
  (first | refine d_pure 7 ?_ | refine d_load 7 ?_ | refine d_arith 7 ?_ | refine d_rem 7 ?_ | refine d_quo 7 ?_ | refine d_shrv 7 ?_ | refine d_fieldat 7 ?_ | refine d_idx1 7 ?_ | refine d_index 7 ?_ | refine d_conv64 7 ?_ | refine d_slices 7 ?_ | refine d_concat 7 ?_ | refine d_build 7 ?_)
  (first | refine d_pure 8 ?_ | refine d_load 8 ?_ | refine d_arith 8 ?_ | refine d_rem 8 ?_ | refine d_quo 8 ?_ | refine d_shrv 8 ?_ | refine d_fieldat 8 ?_ | refine d_idx1 8 ?_ | refine d_index 8 ?_ | refine d_conv64 8 ?_ | refine d_slices 8 ?_ | refine d_concat 8 ?_ | refine d_build 8 ?_)
  refine d_call 4 cn ?_
  refine d_call 9 hc ?_
  (first | refine d_pure 10 ?_ | refine d_load 10 ?_ | refine d_arith 10 ?_ | refine d_rem 10 ?_ | refine d_quo 10 ?_ | refine d_shrv 10 ?_ | refine d_fieldat 10 ?_ | refine d_idx1 10 ?_ | refine d_index 10 ?_ | refine d_conv64 10 ?_ | refine d_slices 10 ?_ | refine d_concat 10 ?_ | refine d_build 10 ?_)
  (first | refine d_pure 11 ?_ | refine d_load 11 ?_ | refine d_arith 11 ?_ | refine d_rem 11 ?_ | refine d_quo 11 ?_ | refine d_shrv 11 ?_ | refine d_fieldat 11 ?_ | refine d_idx1 11 ?_ | refine d_index 11 ?_ | refine d_conv64 11 ?_ | refine d_slices 11 ?_ | refine d_concat 11 ?_ | refine d_build 11 ?_)
  (first | refine d_pure 12 ?_ | refine d_load 12 ?_ | refine d_arith 12 ?_ | refine d_rem 12 ?_ | refine d_quo 12 ?_ | refine d_shrv 12 ?_ | refine d_fieldat 12 ?_ | refine d_idx1 12 ?_ | refine d_index 12 ?_ | refine d_conv64 12 ?_ | refine d_slices 12 ?_ | refine d_concat 12 ?_ | refine d_build 12 ?_)
  (first | refine d_pure 13 ?_ | refine d_load 13 ?_ | refine d_arith 13 ?_ | refine d_rem 13 ?_ | refine d_quo 13 ?_ | refine d_shrv 13 ?_ | refine d_fieldat 13 ?_ | refine d_idx1 13 ?_ | refine d_index 13 ?_ | refine d_conv64 13 ?_ | refine d_slices 13 ?_ | refine d_concat 13 ?_ | refine d_build 13 ?_)
  (first | refine d_pure 14 ?_ | refine d_load 14 ?_ | refine d_arith 14 ?_ | refine d_rem 14 ?_ | refine d_quo 14 ?_ | refine d_shrv 14 ?_ | refine d_fieldat 14 ?_ | refine d_idx1 14 ?_ | refine d_index 14 ?_ | refine d_conv64 14 ?_ | refine d_slices 14 ?_ | refine d_concat 14 ?_ | refine d_build 14 ?_)
  refine d_done ?_
  by_cases he : e = 0
  · subst he
    rw [if_pos rfl, if_pos rfl]
    (repeat (first | refine g ?_))
    refine run_ret3 (imp_RD ?_ shut) rfl (res_cell tabOk rfl rfl rfl (by repeat (first | (with_reducible exact At.head) | apply At.tail)) rfl) (res_tmp rfl) (res_tmp rfl)
    rfl
  · rw [if_neg he, if_neg he]
    (repeat (first | refine g ?_))
    refine run_ret3 (imp_RD ?_ shut) rfl (res_cell tabOk rfl rfl rfl (by repeat (first | (with_reducible exact At.head) | apply At.tail)) rfl) (res_tmp rfl) (res_tmp rfl)
    rfl
theorem rbopen_ideal (q : View) (v : Nat) (s : VSt) (hs : VOk 1000000 s) (raw : ByteArray) :
    FnD Tryz.prog q 9 [.pointer (some ⟨v, 0, none⟩), .string raw] [rAt v s] (.tuple #[.agg ⟨encH (bopenF s raw).1⟩, .string (bopenF s raw).2.1, .int .i64 (bopenF s raw).2.2]) [rAt v s] := by
  by_cases hz : raw.size ≠ 512
  · rw [bopenF_len s raw hz]
    exact rbopen_len q _ _ raw hz
  · have hz : raw.size = 512 := by omega
    by_cases hg : headGood raw
    · rw [bopenF_ok s raw hz hg]
      have hc := ropen_spec q v s hs (openH raw).salt (nonceB (openH raw)) (raw.extract 0 48) (raw.extract 48 512) (by rw [ByteArray.size_extract]; omega)
      obtain ⟨R, hR⟩ : ∃ R, R = bopenR s raw := ⟨_, rfl⟩
      rw [← hR]
      unfold bopenR at hR
      rw [← hR] at hc
      exact rbopen_call q _ _ _ raw hz hg _ _ hc
    · rw [bopenF_no s raw hz hg]
      exact rbopen_no q _ _ raw hz hg
end Go.Proofs.YtajndpddlpnbkaaGreat.V
namespace Go.Proofs.YtajndpddlpnbkaaGreat.V
open Go.Proofs.YtajndpddlpnbkaaGreat.VL Go.Proofs.YtajndpddlpnbkaaGreat.VL.Sha
attribute [local irreducible] Run numB
set_option maxHeartbeats 2000000 in
theorem bopens_spec (q : View) (hp : Option Addr) (hc : Nat) (heads : List HeadT) (hhq : HeadsQ q hp heads) (hhl : heads.length ≤ 9223372036854775807) (which at_ by_ : Int) (b0 : 0 ≤ by_) (b1 : by_ ≤ 255) (raw : ByteArray) :
    FnD Tryz.prog q 3 [.slice hp heads.length hc, .int .i64 which, .int .i64 at_, .int .u8 by_, .string raw] [] (.bool true) [] := by
  have ca := awake6_spec q
  have cb := body_spec q ⟨#[97, 98, 99]⟩
  obtain ⟨X, hX⟩ : ∃ X, X = bodyF ⟨#[97, 98, 99]⟩ := ⟨_, rfl⟩
  rw [← hX] at cb
  (first | refine FnD.go Tryz.call3 Tryz.func3 rfl rfl rfl ?_ | refine FnX.go Tryz.call3 Tryz.func3 rfl rfl rfl ?_)
  (repeat (first | refine g ?_))
  refine s_callx (ideal_new q) fun v => ?_
  (repeat (first | refine g ?_))
  refine s_box fun w => ?_
  (repeat (first | refine g ?_))
  refine run_cutI (X := VSt × List ByteArray × Option Addr × Nat) (fun x => VOk 8 x.1 ∧ x.2.1.length ≤ 8) (fun x => [(1, .int .i64 which), (2, .int .i64 at_), (3, .int .u8 by_), (4, .string raw), (11, .pointer (some ⟨v, 0, none⟩)), (12, .pointer (some ⟨w, 0, none⟩)), (13, .slice x.2.2.1 x.2.1.length x.2.2.2)])
    (fun x => [rAt w x.1, vaultAt v x.1, sl x.2.2.1 x.2.1.length x.2.2.2 9 1 (x.2.1.map Value.string)]) ?_ fun ⟨s, raws, pr, cr⟩ ⟨hs, hl8⟩ => ?_
  · refine run_loopI (X := Nat × VSt × List ByteArray × Option Addr × Nat) (fun x => (x.1 ≤ heads.length ∧ x.1 ≤ 8) ∧ VOk x.1 x.2.1 ∧ x.2.2.1.length = x.1) (fun x => [(0, .slice hp heads.length hc), (1, .int .i64 which), (2, .int .i64 at_), (3, .int .u8 by_), (4, .string raw), (11, .pointer (some ⟨v, 0, none⟩)), (12, .pointer (some ⟨w, 0, none⟩)), (13, .slice x.2.2.2.1 x.2.2.1.length x.2.2.2.2), (14, .int .i64 (x.1 : Int))])
      (fun x => [rAt w x.2.1, vaultAt v x.2.1, sl x.2.2.2.1 x.2.2.1.length x.2.2.2.2 9 1 (x.2.2.1.map Value.string)]) (fun x => 8 - x.1) (0, s00, [], none, 0) ⟨⟨Nat.zero_le _, Nat.zero_le _⟩, s00_ok, rfl⟩ fct ?_ ?_
    · refine imp_r (ph := none) (ch := 0) (pm := none) (cm := 0) (pe := none) (ce := 0) ?_
      unfold rParts
      exact shut
    intro ⟨i, s, raws, pr, cr⟩ ⟨⟨hi, hi8⟩, hs, hlr⟩
    dsimp only at *
    (repeat (first | refine g ?_))
    by_cases h1 : i < heads.length ∧ i < 8
    · obtain ⟨h1, h2⟩ := h1
      obtain ⟨x, bh, oh, hx, hxo, ep, ho, hxa, hxl⟩ := hhq.at i h1
      subst ep
      have cs := bseal_ideal q v s (hs.mono (by omega)) x hxo X
      have cs2 := rbseal_ideal q w s (hs.mono (by omega)) x hxo X
      have hvk := bsealF_vok hs x X
      obtain ⟨⟨⟨ra, ea⟩, Sa⟩, hA⟩ : ∃ A, A = bsealF s x X := ⟨_, rfl⟩
      rw [← hA] at cs cs2 hvk
      dsimp only at cs cs2 hvk
      have hrr : ¬ (ra ≠ ra) := fun h => h rfl
      (repeat (first | refine g ?_))
      refine d_start [vaultAt v s] ?_
      (first | refine d_pure 0 ?_ | refine d_load 0 ?_ | refine d_arith 0 ?_ | refine d_rem 0 ?_ | refine d_quo 0 ?_ | refine d_shrv 0 ?_ | refine d_fieldat 0 ?_ | refine d_idx1 0 ?_ | refine d_index 0 ?_ | refine d_conv64 0 ?_ | refine d_slices 0 ?_ | refine d_concat 0 ?_ | refine d_build 0 ?_)
      (first | refine d_pure 1 ?_ | refine d_load 1 ?_ | refine d_arith 1 ?_ | refine d_rem 1 ?_ | refine d_quo 1 ?_ | refine d_shrv 1 ?_ | refine d_fieldat 1 ?_ | refine d_idx1 1 ?_ | refine d_index 1 ?_ | refine d_conv64 1 ?_ | refine d_slices 1 ?_ | refine d_concat 1 ?_ | refine d_build 1 ?_)
      (first | refine d_pure 2 ?_ | refine d_load 2 ?_ | refine d_arith 2 ?_ | refine d_rem 2 ?_ | refine d_quo 2 ?_ | refine d_shrv 2 ?_ | refine d_fieldat 2 ?_ | refine d_idx1 2 ?_ | refine d_index 2 ?_ | refine d_conv64 2 ?_ | refine d_slices 2 ?_ | refine d_concat 2 ?_ | refine d_build 2 ?_)
      refine d_idxo 3 (kk := 8) (oh + i * 8) ?_
      refine d_loadao 4 (j := i * 8) ho hxa hxl (by omega) ?_
      refine d_call 5 cb ?_
      refine d_call 6 cs ?_
      (first | refine d_pure 7 ?_ | refine d_load 7 ?_ | refine d_arith 7 ?_ | refine d_rem 7 ?_ | refine d_quo 7 ?_ | refine d_shrv 7 ?_ | refine d_fieldat 7 ?_ | refine d_idx1 7 ?_ | refine d_index 7 ?_ | refine d_conv64 7 ?_ | refine d_slices 7 ?_ | refine d_concat 7 ?_ | refine d_build 7 ?_)
      (first | refine d_pure 8 ?_ | refine d_load 8 ?_ | refine d_arith 8 ?_ | refine d_rem 8 ?_ | refine d_quo 8 ?_ | refine d_shrv 8 ?_ | refine d_fieldat 8 ?_ | refine d_idx1 8 ?_ | refine d_index 8 ?_ | refine d_conv64 8 ?_ | refine d_slices 8 ?_ | refine d_concat 8 ?_ | refine d_build 8 ?_)
      (first | refine d_pure 9 ?_ | refine d_load 9 ?_ | refine d_arith 9 ?_ | refine d_rem 9 ?_ | refine d_quo 9 ?_ | refine d_shrv 9 ?_ | refine d_fieldat 9 ?_ | refine d_idx1 9 ?_ | refine d_index 9 ?_ | refine d_conv64 9 ?_ | refine d_slices 9 ?_ | refine d_concat 9 ?_ | refine d_build 9 ?_)
      (first | refine d_pure 10 ?_ | refine d_load 10 ?_ | refine d_arith 10 ?_ | refine d_rem 10 ?_ | refine d_quo 10 ?_ | refine d_shrv 10 ?_ | refine d_fieldat 10 ?_ | refine d_idx1 10 ?_ | refine d_index 10 ?_ | refine d_conv64 10 ?_ | refine d_slices 10 ?_ | refine d_concat 10 ?_ | refine d_build 10 ?_)
      (first | refine d_pure 11 ?_ | refine d_load 11 ?_ | refine d_arith 11 ?_ | refine d_rem 11 ?_ | refine d_quo 11 ?_ | refine d_shrv 11 ?_ | refine d_fieldat 11 ?_ | refine d_idx1 11 ?_ | refine d_index 11 ?_ | refine d_conv64 11 ?_ | refine d_slices 11 ?_ | refine d_concat 11 ?_ | refine d_build 11 ?_)
      refine d_done ?_
      (repeat (first | refine g ?_))
      refine d_start [rAt w s] ?_
      (first | refine d_pure 0 ?_ | refine d_load 0 ?_ | refine d_arith 0 ?_ | refine d_rem 0 ?_ | refine d_quo 0 ?_ | refine d_shrv 0 ?_ | refine d_fieldat 0 ?_ | refine d_idx1 0 ?_ | refine d_index 0 ?_ | refine d_conv64 0 ?_ | refine d_slices 0 ?_ | refine d_concat 0 ?_ | refine d_build 0 ?_)
      (first | refine d_pure 1 ?_ | refine d_load 1 ?_ | refine d_arith 1 ?_ | refine d_rem 1 ?_ | refine d_quo 1 ?_ | refine d_shrv 1 ?_ | refine d_fieldat 1 ?_ | refine d_idx1 1 ?_ | refine d_index 1 ?_ | refine d_conv64 1 ?_ | refine d_slices 1 ?_ | refine d_concat 1 ?_ | refine d_build 1 ?_)
      (first | refine d_pure 2 ?_ | refine d_load 2 ?_ | refine d_arith 2 ?_ | refine d_rem 2 ?_ | refine d_quo 2 ?_ | refine d_shrv 2 ?_ | refine d_fieldat 2 ?_ | refine d_idx1 2 ?_ | refine d_index 2 ?_ | refine d_conv64 2 ?_ | refine d_slices 2 ?_ | refine d_concat 2 ?_ | refine d_build 2 ?_)
      refine d_idxo 3 (kk := 8) (oh + i * 8) ?_
      refine d_loadao 4 (j := i * 8) ho hxa hxl (by omega) ?_
      refine d_call 5 cb ?_
      refine d_call 6 cs2 ?_
      (first | refine d_pure 7 ?_ | refine d_load 7 ?_ | refine d_arith 7 ?_ | refine d_rem 7 ?_ | refine d_quo 7 ?_ | refine d_shrv 7 ?_ | refine d_fieldat 7 ?_ | refine d_idx1 7 ?_ | refine d_index 7 ?_ | refine d_conv64 7 ?_ | refine d_slices 7 ?_ | refine d_concat 7 ?_ | refine d_build 7 ?_)
      (first | refine d_pure 8 ?_ | refine d_load 8 ?_ | refine d_arith 8 ?_ | refine d_rem 8 ?_ | refine d_quo 8 ?_ | refine d_shrv 8 ?_ | refine d_fieldat 8 ?_ | refine d_idx1 8 ?_ | refine d_index 8 ?_ | refine d_conv64 8 ?_ | refine d_slices 8 ?_ | refine d_concat 8 ?_ | refine d_build 8 ?_)
      (first | refine d_pure 9 ?_ | refine d_load 9 ?_ | refine d_arith 9 ?_ | refine d_rem 9 ?_ | refine d_quo 9 ?_ | refine d_shrv 9 ?_ | refine d_fieldat 9 ?_ | refine d_idx1 9 ?_ | refine d_index 9 ?_ | refine d_conv64 9 ?_ | refine d_slices 9 ?_ | refine d_concat 9 ?_ | refine d_build 9 ?_)
      (first | refine d_pure 10 ?_ | refine d_load 10 ?_ | refine d_arith 10 ?_ | refine d_rem 10 ?_ | refine d_quo 10 ?_ | refine d_shrv 10 ?_ | refine d_fieldat 10 ?_ | refine d_idx1 10 ?_ | refine d_index 10 ?_ | refine d_conv64 10 ?_ | refine d_slices 10 ?_ | refine d_concat 10 ?_ | refine d_build 10 ?_)
      (first | refine d_pure 11 ?_ | refine d_load 11 ?_ | refine d_arith 11 ?_ | refine d_rem 11 ?_ | refine d_quo 11 ?_ | refine d_shrv 11 ?_ | refine d_fieldat 11 ?_ | refine d_idx1 11 ?_ | refine d_index 11 ?_ | refine d_conv64 11 ?_ | refine d_slices 11 ?_ | refine d_concat 11 ?_ | refine d_build 11 ?_)
      refine d_done ?_
      (repeat (first | refine g ?_))
      refine s_built fun rn => ?_
      (repeat (first | refine g ?_))
      refine s_app 1 16 (reads_own At.head rfl) (hxl := by rw [List.length_map, Nat.mul_one]) fun r2 => ?_
      refine s_eq (show raws.map Value.string ++ [Value.string ra] = (raws ++ [ra]).map Value.string by rw [List.map_append]; rfl) ?_
      rw [show raws.length + 1 = (raws ++ [ra]).length by rw [List.length_append]; rfl]
      (repeat (first | refine g ?_))
      refine run_stop_loop (i + 1, Sa, raws ++ [ra], r2) ⟨⟨⟨by omega, by omega⟩, hvk, by rw [List.length_append, hlr]; rfl⟩, by dsimp only; omega⟩ fct shut
    · by_cases h1 : i < heads.length
      · have h2 : ¬ i < 8 := fun h => by omega
        (repeat (first | refine g ?_))
        exact run_stop_loop (s, raws, pr, cr) ⟨hs.mono (by omega), by show raws.length ≤ 8; omega⟩ fct shut
      · (repeat (first | refine g ?_))
        exact run_stop_loop (s, raws, pr, cr) ⟨hs.mono (by omega), by show raws.length ≤ 8; omega⟩ fct shut
  · dsimp only at *
    by_cases h0 : 0 ≤ which
    · by_cases h1 : which < raws.length
      · obtain ⟨i, rfl⟩ : ∃ i : Nat, which = i := ⟨which.toNat, by omega⟩
        have hi1 : i < raws.length := by omega
        obtain ⟨L, hL⟩ : ∃ L, raws[i]? = some L := ⟨_, List.getElem?_eq_getElem hi1⟩
        have hx : (raws.map Value.string)[i]? = some (.string L) := by rw [List.getElem?_map, hL]; rfl
        refine s_ptr pr (h0 := by omega) (fun br er _ _ => ?_)
        subst er
        (repeat (first | refine g ?_))
        refine s_loadsl hx ?_
        by_cases hz : L.size = 512
        · (repeat (first | refine g ?_))
          refine s_loadsl hx ?_
          (repeat (first | refine g ?_))
          refine s_bytes fun r => ?_
          obtain ⟨l, hl⟩ : ∃ l, l = L.data.toList := ⟨_, rfl⟩
          have hll : l.length = 512 := by rw [hl, Array.length_toList]; exact hz
          rw [← hl, show L.size = l.length by rw [hll, hz]]
          by_cases ha : 0 ≤ at_
          · by_cases hb : at_ < 512
            · obtain ⟨n, rfl⟩ : ∃ n : Nat, at_ = n := ⟨at_.toNat, by omega⟩
              obtain ⟨u, rfl⟩ : ∃ u : UInt8, by_ = (u.toNat : Int) := ⟨UInt8.ofNat by_.toNat, by rw [UInt8.toNat_ofNat', Nat.mod_eq_of_lt (by omega)]; omega⟩
              refine s_ptr r.1 (h0 := by omega) (fun bb eb _ _ => ?_)
              rw [eb]
              (repeat (first | refine g ?_))
              refine s_lbv ?_
              refine g ?_
              refine s_w8 ?_
              (repeat (first | refine g ?_))
              refine s_sbv ?_
              (repeat (first | refine g ?_))
              refine s_string ?_
              have co := bopen_ideal q v s (hs.mono (by decide)) (bl (l.set n (l.getD n 0 ^^^ u)))
              have cr := rbopen_ideal q w s (hs.mono (by decide)) (bl (l.set n (l.getD n 0 ^^^ u)))
              have hf := bopenF_fits s (bl (l.set n (l.getD n 0 ^^^ u)))
              obtain ⟨⟨H, B, e⟩, hO⟩ : ∃ O, O = bopenF s (bl (l.set n (l.getD n 0 ^^^ u))) := ⟨_, rfl⟩
              rw [← hO] at co cr hf
              dsimp only at co cr hf
              have kh := head_lits 2 H hf.1
              have hBB : B = B := rfl
              have hee : e = e := rfl
              unfold encH at co cr kh
              (repeat (first | refine g ?_))
              refine s_call co ?_
              (repeat (first | refine g ?_))
              refine s_alloc fun r20 => ?_
              (repeat (first | refine g ?_))
              refine s_call cr ?_
              (repeat (first | refine g ?_))
              refine s_alloc fun r23 => ?_
              (repeat (first | refine g ?_))
              refine s_eqk 6 4 true (la := litsH H) (lb := litsH H) ?_ ?_ (ka := kh) (kb := kh)
              · simp
              (repeat (first | refine g ?_))
              refine s_call ca ?_
              (repeat (first | refine g ?_))
              exact run_ret rfl (imp_RD rfl shut)
            · (repeat (first | refine g ?_))
              refine s_string ?_
              have co := bopen_ideal q v s (hs.mono (by decide)) (bl l)
              have cr := rbopen_ideal q w s (hs.mono (by decide)) (bl l)
              have hf := bopenF_fits s (bl l)
              obtain ⟨⟨H, B, e⟩, hO⟩ : ∃ O, O = bopenF s (bl l) := ⟨_, rfl⟩
              rw [← hO] at co cr hf
              dsimp only at co cr hf
              have kh := head_lits 2 H hf.1
              have hBB : B = B := rfl
              have hee : e = e := rfl
              unfold encH at co cr kh
              (repeat (first | refine g ?_))
              refine s_call co ?_
              (repeat (first | refine g ?_))
              refine s_alloc fun r20 => ?_
              (repeat (first | refine g ?_))
              refine s_call cr ?_
              (repeat (first | refine g ?_))
              refine s_alloc fun r23 => ?_
              (repeat (first | refine g ?_))
              refine s_eqk 6 4 true (la := litsH H) (lb := litsH H) ?_ ?_ (ka := kh) (kb := kh)
              · simp
              (repeat (first | refine g ?_))
              refine s_call ca ?_
              (repeat (first | refine g ?_))
              exact run_ret rfl (imp_RD rfl shut)
          · (repeat (first | refine g ?_))
            refine s_string ?_
            have co := bopen_ideal q v s (hs.mono (by decide)) (bl l)
            have cr := rbopen_ideal q w s (hs.mono (by decide)) (bl l)
            have hf := bopenF_fits s (bl l)
            obtain ⟨⟨H, B, e⟩, hO⟩ : ∃ O, O = bopenF s (bl l) := ⟨_, rfl⟩
            rw [← hO] at co cr hf
            dsimp only at co cr hf
            have kh := head_lits 2 H hf.1
            have hBB : B = B := rfl
            have hee : e = e := rfl
            unfold encH at co cr kh
            (repeat (first | refine g ?_))
            refine s_call co ?_
            (repeat (first | refine g ?_))
            refine s_alloc fun r20 => ?_
            (repeat (first | refine g ?_))
            refine s_call cr ?_
            (repeat (first | refine g ?_))
            refine s_alloc fun r23 => ?_
            (repeat (first | refine g ?_))
            refine s_eqk 6 4 true (la := litsH H) (lb := litsH H) ?_ ?_ (ka := kh) (kb := kh)
            · simp
            (repeat (first | refine g ?_))
            refine s_call ca ?_
            (repeat (first | refine g ?_))
            exact run_ret rfl (imp_RD rfl shut)
        · (repeat (first | refine g ?_))
          have co := bopen_ideal q v s (hs.mono (by decide)) (raw)
          have cr := rbopen_ideal q w s (hs.mono (by decide)) (raw)
          have hf := bopenF_fits s (raw)
          obtain ⟨⟨H, B, e⟩, hO⟩ : ∃ O, O = bopenF s (raw) := ⟨_, rfl⟩
          rw [← hO] at co cr hf
          dsimp only at co cr hf
          have kh := head_lits 2 H hf.1
          have hBB : B = B := rfl
          have hee : e = e := rfl
          unfold encH at co cr kh
          (repeat (first | refine g ?_))
          refine s_call co ?_
          (repeat (first | refine g ?_))
          refine s_alloc fun r20 => ?_
          (repeat (first | refine g ?_))
          refine s_call cr ?_
          (repeat (first | refine g ?_))
          refine s_alloc fun r23 => ?_
          (repeat (first | refine g ?_))
          refine s_eqk 6 4 true (la := litsH H) (lb := litsH H) ?_ ?_ (ka := kh) (kb := kh)
          · simp
          (repeat (first | refine g ?_))
          refine s_call ca ?_
          (repeat (first | refine g ?_))
          exact run_ret rfl (imp_RD rfl shut)
      · (repeat (first | refine g ?_))
        have co := bopen_ideal q v s (hs.mono (by decide)) (raw)
        have cr := rbopen_ideal q w s (hs.mono (by decide)) (raw)
        have hf := bopenF_fits s (raw)
        obtain ⟨⟨H, B, e⟩, hO⟩ : ∃ O, O = bopenF s (raw) := ⟨_, rfl⟩
        rw [← hO] at co cr hf
        dsimp only at co cr hf
        have kh := head_lits 2 H hf.1
        have hBB : B = B := rfl
        have hee : e = e := rfl
        unfold encH at co cr kh
        (repeat (first | refine g ?_))
        refine s_call co ?_
        (repeat (first | refine g ?_))
        refine s_alloc fun r20 => ?_
        (repeat (first | refine g ?_))
        refine s_call cr ?_
        (repeat (first | refine g ?_))
        refine s_alloc fun r23 => ?_
        (repeat (first | refine g ?_))
        refine s_eqk 6 4 true (la := litsH H) (lb := litsH H) ?_ ?_ (ka := kh) (kb := kh)
        · simp
        (repeat (first | refine g ?_))
        refine s_call ca ?_
        (repeat (first | refine g ?_))
        exact run_ret rfl (imp_RD rfl shut)
    · (repeat (first | refine g ?_))
      have co := bopen_ideal q v s (hs.mono (by decide)) (raw)
      have cr := rbopen_ideal q w s (hs.mono (by decide)) (raw)
      have hf := bopenF_fits s (raw)
      obtain ⟨⟨H, B, e⟩, hO⟩ : ∃ O, O = bopenF s (raw) := ⟨_, rfl⟩
      rw [← hO] at co cr hf
      dsimp only at co cr hf
      have kh := head_lits 2 H hf.1
      have hBB : B = B := rfl
      have hee : e = e := rfl
      unfold encH at co cr kh
      (repeat (first | refine g ?_))
      refine s_call co ?_
      (repeat (first | refine g ?_))
      refine s_alloc fun r20 => ?_
      (repeat (first | refine g ?_))
      refine s_call cr ?_
      (repeat (first | refine g ?_))
      refine s_alloc fun r23 => ?_
      (repeat (first | refine g ?_))
      refine s_eqk 6 4 true (la := litsH H) (lb := litsH H) ?_ ?_ (ka := kh) (kb := kh)
      · simp
      (repeat (first | refine g ?_))
      refine s_call ca ?_
      (repeat (first | refine g ?_))
      exact run_ret rfl (imp_RD rfl shut)
end Go.Proofs.YtajndpddlpnbkaaGreat.V
