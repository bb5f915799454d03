/- The document's numbers as bytes, of any width; the document's head. -/
import Derived.Test.YtajndpddlpnbkaaVKa
import Derived.Test.YtajndpddlpnbkaaBKa
import Derived.Test.YtajndpddlpnbkaaVKb
set_option maxRecDepth 10000
set_option linter.unusedVariables false
namespace Go.Proofs.Ytajndpddlpnbkaa.V
open Go.Proofs.Ytajndpddlpnbkaa.VL Go.Proofs.Ytajndpddlpnbkaa.VL.RD Go.Proofs.Ytajndpddlpnbkaa.VL.Sha
attribute [local irreducible] Run
theorem refPutI_spec (q : View) (n : Int) (w : Nat) (h1 : 1 ≤ w) (h6 : w ≤ 6) (hn : n ≤ 9223372036854775807) : FnD Try.prog q 52 [.int .i64 n, .int .i64 (w : Int)] [] (.tuple #[.string (V.putF n w).1, .int .i64 (V.putF n w).2]) [] := by
  unfold V.putF
  rw [if_neg (by omega), Int.toNat_natCast]
  (first | refine FnD.go Try.call52 Try.func52 rfl rfl rfl ?_ | refine FnX.go Try.call52 Try.func52 rfl rfl rfl ?_)
  by_cases h0 : n < 0
  · rw [if_pos (.inl h0)]
    (repeat (first | refine g ?_))
    exact run_ret rfl (imp_RD rfl shut)
  obtain ⟨m0, rfl⟩ : ∃ m : Nat, n = m := ⟨n.toNat, by omega⟩
  (repeat (first | refine g ?_))
  refine run_loopI (X := Nat × Option Addr × Nat) (fun x => x.1 ≤ w) (fun x => [(0, .int .i64 ((m0 / 256 ^ x.1 : Nat) : Int)), (1, .int .i64 (w : Int)), (6, .slice x.2.1 (leb m0 x.1).length x.2.2), (7, .int .i64 (x.1 : Int))])
    (fun x => [sl x.2.1 (leb m0 x.1).length x.2.2 5 1 (bv (leb m0 x.1))]) (fun x => w - x.1) (0, none, 0) (Nat.zero_le _) (by dsimp only; rw [Nat.pow_zero, Nat.div_one]; exact fct) shut ?_
  intro ⟨i, p, c⟩ hi
  dsimp only at *
  have hle : m0 / 256 ^ i ≤ m0 := Nat.div_le_self _ _
  obtain ⟨m, hm⟩ : ∃ m, m = m0 / 256 ^ i := ⟨_, rfl⟩
  rw [← hm] at hle ⊢
  have hll := leb_length m0 i
  (repeat (first | refine g ?_))
  refine run_cond_dec rfl ?_ ?_
  · intro h
    (repeat (first | refine g ?_))
    refine s_built fun r1 => ?_
    (repeat (first | refine g ?_))
    refine s_app 1 1 (reads_own At.head rfl) (hxl := by rw [bv_length, Nat.mul_one]) fun r2 => ?_
    have e : bv (leb m0 i) ++ [Value.int .u8 ((m : Int) % 256 % 256)] = bv (leb m0 (i + 1)) := by
      rw [leb_succ, bv_append, ← hm, show (m : Int) % 256 % 256 = ((UInt8.ofNat (m % 256)).toNat : Int) by rw [UInt8.toNat_ofNat', Nat.mod_eq_of_lt (Nat.mod_lt _ (by decide))]; omega]; rfl
    refine s_eq e ?_
    have el : (leb m0 i).length + 1 = (leb m0 (i + 1)).length := by rw [leb_length, leb_length]
    rw [el]
    (repeat (first | refine g ?_))
    have e2 : (m : Int) / 256 = ((m0 / 256 ^ (i + 1) : Nat) : Int) := by
      rw [Nat.pow_succ, ← Nat.div_div_eq_div_mul, ← hm]; omega
    refine run_stop_loop (i + 1, r2) ?_ fct shut
    exact ⟨by dsimp only; omega, by dsimp only; omega⟩
  · intro h
    obtain rfl : i = w := by omega
    have hq : ((m0 : Nat) : Int) / 2 ^ (8 * i) = (m : Int) := by
      rw [show ((m0 : Nat) : Int) / 2 ^ (8 * i) = ((m0 / 2 ^ (8 * i) : Nat) : Int) by rw [Int.natCast_ediv, Int.natCast_pow]; rfl, Nat.pow_mul, hm]
    by_cases hm0 : m = 0
    · subst hm0
      rw [if_neg (by rw [hq]; rintro (h | h); omega; exact h rfl), Int.toNat_natCast]
      (repeat (first | refine g ?_))
      refine s_string ?_
      (repeat (first | refine g ?_))
      exact run_ret rfl (imp_RD rfl shut)
    · rw [if_pos (.inr (by rw [hq]; omega))]
      (repeat (first | refine g ?_))
      exact run_ret rfl (imp_RD rfl shut)
def iP (P : List (Int × Nat)) : List Value := P.map fun x => .int .i64 x.1
def wP (P : List (Int × Nat)) : List Value := P.map fun x => .int .i64 (x.2 : Int)
def laidF (P : List (Int × Nat)) : ByteArray × Bool := if P.all okN = true then (bl (numsL P), true) else (⟨#[]⟩, false)
theorem laid_spec (q : View) (r w : Nat) (P : List (Int × Nat)) (hP : ∀ x ∈ P, 1 ≤ x.2 ∧ x.2 ≤ 6 ∧ x.1 ≤ 9223372036854775807) (hl : P.length ≤ 1000) :
    FnD Try.prog q 44 [.slice (some ⟨r, 0, none⟩) P.length P.length, .slice (some ⟨w, 0, none⟩) P.length P.length] [cells r 3 ⟨iP P⟩, cells w 3 ⟨wP P⟩]
      (.tuple #[.string (laidF P).1, .bool (laidF P).2]) [] := by
  have hi0 : (iP P).length = P.length := List.length_map ..
  have hw0 : (wP P).length = P.length := List.length_map ..
  (first | refine FnD.go Try.call44 Try.func44 rfl rfl rfl ?_ | refine FnX.go Try.call44 Try.func44 rfl rfl rfl ?_)
  (repeat (first | refine g ?_ | refine s_flat 5 [(.pure, [0, 1, 2, 4, 5, 6]), (.mem true, [3, 7]), (.mem false, [8]), (.pure, [9, 10, 11, 12, 13])] ?_))
  refine run_loopI (X := Nat) (fun i => i ≤ P.length ∧ (P.take i).all okN = true) (fun i => [(0, .slice (some ⟨r, 0, none⟩) P.length P.length), (1, .slice (some ⟨w, 0, none⟩) P.length P.length), (6, .string (bl (numsL (P.take i)))), (7, .int .i64 (i : Int))])
    (fun _ => [cells r 3 ⟨iP P⟩, cells w 3 ⟨wP P⟩]) (fun i => P.length - i) 0 ⟨Nat.zero_le _, rfl⟩ fct shut ?_
  intro i ⟨hi, hok⟩
  have hz : (bl (numsL (P.take i))).size ≤ 6 * i := by
    show (numsL (P.take i)).toArray.size ≤ _
    rw [List.size_toArray, numsL_len]
    have : ∀ l : List (Int × Nat), (∀ x ∈ l, x.2 ≤ 6) → (l.map (·.2)).sum ≤ 6 * l.length := by
      intro l
      induction l with
      | nil => intro _; simp
      | cons x l ih =>
        intro h
        have := ih (fun y hy => h y (List.mem_cons_of_mem _ hy))
        have := h x List.mem_cons_self
        simp only [List.map_cons, List.sum_cons, List.length_cons]; omega
    have := this (P.take i) (fun x hx => (hP x (List.mem_of_mem_take hx)).2.1)
    rw [List.length_take] at this; omega
  (repeat (first | refine g ?_ | refine s_flat 5 [(.pure, [0, 1, 2, 4, 5, 6]), (.mem true, [3, 7]), (.mem false, [8]), (.pure, [9, 10, 11, 12, 13])] ?_))
  refine run_cond_dec rfl ?_ ?_
  · intro h
    have hiP : i < P.length := by omega
    obtain ⟨x, hx⟩ : ∃ x, P[i]? = some x := ⟨_, List.getElem?_eq_getElem hiP⟩
    have hxP := hP x (List.mem_of_getElem? hx)
    have hx1 : (iP P)[i]? = some (.int .i64 x.1) := by unfold iP; rw [List.getElem?_map, hx]; rfl
    have hx2 : (wP P)[i]? = some (.int .i64 (x.2 : Int)) := by unfold wP; rw [List.getElem?_map, hx]; rfl
    have cp := refPutI_spec q x.1 x.2 hxP.1 hxP.2.1 hxP.2.2
    have htk : P.take (i + 1) = P.take i ++ [x] := by rw [List.take_add_one, hx]; rfl
    (repeat (first | refine g ?_ | refine s_flat 5 [(.pure, [0, 1, 2, 4, 5, 6]), (.mem true, [3, 7]), (.mem false, [8]), (.pure, [9, 10, 11, 12, 13])] ?_))
    refine s_loadat hx1 ?_
    (repeat (first | refine g ?_ | refine s_flat 5 [(.pure, [0, 1, 2, 4, 5, 6]), (.mem true, [3, 7]), (.mem false, [8]), (.pure, [9, 10, 11, 12, 13])] ?_))
    refine s_loadat hx2 ?_
    (repeat (first | refine g ?_ | refine s_flat 5 [(.pure, [0, 1, 2, 4, 5, 6]), (.mem true, [3, 7]), (.mem false, [8]), (.pure, [9, 10, 11, 12, 13])] ?_))
    refine s_call cp ?_
    (repeat (first | refine g ?_ | refine s_flat 5 [(.pure, [0, 1, 2, 4, 5, 6]), (.mem true, [3, 7]), (.mem false, [8]), (.pure, [9, 10, 11, 12, 13])] ?_))
    cases hox : okN x with
    | true =>
      have e1 := putF_ok x hox hxP.1 hxP.2.1
      rw [e1]
      dsimp only
      have z2 : (bl (leb x.1.toNat x.2)).size = x.2 := by show (leb x.1.toNat x.2).toArray.size = _; rw [List.size_toArray, leb_length]
      have e2 : bl (numsL (P.take i)) ++ bl (leb x.1.toNat x.2) = bl (numsL (P.take (i + 1))) := by
        rw [htk]
        unfold numsL bl
        exact ByteArray.ext (by simp)
      (repeat (first | refine g ?_ | refine s_flat 5 [(.pure, [0, 1, 2, 4, 5, 6]), (.mem true, [3, 7]), (.mem false, [8]), (.pure, [9, 10, 11, 12, 13])] ?_))
      rw [e2]
      exact run_stop_loop (i + 1) ⟨⟨by omega, by rw [htk, List.all_append, hok]; simp [hox]⟩, by omega⟩ fct shut
    | false =>
      have e1 : V.putF x.1 x.2 = (⟨#[]⟩, 2) := by
        have hd := of_decide_eq_false hox
        unfold V.putF
        rw [if_neg (by omega), if_pos (by
          rw [Int.toNat_natCast]
          by_cases h1 : x.1 < 0
          · exact .inl h1
          · exact .inr (fun h2 => hd ⟨by omega, h2⟩))]
      rw [e1]
      dsimp only
      have hall : P.all okN = false := by
        rw [List.all_eq_false]
        exact ⟨x, List.mem_of_getElem? hx, by rw [hox]; decide⟩
      unfold laidF
      rw [if_neg (by rw [hall]; decide)]
      (repeat (first | refine g ?_ | refine s_flat 5 [(.pure, [0, 1, 2, 4, 5, 6]), (.mem true, [3, 7]), (.mem false, [8]), (.pure, [9, 10, 11, 12, 13])] ?_))
      exact run_ret rfl (imp_RD rfl shut)
  · intro h
    obtain rfl : i = P.length := by omega
    rw [List.take_length] at hok
    unfold laidF
    rw [if_pos hok, List.take_length]
    (repeat (first | refine g ?_ | refine s_flat 5 [(.pure, [0, 1, 2, 4, 5, 6]), (.mem true, [3, 7]), (.mem false, [8]), (.pure, [9, 10, 11, 12, 13])] ?_))
    exact run_ret rfl (imp_RD rfl shut)
def wHd : List Value := [.int .i64 6, .int .i64 4, .int .i64 2, .int .i64 4, .int .i64 4, .int .i64 4, .int .i64 6, .int .i64 6]
theorem widths_spec (q : View) : FnX Try.prog q 45 [] [] (fun r : Nat => .slice (some ⟨r, 0, none⟩) 8 8) fun r => [cells r 3 ⟨wHd⟩] := by
  (first | refine FnD.go Try.call45 Try.func45 rfl rfl rfl ?_ | refine FnX.go Try.call45 Try.func45 rfl rfl rfl ?_)
  (repeat (first | refine g ?_))
  refine s_built fun r => ?_
  (repeat (first | refine g ?_))
  exact run_ret rfl (imp_RX r rfl shut)
end Go.Proofs.Ytajndpddlpnbkaa.V
namespace Go.Proofs.Ytajndpddlpnbkaa.V
open Go.Proofs.Ytajndpddlpnbkaa.VL Go.Proofs.Ytajndpddlpnbkaa.VL.RD Go.Proofs.Ytajndpddlpnbkaa.VL.Sha
attribute [local irreducible] Run numB
theorem rhead_spec (q : View) (h : HeadT) (hh : HeadOk h) : FnD Try.prog q 24 [.agg ⟨encH h⟩] [] (.tuple #[.string (headF h).1, .int .i64 (headF h).2]) [] := by
  have cl := fun r w => laid_spec q r w (fldH h) (by
    obtain ⟨v0, v1, a0, a1, k0, k1, i0, i1, g0, g1, x0, x1, r0, r1, s0, s1⟩ := hh
    intro x hx
    unfold fldH at hx
    simp only [List.mem_cons, List.not_mem_nil, or_false] at hx
    rcases hx with rfl | rfl | rfl | rfl | rfl | rfl | rfl | rfl <;> exact ⟨Nat.le_of_ble_eq_true rfl, Nat.le_of_ble_eq_true rfl, by assumption⟩) (by show 8 ≤ 1000; decide)
  have cl : ∀ r w, FnD Try.prog q 44 [.slice (some ⟨r, 0, none⟩) 8 8, .slice (some ⟨w, 0, none⟩) 8 8] [cells r 3 ⟨encH h⟩, cells w 3 ⟨wHd⟩] (.tuple #[.string (laidF (fldH h)).1, .bool (laidF (fldH h)).2]) [] := cl
  unfold encH at cl ⊢
  (first | refine FnD.go Try.call24 Try.func24 rfl rfl rfl ?_ | refine FnX.go Try.call24 Try.func24 rfl rfl rfl ?_)
  (repeat (first | refine g ?_))
  refine s_box fun b => ?_
  (repeat (first | refine g ?_))
  refine d_start [] ?_
  (first | refine d_pure 0 ?_ | refine d_load 0 ?_ | refine d_arith 0 ?_ | refine d_rem 0 ?_ | refine d_quo 0 ?_ | refine d_shrv 0 ?_ | refine d_fieldat 0 ?_ | refine d_idx1 0 ?_ | refine d_index 0 ?_ | refine d_conv64 0 ?_ | refine d_slices 0 ?_ | refine d_concat 0 ?_ | refine d_build 0 ?_)
  (first | refine d_pure 1 ?_ | refine d_load 1 ?_ | refine d_arith 1 ?_ | refine d_rem 1 ?_ | refine d_quo 1 ?_ | refine d_shrv 1 ?_ | refine d_fieldat 1 ?_ | refine d_idx1 1 ?_ | refine d_index 1 ?_ | refine d_conv64 1 ?_ | refine d_slices 1 ?_ | refine d_concat 1 ?_ | refine d_build 1 ?_)
  (first | refine d_pure 2 ?_ | refine d_load 2 ?_ | refine d_arith 2 ?_ | refine d_rem 2 ?_ | refine d_quo 2 ?_ | refine d_shrv 2 ?_ | refine d_fieldat 2 ?_ | refine d_idx1 2 ?_ | refine d_index 2 ?_ | refine d_conv64 2 ?_ | refine d_slices 2 ?_ | refine d_concat 2 ?_ | refine d_build 2 ?_)
  (first | refine d_pure 3 ?_ | refine d_load 3 ?_ | refine d_arith 3 ?_ | refine d_rem 3 ?_ | refine d_quo 3 ?_ | refine d_shrv 3 ?_ | refine d_fieldat 3 ?_ | refine d_idx1 3 ?_ | refine d_index 3 ?_ | refine d_conv64 3 ?_ | refine d_slices 3 ?_ | refine d_concat 3 ?_ | refine d_build 3 ?_)
  (first | refine d_pure 4 ?_ | refine d_load 4 ?_ | refine d_arith 4 ?_ | refine d_rem 4 ?_ | refine d_quo 4 ?_ | refine d_shrv 4 ?_ | refine d_fieldat 4 ?_ | refine d_idx1 4 ?_ | refine d_index 4 ?_ | refine d_conv64 4 ?_ | refine d_slices 4 ?_ | refine d_concat 4 ?_ | refine d_build 4 ?_)
  (first | refine d_pure 5 ?_ | refine d_load 5 ?_ | refine d_arith 5 ?_ | refine d_rem 5 ?_ | refine d_quo 5 ?_ | refine d_shrv 5 ?_ | refine d_fieldat 5 ?_ | refine d_idx1 5 ?_ | refine d_index 5 ?_ | refine d_conv64 5 ?_ | refine d_slices 5 ?_ | refine d_concat 5 ?_ | refine d_build 5 ?_)
  (first | refine d_pure 6 ?_ | refine d_load 6 ?_ | refine d_arith 6 ?_ | refine d_rem 6 ?_ | refine d_quo 6 ?_ | refine d_shrv 6 ?_ | refine d_fieldat 6 ?_ | refine d_idx1 6 ?_ | refine d_index 6 ?_ | refine d_conv64 6 ?_ | refine d_slices 6 ?_ | refine d_concat 6 ?_ | refine d_build 6 ?_)
  (first | refine d_pure 7 ?_ | refine d_load 7 ?_ | refine d_arith 7 ?_ | refine d_rem 7 ?_ | refine d_quo 7 ?_ | refine d_shrv 7 ?_ | refine d_fieldat 7 ?_ | refine d_idx1 7 ?_ | refine d_index 7 ?_ | refine d_conv64 7 ?_ | refine d_slices 7 ?_ | refine d_concat 7 ?_ | refine d_build 7 ?_)
  (first | refine d_pure 8 ?_ | refine d_load 8 ?_ | refine d_arith 8 ?_ | refine d_rem 8 ?_ | refine d_quo 8 ?_ | refine d_shrv 8 ?_ | refine d_fieldat 8 ?_ | refine d_idx1 8 ?_ | refine d_index 8 ?_ | refine d_conv64 8 ?_ | refine d_slices 8 ?_ | refine d_concat 8 ?_ | refine d_build 8 ?_)
  (first | refine d_pure 9 ?_ | refine d_load 9 ?_ | refine d_arith 9 ?_ | refine d_rem 9 ?_ | refine d_quo 9 ?_ | refine d_shrv 9 ?_ | refine d_fieldat 9 ?_ | refine d_idx1 9 ?_ | refine d_index 9 ?_ | refine d_conv64 9 ?_ | refine d_slices 9 ?_ | refine d_concat 9 ?_ | refine d_build 9 ?_)
  (first | refine d_pure 10 ?_ | refine d_load 10 ?_ | refine d_arith 10 ?_ | refine d_rem 10 ?_ | refine d_quo 10 ?_ | refine d_shrv 10 ?_ | refine d_fieldat 10 ?_ | refine d_idx1 10 ?_ | refine d_index 10 ?_ | refine d_conv64 10 ?_ | refine d_slices 10 ?_ | refine d_concat 10 ?_ | refine d_build 10 ?_)
  (first | refine d_pure 11 ?_ | refine d_load 11 ?_ | refine d_arith 11 ?_ | refine d_rem 11 ?_ | refine d_quo 11 ?_ | refine d_shrv 11 ?_ | refine d_fieldat 11 ?_ | refine d_idx1 11 ?_ | refine d_index 11 ?_ | refine d_conv64 11 ?_ | refine d_slices 11 ?_ | refine d_concat 11 ?_ | refine d_build 11 ?_)
  (first | refine d_pure 12 ?_ | refine d_load 12 ?_ | refine d_arith 12 ?_ | refine d_rem 12 ?_ | refine d_quo 12 ?_ | refine d_shrv 12 ?_ | refine d_fieldat 12 ?_ | refine d_idx1 12 ?_ | refine d_index 12 ?_ | refine d_conv64 12 ?_ | refine d_slices 12 ?_ | refine d_concat 12 ?_ | refine d_build 12 ?_)
  (first | refine d_pure 13 ?_ | refine d_load 13 ?_ | refine d_arith 13 ?_ | refine d_rem 13 ?_ | refine d_quo 13 ?_ | refine d_shrv 13 ?_ | refine d_fieldat 13 ?_ | refine d_idx1 13 ?_ | refine d_index 13 ?_ | refine d_conv64 13 ?_ | refine d_slices 13 ?_ | refine d_concat 13 ?_ | refine d_build 13 ?_)
  (first | refine d_pure 14 ?_ | refine d_load 14 ?_ | refine d_arith 14 ?_ | refine d_rem 14 ?_ | refine d_quo 14 ?_ | refine d_shrv 14 ?_ | refine d_fieldat 14 ?_ | refine d_idx1 14 ?_ | refine d_index 14 ?_ | refine d_conv64 14 ?_ | refine d_slices 14 ?_ | refine d_concat 14 ?_ | refine d_build 14 ?_)
  (first | refine d_pure 15 ?_ | refine d_load 15 ?_ | refine d_arith 15 ?_ | refine d_rem 15 ?_ | refine d_quo 15 ?_ | refine d_shrv 15 ?_ | refine d_fieldat 15 ?_ | refine d_idx1 15 ?_ | refine d_index 15 ?_ | refine d_conv64 15 ?_ | refine d_slices 15 ?_ | refine d_concat 15 ?_ | refine d_build 15 ?_)
  refine d_two 16 17 ?_ ?_
  · refine d_ovia 16 (X := Nat) (h1 := by refine s_built fun r => ?_; exact run_fin r) (h := fun r1 => ?_)
    refine d_via 17 (X := Nat) (h1 := by refine s_callx (widths_spec q) fun r => ?_; exact run_fin r) (h := fun w1 => ?_)
    refine d_via1 18 (h1 := by refine s_call (cl r1 w1) ?_; exact run_fin1) (h := ?_)
    (first | refine d_pure 19 ?_ | refine d_load 19 ?_ | refine d_arith 19 ?_ | refine d_rem 19 ?_ | refine d_quo 19 ?_ | refine d_shrv 19 ?_ | refine d_fieldat 19 ?_ | refine d_idx1 19 ?_ | refine d_index 19 ?_ | refine d_conv64 19 ?_ | refine d_slices 19 ?_ | refine d_concat 19 ?_ | refine d_build 19 ?_)
    (first | refine d_pure 20 ?_ | refine d_load 20 ?_ | refine d_arith 20 ?_ | refine d_rem 20 ?_ | refine d_quo 20 ?_ | refine d_shrv 20 ?_ | refine d_fieldat 20 ?_ | refine d_idx1 20 ?_ | refine d_index 20 ?_ | refine d_conv64 20 ?_ | refine d_slices 20 ?_ | refine d_concat 20 ?_ | refine d_build 20 ?_)
    (first | refine d_pure 21 ?_ | refine d_load 21 ?_ | refine d_arith 21 ?_ | refine d_rem 21 ?_ | refine d_quo 21 ?_ | refine d_shrv 21 ?_ | refine d_fieldat 21 ?_ | refine d_idx1 21 ?_ | refine d_index 21 ?_ | refine d_conv64 21 ?_ | refine d_slices 21 ?_ | refine d_concat 21 ?_ | refine d_build 21 ?_)
    (first | refine d_pure 22 ?_ | refine d_load 22 ?_ | refine d_arith 22 ?_ | refine d_rem 22 ?_ | refine d_quo 22 ?_ | refine d_shrv 22 ?_ | refine d_fieldat 22 ?_ | refine d_idx1 22 ?_ | refine d_index 22 ?_ | refine d_conv64 22 ?_ | refine d_slices 22 ?_ | refine d_concat 22 ?_ | refine d_build 22 ?_)
    (first | refine d_pure 23 ?_ | refine d_load 23 ?_ | refine d_arith 23 ?_ | refine d_rem 23 ?_ | refine d_quo 23 ?_ | refine d_shrv 23 ?_ | refine d_fieldat 23 ?_ | refine d_idx1 23 ?_ | refine d_index 23 ?_ | refine d_conv64 23 ?_ | refine d_slices 23 ?_ | refine d_concat 23 ?_ | refine d_build 23 ?_)
    refine d_done ?_
    cases hok : (fldH h).all okN with
    | false =>
      unfold laidF headF
      rw [hok, if_neg (by decide), if_neg (by decide)]
      (repeat (first | refine g ?_))
      exact run_ret rfl (imp_RD rfl shut)
    | true =>
      unfold laidF headF
      rw [hok, if_pos rfl, if_pos rfl]
      dsimp only
      have z0 : (⟨#[71, 82, 80, 78]⟩ : ByteArray).size = 4 := rfl
      have z1 : (bl (numsL (fldH h))).size = 36 := by show (numsL (fldH h)).toArray.size = 36; rw [List.size_toArray, numsL_len]; rfl
      have z2 : ((⟨#[71, 82, 80, 78]⟩ : ByteArray) ++ bl (numsL (fldH h))).size = 40 := by rw [ByteArray.size_append]; omega
      have z3 := bl0_size 8
      have e1 : (⟨#[71, 82, 80, 78]⟩ : ByteArray) ++ bl (numsL (fldH h)) ++ bl (List.replicate 8 0) = bl (headL h) := by
        unfold headL bl
        exact ByteArray.ext (by simp [magicL])
      have cn : FnD Try.prog q 46 [.int .i64 8] [] (.string (bl (List.replicate 8 0))) [] := noughts_spec q 8 (by decide)
      obtain ⟨Z, hZ⟩ : ∃ Z, Z = bl (List.replicate 8 0) := ⟨_, rfl⟩
      rw [← hZ] at cn e1 z3
      (repeat (first | refine g ?_))
      refine s_call cn ?_
      (repeat (first | refine g ?_))
      rw [e1]
      exact run_ret rfl (imp_RD rfl shut)
  · refine d_ovia 17 (X := Nat) (h1 := by refine s_callx (widths_spec q) fun r => ?_; exact run_fin r) (h := fun w1 => ?_)
    refine d_via 16 (X := Nat) (h1 := by refine s_built fun r => ?_; exact run_fin r) (h := fun r1 => ?_)
    refine d_via1 18 (h1 := by refine s_call (cl r1 w1) ?_; exact run_fin1) (h := ?_)
    (first | refine d_pure 19 ?_ | refine d_load 19 ?_ | refine d_arith 19 ?_ | refine d_rem 19 ?_ | refine d_quo 19 ?_ | refine d_shrv 19 ?_ | refine d_fieldat 19 ?_ | refine d_idx1 19 ?_ | refine d_index 19 ?_ | refine d_conv64 19 ?_ | refine d_slices 19 ?_ | refine d_concat 19 ?_ | refine d_build 19 ?_)
    (first | refine d_pure 20 ?_ | refine d_load 20 ?_ | refine d_arith 20 ?_ | refine d_rem 20 ?_ | refine d_quo 20 ?_ | refine d_shrv 20 ?_ | refine d_fieldat 20 ?_ | refine d_idx1 20 ?_ | refine d_index 20 ?_ | refine d_conv64 20 ?_ | refine d_slices 20 ?_ | refine d_concat 20 ?_ | refine d_build 20 ?_)
    (first | refine d_pure 21 ?_ | refine d_load 21 ?_ | refine d_arith 21 ?_ | refine d_rem 21 ?_ | refine d_quo 21 ?_ | refine d_shrv 21 ?_ | refine d_fieldat 21 ?_ | refine d_idx1 21 ?_ | refine d_index 21 ?_ | refine d_conv64 21 ?_ | refine d_slices 21 ?_ | refine d_concat 21 ?_ | refine d_build 21 ?_)
    (first | refine d_pure 22 ?_ | refine d_load 22 ?_ | refine d_arith 22 ?_ | refine d_rem 22 ?_ | refine d_quo 22 ?_ | refine d_shrv 22 ?_ | refine d_fieldat 22 ?_ | refine d_idx1 22 ?_ | refine d_index 22 ?_ | refine d_conv64 22 ?_ | refine d_slices 22 ?_ | refine d_concat 22 ?_ | refine d_build 22 ?_)
    (first | refine d_pure 23 ?_ | refine d_load 23 ?_ | refine d_arith 23 ?_ | refine d_rem 23 ?_ | refine d_quo 23 ?_ | refine d_shrv 23 ?_ | refine d_fieldat 23 ?_ | refine d_idx1 23 ?_ | refine d_index 23 ?_ | refine d_conv64 23 ?_ | refine d_slices 23 ?_ | refine d_concat 23 ?_ | refine d_build 23 ?_)
    refine d_done ?_
    cases hok : (fldH h).all okN with
    | false =>
      unfold laidF headF
      rw [hok, if_neg (by decide), if_neg (by decide)]
      (repeat (first | refine g ?_))
      exact run_ret rfl (imp_RD rfl shut)
    | true =>
      unfold laidF headF
      rw [hok, if_pos rfl, if_pos rfl]
      dsimp only
      have z0 : (⟨#[71, 82, 80, 78]⟩ : ByteArray).size = 4 := rfl
      have z1 : (bl (numsL (fldH h))).size = 36 := by show (numsL (fldH h)).toArray.size = 36; rw [List.size_toArray, numsL_len]; rfl
      have z2 : ((⟨#[71, 82, 80, 78]⟩ : ByteArray) ++ bl (numsL (fldH h))).size = 40 := by rw [ByteArray.size_append]; omega
      have z3 := bl0_size 8
      have e1 : (⟨#[71, 82, 80, 78]⟩ : ByteArray) ++ bl (numsL (fldH h)) ++ bl (List.replicate 8 0) = bl (headL h) := by
        unfold headL bl
        exact ByteArray.ext (by simp [magicL])
      have cn : FnD Try.prog q 46 [.int .i64 8] [] (.string (bl (List.replicate 8 0))) [] := noughts_spec q 8 (by decide)
      obtain ⟨Z, hZ⟩ : ∃ Z, Z = bl (List.replicate 8 0) := ⟨_, rfl⟩
      rw [← hZ] at cn e1 z3
      (repeat (first | refine g ?_))
      refine s_call cn ?_
      (repeat (first | refine g ?_))
      rw [e1]
      exact run_ret rfl (imp_RD rfl shut)
end Go.Proofs.Ytajndpddlpnbkaa.V
namespace Go.Proofs.Ytajndpddlpnbkaa.V
open Go.Proofs.Ytajndpddlpnbkaa.VL Go.Proofs.Ytajndpddlpnbkaa.VL.RD Go.Proofs.Ytajndpddlpnbkaa.VL.Sha
attribute [local irreducible] Run numB
theorem rnonce_spec (q : View) (h : HeadT) (ha : okN (h.addr, 4) = true) (hv : okN (h.ver, 6) = true) (a1 : h.addr ≤ 9223372036854775807) (r1 : h.ver ≤ 9223372036854775807) :
    FnD Try.prog q 26 [.agg ⟨encH h⟩] [] (.string (nonceB h)) [] := by
  have c1 := refPutI_spec q h.addr 4 (by decide) (by decide) a1
  have e1 := putF_ok (h.addr, 4) ha (by show 1 ≤ 4; decide) (by show 4 ≤ 6; decide)
  dsimp only at e1
  rw [e1] at c1
  rw [show ((4 : Nat) : Int) = 4 from rfl] at c1
  have c2 := refPutI_spec q h.ver 6 (by decide) (by decide) r1
  have e2 := putF_ok (h.ver, 6) hv (by show 1 ≤ 6; decide) (by show 6 ≤ 6; decide)
  dsimp only at e2
  rw [e2] at c2
  rw [show ((6 : Nat) : Int) = 6 from rfl] at c2
  have e3 : (bl (leb h.addr.toNat 4) ++ bl (leb h.ver.toNat 6)) ++ bl (List.replicate 2 0) = nonceB h := by
    unfold nonceB bl
    exact ByteArray.ext (by simp)
  have z1 : (bl (leb h.addr.toNat 4)).size = 4 := by show (leb h.addr.toNat 4).toArray.size = 4; rw [List.size_toArray, leb_length]
  have z2 : (bl (leb h.ver.toNat 6)).size = 6 := by show (leb h.ver.toNat 6).toArray.size = 6; rw [List.size_toArray, leb_length]
  have z3 := bl0_size 2
  have cn : FnD Try.prog q 46 [.int .i64 2] [] (.string (bl (List.replicate 2 0))) [] := noughts_spec q 2 (by decide)
  obtain ⟨X, hX⟩ : ∃ X, X = bl (leb h.addr.toNat 4) := ⟨_, rfl⟩
  obtain ⟨Y, hY⟩ : ∃ Y, Y = bl (leb h.ver.toNat 6) := ⟨_, rfl⟩
  obtain ⟨Z, hZ⟩ : ∃ Z, Z = bl (List.replicate 2 0) := ⟨_, rfl⟩
  rw [← hX] at z1
  rw [← hY] at z2
  rw [← hZ] at cn e3 z3
  have z4 : (X ++ Y).size = 10 := by rw [ByteArray.size_append]; omega
  rw [← hX] at c1 e3
  rw [← hY] at c2 e3
  unfold encH
  dsimp only at c1 c2
  (first | refine FnD.go Try.call26 Try.func26 rfl rfl rfl ?_ | refine FnX.go Try.call26 Try.func26 rfl rfl rfl ?_)
  (repeat (first | refine g ?_))
  refine s_box fun b => ?_
  (repeat (first | refine g ?_))
  refine s_call c1 ?_
  (repeat (first | refine g ?_))
  refine s_call c2 ?_
  (repeat (first | refine g ?_))
  refine s_call cn ?_
  (repeat (first | refine g ?_))
  rw [e3]
  exact run_ret rfl (imp_RD rfl shut)
theorem rbseal_no (q : View) (v : Value) (V : HProp) (h : HeadT) (hh : HeadOk h) (body : ByteArray) (hz : body.size = 448) (hok : (fldH h).all okN = false) :
    FnD Try.prog q 14 [v, .agg ⟨encH h⟩, .string body] [V] (.tuple #[.string ⟨#[]⟩, .int .i64 2]) [V] := by
  have ch := rhead_spec q h hh
  unfold headF at ch
  rw [if_neg (by rw [hok]; decide)] at ch
  (first | refine FnD.go Try.call14 Try.func14 rfl rfl rfl ?_ | refine FnX.go Try.call14 Try.func14 rfl rfl rfl ?_)
  (repeat (first | refine g ?_))
  refine s_box fun b => ?_
  (repeat (first | refine g ?_))
  refine s_call ch ?_
  (repeat (first | refine g ?_))
  exact run_ret rfl (imp_RD rfl shut)
theorem rbseal_call (q : View) (v : Value) (V V' : HProp) (h : HeadT) (hh : HeadOk h) (body : ByteArray) (hz : body.size = 448) (hok : (fldH h).all okN = true) (F : ByteArray) (e : Int) (hF : F.size ≤ 1000000)
    (hc : FnD Try.prog q 25 [v, .int .i64 h.salt, .string (nonceB h), .string (bl (headL h)), .string body] [V] (.tuple #[.string F, .int .i64 e]) [V']) :
    FnD Try.prog q 14 [v, .agg ⟨encH h⟩, .string body] [V] (.tuple #[.string (if e = 0 then bl (headL h) ++ F else ⟨#[]⟩), .int .i64 e]) [V'] := by
  have ch := rhead_spec q h hh
  unfold headF at ch
  rw [if_pos hok] at ch
  have cn := rnonce_spec q h (ok_nonce hok).1 (ok_nonce hok).2 hh.a1 hh.r1
  have zH := headL_size h
  obtain ⟨H, hH⟩ : ∃ H, H = bl (headL h) := ⟨_, rfl⟩
  rw [← hH] at ch hc zH ⊢
  dsimp only at ch
  (first | refine FnD.go Try.call14 Try.func14 rfl rfl rfl ?_ | refine FnX.go Try.call14 Try.func14 rfl rfl rfl ?_)
  (repeat (first | refine g ?_))
  refine s_box fun b => ?_
  (repeat (first | refine g ?_))
  refine s_call ch ?_
  (repeat (first | refine g ?_))
  refine d_start [V] ?_
  (first | refine d_pure 0 ?_ | refine d_load 0 ?_ | refine d_arith 0 ?_ | refine d_rem 0 ?_ | refine d_quo 0 ?_ | refine d_shrv 0 ?_ | refine d_fieldat 0 ?_ | refine d_idx1 0 ?_ | refine d_index 0 ?_ | refine d_conv64 0 ?_ | refine d_slices 0 ?_ | refine d_concat 0 ?_ | refine d_build 0 ?_)
  (first | refine d_pure 1 ?_ | refine d_load 1 ?_ | refine d_arith 1 ?_ | refine d_rem 1 ?_ | refine d_quo 1 ?_ | refine d_shrv 1 ?_ | refine d_fieldat 1 ?_ | refine d_idx1 1 ?_ | refine d_index 1 ?_ | refine d_conv64 1 ?_ | refine d_slices 1 ?_ | refine d_concat 1 ?_ | refine d_build 1 ?_)
  (first | refine d_pure 2 ?_ | refine d_load 2 ?_ | refine d_arith 2 ?_ | refine d_rem 2 ?_ | refine d_quo 2 ?_ | refine d_shrv 2 ?_ | refine d_fieldat 2 ?_ | refine d_idx1 2 ?_ | refine d_index 2 ?_ | refine d_conv64 2 ?_ | refine d_slices 2 ?_ | refine d_concat 2 ?_ | refine d_build 2 ?_)
  refine d_getall 3 rfl ?_
  (first | refine d_pure 5 ?_ | refine d_load 5 ?_ | refine d_arith 5 ?_ | refine d_rem 5 ?_ | refine d_quo 5 ?_ | refine d_shrv 5 ?_ | refine d_fieldat 5 ?_ | refine d_idx1 5 ?_ | refine d_index 5 ?_ | refine d_conv64 5 ?_ | refine d_slices 5 ?_ | refine d_concat 5 ?_ | refine d_build 5 ?_)
  (first | refine d_pure 6 ?_ | refine d_load 6 ?_ | refine d_arith 6 ?_ | refine d_rem 6 ?_ | refine d_quo 6 ?_ | refine d_shrv 6 ?_ | refine d_fieldat 6 ?_ | refine d_idx1 6 ?_ | refine d_index 6 ?_ | refine d_conv64 6 ?_ | refine d_slices 6 ?_ | refine d_concat 6 ?_ | refine d_build 6 ?_)
  refine d_call 4 cn ?_
  refine d_call 7 hc ?_
  (first | refine d_pure 8 ?_ | refine d_load 8 ?_ | refine d_arith 8 ?_ | refine d_rem 8 ?_ | refine d_quo 8 ?_ | refine d_shrv 8 ?_ | refine d_fieldat 8 ?_ | refine d_idx1 8 ?_ | refine d_index 8 ?_ | refine d_conv64 8 ?_ | refine d_slices 8 ?_ | refine d_concat 8 ?_ | refine d_build 8 ?_)
  (first | refine d_pure 9 ?_ | refine d_load 9 ?_ | refine d_arith 9 ?_ | refine d_rem 9 ?_ | refine d_quo 9 ?_ | refine d_shrv 9 ?_ | refine d_fieldat 9 ?_ | refine d_idx1 9 ?_ | refine d_index 9 ?_ | refine d_conv64 9 ?_ | refine d_slices 9 ?_ | refine d_concat 9 ?_ | refine d_build 9 ?_)
  (first | refine d_pure 10 ?_ | refine d_load 10 ?_ | refine d_arith 10 ?_ | refine d_rem 10 ?_ | refine d_quo 10 ?_ | refine d_shrv 10 ?_ | refine d_fieldat 10 ?_ | refine d_idx1 10 ?_ | refine d_index 10 ?_ | refine d_conv64 10 ?_ | refine d_slices 10 ?_ | refine d_concat 10 ?_ | refine d_build 10 ?_)
  (first | refine d_pure 11 ?_ | refine d_load 11 ?_ | refine d_arith 11 ?_ | refine d_rem 11 ?_ | refine d_quo 11 ?_ | refine d_shrv 11 ?_ | refine d_fieldat 11 ?_ | refine d_idx1 11 ?_ | refine d_index 11 ?_ | refine d_conv64 11 ?_ | refine d_slices 11 ?_ | refine d_concat 11 ?_ | refine d_build 11 ?_)
  (first | refine d_pure 12 ?_ | refine d_load 12 ?_ | refine d_arith 12 ?_ | refine d_rem 12 ?_ | refine d_quo 12 ?_ | refine d_shrv 12 ?_ | refine d_fieldat 12 ?_ | refine d_idx1 12 ?_ | refine d_index 12 ?_ | refine d_conv64 12 ?_ | refine d_slices 12 ?_ | refine d_concat 12 ?_ | refine d_build 12 ?_)
  refine d_done ?_
  by_cases he : e = 0
  · subst he
    rw [if_pos rfl]
    (repeat (first | refine g ?_))
    exact run_ret rfl (imp_RD rfl shut)
  · rw [if_neg he]
    (repeat (first | refine g ?_))
    exact run_ret rfl (imp_RD rfl shut)
end Go.Proofs.Ytajndpddlpnbkaa.V
namespace Go.Proofs.Ytajndpddlpnbkaa.V
open Go.Proofs.Ytajndpddlpnbkaa.VL Go.Proofs.Ytajndpddlpnbkaa.VL.RD Go.Proofs.Ytajndpddlpnbkaa.VL.Sha
attribute [local irreducible] Run numB macR expandB macB seKey mkKey shaB stretchB sealB openB sealR openR
set_option maxHeartbeats 2000000 in
theorem breals_spec (q : View) (pass : ByteArray) (h : HeadT) (hh : HeadOk h) (s : ByteArray) :
    FnD Try.prog q 6 [.string pass, .agg ⟨encH h⟩, .string s] [] (.bool true) [] := by
  have ca := awake6_spec q
  have cb := body_spec q s
  have hb := bodyF_size s
  obtain ⟨X, hX⟩ : ∃ X, X = bodyF s := ⟨_, rfl⟩
  rw [← hX] at cb hb
  have okr : okR ((1 : Nat) : Int) := by unfold okR; omega
  unfold encH
  (first | refine FnD.go Try.call6 Try.func6 rfl rfl rfl ?_ | refine FnX.go Try.call6 Try.func6 rfl rfl rfl ?_)
  (repeat (first | refine g ?_))
  refine s_box fun b4 => ?_
  by_cases h6 : 64 < pass.size
  · have zp : (pass.extract (0 : Int).toNat (64 : Int).toNat).size ≤ 64 := by rw [ByteArray.size_extract]; omega
    (repeat (first | refine g ?_))
    have cr := real_spec q (pass.extract (0 : Int).toNat (64 : Int).toNat) ⟨#[115]⟩ 1 (by omega) (by decide) okr
    have cd := doc_spec q (pass.extract (0 : Int).toNat (64 : Int).toNat) ⟨#[115]⟩ 1 (by omega) (by decide) okr
    have zk : (stretchB (pass.extract (0 : Int).toNat (64 : Int).toNat) ⟨#[115]⟩ 1).size ≤ 1000 := by rw [stretchB_size]; decide
    obtain ⟨key, hkey⟩ : ∃ key, key = stretchB (pass.extract (0 : Int).toNat (64 : Int).toNat) ⟨#[115]⟩ 1 := ⟨_, rfl⟩
    rw [← hkey] at zk cr cd
    (repeat (first | refine g ?_))
    refine s_callx cr fun v => ?_
    (repeat (first | refine g ?_))
    refine s_callx cd fun w => ?_
    (repeat (first | refine g ?_))
    cases hok : (fldH h).all okN with
    | false =>
      have cs := fun V => bseal_no q (.pointer (some ⟨v, 0, none⟩)) V h hh X hb hok
      have cs2 := fun V => rbseal_no q (.pointer (some ⟨w, 0, none⟩)) V h hh X hb hok
      unfold encH at cs cs2
      refine d_start [realAt v key] ?_
      (first | refine d_pure 0 ?_ | refine d_load 0 ?_ | refine d_arith 0 ?_ | refine d_rem 0 ?_ | refine d_quo 0 ?_ | refine d_shrv 0 ?_ | refine d_fieldat 0 ?_ | refine d_idx1 0 ?_ | refine d_index 0 ?_ | refine d_conv64 0 ?_ | refine d_slices 0 ?_ | refine d_concat 0 ?_ | refine d_build 0 ?_)
      refine d_getall 1 rfl ?_
      (first | refine d_pure 2 ?_ | refine d_load 2 ?_ | refine d_arith 2 ?_ | refine d_rem 2 ?_ | refine d_quo 2 ?_ | refine d_shrv 2 ?_ | refine d_fieldat 2 ?_ | refine d_idx1 2 ?_ | refine d_index 2 ?_ | refine d_conv64 2 ?_ | refine d_slices 2 ?_ | refine d_concat 2 ?_ | refine d_build 2 ?_)
      refine d_call 3 cb ?_
      refine d_call 4 (cs _) ?_
      (first | refine d_pure 5 ?_ | refine d_load 5 ?_ | refine d_arith 5 ?_ | refine d_rem 5 ?_ | refine d_quo 5 ?_ | refine d_shrv 5 ?_ | refine d_fieldat 5 ?_ | refine d_idx1 5 ?_ | refine d_index 5 ?_ | refine d_conv64 5 ?_ | refine d_slices 5 ?_ | refine d_concat 5 ?_ | refine d_build 5 ?_)
      (first | refine d_pure 6 ?_ | refine d_load 6 ?_ | refine d_arith 6 ?_ | refine d_rem 6 ?_ | refine d_quo 6 ?_ | refine d_shrv 6 ?_ | refine d_fieldat 6 ?_ | refine d_idx1 6 ?_ | refine d_index 6 ?_ | refine d_conv64 6 ?_ | refine d_slices 6 ?_ | refine d_concat 6 ?_ | refine d_build 6 ?_)
      (first | refine d_pure 7 ?_ | refine d_load 7 ?_ | refine d_arith 7 ?_ | refine d_rem 7 ?_ | refine d_quo 7 ?_ | refine d_shrv 7 ?_ | refine d_fieldat 7 ?_ | refine d_idx1 7 ?_ | refine d_index 7 ?_ | refine d_conv64 7 ?_ | refine d_slices 7 ?_ | refine d_concat 7 ?_ | refine d_build 7 ?_)
      (first | refine d_pure 8 ?_ | refine d_load 8 ?_ | refine d_arith 8 ?_ | refine d_rem 8 ?_ | refine d_quo 8 ?_ | refine d_shrv 8 ?_ | refine d_fieldat 8 ?_ | refine d_idx1 8 ?_ | refine d_index 8 ?_ | refine d_conv64 8 ?_ | refine d_slices 8 ?_ | refine d_concat 8 ?_ | refine d_build 8 ?_)
      (first | refine d_pure 9 ?_ | refine d_load 9 ?_ | refine d_arith 9 ?_ | refine d_rem 9 ?_ | refine d_quo 9 ?_ | refine d_shrv 9 ?_ | refine d_fieldat 9 ?_ | refine d_idx1 9 ?_ | refine d_index 9 ?_ | refine d_conv64 9 ?_ | refine d_slices 9 ?_ | refine d_concat 9 ?_ | refine d_build 9 ?_)
      refine d_done ?_
      (repeat (first | refine g ?_))
      refine d_start [docAt w key] ?_
      (first | refine d_pure 0 ?_ | refine d_load 0 ?_ | refine d_arith 0 ?_ | refine d_rem 0 ?_ | refine d_quo 0 ?_ | refine d_shrv 0 ?_ | refine d_fieldat 0 ?_ | refine d_idx1 0 ?_ | refine d_index 0 ?_ | refine d_conv64 0 ?_ | refine d_slices 0 ?_ | refine d_concat 0 ?_ | refine d_build 0 ?_)
      refine d_getall 1 rfl ?_
      (first | refine d_pure 2 ?_ | refine d_load 2 ?_ | refine d_arith 2 ?_ | refine d_rem 2 ?_ | refine d_quo 2 ?_ | refine d_shrv 2 ?_ | refine d_fieldat 2 ?_ | refine d_idx1 2 ?_ | refine d_index 2 ?_ | refine d_conv64 2 ?_ | refine d_slices 2 ?_ | refine d_concat 2 ?_ | refine d_build 2 ?_)
      refine d_call 3 cb ?_
      refine d_call 4 (cs2 _) ?_
      (first | refine d_pure 5 ?_ | refine d_load 5 ?_ | refine d_arith 5 ?_ | refine d_rem 5 ?_ | refine d_quo 5 ?_ | refine d_shrv 5 ?_ | refine d_fieldat 5 ?_ | refine d_idx1 5 ?_ | refine d_index 5 ?_ | refine d_conv64 5 ?_ | refine d_slices 5 ?_ | refine d_concat 5 ?_ | refine d_build 5 ?_)
      (first | refine d_pure 6 ?_ | refine d_load 6 ?_ | refine d_arith 6 ?_ | refine d_rem 6 ?_ | refine d_quo 6 ?_ | refine d_shrv 6 ?_ | refine d_fieldat 6 ?_ | refine d_idx1 6 ?_ | refine d_index 6 ?_ | refine d_conv64 6 ?_ | refine d_slices 6 ?_ | refine d_concat 6 ?_ | refine d_build 6 ?_)
      (first | refine d_pure 7 ?_ | refine d_load 7 ?_ | refine d_arith 7 ?_ | refine d_rem 7 ?_ | refine d_quo 7 ?_ | refine d_shrv 7 ?_ | refine d_fieldat 7 ?_ | refine d_idx1 7 ?_ | refine d_index 7 ?_ | refine d_conv64 7 ?_ | refine d_slices 7 ?_ | refine d_concat 7 ?_ | refine d_build 7 ?_)
      (first | refine d_pure 8 ?_ | refine d_load 8 ?_ | refine d_arith 8 ?_ | refine d_rem 8 ?_ | refine d_quo 8 ?_ | refine d_shrv 8 ?_ | refine d_fieldat 8 ?_ | refine d_idx1 8 ?_ | refine d_index 8 ?_ | refine d_conv64 8 ?_ | refine d_slices 8 ?_ | refine d_concat 8 ?_ | refine d_build 8 ?_)
      (first | refine d_pure 9 ?_ | refine d_load 9 ?_ | refine d_arith 9 ?_ | refine d_rem 9 ?_ | refine d_quo 9 ?_ | refine d_shrv 9 ?_ | refine d_fieldat 9 ?_ | refine d_idx1 9 ?_ | refine d_index 9 ?_ | refine d_conv64 9 ?_ | refine d_slices 9 ?_ | refine d_concat 9 ?_ | refine d_build 9 ?_)
      refine d_done ?_
      have hee : ¬ ((⟨#[]⟩ : ByteArray) ≠ ⟨#[]⟩) := fun h => h rfl
      have hee2 : (⟨#[]⟩ : ByteArray) = ⟨#[]⟩ := rfl
      (repeat (first | refine g ?_))
      refine s_call ca ?_
      (repeat (first | refine g ?_))
      exact run_ret rfl (imp_RD rfl shut)
    | true =>
      have hw := bwrong_ok (ok_salt hok) h
      obtain ⟨o1, o2, o3⟩ := openR_sealR key h.salt (nonceB h) (bl (headL h)) X hw
      have zH := headL_size h
      have c1 := sealV_spec q v key zk h.salt (nonceB h) (bl (headL h)) X (by omega) (by omega)
      have c2 := dseal_spec q w key zk h.salt (nonceB h) (bl (headL h)) X (by omega) (by omega)
      rw [o2] at c1 c2
      have hF : (sealR key h.salt (nonceB h) (bl (headL h)) X).1.size = 464 := by rw [o3, hb]
      obtain ⟨F, hFF⟩ : ∃ F, F = (sealR key h.salt (nonceB h) (bl (headL h)) X).1 := ⟨_, rfl⟩
      rw [← hFF] at c1 c2 o1 hF
      have cs := bseal_call q _ _ _ h hh X hb hok F 0 (by omega) c1
      have cs2 := rbseal_call q _ _ _ h hh X hb hok F 0 (by omega) c2
      rw [if_pos rfl] at cs cs2
      obtain ⟨A, hA⟩ : ∃ A, A = bl (headL h) ++ F := ⟨_, rfl⟩
      rw [← hA] at cs cs2
      have zA : A.size = 512 := by rw [hA, ByteArray.size_append]; omega
      have eA : A.extract 0 48 = bl (headL h) := by rw [hA]; exact ext_l zH
      have eF : A.extract 48 512 = F := by rw [hA]; exact ext_r zH (by omega)
      have hg := headGood_head A h eA
      have hO := openH_head A h hok eA
      have c3 := openV_spec q v key zk h.salt (nonceB h) (bl (headL h)) F (by omega) (by omega)
      rw [o1] at c3
      have co := bopen_call q (.pointer (some ⟨v, 0, none⟩)) (realAt v key) (realAt v key) A zA hg X 0 (by rw [hO, eA, eF]; exact c3)
      rw [if_pos rfl, if_pos rfl, hO] at co
      have kh := head_lits 2 h hh
      unfold encH at cs cs2 co kh
      refine d_start [realAt v key] ?_
      (first | refine d_pure 0 ?_ | refine d_load 0 ?_ | refine d_arith 0 ?_ | refine d_rem 0 ?_ | refine d_quo 0 ?_ | refine d_shrv 0 ?_ | refine d_fieldat 0 ?_ | refine d_idx1 0 ?_ | refine d_index 0 ?_ | refine d_conv64 0 ?_ | refine d_slices 0 ?_ | refine d_concat 0 ?_ | refine d_build 0 ?_)
      refine d_getall 1 rfl ?_
      (first | refine d_pure 2 ?_ | refine d_load 2 ?_ | refine d_arith 2 ?_ | refine d_rem 2 ?_ | refine d_quo 2 ?_ | refine d_shrv 2 ?_ | refine d_fieldat 2 ?_ | refine d_idx1 2 ?_ | refine d_index 2 ?_ | refine d_conv64 2 ?_ | refine d_slices 2 ?_ | refine d_concat 2 ?_ | refine d_build 2 ?_)
      refine d_call 3 cb ?_
      refine d_call 4 cs ?_
      (first | refine d_pure 5 ?_ | refine d_load 5 ?_ | refine d_arith 5 ?_ | refine d_rem 5 ?_ | refine d_quo 5 ?_ | refine d_shrv 5 ?_ | refine d_fieldat 5 ?_ | refine d_idx1 5 ?_ | refine d_index 5 ?_ | refine d_conv64 5 ?_ | refine d_slices 5 ?_ | refine d_concat 5 ?_ | refine d_build 5 ?_)
      (first | refine d_pure 6 ?_ | refine d_load 6 ?_ | refine d_arith 6 ?_ | refine d_rem 6 ?_ | refine d_quo 6 ?_ | refine d_shrv 6 ?_ | refine d_fieldat 6 ?_ | refine d_idx1 6 ?_ | refine d_index 6 ?_ | refine d_conv64 6 ?_ | refine d_slices 6 ?_ | refine d_concat 6 ?_ | refine d_build 6 ?_)
      (first | refine d_pure 7 ?_ | refine d_load 7 ?_ | refine d_arith 7 ?_ | refine d_rem 7 ?_ | refine d_quo 7 ?_ | refine d_shrv 7 ?_ | refine d_fieldat 7 ?_ | refine d_idx1 7 ?_ | refine d_index 7 ?_ | refine d_conv64 7 ?_ | refine d_slices 7 ?_ | refine d_concat 7 ?_ | refine d_build 7 ?_)
      (first | refine d_pure 8 ?_ | refine d_load 8 ?_ | refine d_arith 8 ?_ | refine d_rem 8 ?_ | refine d_quo 8 ?_ | refine d_shrv 8 ?_ | refine d_fieldat 8 ?_ | refine d_idx1 8 ?_ | refine d_index 8 ?_ | refine d_conv64 8 ?_ | refine d_slices 8 ?_ | refine d_concat 8 ?_ | refine d_build 8 ?_)
      (first | refine d_pure 9 ?_ | refine d_load 9 ?_ | refine d_arith 9 ?_ | refine d_rem 9 ?_ | refine d_quo 9 ?_ | refine d_shrv 9 ?_ | refine d_fieldat 9 ?_ | refine d_idx1 9 ?_ | refine d_index 9 ?_ | refine d_conv64 9 ?_ | refine d_slices 9 ?_ | refine d_concat 9 ?_ | refine d_build 9 ?_)
      refine d_done ?_
      (repeat (first | refine g ?_))
      refine d_start [docAt w key] ?_
      (first | refine d_pure 0 ?_ | refine d_load 0 ?_ | refine d_arith 0 ?_ | refine d_rem 0 ?_ | refine d_quo 0 ?_ | refine d_shrv 0 ?_ | refine d_fieldat 0 ?_ | refine d_idx1 0 ?_ | refine d_index 0 ?_ | refine d_conv64 0 ?_ | refine d_slices 0 ?_ | refine d_concat 0 ?_ | refine d_build 0 ?_)
      refine d_getall 1 rfl ?_
      (first | refine d_pure 2 ?_ | refine d_load 2 ?_ | refine d_arith 2 ?_ | refine d_rem 2 ?_ | refine d_quo 2 ?_ | refine d_shrv 2 ?_ | refine d_fieldat 2 ?_ | refine d_idx1 2 ?_ | refine d_index 2 ?_ | refine d_conv64 2 ?_ | refine d_slices 2 ?_ | refine d_concat 2 ?_ | refine d_build 2 ?_)
      refine d_call 3 cb ?_
      refine d_call 4 cs2 ?_
      (first | refine d_pure 5 ?_ | refine d_load 5 ?_ | refine d_arith 5 ?_ | refine d_rem 5 ?_ | refine d_quo 5 ?_ | refine d_shrv 5 ?_ | refine d_fieldat 5 ?_ | refine d_idx1 5 ?_ | refine d_index 5 ?_ | refine d_conv64 5 ?_ | refine d_slices 5 ?_ | refine d_concat 5 ?_ | refine d_build 5 ?_)
      (first | refine d_pure 6 ?_ | refine d_load 6 ?_ | refine d_arith 6 ?_ | refine d_rem 6 ?_ | refine d_quo 6 ?_ | refine d_shrv 6 ?_ | refine d_fieldat 6 ?_ | refine d_idx1 6 ?_ | refine d_index 6 ?_ | refine d_conv64 6 ?_ | refine d_slices 6 ?_ | refine d_concat 6 ?_ | refine d_build 6 ?_)
      (first | refine d_pure 7 ?_ | refine d_load 7 ?_ | refine d_arith 7 ?_ | refine d_rem 7 ?_ | refine d_quo 7 ?_ | refine d_shrv 7 ?_ | refine d_fieldat 7 ?_ | refine d_idx1 7 ?_ | refine d_index 7 ?_ | refine d_conv64 7 ?_ | refine d_slices 7 ?_ | refine d_concat 7 ?_ | refine d_build 7 ?_)
      (first | refine d_pure 8 ?_ | refine d_load 8 ?_ | refine d_arith 8 ?_ | refine d_rem 8 ?_ | refine d_quo 8 ?_ | refine d_shrv 8 ?_ | refine d_fieldat 8 ?_ | refine d_idx1 8 ?_ | refine d_index 8 ?_ | refine d_conv64 8 ?_ | refine d_slices 8 ?_ | refine d_concat 8 ?_ | refine d_build 8 ?_)
      (first | refine d_pure 9 ?_ | refine d_load 9 ?_ | refine d_arith 9 ?_ | refine d_rem 9 ?_ | refine d_quo 9 ?_ | refine d_shrv 9 ?_ | refine d_fieldat 9 ?_ | refine d_idx1 9 ?_ | refine d_index 9 ?_ | refine d_conv64 9 ?_ | refine d_slices 9 ?_ | refine d_concat 9 ?_ | refine d_build 9 ?_)
      refine d_done ?_
      have hAA : ¬ (A ≠ A) := fun h => h rfl
      have hXX : X = X := rfl
      (repeat (first | refine g ?_))
      refine s_call co ?_
      (repeat (first | refine g ?_))
      refine s_alloc fun r15 => ?_
      (repeat (first | refine g ?_))
      refine s_eqk 6 4 true (la := litsH h) (lb := litsH h) ?_ ?_ (ka := kh) (kb := kh)
      · simp
      (repeat (first | refine g ?_))
      refine s_call cb ?_
      (repeat (first | refine g ?_))
      refine s_call ca ?_
      (repeat (first | refine g ?_))
      exact run_ret rfl (imp_RD rfl shut)
  · (repeat (first | refine g ?_))
    have cr := real_spec q (pass) ⟨#[115]⟩ 1 (by omega) (by decide) okr
    have cd := doc_spec q (pass) ⟨#[115]⟩ 1 (by omega) (by decide) okr
    have zk : (stretchB (pass) ⟨#[115]⟩ 1).size ≤ 1000 := by rw [stretchB_size]; decide
    obtain ⟨key, hkey⟩ : ∃ key, key = stretchB (pass) ⟨#[115]⟩ 1 := ⟨_, rfl⟩
    rw [← hkey] at zk cr cd
    (repeat (first | refine g ?_))
    refine s_callx cr fun v => ?_
    (repeat (first | refine g ?_))
    refine s_callx cd fun w => ?_
    (repeat (first | refine g ?_))
    cases hok : (fldH h).all okN with
    | false =>
      have cs := fun V => bseal_no q (.pointer (some ⟨v, 0, none⟩)) V h hh X hb hok
      have cs2 := fun V => rbseal_no q (.pointer (some ⟨w, 0, none⟩)) V h hh X hb hok
      unfold encH at cs cs2
      refine d_start [realAt v key] ?_
      (first | refine d_pure 0 ?_ | refine d_load 0 ?_ | refine d_arith 0 ?_ | refine d_rem 0 ?_ | refine d_quo 0 ?_ | refine d_shrv 0 ?_ | refine d_fieldat 0 ?_ | refine d_idx1 0 ?_ | refine d_index 0 ?_ | refine d_conv64 0 ?_ | refine d_slices 0 ?_ | refine d_concat 0 ?_ | refine d_build 0 ?_)
      refine d_getall 1 rfl ?_
      (first | refine d_pure 2 ?_ | refine d_load 2 ?_ | refine d_arith 2 ?_ | refine d_rem 2 ?_ | refine d_quo 2 ?_ | refine d_shrv 2 ?_ | refine d_fieldat 2 ?_ | refine d_idx1 2 ?_ | refine d_index 2 ?_ | refine d_conv64 2 ?_ | refine d_slices 2 ?_ | refine d_concat 2 ?_ | refine d_build 2 ?_)
      refine d_call 3 cb ?_
      refine d_call 4 (cs _) ?_
      (first | refine d_pure 5 ?_ | refine d_load 5 ?_ | refine d_arith 5 ?_ | refine d_rem 5 ?_ | refine d_quo 5 ?_ | refine d_shrv 5 ?_ | refine d_fieldat 5 ?_ | refine d_idx1 5 ?_ | refine d_index 5 ?_ | refine d_conv64 5 ?_ | refine d_slices 5 ?_ | refine d_concat 5 ?_ | refine d_build 5 ?_)
      (first | refine d_pure 6 ?_ | refine d_load 6 ?_ | refine d_arith 6 ?_ | refine d_rem 6 ?_ | refine d_quo 6 ?_ | refine d_shrv 6 ?_ | refine d_fieldat 6 ?_ | refine d_idx1 6 ?_ | refine d_index 6 ?_ | refine d_conv64 6 ?_ | refine d_slices 6 ?_ | refine d_concat 6 ?_ | refine d_build 6 ?_)
      (first | refine d_pure 7 ?_ | refine d_load 7 ?_ | refine d_arith 7 ?_ | refine d_rem 7 ?_ | refine d_quo 7 ?_ | refine d_shrv 7 ?_ | refine d_fieldat 7 ?_ | refine d_idx1 7 ?_ | refine d_index 7 ?_ | refine d_conv64 7 ?_ | refine d_slices 7 ?_ | refine d_concat 7 ?_ | refine d_build 7 ?_)
      (first | refine d_pure 8 ?_ | refine d_load 8 ?_ | refine d_arith 8 ?_ | refine d_rem 8 ?_ | refine d_quo 8 ?_ | refine d_shrv 8 ?_ | refine d_fieldat 8 ?_ | refine d_idx1 8 ?_ | refine d_index 8 ?_ | refine d_conv64 8 ?_ | refine d_slices 8 ?_ | refine d_concat 8 ?_ | refine d_build 8 ?_)
      (first | refine d_pure 9 ?_ | refine d_load 9 ?_ | refine d_arith 9 ?_ | refine d_rem 9 ?_ | refine d_quo 9 ?_ | refine d_shrv 9 ?_ | refine d_fieldat 9 ?_ | refine d_idx1 9 ?_ | refine d_index 9 ?_ | refine d_conv64 9 ?_ | refine d_slices 9 ?_ | refine d_concat 9 ?_ | refine d_build 9 ?_)
      refine d_done ?_
      (repeat (first | refine g ?_))
      refine d_start [docAt w key] ?_
      (first | refine d_pure 0 ?_ | refine d_load 0 ?_ | refine d_arith 0 ?_ | refine d_rem 0 ?_ | refine d_quo 0 ?_ | refine d_shrv 0 ?_ | refine d_fieldat 0 ?_ | refine d_idx1 0 ?_ | refine d_index 0 ?_ | refine d_conv64 0 ?_ | refine d_slices 0 ?_ | refine d_concat 0 ?_ | refine d_build 0 ?_)
      refine d_getall 1 rfl ?_
      (first | refine d_pure 2 ?_ | refine d_load 2 ?_ | refine d_arith 2 ?_ | refine d_rem 2 ?_ | refine d_quo 2 ?_ | refine d_shrv 2 ?_ | refine d_fieldat 2 ?_ | refine d_idx1 2 ?_ | refine d_index 2 ?_ | refine d_conv64 2 ?_ | refine d_slices 2 ?_ | refine d_concat 2 ?_ | refine d_build 2 ?_)
      refine d_call 3 cb ?_
      refine d_call 4 (cs2 _) ?_
      (first | refine d_pure 5 ?_ | refine d_load 5 ?_ | refine d_arith 5 ?_ | refine d_rem 5 ?_ | refine d_quo 5 ?_ | refine d_shrv 5 ?_ | refine d_fieldat 5 ?_ | refine d_idx1 5 ?_ | refine d_index 5 ?_ | refine d_conv64 5 ?_ | refine d_slices 5 ?_ | refine d_concat 5 ?_ | refine d_build 5 ?_)
      (first | refine d_pure 6 ?_ | refine d_load 6 ?_ | refine d_arith 6 ?_ | refine d_rem 6 ?_ | refine d_quo 6 ?_ | refine d_shrv 6 ?_ | refine d_fieldat 6 ?_ | refine d_idx1 6 ?_ | refine d_index 6 ?_ | refine d_conv64 6 ?_ | refine d_slices 6 ?_ | refine d_concat 6 ?_ | refine d_build 6 ?_)
      (first | refine d_pure 7 ?_ | refine d_load 7 ?_ | refine d_arith 7 ?_ | refine d_rem 7 ?_ | refine d_quo 7 ?_ | refine d_shrv 7 ?_ | refine d_fieldat 7 ?_ | refine d_idx1 7 ?_ | refine d_index 7 ?_ | refine d_conv64 7 ?_ | refine d_slices 7 ?_ | refine d_concat 7 ?_ | refine d_build 7 ?_)
      (first | refine d_pure 8 ?_ | refine d_load 8 ?_ | refine d_arith 8 ?_ | refine d_rem 8 ?_ | refine d_quo 8 ?_ | refine d_shrv 8 ?_ | refine d_fieldat 8 ?_ | refine d_idx1 8 ?_ | refine d_index 8 ?_ | refine d_conv64 8 ?_ | refine d_slices 8 ?_ | refine d_concat 8 ?_ | refine d_build 8 ?_)
      (first | refine d_pure 9 ?_ | refine d_load 9 ?_ | refine d_arith 9 ?_ | refine d_rem 9 ?_ | refine d_quo 9 ?_ | refine d_shrv 9 ?_ | refine d_fieldat 9 ?_ | refine d_idx1 9 ?_ | refine d_index 9 ?_ | refine d_conv64 9 ?_ | refine d_slices 9 ?_ | refine d_concat 9 ?_ | refine d_build 9 ?_)
      refine d_done ?_
      have hee : ¬ ((⟨#[]⟩ : ByteArray) ≠ ⟨#[]⟩) := fun h => h rfl
      have hee2 : (⟨#[]⟩ : ByteArray) = ⟨#[]⟩ := rfl
      (repeat (first | refine g ?_))
      refine s_call ca ?_
      (repeat (first | refine g ?_))
      exact run_ret rfl (imp_RD rfl shut)
    | true =>
      have hw := bwrong_ok (ok_salt hok) h
      obtain ⟨o1, o2, o3⟩ := openR_sealR key h.salt (nonceB h) (bl (headL h)) X hw
      have zH := headL_size h
      have c1 := sealV_spec q v key zk h.salt (nonceB h) (bl (headL h)) X (by omega) (by omega)
      have c2 := dseal_spec q w key zk h.salt (nonceB h) (bl (headL h)) X (by omega) (by omega)
      rw [o2] at c1 c2
      have hF : (sealR key h.salt (nonceB h) (bl (headL h)) X).1.size = 464 := by rw [o3, hb]
      obtain ⟨F, hFF⟩ : ∃ F, F = (sealR key h.salt (nonceB h) (bl (headL h)) X).1 := ⟨_, rfl⟩
      rw [← hFF] at c1 c2 o1 hF
      have cs := bseal_call q _ _ _ h hh X hb hok F 0 (by omega) c1
      have cs2 := rbseal_call q _ _ _ h hh X hb hok F 0 (by omega) c2
      rw [if_pos rfl] at cs cs2
      obtain ⟨A, hA⟩ : ∃ A, A = bl (headL h) ++ F := ⟨_, rfl⟩
      rw [← hA] at cs cs2
      have zA : A.size = 512 := by rw [hA, ByteArray.size_append]; omega
      have eA : A.extract 0 48 = bl (headL h) := by rw [hA]; exact ext_l zH
      have eF : A.extract 48 512 = F := by rw [hA]; exact ext_r zH (by omega)
      have hg := headGood_head A h eA
      have hO := openH_head A h hok eA
      have c3 := openV_spec q v key zk h.salt (nonceB h) (bl (headL h)) F (by omega) (by omega)
      rw [o1] at c3
      have co := bopen_call q (.pointer (some ⟨v, 0, none⟩)) (realAt v key) (realAt v key) A zA hg X 0 (by rw [hO, eA, eF]; exact c3)
      rw [if_pos rfl, if_pos rfl, hO] at co
      have kh := head_lits 2 h hh
      unfold encH at cs cs2 co kh
      refine d_start [realAt v key] ?_
      (first | refine d_pure 0 ?_ | refine d_load 0 ?_ | refine d_arith 0 ?_ | refine d_rem 0 ?_ | refine d_quo 0 ?_ | refine d_shrv 0 ?_ | refine d_fieldat 0 ?_ | refine d_idx1 0 ?_ | refine d_index 0 ?_ | refine d_conv64 0 ?_ | refine d_slices 0 ?_ | refine d_concat 0 ?_ | refine d_build 0 ?_)
      refine d_getall 1 rfl ?_
      (first | refine d_pure 2 ?_ | refine d_load 2 ?_ | refine d_arith 2 ?_ | refine d_rem 2 ?_ | refine d_quo 2 ?_ | refine d_shrv 2 ?_ | refine d_fieldat 2 ?_ | refine d_idx1 2 ?_ | refine d_index 2 ?_ | refine d_conv64 2 ?_ | refine d_slices 2 ?_ | refine d_concat 2 ?_ | refine d_build 2 ?_)
      refine d_call 3 cb ?_
      refine d_call 4 cs ?_
      (first | refine d_pure 5 ?_ | refine d_load 5 ?_ | refine d_arith 5 ?_ | refine d_rem 5 ?_ | refine d_quo 5 ?_ | refine d_shrv 5 ?_ | refine d_fieldat 5 ?_ | refine d_idx1 5 ?_ | refine d_index 5 ?_ | refine d_conv64 5 ?_ | refine d_slices 5 ?_ | refine d_concat 5 ?_ | refine d_build 5 ?_)
      (first | refine d_pure 6 ?_ | refine d_load 6 ?_ | refine d_arith 6 ?_ | refine d_rem 6 ?_ | refine d_quo 6 ?_ | refine d_shrv 6 ?_ | refine d_fieldat 6 ?_ | refine d_idx1 6 ?_ | refine d_index 6 ?_ | refine d_conv64 6 ?_ | refine d_slices 6 ?_ | refine d_concat 6 ?_ | refine d_build 6 ?_)
      (first | refine d_pure 7 ?_ | refine d_load 7 ?_ | refine d_arith 7 ?_ | refine d_rem 7 ?_ | refine d_quo 7 ?_ | refine d_shrv 7 ?_ | refine d_fieldat 7 ?_ | refine d_idx1 7 ?_ | refine d_index 7 ?_ | refine d_conv64 7 ?_ | refine d_slices 7 ?_ | refine d_concat 7 ?_ | refine d_build 7 ?_)
      (first | refine d_pure 8 ?_ | refine d_load 8 ?_ | refine d_arith 8 ?_ | refine d_rem 8 ?_ | refine d_quo 8 ?_ | refine d_shrv 8 ?_ | refine d_fieldat 8 ?_ | refine d_idx1 8 ?_ | refine d_index 8 ?_ | refine d_conv64 8 ?_ | refine d_slices 8 ?_ | refine d_concat 8 ?_ | refine d_build 8 ?_)
      (first | refine d_pure 9 ?_ | refine d_load 9 ?_ | refine d_arith 9 ?_ | refine d_rem 9 ?_ | refine d_quo 9 ?_ | refine d_shrv 9 ?_ | refine d_fieldat 9 ?_ | refine d_idx1 9 ?_ | refine d_index 9 ?_ | refine d_conv64 9 ?_ | refine d_slices 9 ?_ | refine d_concat 9 ?_ | refine d_build 9 ?_)
      refine d_done ?_
      (repeat (first | refine g ?_))
      refine d_start [docAt w key] ?_
      (first | refine d_pure 0 ?_ | refine d_load 0 ?_ | refine d_arith 0 ?_ | refine d_rem 0 ?_ | refine d_quo 0 ?_ | refine d_shrv 0 ?_ | refine d_fieldat 0 ?_ | refine d_idx1 0 ?_ | refine d_index 0 ?_ | refine d_conv64 0 ?_ | refine d_slices 0 ?_ | refine d_concat 0 ?_ | refine d_build 0 ?_)
      refine d_getall 1 rfl ?_
      (first | refine d_pure 2 ?_ | refine d_load 2 ?_ | refine d_arith 2 ?_ | refine d_rem 2 ?_ | refine d_quo 2 ?_ | refine d_shrv 2 ?_ | refine d_fieldat 2 ?_ | refine d_idx1 2 ?_ | refine d_index 2 ?_ | refine d_conv64 2 ?_ | refine d_slices 2 ?_ | refine d_concat 2 ?_ | refine d_build 2 ?_)
      refine d_call 3 cb ?_
      refine d_call 4 cs2 ?_
      (first | refine d_pure 5 ?_ | refine d_load 5 ?_ | refine d_arith 5 ?_ | refine d_rem 5 ?_ | refine d_quo 5 ?_ | refine d_shrv 5 ?_ | refine d_fieldat 5 ?_ | refine d_idx1 5 ?_ | refine d_index 5 ?_ | refine d_conv64 5 ?_ | refine d_slices 5 ?_ | refine d_concat 5 ?_ | refine d_build 5 ?_)
      (first | refine d_pure 6 ?_ | refine d_load 6 ?_ | refine d_arith 6 ?_ | refine d_rem 6 ?_ | refine d_quo 6 ?_ | refine d_shrv 6 ?_ | refine d_fieldat 6 ?_ | refine d_idx1 6 ?_ | refine d_index 6 ?_ | refine d_conv64 6 ?_ | refine d_slices 6 ?_ | refine d_concat 6 ?_ | refine d_build 6 ?_)
      (first | refine d_pure 7 ?_ | refine d_load 7 ?_ | refine d_arith 7 ?_ | refine d_rem 7 ?_ | refine d_quo 7 ?_ | refine d_shrv 7 ?_ | refine d_fieldat 7 ?_ | refine d_idx1 7 ?_ | refine d_index 7 ?_ | refine d_conv64 7 ?_ | refine d_slices 7 ?_ | refine d_concat 7 ?_ | refine d_build 7 ?_)
      (first | refine d_pure 8 ?_ | refine d_load 8 ?_ | refine d_arith 8 ?_ | refine d_rem 8 ?_ | refine d_quo 8 ?_ | refine d_shrv 8 ?_ | refine d_fieldat 8 ?_ | refine d_idx1 8 ?_ | refine d_index 8 ?_ | refine d_conv64 8 ?_ | refine d_slices 8 ?_ | refine d_concat 8 ?_ | refine d_build 8 ?_)
      (first | refine d_pure 9 ?_ | refine d_load 9 ?_ | refine d_arith 9 ?_ | refine d_rem 9 ?_ | refine d_quo 9 ?_ | refine d_shrv 9 ?_ | refine d_fieldat 9 ?_ | refine d_idx1 9 ?_ | refine d_index 9 ?_ | refine d_conv64 9 ?_ | refine d_slices 9 ?_ | refine d_concat 9 ?_ | refine d_build 9 ?_)
      refine d_done ?_
      have hAA : ¬ (A ≠ A) := fun h => h rfl
      have hXX : X = X := rfl
      (repeat (first | refine g ?_))
      refine s_call co ?_
      (repeat (first | refine g ?_))
      refine s_alloc fun r15 => ?_
      (repeat (first | refine g ?_))
      refine s_eqk 6 4 true (la := litsH h) (lb := litsH h) ?_ ?_ (ka := kh) (kb := kh)
      · simp
      (repeat (first | refine g ?_))
      refine s_call cb ?_
      (repeat (first | refine g ?_))
      refine s_call ca ?_
      (repeat (first | refine g ?_))
      exact run_ret rfl (imp_RD rfl shut)
end Go.Proofs.Ytajndpddlpnbkaa.V
