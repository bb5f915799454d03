/- The document's head and block. -/
import Derived.Test.YtaiocnpecaecdaaGreatDoorGf
import Derived.Test.YtaiocnpecaecdaaGreatDoorGd
import Derived.Test.YtaiocnpecaecdaaGreatDoorGe
import Derived.Test.YtaiocnpecaecdaaGreatDoorVLc
set_option maxRecDepth 10000
set_option linter.unusedVariables false
namespace Go.Proofs.YtaiocnpecaecdaaGreatDoor.V
open Go.Proofs.YtaiocnpecaecdaaGreatDoor.VL Go.Proofs.YtaiocnpecaecdaaGreatDoor.VL.RD Go.Proofs.YtaiocnpecaecdaaGreatDoor.VL.Sha
attribute [local irreducible] Run numB
theorem rhead_spec (q : View) (h : HeadT) (hh : HeadOk h) : FnD Tryz.prog q 59 [.agg ⟨encH h⟩] [] (.tuple #[.string (headF h).1, .int .i64 (headF h).2]) [] := by
  have cl := fun r w => laid_spec q r w (fldH h) (by
    obtain ⟨v0, v1, a0, a1, k0, k1, i0, i1, g0, g1, x0, x1, r0, r1, s0, s1⟩ := hh
    intro x hx
    unfold fldH at hx
    simp only [List.mem_cons, List.not_mem_nil, or_false] at hx
    rcases hx with rfl | rfl | rfl | rfl | rfl | rfl | rfl | rfl <;> exact ⟨Nat.le_of_ble_eq_true rfl, Nat.le_of_ble_eq_true rfl, by assumption⟩) (by show 8 ≤ 1000; decide)
  have cl : ∀ r w, FnD Tryz.prog q 115 [.slice (some ⟨r, 0, none⟩) 8 8, .slice (some ⟨w, 0, none⟩) 8 8] [cells r 3 ⟨encH h⟩, cells w 3 ⟨wHd⟩] (.tuple #[.string (laidF (fldH h)).1, .bool (laidF (fldH h)).2]) [] := cl
  unfold encH at cl ⊢
  (first | refine FnD.go Tryz.call59 Tryz.func59 rfl rfl rfl ?_ | refine FnX.go Tryz.call59 Tryz.func59 rfl rfl rfl ?_)
  (repeat (first | refine g ?_))
  refine s_box fun b => ?_
  (repeat (first | refine g ?_))
  refine d_start [] ?_
  (first | refine d_pure 0 ?_ | refine d_load 0 ?_ | refine d_arith 0 ?_ | refine d_rem 0 ?_ | refine d_quo 0 ?_ | refine d_shrv 0 ?_ | refine d_fieldat 0 ?_ | refine d_idx1 0 ?_ | refine d_index 0 ?_ | refine d_conv64 0 ?_ | refine d_slices 0 ?_ | refine d_concat 0 ?_ | refine d_build 0 ?_)
  (first | refine d_pure 1 ?_ | refine d_load 1 ?_ | refine d_arith 1 ?_ | refine d_rem 1 ?_ | refine d_quo 1 ?_ | refine d_shrv 1 ?_ | refine d_fieldat 1 ?_ | refine d_idx1 1 ?_ | refine d_index 1 ?_ | refine d_conv64 1 ?_ | refine d_slices 1 ?_ | refine d_concat 1 ?_ | refine d_build 1 ?_)
  (first | refine d_pure 2 ?_ | refine d_load 2 ?_ | refine d_arith 2 ?_ | refine d_rem 2 ?_ | refine d_quo 2 ?_ | refine d_shrv 2 ?_ | refine d_fieldat 2 ?_ | refine d_idx1 2 ?_ | refine d_index 2 ?_ | refine d_conv64 2 ?_ | refine d_slices 2 ?_ | refine d_concat 2 ?_ | refine d_build 2 ?_)
  (first | refine d_pure 3 ?_ | refine d_load 3 ?_ | refine d_arith 3 ?_ | refine d_rem 3 ?_ | refine d_quo 3 ?_ | refine d_shrv 3 ?_ | refine d_fieldat 3 ?_ | refine d_idx1 3 ?_ | refine d_index 3 ?_ | refine d_conv64 3 ?_ | refine d_slices 3 ?_ | refine d_concat 3 ?_ | refine d_build 3 ?_)
  (first | refine d_pure 4 ?_ | refine d_load 4 ?_ | refine d_arith 4 ?_ | refine d_rem 4 ?_ | refine d_quo 4 ?_ | refine d_shrv 4 ?_ | refine d_fieldat 4 ?_ | refine d_idx1 4 ?_ | refine d_index 4 ?_ | refine d_conv64 4 ?_ | refine d_slices 4 ?_ | refine d_concat 4 ?_ | refine d_build 4 ?_)
  (first | refine d_pure 5 ?_ | refine d_load 5 ?_ | refine d_arith 5 ?_ | refine d_rem 5 ?_ | refine d_quo 5 ?_ | refine d_shrv 5 ?_ | refine d_fieldat 5 ?_ | refine d_idx1 5 ?_ | refine d_index 5 ?_ | refine d_conv64 5 ?_ | refine d_slices 5 ?_ | refine d_concat 5 ?_ | refine d_build 5 ?_)
  (first | refine d_pure 6 ?_ | refine d_load 6 ?_ | refine d_arith 6 ?_ | refine d_rem 6 ?_ | refine d_quo 6 ?_ | refine d_shrv 6 ?_ | refine d_fieldat 6 ?_ | refine d_idx1 6 ?_ | refine d_index 6 ?_ | refine d_conv64 6 ?_ | refine d_slices 6 ?_ | refine d_concat 6 ?_ | refine d_build 6 ?_)
  (first | refine d_pure 7 ?_ | refine d_load 7 ?_ | refine d_arith 7 ?_ | refine d_rem 7 ?_ | refine d_quo 7 ?_ | refine d_shrv 7 ?_ | refine d_fieldat 7 ?_ | refine d_idx1 7 ?_ | refine d_index 7 ?_ | refine d_conv64 7 ?_ | refine d_slices 7 ?_ | refine d_concat 7 ?_ | refine d_build 7 ?_)
  (first | refine d_pure 8 ?_ | refine d_load 8 ?_ | refine d_arith 8 ?_ | refine d_rem 8 ?_ | refine d_quo 8 ?_ | refine d_shrv 8 ?_ | refine d_fieldat 8 ?_ | refine d_idx1 8 ?_ | refine d_index 8 ?_ | refine d_conv64 8 ?_ | refine d_slices 8 ?_ | refine d_concat 8 ?_ | refine d_build 8 ?_)
  (first | refine d_pure 9 ?_ | refine d_load 9 ?_ | refine d_arith 9 ?_ | refine d_rem 9 ?_ | refine d_quo 9 ?_ | refine d_shrv 9 ?_ | refine d_fieldat 9 ?_ | refine d_idx1 9 ?_ | refine d_index 9 ?_ | refine d_conv64 9 ?_ | refine d_slices 9 ?_ | refine d_concat 9 ?_ | refine d_build 9 ?_)
  (first | refine d_pure 10 ?_ | refine d_load 10 ?_ | refine d_arith 10 ?_ | refine d_rem 10 ?_ | refine d_quo 10 ?_ | refine d_shrv 10 ?_ | refine d_fieldat 10 ?_ | refine d_idx1 10 ?_ | refine d_index 10 ?_ | refine d_conv64 10 ?_ | refine d_slices 10 ?_ | refine d_concat 10 ?_ | refine d_build 10 ?_)
  (first | refine d_pure 11 ?_ | refine d_load 11 ?_ | refine d_arith 11 ?_ | refine d_rem 11 ?_ | refine d_quo 11 ?_ | refine d_shrv 11 ?_ | refine d_fieldat 11 ?_ | refine d_idx1 11 ?_ | refine d_index 11 ?_ | refine d_conv64 11 ?_ | refine d_slices 11 ?_ | refine d_concat 11 ?_ | refine d_build 11 ?_)
  (first | refine d_pure 12 ?_ | refine d_load 12 ?_ | refine d_arith 12 ?_ | refine d_rem 12 ?_ | refine d_quo 12 ?_ | refine d_shrv 12 ?_ | refine d_fieldat 12 ?_ | refine d_idx1 12 ?_ | refine d_index 12 ?_ | refine d_conv64 12 ?_ | refine d_slices 12 ?_ | refine d_concat 12 ?_ | refine d_build 12 ?_)
  (first | refine d_pure 13 ?_ | refine d_load 13 ?_ | refine d_arith 13 ?_ | refine d_rem 13 ?_ | refine d_quo 13 ?_ | refine d_shrv 13 ?_ | refine d_fieldat 13 ?_ | refine d_idx1 13 ?_ | refine d_index 13 ?_ | refine d_conv64 13 ?_ | refine d_slices 13 ?_ | refine d_concat 13 ?_ | refine d_build 13 ?_)
  (first | refine d_pure 14 ?_ | refine d_load 14 ?_ | refine d_arith 14 ?_ | refine d_rem 14 ?_ | refine d_quo 14 ?_ | refine d_shrv 14 ?_ | refine d_fieldat 14 ?_ | refine d_idx1 14 ?_ | refine d_index 14 ?_ | refine d_conv64 14 ?_ | refine d_slices 14 ?_ | refine d_concat 14 ?_ | refine d_build 14 ?_)
  (first | refine d_pure 15 ?_ | refine d_load 15 ?_ | refine d_arith 15 ?_ | refine d_rem 15 ?_ | refine d_quo 15 ?_ | refine d_shrv 15 ?_ | refine d_fieldat 15 ?_ | refine d_idx1 15 ?_ | refine d_index 15 ?_ | refine d_conv64 15 ?_ | refine d_slices 15 ?_ | refine d_concat 15 ?_ | refine d_build 15 ?_)
  refine d_two 16 17 ?_ ?_
  · refine d_ovia 16 (X := Nat) (h1 := by refine s_built fun r => ?_; exact run_fin r) (h := fun r1 => ?_)
    refine d_via 17 (X := Nat) (h1 := by refine s_callx (widths_spec q) fun r => ?_; exact run_fin r) (h := fun w1 => ?_)
    refine d_via1 18 (h1 := by refine s_call (cl r1 w1) ?_; exact run_fin1) (h := ?_)
    (first | refine d_pure 19 ?_ | refine d_load 19 ?_ | refine d_arith 19 ?_ | refine d_rem 19 ?_ | refine d_quo 19 ?_ | refine d_shrv 19 ?_ | refine d_fieldat 19 ?_ | refine d_idx1 19 ?_ | refine d_index 19 ?_ | refine d_conv64 19 ?_ | refine d_slices 19 ?_ | refine d_concat 19 ?_ | refine d_build 19 ?_)
    (first | refine d_pure 20 ?_ | refine d_load 20 ?_ | refine d_arith 20 ?_ | refine d_rem 20 ?_ | refine d_quo 20 ?_ | refine d_shrv 20 ?_ | refine d_fieldat 20 ?_ | refine d_idx1 20 ?_ | refine d_index 20 ?_ | refine d_conv64 20 ?_ | refine d_slices 20 ?_ | refine d_concat 20 ?_ | refine d_build 20 ?_)
    (first | refine d_pure 21 ?_ | refine d_load 21 ?_ | refine d_arith 21 ?_ | refine d_rem 21 ?_ | refine d_quo 21 ?_ | refine d_shrv 21 ?_ | refine d_fieldat 21 ?_ | refine d_idx1 21 ?_ | refine d_index 21 ?_ | refine d_conv64 21 ?_ | refine d_slices 21 ?_ | refine d_concat 21 ?_ | refine d_build 21 ?_)
    (first | refine d_pure 22 ?_ | refine d_load 22 ?_ | refine d_arith 22 ?_ | refine d_rem 22 ?_ | refine d_quo 22 ?_ | refine d_shrv 22 ?_ | refine d_fieldat 22 ?_ | refine d_idx1 22 ?_ | refine d_index 22 ?_ | refine d_conv64 22 ?_ | refine d_slices 22 ?_ | refine d_concat 22 ?_ | refine d_build 22 ?_)
    (first | refine d_pure 23 ?_ | refine d_load 23 ?_ | refine d_arith 23 ?_ | refine d_rem 23 ?_ | refine d_quo 23 ?_ | refine d_shrv 23 ?_ | refine d_fieldat 23 ?_ | refine d_idx1 23 ?_ | refine d_index 23 ?_ | refine d_conv64 23 ?_ | refine d_slices 23 ?_ | refine d_concat 23 ?_ | refine d_build 23 ?_)
    refine d_done ?_
    cases hok : (fldH h).all okN with
    | false =>
      unfold laidF headF
      rw [hok, if_neg (by decide), if_neg (by decide)]
      (repeat (first | refine g ?_))
      exact run_ret rfl (imp_RD rfl shut)
    | true =>
      unfold laidF headF
      rw [hok, if_pos rfl, if_pos rfl]
      dsimp only
      have z0 : (⟨#[71, 82, 80, 78]⟩ : ByteArray).size = 4 := rfl
      have z1 : (bl (numsL (fldH h))).size = 36 := by show (numsL (fldH h)).toArray.size = 36; rw [List.size_toArray, numsL_len]; rfl
      have z2 : ((⟨#[71, 82, 80, 78]⟩ : ByteArray) ++ bl (numsL (fldH h))).size = 40 := by rw [ByteArray.size_append]; omega
      have z3 := bl0_size 8
      have e1 : (⟨#[71, 82, 80, 78]⟩ : ByteArray) ++ bl (numsL (fldH h)) ++ bl (List.replicate 8 0) = bl (headL h) := by
        unfold headL bl
        exact ByteArray.ext (by simp [magicL])
      have cn : FnD Tryz.prog q 73 [.int .i64 8] [] (.string (bl (List.replicate 8 0))) [] := noughts_spec q 8 (by decide)
      obtain ⟨Z, hZ⟩ : ∃ Z, Z = bl (List.replicate 8 0) := ⟨_, rfl⟩
      rw [← hZ] at cn e1 z3
      (repeat (first | refine g ?_))
      refine s_call cn ?_
      (repeat (first | refine g ?_))
      rw [e1]
      exact run_ret rfl (imp_RD rfl shut)
  · refine d_ovia 17 (X := Nat) (h1 := by refine s_callx (widths_spec q) fun r => ?_; exact run_fin r) (h := fun w1 => ?_)
    refine d_via 16 (X := Nat) (h1 := by refine s_built fun r => ?_; exact run_fin r) (h := fun r1 => ?_)
    refine d_via1 18 (h1 := by refine s_call (cl r1 w1) ?_; exact run_fin1) (h := ?_)
    (first | refine d_pure 19 ?_ | refine d_load 19 ?_ | refine d_arith 19 ?_ | refine d_rem 19 ?_ | refine d_quo 19 ?_ | refine d_shrv 19 ?_ | refine d_fieldat 19 ?_ | refine d_idx1 19 ?_ | refine d_index 19 ?_ | refine d_conv64 19 ?_ | refine d_slices 19 ?_ | refine d_concat 19 ?_ | refine d_build 19 ?_)
    (first | refine d_pure 20 ?_ | refine d_load 20 ?_ | refine d_arith 20 ?_ | refine d_rem 20 ?_ | refine d_quo 20 ?_ | refine d_shrv 20 ?_ | refine d_fieldat 20 ?_ | refine d_idx1 20 ?_ | refine d_index 20 ?_ | refine d_conv64 20 ?_ | refine d_slices 20 ?_ | refine d_concat 20 ?_ | refine d_build 20 ?_)
    (first | refine d_pure 21 ?_ | refine d_load 21 ?_ | refine d_arith 21 ?_ | refine d_rem 21 ?_ | refine d_quo 21 ?_ | refine d_shrv 21 ?_ | refine d_fieldat 21 ?_ | refine d_idx1 21 ?_ | refine d_index 21 ?_ | refine d_conv64 21 ?_ | refine d_slices 21 ?_ | refine d_concat 21 ?_ | refine d_build 21 ?_)
    (first | refine d_pure 22 ?_ | refine d_load 22 ?_ | refine d_arith 22 ?_ | refine d_rem 22 ?_ | refine d_quo 22 ?_ | refine d_shrv 22 ?_ | refine d_fieldat 22 ?_ | refine d_idx1 22 ?_ | refine d_index 22 ?_ | refine d_conv64 22 ?_ | refine d_slices 22 ?_ | refine d_concat 22 ?_ | refine d_build 22 ?_)
    (first | refine d_pure 23 ?_ | refine d_load 23 ?_ | refine d_arith 23 ?_ | refine d_rem 23 ?_ | refine d_quo 23 ?_ | refine d_shrv 23 ?_ | refine d_fieldat 23 ?_ | refine d_idx1 23 ?_ | refine d_index 23 ?_ | refine d_conv64 23 ?_ | refine d_slices 23 ?_ | refine d_concat 23 ?_ | refine d_build 23 ?_)
    refine d_done ?_
    cases hok : (fldH h).all okN with
    | false =>
      unfold laidF headF
      rw [hok, if_neg (by decide), if_neg (by decide)]
      (repeat (first | refine g ?_))
      exact run_ret rfl (imp_RD rfl shut)
    | true =>
      unfold laidF headF
      rw [hok, if_pos rfl, if_pos rfl]
      dsimp only
      have z0 : (⟨#[71, 82, 80, 78]⟩ : ByteArray).size = 4 := rfl
      have z1 : (bl (numsL (fldH h))).size = 36 := by show (numsL (fldH h)).toArray.size = 36; rw [List.size_toArray, numsL_len]; rfl
      have z2 : ((⟨#[71, 82, 80, 78]⟩ : ByteArray) ++ bl (numsL (fldH h))).size = 40 := by rw [ByteArray.size_append]; omega
      have z3 := bl0_size 8
      have e1 : (⟨#[71, 82, 80, 78]⟩ : ByteArray) ++ bl (numsL (fldH h)) ++ bl (List.replicate 8 0) = bl (headL h) := by
        unfold headL bl
        exact ByteArray.ext (by simp [magicL])
      have cn : FnD Tryz.prog q 73 [.int .i64 8] [] (.string (bl (List.replicate 8 0))) [] := noughts_spec q 8 (by decide)
      obtain ⟨Z, hZ⟩ : ∃ Z, Z = bl (List.replicate 8 0) := ⟨_, rfl⟩
      rw [← hZ] at cn e1 z3
      (repeat (first | refine g ?_))
      refine s_call cn ?_
      (repeat (first | refine g ?_))
      rw [e1]
      exact run_ret rfl (imp_RD rfl shut)
end Go.Proofs.YtaiocnpecaecdaaGreatDoor.V
namespace Go.Proofs.YtaiocnpecaecdaaGreatDoor.V
open Go.Proofs.YtaiocnpecaecdaaGreatDoor.VL Go.Proofs.YtaiocnpecaecdaaGreatDoor.VL.RD Go.Proofs.YtaiocnpecaecdaaGreatDoor.VL.Sha
attribute [local irreducible] Run numB
def BlksQ (q : View) (p : Option Addr) (l : List BlockT) : Prop := RowQ q p l.length 3 (l.flatMap encBk) ∧ ∀ x ∈ l, BlockOk x
theorem encBk_at (l : List BlockT) (i : Nat) (x : BlockT) (h : l[i]? = some x) (j : Nat) (hj : j < 3) : (l.flatMap encBk)[i * 3 + j]? = (encBk x)[j]? := by
  induction l generalizing i with
  | nil => cases h
  | cons y l ih =>
    rw [List.flatMap_cons]
    have e5 : (encBk y).length = 3 := rfl
    cases i with
    | zero =>
      obtain rfl := Option.some.inj h
      rw [List.getElem?_append_left (by omega)]; congr 1; omega
    | succ i =>
      rw [List.getElem?_append_right (by omega), e5, show (i + 1) * 3 + j - 3 = i * 3 + j by omega]
      exact ih i h
theorem writesF_succ (l : List BlockT) (i : Nat) (x : BlockT) (h : l[i]? = some x) : ((l.take (i + 1)).map blkW) = (l.take i).map blkW ++ [blkW x] := by
  rw [List.take_add_one, h, List.map_append]
  rfl
theorem encWs_one (l : List WriteT) (w : WriteT) : encWs (l ++ [w]) = encWs l ++ [.int .i64 w.at_, .string w.raw] := by
  unfold encWs
  rw [List.flatMap_append]
  rfl
set_option maxHeartbeats 4000000 in
theorem writes12_spec (q : View) (lp : Option Addr) (lc : Nat) (l : List BlockT) (hq : BlksQ q lp l) (hl : l.length ≤ 9223372036854775807) :
    FnX Tryz.prog q 26 [.slice lp l.length lc] [] (fun r : Option Addr × Nat => .slice r.1 (writesF l).length r.2) fun r => [sl r.1 (writesF l).length r.2 54 2 (encWs (writesF l))] := by
  have hlen := writesF_len l
  rw [hlen]
  (first | refine FnD.go Tryz.call26 Tryz.func26 rfl rfl rfl ?_ | refine FnX.go Tryz.call26 Tryz.func26 rfl rfl rfl ?_)
  (repeat (first | refine g ?_))
  refine run_cutI (X := Option Addr × Nat) (fun _ => True) (fun x => [(3, .slice x.1 (min 30 l.length) x.2)]) (fun x => [sl x.1 (min 30 l.length) x.2 54 2 (encWs (writesF l))]) ?_ fun r _ => ?_
  · refine run_nil0 (t := 54) (kk := 2) ?_
    refine run_loopI (X := Nat × Option Addr × Nat) (fun x => x.1 ≤ l.length ∧ x.1 ≤ 30) (fun x => [(0, .slice lp l.length lc), (3, .slice x.2.1 x.1 x.2.2), (4, .int .i64 (x.1 : Int))])
      (fun x => [sl x.2.1 x.1 x.2.2 54 2 (encWs ((l.take x.1).map blkW))]) (fun x => 30 - x.1) (0, none, 0) ⟨Nat.zero_le _, by decide⟩ fct ?_ ?_
    · rw [List.take_zero]
      exact shut
    intro ⟨i, wp, wc⟩ ⟨hi, hi30⟩
    dsimp only at hi hi30 ⊢
    by_cases h1 : i < l.length
    · by_cases h2 : i < 30
      · obtain ⟨x, hx⟩ : ∃ x, l[i]? = some x := ⟨_, List.getElem?_eq_getElem h1⟩
        have hxo := hq.2 x (List.mem_of_getElem? hx)
        obtain ⟨bs, os, ep, ho⟩ := hq.1.old (by omega)
        subst ep
        have hx0 := encBk_at l i x hx 0 (by omega)
        have hx1 := encBk_at l i x hx 1 (by omega)
        have hx2 := encBk_at l i x hx 2 (by omega)
        have ch := rhead_spec q (hAt x.at_) (by
          have a0 := hxo.a0
          have a1 := hxo.a1
          constructor <;> (unfold hAt; dsimp only; omega))
        have ct1 := text12_spec q x.v 48 hxo.v0 hxo.v1 (by decide)
        have ct2 := text12_spec q x.v 464 hxo.v0 hxo.v1 (by decide)
        have hb1 : (bytesF x.v 48).size = 48 := bytesF_size _ _
        have hb2 : (bytesF x.v 464).size = 464 := bytesF_size _ _
        have hel := encWs_len ((l.take i).map blkW)
        rw [List.length_map, List.length_take, Nat.min_eq_left hi] at hel
        have eW : [Value.int .i64 x.at_, .string (blkH x ++ bytesF x.v 464)] = [.int .i64 (blkW x).at_, .string (blkW x).raw] := rfl
        have eH : blkH x = if (headF (hAt x.at_)).2 ≠ 0 ∨ x.bad = true then bytesF x.v 48 else (headF (hAt x.at_)).1 := rfl
        have hHz := blkH_size x
        generalize blkH x = HH at *
        generalize bytesF x.v 464 = T2 at *
        generalize bytesF x.v 48 = T1 at *
        generalize headF (hAt x.at_) = HF at *
        obtain ⟨ht, he⟩ := HF
        unfold hAt encH at ch
        dsimp only at ch eH
        by_cases h3 : he ≠ 0
        · rw [if_pos (.inl h3)] at eH
          subst eH
          (repeat (first | refine g ?_))
          refine s_idxo (kk := 3) (os + i * 3) ?_
          (repeat (first | refine g ?_))
          refine s_loado (j := i * 3) ho hx0 ?_
          (repeat (first | refine g ?_))
          refine s_call ch ?_
          (repeat (first | refine g ?_))
          refine s_idxo (kk := 3) (os + i * 3) ?_
          (repeat (first | refine g ?_))
          refine s_loado (j := i * 3 + 1) ho hx1 ?_
          (repeat (first | refine g ?_))
          refine s_call ct1 ?_
          (repeat (first | refine g ?_))
          refine d_start [sl wp i wc 54 2 (encWs ((l.take i).map blkW))] ?_
          (first | refine d_pure 0 ?_ | refine d_load 0 ?_ | refine d_arith 0 ?_ | refine d_rem 0 ?_ | refine d_quo 0 ?_ | refine d_shrv 0 ?_ | refine d_fieldat 0 ?_ | refine d_idx1 0 ?_ | refine d_index 0 ?_ | refine d_conv64 0 ?_ | refine d_slices 0 ?_ | refine d_concat 0 ?_ | refine d_build 0 ?_)
          (first | refine d_pure 1 ?_ | refine d_load 1 ?_ | refine d_arith 1 ?_ | refine d_rem 1 ?_ | refine d_quo 1 ?_ | refine d_shrv 1 ?_ | refine d_fieldat 1 ?_ | refine d_idx1 1 ?_ | refine d_index 1 ?_ | refine d_conv64 1 ?_ | refine d_slices 1 ?_ | refine d_concat 1 ?_ | refine d_build 1 ?_)
          (first | refine d_pure 2 ?_ | refine d_load 2 ?_ | refine d_arith 2 ?_ | refine d_rem 2 ?_ | refine d_quo 2 ?_ | refine d_shrv 2 ?_ | refine d_fieldat 2 ?_ | refine d_idx1 2 ?_ | refine d_index 2 ?_ | refine d_conv64 2 ?_ | refine d_slices 2 ?_ | refine d_concat 2 ?_ | refine d_build 2 ?_)
          refine d_idxo 3 (kk := 3) (os + i * 3) ?_
          (first | refine d_pure 4 ?_ | refine d_load 4 ?_ | refine d_arith 4 ?_ | refine d_rem 4 ?_ | refine d_quo 4 ?_ | refine d_shrv 4 ?_ | refine d_fieldat 4 ?_ | refine d_idx1 4 ?_ | refine d_index 4 ?_ | refine d_conv64 4 ?_ | refine d_slices 4 ?_ | refine d_concat 4 ?_ | refine d_build 4 ?_)
          refine d_loado 5 (j := i * 3) ho hx0 ?_
          (first | refine d_pure 6 ?_ | refine d_load 6 ?_ | refine d_arith 6 ?_ | refine d_rem 6 ?_ | refine d_quo 6 ?_ | refine d_shrv 6 ?_ | refine d_fieldat 6 ?_ | refine d_idx1 6 ?_ | refine d_index 6 ?_ | refine d_conv64 6 ?_ | refine d_slices 6 ?_ | refine d_concat 6 ?_ | refine d_build 6 ?_)
          (first | refine d_pure 7 ?_ | refine d_load 7 ?_ | refine d_arith 7 ?_ | refine d_rem 7 ?_ | refine d_quo 7 ?_ | refine d_shrv 7 ?_ | refine d_fieldat 7 ?_ | refine d_idx1 7 ?_ | refine d_index 7 ?_ | refine d_conv64 7 ?_ | refine d_slices 7 ?_ | refine d_concat 7 ?_ | refine d_build 7 ?_)
          (first | refine d_pure 8 ?_ | refine d_load 8 ?_ | refine d_arith 8 ?_ | refine d_rem 8 ?_ | refine d_quo 8 ?_ | refine d_shrv 8 ?_ | refine d_fieldat 8 ?_ | refine d_idx1 8 ?_ | refine d_index 8 ?_ | refine d_conv64 8 ?_ | refine d_slices 8 ?_ | refine d_concat 8 ?_ | refine d_build 8 ?_)
          refine d_idxo 9 (kk := 3) (os + i * 3) ?_
          (first | refine d_pure 10 ?_ | refine d_load 10 ?_ | refine d_arith 10 ?_ | refine d_rem 10 ?_ | refine d_quo 10 ?_ | refine d_shrv 10 ?_ | refine d_fieldat 10 ?_ | refine d_idx1 10 ?_ | refine d_index 10 ?_ | refine d_conv64 10 ?_ | refine d_slices 10 ?_ | refine d_concat 10 ?_ | refine d_build 10 ?_)
          refine d_loado 11 (j := i * 3 + 1) ho hx1 ?_
          refine d_call 12 ct2 ?_
          (first | refine d_pure 13 ?_ | refine d_load 13 ?_ | refine d_arith 13 ?_ | refine d_rem 13 ?_ | refine d_quo 13 ?_ | refine d_shrv 13 ?_ | refine d_fieldat 13 ?_ | refine d_idx1 13 ?_ | refine d_index 13 ?_ | refine d_conv64 13 ?_ | refine d_slices 13 ?_ | refine d_concat 13 ?_ | refine d_build 13 ?_)
          (first | refine d_pure 14 ?_ | refine d_load 14 ?_ | refine d_arith 14 ?_ | refine d_rem 14 ?_ | refine d_quo 14 ?_ | refine d_shrv 14 ?_ | refine d_fieldat 14 ?_ | refine d_idx1 14 ?_ | refine d_index 14 ?_ | refine d_conv64 14 ?_ | refine d_slices 14 ?_ | refine d_concat 14 ?_ | refine d_build 14 ?_)
          refine d_via 15 (X := Nat) (h1 := by refine s_built fun r => ?_; exact run_fin r) (h := fun rb => ?_)
          refine d_via 16 (X := Option Addr × Nat) (h1 := by refine s_app 2 24 (reads_own At.head rfl) (hxl := by rw [hel]) fun r => ?_; exact run_fin r) (h := fun r => ?_)
          (first | refine d_pure 17 ?_ | refine d_load 17 ?_ | refine d_arith 17 ?_ | refine d_rem 17 ?_ | refine d_quo 17 ?_ | refine d_shrv 17 ?_ | refine d_fieldat 17 ?_ | refine d_idx1 17 ?_ | refine d_index 17 ?_ | refine d_conv64 17 ?_ | refine d_slices 17 ?_ | refine d_concat 17 ?_ | refine d_build 17 ?_)
          refine d_done ?_
          (repeat (first | refine g ?_))
          refine run_stop_loop (i + 1, r.1, r.2) ⟨⟨by dsimp only; omega, by dsimp only; omega⟩, by dsimp only; omega⟩ fct ?_
          dsimp only
          rw [writesF_succ l i x hx, encWs_one, ← eW]
          exact shut
        have h3 : he = 0 := Decidable.not_not.1 h3
        subst h3
        cases hbad : x.bad with
        | true =>
          rw [show (encBk x)[2]? = some (.bool x.bad) from rfl, hbad] at hx2
          rw [hbad, if_pos (.inr rfl)] at eH
          subst eH
          (repeat (first | refine g ?_))
          refine s_idxo (kk := 3) (os + i * 3) ?_
          (repeat (first | refine g ?_))
          refine s_loado (j := i * 3) ho hx0 ?_
          (repeat (first | refine g ?_))
          refine s_call ch ?_
          (repeat (first | refine g ?_))
          refine s_idxo (kk := 3) (os + i * 3) ?_
          (repeat (first | refine g ?_))
          refine s_loado (j := i * 3 + 2) ho hx2 ?_
          (repeat (first | refine g ?_))
          refine s_idxo (kk := 3) (os + i * 3) ?_
          (repeat (first | refine g ?_))
          refine s_loado (j := i * 3 + 1) ho hx1 ?_
          (repeat (first | refine g ?_))
          refine s_call ct1 ?_
          (repeat (first | refine g ?_))
          refine d_start [sl wp i wc 54 2 (encWs ((l.take i).map blkW))] ?_
          (first | refine d_pure 0 ?_ | refine d_load 0 ?_ | refine d_arith 0 ?_ | refine d_rem 0 ?_ | refine d_quo 0 ?_ | refine d_shrv 0 ?_ | refine d_fieldat 0 ?_ | refine d_idx1 0 ?_ | refine d_index 0 ?_ | refine d_conv64 0 ?_ | refine d_slices 0 ?_ | refine d_concat 0 ?_ | refine d_build 0 ?_)
          (first | refine d_pure 1 ?_ | refine d_load 1 ?_ | refine d_arith 1 ?_ | refine d_rem 1 ?_ | refine d_quo 1 ?_ | refine d_shrv 1 ?_ | refine d_fieldat 1 ?_ | refine d_idx1 1 ?_ | refine d_index 1 ?_ | refine d_conv64 1 ?_ | refine d_slices 1 ?_ | refine d_concat 1 ?_ | refine d_build 1 ?_)
          (first | refine d_pure 2 ?_ | refine d_load 2 ?_ | refine d_arith 2 ?_ | refine d_rem 2 ?_ | refine d_quo 2 ?_ | refine d_shrv 2 ?_ | refine d_fieldat 2 ?_ | refine d_idx1 2 ?_ | refine d_index 2 ?_ | refine d_conv64 2 ?_ | refine d_slices 2 ?_ | refine d_concat 2 ?_ | refine d_build 2 ?_)
          refine d_idxo 3 (kk := 3) (os + i * 3) ?_
          (first | refine d_pure 4 ?_ | refine d_load 4 ?_ | refine d_arith 4 ?_ | refine d_rem 4 ?_ | refine d_quo 4 ?_ | refine d_shrv 4 ?_ | refine d_fieldat 4 ?_ | refine d_idx1 4 ?_ | refine d_index 4 ?_ | refine d_conv64 4 ?_ | refine d_slices 4 ?_ | refine d_concat 4 ?_ | refine d_build 4 ?_)
          refine d_loado 5 (j := i * 3) ho hx0 ?_
          (first | refine d_pure 6 ?_ | refine d_load 6 ?_ | refine d_arith 6 ?_ | refine d_rem 6 ?_ | refine d_quo 6 ?_ | refine d_shrv 6 ?_ | refine d_fieldat 6 ?_ | refine d_idx1 6 ?_ | refine d_index 6 ?_ | refine d_conv64 6 ?_ | refine d_slices 6 ?_ | refine d_concat 6 ?_ | refine d_build 6 ?_)
          (first | refine d_pure 7 ?_ | refine d_load 7 ?_ | refine d_arith 7 ?_ | refine d_rem 7 ?_ | refine d_quo 7 ?_ | refine d_shrv 7 ?_ | refine d_fieldat 7 ?_ | refine d_idx1 7 ?_ | refine d_index 7 ?_ | refine d_conv64 7 ?_ | refine d_slices 7 ?_ | refine d_concat 7 ?_ | refine d_build 7 ?_)
          (first | refine d_pure 8 ?_ | refine d_load 8 ?_ | refine d_arith 8 ?_ | refine d_rem 8 ?_ | refine d_quo 8 ?_ | refine d_shrv 8 ?_ | refine d_fieldat 8 ?_ | refine d_idx1 8 ?_ | refine d_index 8 ?_ | refine d_conv64 8 ?_ | refine d_slices 8 ?_ | refine d_concat 8 ?_ | refine d_build 8 ?_)
          refine d_idxo 9 (kk := 3) (os + i * 3) ?_
          (first | refine d_pure 10 ?_ | refine d_load 10 ?_ | refine d_arith 10 ?_ | refine d_rem 10 ?_ | refine d_quo 10 ?_ | refine d_shrv 10 ?_ | refine d_fieldat 10 ?_ | refine d_idx1 10 ?_ | refine d_index 10 ?_ | refine d_conv64 10 ?_ | refine d_slices 10 ?_ | refine d_concat 10 ?_ | refine d_build 10 ?_)
          refine d_loado 11 (j := i * 3 + 1) ho hx1 ?_
          refine d_call 12 ct2 ?_
          (first | refine d_pure 13 ?_ | refine d_load 13 ?_ | refine d_arith 13 ?_ | refine d_rem 13 ?_ | refine d_quo 13 ?_ | refine d_shrv 13 ?_ | refine d_fieldat 13 ?_ | refine d_idx1 13 ?_ | refine d_index 13 ?_ | refine d_conv64 13 ?_ | refine d_slices 13 ?_ | refine d_concat 13 ?_ | refine d_build 13 ?_)
          (first | refine d_pure 14 ?_ | refine d_load 14 ?_ | refine d_arith 14 ?_ | refine d_rem 14 ?_ | refine d_quo 14 ?_ | refine d_shrv 14 ?_ | refine d_fieldat 14 ?_ | refine d_idx1 14 ?_ | refine d_index 14 ?_ | refine d_conv64 14 ?_ | refine d_slices 14 ?_ | refine d_concat 14 ?_ | refine d_build 14 ?_)
          refine d_via 15 (X := Nat) (h1 := by refine s_built fun r => ?_; exact run_fin r) (h := fun rb => ?_)
          refine d_via 16 (X := Option Addr × Nat) (h1 := by refine s_app 2 24 (reads_own At.head rfl) (hxl := by rw [hel]) fun r => ?_; exact run_fin r) (h := fun r => ?_)
          (first | refine d_pure 17 ?_ | refine d_load 17 ?_ | refine d_arith 17 ?_ | refine d_rem 17 ?_ | refine d_quo 17 ?_ | refine d_shrv 17 ?_ | refine d_fieldat 17 ?_ | refine d_idx1 17 ?_ | refine d_index 17 ?_ | refine d_conv64 17 ?_ | refine d_slices 17 ?_ | refine d_concat 17 ?_ | refine d_build 17 ?_)
          refine d_done ?_
          (repeat (first | refine g ?_))
          refine run_stop_loop (i + 1, r.1, r.2) ⟨⟨by dsimp only; omega, by dsimp only; omega⟩, by dsimp only; omega⟩ fct ?_
          dsimp only
          rw [writesF_succ l i x hx, encWs_one, ← eW]
          exact shut
        | false =>
          rw [show (encBk x)[2]? = some (.bool x.bad) from rfl, hbad] at hx2
          rw [hbad, if_neg (fun h => h.elim (fun h => h rfl) (fun h => absurd h (by decide)))] at eH
          subst eH
          (repeat (first | refine g ?_))
          refine s_idxo (kk := 3) (os + i * 3) ?_
          (repeat (first | refine g ?_))
          refine s_loado (j := i * 3) ho hx0 ?_
          (repeat (first | refine g ?_))
          refine s_call ch ?_
          (repeat (first | refine g ?_))
          refine s_idxo (kk := 3) (os + i * 3) ?_
          (repeat (first | refine g ?_))
          refine s_loado (j := i * 3 + 2) ho hx2 ?_
          (repeat (first | refine g ?_))
          refine d_start [sl wp i wc 54 2 (encWs ((l.take i).map blkW))] ?_
          (first | refine d_pure 0 ?_ | refine d_load 0 ?_ | refine d_arith 0 ?_ | refine d_rem 0 ?_ | refine d_quo 0 ?_ | refine d_shrv 0 ?_ | refine d_fieldat 0 ?_ | refine d_idx1 0 ?_ | refine d_index 0 ?_ | refine d_conv64 0 ?_ | refine d_slices 0 ?_ | refine d_concat 0 ?_ | refine d_build 0 ?_)
          (first | refine d_pure 1 ?_ | refine d_load 1 ?_ | refine d_arith 1 ?_ | refine d_rem 1 ?_ | refine d_quo 1 ?_ | refine d_shrv 1 ?_ | refine d_fieldat 1 ?_ | refine d_idx1 1 ?_ | refine d_index 1 ?_ | refine d_conv64 1 ?_ | refine d_slices 1 ?_ | refine d_concat 1 ?_ | refine d_build 1 ?_)
          (first | refine d_pure 2 ?_ | refine d_load 2 ?_ | refine d_arith 2 ?_ | refine d_rem 2 ?_ | refine d_quo 2 ?_ | refine d_shrv 2 ?_ | refine d_fieldat 2 ?_ | refine d_idx1 2 ?_ | refine d_index 2 ?_ | refine d_conv64 2 ?_ | refine d_slices 2 ?_ | refine d_concat 2 ?_ | refine d_build 2 ?_)
          refine d_idxo 3 (kk := 3) (os + i * 3) ?_
          (first | refine d_pure 4 ?_ | refine d_load 4 ?_ | refine d_arith 4 ?_ | refine d_rem 4 ?_ | refine d_quo 4 ?_ | refine d_shrv 4 ?_ | refine d_fieldat 4 ?_ | refine d_idx1 4 ?_ | refine d_index 4 ?_ | refine d_conv64 4 ?_ | refine d_slices 4 ?_ | refine d_concat 4 ?_ | refine d_build 4 ?_)
          refine d_loado 5 (j := i * 3) ho hx0 ?_
          (first | refine d_pure 6 ?_ | refine d_load 6 ?_ | refine d_arith 6 ?_ | refine d_rem 6 ?_ | refine d_quo 6 ?_ | refine d_shrv 6 ?_ | refine d_fieldat 6 ?_ | refine d_idx1 6 ?_ | refine d_index 6 ?_ | refine d_conv64 6 ?_ | refine d_slices 6 ?_ | refine d_concat 6 ?_ | refine d_build 6 ?_)
          (first | refine d_pure 7 ?_ | refine d_load 7 ?_ | refine d_arith 7 ?_ | refine d_rem 7 ?_ | refine d_quo 7 ?_ | refine d_shrv 7 ?_ | refine d_fieldat 7 ?_ | refine d_idx1 7 ?_ | refine d_index 7 ?_ | refine d_conv64 7 ?_ | refine d_slices 7 ?_ | refine d_concat 7 ?_ | refine d_build 7 ?_)
          (first | refine d_pure 8 ?_ | refine d_load 8 ?_ | refine d_arith 8 ?_ | refine d_rem 8 ?_ | refine d_quo 8 ?_ | refine d_shrv 8 ?_ | refine d_fieldat 8 ?_ | refine d_idx1 8 ?_ | refine d_index 8 ?_ | refine d_conv64 8 ?_ | refine d_slices 8 ?_ | refine d_concat 8 ?_ | refine d_build 8 ?_)
          refine d_idxo 9 (kk := 3) (os + i * 3) ?_
          (first | refine d_pure 10 ?_ | refine d_load 10 ?_ | refine d_arith 10 ?_ | refine d_rem 10 ?_ | refine d_quo 10 ?_ | refine d_shrv 10 ?_ | refine d_fieldat 10 ?_ | refine d_idx1 10 ?_ | refine d_index 10 ?_ | refine d_conv64 10 ?_ | refine d_slices 10 ?_ | refine d_concat 10 ?_ | refine d_build 10 ?_)
          refine d_loado 11 (j := i * 3 + 1) ho hx1 ?_
          refine d_call 12 ct2 ?_
          (first | refine d_pure 13 ?_ | refine d_load 13 ?_ | refine d_arith 13 ?_ | refine d_rem 13 ?_ | refine d_quo 13 ?_ | refine d_shrv 13 ?_ | refine d_fieldat 13 ?_ | refine d_idx1 13 ?_ | refine d_index 13 ?_ | refine d_conv64 13 ?_ | refine d_slices 13 ?_ | refine d_concat 13 ?_ | refine d_build 13 ?_)
          (first | refine d_pure 14 ?_ | refine d_load 14 ?_ | refine d_arith 14 ?_ | refine d_rem 14 ?_ | refine d_quo 14 ?_ | refine d_shrv 14 ?_ | refine d_fieldat 14 ?_ | refine d_idx1 14 ?_ | refine d_index 14 ?_ | refine d_conv64 14 ?_ | refine d_slices 14 ?_ | refine d_concat 14 ?_ | refine d_build 14 ?_)
          refine d_via 15 (X := Nat) (h1 := by refine s_built fun r => ?_; exact run_fin r) (h := fun rb => ?_)
          refine d_via 16 (X := Option Addr × Nat) (h1 := by refine s_app 2 24 (reads_own At.head rfl) (hxl := by rw [hel]) fun r => ?_; exact run_fin r) (h := fun r => ?_)
          (first | refine d_pure 17 ?_ | refine d_load 17 ?_ | refine d_arith 17 ?_ | refine d_rem 17 ?_ | refine d_quo 17 ?_ | refine d_shrv 17 ?_ | refine d_fieldat 17 ?_ | refine d_idx1 17 ?_ | refine d_index 17 ?_ | refine d_conv64 17 ?_ | refine d_slices 17 ?_ | refine d_concat 17 ?_ | refine d_build 17 ?_)
          refine d_done ?_
          (repeat (first | refine g ?_))
          refine run_stop_loop (i + 1, r.1, r.2) ⟨⟨by dsimp only; omega, by dsimp only; omega⟩, by dsimp only; omega⟩ fct ?_
          dsimp only
          rw [writesF_succ l i x hx, encWs_one, ← eW]
          exact shut
      · have e : i = min 30 l.length := by omega
        have e2 : (l.take i).map blkW = writesF l := by
          obtain rfl : i = 30 := by omega
          rfl
        rw [e2]
        (repeat (first | refine g ?_))
        refine run_stop_loop (wp, wc) trivial ?_ ?_
        · rw [← e]; exact fct
        · rw [← e]; exact shut
    · have e : i = min 30 l.length := by omega
      have e2 : (l.take i).map blkW = writesF l := by
        unfold writesF
        rw [List.take_of_length_le (by omega), List.take_of_length_le (by omega)]
      rw [e2]
      (repeat (first | refine g ?_))
      refine run_stop_loop (wp, wc) trivial ?_ ?_
      · rw [← e]; exact fct
      · rw [← e]; exact shut
  · (repeat (first | refine g ?_))
    exact run_ret rfl (imp_RX r rfl shut)
end Go.Proofs.YtaiocnpecaecdaaGreatDoor.V
namespace Go.Proofs.YtaiocnpecaecdaaGreatDoor.V
open Go.Proofs.YtaiocnpecaecdaaGreatDoor.VL Go.Proofs.YtaiocnpecaecdaaGreatDoor.VL.RD Go.Proofs.YtaiocnpecaecdaaGreatDoor.VL.Sha
attribute [local irreducible] Run numB
def supX (e : Int) : SuperT := ⟨7, e, 5, 48, bytesF 3 32⟩
def h40 : HeadT := ⟨0, 40, 0, 0, 0, 0, 0, 0⟩
def w40 : WriteT := ⟨40, (headF h40).1 ++ bytesF 1 464⟩
theorem w40_size : w40.raw.size = 512 := by
  show ((headF h40).1 ++ bytesF 1 464).size = 512
  rw [ByteArray.size_append, bytesF_size]
  have : headF h40 = (bl (headL h40), 0) := by unfold headF; rw [if_pos (by decide)]
  rw [this]
  show (bl (headL h40)).size + 464 = 512
  rw [bl_size, headL_len]
theorem w40_head : headOfF (w40.raw.extract 0 48) = (h40, 0) := by
  have hf : headF h40 = (bl (headL h40), 0) := by unfold headF; rw [if_pos (by decide)]
  have e : w40.raw.extract 0 48 = bl (headL h40) := by
    show ((headF h40).1 ++ bytesF 1 464).extract 0 48 = _
    rw [hf]
    exact ext_l (by rw [bl_size, headL_len])
  have hg := headGood_head w40.raw h40 e
  unfold headGood at hg
  rw [e] at hg ⊢
  unfold headOfF
  rw [if_pos hg, headP_back h40 (by decide)]
theorem may40 : mayF 48 [w40] = true := by
  have e1 : w40.at_ = 40 := rfl
  unfold mayF mayG
  rw [w40_head, e1, if_neg, if_neg]
  · rfl
  · rintro (h | h)
    · exact h rfl
    · exact h rfl
  · rintro (h | h | h)
    · exact absurd h (by decide)
    · exact absurd h (by decide)
    · exact h w40_size
theorem supX_root (e : Int) : (supX e).root.size = 32 := bytesF_size 3 32
theorem live784 (d : PSt) (h : d.sectors = 784) : liveF d.sectors = (48, 0) := by
  rw [h]
  exact live_some (l := 48) (by decide) (by decide) (by decide)
theorem slot_ok (h : HeadT) (x : SuperT) (a : Int) (hk : h.kind = 1) (hr : x.root.size = 32) (hf : (fldSu x).all okN = true) (ha : x.epoch % 2 = a) (hl : x.live = 48) : slotF ⟨true, h, bl (superL x)⟩ a 48 = (x, true) := by
  unfold slotF
  rw [if_neg]
  · rw [superOf_back x hr hf, if_neg]
    rintro (h | h | h)
    · exact h rfl
    · exact h ha
    · exact h hl
  · rintro (h | h)
    · exact absurd (show true = false from h) (by decide)
    · exact h hk
theorem format_ok : ∃ (D1 : PSt) (V1 : VSt) (raw0 : ByteArray), formatM idealP (blank 784) s00 (supX 0) = (0, D1, V1) ∧ Up 24 784 D1 ∧ hasB D1 0 raw0 ∧ Sealed V1 (headSu (supX 0)) (bl (superL (supX 0))) raw0 := by
  obtain ⟨raw0, e0, k0⟩ := superM_ok s00 (supX 0) (supX_root 0) (by decide) (by decide)
  have u0 : Up 0 784 (blank 784) := ⟨PW.blank 784 (by decide), rfl, rfl, rfl⟩
  obtain ⟨d1, p1, u1, b1, m1⟩ := u0.put (by decide) (1 - 0) (by decide) (by decide) blankB blankB_sz
  obtain ⟨d2, p2, u2, b2, m2⟩ := u1.put (by decide) 2 (by decide) (by decide) blankB blankB_sz
  obtain ⟨d3, p3, u3, m3⟩ := u2.flush
  obtain ⟨d4, p4, u4, b4, m4⟩ := u3.put (by decide) 0 (by decide) (by decide) raw0 k0.sz
  obtain ⟨d5, p5, u5, m5⟩ := u4.flush
  refine ⟨d5, sealS s00 (headSu (supX 0)) (bl (superL (supX 0))), raw0, ?_, u5, m5 0 raw0 (by decide) (by decide) b4, k0⟩
  unfold formatM
  rw [live784 (blank 784) rfl, if_neg]
  · dsimp only
    rw [e0]
    dsimp only
    rw [if_neg (fun h => h rfl)]
    show (stopF (dflush (dput (dflush (dput (dput (blank 784, 0) (1 - 0) blankB) 2 blankB)) 0 raw0)).2, (dflush (dput (dflush (dput (dput (blank 784, 0) (1 - 0) blankB) 2 blankB)) 0 raw0)).1, _) = _
    rw [p1, p2, p3, p4, p5]
    rfl
  · rintro (h | h)
    · exact h rfl
    · exact h rfl
theorem commit_ok (D1 : PSt) (V1 : VSt) (raw0 : ByteArray) (u : Up 24 784 D1) (b0 : hasB D1 0 raw0) (k0 : Sealed V1 (headSu (supX 0)) (bl (superL (supX 0))) raw0) :
    ∃ (D2 : PSt) (V2 : VSt) (raw1 word B : ByteArray), commitM idealP D1 V1 [w40] (supX 1) = (0, D2, V2) ∧ Up 56 784 D2 ∧ hasB D2 0 raw0 ∧ hasB D2 1 raw1 ∧ hasB D2 2 word ∧
      Sealed V2 (headSu (supX 0)) (bl (superL (supX 0))) raw0 ∧ Sealed V2 (headSu (supX 1)) (bl (superL (supX 1))) raw1 ∧ Sealed V2 (headPr (supX 1)) B word ∧ nextF B = (supX 1, 0) := by
  obtain ⟨H, hH⟩ : ∃ H, H = (idealP.hashF V1 (bl (joinedL [w40]))).1 := ⟨_, rfl⟩
  have hH32 : H.size = 32 := by rw [hH]; exact numB_size _ 32 (by decide)
  obtain ⟨z448, hn⟩ := prom_next 1 (by decide) H hH32 (supX 1) (supX_root 1) (by decide)
  have kh : Sealed (idealP.hashF V1 (bl (joinedL [w40]))).2 (headSu (supX 0)) (bl (superL (supX 0))) raw0 := k0.hash _
  obtain ⟨Vh, hVh⟩ : ∃ V : VSt, V = (idealP.hashF V1 (bl (joinedL [w40]))).2 := ⟨_, rfl⟩
  rw [← hVh] at kh
  obtain ⟨B, hB⟩ : ∃ B, B = promB 1 H (bl (superL (supX 1))) := ⟨_, rfl⟩
  rw [← hB] at z448 hn
  obtain ⟨word, ew, kw⟩ := seal_new Vh (headPr (supX 1)) B (by decide) z448
  obtain ⟨raw1, e1, k1⟩ := superM_ok (sealS Vh (headPr (supX 1)) B) (supX 1) (supX_root 1) (by decide) (by decide)
  have s448 := superB_size (supX 1) (supX_root 1)
  have kw2 := kw.seal (headSu (supX 1)) (bl (superL (supX 1))) (by decide) s448
  have k02 := (kh.seal (headPr (supX 1)) B (by decide) z448).seal (headSu (supX 1)) (bl (superL (supX 1))) (by decide) s448
  obtain ⟨d1, p1, u1, b1, m1⟩ := u.put (by decide) 3 (by decide) (by decide) w40.raw w40_size
  obtain ⟨d2, p2, u2, m2⟩ := u1.flush
  obtain ⟨d3, p3, u3, b3, m3⟩ := u2.put (by decide) 2 (by decide) (by decide) word kw.sz
  obtain ⟨d4, p4, u4, m4⟩ := u3.flush
  obtain ⟨d5, p5, u5, b5, m5⟩ := u4.put (by decide) 40 (by decide) (by decide) w40.raw w40_size
  obtain ⟨d6, p6, u6, m6⟩ := u5.flush
  obtain ⟨d7, p7, u7, b7, m7⟩ := u6.put (by decide) 1 (by decide) (by decide) raw1 k1.sz
  obtain ⟨d8, p8, u8, m8⟩ := u7.flush
  have c0 : hasB d8 0 raw0 := m8 _ _ (by decide) (by decide) (m7 _ _ (by decide) (m6 _ _ (by decide) (by decide) (m5 _ _ (by decide) (m4 _ _ (by decide) (by decide) (m3 _ _ (by decide) (m2 _ _ (by decide) (by decide) (m1 _ _ (by decide) b0)))))))
  have c2 : hasB d8 2 word := m8 _ _ (by decide) (by decide) (m7 _ _ (by decide) (m6 _ _ (by decide) (by decide) (m5 _ _ (by decide) (m4 _ _ (by decide) (by decide) b3))))
  have c1 : hasB d8 1 raw1 := m8 _ _ (by decide) (by decide) b7
  refine ⟨d8, sealS (sealS Vh (headPr (supX 1)) B) (headSu (supX 1)) (bl (superL (supX 1))), raw1, word, B, ?_, u8, c0, c1, c2, k02, k1, kw2, hn⟩
  have hp : promiseM idealP V1 [w40] (supX 1) = ((word, 0), sealS Vh (headPr (supX 1)) B) := by
    unfold promiseM
    rw [super_ok (supX 1) (supX_root 1) (by decide), if_neg (fun h => h rfl)]
    show bsealF (idealP.hashF V1 (bl (joinedL [w40]))).2 (headPr (supX 1)) (promB 1 (idealP.hashF V1 (bl (joinedL [w40]))).1 (bl (superL (supX 1)))) = _
    rw [← hH, ← hVh, ← hB, ew]
  unfold commitM
  rw [live784 D1 u.sec, if_neg (by decide), if_neg]
  · dsimp only
    rw [hp]
    dsimp only
    rw [if_neg (fun h => h rfl), e1]
    show (stopF (dflush (dput (dflush (dput (dflush (dput (dflush (dput (D1, 0) 3 w40.raw)) 2 word)) 40 w40.raw)) 1 raw1)).2, (dflush (dput (dflush (dput (dflush (dput (dflush (dput (D1, 0) 3 w40.raw)) 2 word)) 40 w40.raw)) 1 raw1)).1, _) = _
    rw [p1, p2, p3, p4, p5, p6, p7, p8]
    rfl
  · rintro (h | h | h | h | h)
    · exact absurd h (by decide)
    · exact absurd h (by decide)
    · exact h rfl
    · exact h rfl
    · rw [show (supX 1).live = 48 from rfl, may40] at h
      exact absurd h (by decide)
theorem recover_ok (D2 : PSt) (V2 : VSt) (raw0 raw1 word B : ByteArray) (u : Up 56 784 D2) (b0 : hasB D2 0 raw0) (b1 : hasB D2 1 raw1) (b2 : hasB D2 2 word) (k0 : Sealed V2 (headSu (supX 0)) (bl (superL (supX 0))) raw0)
    (k1 : Sealed V2 (headSu (supX 1)) (bl (superL (supX 1))) raw1) (kw : Sealed V2 (headPr (supX 1)) B word) (hn : nextF B = (supX 1, 0)) : (recoverM idealP D2 V2).1 = (supX 1, 0, 0) := by
  obtain ⟨g0, u0, m0⟩ := u.get (by decide) 0 (by decide) (by decide) raw0 b0
  obtain ⟨g1, u1, m1⟩ := u0.get (by decide) 1 (by decide) (by decide) raw1 (m0 _ _ b1)
  have im := u1.image 2 (by decide) (by decide) word (m1 _ _ (m0 _ _ b2))
  have l0 : loadM idealP D2 V2 0 = ⟨true, headSu (supX 0), bl (superL (supX 0))⟩ := by
    unfold loadM
    rw [g0, if_neg]
    · exact k0.told 0 rfl
    · rintro (h | h)
      · exact h rfl
      · exact h rfl
  have l1 : loadM idealP (rds D2 8) V2 1 = ⟨true, headSu (supX 1), bl (superL (supX 1))⟩ := by
    unfold loadM
    rw [g1, if_neg]
    · exact k1.told 1 rfl
    · rintro (h | h)
      · exact h rfl
      · exact h rfl
  have lk : lookM idealP V2 (rawsL (rds (rds D2 8) 8) (blocksN (rds (rds D2 8) 8))) (masksL (rds (rds D2 8) 8) (blocksN (rds (rds D2 8) 8))) 2 = ⟨true, headPr (supX 1), B⟩ := by
    unfold lookM
    rw [im, if_neg (fun h => h rfl)]
    exact kw.told 2 rfl
  have hc : chooseF [⟨true, headSu (supX 0), bl (superL (supX 0))⟩, ⟨true, headSu (supX 1), bl (superL (supX 1))⟩] 48 = (supX 1, true) := by
    unfold chooseF
    dsimp only
    rw [slot_ok (headSu (supX 0)) (supX 0) 0 rfl (supX_root 0) (by decide) rfl rfl, slot_ok (headSu (supX 1)) (supX 1) 1 rfl (supX_root 1) (by decide) rfl rfl]
    have i1 : betterF (zeroSu, false) (supX 0, true) = (supX 0, true) := if_pos ⟨rfl, .inl rfl⟩
    have i2 : betterF (supX 0, true) (supX 1, true) = (supX 1, true) := if_pos ⟨rfl, .inr (by decide)⟩
    rw [i1, i2]
  unfold recoverM
  rw [if_neg (by rw [u.up]; decide), live784 D2 u.sec, if_neg (fun h => h rfl)]
  dsimp only
  rw [l0, g0]
  dsimp only
  rw [l1, g1]
  dsimp only
  rw [hc, if_neg (by decide), if_pos]
  by_cases hf : (foundM idealP V2 48 (rawsL (rds (rds D2 8) 8) (blocksN (rds (rds D2 8) 8))) (masksL (rds (rds D2 8) 8) (blocksN (rds (rds D2 8) 8)))).1.2.2 = true
  · refine .inr ?_
    have e := found_next idealP V2 48 _ _ hf
    rw [lk] at e
    dsimp only at e
    rw [hn] at e
    rw [e]
    decide
  · exact .inl (by simpa using hf)
end Go.Proofs.YtaiocnpecaecdaaGreatDoor.V
namespace Go.Proofs.YtaiocnpecaecdaaGreatDoor.V
open Go.Proofs.YtaiocnpecaecdaaGreatDoor.VL Go.Proofs.YtaiocnpecaecdaaGreatDoor.VL.RD Go.Proofs.YtaiocnpecaecdaaGreatDoor.VL.Sha
attribute [local irreducible] Run numB
theorem toldR_no (H : HeadT) (B : ByteArray) (e a : Int) (h : (toldR H B e a).ok = false) : toldR H B e a = noR := by
  unfold toldR at *
  split at h
  · exact absurd (show true = false from h) (by decide)
  · rename_i h2; rw [if_neg h2]
theorem btoldF_no (s : VSt) (raw : ByteArray) (a : Int) (h : (btoldF s raw a).ok = false) : btoldF s raw a = noR := toldR_no _ _ _ _ h
theorem btoldF_body (s : VSt) (raw : ByteArray) (a : Int) (h : (btoldF s raw a).ok = true) : (btoldF s raw a).body.size = 448 := by
  by_cases hz : raw.size = 512
  · obtain ⟨ho, ha⟩ := (told_ok s raw a hz).1 h
    have hg : headGood raw := ((opens_iff s raw hz).1 ho).1
    have := told_open s raw (openH raw) ((raw.extract 48 512).extract 0 448) hz ho hg rfl rfl
    rw [ha] at this
    rw [this]
    show ((raw.extract 48 512).extract 0 448).size = 448
    rw [ByteArray.size_extract, ByteArray.size_extract]
    omega
  · have e : btoldF s raw a = noR := by
      unfold btoldF
      rw [bopenF_len s raw hz]
      unfold toldR
      rw [if_neg (fun h => absurd h.1 (by decide))]
    rw [e] at h
    exact absurd (show false = true from h) (by decide)
theorem btoldF_head (s : VSt) (raw : ByteArray) (a : Int) : HeadOk (btoldF s raw a).head := by
  have h := bopenF_fits s raw
  unfold btoldF toldR
  split
  · exact h.1
  · exact zeroH_ok
theorem bsealF_ok1 {n : Nat} {s : VSt} (hs : VOk n s) (h : HeadT) (X : ByteArray) : VOk (n + 1) (bsealF s h X).2 := bsealF_vok hs h X
theorem hashF_ok1 {n : Nat} {s : VSt} (hs : VOk n s) (t : ByteArray) : VOk (n + 1) { s with hs := cntL s.hs t } := by
  have hc := (cnt_le s.hs t).2
  have := hs.hs
  exact ⟨by show (cntL s.hs t).length ≤ _; omega, Nat.le_succ_of_le hs.ms, Nat.le_succ_of_le hs.es, hs.mo, hs.eo⟩
noncomputable def idealM (q : View) (v : Nat) : VM q (.pointer (some ⟨v, 0, none⟩)) idealP where
  ch := vaultAt v
  ok := VOk
  mono := fun h hm => h.mono hm
  sealOk := fun h X hs => bsealF_ok1 hs h X
  sealC := fun h X hs hn hh => bseal_ideal q v _ (hs.mono (by omega)) h hh X
  sealB := fun s h X => by
    have := bsealF_size s h X
    show (bsealF s h X).1.1.size ≤ 1000000
    omega
  hashOk := fun t hs => hashF_ok1 hs t
  hashC := fun t hs hn => hash_spec q v _ (hs.mono (by omega)) t
  hash32 := fun s t => numB_size _ 32 (by decide)
  toldC := fun raw a hs hn => btold_ideal q v _ (hs.mono (by omega)) raw a
  toldH := btoldF_head
  toldB := btoldF_body
  toldN := btoldF_no
end Go.Proofs.YtaiocnpecaecdaaGreatDoor.V
namespace Go.Proofs.YtaiocnpecaecdaaGreatDoor.V
open Go.Proofs.YtaiocnpecaecdaaGreatDoor.VL Go.Proofs.YtaiocnpecaecdaaGreatDoor.VL.RD Go.Proofs.YtaiocnpecaecdaaGreatDoor.VL.Sha
attribute [local irreducible] Run numB
theorem format_ok1 {q : View} {v : Value} {p : VP} (M : VM q v p) {n : Nat} {s : p.St} (hs : M.ok n s) (d : PSt) (x : SuperT) : M.ok (n + 1) (formatM p d s x).2.2 := by
  unfold formatM
  dsimp only
  split
  · exact M.mono hs (by omega)
  · split
    · exact superM_ok1 M hs x
    · exact superM_ok1 M hs x
theorem commit_ok1 {q : View} {v : Value} {p : VP} (M : VM q v p) {n : Nat} {s : p.St} (hs : M.ok n s) (d : PSt) (l : List WriteT) (x : SuperT) : M.ok (n + 3) (commitM p d s l x).2.2 := by
  have hp : M.ok (n + 2) (promiseM p s l x).2 := by
    unfold promiseM
    split
    · exact M.mono hs (by omega)
    · exact M.sealOk _ _ (M.hashOk _ hs)
  unfold commitM
  dsimp only
  split
  · exact M.mono hs (by omega)
  split
  · exact M.mono hs (by omega)
  split
  · exact M.mono hp (by omega)
  · exact superM_ok1 M hp x
theorem writes40 : writesF [⟨40, 1, false⟩] = [w40] := by
  have e : headF (hAt 40) = (bl (headL (hAt 40)), 0) := by unfold headF; rw [if_pos (by decide)]
  unfold writesF
  show [blkW ⟨40, 1, false⟩] = [w40]
  unfold blkW blkR blkH
  dsimp only
  rw [e, if_neg]
  · unfold w40
    rw [show headF h40 = headF (hAt 40) from rfl, e]
  · rintro (h | h)
    · exact h rfl
    · exact absurd h (by decide)
theorem supX_ok (e : Int) (h0 : 0 ≤ e) (h1 : e ≤ 100) : SuperOk (supX e) := by
  have hr : (supX e).root.size = 32 := supX_root e
  constructor
  · show (-9223372036854775808 : Int) ≤ 7; decide
  · show (7 : Int) ≤ 9223372036854775807; decide
  · show -9223372036854775808 ≤ e; omega
  · show e ≤ 9223372036854775807; omega
  · show (-9223372036854775808 : Int) ≤ 5; decide
  · show (5 : Int) ≤ 9223372036854775807; decide
  · show (-9223372036854775808 : Int) ≤ 48; decide
  · show (48 : Int) ≤ 9223372036854775807; decide
  · rw [hr]; decide
theorem writes40_spec (q : View) (rs : Nat) : FnX Tryz.prog q 26 [.slice (some ⟨rs, 0, none⟩) 1 1] [cells rs 98 ⟨[.int .i64 40, .int .u8 1, .bool false]⟩] (fun r : Option Addr × Nat => .slice r.1 ([w40] : List WriteT).length r.2) fun r => [cells rs 98 ⟨[.int .i64 40, .int .u8 1, .bool false]⟩, sl r.1 ([w40] : List WriteT).length r.2 54 2 (encWs [w40])] := by
  rw [← writes40]
  exact FnX.lend Tryz.call26 fun q' hX hx hs' hq => writes12_spec q' (some ⟨rs, 0, none⟩) 1 [⟨40, 1, false⟩] ⟨RowQ.of_cells hx hs' rfl, fun x hx => by
    obtain rfl := List.mem_singleton.1 hx
    exact ⟨by show (-9223372036854775808 : Int) ≤ 40; decide, by show (40 : Int) ≤ 9223372036854775807; decide, by show (0 : Int) ≤ 1; decide, by show (1 : Int) ≤ 255; decide⟩⟩ (by show 1 ≤ _; decide)
set_option maxHeartbeats 4000000 in
theorem awake12_spec (q : View) (hE : ErrQ q) : FnD Tryz.prog q 15 [] [] (.bool true) [] := by
  obtain ⟨D1, V1, raw0, e1, u1, b0, k0⟩ := format_ok
  obtain ⟨D2, V2, raw1, word, B, e2, u2, c0, c1, c2, s0, s1, sw, hn⟩ := commit_ok D1 V1 raw0 u1 b0 k0
  have e3 := recover_ok D2 V2 raw0 raw1 word B u2 c0 c1 c2 s0 s1 sw hn
  have cs : FnD Tryz.prog q 25 [.int .i64 48] [] (.int .i64 784) [] := sectors12_spec q 48 (by decide) (by decide)
  have w0 : ∀ v : Nat × Nat, FnD Tryz.prog q 23 [.pointer (some ⟨v.1, 0, none⟩), .pointer (some ⟨v.2, 0, none⟩), .agg ⟨encSu (supX 0)⟩] [plateAt v.1 (blank 784), vaultAt v.2 s00] (.int .i64 0) [plateAt v.1 D1, vaultAt v.2 V1] := fun v => by
    have := jformat_spec hE (idealM q v.2) (s := s00) (n := 0) s00_ok (by decide) (supX 0) (supX_ok 0 (by decide) (by decide)) v.1 0 (blank 784) (PW.blank 784 (by decide)) (by decide)
    rw [e1] at this
    exact this
  have o1 : VOk 1 V1 := by
    have := format_ok1 (idealM q 0) (s := s00) (n := 0) s00_ok (blank 784) (supX 0)
    rw [e1] at this
    exact this
  have w1 : ∀ v : (Nat × Nat) × Option Addr × Nat, FnD Tryz.prog q 21 [.pointer (some ⟨v.1.1, 0, none⟩), .pointer (some ⟨v.1.2, 0, none⟩), .slice v.2.1 ([w40] : List WriteT).length v.2.2, .agg ⟨encSu (supX 1)⟩] [plateAt v.1.1 D1, sl v.2.1 ([w40] : List WriteT).length v.2.2 54 2 (encWs [w40]), vaultAt v.1.2 V1] (.int .i64 0) [plateAt v.1.1 D2, sl v.2.1 ([w40] : List WriteT).length v.2.2 54 2 (encWs [w40]), vaultAt v.1.2 V2] := fun v => by
    have := commit_spec hE (idealM q v.1.2) (s := V1) (n := 1) o1 (by decide) (supX 1) (supX_ok 1 (by decide) (by decide)) v.1.1 24 D1 u1.pw (by decide) v.2.1 v.2.2 [w40] (fun w hw => by
      obtain rfl := List.mem_singleton.1 hw
      have hz := w40_size
      exact ⟨by show (-9223372036854775808 : Int) ≤ 40; decide, by show (40 : Int) ≤ 9223372036854775807; decide, by omega⟩) (by show 1 ≤ 1000; decide)
    rw [e2] at this
    exact this
  have o2 : VOk 4 V2 := by
    have := commit_ok1 (idealM q 0) (s := V1) (n := 1) o1 D1 [w40] (supX 1)
    rw [e2] at this
    exact this
  have w2 : ∀ v : Nat × Nat, FnD Tryz.prog q 20 [.pointer (some ⟨v.1, 0, none⟩), .pointer (some ⟨v.2, 0, none⟩)] [plateAt v.1 D2, vaultAt v.2 V2] (.tuple #[.agg ⟨encSu (supX 1)⟩, .int .i64 0, .int .i64 0]) [plateAt v.1 (recoverM idealP D2 V2).2.1, vaultAt v.2 (recoverM idealP D2 V2).2.2] := fun v => by
    have := recover_spec hE (idealM q v.2) (s := V2) (n := 4) o2 (by decide) v.1 56 D2 u2.pw (by decide)
    rw [e3] at this
    exact this
  have ci : FnX Tryz.prog q 19 [] [] (fun v : Nat => .pointer (some ⟨v, 0, none⟩)) fun v => [vaultAt v s00] := ideal_new q
  have k1 := sup12_spec q 48 0
  have k2 := sup12_spec q 48 1
  rw [show (⟨7, 0, 5, 48, bytesF 3 32⟩ : SuperT) = supX 0 from rfl] at k1
  rw [show (⟨7, 1, 5, 48, bytesF 3 32⟩ : SuperT) = supX 1 from rfl] at k2
  have h0 : encSu (supX 0) = [.int .i64 7, .int .i64 0, .int .i64 5, .int .i64 48, .string (supX 0).root] := rfl
  have h1 : encSu (supX 1) = [.int .i64 7, .int .i64 1, .int .i64 5, .int .i64 48, .string (supX 1).root] := rfl
  rw [h0] at k1 w0
  rw [h1] at k2 w1 w2
  generalize (supX 0).root = T0 at *
  generalize (supX 1).root = T1 at *
  (first | refine FnD.go Tryz.call15 Tryz.func15 rfl rfl rfl ?_ | refine FnX.go Tryz.call15 Tryz.func15 rfl rfl rfl ?_)
  (repeat (first | refine g ?_))
  refine s_call cs ?_
  (repeat (first | refine g ?_))
  refine s_callx (new_spec q 784 (by decide)) fun b => ?_
  (repeat (first | refine g ?_))
  refine s_callx ci fun v => ?_
  (repeat (first | refine g ?_))
  refine s_call k1 ?_
  (repeat (first | refine g ?_))
  refine s_call (w0 (b, v)) ?_
  (repeat (first | refine g ?_))
  refine s_built fun rs => ?_
  (repeat (first | refine g ?_))
  refine s_callx (writes40_spec q rs) fun r => ?_
  (repeat (first | refine g ?_))
  refine s_call k2 ?_
  (repeat (first | refine g ?_))
  refine s_call (w1 ((b, v), r)) ?_
  (repeat (first | refine g ?_))
  refine s_call (w2 (b, v)) ?_
  (repeat (first | refine g ?_))
  refine s_alloc fun r6 => ?_
  (repeat (first | refine g ?_))
  exact run_ret rfl (imp_RD rfl shut)
end Go.Proofs.YtaiocnpecaecdaaGreatDoor.V
namespace Go.Proofs.YtaiocnpecaecdaaGreatDoor.V
open Go.Proofs.YtaiocnpecaecdaaGreatDoor.VL Go.Proofs.YtaiocnpecaecdaaGreatDoor.VL.RD Go.Proofs.YtaiocnpecaecdaaGreatDoor.VL.Sha
attribute [local irreducible] Run numB
theorem jlives_spec (q : View) (hE : ErrQ q) (n : Int) (n0 : -9223372036854775808 ≤ n) (n1 : n ≤ 9223372036854775807) : FnD Tryz.prog q 3 [.int .i64 n] [] (.bool true) [] := by
  have ca := awake12_spec q hE
  by_cases h : n < 0 ∨ 32768 < n
  · have cn := new_bad q n h
    have cl := live_nil q
    (first | refine FnD.go Tryz.call3 Tryz.func3 rfl rfl rfl ?_ | refine FnX.go Tryz.call3 Tryz.func3 rfl rfl rfl ?_)
    (repeat (first | refine g ?_))
    refine s_call cn ?_
    (repeat (first | refine g ?_))
    refine s_call cl ?_
    (repeat (first | refine g ?_))
    refine s_call ca ?_
    (repeat (first | refine g ?_))
    exact run_ret rfl (imp_RD rfl shut)
  · obtain ⟨m, rfl⟩ : ∃ m : Nat, n = m := ⟨n.toNat, by omega⟩
    have hm : m ≤ 32768 := by omega
    have cn := new_spec q m hm
    have cl := fun b => live_spec q b (blank m) (blank_wf m hm)
    have cr := rlive_spec q (m : Int) (by omega) (by omega)
    rw [show (blank m).sectors = (m : Int) from rfl] at cl
    generalize liveF (m : Int) = L at *
    obtain ⟨a, e⟩ := L
    dsimp only at cl cr
    (first | refine FnD.go Tryz.call3 Tryz.func3 rfl rfl rfl ?_ | refine FnX.go Tryz.call3 Tryz.func3 rfl rfl rfl ?_)
    (repeat (first | refine g ?_))
    refine s_callx cn fun b => ?_
    (repeat (first | refine g ?_))
    refine s_call (cl b) ?_
    (repeat (first | refine g ?_))
    refine s_call cr ?_
    (repeat (first | refine g ?_))
    refine s_call ca ?_
    (repeat (first | refine g ?_))
    exact run_ret rfl (imp_RD rfl shut)
theorem jnobody_spec (q : View) (hE : ErrQ q) (x : SuperT) (v : Value) : FnD Tryz.prog q 5 [.agg ⟨encSu x⟩, v] [] (.bool true) [] := by
  have ca := awake12_spec q hE
  have ci : FnX Tryz.prog q 19 [] [] (fun v : Nat => .pointer (some ⟨v, 0, none⟩)) fun v => [vaultAt v s00] := ideal_new q
  have cr := fun v => recover_nil q v
  have cl := live_nil q
  have cc := fun v => commit_nil q v (supX 1) 48 rfl (by decide) (by decide)
  have cf := fun v => format_nil q v (supX 0)
  obtain ⟨raw, er, kr⟩ := superM_ok s00 (supX 0) (supX_root 0) (by decide) (by decide)
  have cn : ∀ v : Nat, FnD Tryz.prog q 24 [.pointer none, .pointer (some ⟨v, 0, none⟩), .agg ⟨encSu (supX 0)⟩] [vaultAt v s00] (.int .i64 1) [vaultAt v (sealS s00 (headSu (supX 0)) (bl (superL (supX 0))))] := fun v => by
    have := anew_nil (idealM q v) (s := s00) (n := 0) s00_ok (by decide) (supX 0) (supX_ok 0 (by decide) (by decide)) (by rw [er])
    rw [er] at this
    exact this
  have k1 := sup12_spec q 48 0
  have k2 := sup12_spec q 48 1
  rw [show (⟨7, 0, 5, 48, bytesF 3 32⟩ : SuperT) = supX 0 from rfl] at k1
  rw [show (⟨7, 1, 5, 48, bytesF 3 32⟩ : SuperT) = supX 1 from rfl] at k2
  have h0 : encSu (supX 0) = [.int .i64 7, .int .i64 0, .int .i64 5, .int .i64 48, .string (supX 0).root] := rfl
  have h1 : encSu (supX 1) = [.int .i64 7, .int .i64 1, .int .i64 5, .int .i64 48, .string (supX 1).root] := rfl
  rw [h0] at k1 cf cn
  rw [h1] at k2 cc
  have h2 : encSu zeroSu = [.int .i64 0, .int .i64 0, .int .i64 0, .int .i64 0, .string ⟨#[]⟩] := rfl
  rw [h2] at cr
  generalize sealS s00 (headSu (supX 0)) (bl (superL (supX 0))) = S1 at *
  generalize (supX 0).root = T0 at *
  generalize (supX 1).root = T1 at *
  unfold encSu
  (first | refine FnD.go Tryz.call5 Tryz.func5 rfl rfl rfl ?_ | refine FnX.go Tryz.call5 Tryz.func5 rfl rfl rfl ?_)
  (repeat (first | refine g ?_))
  refine s_box fun r2 => ?_
  (repeat (first | refine g ?_))
  refine s_callx ci fun v => ?_
  (repeat (first | refine g ?_))
  refine s_call (cr (.pointer (some ⟨v, 0, none⟩))) ?_
  (repeat (first | refine g ?_))
  refine s_alloc fun r6 => ?_
  (repeat (first | refine g ?_))
  refine s_call cl ?_
  (repeat (first | refine g ?_))
  refine s_call k2 ?_
  (repeat (first | refine g ?_))
  refine s_call (cc (.pointer (some ⟨v, 0, none⟩))) ?_
  (repeat (first | refine g ?_))
  refine s_call k1 ?_
  (repeat (first | refine g ?_))
  refine s_call (cf (.pointer (some ⟨v, 0, none⟩))) ?_
  (repeat (first | refine g ?_))
  refine s_call k1 ?_
  (repeat (first | refine g ?_))
  refine s_call (cn v) ?_
  (repeat (first | refine g ?_))
  refine s_call ca ?_
  (repeat (first | refine g ?_))
  exact run_ret rfl (imp_RD rfl shut)
end Go.Proofs.YtaiocnpecaecdaaGreatDoor.V
namespace Go.Proofs.YtaiocnpecaecdaaGreatDoor.V
open Go.Proofs.YtaiocnpecaecdaaGreatDoor.VL Go.Proofs.YtaiocnpecaecdaaGreatDoor.VL.RD Go.Proofs.YtaiocnpecaecdaaGreatDoor.VL.Sha
attribute [local irreducible] Run numB
end Go.Proofs.YtaiocnpecaecdaaGreatDoor.V
namespace Go.Proofs.YtaiocnpecaecdaaGreatDoor.V
open Go.Proofs.YtaiocnpecaecdaaGreatDoor.VL
attribute [local irreducible] Run
end Go.Proofs.YtaiocnpecaecdaaGreatDoor.V
namespace Go.Proofs.YtaiocnpecaecdaaGreatDoor.V
open Go.Proofs.YtaiocnpecaecdaaGreatDoor.VL Go.Proofs.YtaiocnpecaecdaaGreatDoor.VL.RD Go.Proofs.YtaiocnpecaecdaaGreatDoor.VL.Sha
attribute [local irreducible] Run numB
end Go.Proofs.YtaiocnpecaecdaaGreatDoor.V
namespace Go.Proofs.YtaiocnpecaecdaaGreatDoor.V
open Go.Proofs.YtaiocnpecaecdaaGreatDoor.VL Go.Proofs.YtaiocnpecaecdaaGreatDoor.VL.RD Go.Proofs.YtaiocnpecaecdaaGreatDoor.VL.Sha
attribute [local irreducible] Run numB
end Go.Proofs.YtaiocnpecaecdaaGreatDoor.V
namespace Go.Proofs.YtaiocnpecaecdaaGreatDoor.V
open Go.Proofs.YtaiocnpecaecdaaGreatDoor.VL Go.Proofs.YtaiocnpecaecdaaGreatDoor.VL.RD Go.Proofs.YtaiocnpecaecdaaGreatDoor.VL.Sha
attribute [local irreducible] Run numB
end Go.Proofs.YtaiocnpecaecdaaGreatDoor.V
namespace Go.Proofs.YtaiocnpecaecdaaGreatDoor.V
open Go.Proofs.YtaiocnpecaecdaaGreatDoor.VL Go.Proofs.YtaiocnpecaecdaaGreatDoor.VL.RD Go.Proofs.YtaiocnpecaecdaaGreatDoor.VL.Sha
attribute [local irreducible] Run numB
end Go.Proofs.YtaiocnpecaecdaaGreatDoor.V
namespace Go.Proofs.YtaiocnpecaecdaaGreatDoor.V
open Go.Proofs.YtaiocnpecaecdaaGreatDoor.VL Go.Proofs.YtaiocnpecaecdaaGreatDoor.VL.RD Go.Proofs.YtaiocnpecaecdaaGreatDoor.VL.Sha
attribute [local irreducible] Run numB
end Go.Proofs.YtaiocnpecaecdaaGreatDoor.V
namespace Go.Proofs.YtaiocnpecaecdaaGreatDoor.V
open Go.Proofs.YtaiocnpecaecdaaGreatDoor.VL Go.Proofs.YtaiocnpecaecdaaGreatDoor.VL.RD Go.Proofs.YtaiocnpecaecdaaGreatDoor.VL.Sha
attribute [local irreducible] Run numB
end Go.Proofs.YtaiocnpecaecdaaGreatDoor.V
namespace Go.Proofs.YtaiocnpecaecdaaGreatDoor.V
open Go.Proofs.YtaiocnpecaecdaaGreatDoor.VL
end Go.Proofs.YtaiocnpecaecdaaGreatDoor.V
namespace Go.Proofs.YtaiocnpecaecdaaGreatDoor.V
open Go.Proofs.YtaiocnpecaecdaaGreatDoor.VL
theorem su_cells {H : Type} {enc : TypeId × Value → H} {w : World} {sp : Nat → Bool} {held : Bool} {n : Nat} (cs : List Value) (y : DataW H × List MemPlace) (h : DataW.trod enc Tryz.prog w 0 sp held n 33 cs = some y) : ∃ x : SuperT, SuperOk x ∧ cs = encSu x := by
  obtain ⟨xs, m, _, _, hl, hlen, hf⟩ := DataW.trod_struct Tryz.underlying33 h
  rw [show Tryz.prog.cellsOf 33 = 5 by kernel_rfl] at hl
  have c_int : Tryz.prog.cellsOf 3 = 1 := by kernel_rfl
  have c_str : Tryz.prog.cellsOf 9 = 1 := by kernel_rfl
  have hlen : xs.length = 5 := hlen
  match cs, hl, xs, hlen with
  | [z0, z1, z2, z3, z4], _, [y0, y1, y2, y3, y4], _ =>
    have h0 : DataW.trod enc Tryz.prog w 0 sp held m 3 (([z0, z1, z2, z3, z4].drop 0).take (Tryz.prog.cellsOf 3)) = some y0 := hf 0 _ rfl
    rw [c_int] at h0
    have h1 : DataW.trod enc Tryz.prog w 0 sp held m 3 (([z0, z1, z2, z3, z4].drop 1).take (Tryz.prog.cellsOf 3)) = some y1 := hf 1 _ rfl
    rw [c_int] at h1
    have h2 : DataW.trod enc Tryz.prog w 0 sp held m 3 (([z0, z1, z2, z3, z4].drop 2).take (Tryz.prog.cellsOf 3)) = some y2 := hf 2 _ rfl
    rw [c_int] at h2
    have h3 : DataW.trod enc Tryz.prog w 0 sp held m 3 (([z0, z1, z2, z3, z4].drop 3).take (Tryz.prog.cellsOf 3)) = some y3 := hf 3 _ rfl
    rw [c_int] at h3
    have h4 : DataW.trod enc Tryz.prog w 0 sp held m 9 (([z0, z1, z2, z3, z4].drop 4).take (Tryz.prog.cellsOf 9)) = some y4 := hf 4 _ rfl
    rw [c_str] at h4
    obtain ⟨a0, w0, e0⟩ := int_cells Tryz.underlying3 _ _ h0
    obtain ⟨a1, w1, e1⟩ := int_cells Tryz.underlying3 _ _ h1
    obtain ⟨a2, w2, e2⟩ := int_cells Tryz.underlying3 _ _ h2
    obtain ⟨a3, w3, e3⟩ := int_cells Tryz.underlying3 _ _ h3
    obtain ⟨a4, w4, e4⟩ := str_cells Tryz.underlying9 _ _ h4
    refine ⟨⟨a0, a1, a2, a3, a4⟩, ⟨(i64_wf w0).1, (i64_wf w0).2, (i64_wf w1).1, (i64_wf w1).2, (i64_wf w2).1, (i64_wf w2).2, (i64_wf w3).1, (i64_wf w3).2, w4⟩, ?_⟩
    have f0 := (List.cons.inj (show [z0] = _ from e0)).1
    have f1 := (List.cons.inj (show [z1] = _ from e1)).1
    have f2 := (List.cons.inj (show [z2] = _ from e2)).1
    have f3 := (List.cons.inj (show [z3] = _ from e3)).1
    have f4 := (List.cons.inj (show [z4] = _ from e4)).1
    rw [f0, f1, f2, f3, f4]; rfl
theorem blk_cells {H : Type} {enc : TypeId × Value → H} {w : World} {sp : Nat → Bool} {held : Bool} {n : Nat} (cs : List Value) (y : DataW H × List MemPlace) (h : DataW.trod enc Tryz.prog w 0 sp held n 98 cs = some y) : ∃ x : BlockT, BlockOk x ∧ cs = encBk x := by
  obtain ⟨xs, m, _, _, hl, hlen, hf⟩ := DataW.trod_struct Tryz.underlying98 h
  rw [show Tryz.prog.cellsOf 98 = 3 by kernel_rfl] at hl
  have c_int : Tryz.prog.cellsOf 3 = 1 := by kernel_rfl
  have c_u8 : Tryz.prog.cellsOf 5 = 1 := by kernel_rfl
  have c_bool : Tryz.prog.cellsOf 4 = 1 := by kernel_rfl
  have hlen : xs.length = 3 := hlen
  match cs, hl, xs, hlen with
  | [z0, z1, z2], _, [y0, y1, y2], _ =>
    have h0 : DataW.trod enc Tryz.prog w 0 sp held m 3 (([z0, z1, z2].drop 0).take (Tryz.prog.cellsOf 3)) = some y0 := hf 0 _ rfl
    rw [c_int] at h0
    have h1 : DataW.trod enc Tryz.prog w 0 sp held m 5 (([z0, z1, z2].drop 1).take (Tryz.prog.cellsOf 5)) = some y1 := hf 1 _ rfl
    rw [c_u8] at h1
    have h2 : DataW.trod enc Tryz.prog w 0 sp held m 4 (([z0, z1, z2].drop 2).take (Tryz.prog.cellsOf 4)) = some y2 := hf 2 _ rfl
    rw [c_bool] at h2
    obtain ⟨a0, w0, e0⟩ := int_cells Tryz.underlying3 _ _ h0
    obtain ⟨a1, w1, e1⟩ := int_cells Tryz.underlying5 _ _ h1
    obtain ⟨a2, w2, e2⟩ := bool_cells Tryz.underlying4 _ _ h2
    refine ⟨⟨a0, a1, a2⟩, ⟨(i64_wf w0).1, (i64_wf w0).2, (u8_wf w1).1, (u8_wf w1).2⟩, ?_⟩
    have f0 := (List.cons.inj (show [z0] = _ from e0)).1
    have f1 := (List.cons.inj (show [z1] = _ from e1)).1
    have f2 := (List.cons.inj (show [z2] = _ from e2)).1
    rw [f0, f1, f2]; rfl
end Go.Proofs.YtaiocnpecaecdaaGreatDoor.V
