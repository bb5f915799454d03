/- The document's head and block. -/
import Derived.Test.YtaiocnpecaecdaaGreatDoorGf
import Derived.Test.YtaiocnpecaecdaaGreatDoorGd
import Derived.Test.YtaiocnpecaecdaaGreatDoorGe
set_option maxRecDepth 10000
set_option linter.unusedVariables false
namespace Go.Proofs.YtaiocnpecaecdaaGreatDoor.V
open Go.Proofs.YtaiocnpecaecdaaGreatDoor.VL Go.Proofs.YtaiocnpecaecdaaGreatDoor.VL.RD Go.Proofs.YtaiocnpecaecdaaGreatDoor.VL.Sha
attribute [local irreducible] Run numB
theorem rhead_spec (q : View) (h : HeadT) (hh : HeadOk h) : FnD Tryz.prog q 59 [.agg ⟨encH h⟩] [] (.tuple #[.string (headF h).1, .int .i64 (headF h).2]) [] := by
  have cl := fun r w => laid_spec q r w (fldH h) (by
    obtain ⟨v0, v1, a0, a1, k0, k1, i0, i1, g0, g1, x0, x1, r0, r1, s0, s1⟩ := hh
    intro x hx
    unfold fldH at hx
    simp only [List.mem_cons, List.not_mem_nil, or_false] at hx
    rcases hx with rfl | rfl | rfl | rfl | rfl | rfl | rfl | rfl <;> exact ⟨Nat.le_of_ble_eq_true rfl, Nat.le_of_ble_eq_true rfl, by assumption⟩) (by show 8 ≤ 1000; decide)
  have cl : ∀ r w, FnD Tryz.prog q 115 [.slice (some ⟨r, 0, none⟩) 8 8, .slice (some ⟨w, 0, none⟩) 8 8] [cells r 3 ⟨encH h⟩, cells w 3 ⟨wHd⟩] (.tuple #[.string (laidF (fldH h)).1, .bool (laidF (fldH h)).2]) [] := cl
  unfold encH at cl ⊢
  (first | refine FnD.go Tryz.call59 Tryz.func59 rfl rfl rfl ?_ | refine FnX.go Tryz.call59 Tryz.func59 rfl rfl rfl ?_)
  (repeat (first | refine g ?_))
  refine s_box fun b => ?_
  (repeat (first | refine g ?_))
  refine d_start [] ?_
  (first | refine d_pure 0 ?_ | refine d_load 0 ?_ | refine d_arith 0 ?_ | refine d_rem 0 ?_ | refine d_quo 0 ?_ | refine d_shrv 0 ?_ | refine d_fieldat 0 ?_ | refine d_idx1 0 ?_ | refine d_index 0 ?_ | refine d_conv64 0 ?_ | refine d_slices 0 ?_ | refine d_concat 0 ?_ | refine d_build 0 ?_)
  (first | refine d_pure 1 ?_ | refine d_load 1 ?_ | refine d_arith 1 ?_ | refine d_rem 1 ?_ | refine d_quo 1 ?_ | refine d_shrv 1 ?_ | refine d_fieldat 1 ?_ | refine d_idx1 1 ?_ | refine d_index 1 ?_ | refine d_conv64 1 ?_ | refine d_slices 1 ?_ | refine d_concat 1 ?_ | refine d_build 1 ?_)
  (first | refine d_pure 2 ?_ | refine d_load 2 ?_ | refine d_arith 2 ?_ | refine d_rem 2 ?_ | refine d_quo 2 ?_ | refine d_shrv 2 ?_ | refine d_fieldat 2 ?_ | refine d_idx1 2 ?_ | refine d_index 2 ?_ | refine d_conv64 2 ?_ | refine d_slices 2 ?_ | refine d_concat 2 ?_ | refine d_build 2 ?_)
  (first | refine d_pure 3 ?_ | refine d_load 3 ?_ | refine d_arith 3 ?_ | refine d_rem 3 ?_ | refine d_quo 3 ?_ | refine d_shrv 3 ?_ | refine d_fieldat 3 ?_ | refine d_idx1 3 ?_ | refine d_index 3 ?_ | refine d_conv64 3 ?_ | refine d_slices 3 ?_ | refine d_concat 3 ?_ | refine d_build 3 ?_)
  (first | refine d_pure 4 ?_ | refine d_load 4 ?_ | refine d_arith 4 ?_ | refine d_rem 4 ?_ | refine d_quo 4 ?_ | refine d_shrv 4 ?_ | refine d_fieldat 4 ?_ | refine d_idx1 4 ?_ | refine d_index 4 ?_ | refine d_conv64 4 ?_ | refine d_slices 4 ?_ | refine d_concat 4 ?_ | refine d_build 4 ?_)
  (first | refine d_pure 5 ?_ | refine d_load 5 ?_ | refine d_arith 5 ?_ | refine d_rem 5 ?_ | refine d_quo 5 ?_ | refine d_shrv 5 ?_ | refine d_fieldat 5 ?_ | refine d_idx1 5 ?_ | refine d_index 5 ?_ | refine d_conv64 5 ?_ | refine d_slices 5 ?_ | refine d_concat 5 ?_ | refine d_build 5 ?_)
  (first | refine d_pure 6 ?_ | refine d_load 6 ?_ | refine d_arith 6 ?_ | refine d_rem 6 ?_ | refine d_quo 6 ?_ | refine d_shrv 6 ?_ | refine d_fieldat 6 ?_ | refine d_idx1 6 ?_ | refine d_index 6 ?_ | refine d_conv64 6 ?_ | refine d_slices 6 ?_ | refine d_concat 6 ?_ | refine d_build 6 ?_)
  (first | refine d_pure 7 ?_ | refine d_load 7 ?_ | refine d_arith 7 ?_ | refine d_rem 7 ?_ | refine d_quo 7 ?_ | refine d_shrv 7 ?_ | refine d_fieldat 7 ?_ | refine d_idx1 7 ?_ | refine d_index 7 ?_ | refine d_conv64 7 ?_ | refine d_slices 7 ?_ | refine d_concat 7 ?_ | refine d_build 7 ?_)
  (first | refine d_pure 8 ?_ | refine d_load 8 ?_ | refine d_arith 8 ?_ | refine d_rem 8 ?_ | refine d_quo 8 ?_ | refine d_shrv 8 ?_ | refine d_fieldat 8 ?_ | refine d_idx1 8 ?_ | refine d_index 8 ?_ | refine d_conv64 8 ?_ | refine d_slices 8 ?_ | refine d_concat 8 ?_ | refine d_build 8 ?_)
  (first | refine d_pure 9 ?_ | refine d_load 9 ?_ | refine d_arith 9 ?_ | refine d_rem 9 ?_ | refine d_quo 9 ?_ | refine d_shrv 9 ?_ | refine d_fieldat 9 ?_ | refine d_idx1 9 ?_ | refine d_index 9 ?_ | refine d_conv64 9 ?_ | refine d_slices 9 ?_ | refine d_concat 9 ?_ | refine d_build 9 ?_)
  (first | refine d_pure 10 ?_ | refine d_load 10 ?_ | refine d_arith 10 ?_ | refine d_rem 10 ?_ | refine d_quo 10 ?_ | refine d_shrv 10 ?_ | refine d_fieldat 10 ?_ | refine d_idx1 10 ?_ | refine d_index 10 ?_ | refine d_conv64 10 ?_ | refine d_slices 10 ?_ | refine d_concat 10 ?_ | refine d_build 10 ?_)
  (first | refine d_pure 11 ?_ | refine d_load 11 ?_ | refine d_arith 11 ?_ | refine d_rem 11 ?_ | refine d_quo 11 ?_ | refine d_shrv 11 ?_ | refine d_fieldat 11 ?_ | refine d_idx1 11 ?_ | refine d_index 11 ?_ | refine d_conv64 11 ?_ | refine d_slices 11 ?_ | refine d_concat 11 ?_ | refine d_build 11 ?_)
  (first | refine d_pure 12 ?_ | refine d_load 12 ?_ | refine d_arith 12 ?_ | refine d_rem 12 ?_ | refine d_quo 12 ?_ | refine d_shrv 12 ?_ | refine d_fieldat 12 ?_ | refine d_idx1 12 ?_ | refine d_index 12 ?_ | refine d_conv64 12 ?_ | refine d_slices 12 ?_ | refine d_concat 12 ?_ | refine d_build 12 ?_)
  (first | refine d_pure 13 ?_ | refine d_load 13 ?_ | refine d_arith 13 ?_ | refine d_rem 13 ?_ | refine d_quo 13 ?_ | refine d_shrv 13 ?_ | refine d_fieldat 13 ?_ | refine d_idx1 13 ?_ | refine d_index 13 ?_ | refine d_conv64 13 ?_ | refine d_slices 13 ?_ | refine d_concat 13 ?_ | refine d_build 13 ?_)
  (first | refine d_pure 14 ?_ | refine d_load 14 ?_ | refine d_arith 14 ?_ | refine d_rem 14 ?_ | refine d_quo 14 ?_ | refine d_shrv 14 ?_ | refine d_fieldat 14 ?_ | refine d_idx1 14 ?_ | refine d_index 14 ?_ | refine d_conv64 14 ?_ | refine d_slices 14 ?_ | refine d_concat 14 ?_ | refine d_build 14 ?_)
  (first | refine d_pure 15 ?_ | refine d_load 15 ?_ | refine d_arith 15 ?_ | refine d_rem 15 ?_ | refine d_quo 15 ?_ | refine d_shrv 15 ?_ | refine d_fieldat 15 ?_ | refine d_idx1 15 ?_ | refine d_index 15 ?_ | refine d_conv64 15 ?_ | refine d_slices 15 ?_ | refine d_concat 15 ?_ | refine d_build 15 ?_)
  refine d_two 16 17 ?_ ?_
  · refine d_ovia 16 (X := Nat) (h1 := by refine s_built fun r => ?_; exact run_fin r) (h := fun r1 => ?_)
    refine d_via 17 (X := Nat) (h1 := by refine s_callx (widths_spec q) fun r => ?_; exact run_fin r) (h := fun w1 => ?_)
    refine d_via1 18 (h1 := by refine s_call (cl r1 w1) ?_; exact run_fin1) (h := ?_)
    (first | refine d_pure 19 ?_ | refine d_load 19 ?_ | refine d_arith 19 ?_ | refine d_rem 19 ?_ | refine d_quo 19 ?_ | refine d_shrv 19 ?_ | refine d_fieldat 19 ?_ | refine d_idx1 19 ?_ | refine d_index 19 ?_ | refine d_conv64 19 ?_ | refine d_slices 19 ?_ | refine d_concat 19 ?_ | refine d_build 19 ?_)
    (first | refine d_pure 20 ?_ | refine d_load 20 ?_ | refine d_arith 20 ?_ | refine d_rem 20 ?_ | refine d_quo 20 ?_ | refine d_shrv 20 ?_ | refine d_fieldat 20 ?_ | refine d_idx1 20 ?_ | refine d_index 20 ?_ | refine d_conv64 20 ?_ | refine d_slices 20 ?_ | refine d_concat 20 ?_ | refine d_build 20 ?_)
    (first | refine d_pure 21 ?_ | refine d_load 21 ?_ | refine d_arith 21 ?_ | refine d_rem 21 ?_ | refine d_quo 21 ?_ | refine d_shrv 21 ?_ | refine d_fieldat 21 ?_ | refine d_idx1 21 ?_ | refine d_index 21 ?_ | refine d_conv64 21 ?_ | refine d_slices 21 ?_ | refine d_concat 21 ?_ | refine d_build 21 ?_)
    (first | refine d_pure 22 ?_ | refine d_load 22 ?_ | refine d_arith 22 ?_ | refine d_rem 22 ?_ | refine d_quo 22 ?_ | refine d_shrv 22 ?_ | refine d_fieldat 22 ?_ | refine d_idx1 22 ?_ | refine d_index 22 ?_ | refine d_conv64 22 ?_ | refine d_slices 22 ?_ | refine d_concat 22 ?_ | refine d_build 22 ?_)
    (first | refine d_pure 23 ?_ | refine d_load 23 ?_ | refine d_arith 23 ?_ | refine d_rem 23 ?_ | refine d_quo 23 ?_ | refine d_shrv 23 ?_ | refine d_fieldat 23 ?_ | refine d_idx1 23 ?_ | refine d_index 23 ?_ | refine d_conv64 23 ?_ | refine d_slices 23 ?_ | refine d_concat 23 ?_ | refine d_build 23 ?_)
    refine d_done ?_
    cases hok : (fldH h).all okN with
    | false =>
      unfold laidF headF
      rw [hok, if_neg (by decide), if_neg (by decide)]
      (repeat (first | refine g ?_))
      exact run_ret rfl (imp_RD rfl shut)
    | true =>
      unfold laidF headF
      rw [hok, if_pos rfl, if_pos rfl]
      dsimp only
      have z0 : (⟨#[71, 82, 80, 78]⟩ : ByteArray).size = 4 := rfl
      have z1 : (bl (numsL (fldH h))).size = 36 := by show (numsL (fldH h)).toArray.size = 36; rw [List.size_toArray, numsL_len]; rfl
      have z2 : ((⟨#[71, 82, 80, 78]⟩ : ByteArray) ++ bl (numsL (fldH h))).size = 40 := by rw [ByteArray.size_append]; omega
      have z3 := bl0_size 8
      have e1 : (⟨#[71, 82, 80, 78]⟩ : ByteArray) ++ bl (numsL (fldH h)) ++ bl (List.replicate 8 0) = bl (headL h) := by
        unfold headL bl
        exact ByteArray.ext (by simp [magicL])
      have cn : FnD Tryz.prog q 73 [.int .i64 8] [] (.string (bl (List.replicate 8 0))) [] := noughts_spec q 8 (by decide)
      obtain ⟨Z, hZ⟩ : ∃ Z, Z = bl (List.replicate 8 0) := ⟨_, rfl⟩
      rw [← hZ] at cn e1 z3
      (repeat (first | refine g ?_))
      refine s_call cn ?_
      (repeat (first | refine g ?_))
      rw [e1]
      exact run_ret rfl (imp_RD rfl shut)
  · refine d_ovia 17 (X := Nat) (h1 := by refine s_callx (widths_spec q) fun r => ?_; exact run_fin r) (h := fun w1 => ?_)
    refine d_via 16 (X := Nat) (h1 := by refine s_built fun r => ?_; exact run_fin r) (h := fun r1 => ?_)
    refine d_via1 18 (h1 := by refine s_call (cl r1 w1) ?_; exact run_fin1) (h := ?_)
    (first | refine d_pure 19 ?_ | refine d_load 19 ?_ | refine d_arith 19 ?_ | refine d_rem 19 ?_ | refine d_quo 19 ?_ | refine d_shrv 19 ?_ | refine d_fieldat 19 ?_ | refine d_idx1 19 ?_ | refine d_index 19 ?_ | refine d_conv64 19 ?_ | refine d_slices 19 ?_ | refine d_concat 19 ?_ | refine d_build 19 ?_)
    (first | refine d_pure 20 ?_ | refine d_load 20 ?_ | refine d_arith 20 ?_ | refine d_rem 20 ?_ | refine d_quo 20 ?_ | refine d_shrv 20 ?_ | refine d_fieldat 20 ?_ | refine d_idx1 20 ?_ | refine d_index 20 ?_ | refine d_conv64 20 ?_ | refine d_slices 20 ?_ | refine d_concat 20 ?_ | refine d_build 20 ?_)
    (first | refine d_pure 21 ?_ | refine d_load 21 ?_ | refine d_arith 21 ?_ | refine d_rem 21 ?_ | refine d_quo 21 ?_ | refine d_shrv 21 ?_ | refine d_fieldat 21 ?_ | refine d_idx1 21 ?_ | refine d_index 21 ?_ | refine d_conv64 21 ?_ | refine d_slices 21 ?_ | refine d_concat 21 ?_ | refine d_build 21 ?_)
    (first | refine d_pure 22 ?_ | refine d_load 22 ?_ | refine d_arith 22 ?_ | refine d_rem 22 ?_ | refine d_quo 22 ?_ | refine d_shrv 22 ?_ | refine d_fieldat 22 ?_ | refine d_idx1 22 ?_ | refine d_index 22 ?_ | refine d_conv64 22 ?_ | refine d_slices 22 ?_ | refine d_concat 22 ?_ | refine d_build 22 ?_)
    (first | refine d_pure 23 ?_ | refine d_load 23 ?_ | refine d_arith 23 ?_ | refine d_rem 23 ?_ | refine d_quo 23 ?_ | refine d_shrv 23 ?_ | refine d_fieldat 23 ?_ | refine d_idx1 23 ?_ | refine d_index 23 ?_ | refine d_conv64 23 ?_ | refine d_slices 23 ?_ | refine d_concat 23 ?_ | refine d_build 23 ?_)
    refine d_done ?_
    cases hok : (fldH h).all okN with
    | false =>
      unfold laidF headF
      rw [hok, if_neg (by decide), if_neg (by decide)]
      (repeat (first | refine g ?_))
      exact run_ret rfl (imp_RD rfl shut)
    | true =>
      unfold laidF headF
      rw [hok, if_pos rfl, if_pos rfl]
      dsimp only
      have z0 : (⟨#[71, 82, 80, 78]⟩ : ByteArray).size = 4 := rfl
      have z1 : (bl (numsL (fldH h))).size = 36 := by show (numsL (fldH h)).toArray.size = 36; rw [List.size_toArray, numsL_len]; rfl
      have z2 : ((⟨#[71, 82, 80, 78]⟩ : ByteArray) ++ bl (numsL (fldH h))).size = 40 := by rw [ByteArray.size_append]; omega
      have z3 := bl0_size 8
      have e1 : (⟨#[71, 82, 80, 78]⟩ : ByteArray) ++ bl (numsL (fldH h)) ++ bl (List.replicate 8 0) = bl (headL h) := by
        unfold headL bl
        exact ByteArray.ext (by simp [magicL])
      have cn : FnD Tryz.prog q 73 [.int .i64 8] [] (.string (bl (List.replicate 8 0))) [] := noughts_spec q 8 (by decide)
      obtain ⟨Z, hZ⟩ : ∃ Z, Z = bl (List.replicate 8 0) := ⟨_, rfl⟩
      rw [← hZ] at cn e1 z3
      (repeat (first | refine g ?_))
      refine s_call cn ?_
      (repeat (first | refine g ?_))
      rw [e1]
      exact run_ret rfl (imp_RD rfl shut)
end Go.Proofs.YtaiocnpecaecdaaGreatDoor.V
namespace Go.Proofs.YtaiocnpecaecdaaGreatDoor.V
open Go.Proofs.YtaiocnpecaecdaaGreatDoor.VL Go.Proofs.YtaiocnpecaecdaaGreatDoor.VL.RD Go.Proofs.YtaiocnpecaecdaaGreatDoor.VL.Sha
attribute [local irreducible] Run numB
def BlksQ (q : View) (p : Option Addr) (l : List BlockT) : Prop := RowQ q p l.length 3 (l.flatMap encBk) ∧ ∀ x ∈ l, BlockOk x
theorem encBk_at (l : List BlockT) (i : Nat) (x : BlockT) (h : l[i]? = some x) (j : Nat) (hj : j < 3) : (l.flatMap encBk)[i * 3 + j]? = (encBk x)[j]? := by
  induction l generalizing i with
  | nil => cases h
  | cons y l ih =>
    rw [List.flatMap_cons]
    have e5 : (encBk y).length = 3 := rfl
    cases i with
    | zero =>
      obtain rfl := Option.some.inj h
      rw [List.getElem?_append_left (by omega)]; congr 1; omega
    | succ i =>
      rw [List.getElem?_append_right (by omega), e5, show (i + 1) * 3 + j - 3 = i * 3 + j by omega]
      exact ih i h
theorem writesF_succ (l : List BlockT) (i : Nat) (x : BlockT) (h : l[i]? = some x) : ((l.take (i + 1)).map blkW) = (l.take i).map blkW ++ [blkW x] := by
  rw [List.take_add_one, h, List.map_append]
  rfl
theorem encWs_one (l : List WriteT) (w : WriteT) : encWs (l ++ [w]) = encWs l ++ [.int .i64 w.at_, .string w.raw] := by
  unfold encWs
  rw [List.flatMap_append]
  rfl
set_option maxHeartbeats 4000000 in
theorem writes12_spec (q : View) (lp : Option Addr) (lc : Nat) (l : List BlockT) (hq : BlksQ q lp l) (hl : l.length ≤ 9223372036854775807) :
    FnX Tryz.prog q 26 [.slice lp l.length lc] [] (fun r : Option Addr × Nat => .slice r.1 (writesF l).length r.2) fun r => [sl r.1 (writesF l).length r.2 54 2 (encWs (writesF l))] := by
  have hlen := writesF_len l
  rw [hlen]
  (first | refine FnD.go Tryz.call26 Tryz.func26 rfl rfl rfl ?_ | refine FnX.go Tryz.call26 Tryz.func26 rfl rfl rfl ?_)
  (repeat (first | refine g ?_))
  refine run_cutI (X := Option Addr × Nat) (fun _ => True) (fun x => [(3, .slice x.1 (min 30 l.length) x.2)]) (fun x => [sl x.1 (min 30 l.length) x.2 54 2 (encWs (writesF l))]) ?_ fun r _ => ?_
  · refine run_nil0 (t := 54) (kk := 2) ?_
    refine run_loopI (X := Nat × Option Addr × Nat) (fun x => x.1 ≤ l.length ∧ x.1 ≤ 30) (fun x => [(0, .slice lp l.length lc), (3, .slice x.2.1 x.1 x.2.2), (4, .int .i64 (x.1 : Int))])
      (fun x => [sl x.2.1 x.1 x.2.2 54 2 (encWs ((l.take x.1).map blkW))]) (fun x => 30 - x.1) (0, none, 0) ⟨Nat.zero_le _, by decide⟩ fct ?_ ?_
    · rw [List.take_zero]
      exact shut
    intro ⟨i, wp, wc⟩ ⟨hi, hi30⟩
    dsimp only at hi hi30 ⊢
    by_cases h1 : i < l.length
    · by_cases h2 : i < 30
      · obtain ⟨x, hx⟩ : ∃ x, l[i]? = some x := ⟨_, List.getElem?_eq_getElem h1⟩
        have hxo := hq.2 x (List.mem_of_getElem? hx)
        obtain ⟨bs, os, ep, ho⟩ := hq.1.old (by omega)
        subst ep
        have hx0 := encBk_at l i x hx 0 (by omega)
        have hx1 := encBk_at l i x hx 1 (by omega)
        have hx2 := encBk_at l i x hx 2 (by omega)
        have ch := rhead_spec q (hAt x.at_) (by
          have a0 := hxo.a0
          have a1 := hxo.a1
          constructor <;> (unfold hAt; dsimp only; omega))
        have ct1 := text12_spec q x.v 48 hxo.v0 hxo.v1 (by decide)
        have ct2 := text12_spec q x.v 464 hxo.v0 hxo.v1 (by decide)
        have hb1 : (bytesF x.v 48).size = 48 := bytesF_size _ _
        have hb2 : (bytesF x.v 464).size = 464 := bytesF_size _ _
        have hel := encWs_len ((l.take i).map blkW)
        rw [List.length_map, List.length_take, Nat.min_eq_left hi] at hel
        have eW : [Value.int .i64 x.at_, .string (blkH x ++ bytesF x.v 464)] = [.int .i64 (blkW x).at_, .string (blkW x).raw] := rfl
        have eH : blkH x = if (headF (hAt x.at_)).2 ≠ 0 ∨ x.bad = true then bytesF x.v 48 else (headF (hAt x.at_)).1 := rfl
        have hHz := blkH_size x
        generalize blkH x = HH at *
        generalize bytesF x.v 464 = T2 at *
        generalize bytesF x.v 48 = T1 at *
        generalize headF (hAt x.at_) = HF at *
        obtain ⟨ht, he⟩ := HF
        unfold hAt encH at ch
        dsimp only at ch eH
        by_cases h3 : he ≠ 0
        · rw [if_pos (.inl h3)] at eH
          subst eH
          (repeat (first | refine g ?_))
          refine s_idxo (kk := 3) (os + i * 3) ?_
          (repeat (first | refine g ?_))
          refine s_loado (j := i * 3) ho hx0 ?_
          (repeat (first | refine g ?_))
          refine s_call ch ?_
          (repeat (first | refine g ?_))
          refine s_idxo (kk := 3) (os + i * 3) ?_
          (repeat (first | refine g ?_))
          refine s_loado (j := i * 3 + 1) ho hx1 ?_
          (repeat (first | refine g ?_))
          refine s_call ct1 ?_
          (repeat (first | refine g ?_))
          refine d_start [sl wp i wc 54 2 (encWs ((l.take i).map blkW))] ?_
          (first | refine d_pure 0 ?_ | refine d_load 0 ?_ | refine d_arith 0 ?_ | refine d_rem 0 ?_ | refine d_quo 0 ?_ | refine d_shrv 0 ?_ | refine d_fieldat 0 ?_ | refine d_idx1 0 ?_ | refine d_index 0 ?_ | refine d_conv64 0 ?_ | refine d_slices 0 ?_ | refine d_concat 0 ?_ | refine d_build 0 ?_)
          (first | refine d_pure 1 ?_ | refine d_load 1 ?_ | refine d_arith 1 ?_ | refine d_rem 1 ?_ | refine d_quo 1 ?_ | refine d_shrv 1 ?_ | refine d_fieldat 1 ?_ | refine d_idx1 1 ?_ | refine d_index 1 ?_ | refine d_conv64 1 ?_ | refine d_slices 1 ?_ | refine d_concat 1 ?_ | refine d_build 1 ?_)
          (first | refine d_pure 2 ?_ | refine d_load 2 ?_ | refine d_arith 2 ?_ | refine d_rem 2 ?_ | refine d_quo 2 ?_ | refine d_shrv 2 ?_ | refine d_fieldat 2 ?_ | refine d_idx1 2 ?_ | refine d_index 2 ?_ | refine d_conv64 2 ?_ | refine d_slices 2 ?_ | refine d_concat 2 ?_ | refine d_build 2 ?_)
          refine d_idxo 3 (kk := 3) (os + i * 3) ?_
          (first | refine d_pure 4 ?_ | refine d_load 4 ?_ | refine d_arith 4 ?_ | refine d_rem 4 ?_ | refine d_quo 4 ?_ | refine d_shrv 4 ?_ | refine d_fieldat 4 ?_ | refine d_idx1 4 ?_ | refine d_index 4 ?_ | refine d_conv64 4 ?_ | refine d_slices 4 ?_ | refine d_concat 4 ?_ | refine d_build 4 ?_)
          refine d_loado 5 (j := i * 3) ho hx0 ?_
          (first | refine d_pure 6 ?_ | refine d_load 6 ?_ | refine d_arith 6 ?_ | refine d_rem 6 ?_ | refine d_quo 6 ?_ | refine d_shrv 6 ?_ | refine d_fieldat 6 ?_ | refine d_idx1 6 ?_ | refine d_index 6 ?_ | refine d_conv64 6 ?_ | refine d_slices 6 ?_ | refine d_concat 6 ?_ | refine d_build 6 ?_)
          (first | refine d_pure 7 ?_ | refine d_load 7 ?_ | refine d_arith 7 ?_ | refine d_rem 7 ?_ | refine d_quo 7 ?_ | refine d_shrv 7 ?_ | refine d_fieldat 7 ?_ | refine d_idx1 7 ?_ | refine d_index 7 ?_ | refine d_conv64 7 ?_ | refine d_slices 7 ?_ | refine d_concat 7 ?_ | refine d_build 7 ?_)
          (first | refine d_pure 8 ?_ | refine d_load 8 ?_ | refine d_arith 8 ?_ | refine d_rem 8 ?_ | refine d_quo 8 ?_ | refine d_shrv 8 ?_ | refine d_fieldat 8 ?_ | refine d_idx1 8 ?_ | refine d_index 8 ?_ | refine d_conv64 8 ?_ | refine d_slices 8 ?_ | refine d_concat 8 ?_ | refine d_build 8 ?_)
          refine d_idxo 9 (kk := 3) (os + i * 3) ?_
          (first | refine d_pure 10 ?_ | refine d_load 10 ?_ | refine d_arith 10 ?_ | refine d_rem 10 ?_ | refine d_quo 10 ?_ | refine d_shrv 10 ?_ | refine d_fieldat 10 ?_ | refine d_idx1 10 ?_ | refine d_index 10 ?_ | refine d_conv64 10 ?_ | refine d_slices 10 ?_ | refine d_concat 10 ?_ | refine d_build 10 ?_)
          refine d_loado 11 (j := i * 3 + 1) ho hx1 ?_
          refine d_call 12 ct2 ?_
          (first | refine d_pure 13 ?_ | refine d_load 13 ?_ | refine d_arith 13 ?_ | refine d_rem 13 ?_ | refine d_quo 13 ?_ | refine d_shrv 13 ?_ | refine d_fieldat 13 ?_ | refine d_idx1 13 ?_ | refine d_index 13 ?_ | refine d_conv64 13 ?_ | refine d_slices 13 ?_ | refine d_concat 13 ?_ | refine d_build 13 ?_)
          (first | refine d_pure 14 ?_ | refine d_load 14 ?_ | refine d_arith 14 ?_ | refine d_rem 14 ?_ | refine d_quo 14 ?_ | refine d_shrv 14 ?_ | refine d_fieldat 14 ?_ | refine d_idx1 14 ?_ | refine d_index 14 ?_ | refine d_conv64 14 ?_ | refine d_slices 14 ?_ | refine d_concat 14 ?_ | refine d_build 14 ?_)
          refine d_via 15 (X := Nat) (h1 := by refine s_built fun r => ?_; exact run_fin r) (h := fun rb => ?_)
          refine d_via 16 (X := Option Addr × Nat) (h1 := by refine s_app 2 24 (reads_own At.head rfl) (hxl := by rw [hel]) fun r => ?_; exact run_fin r) (h := fun r => ?_)
          (first | refine d_pure 17 ?_ | refine d_load 17 ?_ | refine d_arith 17 ?_ | refine d_rem 17 ?_ | refine d_quo 17 ?_ | refine d_shrv 17 ?_ | refine d_fieldat 17 ?_ | refine d_idx1 17 ?_ | refine d_index 17 ?_ | refine d_conv64 17 ?_ | refine d_slices 17 ?_ | refine d_concat 17 ?_ | refine d_build 17 ?_)
          refine d_done ?_
          (repeat (first | refine g ?_))
          refine run_stop_loop (i + 1, r.1, r.2) ⟨⟨by dsimp only; omega, by dsimp only; omega⟩, by dsimp only; omega⟩ fct ?_
          dsimp only
          rw [writesF_succ l i x hx, encWs_one, ← eW]
          exact shut
        have h3 : he = 0 := Decidable.not_not.1 h3
        subst h3
        cases hbad : x.bad with
        | true =>
          rw [show (encBk x)[2]? = some (.bool x.bad) from rfl, hbad] at hx2
          rw [hbad, if_pos (.inr rfl)] at eH
          subst eH
          (repeat (first | refine g ?_))
          refine s_idxo (kk := 3) (os + i * 3) ?_
          (repeat (first | refine g ?_))
          refine s_loado (j := i * 3) ho hx0 ?_
          (repeat (first | refine g ?_))
          refine s_call ch ?_
          (repeat (first | refine g ?_))
          refine s_idxo (kk := 3) (os + i * 3) ?_
          (repeat (first | refine g ?_))
          refine s_loado (j := i * 3 + 2) ho hx2 ?_
          (repeat (first | refine g ?_))
          refine s_idxo (kk := 3) (os + i * 3) ?_
          (repeat (first | refine g ?_))
          refine s_loado (j := i * 3 + 1) ho hx1 ?_
          (repeat (first | refine g ?_))
          refine s_call ct1 ?_
          (repeat (first | refine g ?_))
          refine d_start [sl wp i wc 54 2 (encWs ((l.take i).map blkW))] ?_
          (first | refine d_pure 0 ?_ | refine d_load 0 ?_ | refine d_arith 0 ?_ | refine d_rem 0 ?_ | refine d_quo 0 ?_ | refine d_shrv 0 ?_ | refine d_fieldat 0 ?_ | refine d_idx1 0 ?_ | refine d_index 0 ?_ | refine d_conv64 0 ?_ | refine d_slices 0 ?_ | refine d_concat 0 ?_ | refine d_build 0 ?_)
          (first | refine d_pure 1 ?_ | refine d_load 1 ?_ | refine d_arith 1 ?_ | refine d_rem 1 ?_ | refine d_quo 1 ?_ | refine d_shrv 1 ?_ | refine d_fieldat 1 ?_ | refine d_idx1 1 ?_ | refine d_index 1 ?_ | refine d_conv64 1 ?_ | refine d_slices 1 ?_ | refine d_concat 1 ?_ | refine d_build 1 ?_)
          (first | refine d_pure 2 ?_ | refine d_load 2 ?_ | refine d_arith 2 ?_ | refine d_rem 2 ?_ | refine d_quo 2 ?_ | refine d_shrv 2 ?_ | refine d_fieldat 2 ?_ | refine d_idx1 2 ?_ | refine d_index 2 ?_ | refine d_conv64 2 ?_ | refine d_slices 2 ?_ | refine d_concat 2 ?_ | refine d_build 2 ?_)
          refine d_idxo 3 (kk := 3) (os + i * 3) ?_
          (first | refine d_pure 4 ?_ | refine d_load 4 ?_ | refine d_arith 4 ?_ | refine d_rem 4 ?_ | refine d_quo 4 ?_ | refine d_shrv 4 ?_ | refine d_fieldat 4 ?_ | refine d_idx1 4 ?_ | refine d_index 4 ?_ | refine d_conv64 4 ?_ | refine d_slices 4 ?_ | refine d_concat 4 ?_ | refine d_build 4 ?_)
          refine d_loado 5 (j := i * 3) ho hx0 ?_
          (first | refine d_pure 6 ?_ | refine d_load 6 ?_ | refine d_arith 6 ?_ | refine d_rem 6 ?_ | refine d_quo 6 ?_ | refine d_shrv 6 ?_ | refine d_fieldat 6 ?_ | refine d_idx1 6 ?_ | refine d_index 6 ?_ | refine d_conv64 6 ?_ | refine d_slices 6 ?_ | refine d_concat 6 ?_ | refine d_build 6 ?_)
          (first | refine d_pure 7 ?_ | refine d_load 7 ?_ | refine d_arith 7 ?_ | refine d_rem 7 ?_ | refine d_quo 7 ?_ | refine d_shrv 7 ?_ | refine d_fieldat 7 ?_ | refine d_idx1 7 ?_ | refine d_index 7 ?_ | refine d_conv64 7 ?_ | refine d_slices 7 ?_ | refine d_concat 7 ?_ | refine d_build 7 ?_)
          (first | refine d_pure 8 ?_ | refine d_load 8 ?_ | refine d_arith 8 ?_ | refine d_rem 8 ?_ | refine d_quo 8 ?_ | refine d_shrv 8 ?_ | refine d_fieldat 8 ?_ | refine d_idx1 8 ?_ | refine d_index 8 ?_ | refine d_conv64 8 ?_ | refine d_slices 8 ?_ | refine d_concat 8 ?_ | refine d_build 8 ?_)
          refine d_idxo 9 (kk := 3) (os + i * 3) ?_
          (first | refine d_pure 10 ?_ | refine d_load 10 ?_ | refine d_arith 10 ?_ | refine d_rem 10 ?_ | refine d_quo 10 ?_ | refine d_shrv 10 ?_ | refine d_fieldat 10 ?_ | refine d_idx1 10 ?_ | refine d_index 10 ?_ | refine d_conv64 10 ?_ | refine d_slices 10 ?_ | refine d_concat 10 ?_ | refine d_build 10 ?_)
          refine d_loado 11 (j := i * 3 + 1) ho hx1 ?_
          refine d_call 12 ct2 ?_
          (first | refine d_pure 13 ?_ | refine d_load 13 ?_ | refine d_arith 13 ?_ | refine d_rem 13 ?_ | refine d_quo 13 ?_ | refine d_shrv 13 ?_ | refine d_fieldat 13 ?_ | refine d_idx1 13 ?_ | refine d_index 13 ?_ | refine d_conv64 13 ?_ | refine d_slices 13 ?_ | refine d_concat 13 ?_ | refine d_build 13 ?_)
          (first | refine d_pure 14 ?_ | refine d_load 14 ?_ | refine d_arith 14 ?_ | refine d_rem 14 ?_ | refine d_quo 14 ?_ | refine d_shrv 14 ?_ | refine d_fieldat 14 ?_ | refine d_idx1 14 ?_ | refine d_index 14 ?_ | refine d_conv64 14 ?_ | refine d_slices 14 ?_ | refine d_concat 14 ?_ | refine d_build 14 ?_)
          refine d_via 15 (X := Nat) (h1 := by refine s_built fun r => ?_; exact run_fin r) (h := fun rb => ?_)
          refine d_via 16 (X := Option Addr × Nat) (h1 := by refine s_app 2 24 (reads_own At.head rfl) (hxl := by rw [hel]) fun r => ?_; exact run_fin r) (h := fun r => ?_)
          (first | refine d_pure 17 ?_ | refine d_load 17 ?_ | refine d_arith 17 ?_ | refine d_rem 17 ?_ | refine d_quo 17 ?_ | refine d_shrv 17 ?_ | refine d_fieldat 17 ?_ | refine d_idx1 17 ?_ | refine d_index 17 ?_ | refine d_conv64 17 ?_ | refine d_slices 17 ?_ | refine d_concat 17 ?_ | refine d_build 17 ?_)
          refine d_done ?_
          (repeat (first | refine g ?_))
          refine run_stop_loop (i + 1, r.1, r.2) ⟨⟨by dsimp only; omega, by dsimp only; omega⟩, by dsimp only; omega⟩ fct ?_
          dsimp only
          rw [writesF_succ l i x hx, encWs_one, ← eW]
          exact shut
        | false =>
          rw [show (encBk x)[2]? = some (.bool x.bad) from rfl, hbad] at hx2
          rw [hbad, if_neg (fun h => h.elim (fun h => h rfl) (fun h => absurd h (by decide)))] at eH
          subst eH
          (repeat (first | refine g ?_))
          refine s_idxo (kk := 3) (os + i * 3) ?_
          (repeat (first | refine g ?_))
          refine s_loado (j := i * 3) ho hx0 ?_
          (repeat (first | refine g ?_))
          refine s_call ch ?_
          (repeat (first | refine g ?_))
          refine s_idxo (kk := 3) (os + i * 3) ?_
          (repeat (first | refine g ?_))
          refine s_loado (j := i * 3 + 2) ho hx2 ?_
          (repeat (first | refine g ?_))
          refine d_start [sl wp i wc 54 2 (encWs ((l.take i).map blkW))] ?_
          (first | refine d_pure 0 ?_ | refine d_load 0 ?_ | refine d_arith 0 ?_ | refine d_rem 0 ?_ | refine d_quo 0 ?_ | refine d_shrv 0 ?_ | refine d_fieldat 0 ?_ | refine d_idx1 0 ?_ | refine d_index 0 ?_ | refine d_conv64 0 ?_ | refine d_slices 0 ?_ | refine d_concat 0 ?_ | refine d_build 0 ?_)
          (first | refine d_pure 1 ?_ | refine d_load 1 ?_ | refine d_arith 1 ?_ | refine d_rem 1 ?_ | refine d_quo 1 ?_ | refine d_shrv 1 ?_ | refine d_fieldat 1 ?_ | refine d_idx1 1 ?_ | refine d_index 1 ?_ | refine d_conv64 1 ?_ | refine d_slices 1 ?_ | refine d_concat 1 ?_ | refine d_build 1 ?_)
          (first | refine d_pure 2 ?_ | refine d_load 2 ?_ | refine d_arith 2 ?_ | refine d_rem 2 ?_ | refine d_quo 2 ?_ | refine d_shrv 2 ?_ | refine d_fieldat 2 ?_ | refine d_idx1 2 ?_ | refine d_index 2 ?_ | refine d_conv64 2 ?_ | refine d_slices 2 ?_ | refine d_concat 2 ?_ | refine d_build 2 ?_)
          refine d_idxo 3 (kk := 3) (os + i * 3) ?_
          (first | refine d_pure 4 ?_ | refine d_load 4 ?_ | refine d_arith 4 ?_ | refine d_rem 4 ?_ | refine d_quo 4 ?_ | refine d_shrv 4 ?_ | refine d_fieldat 4 ?_ | refine d_idx1 4 ?_ | refine d_index 4 ?_ | refine d_conv64 4 ?_ | refine d_slices 4 ?_ | refine d_concat 4 ?_ | refine d_build 4 ?_)
          refine d_loado 5 (j := i * 3) ho hx0 ?_
          (first | refine d_pure 6 ?_ | refine d_load 6 ?_ | refine d_arith 6 ?_ | refine d_rem 6 ?_ | refine d_quo 6 ?_ | refine d_shrv 6 ?_ | refine d_fieldat 6 ?_ | refine d_idx1 6 ?_ | refine d_index 6 ?_ | refine d_conv64 6 ?_ | refine d_slices 6 ?_ | refine d_concat 6 ?_ | refine d_build 6 ?_)
          (first | refine d_pure 7 ?_ | refine d_load 7 ?_ | refine d_arith 7 ?_ | refine d_rem 7 ?_ | refine d_quo 7 ?_ | refine d_shrv 7 ?_ | refine d_fieldat 7 ?_ | refine d_idx1 7 ?_ | refine d_index 7 ?_ | refine d_conv64 7 ?_ | refine d_slices 7 ?_ | refine d_concat 7 ?_ | refine d_build 7 ?_)
          (first | refine d_pure 8 ?_ | refine d_load 8 ?_ | refine d_arith 8 ?_ | refine d_rem 8 ?_ | refine d_quo 8 ?_ | refine d_shrv 8 ?_ | refine d_fieldat 8 ?_ | refine d_idx1 8 ?_ | refine d_index 8 ?_ | refine d_conv64 8 ?_ | refine d_slices 8 ?_ | refine d_concat 8 ?_ | refine d_build 8 ?_)
          refine d_idxo 9 (kk := 3) (os + i * 3) ?_
          (first | refine d_pure 10 ?_ | refine d_load 10 ?_ | refine d_arith 10 ?_ | refine d_rem 10 ?_ | refine d_quo 10 ?_ | refine d_shrv 10 ?_ | refine d_fieldat 10 ?_ | refine d_idx1 10 ?_ | refine d_index 10 ?_ | refine d_conv64 10 ?_ | refine d_slices 10 ?_ | refine d_concat 10 ?_ | refine d_build 10 ?_)
          refine d_loado 11 (j := i * 3 + 1) ho hx1 ?_
          refine d_call 12 ct2 ?_
          (first | refine d_pure 13 ?_ | refine d_load 13 ?_ | refine d_arith 13 ?_ | refine d_rem 13 ?_ | refine d_quo 13 ?_ | refine d_shrv 13 ?_ | refine d_fieldat 13 ?_ | refine d_idx1 13 ?_ | refine d_index 13 ?_ | refine d_conv64 13 ?_ | refine d_slices 13 ?_ | refine d_concat 13 ?_ | refine d_build 13 ?_)
          (first | refine d_pure 14 ?_ | refine d_load 14 ?_ | refine d_arith 14 ?_ | refine d_rem 14 ?_ | refine d_quo 14 ?_ | refine d_shrv 14 ?_ | refine d_fieldat 14 ?_ | refine d_idx1 14 ?_ | refine d_index 14 ?_ | refine d_conv64 14 ?_ | refine d_slices 14 ?_ | refine d_concat 14 ?_ | refine d_build 14 ?_)
          refine d_via 15 (X := Nat) (h1 := by refine s_built fun r => ?_; exact run_fin r) (h := fun rb => ?_)
          refine d_via 16 (X := Option Addr × Nat) (h1 := by refine s_app 2 24 (reads_own At.head rfl) (hxl := by rw [hel]) fun r => ?_; exact run_fin r) (h := fun r => ?_)
          (first | refine d_pure 17 ?_ | refine d_load 17 ?_ | refine d_arith 17 ?_ | refine d_rem 17 ?_ | refine d_quo 17 ?_ | refine d_shrv 17 ?_ | refine d_fieldat 17 ?_ | refine d_idx1 17 ?_ | refine d_index 17 ?_ | refine d_conv64 17 ?_ | refine d_slices 17 ?_ | refine d_concat 17 ?_ | refine d_build 17 ?_)
          refine d_done ?_
          (repeat (first | refine g ?_))
          refine run_stop_loop (i + 1, r.1, r.2) ⟨⟨by dsimp only; omega, by dsimp only; omega⟩, by dsimp only; omega⟩ fct ?_
          dsimp only
          rw [writesF_succ l i x hx, encWs_one, ← eW]
          exact shut
      · have e : i = min 30 l.length := by omega
        have e2 : (l.take i).map blkW = writesF l := by
          obtain rfl : i = 30 := by omega
          rfl
        rw [e2]
        (repeat (first | refine g ?_))
        refine run_stop_loop (wp, wc) trivial ?_ ?_
        · rw [← e]; exact fct
        · rw [← e]; exact shut
    · have e : i = min 30 l.length := by omega
      have e2 : (l.take i).map blkW = writesF l := by
        unfold writesF
        rw [List.take_of_length_le (by omega), List.take_of_length_le (by omega)]
      rw [e2]
      (repeat (first | refine g ?_))
      refine run_stop_loop (wp, wc) trivial ?_ ?_
      · rw [← e]; exact fct
      · rw [← e]; exact shut
  · (repeat (first | refine g ?_))
    exact run_ret rfl (imp_RX r rfl shut)
end Go.Proofs.YtaiocnpecaecdaaGreatDoor.V
namespace Go.Proofs.YtaiocnpecaecdaaGreatDoor.V
open Go.Proofs.YtaiocnpecaecdaaGreatDoor.VL Go.Proofs.YtaiocnpecaecdaaGreatDoor.VL.RD Go.Proofs.YtaiocnpecaecdaaGreatDoor.VL.Sha
attribute [local irreducible] Run numB
def supX (e : Int) : SuperT := ⟨7, e, 5, 48, bytesF 3 32⟩
def h40 : HeadT := ⟨0, 40, 0, 0, 0, 0, 0, 0⟩
def w40 : WriteT := ⟨40, (headF h40).1 ++ bytesF 1 464⟩
theorem w40_size : w40.raw.size = 512 := by
  show ((headF h40).1 ++ bytesF 1 464).size = 512
  rw [ByteArray.size_append, bytesF_size]
  have : headF h40 = (bl (headL h40), 0) := by unfold headF; rw [if_pos (by decide)]
  rw [this]
  show (bl (headL h40)).size + 464 = 512
  rw [blen_size, headL_len]
theorem w40_head : headOfF (w40.raw.extract 0 48) = (h40, 0) := by
  have hf : headF h40 = (bl (headL h40), 0) := by unfold headF; rw [if_pos (by decide)]
  have e : w40.raw.extract 0 48 = bl (headL h40) := by
    show ((headF h40).1 ++ bytesF 1 464).extract 0 48 = _
    rw [hf]
    exact ext_l (by rw [blen_size, headL_len])
  have hg := headGood_head w40.raw h40 e
  unfold headGood at hg
  rw [e] at hg ⊢
  unfold headOfF
  rw [if_pos hg, headP_back h40 (by decide)]
theorem may40 : mayF 48 [w40] = true := by
  have e1 : w40.at_ = 40 := rfl
  unfold mayF mayG
  rw [w40_head, e1, if_neg, if_neg]
  · rfl
  · rintro (h | h)
    · exact h rfl
    · exact h rfl
  · rintro (h | h | h)
    · exact absurd h (by decide)
    · exact absurd h (by decide)
    · exact h w40_size
theorem supX_root (e : Int) : (supX e).root.size = 32 := bytesF_size 3 32
theorem live784 (d : PSt) (h : d.sectors = 784) : liveF d.sectors = (48, 0) := by
  rw [h]
  exact live_some (l := 48) (by decide) (by decide) (by decide)
theorem slot_ok (h : HeadT) (x : SuperT) (a : Int) (hk : h.kind = 1) (hr : x.root.size = 32) (hf : (fldSu x).all okN = true) (ha : x.epoch % 2 = a) (hl : x.live = 48) : slotF ⟨true, h, bl (superL x)⟩ a 48 = (x, true) := by
  unfold slotF
  rw [if_neg]
  · rw [superOf_back x hr hf, if_neg]
    rintro (h | h | h)
    · exact h rfl
    · exact h ha
    · exact h hl
  · rintro (h | h)
    · exact absurd (show true = false from h) (by decide)
    · exact h hk
theorem format_ok : ∃ (D1 : PSt) (V1 : VSt) (raw0 : ByteArray), formatM idealP (blank 784) s00 (supX 0) = (0, D1, V1) ∧ Up 24 784 D1 ∧ hasB D1 0 raw0 ∧ Sealed V1 (headSu (supX 0)) (bl (superL (supX 0))) raw0 := by
  obtain ⟨raw0, e0, k0⟩ := superM_ok s00 (supX 0) (supX_root 0) (by decide) (by decide)
  have u0 : Up 0 784 (blank 784) := ⟨PW.blank 784 (by decide), rfl, rfl, rfl⟩
  obtain ⟨d1, p1, u1, b1, m1⟩ := u0.put (by decide) (1 - 0) (by decide) (by decide) blankB blankB_sz
  obtain ⟨d2, p2, u2, b2, m2⟩ := u1.put (by decide) 2 (by decide) (by decide) blankB blankB_sz
  obtain ⟨d3, p3, u3, m3⟩ := u2.flush
  obtain ⟨d4, p4, u4, b4, m4⟩ := u3.put (by decide) 0 (by decide) (by decide) raw0 k0.sz
  obtain ⟨d5, p5, u5, m5⟩ := u4.flush
  refine ⟨d5, sealS s00 (headSu (supX 0)) (bl (superL (supX 0))), raw0, ?_, u5, m5 0 raw0 (by decide) (by decide) b4, k0⟩
  unfold formatM
  rw [live784 (blank 784) rfl, if_neg]
  · dsimp only
    rw [e0]
    dsimp only
    rw [if_neg (fun h => h rfl)]
    show (stopF (dflush (dput (dflush (dput (dput (blank 784, 0) (1 - 0) blankB) 2 blankB)) 0 raw0)).2, (dflush (dput (dflush (dput (dput (blank 784, 0) (1 - 0) blankB) 2 blankB)) 0 raw0)).1, _) = _
    rw [p1, p2, p3, p4, p5]
    rfl
  · rintro (h | h)
    · exact h rfl
    · exact h rfl
theorem commit_ok (D1 : PSt) (V1 : VSt) (raw0 : ByteArray) (u : Up 24 784 D1) (b0 : hasB D1 0 raw0) (k0 : Sealed V1 (headSu (supX 0)) (bl (superL (supX 0))) raw0) :
    ∃ (D2 : PSt) (V2 : VSt) (raw1 word B : ByteArray), commitM idealP D1 V1 [w40] (supX 1) = (0, D2, V2) ∧ Up 56 784 D2 ∧ hasB D2 0 raw0 ∧ hasB D2 1 raw1 ∧ hasB D2 2 word ∧
      Sealed V2 (headSu (supX 0)) (bl (superL (supX 0))) raw0 ∧ Sealed V2 (headSu (supX 1)) (bl (superL (supX 1))) raw1 ∧ Sealed V2 (headPr (supX 1)) B word ∧ nextF B = (supX 1, 0) := by
  obtain ⟨H, hH⟩ : ∃ H, H = (idealP.hashF V1 (bl (joinedL [w40]))).1 := ⟨_, rfl⟩
  have hH32 : H.size = 32 := by rw [hH]; exact numB_size _ 32 (by decide)
  obtain ⟨z448, hn⟩ := prom_next 1 (by decide) H hH32 (supX 1) (supX_root 1) (by decide)
  have kh : Sealed (idealP.hashF V1 (bl (joinedL [w40]))).2 (headSu (supX 0)) (bl (superL (supX 0))) raw0 := k0.hash _
  obtain ⟨Vh, hVh⟩ : ∃ V : VSt, V = (idealP.hashF V1 (bl (joinedL [w40]))).2 := ⟨_, rfl⟩
  rw [← hVh] at kh
  obtain ⟨B, hB⟩ : ∃ B, B = promB 1 H (bl (superL (supX 1))) := ⟨_, rfl⟩
  rw [← hB] at z448 hn
  obtain ⟨word, ew, kw⟩ := seal_new Vh (headPr (supX 1)) B (by decide) z448
  obtain ⟨raw1, e1, k1⟩ := superM_ok (sealS Vh (headPr (supX 1)) B) (supX 1) (supX_root 1) (by decide) (by decide)
  have s448 := superB_size (supX 1) (supX_root 1)
  have kw2 := kw.seal (headSu (supX 1)) (bl (superL (supX 1))) (by decide) s448
  have k02 := (kh.seal (headPr (supX 1)) B (by decide) z448).seal (headSu (supX 1)) (bl (superL (supX 1))) (by decide) s448
  obtain ⟨d1, p1, u1, b1, m1⟩ := u.put (by decide) 3 (by decide) (by decide) w40.raw w40_size
  obtain ⟨d2, p2, u2, m2⟩ := u1.flush
  obtain ⟨d3, p3, u3, b3, m3⟩ := u2.put (by decide) 2 (by decide) (by decide) word kw.sz
  obtain ⟨d4, p4, u4, m4⟩ := u3.flush
  obtain ⟨d5, p5, u5, b5, m5⟩ := u4.put (by decide) 40 (by decide) (by decide) w40.raw w40_size
  obtain ⟨d6, p6, u6, m6⟩ := u5.flush
  obtain ⟨d7, p7, u7, b7, m7⟩ := u6.put (by decide) 1 (by decide) (by decide) raw1 k1.sz
  obtain ⟨d8, p8, u8, m8⟩ := u7.flush
  have c0 : hasB d8 0 raw0 := m8 _ _ (by decide) (by decide) (m7 _ _ (by decide) (m6 _ _ (by decide) (by decide) (m5 _ _ (by decide) (m4 _ _ (by decide) (by decide) (m3 _ _ (by decide) (m2 _ _ (by decide) (by decide) (m1 _ _ (by decide) b0)))))))
  have c2 : hasB d8 2 word := m8 _ _ (by decide) (by decide) (m7 _ _ (by decide) (m6 _ _ (by decide) (by decide) (m5 _ _ (by decide) (m4 _ _ (by decide) (by decide) b3))))
  have c1 : hasB d8 1 raw1 := m8 _ _ (by decide) (by decide) b7
  refine ⟨d8, sealS (sealS Vh (headPr (supX 1)) B) (headSu (supX 1)) (bl (superL (supX 1))), raw1, word, B, ?_, u8, c0, c1, c2, k02, k1, kw2, hn⟩
  have hp : promiseM idealP V1 [w40] (supX 1) = ((word, 0), sealS Vh (headPr (supX 1)) B) := by
    unfold promiseM
    rw [super_ok (supX 1) (supX_root 1) (by decide), if_neg (fun h => h rfl)]
    show bsealF (idealP.hashF V1 (bl (joinedL [w40]))).2 (headPr (supX 1)) (promB 1 (idealP.hashF V1 (bl (joinedL [w40]))).1 (bl (superL (supX 1)))) = _
    rw [← hH, ← hVh, ← hB, ew]
  unfold commitM
  rw [live784 D1 u.sec, if_neg (by decide), if_neg]
  · dsimp only
    rw [hp]
    dsimp only
    rw [if_neg (fun h => h rfl), e1]
    show (stopF (dflush (dput (dflush (dput (dflush (dput (dflush (dput (D1, 0) 3 w40.raw)) 2 word)) 40 w40.raw)) 1 raw1)).2, (dflush (dput (dflush (dput (dflush (dput (dflush (dput (D1, 0) 3 w40.raw)) 2 word)) 40 w40.raw)) 1 raw1)).1, _) = _
    rw [p1, p2, p3, p4, p5, p6, p7, p8]
    rfl
  · rintro (h | h | h | h | h)
    · exact absurd h (by decide)
    · exact absurd h (by decide)
    · exact h rfl
    · exact h rfl
    · rw [show (supX 1).live = 48 from rfl, may40] at h
      exact absurd h (by decide)
theorem recover_ok (D2 : PSt) (V2 : VSt) (raw0 raw1 word B : ByteArray) (u : Up 56 784 D2) (b0 : hasB D2 0 raw0) (b1 : hasB D2 1 raw1) (b2 : hasB D2 2 word) (k0 : Sealed V2 (headSu (supX 0)) (bl (superL (supX 0))) raw0)
    (k1 : Sealed V2 (headSu (supX 1)) (bl (superL (supX 1))) raw1) (kw : Sealed V2 (headPr (supX 1)) B word) (hn : nextF B = (supX 1, 0)) : (recoverM idealP D2 V2).1 = (supX 1, 0, 0) := by
  obtain ⟨g0, u0, m0⟩ := u.get (by decide) 0 (by decide) (by decide) raw0 b0
  obtain ⟨g1, u1, m1⟩ := u0.get (by decide) 1 (by decide) (by decide) raw1 (m0 _ _ b1)
  have im := u1.image 2 (by decide) (by decide) word (m1 _ _ (m0 _ _ b2))
  have l0 : loadM idealP D2 V2 0 = ⟨true, headSu (supX 0), bl (superL (supX 0))⟩ := by
    unfold loadM
    rw [g0, if_neg]
    · exact k0.told 0 rfl
    · rintro (h | h)
      · exact h rfl
      · exact h rfl
  have l1 : loadM idealP (rds D2 8) V2 1 = ⟨true, headSu (supX 1), bl (superL (supX 1))⟩ := by
    unfold loadM
    rw [g1, if_neg]
    · exact k1.told 1 rfl
    · rintro (h | h)
      · exact h rfl
      · exact h rfl
  have lk : lookM idealP V2 (rawsL (rds (rds D2 8) 8) (blocksN (rds (rds D2 8) 8))) (masksL (rds (rds D2 8) 8) (blocksN (rds (rds D2 8) 8))) 2 = ⟨true, headPr (supX 1), B⟩ := by
    unfold lookM
    rw [im, if_neg (fun h => h rfl)]
    exact kw.told 2 rfl
  have hc : chooseF [⟨true, headSu (supX 0), bl (superL (supX 0))⟩, ⟨true, headSu (supX 1), bl (superL (supX 1))⟩] 48 = (supX 1, true) := by
    unfold chooseF
    dsimp only
    rw [slot_ok (headSu (supX 0)) (supX 0) 0 rfl (supX_root 0) (by decide) rfl rfl, slot_ok (headSu (supX 1)) (supX 1) 1 rfl (supX_root 1) (by decide) rfl rfl]
    have i1 : betterF (zeroSu, false) (supX 0, true) = (supX 0, true) := if_pos ⟨rfl, .inl rfl⟩
    have i2 : betterF (supX 0, true) (supX 1, true) = (supX 1, true) := if_pos ⟨rfl, .inr (by decide)⟩
    rw [i1, i2]
  unfold recoverM
  rw [if_neg (by rw [u.up]; decide), live784 D2 u.sec, if_neg (fun h => h rfl)]
  dsimp only
  rw [l0, g0]
  dsimp only
  rw [l1, g1]
  dsimp only
  rw [hc, if_neg (by decide), if_pos]
  by_cases hf : (foundM idealP V2 48 (rawsL (rds (rds D2 8) 8) (blocksN (rds (rds D2 8) 8))) (masksL (rds (rds D2 8) 8) (blocksN (rds (rds D2 8) 8)))).1.2.2 = true
  · refine .inr ?_
    have e := found_next idealP V2 48 _ _ hf
    rw [lk] at e
    dsimp only at e
    rw [hn] at e
    rw [e]
    decide
  · exact .inl (by simpa using hf)
end Go.Proofs.YtaiocnpecaecdaaGreatDoor.V
namespace Go.Proofs.YtaiocnpecaecdaaGreatDoor.V
open Go.Proofs.YtaiocnpecaecdaaGreatDoor.VL Go.Proofs.YtaiocnpecaecdaaGreatDoor.VL.RD Go.Proofs.YtaiocnpecaecdaaGreatDoor.VL.Sha
attribute [local irreducible] Run numB
theorem toldR_no (H : HeadT) (B : ByteArray) (e a : Int) (h : (toldR H B e a).ok = false) : toldR H B e a = noR := by
  unfold toldR at *
  split at h
  · exact absurd (show true = false from h) (by decide)
  · rename_i h2; rw [if_neg h2]
theorem btoldF_no (s : VSt) (raw : ByteArray) (a : Int) (h : (btoldF s raw a).ok = false) : btoldF s raw a = noR := toldR_no _ _ _ _ h
theorem btoldF_body (s : VSt) (raw : ByteArray) (a : Int) (h : (btoldF s raw a).ok = true) : (btoldF s raw a).body.size = 448 := by
  by_cases hz : raw.size = 512
  · obtain ⟨ho, ha⟩ := (told_ok s raw a hz).1 h
    have hg : headGood raw := ((opens_iff s raw hz).1 ho).1
    have := told_open s raw (openH raw) ((raw.extract 48 512).extract 0 448) hz ho hg rfl rfl
    rw [ha] at this
    rw [this]
    show ((raw.extract 48 512).extract 0 448).size = 448
    rw [ByteArray.size_extract, ByteArray.size_extract]
    omega
  · have e : btoldF s raw a = noR := by
      unfold btoldF
      rw [bopenF_len s raw hz]
      unfold toldR
      rw [if_neg (fun h => absurd h.1 (by decide))]
    rw [e] at h
    exact absurd (show false = true from h) (by decide)
theorem btoldF_head (s : VSt) (raw : ByteArray) (a : Int) : HeadOk (btoldF s raw a).head := by
  have h := bopenF_fits s raw
  unfold btoldF toldR
  split
  · exact h.1
  · exact zeroH_ok
theorem bsealF_ok1 {n : Nat} {s : VSt} (hs : VOk n s) (h : HeadT) (X : ByteArray) : VOk (n + 1) (bsealF s h X).2 := bsealF_vok hs h X
theorem hashF_ok1 {n : Nat} {s : VSt} (hs : VOk n s) (t : ByteArray) : VOk (n + 1) { s with hs := cntL s.hs t } := by
  have hc := (cnt_le s.hs t).2
  have := hs.hs
  exact ⟨by show (cntL s.hs t).length ≤ _; omega, Nat.le_succ_of_le hs.ms, Nat.le_succ_of_le hs.es, hs.mo, hs.eo⟩
noncomputable def idealM (q : View) (v : Nat) : VM q (.pointer (some ⟨v, 0, none⟩)) idealP where
  ch := vaultAt v
  ok := VOk
  mono := fun h hm => h.mono hm
  sealOk := fun h X hs => bsealF_ok1 hs h X
  sealC := fun h X hs hn hh => bseal_ideal q v _ (hs.mono (by omega)) h hh X
  sealB := fun s h X => by
    have := bsealF_size s h X
    show (bsealF s h X).1.1.size ≤ 1000000
    omega
  hashOk := fun t hs => hashF_ok1 hs t
  hashC := fun t _ hs hn => hash_spec q v _ (hs.mono (by omega)) t
  hash32 := fun s t => numB_size _ 32 (by decide)
  toldC := fun raw a hs hn => btold_ideal q v _ (hs.mono (by omega)) raw a
  toldH := btoldF_head
  toldB := btoldF_body
  toldN := btoldF_no
end Go.Proofs.YtaiocnpecaecdaaGreatDoor.V
namespace Go.Proofs.YtaiocnpecaecdaaGreatDoor.V
open Go.Proofs.YtaiocnpecaecdaaGreatDoor.VL Go.Proofs.YtaiocnpecaecdaaGreatDoor.VL.RD Go.Proofs.YtaiocnpecaecdaaGreatDoor.VL.Sha
attribute [local irreducible] Run numB
theorem format_ok1 {q : View} {v : Value} {p : VP} (M : VM q v p) {n : Nat} {s : p.St} (hs : M.ok n s) (d : PSt) (x : SuperT) : M.ok (n + 1) (formatM p d s x).2.2 := by
  unfold formatM
  dsimp only
  split
  · exact M.mono hs (by omega)
  · split
    · exact superM_ok1 M hs x
    · exact superM_ok1 M hs x
theorem commit_ok1 {q : View} {v : Value} {p : VP} (M : VM q v p) {n : Nat} {s : p.St} (hs : M.ok n s) (d : PSt) (l : List WriteT) (x : SuperT) : M.ok (n + 3) (commitM p d s l x).2.2 := by
  have hp : M.ok (n + 2) (promiseM p s l x).2 := by
    unfold promiseM
    split
    · exact M.mono hs (by omega)
    · exact M.sealOk _ _ (M.hashOk _ hs)
  unfold commitM
  dsimp only
  split
  · exact M.mono hs (by omega)
  split
  · exact M.mono hs (by omega)
  split
  · exact M.mono hp (by omega)
  · exact superM_ok1 M hp x
theorem commit_pw (p : VP) {n : Nat} {d : PSt} (h : PW n d) (hn : n < 90000) (s : p.St) (l : List WriteT) (x : SuperT) : PW (n + 500) (commitM p d s l x).2.1 ∧ (commitM p d s l x).2.1.sectors = d.sectors := by
  unfold commitM
  dsimp only
  split
  · exact ⟨h.mono (by omega), rfl⟩
  · rename_i hl
    split
    · exact ⟨h.mono (by omega), rfl⟩
    · split
      · exact ⟨h.mono (by omega), rfl⟩
      · have k1 := putsD_pw (d := (d, 0)) l 3 h (by omega)
        have k2 := dflush_pw k1.1
        have k3 := dput_pw k2.1 (by omega) 2 (promiseM p s l x).1.1
        have k4 := dflush_pw k3.1
        have k5 := finishD_pw k4.1 l (superM p (promiseM p s l x).2 x).1.1 (by omega)
        exact ⟨k5.1.mono (by omega), by rw [k5.2, k4.2, k3.2, k2.2, k1.2]⟩
theorem writes40 : writesF [⟨40, 1, false⟩] = [w40] := by
  have e : headF (hAt 40) = (bl (headL (hAt 40)), 0) := by unfold headF; rw [if_pos (by decide)]
  unfold writesF
  show [blkW ⟨40, 1, false⟩] = [w40]
  unfold blkW blkR blkH
  dsimp only
  rw [e, if_neg]
  · unfold w40
    rw [show headF h40 = headF (hAt 40) from rfl, e]
  · rintro (h | h)
    · exact h rfl
    · exact absurd h (by decide)
theorem supX_ok (e : Int) (h0 : 0 ≤ e) (h1 : e ≤ 100) : SuperOk (supX e) := by
  have hr : (supX e).root.size = 32 := supX_root e
  constructor
  · show (-9223372036854775808 : Int) ≤ 7; decide
  · show (7 : Int) ≤ 9223372036854775807; decide
  · show -9223372036854775808 ≤ e; omega
  · show e ≤ 9223372036854775807; omega
  · show (-9223372036854775808 : Int) ≤ 5; decide
  · show (5 : Int) ≤ 9223372036854775807; decide
  · show (-9223372036854775808 : Int) ≤ 48; decide
  · show (48 : Int) ≤ 9223372036854775807; decide
  · rw [hr]; decide
theorem writes40_spec (q : View) (rs : Nat) : FnX Tryz.prog q 26 [.slice (some ⟨rs, 0, none⟩) 1 1] [cells rs 98 ⟨[.int .i64 40, .int .u8 1, .bool false]⟩] (fun r : Option Addr × Nat => .slice r.1 ([w40] : List WriteT).length r.2) fun r => [cells rs 98 ⟨[.int .i64 40, .int .u8 1, .bool false]⟩, sl r.1 ([w40] : List WriteT).length r.2 54 2 (encWs [w40])] := by
  rw [← writes40]
  exact FnX.lend Tryz.call26 fun q' hX hx hs' hq => writes12_spec q' (some ⟨rs, 0, none⟩) 1 [⟨40, 1, false⟩] ⟨RowQ.of_cells hx hs' rfl, fun x hx => by
    obtain rfl := List.mem_singleton.1 hx
    exact ⟨by show (-9223372036854775808 : Int) ≤ 40; decide, by show (40 : Int) ≤ 9223372036854775807; decide, by show (0 : Int) ≤ 1; decide, by show (1 : Int) ≤ 255; decide⟩⟩ (by show 1 ≤ _; decide)
set_option maxHeartbeats 4000000 in
theorem awake12_spec (q : View) (hE : ErrQ q) : FnD Tryz.prog q 15 [] [] (.bool true) [] := by
  obtain ⟨D1, V1, raw0, e1, u1, b0, k0⟩ := format_ok
  obtain ⟨D2, V2, raw1, word, B, e2, u2, c0, c1, c2, s0, s1, sw, hn⟩ := commit_ok D1 V1 raw0 u1 b0 k0
  have e3 := recover_ok D2 V2 raw0 raw1 word B u2 c0 c1 c2 s0 s1 sw hn
  have cs : FnD Tryz.prog q 25 [.int .i64 48] [] (.int .i64 784) [] := sectors12_spec q 48 (by decide) (by decide)
  have w0 : ∀ v : Nat × Nat, FnD Tryz.prog q 23 [.pointer (some ⟨v.1, 0, none⟩), .pointer (some ⟨v.2, 0, none⟩), .agg ⟨encSu (supX 0)⟩] [plateAt v.1 (blank 784), vaultAt v.2 s00] (.int .i64 0) [plateAt v.1 D1, vaultAt v.2 V1] := fun v => by
    have := jformat_spec hE (idealM q v.2) (s := s00) (n := 0) s00_ok (by decide) (supX 0) (supX_ok 0 (by decide) (by decide)) v.1 0 (blank 784) (PW.blank 784 (by decide)) (by decide)
    rw [e1] at this
    exact this
  have o1 : VOk 1 V1 := by
    have := format_ok1 (idealM q 0) (s := s00) (n := 0) s00_ok (blank 784) (supX 0)
    rw [e1] at this
    exact this
  have w1 : ∀ v : (Nat × Nat) × Option Addr × Nat, FnD Tryz.prog q 21 [.pointer (some ⟨v.1.1, 0, none⟩), .pointer (some ⟨v.1.2, 0, none⟩), .slice v.2.1 ([w40] : List WriteT).length v.2.2, .agg ⟨encSu (supX 1)⟩] [plateAt v.1.1 D1, sl v.2.1 ([w40] : List WriteT).length v.2.2 54 2 (encWs [w40]), vaultAt v.1.2 V1] (.int .i64 0) [plateAt v.1.1 D2, sl v.2.1 ([w40] : List WriteT).length v.2.2 54 2 (encWs [w40]), vaultAt v.1.2 V2] := fun v => by
    have := commit_spec hE (idealM q v.1.2) (s := V1) (n := 1) o1 (by decide) (supX 1) (supX_ok 1 (by decide) (by decide)) v.1.1 24 D1 u1.pw (by decide) v.2.1 v.2.2 [w40] (fun w hw => by
      obtain rfl := List.mem_singleton.1 hw
      have hz := w40_size
      exact ⟨by show (-9223372036854775808 : Int) ≤ 40; decide, by show (40 : Int) ≤ 9223372036854775807; decide, by omega⟩) (by show 1 ≤ 1000; decide)
    rw [e2] at this
    exact this
  have o2 : VOk 4 V2 := by
    have := commit_ok1 (idealM q 0) (s := V1) (n := 1) o1 D1 [w40] (supX 1)
    rw [e2] at this
    exact this
  have w2 : ∀ v : Nat × Nat, FnD Tryz.prog q 20 [.pointer (some ⟨v.1, 0, none⟩), .pointer (some ⟨v.2, 0, none⟩)] [plateAt v.1 D2, vaultAt v.2 V2] (.tuple #[.agg ⟨encSu (supX 1)⟩, .int .i64 0, .int .i64 0]) [plateAt v.1 (recoverM idealP D2 V2).2.1, vaultAt v.2 (recoverM idealP D2 V2).2.2] := fun v => by
    have := recover_spec hE (idealM q v.2) (s := V2) (n := 4) o2 (by decide) v.1 56 D2 u2.pw (by decide)
    rw [e3] at this
    exact this
  have ci : FnX Tryz.prog q 19 [] [] (fun v : Nat => .pointer (some ⟨v, 0, none⟩)) fun v => [vaultAt v s00] := ideal_new q
  have k1 := sup12_spec q 48 0
  have k2 := sup12_spec q 48 1
  rw [show (⟨7, 0, 5, 48, bytesF 3 32⟩ : SuperT) = supX 0 from rfl] at k1
  rw [show (⟨7, 1, 5, 48, bytesF 3 32⟩ : SuperT) = supX 1 from rfl] at k2
  have h0 : encSu (supX 0) = [.int .i64 7, .int .i64 0, .int .i64 5, .int .i64 48, .string (supX 0).root] := rfl
  have h1 : encSu (supX 1) = [.int .i64 7, .int .i64 1, .int .i64 5, .int .i64 48, .string (supX 1).root] := rfl
  rw [h0] at k1 w0
  rw [h1] at k2 w1 w2
  generalize (supX 0).root = T0 at *
  generalize (supX 1).root = T1 at *
  (first | refine FnD.go Tryz.call15 Tryz.func15 rfl rfl rfl ?_ | refine FnX.go Tryz.call15 Tryz.func15 rfl rfl rfl ?_)
  (repeat (first | refine g ?_))
  refine s_call cs ?_
  (repeat (first | refine g ?_))
  refine s_callx (new_spec q 784 (by decide)) fun b => ?_
  (repeat (first | refine g ?_))
  refine s_callx ci fun v => ?_
  (repeat (first | refine g ?_))
  refine s_call k1 ?_
  (repeat (first | refine g ?_))
  refine s_call (w0 (b, v)) ?_
  (repeat (first | refine g ?_))
  refine s_built fun rs => ?_
  (repeat (first | refine g ?_))
  refine s_callx (writes40_spec q rs) fun r => ?_
  (repeat (first | refine g ?_))
  refine s_call k2 ?_
  (repeat (first | refine g ?_))
  refine s_call (w1 ((b, v), r)) ?_
  (repeat (first | refine g ?_))
  refine s_call (w2 (b, v)) ?_
  (repeat (first | refine g ?_))
  refine s_alloc fun r6 => ?_
  (repeat (first | refine g ?_))
  exact run_ret rfl (imp_RD rfl shut)
end Go.Proofs.YtaiocnpecaecdaaGreatDoor.V
namespace Go.Proofs.YtaiocnpecaecdaaGreatDoor.V
open Go.Proofs.YtaiocnpecaecdaaGreatDoor.VL Go.Proofs.YtaiocnpecaecdaaGreatDoor.VL.RD Go.Proofs.YtaiocnpecaecdaaGreatDoor.VL.Sha
attribute [local irreducible] Run numB
end Go.Proofs.YtaiocnpecaecdaaGreatDoor.V
namespace Go.Proofs.YtaiocnpecaecdaaGreatDoor.V
open Go.Proofs.YtaiocnpecaecdaaGreatDoor.VL Go.Proofs.YtaiocnpecaecdaaGreatDoor.VL.RD Go.Proofs.YtaiocnpecaecdaaGreatDoor.VL.Sha
attribute [local irreducible] Run numB
end Go.Proofs.YtaiocnpecaecdaaGreatDoor.V
namespace Go.Proofs.YtaiocnpecaecdaaGreatDoor.V
open Go.Proofs.YtaiocnpecaecdaaGreatDoor.VL
attribute [local irreducible] Run
theorem refGet_spec (q : View) (s : ByteArray) (o w : Nat) (h1 : 1 ≤ w) (hw : w ≤ 6) (h : o + w ≤ s.size) (hs : s.size ≤ 1000000) :
    FnD Tryz.prog q 97 [.string s, .int .i64 (o : Int), .int .i64 (w : Int)] [] (.tuple #[.int .i64 (lev s.data.toList o w : Nat), .int .i64 0]) [] := by
  (first | refine FnD.go Tryz.call97 Tryz.func97 rfl rfl rfl ?_ | refine FnX.go Tryz.call97 Tryz.func97 rfl rfl rfl ?_)
  (repeat (first | refine g ?_))
  refine run_loopI (X := Nat × Nat) (fun x => x.1 ≤ w ∧ x.2 * 256 ^ x.1 + lev s.data.toList o x.1 = lev s.data.toList o w) (fun x => [(0, .string s), (1, .int .i64 (o : Int)), (9, .int .i64 ((x.1 : Int) - 1)), (8, .int .i64 (x.2 : Int))])
    (fun x => []) (fun x => x.1) (w, 0) ⟨Nat.le_refl _, by rw [Nat.zero_mul, Nat.zero_add]⟩ fct shut ?_
  intro ⟨i, n⟩ ⟨hi, hn⟩
  dsimp only at *
  have hl := lev_lt s.data.toList o w
  have hp := pow6 w hw
  (repeat (first | refine g ?_))
  refine run_cond_dec rfl ?_ ?_
  · intro hc
    obtain ⟨j, rfl⟩ : ∃ j, i = j + 1 := ⟨i - 1, by omega⟩
    obtain ⟨u, hu⟩ : ∃ u, u = (s.data.toList.getD (o + j) 0).toNat := ⟨_, rfl⟩
    have hub : u < 256 := by rw [hu]; exact (s.data.toList.getD (o + j) 0).toNat_lt
    have hpj : 1 ≤ 256 ^ j := Nat.pow_pos (by decide)
    have hn2 : (n * 256) * 256 ^ j = n * 256 ^ (j + 1) := by rw [Nat.pow_succ, Nat.mul_assoc, Nat.mul_comm 256]
    have hn3 : n * 256 ≤ (n * 256) * 256 ^ j := Nat.le_mul_of_pos_right _ hpj
    (repeat (first | refine g ?_))
    refine s_to 44 (v := .int .u8 (bAt s ((o : Int) + (((j + 1 : Nat) : Int) - 1)).toNat)) (w := .int .u8 (u : Int)) (by rw [show ((o : Int) + (((j + 1 : Nat) : Int) - 1)).toNat = o + j by omega, hu]; rfl) ?_
    refine s_conv64 ?_
    (repeat (first | refine g ?_))
    have e1 : (n : Int) * 256 + (u : Int) = ((n * 256 + u : Nat) : Int) := by omega
    have e2 : ((j + 1 : Nat) : Int) - 1 - 1 = (j : Int) - 1 := by omega
    rw [e1, e2]
    refine run_stop_loop (j, n * 256 + u) ⟨⟨by dsimp only; omega, ?_⟩, by dsimp only; omega⟩ fct shut
    dsimp only
    rw [Nat.add_mul, hn2, ← hn, lev, ← hu]
    omega
  · intro hc
    obtain rfl : i = 0 := by omega
    have e : n = lev s.data.toList o w := by rw [← hn]; simp [lev]
    (repeat (first | refine g ?_))
    exact run_ret (by rw [← e]; rfl) (imp_RD rfl shut)
end Go.Proofs.YtaiocnpecaecdaaGreatDoor.V
namespace Go.Proofs.YtaiocnpecaecdaaGreatDoor.V
open Go.Proofs.YtaiocnpecaecdaaGreatDoor.VL Go.Proofs.YtaiocnpecaecdaaGreatDoor.VL.RD Go.Proofs.YtaiocnpecaecdaaGreatDoor.VL.Sha
attribute [local irreducible] Run numB
/-- The numbers that stand from a place on, each in its width. -/
def readL (l : List UInt8) : Nat → List Nat → List Nat
  | _, [] => []
  | o, w :: ws => lev l o w :: readL l (o + w) ws
theorem readL_snoc (l : List UInt8) (w : Nat) : ∀ (ws : List Nat) (o : Nat), readL l o (ws ++ [w]) = readL l o ws ++ [lev l (o + ws.sum) w]
  | [], o => by simp [readL]
  | v :: ws, o => by
    rw [List.cons_append, readL, readL, readL_snoc l w ws (o + v), List.sum_cons, Nat.add_assoc]; rfl
theorem readL_len (l : List UInt8) : ∀ (ws : List Nat) (o : Nat), (readL l o ws).length = ws.length
  | [], _ => rfl
  | v :: ws, o => by rw [readL, List.length_cons, readL_len l ws, List.length_cons]
theorem sum_le (a : List Nat) (w : Nat) (b : List Nat) : a.sum + w ≤ (a ++ w :: b).sum := by
  rw [List.sum_append, List.sum_cons]; omega
theorem bread_spec (q : View) (s : ByteArray) (o w : Nat) (W : List Nat) (hW : ∀ x ∈ W, 1 ≤ x ∧ x ≤ 6) (hl : W.length ≤ 1000) (ho : o + W.sum ≤ s.size) (hs : s.size ≤ 1000000) :
    FnX Tryz.prog q 103 [.string s, .int .i64 (o : Int), .slice (some ⟨w, 0, none⟩) W.length W.length] [cells w 3 ⟨iv W⟩]
      (fun x : Option Addr × Nat => .slice x.1 (readL s.data.toList o W).length x.2) fun x => [sl x.1 (readL s.data.toList o W).length x.2 3 1 (iv (readL s.data.toList o W))] := by
  (first | refine FnD.go Tryz.call103 Tryz.func103 rfl rfl rfl ?_ | refine FnX.go Tryz.call103 Tryz.func103 rfl rfl rfl ?_)
  (repeat (first | refine g ?_))
  refine run_loopI (X := Nat × Option Addr × Nat) (fun x => x.1 ≤ W.length) (fun x => [(0, .string s), (1, .int .i64 ((o + (W.take x.1).sum : Nat) : Int)), (2, .slice (some ⟨w, 0, none⟩) W.length W.length), (7, .slice x.2.1 (readL s.data.toList o (W.take x.1)).length x.2.2), (8, .int .i64 (x.1 : Int))])
    (fun x => [cells w 3 ⟨iv W⟩, sl x.2.1 (readL s.data.toList o (W.take x.1)).length x.2.2 3 1 (iv (readL s.data.toList o (W.take x.1)))]) (fun x => W.length - x.1) (0, none, 0) (Nat.zero_le _) fct shut ?_
  intro ⟨i, p, c⟩ hi
  dsimp only at *
  have hrl := readL_len s.data.toList (W.take i) o
  rw [List.length_take] at hrl
  (repeat (first | refine g ?_))
  refine run_cond_dec rfl ?_ ?_
  · intro h
    have hiW : i < W.length := by omega
    obtain ⟨x, hx⟩ : ∃ x, W[i]? = some x := ⟨_, List.getElem?_eq_getElem hiW⟩
    have hxW := hW x (List.mem_of_getElem? hx)
    have hvx : (iv W)[i]? = some (.int .i64 (x : Int)) := by unfold iv; rw [List.getElem?_map, hx]; rfl
    have htk : W.take (i + 1) = W.take i ++ [x] := by rw [List.take_add_one, hx]; rfl
    have hsum : (W.take i).sum + x ≤ W.sum := by
      have := sum_le (W.take i) x (W.drop (i + 1))
      have e : W.take i ++ x :: W.drop (i + 1) = W := by
        have := List.take_append_drop (i + 1) W
        rw [htk, List.append_assoc] at this; exact this
      rw [e] at this; exact this
    have hsn : (W.take (i + 1)).sum = (W.take i).sum + x := by rw [htk, List.sum_append]; simp
    have hrn : readL s.data.toList o (W.take (i + 1)) = readL s.data.toList o (W.take i) ++ [lev s.data.toList (o + (W.take i).sum) x] := by rw [htk, readL_snoc]
    have cg := refGet_spec q s (o + (W.take i).sum) x hxW.1 hxW.2 (by omega) hs
    (repeat (first | refine g ?_))
    refine s_loadat hvx ?_
    (repeat (first | refine g ?_))
    refine s_call cg ?_
    (repeat (first | refine g ?_))
    refine s_built fun r1 => ?_
    (repeat (first | refine g ?_))
    refine s_app 1 8 (reads_own At.head rfl) (hxl := by rw [iv_length, Nat.mul_one]) fun r2 => ?_
    have e : iv (readL s.data.toList o (W.take i)) ++ [Value.int .i64 (lev s.data.toList (o + (W.take i).sum) x : Nat)] = iv (readL s.data.toList o (W.take (i + 1))) := by rw [hrn, iv_append]; rfl
    refine s_eq e ?_
    have el : (readL s.data.toList o (W.take i)).length + 1 = (readL s.data.toList o (W.take (i + 1))).length := by rw [hrn, List.length_append]; rfl
    rw [el]
    (repeat (first | refine g ?_))
    refine s_loadat hvx ?_
    (repeat (first | refine g ?_))
    have e2 : ((o + (W.take i).sum : Nat) : Int) + (x : Int) = ((o + (W.take (i + 1)).sum : Nat) : Int) := by rw [hsn]; omega
    rw [e2]
    exact run_stop_loop (i + 1, r2) ⟨by dsimp only; omega, by dsimp only; omega⟩ fct shut
  · intro h
    obtain rfl : i = W.length := by omega
    rw [List.take_length]
    (repeat (first | refine g ?_))
    exact run_ret rfl (imp_RX (p, c) rfl shut)
end Go.Proofs.YtaiocnpecaecdaaGreatDoor.V
namespace Go.Proofs.YtaiocnpecaecdaaGreatDoor.V
open Go.Proofs.YtaiocnpecaecdaaGreatDoor.VL Go.Proofs.YtaiocnpecaecdaaGreatDoor.VL.RD Go.Proofs.YtaiocnpecaecdaaGreatDoor.VL.Sha
attribute [local irreducible] Run numB
theorem sized_spec (q : View) (s : ByteArray) (n : Nat) (hz : s.size = n) (hn : n ≤ 1000000) : FnD Tryz.prog q 102 [.string s, .int .i64 (n : Int)] [] (.int .i64 0) [] := by
  (first | refine FnD.go Tryz.call102 Tryz.func102 rfl rfl rfl ?_ | refine FnX.go Tryz.call102 Tryz.func102 rfl rfl rfl ?_)
  (repeat (first | refine g ?_))
  exact run_ret rfl (imp_RD rfl shut)
end Go.Proofs.YtaiocnpecaecdaaGreatDoor.V
namespace Go.Proofs.YtaiocnpecaecdaaGreatDoor.V
open Go.Proofs.YtaiocnpecaecdaaGreatDoor.VL Go.Proofs.YtaiocnpecaecdaaGreatDoor.VL.RD Go.Proofs.YtaiocnpecaecdaaGreatDoor.VL.Sha
attribute [local irreducible] Run numB
theorem sized_long (q : View) (s : ByteArray) (n : Nat) (hz : n < s.size) (hs : s.size ≤ 9223372036854775807) : FnD Tryz.prog q 102 [.string s, .int .i64 (n : Int)] [] (.int .i64 4) [] := by
  (first | refine FnD.go Tryz.call102 Tryz.func102 rfl rfl rfl ?_ | refine FnX.go Tryz.call102 Tryz.func102 rfl rfl rfl ?_)
  (repeat (first | refine g ?_))
  exact run_ret rfl (imp_RD rfl shut)
theorem sized_short (q : View) (s : ByteArray) (n : Nat) (hz : s.size < n) (hn : n ≤ 1000000) : FnD Tryz.prog q 102 [.string s, .int .i64 (n : Int)] [] (.int .i64 3) [] := by
  (first | refine FnD.go Tryz.call102 Tryz.func102 rfl rfl rfl ?_ | refine FnX.go Tryz.call102 Tryz.func102 rfl rfl rfl ?_)
  (repeat (first | refine g ?_))
  exact run_ret rfl (imp_RD rfl shut)
theorem rest_iff (s : ByteArray) (hz : s.size = 448) : restZ s 54 = true ↔ s.extract 54 448 = bl (List.replicate 394 0) := by
  have hl : s.data.toList.length = 448 := by rw [Array.length_toList]; exact hz
  have e : (s.extract 54 448).data.toList = s.data.toList.drop 54 := by
    rw [ByteArray.data_extract, Array.toList_extract, List.extract_eq_take_drop, List.take_of_length_le]
    rw [List.length_drop, hl]
    decide
  have key : ∀ (L : List UInt8) (n : Nat), L.length = n → (L.all (· == 0) = true ↔ L = List.replicate n 0) := by
    intro L
    induction L with
    | nil => intro n hn; subst hn; exact ⟨fun _ => rfl, fun _ => rfl⟩
    | cons u L ih =>
      intro n hn
      subst hn
      rw [List.all_cons, Bool.and_eq_true, List.length_cons, List.replicate_succ, ih L.length rfl, beq_iff_eq]
      constructor
      · rintro ⟨h1, h2⟩
        rw [h1, ← h2]
      · intro h
        obtain ⟨h1, h2⟩ := List.cons.inj h
        exact ⟨h1, h2⟩
  unfold restZ
  rw [key (s.data.toList.drop 54) 394 (by rw [List.length_drop, hl])]
  constructor
  · intro h
    apply ByteArray.ext
    apply Array.ext'
    rw [e, h]
    rfl
  · intro h
    rw [← e, h]
    rfl
def wSN : List Nat := [6, 6, 6, 4]
theorem readS_spec (q : View) (s : ByteArray) (hz : s.size = 448) (w : Nat) : FnX Tryz.prog q 103 [.string s, .int .i64 0, .slice (some ⟨w, 0, none⟩) 4 4] [cells w 3 ⟨[.int .i64 6, .int .i64 6, .int .i64 6, .int .i64 4]⟩]
      (fun x : Option Addr × Nat => .slice x.1 4 x.2) fun x => [sl x.1 4 x.2 3 1 [.int .i64 (lev s.data.toList 0 6 : Nat), .int .i64 (lev s.data.toList 6 6 : Nat), .int .i64 (lev s.data.toList 12 6 : Nat), .int .i64 (lev s.data.toList 18 4 : Nat)]] :=
  bread_spec q s 0 w wSN (by decide) (by decide) (by show 0 + 22 ≤ s.size; omega) (by omega)
attribute [local irreducible] ByteArray.extract in
theorem rsuperOf_spec (q : View) (s : ByteArray) (hs : s.size ≤ 9223372036854775807) : FnD Tryz.prog q 49 [.string s] [] (.tuple #[.agg ⟨encSu (superOfF s).1⟩, .int .i64 (superOfF s).2]) [] := by
  by_cases h1 : 448 < s.size
  · have cs : FnD Tryz.prog q 102 [.string s, .int .i64 448] [] (.int .i64 4) [] := sized_long q s 448 h1 hs
    rw [show superOfF s = (zeroSu, 4) from by unfold superOfF; rw [if_pos h1]]
    (first | refine FnD.go Tryz.call49 Tryz.func49 rfl rfl rfl ?_ | refine FnX.go Tryz.call49 Tryz.func49 rfl rfl rfl ?_)
    (repeat (first | refine g ?_ | refine s_flat 4 [(.pure, [0, 1]), (.mem false, [2]), (.pure, [3])] ?_ | refine s_flat 7 [(.pure, [0, 1, 3, 4, 6, 7, 9, 10, 12, 13]), (.mem true, [2, 5, 8, 11]), (.pure, [14]), (.mem false, [15]), (.pure, [16])] ?_))
    refine s_alloc fun r2 => ?_
    (repeat (first | refine g ?_ | refine s_flat 4 [(.pure, [0, 1]), (.mem false, [2]), (.pure, [3])] ?_ | refine s_flat 7 [(.pure, [0, 1, 3, 4, 6, 7, 9, 10, 12, 13]), (.mem true, [2, 5, 8, 11]), (.pure, [14]), (.mem false, [15]), (.pure, [16])] ?_))
    refine s_call cs ?_
    (repeat (first | refine g ?_ | refine s_flat 4 [(.pure, [0, 1]), (.mem false, [2]), (.pure, [3])] ?_ | refine s_flat 7 [(.pure, [0, 1, 3, 4, 6, 7, 9, 10, 12, 13]), (.mem true, [2, 5, 8, 11]), (.pure, [14]), (.mem false, [15]), (.pure, [16])] ?_))
    refine s_ceq r2 (encSu zeroSu) ?_ ?_
    · rfl
    refine run_ret2 (imp_RD ?_ shut) rfl (res_cell tabOk rfl rfl rfl (by repeat (first | (with_reducible exact At.head) | apply At.tail)) rfl) (res_tmp rfl)
    rfl
  by_cases h2 : s.size < 448
  · have cs : FnD Tryz.prog q 102 [.string s, .int .i64 448] [] (.int .i64 3) [] := sized_short q s 448 h2 (by decide)
    rw [show superOfF s = (zeroSu, 3) from by unfold superOfF; rw [if_neg h1, if_pos h2]]
    (first | refine FnD.go Tryz.call49 Tryz.func49 rfl rfl rfl ?_ | refine FnX.go Tryz.call49 Tryz.func49 rfl rfl rfl ?_)
    (repeat (first | refine g ?_ | refine s_flat 4 [(.pure, [0, 1]), (.mem false, [2]), (.pure, [3])] ?_ | refine s_flat 7 [(.pure, [0, 1, 3, 4, 6, 7, 9, 10, 12, 13]), (.mem true, [2, 5, 8, 11]), (.pure, [14]), (.mem false, [15]), (.pure, [16])] ?_))
    refine s_alloc fun r2 => ?_
    (repeat (first | refine g ?_ | refine s_flat 4 [(.pure, [0, 1]), (.mem false, [2]), (.pure, [3])] ?_ | refine s_flat 7 [(.pure, [0, 1, 3, 4, 6, 7, 9, 10, 12, 13]), (.mem true, [2, 5, 8, 11]), (.pure, [14]), (.mem false, [15]), (.pure, [16])] ?_))
    refine s_call cs ?_
    (repeat (first | refine g ?_ | refine s_flat 4 [(.pure, [0, 1]), (.mem false, [2]), (.pure, [3])] ?_ | refine s_flat 7 [(.pure, [0, 1, 3, 4, 6, 7, 9, 10, 12, 13]), (.mem true, [2, 5, 8, 11]), (.pure, [14]), (.mem false, [15]), (.pure, [16])] ?_))
    refine s_ceq r2 (encSu zeroSu) ?_ ?_
    · rfl
    refine run_ret2 (imp_RD ?_ shut) rfl (res_cell tabOk rfl rfl rfl (by repeat (first | (with_reducible exact At.head) | apply At.tail)) rfl) (res_tmp rfl)
    rfl
  have hz : s.size = 448 := by omega
  have cs : FnD Tryz.prog q 102 [.string s, .int .i64 448] [] (.int .i64 0) [] := sized_spec q s 448 hz (by decide)
  have cn : FnD Tryz.prog q 73 [.int .i64 394] [] (.string (bl (List.replicate 394 0))) [] := noughts_spec q 394 (by decide)
  have cr := readS_spec q s hz
  have hri := rest_iff s hz
  have e1 : s.extract (54 : Int).toNat (s.size : Int).toNat = s.extract 54 448 := by rw [hz]; rfl
  rw [← e1] at hri
  have hP : superP s = ⟨(lev s.data.toList 0 6 : Nat), (lev s.data.toList 6 6 : Nat), (lev s.data.toList 12 6 : Nat), (lev s.data.toList 18 4 : Nat), s.extract 22 54⟩ := rfl
  generalize bl (List.replicate 394 0) = Z at *
  by_cases hU : s.extract (54 : Int).toNat (s.size : Int).toNat ≠ Z
  · have hr : restZ s 54 = false := by
      cases hr : restZ s 54 with
      | false => rfl
      | true => exact absurd (hri.1 hr) hU
    rw [show superOfF s = (zeroSu, 5) from by unfold superOfF; rw [if_neg h1, if_neg h2, hr, if_neg (by decide)]]
    (first | refine FnD.go Tryz.call49 Tryz.func49 rfl rfl rfl ?_ | refine FnX.go Tryz.call49 Tryz.func49 rfl rfl rfl ?_)
    (repeat (first | refine g ?_ | refine s_flat 4 [(.pure, [0, 1]), (.mem false, [2]), (.pure, [3])] ?_ | refine s_flat 7 [(.pure, [0, 1, 3, 4, 6, 7, 9, 10, 12, 13]), (.mem true, [2, 5, 8, 11]), (.pure, [14]), (.mem false, [15]), (.pure, [16])] ?_))
    refine s_alloc fun r2 => ?_
    (repeat (first | refine g ?_ | refine s_flat 4 [(.pure, [0, 1]), (.mem false, [2]), (.pure, [3])] ?_ | refine s_flat 7 [(.pure, [0, 1, 3, 4, 6, 7, 9, 10, 12, 13]), (.mem true, [2, 5, 8, 11]), (.pure, [14]), (.mem false, [15]), (.pure, [16])] ?_))
    refine s_call cs ?_
    (repeat (first | refine g ?_ | refine s_flat 4 [(.pure, [0, 1]), (.mem false, [2]), (.pure, [3])] ?_ | refine s_flat 7 [(.pure, [0, 1, 3, 4, 6, 7, 9, 10, 12, 13]), (.mem true, [2, 5, 8, 11]), (.pure, [14]), (.mem false, [15]), (.pure, [16])] ?_))
    refine s_call cn ?_
    (repeat (first | refine g ?_ | refine s_flat 4 [(.pure, [0, 1]), (.mem false, [2]), (.pure, [3])] ?_ | refine s_flat 7 [(.pure, [0, 1, 3, 4, 6, 7, 9, 10, 12, 13]), (.mem true, [2, 5, 8, 11]), (.pure, [14]), (.mem false, [15]), (.pure, [16])] ?_))
    refine s_ceq r2 (encSu zeroSu) ?_ ?_
    · rfl
    refine run_ret2 (imp_RD ?_ shut) rfl (res_cell tabOk rfl rfl rfl (by repeat (first | (with_reducible exact At.head) | apply At.tail)) rfl) (res_tmp rfl)
    rfl
  · have hr := hri.2 (Classical.not_not.1 hU)
    rw [show superOfF s = (superP s, 0) from by unfold superOfF; rw [if_neg h1, if_neg h2, hr, if_pos rfl], hP]
    (first | refine FnD.go Tryz.call49 Tryz.func49 rfl rfl rfl ?_ | refine FnX.go Tryz.call49 Tryz.func49 rfl rfl rfl ?_)
    (repeat (first | refine g ?_ | refine s_flat 4 [(.pure, [0, 1]), (.mem false, [2]), (.pure, [3])] ?_ | refine s_flat 7 [(.pure, [0, 1, 3, 4, 6, 7, 9, 10, 12, 13]), (.mem true, [2, 5, 8, 11]), (.pure, [14]), (.mem false, [15]), (.pure, [16])] ?_))
    refine s_alloc fun r2 => ?_
    (repeat (first | refine g ?_ | refine s_flat 4 [(.pure, [0, 1]), (.mem false, [2]), (.pure, [3])] ?_ | refine s_flat 7 [(.pure, [0, 1, 3, 4, 6, 7, 9, 10, 12, 13]), (.mem true, [2, 5, 8, 11]), (.pure, [14]), (.mem false, [15]), (.pure, [16])] ?_))
    refine s_call cs ?_
    (repeat (first | refine g ?_ | refine s_flat 4 [(.pure, [0, 1]), (.mem false, [2]), (.pure, [3])] ?_ | refine s_flat 7 [(.pure, [0, 1, 3, 4, 6, 7, 9, 10, 12, 13]), (.mem true, [2, 5, 8, 11]), (.pure, [14]), (.mem false, [15]), (.pure, [16])] ?_))
    refine s_call cn ?_
    (repeat (first | refine g ?_ | refine s_flat 4 [(.pure, [0, 1]), (.mem false, [2]), (.pure, [3])] ?_ | refine s_flat 7 [(.pure, [0, 1, 3, 4, 6, 7, 9, 10, 12, 13]), (.mem true, [2, 5, 8, 11]), (.pure, [14]), (.mem false, [15]), (.pure, [16])] ?_))
    refine s_built fun w => ?_
    (repeat (first | refine g ?_ | refine s_flat 4 [(.pure, [0, 1]), (.mem false, [2]), (.pure, [3])] ?_ | refine s_flat 7 [(.pure, [0, 1, 3, 4, 6, 7, 9, 10, 12, 13]), (.mem true, [2, 5, 8, 11]), (.pure, [14]), (.mem false, [15]), (.pure, [16])] ?_))
    refine s_callx (cr w) fun pc => ?_
    obtain ⟨p, c⟩ := pc
    dsimp only
    refine s_ptr p (h0 := by decide) (fun br er _ _ => ?_)
    subst er
    (repeat (first | refine g ?_ | refine s_flat 4 [(.pure, [0, 1]), (.mem false, [2]), (.pure, [3])] ?_ | refine s_flat 7 [(.pure, [0, 1, 3, 4, 6, 7, 9, 10, 12, 13]), (.mem true, [2, 5, 8, 11]), (.pure, [14]), (.mem false, [15]), (.pure, [16])] ?_ | refine s_loadsl rfl ?_))
    refine s_ceq r2 (encSu ⟨(lev s.data.toList 0 6 : Nat), (lev s.data.toList 6 6 : Nat), (lev s.data.toList 12 6 : Nat), (lev s.data.toList 18 4 : Nat), s.extract 22 54⟩) ?_ ?_
    · rfl
    refine run_ret2 (imp_RD ?_ shut) rfl (res_cell tabOk rfl rfl rfl (by repeat (first | (with_reducible exact At.head) | apply At.tail)) rfl) (res_tmp rfl)
    rfl
end Go.Proofs.YtaiocnpecaecdaaGreatDoor.V
namespace Go.Proofs.YtaiocnpecaecdaaGreatDoor.V
open Go.Proofs.YtaiocnpecaecdaaGreatDoor.VL Go.Proofs.YtaiocnpecaecdaaGreatDoor.VL.RD Go.Proofs.YtaiocnpecaecdaaGreatDoor.VL.Sha
attribute [local irreducible] Run numB
set_option maxHeartbeats 4000000 in
theorem rchoose_spec (q : View) (lp : Option Addr) (lc : Nat) (l : List ReadT) (hq : ReadsQ q lp l) (hl : l.length ≤ 9223372036854775807) (live : Int) :
    FnD Tryz.prog q 18 [.slice lp l.length lc, .int .i64 live] [] (.tuple #[.agg ⟨encSu (chooseF l live).1⟩, .bool (chooseF l live).2]) [] := by
  (first | refine FnD.go Tryz.call18 Tryz.func18 rfl rfl rfl ?_ | refine FnX.go Tryz.call18 Tryz.func18 rfl rfl rfl ?_)
  (repeat (first | refine g ?_))
  refine s_alloc fun r4 => ?_
  (repeat (first | refine g ?_))
  refine s_alloc fun r6 => ?_
  (repeat (first | refine g ?_))
  refine run_cutI (X := SuperT × Bool) (fun x => chooseF l live = x) (fun x => [(4, .pointer (some ⟨r4, 0, none⟩)), (6, .pointer (some ⟨r6, 0, none⟩)), (7, .bool x.2)]) (fun x => [cells r4 33 ⟨encSu zeroSu⟩, cells r6 33 ⟨encSu x.1⟩]) ?_ fun ⟨b, h⟩ hB => ?_
  · refine run_loopI (X := Nat) (fun i => i ≤ l.length ∧ i ≤ 2) (fun i => [(0, .slice lp l.length lc), (1, .int .i64 live), (4, .pointer (some ⟨r4, 0, none⟩)), (6, .pointer (some ⟨r6, 0, none⟩)), (7, .bool (bestN l live i).2), (8, .int .i64 (i : Int))])
      (fun i => [cells r4 33 ⟨encSu zeroSu⟩, cells r6 33 ⟨encSu (bestN l live i).1⟩]) (fun i => 2 - i) 0 ⟨Nat.zero_le _, by decide⟩ fct shut ?_
    intro i ⟨hi, hi2⟩
    by_cases h1 : i < l.length
    · by_cases h2 : i < 2
      · obtain ⟨x, hx⟩ : ∃ x, l[i]? = some x := ⟨_, List.getElem?_eq_getElem h1⟩
        have hxo := hq.2 x (List.mem_of_getElem? hx)
        obtain ⟨bs, os, ep, ho⟩ := hq.1.old (by omega)
        subst ep
        have h0 := enc10 l i x hx 0 (by omega)
        have h3 := enc10 l i x hx 3 (by omega)
        have h9 := enc10 l i x hx 9 (by omega)
        have cs := rsuperOf_spec q x.body hxo.body
        have hsm := superOf_small x.body
        have eN : bestN l live (i + 1) = betterF (bestN l live i) (slotF x i live) := by
          show (match l[i]? with | some r => betterF (bestN l live i) (slotF r i live) | none => bestN l live i) = _
          rw [hx]
        have hk0 := hxo.head.k0
        have hk1 := hxo.head.k1
        obtain ⟨ok, ⟨a0, a1, a2, a3, a4, a5, a6, a7⟩, B⟩ := x
        rw [show (encR ⟨ok, ⟨a0, a1, a2, a3, a4, a5, a6, a7⟩, B⟩)[0]? = some (.bool ok) from rfl] at h0
        rw [show (encR ⟨ok, ⟨a0, a1, a2, a3, a4, a5, a6, a7⟩, B⟩)[3]? = some (.int .i64 a2) from rfl] at h3
        rw [show (encR ⟨ok, ⟨a0, a1, a2, a3, a4, a5, a6, a7⟩, B⟩)[9]? = some (.string B) from rfl] at h9
        dsimp only at cs hsm hk0 hk1
        unfold slotF at eN
        dsimp only at eN
        generalize superOfF B = S at *
        obtain ⟨⟨v2, e2, n2, l2, t2⟩, er⟩ := S
        unfold encSu at cs
        dsimp only at cs hsm eN
        generalize hb : bestN l live i = BB at *
        obtain ⟨⟨v1, e1, n1, l1, t1⟩, b1⟩ := BB
        dsimp only
        have no : betterF (⟨v1, e1, n1, l1, t1⟩, b1) (zeroSu, false) = (⟨v1, e1, n1, l1, t1⟩, b1) := if_neg (fun h => absurd (show false = true from h.1) (by decide))
        rw [show encSu ⟨v1, e1, n1, l1, t1⟩ = [.int .i64 v1, .int .i64 e1, .int .i64 n1, .int .i64 l1, .string t1] from rfl]
        clear hb
        cases ok with
        | false =>
          have eD : bestN l live (i + 1) = (⟨v1, e1, n1, l1, t1⟩, b1) := by rw [eN, if_pos (.inl rfl), no]
          (repeat (first | refine g ?_))
          refine s_idxo (kk := 10) (os + i * 10) ?_
          (repeat (first | refine g ?_))
          refine s_loado (j := i * 10 + 9) ho h9 ?_
          (repeat (first | refine g ?_))
          refine s_call cs ?_
          (repeat (first | refine g ?_))
          refine s_alloc fun r9 => ?_
          (repeat (first | refine g ?_))
          refine s_idxo (kk := 10) (os + i * 10) ?_
          (repeat (first | refine g ?_))
          refine s_loado (j := i * 10) ho h0 ?_
          (repeat (first | refine g ?_))
          exact run_stop_loop (i + 1) ⟨⟨by omega, by omega⟩, by omega⟩ (by rw [eD]; exact fct) (by rw [eD]; exact shut)
        | true =>
          by_cases g1 : a2 ≠ 1
          · have eD : bestN l live (i + 1) = (⟨v1, e1, n1, l1, t1⟩, b1) := by rw [eN, if_pos (.inr g1), no]
            (repeat (first | refine g ?_))
            refine s_idxo (kk := 10) (os + i * 10) ?_
            (repeat (first | refine g ?_))
            refine s_loado (j := i * 10 + 9) ho h9 ?_
            (repeat (first | refine g ?_))
            refine s_call cs ?_
            (repeat (first | refine g ?_))
            refine s_alloc fun r9 => ?_
            (repeat (first | refine g ?_))
            refine s_idxo (kk := 10) (os + i * 10) ?_
            (repeat (first | refine g ?_))
            refine s_loado (j := i * 10) ho h0 ?_
            (repeat (first | refine g ?_))
            refine s_idxo (kk := 10) (os + i * 10) ?_
            (repeat (first | refine g ?_))
            refine s_loado (j := i * 10 + 3) ho h3 ?_
            (repeat (first | refine g ?_))
            exact run_stop_loop (i + 1) ⟨⟨by omega, by omega⟩, by omega⟩ (by rw [eD]; exact fct) (by rw [eD]; exact shut)
          rw [if_neg (fun h => h.elim (fun h => absurd (show true = false from h) (by decide)) g1)] at eN
          have g1 : a2 = 1 := Decidable.not_not.1 g1
          by_cases g2 : er ≠ 0
          · have eD : bestN l live (i + 1) = (⟨v1, e1, n1, l1, t1⟩, b1) := by rw [eN, if_pos (.inl g2), no]
            (repeat (first | refine g ?_))
            refine s_idxo (kk := 10) (os + i * 10) ?_
            (repeat (first | refine g ?_))
            refine s_loado (j := i * 10 + 9) ho h9 ?_
            (repeat (first | refine g ?_))
            refine s_call cs ?_
            (repeat (first | refine g ?_))
            refine s_alloc fun r9 => ?_
            (repeat (first | refine g ?_))
            refine s_idxo (kk := 10) (os + i * 10) ?_
            (repeat (first | refine g ?_))
            refine s_loado (j := i * 10) ho h0 ?_
            (repeat (first | refine g ?_))
            refine s_idxo (kk := 10) (os + i * 10) ?_
            (repeat (first | refine g ?_))
            refine s_loado (j := i * 10 + 3) ho h3 ?_
            (repeat (first | refine g ?_))
            exact run_stop_loop (i + 1) ⟨⟨by omega, by omega⟩, by omega⟩ (by rw [eD]; exact fct) (by rw [eD]; exact shut)
          by_cases g3 : e2 % 2 ≠ (i : Int)
          · have eD : bestN l live (i + 1) = (⟨v1, e1, n1, l1, t1⟩, b1) := by rw [eN, if_pos (.inr (.inl g3)), no]
            (repeat (first | refine g ?_))
            refine s_idxo (kk := 10) (os + i * 10) ?_
            (repeat (first | refine g ?_))
            refine s_loado (j := i * 10 + 9) ho h9 ?_
            (repeat (first | refine g ?_))
            refine s_call cs ?_
            (repeat (first | refine g ?_))
            refine s_alloc fun r9 => ?_
            (repeat (first | refine g ?_))
            refine s_idxo (kk := 10) (os + i * 10) ?_
            (repeat (first | refine g ?_))
            refine s_loado (j := i * 10) ho h0 ?_
            (repeat (first | refine g ?_))
            refine s_idxo (kk := 10) (os + i * 10) ?_
            (repeat (first | refine g ?_))
            refine s_loado (j := i * 10 + 3) ho h3 ?_
            (repeat (first | refine g ?_))
            exact run_stop_loop (i + 1) ⟨⟨by omega, by omega⟩, by omega⟩ (by rw [eD]; exact fct) (by rw [eD]; exact shut)
          by_cases g4 : l2 ≠ live
          · have eD : bestN l live (i + 1) = (⟨v1, e1, n1, l1, t1⟩, b1) := by rw [eN, if_pos (.inr (.inr g4)), no]
            (repeat (first | refine g ?_))
            refine s_idxo (kk := 10) (os + i * 10) ?_
            (repeat (first | refine g ?_))
            refine s_loado (j := i * 10 + 9) ho h9 ?_
            (repeat (first | refine g ?_))
            refine s_call cs ?_
            (repeat (first | refine g ?_))
            refine s_alloc fun r9 => ?_
            (repeat (first | refine g ?_))
            refine s_idxo (kk := 10) (os + i * 10) ?_
            (repeat (first | refine g ?_))
            refine s_loado (j := i * 10) ho h0 ?_
            (repeat (first | refine g ?_))
            refine s_idxo (kk := 10) (os + i * 10) ?_
            (repeat (first | refine g ?_))
            refine s_loado (j := i * 10 + 3) ho h3 ?_
            (repeat (first | refine g ?_))
            exact run_stop_loop (i + 1) ⟨⟨by omega, by omega⟩, by omega⟩ (by rw [eD]; exact fct) (by rw [eD]; exact shut)
          rw [if_neg (fun h => h.elim g2 fun h => h.elim g3 g4)] at eN
          cases b1 with
          | false =>
            have eD : bestN l live (i + 1) = (⟨v2, e2, n2, l2, t2⟩, true) := by rw [eN]; exact if_pos ⟨rfl, .inl rfl⟩
            (repeat (first | refine g ?_))
            refine s_idxo (kk := 10) (os + i * 10) ?_
            (repeat (first | refine g ?_))
            refine s_loado (j := i * 10 + 9) ho h9 ?_
            (repeat (first | refine g ?_))
            refine s_call cs ?_
            (repeat (first | refine g ?_))
            refine s_alloc fun r9 => ?_
            (repeat (first | refine g ?_))
            refine s_idxo (kk := 10) (os + i * 10) ?_
            (repeat (first | refine g ?_))
            refine s_loado (j := i * 10) ho h0 ?_
            (repeat (first | refine g ?_))
            refine s_idxo (kk := 10) (os + i * 10) ?_
            (repeat (first | refine g ?_))
            refine s_loado (j := i * 10 + 3) ho h3 ?_
            (repeat (first | refine g ?_))
            exact run_stop_loop (i + 1) ⟨⟨by omega, by omega⟩, by omega⟩ (by rw [eD]; exact fct) (by rw [eD]; exact shut)
          | true =>
            by_cases he : e1 < e2
            · have eD : bestN l live (i + 1) = (⟨v2, e2, n2, l2, t2⟩, true) := by rw [eN]; exact if_pos ⟨rfl, .inr he⟩
              (repeat (first | refine g ?_))
              refine s_idxo (kk := 10) (os + i * 10) ?_
              (repeat (first | refine g ?_))
              refine s_loado (j := i * 10 + 9) ho h9 ?_
              (repeat (first | refine g ?_))
              refine s_call cs ?_
              (repeat (first | refine g ?_))
              refine s_alloc fun r9 => ?_
              (repeat (first | refine g ?_))
              refine s_idxo (kk := 10) (os + i * 10) ?_
              (repeat (first | refine g ?_))
              refine s_loado (j := i * 10) ho h0 ?_
              (repeat (first | refine g ?_))
              refine s_idxo (kk := 10) (os + i * 10) ?_
              (repeat (first | refine g ?_))
              refine s_loado (j := i * 10 + 3) ho h3 ?_
              (repeat (first | refine g ?_))
              exact run_stop_loop (i + 1) ⟨⟨by omega, by omega⟩, by omega⟩ (by rw [eD]; exact fct) (by rw [eD]; exact shut)
            · have eD : bestN l live (i + 1) = (⟨v1, e1, n1, l1, t1⟩, true) := by rw [eN]; exact if_neg (fun h => h.2.elim (fun h => absurd (show true = false from h) (by decide)) he)
              (repeat (first | refine g ?_))
              refine s_idxo (kk := 10) (os + i * 10) ?_
              (repeat (first | refine g ?_))
              refine s_loado (j := i * 10 + 9) ho h9 ?_
              (repeat (first | refine g ?_))
              refine s_call cs ?_
              (repeat (first | refine g ?_))
              refine s_alloc fun r9 => ?_
              (repeat (first | refine g ?_))
              refine s_idxo (kk := 10) (os + i * 10) ?_
              (repeat (first | refine g ?_))
              refine s_loado (j := i * 10) ho h0 ?_
              (repeat (first | refine g ?_))
              refine s_idxo (kk := 10) (os + i * 10) ?_
              (repeat (first | refine g ?_))
              refine s_loado (j := i * 10 + 3) ho h3 ?_
              (repeat (first | refine g ?_))
              exact run_stop_loop (i + 1) ⟨⟨by omega, by omega⟩, by omega⟩ (by rw [eD]; exact fct) (by rw [eD]; exact shut)
      · have e2 : i = 2 := by omega
        have e := choose_best l live i (.inr ⟨e2, by omega⟩)
        (repeat (first | refine g ?_))
        exact run_stop_loop (bestN l live i) e fct shut
    · have e := choose_best l live i (.inl ⟨by omega, hi2⟩)
      (repeat (first | refine g ?_))
      exact run_stop_loop (bestN l live i) e fct shut
  · rw [hB]
    dsimp only
    (repeat (first | refine g ?_))
    refine s_ceq r4 (encSu b) ?_ ?_
    · rfl
    refine run_ret2 (imp_RD ?_ shut) rfl (res_cell tabOk rfl rfl rfl (by repeat (first | (with_reducible exact At.head) | apply At.tail)) rfl) (res_tmp rfl)
    rfl
end Go.Proofs.YtaiocnpecaecdaaGreatDoor.V
namespace Go.Proofs.YtaiocnpecaecdaaGreatDoor.V
open Go.Proofs.YtaiocnpecaecdaaGreatDoor.VL Go.Proofs.YtaiocnpecaecdaaGreatDoor.VL.RD Go.Proofs.YtaiocnpecaecdaaGreatDoor.VL.Sha
attribute [local irreducible] Run numB
theorem uSu : Tryz.prog.underlying 33 = some ty33.und := by kernel_rfl
theorem cSu : Tryz.prog.cellsOf 33 = 5 := by kernel_rfl
def litsSu (x : SuperT) : List Lit := [.int .i64 x.vol, .int .i64 x.epoch, .int .i64 x.next, .int .i64 x.live, .string x.root.data.toList]
theorem su_lits (d : Nat) (x : SuperT) (hh : SuperOk x) : Tryz.prog.keyLits (d + 2) 33 (encSu x) = some (litsSu x) := by
  obtain ⟨v0, v1, p0, p1, n0, n1, l0, l1, r1⟩ := hh
  have e1 := int_litI d x.vol v0 v1
  have e2 := int_litI d x.epoch p0 p1
  have e3 := int_litI d x.next n0 n1
  have e4 := int_litI d x.live l0 l1
  have lt : Tryz.prog.keyLits (d + 1) 9 [.string x.root] = some [.string x.root.data.toList] := by
    unfold Program.keyLits; rw [uSt]
    show (if _ then _ else _) = _
    rw [if_pos (show x.root.size ≤ maxLen from by unfold maxLen; omega)]
  unfold Program.keyLits
  rw [uSu]
  show (if _ then _ else _) = _
  rw [if_pos ⟨by rw [cSu]; rfl, by kernel_rfl⟩]
  unfold encSu litsSu
  simp [List.mapM_cons, cI, cSt, e1, e2, e3, e4, lt]
theorem choose_ok (l : List ReadT) (live : Int) : SuperOk (chooseF l live).1 := by
  have z := zeroSu_ok
  have s : ∀ r a, SuperOk (slotF r a live).1 := by
    intro r a
    unfold slotF
    split
    · exact z
    · split
      · exact z
      · exact superOf_ok _
  have b : ∀ x y : SuperT × Bool, SuperOk x.1 → SuperOk y.1 → SuperOk (betterF x y).1 := by
    intro x y hx hy
    unfold betterF
    split
    · exact hy
    · exact hx
  match l with
  | [] => exact z
  | [r] => exact b _ _ z (s r 0)
  | r :: r2 :: t => exact b _ _ (b _ _ z (s r 0)) (s r2 1)
end Go.Proofs.YtaiocnpecaecdaaGreatDoor.V
namespace Go.Proofs.YtaiocnpecaecdaaGreatDoor.V
open Go.Proofs.YtaiocnpecaecdaaGreatDoor.VL Go.Proofs.YtaiocnpecaecdaaGreatDoor.VL.RD Go.Proofs.YtaiocnpecaecdaaGreatDoor.VL.Sha
attribute [local irreducible] Run numB
theorem jchooses_spec (q : View) (hE : ErrQ q) (lp : Option Addr) (lc : Nat) (l : List ReadT) (hq : ReadsQ q lp l) (hl : l.length ≤ 9223372036854775807) (live : Int) (n0 : -9223372036854775808 ≤ live) (n1 : live ≤ 9223372036854775807) :
    FnD Tryz.prog q 4 [.slice lp l.length lc, .int .i64 live] [] (.bool true) [] := by
  have ca := awake12_spec q hE
  have c1 := choose_spec q lp lc l hq hl live
  have c2 := rchoose_spec q lp lc l hq hl live
  have ho := choose_ok l live
  generalize chooseF l live = C at *
  obtain ⟨x, b⟩ := C
  dsimp only at c1 c2 ho
  have kx := su_lits 3 x ho
  unfold encSu at c1 c2 kx
  (first | refine FnD.go Tryz.call4 Tryz.func4 rfl rfl rfl ?_ | refine FnX.go Tryz.call4 Tryz.func4 rfl rfl rfl ?_)
  (repeat (first | refine g ?_))
  refine s_call c1 ?_
  (repeat (first | refine g ?_))
  refine s_alloc fun r5 => ?_
  (repeat (first | refine g ?_))
  refine s_call c2 ?_
  (repeat (first | refine g ?_))
  refine s_alloc fun r7 => ?_
  (repeat (first | refine g ?_))
  refine s_eqk 6 5 true (la := litsSu x) (lb := litsSu x) (by simp) ?_ (ka := kx) (kb := kx)
  (repeat (first | refine g ?_))
  refine s_call ca ?_
  (repeat (first | refine g ?_))
  exact run_ret rfl (imp_RD rfl shut)
end Go.Proofs.YtaiocnpecaecdaaGreatDoor.V
namespace Go.Proofs.YtaiocnpecaecdaaGreatDoor.V
open Go.Proofs.YtaiocnpecaecdaaGreatDoor.VL Go.Proofs.YtaiocnpecaecdaaGreatDoor.VL.RD Go.Proofs.YtaiocnpecaecdaaGreatDoor.VL.Sha
attribute [local irreducible] Run numB
/-- A device on which nothing waits, and of which all can be read: what its sectors are. -/
structure Disk (n : Nat) (k : Int) (c : Int → ByteArray) (d : PSt) : Prop where
  pw : PW n d
  sec : d.sectors = k
  up : d.down = false
  cache : d.cache = []
  txt : ∀ j : Int, 0 ≤ j → j < k → heldF d j = (c j, 0)
theorem Disk.mono {n m : Nat} {k : Int} {c : Int → ByteArray} {d : PSt} (h : Disk n k c d) (hm : n ≤ m) : Disk m k c d := ⟨h.pw.mono hm, h.sec, h.up, h.cache, h.txt⟩
/-- Writes of sectors on a device wait, on top of what stands there. -/
structure Pend (n : Nat) (k : Int) (c : Int → ByteArray) (G : List (Int × ByteArray)) (d : PSt) : Prop where
  pw : PW n d
  sec : d.sectors = k
  cache : d.cache = G
  txt : ∀ j : Int, 0 ≤ j → j < k → heldF d j = (c j, 0)
theorem Pend.mono {n m : Nat} {k : Int} {c : Int → ByteArray} {G : List (Int × ByteArray)} {d : PSt} (h : Pend n k c G d) (hm : n ≤ m) : Pend m k c G d := ⟨h.pw.mono hm, h.sec, h.cache, h.txt⟩
theorem Pend.write {n : Nat} {k : Int} {c : Int → ByteArray} {G : List (Int × ByteArray)} {d : PSt} (h : Pend n k c G d) (hn : n < 1000000) (hu : d.down = false) (a : Int) (t : ByteArray) (ht : t.size = 64) (h0 : 0 ≤ a) (h1 : a < k) :
    (writeF d a t).1 = 0 ∧ (writeF d a t).2.down = false ∧ Pend (n + 1) k c (G ++ [(a, t)]) (writeF d a t).2 ∨ (writeF d a t).1 = 20 ∧ Pend (n + 1) k c G (writeF d a t).2 := by
  have hp := h.pw.write a t (by omega)
  have hs := h.sec
  unfold writeF at *
  rw [if_neg (by omega), if_neg (by rw [hu]; decide), if_neg (by omega)] at *
  by_cases h3 : d.fuse = 0
  · rw [if_pos h3] at *
    exact .inr ⟨rfl, hp, hs, h.cache, h.txt⟩
  · rw [if_neg h3] at *
    exact .inl ⟨rfl, hu, hp, hs, by show d.cache ++ [(a, t)] = _; rw [h.cache], h.txt⟩
/-- A block's sectors. -/
def secs (w : WriteT) (m : Nat) : List (Int × ByteArray) := (List.range m).map fun i : Nat => (w.at_ * 8 + (i : Int), secT w.raw i)
theorem secs_succ (w : WriteT) (m : Nat) : secs w (m + 1) = secs w m ++ [(w.at_ * 8 + (m : Int), secT w.raw m)] := by
  unfold secs; rw [List.range_succ, List.map_append]; rfl
structure Fits (k : Int) (w : WriteT) : Prop where
  a0 : 0 ≤ w.at_
  a1 : w.at_ * 8 + 8 ≤ k
  sz : w.raw.size = 512
theorem Pend.wrN {n : Nat} {k : Int} {c : Int → ByteArray} {G : List (Int × ByteArray)} {d : PSt} (h : Pend n k c G d) (hn : n < 900000) (hu : d.down = false) (w : WriteT) (hw : Fits k w) (i : Nat) (hi : i ≤ 8) :
    (V.wrN d (w.at_ * 8) w.raw i).1 = 0 ∧ (V.wrN d (w.at_ * 8) w.raw i).2.down = false ∧ Pend (n + i) k c (G ++ secs w i) (V.wrN d (w.at_ * 8) w.raw i).2 ∨
    (V.wrN d (w.at_ * 8) w.raw i).1 = 20 ∧ ∃ m, m ≤ i ∧ Pend (n + i) k c (G ++ secs w m) (V.wrN d (w.at_ * 8) w.raw i).2 := by
  have w0 := hw.a0
  have w1 := hw.a1
  induction i with
  | zero => exact .inl ⟨rfl, hu, by show Pend n k c (G ++ []) d; rw [List.append_nil]; exact h⟩
  | succ i ih =>
    rcases ih (by omega) with ⟨e, u, p⟩ | ⟨e, m, hm, p⟩
    · have es : V.wrN d (w.at_ * 8) w.raw (i + 1) = writeF (V.wrN d (w.at_ * 8) w.raw i).2 (w.at_ * 8 + i) (secT w.raw i) := by show (if _ then _ else _) = _; rw [if_pos e]
      rw [es]
      rcases p.write (by omega) u (w.at_ * 8 + i) (secT w.raw i) (secT_size w.raw hw.sz i (by omega)) (by omega) (by omega) with ⟨e2, u2, p2⟩ | ⟨e2, p2⟩
      · exact .inl ⟨e2, u2, by rw [secs_succ, ← List.append_assoc]; exact p2⟩
      · exact .inr ⟨e2, i, by omega, p2⟩
    · have es : V.wrN d (w.at_ * 8) w.raw (i + 1) = V.wrN d (w.at_ * 8) w.raw i := by show (if _ then _ else _) = _; rw [if_neg (by rw [e]; decide)]
      rw [es]
      exact .inr ⟨e, m, by omega, p.mono (by omega)⟩
theorem Pend.put {n : Nat} {k : Int} {c : Int → ByteArray} {G : List (Int × ByteArray)} {d : PSt} (h : Pend n k c G d) (hn : n < 900000) (hu : d.down = false) (w : WriteT) (hw : Fits k w) :
    (dput (d, 0) w.at_ w.raw).2 = 0 ∧ (dput (d, 0) w.at_ w.raw).1.down = false ∧ Pend (n + 8) k c (G ++ secs w 8) (dput (d, 0) w.at_ w.raw).1 ∨
    (dput (d, 0) w.at_ w.raw).2 = 20 ∧ ∃ m, m ≤ 8 ∧ Pend (n + 8) k c (G ++ secs w m) (dput (d, 0) w.at_ w.raw).1 := by
  have w0 := hw.a0
  have w1 := hw.a1
  have hs := h.sec
  have e : dput (d, 0) w.at_ w.raw = ((V.wrN d (w.at_ * 8) w.raw 8).2, (V.wrN d (w.at_ * 8) w.raw 8).1) := by
    unfold dput
    rw [if_neg (fun h => h rfl)]
    dsimp only
    have : bputF d w.at_ w.raw = V.wrN d (w.at_ * 8) w.raw 8 := by
      unfold bputF
      rw [if_neg (fun h => h hw.sz), if_neg (by omega)]
    rw [this]
  rw [e]
  exact h.wrN hn hu w hw 8 (by omega)
/-- A group of blocks, one behind the other. -/
def putG (d : PSt × Int) (l : List WriteT) : PSt × Int := l.foldl (fun d w => dput d w.at_ w.raw) d
theorem putG_stop (l : List WriteT) (d : PSt × Int) (h : d.2 ≠ 0) : putG d l = d := by
  induction l with
  | nil => rfl
  | cons w l ih =>
    show putG (dput d w.at_ w.raw) l = d
    have : dput d w.at_ w.raw = d := by unfold dput; rw [if_pos h]
    rw [this]; exact ih
theorem Pend.puts {k : Int} {c : Int → ByteArray} (l : List WriteT) : ∀ {n : Nat} {G : List (Int × ByteArray)} {d : PSt}, Pend n k c G d → n + 8 * l.length < 900000 → d.down = false → (∀ w ∈ l, Fits k w) →
    (putG (d, 0) l).2 = 0 ∧ (putG (d, 0) l).1.down = false ∧ Pend (n + 8 * l.length) k c (G ++ l.flatMap fun w => secs w 8) (putG (d, 0) l).1 ∨
    (putG (d, 0) l).2 = 20 ∧ ∃ H, (∀ x ∈ H, x ∈ l.flatMap fun w => secs w 8) ∧ Pend (n + 8 * l.length) k c (G ++ H) (putG (d, 0) l).1 := by
  induction l with
  | nil => intro n G d h _ hu _; exact .inl ⟨rfl, hu, by show Pend n k c (G ++ []) d; rw [List.append_nil]; exact h⟩
  | cons w l ih =>
    intro n G d h hn hu hw
    rw [List.length_cons] at hn ⊢
    have hww := hw w List.mem_cons_self
    have eL : n + 8 * (l.length + 1) = n + 8 + 8 * l.length := by omega
    rcases h.put (by omega) hu w hww with ⟨e, u, p⟩ | ⟨e, m, hm, p⟩
    · have ed : dput (d, 0) w.at_ w.raw = ((dput (d, 0) w.at_ w.raw).1, 0) := Prod.ext rfl e
      have eg : putG (d, 0) (w :: l) = putG ((dput (d, 0) w.at_ w.raw).1, 0) l := congrArg (fun z => putG z l) ed
      rw [eg, eL]
      rcases ih p (by omega) u fun x hx => hw x (List.mem_cons_of_mem _ hx) with ⟨e2, u2, p2⟩ | ⟨e2, H, hH, p2⟩
      · refine .inl ⟨e2, u2, ?_⟩
        rw [List.flatMap_cons, ← List.append_assoc]; exact p2
      · refine .inr ⟨e2, secs w 8 ++ H, fun x hx => ?_, by rw [← List.append_assoc]; exact p2⟩
        rw [List.flatMap_cons]
        rcases List.mem_append.1 hx with hx | hx
        · exact List.mem_append_left _ hx
        · exact List.mem_append_right _ (hH x hx)
    · have eg : putG (d, 0) (w :: l) = dput (d, 0) w.at_ w.raw := putG_stop l _ (by rw [e]; decide)
      rw [eg, eL]
      refine .inr ⟨e, secs w m, fun x hx => ?_, p.mono (by omega)⟩
      rw [List.flatMap_cons]
      refine List.mem_append_left _ ?_
      unfold secs at *
      obtain ⟨i, hi, rfl⟩ := List.mem_map.1 hx
      exact List.mem_map.2 ⟨i, List.mem_range.2 (by have := List.mem_range.1 hi; omega), rfl⟩
end Go.Proofs.YtaiocnpecaecdaaGreatDoor.V
namespace Go.Proofs.YtaiocnpecaecdaaGreatDoor.V
open Go.Proofs.YtaiocnpecaecdaaGreatDoor.VL Go.Proofs.YtaiocnpecaecdaaGreatDoor.VL.RD Go.Proofs.YtaiocnpecaecdaaGreatDoor.VL.Sha
attribute [local irreducible] Run numB
def updC (c : Int → ByteArray) (G : List (Int × ByteArray)) : Int → ByteArray := fun j => (lastF G j (c j, 0)).1
theorem last_zero (G : List (Int × ByteArray)) (j : Int) (t : ByteArray) : (lastF G j (t, 0)).2 = 0 := by
  unfold lastF
  split <;> rfl
theorem updC_eq (c : Int → ByteArray) (G : List (Int × ByteArray)) (j : Int) : lastF G j (c j, 0) = (updC c G j, 0) := by
  exact Prod.ext rfl (last_zero G j (c j))
theorem Disk.pend {n : Nat} {k : Int} {c : Int → ByteArray} {d : PSt} (h : Disk n k c d) : Pend n k c [] d := ⟨h.pw, h.sec, h.cache, h.txt⟩
theorem Pend.flush {n : Nat} {k : Int} {c : Int → ByteArray} {G : List (Int × ByteArray)} {d : PSt} (h : Pend n k c G d) (hu : d.down = false) :
    dflush (d, 0) = (flushF d, 0) ∧ Disk n k (updC c G) (flushF d) := by
  constructor
  · unfold dflush
    rw [if_neg (fun h => h rfl)]
    dsimp only
    rw [if_neg (by rw [hu]; decide)]
  · have hc : (flushF d).cache = [] := by unfold flushF; rw [if_neg (by rw [hu]; decide)]
    refine ⟨h.pw.flush, by rw [flush_sec]; exact h.sec, by rw [flush_down]; exact hu, hc, fun j j0 j1 => ?_⟩
    have e := flush_read h.pw hu j j0 (by rw [h.sec]; exact j1)
    rw [rdF_last, rdF_last, hc, h.cache, h.txt j j0 j1, updC_eq] at e
    exact e
theorem foldB_get (l : List ((Int × ByteArray) × Bool)) : ∀ (g : List ByteArray × List Bool) (j : Nat), j < g.1.length → j < g.2.length → (∀ x ∈ l, 0 ≤ x.1.1) →
    ((l.foldl keepB g).1.getD j ⟨#[]⟩ = g.1.getD j ⟨#[]⟩ ∧ (l.foldl keepB g).2.getD j false = g.2.getD j false) ∨
    ∃ x ∈ l, x.1.1 = (j : Int) ∧ (l.foldl keepB g).1.getD j ⟨#[]⟩ = x.1.2 ∧ (l.foldl keepB g).2.getD j false = false := by
  induction l with
  | nil => intro g j _ _ _; exact .inl ⟨rfl, rfl⟩
  | cons x l ih =>
    intro g j h1 h2 hl
    have hx := hl x List.mem_cons_self
    have hlen := foldB_len [x] g
    have hlen : (keepB g x).1.length = g.1.length ∧ (keepB g x).2.length = g.2.length := hlen
    rw [List.foldl_cons]
    rcases ih (keepB g x) j (by omega) (by omega) fun y hy => hl y (List.mem_cons_of_mem _ hy) with ⟨e1, e2⟩ | ⟨y, hy, e⟩
    · rw [e1, e2]
      by_cases hb : x.2 = true
      · have ek : keepB g x = keepH g x.1 := by unfold keepB; rw [if_pos hb]
        rw [ek]
        have z1 := getD_setX g.1 x.1.1.toNat j x.1.2 ⟨#[]⟩
        have z2 := getD_setX g.2 x.1.1.toNat j false false
        by_cases ej : x.1.1 = (j : Int)
        · rw [if_pos ⟨by omega, by omega⟩] at z1 z2
          exact .inr ⟨x, List.mem_cons_self, ej, z1, z2⟩
        · rw [if_neg (by omega)] at z1 z2
          exact .inl ⟨z1, z2⟩
      · have ek : keepB g x = g := by unfold keepB; rw [if_neg hb]
        rw [ek]
        exact .inl ⟨rfl, rfl⟩
    · exact .inr ⟨y, List.mem_cons_of_mem _ hy, e⟩
theorem foldB_s64 (l : List ((Int × ByteArray) × Bool)) : ∀ (g : List ByteArray × List Bool), (∀ x ∈ l, x.1.2.size = 64) → (∀ x ∈ g.1, x.size = 0 ∨ x.size = 64) → ∀ x ∈ (l.foldl keepB g).1, x.size = 0 ∨ x.size = 64 := by
  induction l with
  | nil => intro g _ hg; exact hg
  | cons y l ih =>
    intro g hl hg
    refine ih (keepB g y) (fun x hx => hl x (List.mem_cons_of_mem _ hx)) fun x hx => ?_
    unfold keepB at hx
    split at hx
    · rcases mem_setX hx with e | hx
      · exact .inr (by rw [e]; exact hl y List.mem_cons_self)
      · exact hg x hx
    · exact hg x hx
theorem PW.start {n : Nat} {s : PSt} (h : PW n s) (ks : List Bool) : PW n (startF s ks) := by
  refine ⟨start_wf s ks h.wf, ⟨by simp [startF], ?_⟩, h.nr, h.nw, Nat.zero_le _⟩
  show ∀ x ∈ (startH s ks).1, _
  unfold startH
  exact foldB_s64 _ _ (fun x hx => h.s64.cache x.1 (List.of_mem_zip hx).1) h.s64.held
/-- What stands on a device behind a start. -/
theorem Pend.start {n : Nat} {k : Int} {c : Int → ByteArray} {G : List (Int × ByteArray)} {d : PSt} (h : Pend n k c G d) (ks : List Bool) :
    ∃ c' : Int → ByteArray, Disk n k c' (startF d ks) ∧ ∀ j, 0 ≤ j → j < k → c' j = c j ∨ ∃ x ∈ G, x.1 = j ∧ c' j = x.2 := by
  have hh := h.pw.wf.held
  have hd := h.pw.wf.dumb
  have hs := h.sec
  have key : ∀ j : Int, 0 ≤ j → j < k → heldF (startF d ks) j = (c j, 0) ∨ ∃ x ∈ G, x.1 = j ∧ heldF (startF d ks) j = (x.2, 0) := by
    intro j j0 j1
    obtain ⟨m, rfl⟩ : ∃ m : Nat, j = m := ⟨j.toNat, by omega⟩
    have ht := h.txt m j0 j1
    have hfold := foldB_get (d.cache.zip ks) (d.held, d.dumb) m (by show m < d.held.length; omega) (by show m < d.dumb.length; omega) fun x hx => (h.pw.wf.cache x.1 (List.of_mem_zip hx).1).1
    have e1 : (startF d ks).held = ((d.cache.zip ks).foldl keepB (d.held, d.dumb)).1 := rfl
    have e2 : (startF d ks).dumb = ((d.cache.zip ks).foldl keepB (d.held, d.dumb)).2 := rfl
    have e3 : (startF d ks).sectors = d.sectors := rfl
    generalize (d.cache.zip ks).foldl keepB (d.held, d.dumb) = F at *
    unfold heldF at *
    rw [e1, e2, e3]
    have hr : ¬ ((m : Int) < 0 ∨ d.sectors ≤ (m : Int)) := by omega
    rw [if_neg hr] at ht ⊢
    rw [show ((m : Int)).toNat = m from rfl] at ht ⊢
    rcases hfold with ⟨f1, f2⟩ | ⟨x, hx, ej, f1, f2⟩
    · rw [f1, f2]
      exact .inl ht
    · have hxc := (List.of_mem_zip hx).1
      have h64 := h.pw.s64.cache x.1 hxc
      rw [f1, f2, if_neg (by decide), if_neg (ne_of64 h64)]
      exact .inr ⟨x.1, by rw [← h.cache]; exact hxc, ej, rfl⟩
  refine ⟨fun j => (heldF (startF d ks) j).1, ⟨h.pw.start ks, hs, rfl, rfl, fun j j0 j1 => ?_⟩, fun j j0 j1 => ?_⟩
  · rcases key j j0 j1 with e | ⟨x, _, _, e⟩
    · rw [e]
    · rw [e]
  · rcases key j j0 j1 with e | ⟨x, hx, ej, e⟩
    · exact .inl (by dsimp only; rw [e])
    · exact .inr ⟨x, hx, ej, by dsimp only; rw [e]⟩
def secG (G : List WriteT) : List (Int × ByteArray) := G.flatMap fun w => secs w 8
def runG : PSt × Int → List (List WriteT) → PSt × Int
  | d, [] => d
  | d, G :: Gs => runG (dflush (putG d G)) Gs
def aft (c : Int → ByteArray) : List (List WriteT) → Int → ByteArray
  | [] => c
  | G :: Gs => aft (updC c (secG G)) Gs
def lenG (Gs : List (List WriteT)) : Nat := (Gs.map List.length).sum
theorem runG_stop (Gs : List (List WriteT)) (d : PSt × Int) (h : d.2 ≠ 0) : runG d Gs = d := by
  induction Gs with
  | nil => rfl
  | cons G Gs ih =>
    show runG (dflush (putG d G)) Gs = d
    rw [putG_stop G d h]
    have : dflush d = d := by unfold dflush; rw [if_pos h]
    rw [this]; exact ih
theorem crash {k : Int} (Gs : List (List WriteT)) : ∀ {n : Nat} {c : Int → ByteArray} {d : PSt}, Disk n k c d → n + 8 * lenG Gs < 900000 → (∀ G ∈ Gs, ∀ w ∈ G, Fits k w) →
    (runG (d, 0) Gs).2 = 0 ∧ Disk (n + 8 * lenG Gs) k (aft c Gs) (runG (d, 0) Gs).1 ∨
    (runG (d, 0) Gs).2 = 20 ∧ ∃ Gs1 G Gs2 H, Gs = Gs1 ++ G :: Gs2 ∧ (∀ x ∈ H, x ∈ secG G) ∧ Pend (n + 8 * lenG Gs) k (aft c Gs1) H (runG (d, 0) Gs).1 := by
  induction Gs with
  | nil => intro n c d h _ _; exact .inl ⟨rfl, h⟩
  | cons G Gs ih =>
    intro n c d h hn hf
    have eL : lenG (G :: Gs) = G.length + lenG Gs := by simp [lenG]
    rw [eL] at hn ⊢
    rcases h.pend.puts G (by omega) h.up (hf G List.mem_cons_self) with ⟨e, u, p⟩ | ⟨e, H, hH, p⟩
    · rw [List.nil_append] at p
      obtain ⟨fe, fd⟩ := p.flush u
      have ed : putG (d, 0) G = ((putG (d, 0) G).1, 0) := Prod.ext rfl e
      have er : runG (d, 0) (G :: Gs) = runG (flushF (putG (d, 0) G).1, 0) Gs := by
        show runG (dflush (putG (d, 0) G)) Gs = _
        rw [ed, fe]
      rw [er, show n + 8 * (G.length + lenG Gs) = n + 8 * G.length + 8 * lenG Gs by omega]
      rcases ih fd (by omega) fun G' hG' => hf G' (List.mem_cons_of_mem _ hG') with ⟨e2, p2⟩ | ⟨e2, Gs1, G', Gs2, H, e3, hH, p2⟩
      · exact .inl ⟨e2, p2⟩
      · exact .inr ⟨e2, G :: Gs1, G', Gs2, H, by rw [e3]; rfl, hH, p2⟩
    · rw [List.nil_append] at p
      have er : runG (d, 0) (G :: Gs) = putG (d, 0) G := by
        show runG (dflush (putG (d, 0) G)) Gs = _
        have h20 : (putG (d, 0) G).2 ≠ 0 := by rw [e]; decide
        have : dflush (putG (d, 0) G) = putG (d, 0) G := by unfold dflush; rw [if_pos h20]
        rw [this]; exact runG_stop Gs _ h20
      rw [er]
      exact .inr ⟨e, [], G, Gs, H, rfl, hH, p.mono (by omega)⟩
end Go.Proofs.YtaiocnpecaecdaaGreatDoor.V
namespace Go.Proofs.YtaiocnpecaecdaaGreatDoor.V
open Go.Proofs.YtaiocnpecaecdaaGreatDoor.VL Go.Proofs.YtaiocnpecaecdaaGreatDoor.VL.RD Go.Proofs.YtaiocnpecaecdaaGreatDoor.VL.Sha
attribute [local irreducible] Run numB
def blkC (c : Int → ByteArray) (a : Int) (raw : ByteArray) : Prop := ∀ i : Nat, i < 8 → c (a * 8 + i) = secT raw i
theorem Disk.rd {n : Nat} {k : Int} {c : Int → ByteArray} {d : PSt} (h : Disk n k c d) (j : Int) (h0 : 0 ≤ j) (h1 : j < k) : rdF d j = (c j, 0) := by
  rw [rdF_last, h.cache]
  exact h.txt j h0 h1
theorem Disk.has {n : Nat} {k : Int} {c : Int → ByteArray} {d : PSt} (h : Disk n k c d) {a : Int} {raw : ByteArray} (hr : raw.size = 512) (h0 : 0 ≤ a) (h1 : a * 8 + 8 ≤ k) (hb : blkC c a raw) : hasB d a raw :=
  ⟨hr, fun i hi => by rw [h.rd _ (by omega) (by omega), hb i hi]⟩
theorem Disk.size {n : Nat} {k : Int} {c : Int → ByteArray} {d : PSt} (h : Disk n k c d) (j : Int) (h0 : 0 ≤ j) (h1 : j < k) : (c j).size = 64 := by
  have e := h.rd j h0 h1
  rcases rdF_cases h.pw.s64 j h0 (by rw [h.sec]; exact h1) with ⟨_, h3⟩ | h2
  · rw [e] at h3; exact h3
  · rw [e] at h2; exact absurd (Prod.mk.inj h2).2 (by decide)
theorem flat_sec (f : Nat → List UInt8) (hf : ∀ i, i < 8 → (f i).length = 64) (m : Nat) (hm : m ≤ 8) : ((List.range m).flatMap f).length = 64 * m ∧ ∀ i, i < m → (((List.range m).flatMap f).drop (64 * i)).take 64 = f i := by
  induction m with
  | zero => exact ⟨rfl, fun i hi => by omega⟩
  | succ m ih =>
    obtain ⟨hl, hs⟩ := ih (by omega)
    have e : (List.range (m + 1)).flatMap f = (List.range m).flatMap f ++ f m := by rw [List.range_succ, List.flatMap_append]; simp
    rw [e]
    refine ⟨by rw [List.length_append, hl, hf m (by omega)]; omega, fun i hi => ?_⟩
    by_cases him : i < m
    · rw [List.drop_append_of_le_length (by omega), List.take_append_of_le_length (by rw [List.length_drop]; omega)]
      exact hs i him
    · obtain rfl : i = m := by omega
      rw [show 64 * i = ((List.range i).flatMap f).length from hl.symm, List.drop_left, List.take_of_length_le (by rw [hf i (by omega)]; exact Nat.le_refl _)]
theorem Disk.some {n : Nat} {k : Int} {c : Int → ByteArray} {d : PSt} (h : Disk n k c d) (a : Int) (h0 : 0 ≤ a) (h1 : a * 8 + 8 ≤ k) : ∃ raw : ByteArray, raw.size = 512 ∧ blkC c a raw := by
  obtain ⟨hl, hs⟩ := flat_sec (fun i : Nat => (c (a * 8 + (i : Int))).data.toList) (fun i hi => by rw [Array.length_toList]; exact h.size _ (by omega) (by omega)) 8 (by omega)
  refine ⟨bl ((List.range 8).flatMap fun i : Nat => (c (a * 8 + (i : Int))).data.toList), by rw [blen_size]; exact hl, fun i hi => ?_⟩
  apply ByteArray.ext
  apply Array.ext'
  unfold secT
  rw [ext_toList, show 64 * i + 64 - 64 * i = 64 by omega]
  exact (hs i hi).symm
theorem sec_all {x y : ByteArray} (hx : x.size = 512) (hy : y.size = 512) (h : ∀ i : Nat, i < 8 → secT x i = secT y i) : x = y := by
  have key : ∀ (z : ByteArray), z.size = 512 → z.data.toList = (List.range 8).flatMap fun i => (secT z i).data.toList := by
    intro z hz
    have hzl : z.data.toList.length = 512 := by rw [Array.length_toList]; exact hz
    have : ∀ m, m ≤ 8 → (List.range m).flatMap (fun i => (secT z i).data.toList) = z.data.toList.take (64 * m) := by
      intro m
      induction m with
      | zero => intro _; rfl
      | succ m ih =>
        intro hm
        rw [List.range_succ, List.flatMap_append, ih (by omega)]
        show _ ++ ((secT z m).data.toList ++ []) = _
        unfold secT
        rw [List.append_nil, ext_toList, show 64 * m + 64 - 64 * m = 64 by omega, show 64 * (m + 1) = 64 * m + 64 by omega, List.take_add]
    rw [this 8 (by omega), List.take_of_length_le (by omega)]
  apply ByteArray.ext
  apply Array.ext'
  rw [key x hx, key y hy]
  have e : ∀ m, m ≤ 8 → (List.range m).flatMap (fun i => (secT x i).data.toList) = (List.range m).flatMap fun i => (secT y i).data.toList := by
    intro m
    induction m with
    | zero => intro _; rfl
    | succ m ih =>
      intro hm
      rw [List.range_succ, List.flatMap_append, List.flatMap_append, ih (by omega)]
      show _ ++ ((secT x m).data.toList ++ []) = _ ++ ((secT y m).data.toList ++ [])
      rw [h m (by omega)]
  exact e 8 (by omega)
theorem blk_one {c : Int → ByteArray} {a : Int} {x y : ByteArray} (hx : x.size = 512) (hy : y.size = 512) (h1 : blkC c a x) (h2 : blkC c a y) : x = y :=
  sec_all hx hy fun i hi => by rw [← h1 i hi, h2 i hi]
theorem updC_other (c : Int → ByteArray) (G : List (Int × ByteArray)) (j : Int) (h : ∀ x ∈ G, x.1 ≠ j) : updC c G j = c j := by
  unfold updC lastF
  have : G.reverse.find? (fun x => decide (x.1 = j)) = none := by
    rw [List.find?_eq_none]
    intro x hx
    simpa using h x (List.mem_reverse.1 hx)
  rw [this]
theorem updC_here (c : Int → ByteArray) (G : List (Int × ByteArray)) (j : Int) (x : Int × ByteArray) (hx : x ∈ G) (hj : x.1 = j) (h : ∀ y ∈ G, y.1 = j → y.2 = x.2) : updC c G j = x.2 := by
  unfold updC lastF
  cases hf : G.reverse.find? (fun x => decide (x.1 = j)) with
  | none =>
    rw [List.find?_eq_none] at hf
    exact absurd hj (by simpa using hf x (List.mem_reverse.2 hx))
  | some y =>
    have h1 : y.1 = j := by simpa using List.find?_some hf
    exact h y (List.mem_reverse.1 (List.mem_of_find?_eq_some hf)) h1
theorem mem_secG {G : List WriteT} {x : Int × ByteArray} : x ∈ secG G ↔ ∃ w ∈ G, ∃ i : Nat, i < 8 ∧ x = (w.at_ * 8 + (i : Int), secT w.raw i) := by
  unfold secG secs
  rw [List.mem_flatMap]
  constructor
  · rintro ⟨w, hw, hx⟩
    obtain ⟨i, hi, rfl⟩ := List.mem_map.1 hx
    exact ⟨w, hw, i, List.mem_range.1 hi, rfl⟩
  · rintro ⟨w, hw, i, hi, rfl⟩
    exact ⟨w, hw, List.mem_map.2 ⟨i, List.mem_range.2 hi, rfl⟩⟩
/-- No address stands twice, with unlike blocks. -/
def OneG (G : List WriteT) : Prop := ∀ w ∈ G, ∀ u ∈ G, w.at_ = u.at_ → w.raw = u.raw
theorem updG_here (c : Int → ByteArray) (G : List WriteT) (hG : OneG G) (w : WriteT) (hw : w ∈ G) : blkC (updC c (secG G)) w.at_ w.raw := by
  intro i hi
  refine updC_here c (secG G) _ (w.at_ * 8 + (i : Int), secT w.raw i) (mem_secG.2 ⟨w, hw, i, hi, rfl⟩) rfl ?_
  intro y hy ej
  obtain ⟨u, hu, m, hm, rfl⟩ := mem_secG.1 hy
  dsimp only at ej ⊢
  have e1 : m = i := by omega
  have e2 : u.at_ = w.at_ := by omega
  rw [hG u hu w hw e2, e1]
theorem updG_other (c : Int → ByteArray) (G : List WriteT) (a : Int) (h : ∀ w ∈ G, w.at_ ≠ a) (i : Nat) (hi : i < 8) : updC c (secG G) (a * 8 + i) = c (a * 8 + i) := by
  refine updC_other c _ _ fun x hx => ?_
  obtain ⟨w, hw, m, hm, rfl⟩ := mem_secG.1 hx
  have := h w hw
  dsimp only
  omega
theorem updG_blk (c : Int → ByteArray) (G : List WriteT) (a : Int) (raw : ByteArray) (h : ∀ w ∈ G, w.at_ ≠ a) (hb : blkC c a raw) : blkC (updC c (secG G)) a raw := fun i hi => by
  rw [updG_other c G a h i hi]; exact hb i hi
/-- What a crash within a group leaves. -/
theorem mix_other {c c' : Int → ByteArray} {k : Int} {G : List WriteT} {H : List (Int × ByteArray)} (hH : ∀ x ∈ H, x ∈ secG G) (hm : ∀ j, 0 ≤ j → j < k → c' j = c j ∨ ∃ x ∈ H, x.1 = j ∧ c' j = x.2) (a : Int) (a0 : 0 ≤ a) (a1 : a * 8 + 8 ≤ k) (h : ∀ w ∈ G, w.at_ ≠ a) (raw : ByteArray) (hb : blkC c a raw) : blkC c' a raw := by
  intro i hi
  rcases hm (a * 8 + i) (by omega) (by omega) with e | ⟨x, hx, ej, _⟩
  · rw [e]; exact hb i hi
  · obtain ⟨w, hw, m, hm2, rfl⟩ := mem_secG.1 (hH x hx)
    have := h w hw
    dsimp only at ej
    omega
end Go.Proofs.YtaiocnpecaecdaaGreatDoor.V
namespace Go.Proofs.YtaiocnpecaecdaaGreatDoor.V
open Go.Proofs.YtaiocnpecaecdaaGreatDoor.VL Go.Proofs.YtaiocnpecaecdaaGreatDoor.VL.RD Go.Proofs.YtaiocnpecaecdaaGreatDoor.VL.Sha
attribute [local irreducible] Run numB
/-- The blocks that open. -/
def Knows (V : VSt) (S : List ByteArray) : Prop := ∀ raw : ByteArray, raw.size = 512 → (opensB V raw ↔ raw ∈ S)
theorem knows_none : Knows s00 [] := fun raw _ => ⟨fun h => absurd h (opens_none _ _ _), fun h => by cases h⟩
theorem Knows.seal {V : VSt} {S : List ByteArray} (h : Knows V S) (g : HeadT) (X : ByteArray) (hok : (fldH g).all okN = true) (hX : X.size = 448) : Knows (sealS V g X) (S ++ [blkB g X (sealC V g X)]) := fun raw hz => by
  rw [opens_iffS V g X hok hX raw hz, h raw hz, List.mem_append, List.mem_singleton]
theorem Knows.hash {V : VSt} {S : List ByteArray} (h : Knows V S) (l : List ByteArray) : Knows { V with hs := l } S := fun raw hz => by
  rw [opens_es { V with hs := l } V rfl]; exact h raw hz
/-- What is told is one of the blocks that open. -/
theorem Knows.told {V : VSt} {S : List ByteArray} (h : Knows V S) (raw : ByteArray) (hz : raw.size = 512) (a : Int) (ho : (btoldF V raw a).ok = true) : raw ∈ S ∧ (openH raw).addr = a := by
  obtain ⟨h1, h2⟩ := (told_ok V raw a hz).1 ho
  exact ⟨(h raw hz).1 h1, h2⟩
/-- The records of a row of blocks. -/
def recsW (base : Int) : List WriteT → List WriteT
  | [] => []
  | w :: l => ⟨base, w.raw⟩ :: recsW (base + 1) l
theorem putsD_recs (l : List WriteT) : ∀ (d : PSt × Int) (base : Int), putsD d base l = putG d (recsW base l) := by
  induction l with
  | nil => intro d base; rfl
  | cons w l ih => intro d base; exact ih (dput d base w.raw) (base + 1)
theorem placesD_put (l : List WriteT) : ∀ (d : PSt × Int), placesD d l = putG d l := by
  induction l with
  | nil => intro d; rfl
  | cons w l ih => intro d; exact ih (dput d w.at_ w.raw)
theorem finish_run (d : PSt × Int) (l : List WriteT) (h : WriteT) : finishD d l h = runG d [l, [h]] := by
  unfold finishD
  rw [placesD_put]
  rfl
theorem recsW_mem {base : Int} {l : List WriteT} {w : WriteT} (h : w ∈ recsW base l) : ∃ i : Nat, i < l.length ∧ w.at_ = base + i ∧ ∃ u, l[i]? = some u ∧ w.raw = u.raw := by
  induction l generalizing base with
  | nil => cases h
  | cons u l ih =>
    rcases List.mem_cons.1 h with rfl | h
    · exact ⟨0, by simp, by simp, u, rfl, rfl⟩
    · obtain ⟨i, hi, e, u', hu, er⟩ := ih h
      exact ⟨i + 1, by simp; omega, by rw [e]; omega, u', by simpa using hu, er⟩
theorem recsW_get {base : Int} {l : List WriteT} {i : Nat} {u : WriteT} (h : l[i]? = some u) : (⟨base + i, u.raw⟩ : WriteT) ∈ recsW base l := by
  induction l generalizing base i with
  | nil => cases h
  | cons v l ih =>
    cases i with
    | zero =>
      obtain rfl := Option.some.inj h
      show _ ∈ (⟨base, v.raw⟩ : WriteT) :: recsW (base + 1) l
      rw [show base + ((0 : Nat) : Int) = base by omega]
      exact List.mem_cons_self
    | succ i =>
      have := ih (base := base + 1) (i := i) (by simpa using h)
      rw [show base + ((i + 1 : Nat) : Int) = base + 1 + (i : Int) by omega]
      exact List.mem_cons_of_mem _ this
/-- What may be written together. -/
structure MayW (w : WriteT) : Prop where
  a0 : 26 < w.at_
  a1 : w.at_ < 48
  sz : w.raw.size = 512
  hd : (headOfF (w.raw.extract 0 48)).2 = 0
  ad : (headOfF (w.raw.extract 0 48)).1.addr = w.at_
theorem may_all (l : List WriteT) : ∀ last : Int, 26 ≤ last → mayG 48 last l = true → (∀ w ∈ l, MayW w ∧ last < w.at_) ∧ OneG l := by
  induction l with
  | nil =>
    intro last _ _
    refine ⟨?_, ?_⟩
    · intro w hw; cases hw
    · intro w hw; cases hw
  | cons w l ih =>
    intro last hl h
    have hm : mayG 48 last (w :: l) = if w.at_ ≤ last ∨ 48 ≤ w.at_ ∨ w.raw.size ≠ 512 then false else if (headOfF (w.raw.extract 0 48)).2 ≠ 0 ∨ (headOfF (w.raw.extract 0 48)).1.addr ≠ w.at_ then false else mayG 48 w.at_ l := rfl
    rw [hm] at h
    by_cases h1 : w.at_ ≤ last ∨ 48 ≤ w.at_ ∨ w.raw.size ≠ 512
    · rw [if_pos h1] at h; cases h
    rw [if_neg h1] at h
    by_cases h2 : (headOfF (w.raw.extract 0 48)).2 ≠ 0 ∨ (headOfF (w.raw.extract 0 48)).1.addr ≠ w.at_
    · rw [if_pos h2] at h; cases h
    rw [if_neg h2] at h
    have g1 : ¬ w.at_ ≤ last := fun e => h1 (.inl e)
    have g2 : ¬ 48 ≤ w.at_ := fun e => h1 (.inr (.inl e))
    have g3 : w.raw.size = 512 := Decidable.not_not.1 fun e => h1 (.inr (.inr e))
    have g4 : (headOfF (w.raw.extract 0 48)).2 = 0 := Decidable.not_not.1 fun e => h2 (.inl e)
    have g5 : (headOfF (w.raw.extract 0 48)).1.addr = w.at_ := Decidable.not_not.1 fun e => h2 (.inr e)
    obtain ⟨k1, k2⟩ := ih w.at_ (by omega) h
    refine ⟨fun u hu => ?_, fun u hu v hv e => ?_⟩
    · rcases List.mem_cons.1 hu with e | hu
      · rw [e]; exact ⟨⟨by omega, by omega, g3, g4, g5⟩, by omega⟩
      · obtain ⟨m, lt⟩ := k1 u hu
        exact ⟨m, by omega⟩
    · rcases List.mem_cons.1 hu with eu | hu
      · rcases List.mem_cons.1 hv with ev | hv
        · rw [eu, ev]
        · have := (k1 v hv).2
          rw [eu] at e; omega
      · rcases List.mem_cons.1 hv with ev | hv
        · have := (k1 u hu).2
          rw [ev] at e; omega
        · exact k2 u hu v hv e
theorem MayW.fits {w : WriteT} (h : MayW w) : Fits 784 w := ⟨by have := h.a0; omega, by have := h.a1; omega, h.sz⟩
end Go.Proofs.YtaiocnpecaecdaaGreatDoor.V
namespace Go.Proofs.YtaiocnpecaecdaaGreatDoor.V
open Go.Proofs.YtaiocnpecaecdaaGreatDoor.VL Go.Proofs.YtaiocnpecaecdaaGreatDoor.VL.RD Go.Proofs.YtaiocnpecaecdaaGreatDoor.VL.Sha
attribute [local irreducible] Run numB
theorem Disk.rds {n : Nat} {k : Int} {c : Int → ByteArray} {d : PSt} (h : Disk n k c d) (m : Nat) (hm : n + m ≤ 1099511627776) : Disk (n + m) k c (V.rds d m) :=
  ⟨h.pw.rds m hm, h.sec, h.up, h.cache, h.txt⟩
theorem Disk.get {n : Nat} {k : Int} {c : Int → ByteArray} {d : PSt} (h : Disk n k c d) (a : Int) (h0 : 0 ≤ a) (h1 : a * 8 + 8 ≤ k) (raw : ByteArray) (hr : raw.size = 512) (hb : blkC c a raw) : getF d a = ((raw, 0, 0), V.rds d 8) :=
  getF_raw d h.up a h0 (by rw [h.sec]; omega) raw hr (h.has hr h0 h1 hb).2
theorem Disk.image {n : Nat} {k : Int} {c : Int → ByteArray} {d : PSt} (h : Disk n k c d) (a : Int) (h0 : 0 ≤ a) (h1 : a * 8 + 8 ≤ k) (raw : ByteArray) (hr : raw.size = 512) (hb : blkC c a raw) : atF (rawsL d (blocksN d)) (masksL d (blocksN d)) a = (raw, 0) := by
  have hx := (h.has hr h0 h1 hb).2
  obtain ⟨m, rfl⟩ : ∃ m : Nat, a = m := ⟨a.toNat, by omega⟩
  have hN : (blocksN d : Int) = d.sectors / 8 := by
    have := h.pw.wf.held
    unfold blocksN; omega
  have hs := h.sec
  have hm : m < blocksN d := by omega
  have l1 := rawsL_len d (blocksN d)
  have l2 := masksL_len d (blocksN d)
  have g := getL_raw d m raw hx 8 (by omega)
  have er : allR d m = raw := by
    unfold allR
    rw [if_neg (by rw [h.up]; decide), g.1]
    exact bl_all raw hr
  have em : allM d m = 0 := by
    unfold allM
    rw [if_neg (by rw [h.up]; decide), g.2]; rfl
  have e1 : (rawsL d (blocksN d)).getD m ⟨#[]⟩ = raw := by
    unfold rawsL
    rw [List.getD_eq_getElem?_getD, List.getElem?_map, List.getElem?_range hm]; exact er
  have e2 : (masksL d (blocksN d)).getD m 0 = 0 := by
    unfold masksL
    rw [List.getD_eq_getElem?_getD, List.getElem?_map, List.getElem?_range hm]; exact em
  unfold atF
  rw [l1, l2, show ((m : Int)).toNat = m from rfl, e1, e2, if_neg]
  rintro (h2 | h2 | h2 | h2)
  · omega
  · omega
  · omega
  · exact h2 hr
/-- What the vault knows behind the second commit. -/
structure Known (V : VSt) (new : List WriteT) (raw0 raw1 word1 raw2 word2 B1 B2 : ByteArray) : Prop where
  s0 : Sealed V (headSu (supX 0)) (bl (superL (supX 0))) raw0
  s1 : Sealed V (headSu (supX 1)) (bl (superL (supX 1))) raw1
  s2 : Sealed V (headSu (supX 2)) (bl (superL (supX 2))) raw2
  p1 : Sealed V (headPr (supX 1)) B1 word1
  n1 : nextF B1 = (supX 1, 0)
  p2 : Sealed V (headPr (supX 2)) B2 word2
  n2 : nextF B2 = (supX 2, 0)
  c2 : lev B2.data.toList 0 2 = new.length
  h2 : ∃ m, pos V.hs (bl (joinedL new)) = some m ∧ B2.extract 2 34 = numB (m + 1) 32
  kn : Knows V [raw0, word1, raw1, word2, raw2]
  k2 : ∃ r, pos V.es (sealedK (headSu (supX 2)).salt (nonceB (headSu (supX 2))) (bl (headL (headSu (supX 2)))) (bl (superL (supX 2)))) = some r ∧ raw2 = blkB (headSu (supX 2)) (bl (superL (supX 2))) (r + 1)
section
variable {V : VSt} {new : List WriteT} {raw0 raw1 word1 raw2 word2 B1 B2 : ByteArray}
theorem Known.hash (h : Known V new raw0 raw1 word1 raw2 word2 B1 B2) (t : ByteArray) : Known { V with hs := cntL V.hs t } new raw0 raw1 word1 raw2 word2 B1 B2 := by
  refine ⟨h.s0.hash _, h.s1.hash _, h.s2.hash _, h.p1.hash _, h.n1, h.p2.hash _, h.n2, h.c2, ?_, h.kn.hash _, h.k2⟩
  obtain ⟨m, hm, e⟩ := h.h2
  exact ⟨m, pos_cnt _ _ _ _ hm, e⟩
/-- The superblock that is to come is laid again as it was. -/
theorem Known.super (h : Known V new raw0 raw1 word1 raw2 word2 B1 B2) : superM idealP V (supX 2) = ((⟨0, raw2⟩, 0), V) := by
  obtain ⟨r, hr, e⟩ := h.k2
  have hok : (fldH (headSu (supX 2))).all okN = true := by decide
  have hX := superB_size (supX 2) (supX_root 2)
  have e1 : bsealF V (headSu (supX 2)) (bl (superL (supX 2))) = ((raw2, 0), V) := by
    rw [bsealF_ok V _ _ hX hok]
    have c1 : sealC V (headSu (supX 2)) (bl (superL (supX 2))) = r + 1 := by unfold sealC cntN; rw [hr]
    have c2 : sealS V (headSu (supX 2)) (bl (superL (supX 2))) = V := by unfold sealS cntL; rw [hr]
    rw [c1, c2, ← e]
  unfold superM
  rw [super_ok (supX 2) (supX_root 2) (by decide), if_neg (fun h => h rfl)]
  show (if (bsealF V (headSu (supX 2)) (bl (superL (supX 2)))).1.2 ≠ 0 then _ else _) = _
  rw [e1, if_neg (fun h => h rfl)]
  show ((((⟨(supX 2).epoch % 2, (bsealF V (headSu (supX 2)) (bl (superL (supX 2)))).1.1⟩ : WriteT), (0 : Int)), (bsealF V (headSu (supX 2)) (bl (superL (supX 2)))).2) : (WriteT × Int) × VSt) = _
  rw [e1]
  rfl
theorem Known.at0 (h : Known V new raw0 raw1 word1 raw2 word2 B1 B2) (z : ByteArray) (hz : z.size = 512) (ho : (btoldF V z 0).ok = true) : z = raw0 ∨ z = raw2 := by
  obtain ⟨hm, ha⟩ := h.kn.told z hz 0 ho
  simp only [List.mem_cons, List.not_mem_nil, or_false] at hm
  rcases hm with e | e | e | e | e
  · exact .inl e
  · rw [e, h.p1.head] at ha; exact absurd ha (by decide)
  · rw [e, h.s1.head] at ha; exact absurd ha (by decide)
  · rw [e, h.p2.head] at ha; exact absurd ha (by decide)
  · exact .inr e
theorem Known.at2 (h : Known V new raw0 raw1 word1 raw2 word2 B1 B2) (z : ByteArray) (hz : z.size = 512) (ho : (btoldF V z 2).ok = true) : z = word1 ∨ z = word2 := by
  obtain ⟨hm, ha⟩ := h.kn.told z hz 2 ho
  simp only [List.mem_cons, List.not_mem_nil, or_false] at hm
  rcases hm with e | e | e | e | e
  · rw [e, h.s0.head] at ha; exact absurd ha (by decide)
  · exact .inl e
  · rw [e, h.s1.head] at ha; exact absurd ha (by decide)
  · exact .inr e
  · rw [e, h.s2.head] at ha; exact absurd ha (by decide)
end
end Go.Proofs.YtaiocnpecaecdaaGreatDoor.V
namespace Go.Proofs.YtaiocnpecaecdaaGreatDoor.V
open Go.Proofs.YtaiocnpecaecdaaGreatDoor.VL Go.Proofs.YtaiocnpecaecdaaGreatDoor.VL.RD Go.Proofs.YtaiocnpecaecdaaGreatDoor.VL.Sha
attribute [local irreducible] Run numB
theorem allS_up {n : Nat} {k : Int} {c : Int → ByteArray} {d : PSt} (h : Disk n k c d) (i : Nat) : allS d i = rds d (8 * i) := by
  unfold allS
  rw [if_neg (by rw [h.up]; decide)]
theorem blocks98 {n : Nat} {c : Int → ByteArray} {d : PSt} (h : Disk n 784 c d) : blocksN d = 98 := by
  unfold blocksN
  rw [h.sec]; rfl
/-- Slots as they are read. -/
theorem slot_no {R : ReadT} (h : R.ok = false) (a live : Int) : slotF R a live = (zeroSu, false) := by
  unfold slotF
  rw [if_pos (.inl h)]
theorem choose_one (R0 : ReadT) (h : R0.ok = false ∨ R0 = ⟨true, headSu (supX 0), bl (superL (supX 0))⟩) : chooseF [R0, ⟨true, headSu (supX 1), bl (superL (supX 1))⟩] 48 = (supX 1, true) := by
  unfold chooseF
  dsimp only
  rw [slot_ok (headSu (supX 1)) (supX 1) 1 rfl (supX_root 1) (by decide) rfl rfl]
  rcases h with h | h
  · rw [slot_no h]
    have i1 : betterF (zeroSu, false) (zeroSu, false) = (zeroSu, false) := if_neg (fun h => absurd h.1 (by decide))
    have i2 : betterF (zeroSu, false) (supX 1, true) = (supX 1, true) := if_pos ⟨rfl, .inl rfl⟩
    rw [i1, i2]
  · rw [h, slot_ok (headSu (supX 0)) (supX 0) 0 rfl (supX_root 0) (by decide) rfl rfl]
    have i1 : betterF (zeroSu, false) (supX 0, true) = (supX 0, true) := if_pos ⟨rfl, .inl rfl⟩
    have i2 : betterF (supX 0, true) (supX 1, true) = (supX 1, true) := if_pos ⟨rfl, .inr (by decide)⟩
    rw [i1, i2]
theorem choose_two : chooseF [⟨true, headSu (supX 2), bl (superL (supX 2))⟩, ⟨true, headSu (supX 1), bl (superL (supX 1))⟩] 48 = (supX 2, true) := by
  unfold chooseF
  dsimp only
  rw [slot_ok (headSu (supX 1)) (supX 1) 1 rfl (supX_root 1) (by decide) rfl rfl, slot_ok (headSu (supX 2)) (supX 2) 0 rfl (supX_root 2) (by decide) rfl rfl]
  have i1 : betterF (zeroSu, false) (supX 2, true) = (supX 2, true) := if_pos ⟨rfl, .inl rfl⟩
  have i2 : betterF (supX 2, true) (supX 1, true) = (supX 2, true) := if_neg (by rintro ⟨_, h | h⟩ <;> exact absurd h (by decide))
  rw [i1, i2]
/-- What a recovery does, behind what it reads. -/
theorem recover_eq {n : Nat} {c : Int → ByteArray} {d : PSt} (h : Disk n 784 c d) (V : VSt) (z0 z1 : ByteArray) (s0 : z0.size = 512) (s1 : z1.size = 512) (b0 : blkC c 0 z0) (b1 : blkC c 1 z1) (hn : n < 1000000) (x : SuperT)
    (hc : chooseF [btoldF V z0 0, btoldF V z1 1] 48 = (x, true)) :
    recoverM idealP d V = (let d2 := rds (rds d 8) 8
      let f := foundM idealP V 48 (rawsL d2 (blocksN d2)) (masksL d2 (blocksN d2))
      let d3 := rds d2 784
      if f.1.2.2 = false ∨ f.1.2.1.epoch ≠ x.epoch + 1 then ((x, 0, 0), d3, f.2) else
      let w := superM idealP f.2 f.1.2.1
      let t := finishD (d3, 0) f.1.1 w.1.1
      if stopF t.2 ≠ 0 then ((zeroSu, 0, stopF t.2), t.1, w.2) else ((f.1.2.1, (f.1.1.length : Int), 0), t.1, w.2)) := by
  have g0 := h.get 0 (by decide) (by decide) z0 s0 b0
  have hd1 := h.rds 8 (by omega)
  have g1 := hd1.get 1 (by decide) (by decide) z1 s1 b1
  have hd2 := hd1.rds 8 (by omega)
  have hb := blocks98 hd2
  have l0 : loadM idealP d V 0 = btoldF V z0 0 := by
    unfold loadM
    rw [g0, if_neg]
    · rfl
    · rintro (h | h) <;> exact h rfl
  have l1 : loadM idealP (rds d 8) V 1 = btoldF V z1 1 := by
    unfold loadM
    rw [g1, if_neg]
    · rfl
    · rintro (h | h) <;> exact h rfl
  have ha : allS (rds (rds d 8) 8) (blocksN (rds (rds d 8) 8)) = rds (rds (rds d 8) 8) 784 := by rw [hb, allS_up hd2]
  unfold recoverM
  rw [if_neg (by rw [h.up]; decide), live784 d h.sec, if_neg (fun h => h rfl)]
  dsimp only
  rw [l0, g0]
  dsimp only
  rw [l1, g1]
  dsimp only
  rw [hc, if_neg (fun h => absurd (show true = false from h) (by decide)), ha]
section
variable {W : VSt} {new : List WriteT} {raw0 raw1 word1 raw2 word2 B1 B2 : ByteArray}
/-- The vault behind a look for a promise. -/
theorem found_vault (s : VSt) (raws : List ByteArray) (masks : List Int) : (foundM idealP s 48 raws masks).2 = s ∨ ∃ t, (foundM idealP s 48 raws masks).2 = { s with hs := cntL s.hs t } := by
  unfold foundM
  dsimp only
  repeat' split
  all_goals first | exact .inl rfl | exact .inr ⟨_, rfl⟩
theorem Known.found (h : Known W new raw0 raw1 word1 raw2 word2 B1 B2) (raws : List ByteArray) (masks : List Int) : Known (foundM idealP W 48 raws masks).2 new raw0 raw1 word1 raw2 word2 B1 B2 := by
  rcases found_vault W raws masks with e | ⟨t, e⟩
  · rw [e]; exact h
  · rw [e]; exact h.hash t
/-- What the promise that stands there promises. -/
theorem Known.next (h : Known W new raw0 raw1 word1 raw2 word2 B1 B2) {raws : List ByteArray} {masks : List Int} {z : ByteArray} (hz : z.size = 512) (hi : atF raws masks 2 = (z, 0)) (hf : (foundM idealP W 48 raws masks).1.2.2 = true) :
    z = word1 ∧ (foundM idealP W 48 raws masks).1.2.1 = supX 1 ∨ z = word2 ∧ (foundM idealP W 48 raws masks).1.2.1 = supX 2 := by
  have e := found_next idealP W 48 raws masks hf
  have hl : lookM idealP W raws masks 2 = btoldF W z 2 := by
    unfold lookM
    rw [hi, if_neg (fun h => h rfl)]
    rfl
  rw [hl] at e
  have ho : (btoldF W z 2).ok = true := by
    cases hb : (btoldF W z 2).ok with
    | true => rfl
    | false =>
      have : (foundM idealP W 48 raws masks).1.2.2 = false := by
        unfold foundM
        dsimp only
        rw [hl, if_pos (.inl hb)]
      rw [this] at hf; exact absurd hf (by decide)
  rcases h.at2 z hz ho with rfl | rfl
  · rw [h.p1.told 2 rfl] at e
    dsimp only at e
    rw [h.n1] at e
    exact .inl ⟨rfl, e⟩
  · rw [h.p2.told 2 rfl] at e
    dsimp only at e
    rw [h.n2] at e
    exact .inr ⟨rfl, e⟩
/-- The second superblock stands: nothing is done. -/
theorem rec_two {n : Nat} {c : Int → ByteArray} {d : PSt} (hd : Disk n 784 c d) (hn : n < 1000000) (h : Known W new raw0 raw1 word1 raw2 word2 B1 B2) (b0 : blkC c 0 raw2) (b1 : blkC c 1 raw1) :
    ∃ d3 V3, recoverM idealP d W = ((supX 2, 0, 0), d3, V3) ∧ Disk (n + 800) 784 c d3 ∧ Known V3 new raw0 raw1 word1 raw2 word2 B1 B2 := by
  obtain ⟨z2, sz2, b2⟩ := hd.some 2 (by decide) (by decide)
  have hd2 := (hd.rds 8 (by omega)).rds 8 (by omega)
  have hd3 := hd2.rds 784 (by omega)
  have im := hd2.image 2 (by decide) (by decide) z2 sz2 b2
  rw [recover_eq hd W raw2 raw1 h.s2.sz h.s1.sz b0 b1 hn (supX 2) (by rw [h.s2.told 0 rfl, h.s1.told 1 rfl]; exact choose_two)]
  dsimp only
  have hk := h.found (rawsL (rds (rds d 8) 8) (blocksN (rds (rds d 8) 8))) (masksL (rds (rds d 8) 8) (blocksN (rds (rds d 8) 8)))
  rw [if_pos]
  · exact ⟨_, _, rfl, hd3.mono (by omega), hk⟩
  · by_cases hf : (foundM idealP W 48 (rawsL (rds (rds d 8) 8) (blocksN (rds (rds d 8) 8))) (masksL (rds (rds d 8) 8) (blocksN (rds (rds d 8) 8)))).1.2.2 = true
    · refine .inr ?_
      rcases h.next sz2 im hf with ⟨_, e⟩ | ⟨_, e⟩
      · rw [e]; decide
      · rw [e]; decide
    · exact .inl (by simpa using hf)
theorem Known.old0 (h : Known W new raw0 raw1 word1 raw2 word2 B1 B2) (z0 : ByteArray) (hz : z0.size = 512) (hne : z0 ≠ raw2) : chooseF [btoldF W z0 0, btoldF W raw1 1] 48 = (supX 1, true) := by
  rw [h.s1.told 1 rfl]
  refine choose_one _ ?_
  cases ho : (btoldF W z0 0).ok with
  | false => exact .inl rfl
  | true =>
    rcases h.at0 z0 hz ho with rfl | e
    · exact .inr (h.s0.told 0 rfl)
    · exact absurd e hne
/-- The first superblock stands, and no promise of the second: nothing is done. -/
theorem rec_one {n : Nat} {c : Int → ByteArray} {d : PSt} (hd : Disk n 784 c d) (hn : n < 1000000) (h : Known W new raw0 raw1 word1 raw2 word2 B1 B2) (z0 z2 : ByteArray) (sz0 : z0.size = 512) (sz2 : z2.size = 512) (h0 : z0 ≠ raw2) (h2 : z2 ≠ word2) (b0 : blkC c 0 z0) (b1 : blkC c 1 raw1) (b2 : blkC c 2 z2) :
    ∃ d3 V3, recoverM idealP d W = ((supX 1, 0, 0), d3, V3) ∧ Disk (n + 800) 784 c d3 ∧ Known V3 new raw0 raw1 word1 raw2 word2 B1 B2 := by
  have hd2 := (hd.rds 8 (by omega)).rds 8 (by omega)
  have hd3 := hd2.rds 784 (by omega)
  have im := hd2.image 2 (by decide) (by decide) z2 sz2 b2
  rw [recover_eq hd W z0 raw1 sz0 h.s1.sz b0 b1 hn (supX 1) (h.old0 z0 sz0 h0)]
  dsimp only
  have hk := h.found (rawsL (rds (rds d 8) 8) (blocksN (rds (rds d 8) 8))) (masksL (rds (rds d 8) 8) (blocksN (rds (rds d 8) 8)))
  rw [if_pos]
  · exact ⟨_, _, rfl, hd3.mono (by omega), hk⟩
  · by_cases hf : (foundM idealP W 48 (rawsL (rds (rds d 8) 8) (blocksN (rds (rds d 8) 8))) (masksL (rds (rds d 8) 8) (blocksN (rds (rds d 8) 8)))).1.2.2 = true
    · refine .inr ?_
      rcases h.next sz2 im hf with ⟨_, e⟩ | ⟨e, _⟩
      · rw [e]; decide
      · exact absurd e h2
    · exact .inl (by simpa using hf)
end
end Go.Proofs.YtaiocnpecaecdaaGreatDoor.V
namespace Go.Proofs.YtaiocnpecaecdaaGreatDoor.V
open Go.Proofs.YtaiocnpecaecdaaGreatDoor.VL Go.Proofs.YtaiocnpecaecdaaGreatDoor.VL.RD Go.Proofs.YtaiocnpecaecdaaGreatDoor.VL.Sha
attribute [local irreducible] Run numB
theorem recs_all (raws : List ByteArray) (masks : List Int) (l : List WriteT) (hm : ∀ w ∈ l, MayW w) (h : ∀ (i : Nat) (u : WriteT), l[i]? = some u → atF raws masks (3 + i) = (u.raw, 0)) :
    ∀ m : Nat, m ≤ l.length → recsF raws masks 3 m = some (l.take m) := by
  intro m
  induction m with
  | zero => intro _; rfl
  | succ m ih =>
    intro hl
    obtain ⟨u, hu⟩ : ∃ u, l[m]? = some u := ⟨_, List.getElem?_eq_getElem (by omega)⟩
    have hw := hm u (List.mem_of_getElem? hu)
    have e : recsF raws masks 3 (m + 1) = match recsF raws masks 3 m with
      | none => none
      | some l => if (atF raws masks (3 + m)).2 ≠ 0 ∨ (headOfF ((atF raws masks (3 + m)).1.extract 0 48)).2 ≠ 0 then none else some (l ++ [⟨(headOfF ((atF raws masks (3 + m)).1.extract 0 48)).1.addr, (atF raws masks (3 + m)).1⟩]) := rfl
    rw [e, ih (by omega)]
    dsimp only
    rw [h m u hu]
    dsimp only
    rw [if_neg, hw.ad, List.take_add_one, hu]
    · rfl
    · rintro (h | h)
      · exact h rfl
      · exact h hw.hd
section
variable {W : VSt} {new : List WriteT} {raw0 raw1 word1 raw2 word2 B1 B2 : ByteArray}
theorem Known.fulfil (h : Known W new raw0 raw1 word1 raw2 word2 B1 B2) (hmay : mayF 48 new = true) (hlen : new.length ≤ 24) {raws : List ByteArray} {masks : List Int} (hi : atF raws masks 2 = (word2, 0)) (hl : ∀ (i : Nat) (u : WriteT), new[i]? = some u → atF raws masks (3 + i) = (u.raw, 0)) :
    ∃ t, foundM idealP W 48 raws masks = ((new, supX 2, true), { W with hs := cntL W.hs t }) := by
  obtain ⟨hm, _⟩ := may_all new 26 (by decide) hmay
  have hr := recs_all raws masks new (fun w hw => (hm w hw).1) hl new.length (Nat.le_refl _)
  rw [List.take_length] at hr
  have hk : lookM idealP W raws masks 2 = ⟨true, headPr (supX 2), B2⟩ := by
    unfold lookM
    rw [hi, if_neg (fun h => h rfl)]
    exact h.p2.told 2 rfl
  obtain ⟨m, hp, he⟩ := h.h2
  refine ⟨bl (joinedL new), ?_⟩
  unfold foundM
  dsimp only
  rw [hk]
  dsimp only
  rw [h.n2, h.c2, if_neg, if_neg, hr]
  · dsimp only
    rw [hmay, if_neg (by decide), if_neg]
    · rfl
    · show ¬ numB (cntN W.hs (bl (joinedL new))) 32 ≠ B2.extract 2 34
      rw [he]
      unfold cntN
      rw [hp]
      exact fun h => h rfl
  · rintro (h | h | h)
    · exact h rfl
    · omega
    · exact h rfl
  · rintro (h | h)
    · exact absurd (show true = false from h) (by decide)
    · exact h rfl
/-- The second superblock is promised: what was promised is done. -/
theorem rec_fin {n : Nat} {c : Int → ByteArray} {d : PSt} (hd : Disk n 784 c d) (hn : n < 1000000) (h : Known W new raw0 raw1 word1 raw2 word2 B1 B2) (hmay : mayF 48 new = true) (hlen : new.length ≤ 24) (z0 : ByteArray) (sz0 : z0.size = 512) (h0 : z0 ≠ raw2)
    (b0 : blkC c 0 z0) (b1 : blkC c 1 raw1) (b2 : blkC c 2 word2) (bl_ : ∀ (i : Nat) (u : WriteT), new[i]? = some u → blkC c (3 + i) u.raw) :
    ∃ d3 V3, Disk (n + 800) 784 c d3 ∧ Known V3 new raw0 raw1 word1 raw2 word2 B1 B2 ∧ d3.fuse = d.fuse ∧
      recoverM idealP d W = (let t := runG (d3, 0) [new, [⟨0, raw2⟩]]
        if stopF t.2 ≠ 0 then ((zeroSu, 0, stopF t.2), t.1, V3) else ((supX 2, (new.length : Int), 0), t.1, V3)) := by
  obtain ⟨hm, _⟩ := may_all new 26 (by decide) hmay
  have hd2 := (hd.rds 8 (by omega)).rds 8 (by omega)
  have hd3 := hd2.rds 784 (by omega)
  have im := hd2.image 2 (by decide) (by decide) word2 h.p2.sz b2
  have il : ∀ (i : Nat) (u : WriteT), new[i]? = some u → atF (rawsL (rds (rds d 8) 8) (blocksN (rds (rds d 8) 8))) (masksL (rds (rds d 8) 8) (blocksN (rds (rds d 8) 8))) (3 + i) = (u.raw, 0) := fun i u hu => by
    have hil : i < new.length := (List.getElem?_eq_some_iff.1 hu).1
    exact hd2.image (3 + i) (by omega) (by omega) u.raw (hm u (List.mem_of_getElem? hu)).1.sz (bl_ i u hu)
  obtain ⟨t, hf⟩ := h.fulfil hmay hlen im il
  refine ⟨rds (rds (rds d 8) 8) 784, { W with hs := cntL W.hs t }, hd3.mono (by omega), h.hash t, rfl, ?_⟩
  rw [recover_eq hd W z0 raw1 sz0 h.s1.sz b0 b1 hn (supX 1) (h.old0 z0 sz0 h0)]
  dsimp only
  rw [hf, if_neg]
  · dsimp only
    rw [(h.hash t).super]
    dsimp only
    rw [finish_run]
    rfl
  · rintro (h | h)
    · exact absurd (show true = false from h) (by decide)
    · exact h (show (supX 2).epoch = (supX 1).epoch + 1 by decide)
structure InvO (old : List WriteT) (raw1 raw2 word2 : ByteArray) (c : Int → ByteArray) : Prop where
  b1 : blkC c 1 raw1
  b0 : ∃ z, z.size = 512 ∧ z ≠ raw2 ∧ blkC c 0 z
  b2 : ∃ z, z.size = 512 ∧ z ≠ word2 ∧ blkC c 2 z
  pl : ∀ w ∈ old, blkC c w.at_ w.raw
structure InvM (new : List WriteT) (raw1 raw2 word2 : ByteArray) (c : Int → ByteArray) : Prop where
  b1 : blkC c 1 raw1
  b2 : blkC c 2 word2
  lg : ∀ (i : Nat) (u : WriteT), new[i]? = some u → blkC c (3 + i) u.raw
  or_ : (∃ z, z.size = 512 ∧ z ≠ raw2 ∧ blkC c 0 z) ∨ ∀ w ∈ new, blkC c w.at_ w.raw
theorem blk_eq {c c' : Int → ByteArray} {k : Int} (h : ∀ j, 0 ≤ j → j < k → c' j = c j) {a : Int} {raw : ByteArray} (h0 : 0 ≤ a) (h1 : a * 8 + 8 ≤ k) (hb : blkC c a raw) : blkC c' a raw := fun i hi => by
  rw [h _ (by omega) (by omega)]; exact hb i hi
theorem Disk.start {n : Nat} {k : Int} {c : Int → ByteArray} {d : PSt} (h : Disk n k c d) (ks : List Bool) : ∃ c', Disk n k c' (startF d ks) ∧ ∀ j, 0 ≤ j → j < k → c' j = c j := by
  obtain ⟨c', hd, hj⟩ := h.pend.start ks
  refine ⟨c', hd, fun j j0 j1 => ?_⟩
  rcases hj j j0 j1 with e | ⟨x, hx, _⟩
  · exact e
  · cases hx
theorem Disk.arm {n : Nat} {k : Int} {c : Int → ByteArray} {d : PSt} (h : Disk n k c d) (f : Int) (hf : f ≤ 9223372036854775807) : Disk n k c (armF d f).2 := by
  have hp := h.pw.arm f hf
  unfold armF at *
  split
  · exact h
  · rename_i h0
    rw [if_neg (by rw [h.up]; decide)]
    rw [if_neg h0, if_neg (by rw [h.up]; decide)] at hp
    exact ⟨hp, h.sec, h.up, h.cache, h.txt⟩
theorem two_groups {G1 G2 : List WriteT} {Gs1 Gs2 : List (List WriteT)} {G : List WriteT} (h : [G1, G2] = Gs1 ++ G :: Gs2) : Gs1 = [] ∧ G = G1 ∨ Gs1 = [G1] ∧ G = G2 := by
  cases Gs1 with
  | nil => exact .inl ⟨rfl, (List.cons.inj h).1.symm⟩
  | cons A Gs1 =>
    obtain ⟨e1, h⟩ := List.cons.inj h
    cases Gs1 with
    | nil => exact .inr ⟨by rw [e1], (List.cons.inj h).1.symm⟩
    | cons B Gs1 =>
      obtain ⟨_, h⟩ := List.cons.inj h
      cases Gs1 <;> cases h
/-- What the finishing writes leave, whatever fails. -/
theorem fin_crash (hs2 : raw2.size = 512) {n : Nat} {c : Int → ByteArray} {d3 : PSt} (hd : Disk n 784 c d3) (hn : n < 500000) (hmay : mayF 48 new = true) (hlen : new.length ≤ 24) (hI : InvM new raw1 raw2 word2 c) (z0 : ByteArray) (sz0 : z0.size = 512) (h0 : z0 ≠ raw2) (b0 : blkC c 0 z0) (ks : List Bool) :
    let t := runG (d3, 0) [new, [⟨0, raw2⟩]]
    (∃ c', Disk (n + 1000) 784 c' (startF t.1 ks) ∧ InvM new raw1 raw2 word2 c') ∧
    (t.2 = 0 ∧ (∃ c', Disk (n + 1000) 784 c' t.1 ∧ InvM new raw1 raw2 word2 c' ∧ blkC c' 0 raw2 ∧ ∀ w ∈ new, blkC c' w.at_ w.raw) ∨ t.2 = 20) := by
  obtain ⟨hm, h1⟩ := may_all new 26 (by decide) hmay
  have eL : lenG [new, [⟨0, raw2⟩]] = new.length + 1 := by simp [lenG]
  have n0 : ∀ w ∈ new, w.at_ ≠ 0 := fun w hw => by have := (hm w hw).1.a0; omega
  have n1 : ∀ w ∈ new, w.at_ ≠ 1 := fun w hw => by have := (hm w hw).1.a0; omega
  have n2 : ∀ w ∈ new, w.at_ ≠ 2 := fun w hw => by have := (hm w hw).1.a0; omega
  have nl : ∀ (i : Nat), i < new.length → ∀ w ∈ new, w.at_ ≠ 3 + i := fun i hi w hw => by have := (hm w hw).1.a0; omega
  have m0 : ∀ a : Int, a ≠ 0 → ∀ w ∈ ([⟨0, raw2⟩] : List WriteT), w.at_ ≠ a := fun a ha w hw => by
    obtain rfl := List.mem_singleton.1 hw
    exact fun h => ha h.symm
  have hfit : ∀ G ∈ [new, [⟨0, raw2⟩]], ∀ w ∈ G, Fits 784 w := by
    intro G hG w hw
    rcases List.mem_cons.1 hG with e | hG
    · rw [e] at hw; exact (hm w hw).1.fits
    · obtain rfl := List.mem_singleton.1 hG
      obtain rfl := List.mem_singleton.1 hw
      exact ⟨show (0 : Int) ≤ 0 by decide, show (0 : Int) * 8 + 8 ≤ 784 by decide, hs2⟩
  -- behind the blocks in their places
  have I1 : InvM new raw1 raw2 word2 (updC c (secG new)) :=
    ⟨updG_blk c new 1 raw1 n1 hI.b1, updG_blk c new 2 word2 n2 hI.b2, fun i u hu => updG_blk c new (3 + i) u.raw (nl i (List.getElem?_eq_some_iff.1 hu).1) (hI.lg i u hu), .inr fun w hw => updG_here c new h1 w hw⟩
  have P1 : ∀ w ∈ new, blkC (updC c (secG new)) w.at_ w.raw := fun w hw => updG_here c new h1 w hw
  have one : OneG [⟨0, raw2⟩] := by
    intro w hw u hu _
    rw [List.mem_singleton.1 hw, List.mem_singleton.1 hu]
  have I2 : InvM new raw1 raw2 word2 (updC (updC c (secG new)) (secG [⟨0, raw2⟩])) :=
    ⟨updG_blk _ _ 1 raw1 (m0 1 (by decide)) I1.b1, updG_blk _ _ 2 word2 (m0 2 (by decide)) I1.b2, fun i u hu => updG_blk _ _ (3 + i) u.raw (m0 _ (by omega)) (I1.lg i u hu), .inr fun w hw => updG_blk _ _ w.at_ w.raw (m0 _ (n0 w hw)) (P1 w hw)⟩
  dsimp only
  rcases crash [new, [⟨0, raw2⟩]] hd (by rw [eL]; omega) hfit with ⟨e, hD⟩ | ⟨e, Gs1, G, Gs2, H, eG, hH, hP⟩
  · have hD : Disk (n + 1000) 784 (updC (updC c (secG new)) (secG [⟨0, raw2⟩])) (runG (d3, 0) [new, [⟨0, raw2⟩]]).1 := hD.mono (by rw [eL]; omega)
    refine ⟨?_, .inl ⟨e, _, hD, I2, updG_here _ [⟨0, raw2⟩] one ⟨0, raw2⟩ (List.mem_singleton.2 rfl), fun w hw => updG_blk _ _ w.at_ w.raw (m0 _ (n0 w hw)) (P1 w hw)⟩⟩
    obtain ⟨c', hd', hj⟩ := hD.start ks
    refine ⟨c', hd', ⟨blk_eq hj (by decide) (by decide) I2.b1, blk_eq hj (by decide) (by decide) I2.b2, fun i u hu => ?_, .inr fun w hw => ?_⟩⟩
    · have := (List.getElem?_eq_some_iff.1 hu).1
      exact blk_eq hj (by omega) (by omega) (I2.lg i u hu)
    · have a0 := (hm w hw).1.a0
      have a1 := (hm w hw).1.a1
      exact blk_eq hj (by omega) (by omega) (updG_blk _ _ w.at_ w.raw (m0 _ (n0 w hw)) (P1 w hw))
  · refine ⟨?_, .inr e⟩
    obtain ⟨c', hd', hj⟩ := hP.start ks
    refine ⟨c', hd'.mono (by rw [eL]; omega), ?_⟩
    rcases two_groups eG with ⟨rfl, rfl⟩ | ⟨rfl, rfl⟩
    · refine ⟨mix_other hH hj 1 (by decide) (by decide) n1 raw1 hI.b1, mix_other hH hj 2 (by decide) (by decide) n2 word2 hI.b2, fun i u hu => ?_, .inl ⟨z0, sz0, h0, mix_other hH hj 0 (by decide) (by decide) n0 z0 b0⟩⟩
      have hi := (List.getElem?_eq_some_iff.1 hu).1
      exact mix_other hH hj (3 + i) (by omega) (by omega) (nl i hi) u.raw (hI.lg i u hu)
    · refine ⟨mix_other hH hj 1 (by decide) (by decide) (m0 1 (by decide)) raw1 I1.b1, mix_other hH hj 2 (by decide) (by decide) (m0 2 (by decide)) word2 I1.b2, fun i u hu => ?_, .inr fun w hw => ?_⟩
      · have hi := (List.getElem?_eq_some_iff.1 hu).1
        exact mix_other hH hj (3 + i) (by omega) (by omega) (m0 _ (by omega)) u.raw (I1.lg i u hu)
      · have a0 := (hm w hw).1.a0
        have a1 := (hm w hw).1.a1
        exact mix_other hH hj w.at_ (by omega) (by omega) (m0 _ (n0 w hw)) w.raw (P1 w hw)
end
end Go.Proofs.YtaiocnpecaecdaaGreatDoor.V
namespace Go.Proofs.YtaiocnpecaecdaaGreatDoor.V
open Go.Proofs.YtaiocnpecaecdaaGreatDoor.VL Go.Proofs.YtaiocnpecaecdaaGreatDoor.VL.RD Go.Proofs.YtaiocnpecaecdaaGreatDoor.VL.Sha
attribute [local irreducible] Run numB
theorem prom_parts (n : Nat) (hn : n ≤ 1000) (H : ByteArray) (hH : H.size = 32) (x : SuperT) (hr : x.root.size = 32) : lev (promB n H (bl (superL x))).data.toList 0 2 = n ∧ (promB n H (bl (superL x))).extract 2 34 = H := by
  have h2 := put2_size n hn
  have eN : V.putF (n : Int) 2 = (bl (leb n 2), 0) := by
    unfold V.putF
    rw [if_neg (by omega), if_neg]
    · rfl
    · rintro (h | h)
      · omega
      · exact h (by show (n : Int) / 65536 = 0; omega)
  have h54 : ((bl (superL x)).extract 0 54).size = 54 := by rw [ByteArray.size_extract, superB_size x hr]; omega
  unfold promB
  rw [eN]
  dsimp only
  have hT : (bl (leb n 2) ++ H ++ (bl (superL x)).extract 0 54).size = 88 := by
    rw [ByteArray.size_append, ByteArray.size_append, h54, hH, blen_size, leb_length]
  have eT : (bl (leb n 2) ++ H ++ (bl (superL x)).extract 0 54).data.toList = leb n 2 ++ (H.data.toList ++ ((bl (superL x)).extract 0 54).data.toList) := by
    rw [app_list, app_list, List.append_assoc]
    rfl
  rw [pad_at _ (by omega), eT]
  generalize ((bl (superL x)).extract 0 54).data.toList = Z
  have e1 : (bl (leb n 2 ++ (H.data.toList ++ Z) ++ List.replicate (448 - (bl (leb n 2) ++ H ++ (bl (superL x)).extract 0 54).size) 0)).data.toList = leb n 2 ++ (H.data.toList ++ (Z ++ List.replicate (448 - (bl (leb n 2) ++ H ++ (bl (superL x)).extract 0 54).size) 0)) := by
    show leb n 2 ++ (H.data.toList ++ Z) ++ _ = _
    simp only [List.append_assoc]
  constructor
  · have := lev_at [] (H.data.toList ++ (Z ++ List.replicate (448 - (bl (leb n 2) ++ H ++ (bl (superL x)).extract 0 54).size) 0)) (n : Int) 0 2 rfl (decide_eq_true ⟨by show (0 : Int) ≤ n; omega, by show (n : Int) / 65536 = 0; omega⟩) _ e1
    omega
  · apply ByteArray.ext
    apply Array.ext'
    exact ext_mid (leb n 2) H.data.toList _ 2 34 (leb_length n 2) (by rw [Array.length_toList]; show 2 + H.size = 34; omega) _ e1
/-- A commit that may be. -/
theorem commit_gen (d : PSt) (hs : d.sectors = 784) (V : VSt) (l : List WriteT) (x : SuperT) (hl : x.live = 48) (hr : x.root.size = 32) (hf : (fldSu x).all okN = true) (hh : (fldH (headSu x)).all okN = true) (hp : (fldH (headPr x)).all okN = true) (hmay : mayF 48 l = true) (hlen : l.length ≤ 24)
    (V1 V2 V3 : VSt) (H B word raw : ByteArray) (eH : H = numB (cntN V.hs (bl (joinedL l))) 32) (e1 : V1 = { V with hs := cntL V.hs (bl (joinedL l)) }) (eB : B = promB l.length H (bl (superL x)))
    (ew : word = blkB (headPr x) B (sealC V1 (headPr x) B)) (e2 : V2 = sealS V1 (headPr x) B) (er : raw = blkB (headSu x) (bl (superL x)) (sealC V2 (headSu x) (bl (superL x)))) (e3 : V3 = sealS V2 (headSu x) (bl (superL x))) :
    commitM idealP d V l x = (stopF (runG (d, 0) [recsW 3 l, [⟨2, word⟩], l, [⟨x.epoch % 2, raw⟩]]).2, (runG (d, 0) [recsW 3 l, [⟨2, word⟩], l, [⟨x.epoch % 2, raw⟩]]).1, V3) := by
  have hH : H.size = 32 := by rw [eH]; exact numB_size _ 32 (by decide)
  have z448 : B.size = 448 := by rw [eB]; exact (prom_next l.length (by omega) H hH x hr hf).1
  have s448 := superB_size x hr
  have p1 : promiseM idealP V l x = ((word, 0), V2) := by
    unfold promiseM
    rw [super_ok x hr hf, if_neg (fun h => h rfl)]
    show bsealF { V with hs := cntL V.hs (bl (joinedL l)) } (headPr x) (promB l.length (numB (cntN V.hs (bl (joinedL l))) 32) (bl (superL x))) = _
    rw [← eH, ← e1, ← eB, bsealF_ok V1 _ _ z448 hp, ← ew, ← e2]
  have p2 : superM idealP V2 x = ((⟨x.epoch % 2, raw⟩, 0), V3) := by
    have eb : bsealF V2 (headSu x) (bl (superL x)) = ((raw, 0), V3) := by rw [bsealF_ok V2 _ _ s448 hh, ← er, ← e3]
    unfold superM
    rw [super_ok x hr hf, if_neg (fun h => h rfl)]
    show (if (bsealF V2 (headSu x) (bl (superL x))).1.2 ≠ 0 then _ else _) = _
    rw [eb, if_neg (fun h => h rfl)]
    show ((((⟨x.epoch % 2, (bsealF V2 (headSu x) (bl (superL x))).1.1⟩ : WriteT), (0 : Int)), (bsealF V2 (headSu x) (bl (superL x))).2) : (WriteT × Int) × VSt) = _
    rw [eb]
  unfold commitM
  rw [live784 d hs, hl, hmay, if_neg (by omega), if_neg]
  · dsimp only
    rw [p1]
    dsimp only
    rw [if_neg (fun h => h rfl), p2]
    dsimp only
    rw [finish_run, putsD_recs]
    rfl
  · rintro (h | h | h | h | h)
    · exact absurd h (by decide)
    · exact absurd h (by decide)
    · exact h rfl
    · exact h rfl
    · exact absurd h (by decide)
end Go.Proofs.YtaiocnpecaecdaaGreatDoor.V
namespace Go.Proofs.YtaiocnpecaecdaaGreatDoor.V
open Go.Proofs.YtaiocnpecaecdaaGreatDoor.VL Go.Proofs.YtaiocnpecaecdaaGreatDoor.VL.RD Go.Proofs.YtaiocnpecaecdaaGreatDoor.VL.Sha
attribute [local irreducible] Run numB
theorem seal_fix (s : VSt) (h : HeadT) (X : ByteArray) (hok : (fldH h).all okN = true) (hX : X.size = 448) : Sealed (sealS s h X) h X (blkB h X (sealC s h X)) := by
  obtain ⟨raw, e, k⟩ := seal_new s h X hok hX
  rw [bsealF_ok s h X hX hok] at e
  have e2 : blkB h X (sealC s h X) = raw := (Prod.mk.inj (Prod.mk.inj e).1).1
  rw [e2]; exact k
def suB (x : SuperT) : ByteArray := bl (superL x)
/-- What a commit makes of a vault, step by step. -/
def VhF (V : VSt) (l : List WriteT) : VSt := { V with hs := cntL V.hs (bl (joinedL l)) }
def proB (V : VSt) (l : List WriteT) (x : SuperT) : ByteArray := promB l.length (numB (cntN V.hs (bl (joinedL l))) 32) (suB x)
def wordF (V : VSt) (l : List WriteT) (x : SuperT) : ByteArray := blkB (headPr x) (proB V l x) (sealC (VhF V l) (headPr x) (proB V l x))
def VpF (V : VSt) (l : List WriteT) (x : SuperT) : VSt := sealS (VhF V l) (headPr x) (proB V l x)
def suF (V : VSt) (l : List WriteT) (x : SuperT) : ByteArray := blkB (headSu x) (suB x) (sealC (VpF V l x) (headSu x) (suB x))
def VcF (V : VSt) (l : List WriteT) (x : SuperT) : VSt := sealS (VpF V l x) (headSu x) (suB x)
/-- A superblock that may stand there. -/
structure SuFit (x : SuperT) : Prop where
  l : x.live = 48
  r : x.root.size = 32
  f : (fldSu x).all okN = true
  h : (fldH (headSu x)).all okN = true
  p : (fldH (headPr x)).all okN = true
theorem fit0 : SuFit (supX 0) := ⟨rfl, supX_root 0, by decide, by decide, by decide⟩
theorem fit1 : SuFit (supX 1) := ⟨rfl, supX_root 1, by decide, by decide, by decide⟩
theorem fit2 : SuFit (supX 2) := ⟨rfl, supX_root 2, by decide, by decide, by decide⟩
theorem commit_run (d : PSt) (hs : d.sectors = 784) (V : VSt) (l : List WriteT) (x : SuperT) (h : SuFit x) (hmay : mayF 48 l = true) (hlen : l.length ≤ 24) :
    commitM idealP d V l x = (stopF (runG (d, 0) [recsW 3 l, [⟨2, wordF V l x⟩], l, [⟨x.epoch % 2, suF V l x⟩]]).2, (runG (d, 0) [recsW 3 l, [⟨2, wordF V l x⟩], l, [⟨x.epoch % 2, suF V l x⟩]]).1, VcF V l x) :=
  commit_gen d hs V l x h.l h.r h.f h.h h.p hmay hlen (VhF V l) (VpF V l x) (VcF V l x) (numB (cntN V.hs (bl (joinedL l))) 32) (proB V l x) (wordF V l x) (suF V l x) rfl rfl rfl rfl rfl rfl rfl
theorem suB_size (x : SuperT) (h : SuFit x) : (suB x).size = 448 := superB_size x h.r
theorem hash32' (V : VSt) (t : ByteArray) : (numB (cntN V.hs t) 32).size = 32 := numB_size _ 32 (by decide)
theorem proB_next (V : VSt) (l : List WriteT) (x : SuperT) (h : SuFit x) (hlen : l.length ≤ 24) : (proB V l x).size = 448 ∧ nextF (proB V l x) = (x, 0) :=
  prom_next l.length (by omega) _ (hash32' V _) x h.r h.f
theorem proB_parts (V : VSt) (l : List WriteT) (x : SuperT) (h : SuFit x) (hlen : l.length ≤ 24) : lev (proB V l x).data.toList 0 2 = l.length ∧ (proB V l x).extract 2 34 = numB (cntN V.hs (bl (joinedL l))) 32 :=
  prom_parts l.length (by omega) _ (hash32' V _) x h.r
section
variable {V : VSt} {l : List WriteT} {x : SuperT}
theorem word_sealed (h : SuFit x) (hlen : l.length ≤ 24) : Sealed (VcF V l x) (headPr x) (proB V l x) (wordF V l x) :=
  (seal_fix (VhF V l) (headPr x) (proB V l x) h.p (proB_next V l x h hlen).1).seal (headSu x) (suB x) h.h (suB_size x h)
theorem su_sealed (h : SuFit x) : Sealed (VcF V l x) (headSu x) (suB x) (suF V l x) := seal_fix (VpF V l x) (headSu x) (suB x) h.h (suB_size x h)
theorem Sealed.commit {g : HeadT} {X raw : ByteArray} (k : Sealed V g X raw) (h : SuFit x) (hlen : l.length ≤ 24) : Sealed (VcF V l x) g X raw :=
  ((k.hash _).seal (headPr x) (proB V l x) h.p (proB_next V l x h hlen).1).seal (headSu x) (suB x) h.h (suB_size x h)
theorem Knows.commit {S : List ByteArray} (k : Knows V S) (h : SuFit x) (hlen : l.length ≤ 24) : Knows (VcF V l x) (S ++ [wordF V l x] ++ [suF V l x]) :=
  ((k.hash _).seal (headPr x) (proB V l x) h.p (proB_next V l x h hlen).1).seal (headSu x) (suB x) h.h (suB_size x h)
end
noncomputable def V0 : VSt := sealS s00 (headSu (supX 0)) (suB (supX 0))
noncomputable def raw00 : ByteArray := blkB (headSu (supX 0)) (suB (supX 0)) (sealC s00 (headSu (supX 0)) (suB (supX 0)))
noncomputable def V1 (old : List WriteT) : VSt := VcF V0 old (supX 1)
noncomputable def V2 (old new : List WriteT) : VSt := VcF (V1 old) new (supX 2)
theorem known_two (old new : List WriteT) (ho : old.length ≤ 24) (hn : new.length ≤ 24) :
    Known (V2 old new) new raw00 (suF V0 old (supX 1)) (wordF V0 old (supX 1)) (suF (V1 old) new (supX 2)) (wordF (V1 old) new (supX 2)) (proB V0 old (supX 1)) (proB (V1 old) new (supX 2)) := by
  have k0 : Sealed V0 (headSu (supX 0)) (suB (supX 0)) raw00 := seal_fix s00 (headSu (supX 0)) (suB (supX 0)) fit0.h (suB_size _ fit0)
  have n0 : Knows V0 ([] ++ [raw00]) := knows_none.seal (headSu (supX 0)) (suB (supX 0)) fit0.h (suB_size _ fit0)
  obtain ⟨p1, p2⟩ := pos_new (V1 old).hs (bl (joinedL new))
  obtain ⟨q1, q2⟩ := pos_new (VpF (V1 old) new (supX 2)).es (sealedK (headSu (supX 2)).salt (nonceB (headSu (supX 2))) (bl (headL (headSu (supX 2)))) (suB (supX 2)))
  refine ⟨(k0.commit fit1 ho).commit fit2 hn, (su_sealed fit1).commit fit2 hn, su_sealed fit2, (word_sealed fit1 ho).commit fit2 hn, (proB_next V0 old _ fit1 ho).2, word_sealed fit2 hn, (proB_next (V1 old) new _ fit2 hn).2, (proB_parts (V1 old) new _ fit2 hn).1,
    ⟨cntN (V1 old).hs (bl (joinedL new)) - 1, p1, ?_⟩, (n0.commit fit1 ho).commit fit2 hn, ⟨_, q1, ?_⟩⟩
  · rw [(proB_parts (V1 old) new _ fit2 hn).2, Nat.sub_add_cancel p2]
  · rw [Nat.sub_add_cancel q2]
    rfl
end Go.Proofs.YtaiocnpecaecdaaGreatDoor.V
namespace Go.Proofs.YtaiocnpecaecdaaGreatDoor.V
open Go.Proofs.YtaiocnpecaecdaaGreatDoor.VL Go.Proofs.YtaiocnpecaecdaaGreatDoor.VL.RD Go.Proofs.YtaiocnpecaecdaaGreatDoor.VL.Sha
attribute [local irreducible] Run numB
theorem putG_up {k : Int} (G : List WriteT) : ∀ {n : Nat} {d : PSt}, Up n k d → n + 8 * G.length < 90000 → (∀ w ∈ G, Fits k w) → ∃ d', putG (d, 0) G = (d', 0) ∧ Up (n + 8 * G.length) k d' := by
  induction G with
  | nil => intro n d h _ _; exact ⟨d, rfl, h⟩
  | cons w G ih =>
    intro n d h hn hf
    rw [List.length_cons] at hn ⊢
    have hw := hf w List.mem_cons_self
    obtain ⟨d1, e1, u1, _, _⟩ := h.put (by omega) w.at_ hw.a0 hw.a1 w.raw hw.sz
    obtain ⟨d2, e2, u2⟩ := ih u1 (by omega) (fun u hu => hf u (List.mem_cons_of_mem _ hu))
    refine ⟨d2, ?_, u2.mono (by omega)⟩
    show putG (dput (d, 0) w.at_ w.raw) G = _
    rw [e1, e2]
theorem runG_up {k : Int} (Gs : List (List WriteT)) : ∀ {n : Nat} {d : PSt}, Up n k d → n + 8 * lenG Gs < 90000 → (∀ G ∈ Gs, ∀ w ∈ G, Fits k w) → ∃ d', runG (d, 0) Gs = (d', 0) ∧ Up (n + 8 * lenG Gs) k d' := by
  induction Gs with
  | nil => intro n d h _ _; exact ⟨d, rfl, h⟩
  | cons G Gs ih =>
    intro n d h hn hf
    have eL : lenG (G :: Gs) = G.length + lenG Gs := rfl
    rw [eL] at hn ⊢
    obtain ⟨d1, e1, u1⟩ := putG_up G h (by omega) (hf G List.mem_cons_self)
    obtain ⟨d2, e2, u2, _⟩ := u1.flush
    obtain ⟨d3, e3, u3⟩ := ih u2 (by omega) (fun A hA => hf A (List.mem_cons_of_mem _ hA))
    refine ⟨d3, ?_, u3.mono (by omega)⟩
    show runG (dflush (putG (d, 0) G)) Gs = _
    rw [e1, e2, e3]
/-- Groups on a device whose power does not fail. -/
theorem Disk.run {k : Int} {n : Nat} {c : Int → ByteArray} {d : PSt} (h : Disk n k c d) (hf : d.fuse = -1) (Gs : List (List WriteT)) (hn : n + 8 * lenG Gs < 90000) (hG : ∀ G ∈ Gs, ∀ w ∈ G, Fits k w) :
    ∃ d', runG (d, 0) Gs = (d', 0) ∧ Disk (n + 8 * lenG Gs) k (aft c Gs) d' ∧ d'.fuse = -1 := by
  obtain ⟨d', e, u⟩ := runG_up Gs ⟨h.pw, h.sec, h.up, hf⟩ hn hG
  refine ⟨d', e, ?_, u.fuse⟩
  rcases crash Gs h (by omega) hG with ⟨_, hD⟩ | ⟨e2, _⟩
  · rw [e] at hD; exact hD
  · rw [e] at e2; exact absurd (show (0 : Int) = 20 from e2) (by decide)
theorem blank_disk : Disk 0 784 (fun _ => zeros64) (blank 784) := by
  refine ⟨PW.blank 784 (by decide), rfl, rfl, rfl, fun j h0 h1 => ?_⟩
  unfold heldF
  have e1 : (blank 784).sectors = 784 := rfl
  have e2 : (blank 784).dumb.getD j.toNat false = false := by
    show (List.replicate 784 false).getD j.toNat false = false
    rw [List.getD_eq_getElem?_getD, List.getElem?_replicate]
    split <;> rfl
  have e3 : (blank 784).held.getD j.toNat ⟨#[]⟩ = ⟨#[]⟩ := by
    show (List.replicate 784 (⟨#[]⟩ : ByteArray)).getD j.toNat ⟨#[]⟩ = ⟨#[]⟩
    rw [List.getD_eq_getElem?_getD, List.getElem?_replicate]
    split <;> rfl
  rw [e1, if_neg (by omega), e2, if_neg (by decide), e3, if_pos rfl]
theorem one_single (w : WriteT) : OneG [w] := by
  intro a ha b hb _
  rw [List.mem_singleton.1 ha, List.mem_singleton.1 hb]
/-- Format. -/
theorem fmt_groups (d : PSt) (z r : ByteArray) : dflush (dput (dflush (dput (dput (d, 0) (1 - 0) z) 2 z)) 0 r) = runG (d, 0) [[⟨1, z⟩, ⟨2, z⟩], [⟨0, r⟩]] := rfl
theorem fmt_run : formatM idealP (blank 784) s00 (supX 0) = (stopF (runG (blank 784, 0) [[⟨1, blankB⟩, ⟨2, blankB⟩], [⟨0, raw00⟩]]).2, (runG (blank 784, 0) [[⟨1, blankB⟩, ⟨2, blankB⟩], [⟨0, raw00⟩]]).1, V0) := by
  have p2 : superM idealP s00 (supX 0) = ((⟨0, raw00⟩, 0), V0) := by
    have eb : bsealF s00 (headSu (supX 0)) (bl (superL (supX 0))) = ((raw00, 0), V0) := bsealF_ok s00 _ _ (suB_size _ fit0) fit0.h
    unfold superM
    rw [super_ok (supX 0) fit0.r fit0.f, if_neg (fun h => h rfl)]
    show (if (bsealF s00 (headSu (supX 0)) (bl (superL (supX 0)))).1.2 ≠ 0 then _ else _) = _
    rw [eb, if_neg (fun h => h rfl)]
    show ((((⟨(supX 0).epoch % 2, (bsealF s00 (headSu (supX 0)) (bl (superL (supX 0)))).1.1⟩ : WriteT), (0 : Int)), (bsealF s00 (headSu (supX 0)) (bl (superL (supX 0)))).2) : (WriteT × Int) × VSt) = _
    rw [eb]
    rfl
  unfold formatM
  rw [live784 (blank 784) rfl, if_neg]
  · dsimp only
    rw [p2]
    dsimp only
    rw [if_neg (fun h => h rfl), fmt_groups]
    rfl
  · rintro (h | h)
    · exact h rfl
    · exact h rfl
theorem fits_one {a : Int} {raw : ByteArray} (h0 : 0 ≤ a) (h1 : a * 8 + 8 ≤ 784) (hz : raw.size = 512) : ∀ w ∈ ([⟨a, raw⟩] : List WriteT), Fits 784 w := fun w hw => by
  obtain rfl := List.mem_singleton.1 hw
  exact ⟨h0, h1, hz⟩
theorem fmt_disk : ∃ d c, formatM idealP (blank 784) s00 (supX 0) = (0, d, V0) ∧ Disk 24 784 c d ∧ d.fuse = -1 ∧ blkC c 0 raw00 := by
  have hz : raw00.size = 512 := (seal_fix s00 (headSu (supX 0)) (suB (supX 0)) fit0.h (suB_size _ fit0)).sz
  obtain ⟨d, e, hD, hf⟩ := blank_disk.run rfl [[⟨1, blankB⟩, ⟨2, blankB⟩], [⟨0, raw00⟩]] (by decide) (by
    intro G hG
    rcases List.mem_cons.1 hG with rfl | hG
    · intro w hw
      rcases List.mem_cons.1 hw with rfl | hw
      · exact ⟨by show (0 : Int) ≤ 1; decide, by show (1 : Int) * 8 + 8 ≤ 784; decide, blankB_sz⟩
      · exact fits_one (by decide) (by decide) blankB_sz w hw
    · obtain rfl := List.mem_singleton.1 hG
      exact fits_one (by decide) (by decide) hz)
  refine ⟨d, _, ?_, hD, hf, updG_here _ [⟨0, raw00⟩] (one_single _) ⟨0, raw00⟩ (List.mem_singleton.2 rfl)⟩
  rw [fmt_run, e]
  rfl
theorem recs_at {l : List WriteT} (hlen : l.length ≤ 24) {w : WriteT} (h : w ∈ recsW 3 l) : 3 ≤ w.at_ ∧ w.at_ ≤ 26 := by
  obtain ⟨i, hi, e, _⟩ := recsW_mem h
  omega
theorem recs_one (l : List WriteT) : OneG (recsW 3 l) := by
  intro w hw u hu e
  obtain ⟨i, hi, e1, a, ha, e2⟩ := recsW_mem hw
  obtain ⟨j, hj, e3, b, hb, e4⟩ := recsW_mem hu
  obtain rfl : i = j := by omega
  rw [ha] at hb
  rw [e2, e4, Option.some.inj hb]
theorem len_recs (base : Int) (l : List WriteT) : (recsW base l).length = l.length := by
  induction l generalizing base with
  | nil => rfl
  | cons w l ih => show (recsW (base + 1) l).length + 1 = _; rw [ih]; rfl
structure Comm (l : List WriteT) (word raw : ByteArray) : Prop where
  may : mayF 48 l = true
  len : l.length ≤ 24
  wz : word.size = 512
  rz : raw.size = 512
def grpC (l : List WriteT) (word : ByteArray) (e : Int) (raw : ByteArray) : List (List WriteT) := [recsW 3 l, [⟨2, word⟩], l, [⟨e, raw⟩]]
section
variable {l : List WriteT} {word raw : ByteArray}
theorem Comm.one (h : Comm l word raw) : (∀ w ∈ l, MayW w) ∧ OneG l := by
  obtain ⟨a, b⟩ := may_all l 26 (by decide) h.may
  exact ⟨fun w hw => (a w hw).1, b⟩
theorem Comm.fits (h : Comm l word raw) (e : Int) (e0 : 0 ≤ e) (e1 : e ≤ 1) : ∀ G ∈ grpC l word e raw, ∀ w ∈ G, Fits 784 w := by
  have hl := h.len
  intro G hG
  unfold grpC at hG
  simp only [List.mem_cons, List.not_mem_nil, or_false] at hG
  rcases hG with rfl | rfl | rfl | rfl
  · intro w hw
    have ha := recs_at hl hw
    obtain ⟨i, hi, e1, a, hx, e2⟩ := recsW_mem hw
    exact ⟨by omega, by omega, by rw [e2]; exact (h.one.1 a (List.mem_of_getElem? hx)).sz⟩
  · exact fits_one (by decide) (by decide) h.wz
  · exact fun w hw => (h.one.1 w hw).fits
  · exact fits_one e0 (by omega) h.rz
theorem Comm.len4 (h : Comm l word raw) (e : Int) : lenG (grpC l word e raw) ≤ 50 := by
  have hl := h.len
  have : lenG (grpC l word e raw) = (recsW 3 l).length + (1 + (l.length + (1 + 0))) := rfl
  rw [this, len_recs]
  omega
theorem one_ne {a b : Int} {r : ByteArray} (h : a ≠ b) : ∀ w ∈ ([⟨a, r⟩] : List WriteT), w.at_ ≠ b := fun w hw => by
  obtain rfl := List.mem_singleton.1 hw
  exact h
/-- Blocks that a group does not touch. -/
theorem recs_ne (h : Comm l word raw) {b : Int} (hb : b ≤ 2 ∨ 27 ≤ b) : ∀ w ∈ recsW 3 l, w.at_ ≠ b := fun w hw => by
  have := recs_at h.len hw
  omega
theorem pl_ne (h : Comm l word raw) {b : Int} (hb : b ≤ 26) : ∀ w ∈ l, w.at_ ≠ b := fun w hw => by
  have := (h.one.1 w hw).a0
  omega
/-- The disk behind the first one, two, three, all groups. -/
theorem Comm.all (h : Comm l word raw) (c : Int → ByteArray) (e : Int) (e0 : 0 ≤ e) (e1 : e ≤ 1) :
    (∀ b x, b = 1 - e → blkC c b x → blkC (aft c (grpC l word e raw)) b x) ∧ blkC (aft c (grpC l word e raw)) e raw ∧ blkC (aft c (grpC l word e raw)) 2 word ∧ (∀ w ∈ l, blkC (aft c (grpC l word e raw)) w.at_ w.raw) ∧
    ∀ (i : Nat) (u : WriteT), l[i]? = some u → blkC (aft c (grpC l word e raw)) (3 + i) u.raw := by
  have hl := h.len
  have ea : aft c (grpC l word e raw) = updC (updC (updC (updC c (secG (recsW 3 l))) (secG [⟨2, word⟩])) (secG l)) (secG [⟨e, raw⟩]) := rfl
  rw [ea]
  refine ⟨fun b x hb hx => ?_, updG_here _ _ (one_single _) ⟨e, raw⟩ (List.mem_singleton.2 rfl), ?_, fun w hw => ?_, fun i u hu => ?_⟩
  · exact updG_blk _ _ b x (one_ne (by omega)) (updG_blk _ _ b x (pl_ne h (by omega)) (updG_blk _ _ b x (one_ne (by omega)) (updG_blk _ _ b x (recs_ne h (by omega)) hx)))
  · exact updG_blk _ _ 2 word (one_ne (by omega)) (updG_blk _ _ 2 word (pl_ne h (by decide)) (updG_here _ _ (one_single _) ⟨2, word⟩ (List.mem_singleton.2 rfl)))
  · have := (h.one.1 w hw).a0
    exact updG_blk _ _ w.at_ w.raw (one_ne (by omega)) (updG_here _ l h.one.2 w hw)
  · have hi := (List.getElem?_eq_some_iff.1 hu).1
    exact updG_blk _ _ (3 + i) u.raw (one_ne (by omega)) (updG_blk _ _ (3 + i) u.raw (pl_ne h (by omega)) (updG_blk _ _ (3 + i) u.raw (one_ne (by omega)) (updG_here _ _ (recs_one l) ⟨3 + i, u.raw⟩ (recsW_get hu))))
end
end Go.Proofs.YtaiocnpecaecdaaGreatDoor.V
