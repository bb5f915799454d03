/- keyring.slot. -/
import Derived.Test.YtibookgcaboldaaKZa
import Derived.Test.YtibookgcaboldaaVLc
import Derived.Test.YtibookgcaboldaaKYc
set_option maxRecDepth 10000
set_option linter.unusedVariables false
namespace Go.Proofs.Ytibookgcaboldaa.V
open Go.Proofs.Ytibookgcaboldaa.VL Go.Proofs.Ytibookgcaboldaa.VL.Sha
attribute [local irreducible] Run
theorem part_spec (q : View) (bs ba o n : Nat) (s : ByteArray) (ho : Old q bs 0 [.string s]) (h : o + n ≤ s.size) (hs : s.size ≤ 1000000) :
    FnD Try.prog q 86 [.int .i64 (n : Int), .pointer (some ⟨bs, 0, none⟩), .pointer (some ⟨ba, 0, none⟩)] [cells ba 3 ⟨[.int .i64 (o : Int)]⟩] (.string (s.extract o (o + n))) [cells ba 3 ⟨[.int .i64 ((o + n : Nat) : Int)]⟩] := by
  (first | refine FnD.go Try.call86 Try.func86 rfl rfl rfl ?_ | refine FnX.go Try.call86 Try.func86 rfl rfl rfl ?_)
  (repeat (first | refine g ?_))
  refine s_loado (j := 0) ho rfl ?_
  (repeat (first | refine g ?_))
  rw [show ((o : Int) + (n : Int)) = ((o + n : Nat) : Int) from (Int.natCast_add o n).symm, Int.toNat_natCast, Int.toNat_natCast]
  exact run_ret rfl (imp_RD rfl shut)
/-- The slot that bytes are, as it is read. -/
def slotX (s : ByteArray) : SlotT := ⟨decide (bAt s 0 = 1), (lev s.data.toList 1 4 : Nat), s.extract 5 21, s.extract 21 33, s.extract 33 81⟩
def slotP (s : ByteArray) : SlotT × Bool :=
  if s = bl (List.replicate 96 0) then (zeroS, true) else (slotX s, (slotX s).used && (rightF (slotX s) && decide (bl (slotL (slotX s)) = s)))
theorem slotX_ok (s : ByteArray) (hz : s.size ≤ 1000000) : SlotOk (slotX s) := by
  have h := lev_lt s.data.toList 1 4
  have e : (256 : Nat) ^ 4 = 4294967296 := by decide
  refine ⟨?_, ?_, ?_, ?_, ?_⟩
  · show _ ≤ ((lev s.data.toList 1 4 : Nat) : Int); omega
  · show ((lev s.data.toList 1 4 : Nat) : Int) ≤ _; omega
  · show (s.extract 5 21).size ≤ _; rw [ByteArray.size_extract]; omega
  · show (s.extract 21 33).size ≤ _; rw [ByteArray.size_extract]; omega
  · show (s.extract 33 81).size ≤ _; rw [ByteArray.size_extract]; omega
theorem slot_spec (q : View) (s : ByteArray) (hz : s.size = 96) : FnD Try.prog q 59 [.string s] [] (.tuple #[.agg ⟨encS (slotP s).1⟩, .bool (slotP s).2]) [] := by
  unfold slotP
  (first | refine FnD.go Try.call59 Try.func59 rfl rfl rfl ?_ | refine FnX.go Try.call59 Try.func59 rfl rfl rfl ?_)
  (repeat (first | refine g ?_))
  refine s_box fun bs => ?_
  (repeat (first | refine g ?_))
  refine s_alloc fun r2 => ?_
  (repeat (first | refine g ?_))
  refine run_keep (b := bs) (t := 9) (l := [.string s]) (fun q' hs ho => ?_) (by repeat (first | exact Pull.head | apply Pull.tail))
  have c96 := repeat96 q'
  refine d_start [] ?_
  refine d_loado 0 (j := 0) ho rfl ?_
  refine d_call 1 c96 ?_
  (first | refine d_pure 2 ?_ | refine d_load 2 ?_ | refine d_arith 2 ?_ | refine d_rem 2 ?_ | refine d_quo 2 ?_ | refine d_shrv 2 ?_ | refine d_fieldat 2 ?_ | refine d_idx1 2 ?_ | refine d_index 2 ?_ | refine d_conv64 2 ?_ | refine d_slices 2 ?_ | refine d_concat 2 ?_ | refine d_build 2 ?_)
  refine d_done ?_
  by_cases h0 : s = bl (List.replicate 96 0)
  · rw [if_pos h0]
    (repeat (first | refine g ?_))
    refine run_ret2 (imp_RD ?_ shut) rfl (res_cell tabOk rfl rfl rfl (by repeat (first | (with_reducible exact At.head) | apply At.tail)) rfl) (res_tmp rfl)
    rfl
  · rw [if_neg h0]
    have cg := get_spec q' s 1 4 (by decide) (by decide) (by omega) (by omega)
    have hok := slotX_ok s (by omega)
    obtain ⟨⟨u, m, x1, x2, x3⟩, hX⟩ : ∃ X, X = slotX s := ⟨_, rfl⟩
    rw [← hX] at hok ⊢
    (repeat (first | refine g ?_))
    refine s_loado (j := 0) ho rfl ?_
    (repeat (first | refine g ?_))
    refine s_call cg ?_
    (repeat (first | refine g ?_))
    refine s_alloc fun ba => ?_
    have p1 : FnD Try.prog q' 86 [.int .i64 16, .pointer (some ⟨bs, 0, none⟩), .pointer (some ⟨ba, 0, none⟩)] [cells ba 3 ⟨[.int .i64 5]⟩] (.string (s.extract 5 21)) [cells ba 3 ⟨[.int .i64 21]⟩] := part_spec q' bs ba 5 16 s ho (by omega) (by omega)
    have p2 : FnD Try.prog q' 86 [.int .i64 12, .pointer (some ⟨bs, 0, none⟩), .pointer (some ⟨ba, 0, none⟩)] [cells ba 3 ⟨[.int .i64 21]⟩] (.string (s.extract 21 33)) [cells ba 3 ⟨[.int .i64 33]⟩] := part_spec q' bs ba 21 12 s ho (by omega) (by omega)
    have p3 : FnD Try.prog q' 86 [.int .i64 48, .pointer (some ⟨bs, 0, none⟩), .pointer (some ⟨ba, 0, none⟩)] [cells ba 3 ⟨[.int .i64 33]⟩] (.string (s.extract 33 81)) [cells ba 3 ⟨[.int .i64 81]⟩] := part_spec q' bs ba 33 48 s ho (by omega) (by omega)
    (repeat (first | refine g ?_))
    refine d_start [cells ba 3 ⟨[.int .i64 5]⟩] ?_
    refine d_loado 0 (j := 0) ho rfl ?_
    (first | refine d_pure 1 ?_ | refine d_load 1 ?_ | refine d_arith 1 ?_ | refine d_rem 1 ?_ | refine d_quo 1 ?_ | refine d_shrv 1 ?_ | refine d_fieldat 1 ?_ | refine d_idx1 1 ?_ | refine d_index 1 ?_ | refine d_conv64 1 ?_ | refine d_slices 1 ?_ | refine d_concat 1 ?_ | refine d_build 1 ?_)
    (first | refine d_pure 2 ?_ | refine d_load 2 ?_ | refine d_arith 2 ?_ | refine d_rem 2 ?_ | refine d_quo 2 ?_ | refine d_shrv 2 ?_ | refine d_fieldat 2 ?_ | refine d_idx1 2 ?_ | refine d_index 2 ?_ | refine d_conv64 2 ?_ | refine d_slices 2 ?_ | refine d_concat 2 ?_ | refine d_build 2 ?_)
    (first | refine d_pure 3 ?_ | refine d_load 3 ?_ | refine d_arith 3 ?_ | refine d_rem 3 ?_ | refine d_quo 3 ?_ | refine d_shrv 3 ?_ | refine d_fieldat 3 ?_ | refine d_idx1 3 ?_ | refine d_index 3 ?_ | refine d_conv64 3 ?_ | refine d_slices 3 ?_ | refine d_concat 3 ?_ | refine d_build 3 ?_)
    (first | refine d_pure 4 ?_ | refine d_load 4 ?_ | refine d_arith 4 ?_ | refine d_rem 4 ?_ | refine d_quo 4 ?_ | refine d_shrv 4 ?_ | refine d_fieldat 4 ?_ | refine d_idx1 4 ?_ | refine d_index 4 ?_ | refine d_conv64 4 ?_ | refine d_slices 4 ?_ | refine d_concat 4 ?_ | refine d_build 4 ?_)
    (first | refine d_pure 6 ?_ | refine d_load 6 ?_ | refine d_arith 6 ?_ | refine d_rem 6 ?_ | refine d_quo 6 ?_ | refine d_shrv 6 ?_ | refine d_fieldat 6 ?_ | refine d_idx1 6 ?_ | refine d_index 6 ?_ | refine d_conv64 6 ?_ | refine d_slices 6 ?_ | refine d_concat 6 ?_ | refine d_build 6 ?_)
    (first | refine d_pure 8 ?_ | refine d_load 8 ?_ | refine d_arith 8 ?_ | refine d_rem 8 ?_ | refine d_quo 8 ?_ | refine d_shrv 8 ?_ | refine d_fieldat 8 ?_ | refine d_idx1 8 ?_ | refine d_index 8 ?_ | refine d_conv64 8 ?_ | refine d_slices 8 ?_ | refine d_concat 8 ?_ | refine d_build 8 ?_)
    refine d_two 5 11 ?_ ?_
    · refine d_ovia1 5 (h1 := by refine s_call p1 ?_; exact run_fin1) (h := ?_)
      refine d_two 7 11 ?_ ?_
      · refine d_ovia1 7 (h1 := by refine s_call p2 ?_; exact run_fin1) (h := ?_)
        refine d_two 9 11 ?_ ?_
        · refine d_ovia1 9 (h1 := by refine s_call p3 ?_; exact run_fin1) (h := ?_)
          (first | refine d_pure 10 ?_ | refine d_load 10 ?_ | refine d_arith 10 ?_ | refine d_rem 10 ?_ | refine d_quo 10 ?_ | refine d_shrv 10 ?_ | refine d_fieldat 10 ?_ | refine d_idx1 10 ?_ | refine d_index 10 ?_ | refine d_conv64 10 ?_ | refine d_slices 10 ?_ | refine d_concat 10 ?_ | refine d_build 10 ?_)
          refine d_via 11 (X := Nat) (h1 := by refine s_alloc fun r => ?_; exact run_fin r) (h := fun b8 => ?_)
          refine d_via1 12 (h1 := by refine s_store ?_; exact run_fin1) (h := ?_)
          refine d_done ?_
          (repeat (first | refine g ?_))
          refine s_ceq b8 (encS ⟨u, m, x1, x2, x3⟩) ?_ ?_
          · rw [hX]; rfl
          refine s_ceq r2 (encS zeroS) ?_ ?_
          · rfl
          have c1 := right_spec q' ⟨u, m, x1, x2, x3⟩ hok
          cases u with
          | false =>
            refine d_start [cells r2 23 ⟨encS zeroS⟩] ?_
            refine d_getall 0 rfl ?_
            (first | refine d_pure 1 ?_ | refine d_load 1 ?_ | refine d_arith 1 ?_ | refine d_rem 1 ?_ | refine d_quo 1 ?_ | refine d_shrv 1 ?_ | refine d_fieldat 1 ?_ | refine d_idx1 1 ?_ | refine d_index 1 ?_ | refine d_conv64 1 ?_ | refine d_slices 1 ?_ | refine d_concat 1 ?_ | refine d_build 1 ?_)
            (first | refine d_pure 2 ?_ | refine d_load 2 ?_ | refine d_arith 2 ?_ | refine d_rem 2 ?_ | refine d_quo 2 ?_ | refine d_shrv 2 ?_ | refine d_fieldat 2 ?_ | refine d_idx1 2 ?_ | refine d_index 2 ?_ | refine d_conv64 2 ?_ | refine d_slices 2 ?_ | refine d_concat 2 ?_ | refine d_build 2 ?_)
            (first | refine d_pure 3 ?_ | refine d_load 3 ?_ | refine d_arith 3 ?_ | refine d_rem 3 ?_ | refine d_quo 3 ?_ | refine d_shrv 3 ?_ | refine d_fieldat 3 ?_ | refine d_idx1 3 ?_ | refine d_index 3 ?_ | refine d_conv64 3 ?_ | refine d_slices 3 ?_ | refine d_concat 3 ?_ | refine d_build 3 ?_)
            (refine d_pure 4 ?_)
            refine d_skip 5 ?_
            (first | refine d_pure 6 ?_ | refine d_load 6 ?_ | refine d_arith 6 ?_ | refine d_rem 6 ?_ | refine d_quo 6 ?_ | refine d_shrv 6 ?_ | refine d_fieldat 6 ?_ | refine d_idx1 6 ?_ | refine d_index 6 ?_ | refine d_conv64 6 ?_ | refine d_slices 6 ?_ | refine d_concat 6 ?_ | refine d_build 6 ?_)
            (first | refine d_pure 7 ?_ | refine d_load 7 ?_ | refine d_arith 7 ?_ | refine d_rem 7 ?_ | refine d_quo 7 ?_ | refine d_shrv 7 ?_ | refine d_fieldat 7 ?_ | refine d_idx1 7 ?_ | refine d_index 7 ?_ | refine d_conv64 7 ?_ | refine d_slices 7 ?_ | refine d_concat 7 ?_ | refine d_build 7 ?_)
            (refine d_pure 8 ?_)
            (refine d_pure 10 ?_)
            refine d_skip 9 ?_
            (first | refine d_pure 11 ?_ | refine d_load 11 ?_ | refine d_arith 11 ?_ | refine d_rem 11 ?_ | refine d_quo 11 ?_ | refine d_shrv 11 ?_ | refine d_fieldat 11 ?_ | refine d_idx1 11 ?_ | refine d_index 11 ?_ | refine d_conv64 11 ?_ | refine d_slices 11 ?_ | refine d_concat 11 ?_ | refine d_build 11 ?_)
            (first | refine d_pure 12 ?_ | refine d_load 12 ?_ | refine d_arith 12 ?_ | refine d_rem 12 ?_ | refine d_quo 12 ?_ | refine d_shrv 12 ?_ | refine d_fieldat 12 ?_ | refine d_idx1 12 ?_ | refine d_index 12 ?_ | refine d_conv64 12 ?_ | refine d_slices 12 ?_ | refine d_concat 12 ?_ | refine d_build 12 ?_)
            refine d_via1 13 (h1 := by refine s_putall (h1 := by rfl) (hz := by rfl) (hi := by rfl) ?_; exact run_fin1) (h := ?_)
            (first | refine d_pure 14 ?_ | refine d_load 14 ?_ | refine d_arith 14 ?_ | refine d_rem 14 ?_ | refine d_quo 14 ?_ | refine d_shrv 14 ?_ | refine d_fieldat 14 ?_ | refine d_idx1 14 ?_ | refine d_index 14 ?_ | refine d_conv64 14 ?_ | refine d_slices 14 ?_ | refine d_concat 14 ?_ | refine d_build 14 ?_)
            refine d_done ?_
            (repeat (first | refine g ?_))
            refine run_ret2 (imp_RD ?_ shut) rfl (res_cell tabOk rfl rfl rfl (by repeat (first | (with_reducible exact At.head) | apply At.tail)) rfl) (res_tmp rfl)
            rfl
          | true =>
            cases hr : rightF ⟨true, m, x1, x2, x3⟩ with
            | false =>
              rw [hr] at c1
              refine d_start [cells r2 23 ⟨encS zeroS⟩] ?_
              refine d_getall 0 rfl ?_
              (first | refine d_pure 1 ?_ | refine d_load 1 ?_ | refine d_arith 1 ?_ | refine d_rem 1 ?_ | refine d_quo 1 ?_ | refine d_shrv 1 ?_ | refine d_fieldat 1 ?_ | refine d_idx1 1 ?_ | refine d_index 1 ?_ | refine d_conv64 1 ?_ | refine d_slices 1 ?_ | refine d_concat 1 ?_ | refine d_build 1 ?_)
              (first | refine d_pure 2 ?_ | refine d_load 2 ?_ | refine d_arith 2 ?_ | refine d_rem 2 ?_ | refine d_quo 2 ?_ | refine d_shrv 2 ?_ | refine d_fieldat 2 ?_ | refine d_idx1 2 ?_ | refine d_index 2 ?_ | refine d_conv64 2 ?_ | refine d_slices 2 ?_ | refine d_concat 2 ?_ | refine d_build 2 ?_)
              (first | refine d_pure 3 ?_ | refine d_load 3 ?_ | refine d_arith 3 ?_ | refine d_rem 3 ?_ | refine d_quo 3 ?_ | refine d_shrv 3 ?_ | refine d_fieldat 3 ?_ | refine d_idx1 3 ?_ | refine d_index 3 ?_ | refine d_conv64 3 ?_ | refine d_slices 3 ?_ | refine d_concat 3 ?_ | refine d_build 3 ?_)
              refine d_getall 4 rfl ?_
              refine d_call 5 c1 ?_
              (first | refine d_pure 6 ?_ | refine d_load 6 ?_ | refine d_arith 6 ?_ | refine d_rem 6 ?_ | refine d_quo 6 ?_ | refine d_shrv 6 ?_ | refine d_fieldat 6 ?_ | refine d_idx1 6 ?_ | refine d_index 6 ?_ | refine d_conv64 6 ?_ | refine d_slices 6 ?_ | refine d_concat 6 ?_ | refine d_build 6 ?_)
              (first | refine d_pure 7 ?_ | refine d_load 7 ?_ | refine d_arith 7 ?_ | refine d_rem 7 ?_ | refine d_quo 7 ?_ | refine d_shrv 7 ?_ | refine d_fieldat 7 ?_ | refine d_idx1 7 ?_ | refine d_index 7 ?_ | refine d_conv64 7 ?_ | refine d_slices 7 ?_ | refine d_concat 7 ?_ | refine d_build 7 ?_)
              (refine d_pure 8 ?_)
              (refine d_pure 10 ?_)
              refine d_skip 9 ?_
              (first | refine d_pure 11 ?_ | refine d_load 11 ?_ | refine d_arith 11 ?_ | refine d_rem 11 ?_ | refine d_quo 11 ?_ | refine d_shrv 11 ?_ | refine d_fieldat 11 ?_ | refine d_idx1 11 ?_ | refine d_index 11 ?_ | refine d_conv64 11 ?_ | refine d_slices 11 ?_ | refine d_concat 11 ?_ | refine d_build 11 ?_)
              (first | refine d_pure 12 ?_ | refine d_load 12 ?_ | refine d_arith 12 ?_ | refine d_rem 12 ?_ | refine d_quo 12 ?_ | refine d_shrv 12 ?_ | refine d_fieldat 12 ?_ | refine d_idx1 12 ?_ | refine d_index 12 ?_ | refine d_conv64 12 ?_ | refine d_slices 12 ?_ | refine d_concat 12 ?_ | refine d_build 12 ?_)
              refine d_via1 13 (h1 := by refine s_putall (h1 := by rfl) (hz := by rfl) (hi := by rfl) ?_; exact run_fin1) (h := ?_)
              (first | refine d_pure 14 ?_ | refine d_load 14 ?_ | refine d_arith 14 ?_ | refine d_rem 14 ?_ | refine d_quo 14 ?_ | refine d_shrv 14 ?_ | refine d_fieldat 14 ?_ | refine d_idx1 14 ?_ | refine d_index 14 ?_ | refine d_conv64 14 ?_ | refine d_slices 14 ?_ | refine d_concat 14 ?_ | refine d_build 14 ?_)
              refine d_done ?_
              (repeat (first | refine g ?_))
              refine run_ret2 (imp_RD ?_ shut) rfl (res_cell tabOk rfl rfl rfl (by repeat (first | (with_reducible exact At.head) | apply At.tail)) rfl) (res_tmp rfl)
              rfl
            | true =>
              rw [hr] at c1
              have cl := laid_spec q' ⟨true, m, x1, x2, x3⟩ hr
              refine d_start [cells r2 23 ⟨encS zeroS⟩] ?_
              refine d_getall 0 rfl ?_
              (first | refine d_pure 1 ?_ | refine d_load 1 ?_ | refine d_arith 1 ?_ | refine d_rem 1 ?_ | refine d_quo 1 ?_ | refine d_shrv 1 ?_ | refine d_fieldat 1 ?_ | refine d_idx1 1 ?_ | refine d_index 1 ?_ | refine d_conv64 1 ?_ | refine d_slices 1 ?_ | refine d_concat 1 ?_ | refine d_build 1 ?_)
              (first | refine d_pure 2 ?_ | refine d_load 2 ?_ | refine d_arith 2 ?_ | refine d_rem 2 ?_ | refine d_quo 2 ?_ | refine d_shrv 2 ?_ | refine d_fieldat 2 ?_ | refine d_idx1 2 ?_ | refine d_index 2 ?_ | refine d_conv64 2 ?_ | refine d_slices 2 ?_ | refine d_concat 2 ?_ | refine d_build 2 ?_)
              (first | refine d_pure 3 ?_ | refine d_load 3 ?_ | refine d_arith 3 ?_ | refine d_rem 3 ?_ | refine d_quo 3 ?_ | refine d_shrv 3 ?_ | refine d_fieldat 3 ?_ | refine d_idx1 3 ?_ | refine d_index 3 ?_ | refine d_conv64 3 ?_ | refine d_slices 3 ?_ | refine d_concat 3 ?_ | refine d_build 3 ?_)
              refine d_getall 4 rfl ?_
              refine d_call 5 c1 ?_
              (first | refine d_pure 6 ?_ | refine d_load 6 ?_ | refine d_arith 6 ?_ | refine d_rem 6 ?_ | refine d_quo 6 ?_ | refine d_shrv 6 ?_ | refine d_fieldat 6 ?_ | refine d_idx1 6 ?_ | refine d_index 6 ?_ | refine d_conv64 6 ?_ | refine d_slices 6 ?_ | refine d_concat 6 ?_ | refine d_build 6 ?_)
              (first | refine d_pure 7 ?_ | refine d_load 7 ?_ | refine d_arith 7 ?_ | refine d_rem 7 ?_ | refine d_quo 7 ?_ | refine d_shrv 7 ?_ | refine d_fieldat 7 ?_ | refine d_idx1 7 ?_ | refine d_index 7 ?_ | refine d_conv64 7 ?_ | refine d_slices 7 ?_ | refine d_concat 7 ?_ | refine d_build 7 ?_)
              refine d_getall 8 rfl ?_
              refine d_loado 10 (j := 0) ho rfl ?_
              refine d_call 9 cl ?_
              (first | refine d_pure 11 ?_ | refine d_load 11 ?_ | refine d_arith 11 ?_ | refine d_rem 11 ?_ | refine d_quo 11 ?_ | refine d_shrv 11 ?_ | refine d_fieldat 11 ?_ | refine d_idx1 11 ?_ | refine d_index 11 ?_ | refine d_conv64 11 ?_ | refine d_slices 11 ?_ | refine d_concat 11 ?_ | refine d_build 11 ?_)
              (first | refine d_pure 12 ?_ | refine d_load 12 ?_ | refine d_arith 12 ?_ | refine d_rem 12 ?_ | refine d_quo 12 ?_ | refine d_shrv 12 ?_ | refine d_fieldat 12 ?_ | refine d_idx1 12 ?_ | refine d_index 12 ?_ | refine d_conv64 12 ?_ | refine d_slices 12 ?_ | refine d_concat 12 ?_ | refine d_build 12 ?_)
              refine d_via1 13 (h1 := by refine s_putall (h1 := by rfl) (hz := by rfl) (hi := by rfl) ?_; exact run_fin1) (h := ?_)
              (first | refine d_pure 14 ?_ | refine d_load 14 ?_ | refine d_arith 14 ?_ | refine d_rem 14 ?_ | refine d_quo 14 ?_ | refine d_shrv 14 ?_ | refine d_fieldat 14 ?_ | refine d_idx1 14 ?_ | refine d_index 14 ?_ | refine d_conv64 14 ?_ | refine d_slices 14 ?_ | refine d_concat 14 ?_ | refine d_build 14 ?_)
              refine d_done ?_
              (repeat (first | refine g ?_))
              refine run_ret2 (imp_RD ?_ shut) rfl (res_cell tabOk rfl rfl rfl (by repeat (first | (with_reducible exact At.head) | apply At.tail)) rfl) (res_tmp rfl)
              rfl
        · refine d_ovia 11 (X := Nat) (h1 := by refine s_alloc fun r => ?_; exact run_fin r) (h := fun b8 => ?_)
          refine d_via1 9 (h1 := by refine s_call p3 ?_; exact run_fin1) (h := ?_)
          (first | refine d_pure 10 ?_ | refine d_load 10 ?_ | refine d_arith 10 ?_ | refine d_rem 10 ?_ | refine d_quo 10 ?_ | refine d_shrv 10 ?_ | refine d_fieldat 10 ?_ | refine d_idx1 10 ?_ | refine d_index 10 ?_ | refine d_conv64 10 ?_ | refine d_slices 10 ?_ | refine d_concat 10 ?_ | refine d_build 10 ?_)
          refine d_via1 12 (h1 := by refine s_store ?_; exact run_fin1) (h := ?_)
          refine d_done ?_
          (repeat (first | refine g ?_))
          refine s_ceq b8 (encS ⟨u, m, x1, x2, x3⟩) ?_ ?_
          · rw [hX]; rfl
          refine s_ceq r2 (encS zeroS) ?_ ?_
          · rfl
          have c1 := right_spec q' ⟨u, m, x1, x2, x3⟩ hok
          cases u with
          | false =>
            refine d_start [cells r2 23 ⟨encS zeroS⟩] ?_
            refine d_getall 0 rfl ?_
            (first | refine d_pure 1 ?_ | refine d_load 1 ?_ | refine d_arith 1 ?_ | refine d_rem 1 ?_ | refine d_quo 1 ?_ | refine d_shrv 1 ?_ | refine d_fieldat 1 ?_ | refine d_idx1 1 ?_ | refine d_index 1 ?_ | refine d_conv64 1 ?_ | refine d_slices 1 ?_ | refine d_concat 1 ?_ | refine d_build 1 ?_)
            (first | refine d_pure 2 ?_ | refine d_load 2 ?_ | refine d_arith 2 ?_ | refine d_rem 2 ?_ | refine d_quo 2 ?_ | refine d_shrv 2 ?_ | refine d_fieldat 2 ?_ | refine d_idx1 2 ?_ | refine d_index 2 ?_ | refine d_conv64 2 ?_ | refine d_slices 2 ?_ | refine d_concat 2 ?_ | refine d_build 2 ?_)
            (first | refine d_pure 3 ?_ | refine d_load 3 ?_ | refine d_arith 3 ?_ | refine d_rem 3 ?_ | refine d_quo 3 ?_ | refine d_shrv 3 ?_ | refine d_fieldat 3 ?_ | refine d_idx1 3 ?_ | refine d_index 3 ?_ | refine d_conv64 3 ?_ | refine d_slices 3 ?_ | refine d_concat 3 ?_ | refine d_build 3 ?_)
            (refine d_pure 4 ?_)
            refine d_skip 5 ?_
            (first | refine d_pure 6 ?_ | refine d_load 6 ?_ | refine d_arith 6 ?_ | refine d_rem 6 ?_ | refine d_quo 6 ?_ | refine d_shrv 6 ?_ | refine d_fieldat 6 ?_ | refine d_idx1 6 ?_ | refine d_index 6 ?_ | refine d_conv64 6 ?_ | refine d_slices 6 ?_ | refine d_concat 6 ?_ | refine d_build 6 ?_)
            (first | refine d_pure 7 ?_ | refine d_load 7 ?_ | refine d_arith 7 ?_ | refine d_rem 7 ?_ | refine d_quo 7 ?_ | refine d_shrv 7 ?_ | refine d_fieldat 7 ?_ | refine d_idx1 7 ?_ | refine d_index 7 ?_ | refine d_conv64 7 ?_ | refine d_slices 7 ?_ | refine d_concat 7 ?_ | refine d_build 7 ?_)
            (refine d_pure 8 ?_)
            (refine d_pure 10 ?_)
            refine d_skip 9 ?_
            (first | refine d_pure 11 ?_ | refine d_load 11 ?_ | refine d_arith 11 ?_ | refine d_rem 11 ?_ | refine d_quo 11 ?_ | refine d_shrv 11 ?_ | refine d_fieldat 11 ?_ | refine d_idx1 11 ?_ | refine d_index 11 ?_ | refine d_conv64 11 ?_ | refine d_slices 11 ?_ | refine d_concat 11 ?_ | refine d_build 11 ?_)
            (first | refine d_pure 12 ?_ | refine d_load 12 ?_ | refine d_arith 12 ?_ | refine d_rem 12 ?_ | refine d_quo 12 ?_ | refine d_shrv 12 ?_ | refine d_fieldat 12 ?_ | refine d_idx1 12 ?_ | refine d_index 12 ?_ | refine d_conv64 12 ?_ | refine d_slices 12 ?_ | refine d_concat 12 ?_ | refine d_build 12 ?_)
            refine d_via1 13 (h1 := by refine s_putall (h1 := by rfl) (hz := by rfl) (hi := by rfl) ?_; exact run_fin1) (h := ?_)
            (first | refine d_pure 14 ?_ | refine d_load 14 ?_ | refine d_arith 14 ?_ | refine d_rem 14 ?_ | refine d_quo 14 ?_ | refine d_shrv 14 ?_ | refine d_fieldat 14 ?_ | refine d_idx1 14 ?_ | refine d_index 14 ?_ | refine d_conv64 14 ?_ | refine d_slices 14 ?_ | refine d_concat 14 ?_ | refine d_build 14 ?_)
            refine d_done ?_
            (repeat (first | refine g ?_))
            refine run_ret2 (imp_RD ?_ shut) rfl (res_cell tabOk rfl rfl rfl (by repeat (first | (with_reducible exact At.head) | apply At.tail)) rfl) (res_tmp rfl)
            rfl
          | true =>
            cases hr : rightF ⟨true, m, x1, x2, x3⟩ with
            | false =>
              rw [hr] at c1
              refine d_start [cells r2 23 ⟨encS zeroS⟩] ?_
              refine d_getall 0 rfl ?_
              (first | refine d_pure 1 ?_ | refine d_load 1 ?_ | refine d_arith 1 ?_ | refine d_rem 1 ?_ | refine d_quo 1 ?_ | refine d_shrv 1 ?_ | refine d_fieldat 1 ?_ | refine d_idx1 1 ?_ | refine d_index 1 ?_ | refine d_conv64 1 ?_ | refine d_slices 1 ?_ | refine d_concat 1 ?_ | refine d_build 1 ?_)
              (first | refine d_pure 2 ?_ | refine d_load 2 ?_ | refine d_arith 2 ?_ | refine d_rem 2 ?_ | refine d_quo 2 ?_ | refine d_shrv 2 ?_ | refine d_fieldat 2 ?_ | refine d_idx1 2 ?_ | refine d_index 2 ?_ | refine d_conv64 2 ?_ | refine d_slices 2 ?_ | refine d_concat 2 ?_ | refine d_build 2 ?_)
              (first | refine d_pure 3 ?_ | refine d_load 3 ?_ | refine d_arith 3 ?_ | refine d_rem 3 ?_ | refine d_quo 3 ?_ | refine d_shrv 3 ?_ | refine d_fieldat 3 ?_ | refine d_idx1 3 ?_ | refine d_index 3 ?_ | refine d_conv64 3 ?_ | refine d_slices 3 ?_ | refine d_concat 3 ?_ | refine d_build 3 ?_)
              refine d_getall 4 rfl ?_
              refine d_call 5 c1 ?_
              (first | refine d_pure 6 ?_ | refine d_load 6 ?_ | refine d_arith 6 ?_ | refine d_rem 6 ?_ | refine d_quo 6 ?_ | refine d_shrv 6 ?_ | refine d_fieldat 6 ?_ | refine d_idx1 6 ?_ | refine d_index 6 ?_ | refine d_conv64 6 ?_ | refine d_slices 6 ?_ | refine d_concat 6 ?_ | refine d_build 6 ?_)
              (first | refine d_pure 7 ?_ | refine d_load 7 ?_ | refine d_arith 7 ?_ | refine d_rem 7 ?_ | refine d_quo 7 ?_ | refine d_shrv 7 ?_ | refine d_fieldat 7 ?_ | refine d_idx1 7 ?_ | refine d_index 7 ?_ | refine d_conv64 7 ?_ | refine d_slices 7 ?_ | refine d_concat 7 ?_ | refine d_build 7 ?_)
              (refine d_pure 8 ?_)
              (refine d_pure 10 ?_)
              refine d_skip 9 ?_
              (first | refine d_pure 11 ?_ | refine d_load 11 ?_ | refine d_arith 11 ?_ | refine d_rem 11 ?_ | refine d_quo 11 ?_ | refine d_shrv 11 ?_ | refine d_fieldat 11 ?_ | refine d_idx1 11 ?_ | refine d_index 11 ?_ | refine d_conv64 11 ?_ | refine d_slices 11 ?_ | refine d_concat 11 ?_ | refine d_build 11 ?_)
              (first | refine d_pure 12 ?_ | refine d_load 12 ?_ | refine d_arith 12 ?_ | refine d_rem 12 ?_ | refine d_quo 12 ?_ | refine d_shrv 12 ?_ | refine d_fieldat 12 ?_ | refine d_idx1 12 ?_ | refine d_index 12 ?_ | refine d_conv64 12 ?_ | refine d_slices 12 ?_ | refine d_concat 12 ?_ | refine d_build 12 ?_)
              refine d_via1 13 (h1 := by refine s_putall (h1 := by rfl) (hz := by rfl) (hi := by rfl) ?_; exact run_fin1) (h := ?_)
              (first | refine d_pure 14 ?_ | refine d_load 14 ?_ | refine d_arith 14 ?_ | refine d_rem 14 ?_ | refine d_quo 14 ?_ | refine d_shrv 14 ?_ | refine d_fieldat 14 ?_ | refine d_idx1 14 ?_ | refine d_index 14 ?_ | refine d_conv64 14 ?_ | refine d_slices 14 ?_ | refine d_concat 14 ?_ | refine d_build 14 ?_)
              refine d_done ?_
              (repeat (first | refine g ?_))
              refine run_ret2 (imp_RD ?_ shut) rfl (res_cell tabOk rfl rfl rfl (by repeat (first | (with_reducible exact At.head) | apply At.tail)) rfl) (res_tmp rfl)
              rfl
            | true =>
              rw [hr] at c1
              have cl := laid_spec q' ⟨true, m, x1, x2, x3⟩ hr
              refine d_start [cells r2 23 ⟨encS zeroS⟩] ?_
              refine d_getall 0 rfl ?_
              (first | refine d_pure 1 ?_ | refine d_load 1 ?_ | refine d_arith 1 ?_ | refine d_rem 1 ?_ | refine d_quo 1 ?_ | refine d_shrv 1 ?_ | refine d_fieldat 1 ?_ | refine d_idx1 1 ?_ | refine d_index 1 ?_ | refine d_conv64 1 ?_ | refine d_slices 1 ?_ | refine d_concat 1 ?_ | refine d_build 1 ?_)
              (first | refine d_pure 2 ?_ | refine d_load 2 ?_ | refine d_arith 2 ?_ | refine d_rem 2 ?_ | refine d_quo 2 ?_ | refine d_shrv 2 ?_ | refine d_fieldat 2 ?_ | refine d_idx1 2 ?_ | refine d_index 2 ?_ | refine d_conv64 2 ?_ | refine d_slices 2 ?_ | refine d_concat 2 ?_ | refine d_build 2 ?_)
              (first | refine d_pure 3 ?_ | refine d_load 3 ?_ | refine d_arith 3 ?_ | refine d_rem 3 ?_ | refine d_quo 3 ?_ | refine d_shrv 3 ?_ | refine d_fieldat 3 ?_ | refine d_idx1 3 ?_ | refine d_index 3 ?_ | refine d_conv64 3 ?_ | refine d_slices 3 ?_ | refine d_concat 3 ?_ | refine d_build 3 ?_)
              refine d_getall 4 rfl ?_
              refine d_call 5 c1 ?_
              (first | refine d_pure 6 ?_ | refine d_load 6 ?_ | refine d_arith 6 ?_ | refine d_rem 6 ?_ | refine d_quo 6 ?_ | refine d_shrv 6 ?_ | refine d_fieldat 6 ?_ | refine d_idx1 6 ?_ | refine d_index 6 ?_ | refine d_conv64 6 ?_ | refine d_slices 6 ?_ | refine d_concat 6 ?_ | refine d_build 6 ?_)
              (first | refine d_pure 7 ?_ | refine d_load 7 ?_ | refine d_arith 7 ?_ | refine d_rem 7 ?_ | refine d_quo 7 ?_ | refine d_shrv 7 ?_ | refine d_fieldat 7 ?_ | refine d_idx1 7 ?_ | refine d_index 7 ?_ | refine d_conv64 7 ?_ | refine d_slices 7 ?_ | refine d_concat 7 ?_ | refine d_build 7 ?_)
              refine d_getall 8 rfl ?_
              refine d_loado 10 (j := 0) ho rfl ?_
              refine d_call 9 cl ?_
              (first | refine d_pure 11 ?_ | refine d_load 11 ?_ | refine d_arith 11 ?_ | refine d_rem 11 ?_ | refine d_quo 11 ?_ | refine d_shrv 11 ?_ | refine d_fieldat 11 ?_ | refine d_idx1 11 ?_ | refine d_index 11 ?_ | refine d_conv64 11 ?_ | refine d_slices 11 ?_ | refine d_concat 11 ?_ | refine d_build 11 ?_)
              (first | refine d_pure 12 ?_ | refine d_load 12 ?_ | refine d_arith 12 ?_ | refine d_rem 12 ?_ | refine d_quo 12 ?_ | refine d_shrv 12 ?_ | refine d_fieldat 12 ?_ | refine d_idx1 12 ?_ | refine d_index 12 ?_ | refine d_conv64 12 ?_ | refine d_slices 12 ?_ | refine d_concat 12 ?_ | refine d_build 12 ?_)
              refine d_via1 13 (h1 := by refine s_putall (h1 := by rfl) (hz := by rfl) (hi := by rfl) ?_; exact run_fin1) (h := ?_)
              (first | refine d_pure 14 ?_ | refine d_load 14 ?_ | refine d_arith 14 ?_ | refine d_rem 14 ?_ | refine d_quo 14 ?_ | refine d_shrv 14 ?_ | refine d_fieldat 14 ?_ | refine d_idx1 14 ?_ | refine d_index 14 ?_ | refine d_conv64 14 ?_ | refine d_slices 14 ?_ | refine d_concat 14 ?_ | refine d_build 14 ?_)
              refine d_done ?_
              (repeat (first | refine g ?_))
              refine run_ret2 (imp_RD ?_ shut) rfl (res_cell tabOk rfl rfl rfl (by repeat (first | (with_reducible exact At.head) | apply At.tail)) rfl) (res_tmp rfl)
              rfl
      · refine d_ovia 11 (X := Nat) (h1 := by refine s_alloc fun r => ?_; exact run_fin r) (h := fun b8 => ?_)
        refine d_via1 7 (h1 := by refine s_call p2 ?_; exact run_fin1) (h := ?_)
        refine d_via1 9 (h1 := by refine s_call p3 ?_; exact run_fin1) (h := ?_)
        (first | refine d_pure 10 ?_ | refine d_load 10 ?_ | refine d_arith 10 ?_ | refine d_rem 10 ?_ | refine d_quo 10 ?_ | refine d_shrv 10 ?_ | refine d_fieldat 10 ?_ | refine d_idx1 10 ?_ | refine d_index 10 ?_ | refine d_conv64 10 ?_ | refine d_slices 10 ?_ | refine d_concat 10 ?_ | refine d_build 10 ?_)
        refine d_via1 12 (h1 := by refine s_store ?_; exact run_fin1) (h := ?_)
        refine d_done ?_
        (repeat (first | refine g ?_))
        refine s_ceq b8 (encS ⟨u, m, x1, x2, x3⟩) ?_ ?_
        · rw [hX]; rfl
        refine s_ceq r2 (encS zeroS) ?_ ?_
        · rfl
        have c1 := right_spec q' ⟨u, m, x1, x2, x3⟩ hok
        cases u with
        | false =>
          refine d_start [cells r2 23 ⟨encS zeroS⟩] ?_
          refine d_getall 0 rfl ?_
          (first | refine d_pure 1 ?_ | refine d_load 1 ?_ | refine d_arith 1 ?_ | refine d_rem 1 ?_ | refine d_quo 1 ?_ | refine d_shrv 1 ?_ | refine d_fieldat 1 ?_ | refine d_idx1 1 ?_ | refine d_index 1 ?_ | refine d_conv64 1 ?_ | refine d_slices 1 ?_ | refine d_concat 1 ?_ | refine d_build 1 ?_)
          (first | refine d_pure 2 ?_ | refine d_load 2 ?_ | refine d_arith 2 ?_ | refine d_rem 2 ?_ | refine d_quo 2 ?_ | refine d_shrv 2 ?_ | refine d_fieldat 2 ?_ | refine d_idx1 2 ?_ | refine d_index 2 ?_ | refine d_conv64 2 ?_ | refine d_slices 2 ?_ | refine d_concat 2 ?_ | refine d_build 2 ?_)
          (first | refine d_pure 3 ?_ | refine d_load 3 ?_ | refine d_arith 3 ?_ | refine d_rem 3 ?_ | refine d_quo 3 ?_ | refine d_shrv 3 ?_ | refine d_fieldat 3 ?_ | refine d_idx1 3 ?_ | refine d_index 3 ?_ | refine d_conv64 3 ?_ | refine d_slices 3 ?_ | refine d_concat 3 ?_ | refine d_build 3 ?_)
          (refine d_pure 4 ?_)
          refine d_skip 5 ?_
          (first | refine d_pure 6 ?_ | refine d_load 6 ?_ | refine d_arith 6 ?_ | refine d_rem 6 ?_ | refine d_quo 6 ?_ | refine d_shrv 6 ?_ | refine d_fieldat 6 ?_ | refine d_idx1 6 ?_ | refine d_index 6 ?_ | refine d_conv64 6 ?_ | refine d_slices 6 ?_ | refine d_concat 6 ?_ | refine d_build 6 ?_)
          (first | refine d_pure 7 ?_ | refine d_load 7 ?_ | refine d_arith 7 ?_ | refine d_rem 7 ?_ | refine d_quo 7 ?_ | refine d_shrv 7 ?_ | refine d_fieldat 7 ?_ | refine d_idx1 7 ?_ | refine d_index 7 ?_ | refine d_conv64 7 ?_ | refine d_slices 7 ?_ | refine d_concat 7 ?_ | refine d_build 7 ?_)
          (refine d_pure 8 ?_)
          (refine d_pure 10 ?_)
          refine d_skip 9 ?_
          (first | refine d_pure 11 ?_ | refine d_load 11 ?_ | refine d_arith 11 ?_ | refine d_rem 11 ?_ | refine d_quo 11 ?_ | refine d_shrv 11 ?_ | refine d_fieldat 11 ?_ | refine d_idx1 11 ?_ | refine d_index 11 ?_ | refine d_conv64 11 ?_ | refine d_slices 11 ?_ | refine d_concat 11 ?_ | refine d_build 11 ?_)
          (first | refine d_pure 12 ?_ | refine d_load 12 ?_ | refine d_arith 12 ?_ | refine d_rem 12 ?_ | refine d_quo 12 ?_ | refine d_shrv 12 ?_ | refine d_fieldat 12 ?_ | refine d_idx1 12 ?_ | refine d_index 12 ?_ | refine d_conv64 12 ?_ | refine d_slices 12 ?_ | refine d_concat 12 ?_ | refine d_build 12 ?_)
          refine d_via1 13 (h1 := by refine s_putall (h1 := by rfl) (hz := by rfl) (hi := by rfl) ?_; exact run_fin1) (h := ?_)
          (first | refine d_pure 14 ?_ | refine d_load 14 ?_ | refine d_arith 14 ?_ | refine d_rem 14 ?_ | refine d_quo 14 ?_ | refine d_shrv 14 ?_ | refine d_fieldat 14 ?_ | refine d_idx1 14 ?_ | refine d_index 14 ?_ | refine d_conv64 14 ?_ | refine d_slices 14 ?_ | refine d_concat 14 ?_ | refine d_build 14 ?_)
          refine d_done ?_
          (repeat (first | refine g ?_))
          refine run_ret2 (imp_RD ?_ shut) rfl (res_cell tabOk rfl rfl rfl (by repeat (first | (with_reducible exact At.head) | apply At.tail)) rfl) (res_tmp rfl)
          rfl
        | true =>
          cases hr : rightF ⟨true, m, x1, x2, x3⟩ with
          | false =>
            rw [hr] at c1
            refine d_start [cells r2 23 ⟨encS zeroS⟩] ?_
            refine d_getall 0 rfl ?_
            (first | refine d_pure 1 ?_ | refine d_load 1 ?_ | refine d_arith 1 ?_ | refine d_rem 1 ?_ | refine d_quo 1 ?_ | refine d_shrv 1 ?_ | refine d_fieldat 1 ?_ | refine d_idx1 1 ?_ | refine d_index 1 ?_ | refine d_conv64 1 ?_ | refine d_slices 1 ?_ | refine d_concat 1 ?_ | refine d_build 1 ?_)
            (first | refine d_pure 2 ?_ | refine d_load 2 ?_ | refine d_arith 2 ?_ | refine d_rem 2 ?_ | refine d_quo 2 ?_ | refine d_shrv 2 ?_ | refine d_fieldat 2 ?_ | refine d_idx1 2 ?_ | refine d_index 2 ?_ | refine d_conv64 2 ?_ | refine d_slices 2 ?_ | refine d_concat 2 ?_ | refine d_build 2 ?_)
            (first | refine d_pure 3 ?_ | refine d_load 3 ?_ | refine d_arith 3 ?_ | refine d_rem 3 ?_ | refine d_quo 3 ?_ | refine d_shrv 3 ?_ | refine d_fieldat 3 ?_ | refine d_idx1 3 ?_ | refine d_index 3 ?_ | refine d_conv64 3 ?_ | refine d_slices 3 ?_ | refine d_concat 3 ?_ | refine d_build 3 ?_)
            refine d_getall 4 rfl ?_
            refine d_call 5 c1 ?_
            (first | refine d_pure 6 ?_ | refine d_load 6 ?_ | refine d_arith 6 ?_ | refine d_rem 6 ?_ | refine d_quo 6 ?_ | refine d_shrv 6 ?_ | refine d_fieldat 6 ?_ | refine d_idx1 6 ?_ | refine d_index 6 ?_ | refine d_conv64 6 ?_ | refine d_slices 6 ?_ | refine d_concat 6 ?_ | refine d_build 6 ?_)
            (first | refine d_pure 7 ?_ | refine d_load 7 ?_ | refine d_arith 7 ?_ | refine d_rem 7 ?_ | refine d_quo 7 ?_ | refine d_shrv 7 ?_ | refine d_fieldat 7 ?_ | refine d_idx1 7 ?_ | refine d_index 7 ?_ | refine d_conv64 7 ?_ | refine d_slices 7 ?_ | refine d_concat 7 ?_ | refine d_build 7 ?_)
            (refine d_pure 8 ?_)
            (refine d_pure 10 ?_)
            refine d_skip 9 ?_
            (first | refine d_pure 11 ?_ | refine d_load 11 ?_ | refine d_arith 11 ?_ | refine d_rem 11 ?_ | refine d_quo 11 ?_ | refine d_shrv 11 ?_ | refine d_fieldat 11 ?_ | refine d_idx1 11 ?_ | refine d_index 11 ?_ | refine d_conv64 11 ?_ | refine d_slices 11 ?_ | refine d_concat 11 ?_ | refine d_build 11 ?_)
            (first | refine d_pure 12 ?_ | refine d_load 12 ?_ | refine d_arith 12 ?_ | refine d_rem 12 ?_ | refine d_quo 12 ?_ | refine d_shrv 12 ?_ | refine d_fieldat 12 ?_ | refine d_idx1 12 ?_ | refine d_index 12 ?_ | refine d_conv64 12 ?_ | refine d_slices 12 ?_ | refine d_concat 12 ?_ | refine d_build 12 ?_)
            refine d_via1 13 (h1 := by refine s_putall (h1 := by rfl) (hz := by rfl) (hi := by rfl) ?_; exact run_fin1) (h := ?_)
            (first | refine d_pure 14 ?_ | refine d_load 14 ?_ | refine d_arith 14 ?_ | refine d_rem 14 ?_ | refine d_quo 14 ?_ | refine d_shrv 14 ?_ | refine d_fieldat 14 ?_ | refine d_idx1 14 ?_ | refine d_index 14 ?_ | refine d_conv64 14 ?_ | refine d_slices 14 ?_ | refine d_concat 14 ?_ | refine d_build 14 ?_)
            refine d_done ?_
            (repeat (first | refine g ?_))
            refine run_ret2 (imp_RD ?_ shut) rfl (res_cell tabOk rfl rfl rfl (by repeat (first | (with_reducible exact At.head) | apply At.tail)) rfl) (res_tmp rfl)
            rfl
          | true =>
            rw [hr] at c1
            have cl := laid_spec q' ⟨true, m, x1, x2, x3⟩ hr
            refine d_start [cells r2 23 ⟨encS zeroS⟩] ?_
            refine d_getall 0 rfl ?_
            (first | refine d_pure 1 ?_ | refine d_load 1 ?_ | refine d_arith 1 ?_ | refine d_rem 1 ?_ | refine d_quo 1 ?_ | refine d_shrv 1 ?_ | refine d_fieldat 1 ?_ | refine d_idx1 1 ?_ | refine d_index 1 ?_ | refine d_conv64 1 ?_ | refine d_slices 1 ?_ | refine d_concat 1 ?_ | refine d_build 1 ?_)
            (first | refine d_pure 2 ?_ | refine d_load 2 ?_ | refine d_arith 2 ?_ | refine d_rem 2 ?_ | refine d_quo 2 ?_ | refine d_shrv 2 ?_ | refine d_fieldat 2 ?_ | refine d_idx1 2 ?_ | refine d_index 2 ?_ | refine d_conv64 2 ?_ | refine d_slices 2 ?_ | refine d_concat 2 ?_ | refine d_build 2 ?_)
            (first | refine d_pure 3 ?_ | refine d_load 3 ?_ | refine d_arith 3 ?_ | refine d_rem 3 ?_ | refine d_quo 3 ?_ | refine d_shrv 3 ?_ | refine d_fieldat 3 ?_ | refine d_idx1 3 ?_ | refine d_index 3 ?_ | refine d_conv64 3 ?_ | refine d_slices 3 ?_ | refine d_concat 3 ?_ | refine d_build 3 ?_)
            refine d_getall 4 rfl ?_
            refine d_call 5 c1 ?_
            (first | refine d_pure 6 ?_ | refine d_load 6 ?_ | refine d_arith 6 ?_ | refine d_rem 6 ?_ | refine d_quo 6 ?_ | refine d_shrv 6 ?_ | refine d_fieldat 6 ?_ | refine d_idx1 6 ?_ | refine d_index 6 ?_ | refine d_conv64 6 ?_ | refine d_slices 6 ?_ | refine d_concat 6 ?_ | refine d_build 6 ?_)
            (first | refine d_pure 7 ?_ | refine d_load 7 ?_ | refine d_arith 7 ?_ | refine d_rem 7 ?_ | refine d_quo 7 ?_ | refine d_shrv 7 ?_ | refine d_fieldat 7 ?_ | refine d_idx1 7 ?_ | refine d_index 7 ?_ | refine d_conv64 7 ?_ | refine d_slices 7 ?_ | refine d_concat 7 ?_ | refine d_build 7 ?_)
            refine d_getall 8 rfl ?_
            refine d_loado 10 (j := 0) ho rfl ?_
            refine d_call 9 cl ?_
            (first | refine d_pure 11 ?_ | refine d_load 11 ?_ | refine d_arith 11 ?_ | refine d_rem 11 ?_ | refine d_quo 11 ?_ | refine d_shrv 11 ?_ | refine d_fieldat 11 ?_ | refine d_idx1 11 ?_ | refine d_index 11 ?_ | refine d_conv64 11 ?_ | refine d_slices 11 ?_ | refine d_concat 11 ?_ | refine d_build 11 ?_)
            (first | refine d_pure 12 ?_ | refine d_load 12 ?_ | refine d_arith 12 ?_ | refine d_rem 12 ?_ | refine d_quo 12 ?_ | refine d_shrv 12 ?_ | refine d_fieldat 12 ?_ | refine d_idx1 12 ?_ | refine d_index 12 ?_ | refine d_conv64 12 ?_ | refine d_slices 12 ?_ | refine d_concat 12 ?_ | refine d_build 12 ?_)
            refine d_via1 13 (h1 := by refine s_putall (h1 := by rfl) (hz := by rfl) (hi := by rfl) ?_; exact run_fin1) (h := ?_)
            (first | refine d_pure 14 ?_ | refine d_load 14 ?_ | refine d_arith 14 ?_ | refine d_rem 14 ?_ | refine d_quo 14 ?_ | refine d_shrv 14 ?_ | refine d_fieldat 14 ?_ | refine d_idx1 14 ?_ | refine d_index 14 ?_ | refine d_conv64 14 ?_ | refine d_slices 14 ?_ | refine d_concat 14 ?_ | refine d_build 14 ?_)
            refine d_done ?_
            (repeat (first | refine g ?_))
            refine run_ret2 (imp_RD ?_ shut) rfl (res_cell tabOk rfl rfl rfl (by repeat (first | (with_reducible exact At.head) | apply At.tail)) rfl) (res_tmp rfl)
            rfl
    · refine d_ovia 11 (X := Nat) (h1 := by refine s_alloc fun r => ?_; exact run_fin r) (h := fun b8 => ?_)
      refine d_via1 5 (h1 := by refine s_call p1 ?_; exact run_fin1) (h := ?_)
      refine d_via1 7 (h1 := by refine s_call p2 ?_; exact run_fin1) (h := ?_)
      refine d_via1 9 (h1 := by refine s_call p3 ?_; exact run_fin1) (h := ?_)
      (first | refine d_pure 10 ?_ | refine d_load 10 ?_ | refine d_arith 10 ?_ | refine d_rem 10 ?_ | refine d_quo 10 ?_ | refine d_shrv 10 ?_ | refine d_fieldat 10 ?_ | refine d_idx1 10 ?_ | refine d_index 10 ?_ | refine d_conv64 10 ?_ | refine d_slices 10 ?_ | refine d_concat 10 ?_ | refine d_build 10 ?_)
      refine d_via1 12 (h1 := by refine s_store ?_; exact run_fin1) (h := ?_)
      refine d_done ?_
      (repeat (first | refine g ?_))
      refine s_ceq b8 (encS ⟨u, m, x1, x2, x3⟩) ?_ ?_
      · rw [hX]; rfl
      refine s_ceq r2 (encS zeroS) ?_ ?_
      · rfl
      have c1 := right_spec q' ⟨u, m, x1, x2, x3⟩ hok
      cases u with
      | false =>
        refine d_start [cells r2 23 ⟨encS zeroS⟩] ?_
        refine d_getall 0 rfl ?_
        (first | refine d_pure 1 ?_ | refine d_load 1 ?_ | refine d_arith 1 ?_ | refine d_rem 1 ?_ | refine d_quo 1 ?_ | refine d_shrv 1 ?_ | refine d_fieldat 1 ?_ | refine d_idx1 1 ?_ | refine d_index 1 ?_ | refine d_conv64 1 ?_ | refine d_slices 1 ?_ | refine d_concat 1 ?_ | refine d_build 1 ?_)
        (first | refine d_pure 2 ?_ | refine d_load 2 ?_ | refine d_arith 2 ?_ | refine d_rem 2 ?_ | refine d_quo 2 ?_ | refine d_shrv 2 ?_ | refine d_fieldat 2 ?_ | refine d_idx1 2 ?_ | refine d_index 2 ?_ | refine d_conv64 2 ?_ | refine d_slices 2 ?_ | refine d_concat 2 ?_ | refine d_build 2 ?_)
        (first | refine d_pure 3 ?_ | refine d_load 3 ?_ | refine d_arith 3 ?_ | refine d_rem 3 ?_ | refine d_quo 3 ?_ | refine d_shrv 3 ?_ | refine d_fieldat 3 ?_ | refine d_idx1 3 ?_ | refine d_index 3 ?_ | refine d_conv64 3 ?_ | refine d_slices 3 ?_ | refine d_concat 3 ?_ | refine d_build 3 ?_)
        (refine d_pure 4 ?_)
        refine d_skip 5 ?_
        (first | refine d_pure 6 ?_ | refine d_load 6 ?_ | refine d_arith 6 ?_ | refine d_rem 6 ?_ | refine d_quo 6 ?_ | refine d_shrv 6 ?_ | refine d_fieldat 6 ?_ | refine d_idx1 6 ?_ | refine d_index 6 ?_ | refine d_conv64 6 ?_ | refine d_slices 6 ?_ | refine d_concat 6 ?_ | refine d_build 6 ?_)
        (first | refine d_pure 7 ?_ | refine d_load 7 ?_ | refine d_arith 7 ?_ | refine d_rem 7 ?_ | refine d_quo 7 ?_ | refine d_shrv 7 ?_ | refine d_fieldat 7 ?_ | refine d_idx1 7 ?_ | refine d_index 7 ?_ | refine d_conv64 7 ?_ | refine d_slices 7 ?_ | refine d_concat 7 ?_ | refine d_build 7 ?_)
        (refine d_pure 8 ?_)
        (refine d_pure 10 ?_)
        refine d_skip 9 ?_
        (first | refine d_pure 11 ?_ | refine d_load 11 ?_ | refine d_arith 11 ?_ | refine d_rem 11 ?_ | refine d_quo 11 ?_ | refine d_shrv 11 ?_ | refine d_fieldat 11 ?_ | refine d_idx1 11 ?_ | refine d_index 11 ?_ | refine d_conv64 11 ?_ | refine d_slices 11 ?_ | refine d_concat 11 ?_ | refine d_build 11 ?_)
        (first | refine d_pure 12 ?_ | refine d_load 12 ?_ | refine d_arith 12 ?_ | refine d_rem 12 ?_ | refine d_quo 12 ?_ | refine d_shrv 12 ?_ | refine d_fieldat 12 ?_ | refine d_idx1 12 ?_ | refine d_index 12 ?_ | refine d_conv64 12 ?_ | refine d_slices 12 ?_ | refine d_concat 12 ?_ | refine d_build 12 ?_)
        refine d_via1 13 (h1 := by refine s_putall (h1 := by rfl) (hz := by rfl) (hi := by rfl) ?_; exact run_fin1) (h := ?_)
        (first | refine d_pure 14 ?_ | refine d_load 14 ?_ | refine d_arith 14 ?_ | refine d_rem 14 ?_ | refine d_quo 14 ?_ | refine d_shrv 14 ?_ | refine d_fieldat 14 ?_ | refine d_idx1 14 ?_ | refine d_index 14 ?_ | refine d_conv64 14 ?_ | refine d_slices 14 ?_ | refine d_concat 14 ?_ | refine d_build 14 ?_)
        refine d_done ?_
        (repeat (first | refine g ?_))
        refine run_ret2 (imp_RD ?_ shut) rfl (res_cell tabOk rfl rfl rfl (by repeat (first | (with_reducible exact At.head) | apply At.tail)) rfl) (res_tmp rfl)
        rfl
      | true =>
        cases hr : rightF ⟨true, m, x1, x2, x3⟩ with
        | false =>
          rw [hr] at c1
          refine d_start [cells r2 23 ⟨encS zeroS⟩] ?_
          refine d_getall 0 rfl ?_
          (first | refine d_pure 1 ?_ | refine d_load 1 ?_ | refine d_arith 1 ?_ | refine d_rem 1 ?_ | refine d_quo 1 ?_ | refine d_shrv 1 ?_ | refine d_fieldat 1 ?_ | refine d_idx1 1 ?_ | refine d_index 1 ?_ | refine d_conv64 1 ?_ | refine d_slices 1 ?_ | refine d_concat 1 ?_ | refine d_build 1 ?_)
          (first | refine d_pure 2 ?_ | refine d_load 2 ?_ | refine d_arith 2 ?_ | refine d_rem 2 ?_ | refine d_quo 2 ?_ | refine d_shrv 2 ?_ | refine d_fieldat 2 ?_ | refine d_idx1 2 ?_ | refine d_index 2 ?_ | refine d_conv64 2 ?_ | refine d_slices 2 ?_ | refine d_concat 2 ?_ | refine d_build 2 ?_)
          (first | refine d_pure 3 ?_ | refine d_load 3 ?_ | refine d_arith 3 ?_ | refine d_rem 3 ?_ | refine d_quo 3 ?_ | refine d_shrv 3 ?_ | refine d_fieldat 3 ?_ | refine d_idx1 3 ?_ | refine d_index 3 ?_ | refine d_conv64 3 ?_ | refine d_slices 3 ?_ | refine d_concat 3 ?_ | refine d_build 3 ?_)
          refine d_getall 4 rfl ?_
          refine d_call 5 c1 ?_
          (first | refine d_pure 6 ?_ | refine d_load 6 ?_ | refine d_arith 6 ?_ | refine d_rem 6 ?_ | refine d_quo 6 ?_ | refine d_shrv 6 ?_ | refine d_fieldat 6 ?_ | refine d_idx1 6 ?_ | refine d_index 6 ?_ | refine d_conv64 6 ?_ | refine d_slices 6 ?_ | refine d_concat 6 ?_ | refine d_build 6 ?_)
          (first | refine d_pure 7 ?_ | refine d_load 7 ?_ | refine d_arith 7 ?_ | refine d_rem 7 ?_ | refine d_quo 7 ?_ | refine d_shrv 7 ?_ | refine d_fieldat 7 ?_ | refine d_idx1 7 ?_ | refine d_index 7 ?_ | refine d_conv64 7 ?_ | refine d_slices 7 ?_ | refine d_concat 7 ?_ | refine d_build 7 ?_)
          (refine d_pure 8 ?_)
          (refine d_pure 10 ?_)
          refine d_skip 9 ?_
          (first | refine d_pure 11 ?_ | refine d_load 11 ?_ | refine d_arith 11 ?_ | refine d_rem 11 ?_ | refine d_quo 11 ?_ | refine d_shrv 11 ?_ | refine d_fieldat 11 ?_ | refine d_idx1 11 ?_ | refine d_index 11 ?_ | refine d_conv64 11 ?_ | refine d_slices 11 ?_ | refine d_concat 11 ?_ | refine d_build 11 ?_)
          (first | refine d_pure 12 ?_ | refine d_load 12 ?_ | refine d_arith 12 ?_ | refine d_rem 12 ?_ | refine d_quo 12 ?_ | refine d_shrv 12 ?_ | refine d_fieldat 12 ?_ | refine d_idx1 12 ?_ | refine d_index 12 ?_ | refine d_conv64 12 ?_ | refine d_slices 12 ?_ | refine d_concat 12 ?_ | refine d_build 12 ?_)
          refine d_via1 13 (h1 := by refine s_putall (h1 := by rfl) (hz := by rfl) (hi := by rfl) ?_; exact run_fin1) (h := ?_)
          (first | refine d_pure 14 ?_ | refine d_load 14 ?_ | refine d_arith 14 ?_ | refine d_rem 14 ?_ | refine d_quo 14 ?_ | refine d_shrv 14 ?_ | refine d_fieldat 14 ?_ | refine d_idx1 14 ?_ | refine d_index 14 ?_ | refine d_conv64 14 ?_ | refine d_slices 14 ?_ | refine d_concat 14 ?_ | refine d_build 14 ?_)
          refine d_done ?_
          (repeat (first | refine g ?_))
          refine run_ret2 (imp_RD ?_ shut) rfl (res_cell tabOk rfl rfl rfl (by repeat (first | (with_reducible exact At.head) | apply At.tail)) rfl) (res_tmp rfl)
          rfl
        | true =>
          rw [hr] at c1
          have cl := laid_spec q' ⟨true, m, x1, x2, x3⟩ hr
          refine d_start [cells r2 23 ⟨encS zeroS⟩] ?_
          refine d_getall 0 rfl ?_
          (first | refine d_pure 1 ?_ | refine d_load 1 ?_ | refine d_arith 1 ?_ | refine d_rem 1 ?_ | refine d_quo 1 ?_ | refine d_shrv 1 ?_ | refine d_fieldat 1 ?_ | refine d_idx1 1 ?_ | refine d_index 1 ?_ | refine d_conv64 1 ?_ | refine d_slices 1 ?_ | refine d_concat 1 ?_ | refine d_build 1 ?_)
          (first | refine d_pure 2 ?_ | refine d_load 2 ?_ | refine d_arith 2 ?_ | refine d_rem 2 ?_ | refine d_quo 2 ?_ | refine d_shrv 2 ?_ | refine d_fieldat 2 ?_ | refine d_idx1 2 ?_ | refine d_index 2 ?_ | refine d_conv64 2 ?_ | refine d_slices 2 ?_ | refine d_concat 2 ?_ | refine d_build 2 ?_)
          (first | refine d_pure 3 ?_ | refine d_load 3 ?_ | refine d_arith 3 ?_ | refine d_rem 3 ?_ | refine d_quo 3 ?_ | refine d_shrv 3 ?_ | refine d_fieldat 3 ?_ | refine d_idx1 3 ?_ | refine d_index 3 ?_ | refine d_conv64 3 ?_ | refine d_slices 3 ?_ | refine d_concat 3 ?_ | refine d_build 3 ?_)
          refine d_getall 4 rfl ?_
          refine d_call 5 c1 ?_
          (first | refine d_pure 6 ?_ | refine d_load 6 ?_ | refine d_arith 6 ?_ | refine d_rem 6 ?_ | refine d_quo 6 ?_ | refine d_shrv 6 ?_ | refine d_fieldat 6 ?_ | refine d_idx1 6 ?_ | refine d_index 6 ?_ | refine d_conv64 6 ?_ | refine d_slices 6 ?_ | refine d_concat 6 ?_ | refine d_build 6 ?_)
          (first | refine d_pure 7 ?_ | refine d_load 7 ?_ | refine d_arith 7 ?_ | refine d_rem 7 ?_ | refine d_quo 7 ?_ | refine d_shrv 7 ?_ | refine d_fieldat 7 ?_ | refine d_idx1 7 ?_ | refine d_index 7 ?_ | refine d_conv64 7 ?_ | refine d_slices 7 ?_ | refine d_concat 7 ?_ | refine d_build 7 ?_)
          refine d_getall 8 rfl ?_
          refine d_loado 10 (j := 0) ho rfl ?_
          refine d_call 9 cl ?_
          (first | refine d_pure 11 ?_ | refine d_load 11 ?_ | refine d_arith 11 ?_ | refine d_rem 11 ?_ | refine d_quo 11 ?_ | refine d_shrv 11 ?_ | refine d_fieldat 11 ?_ | refine d_idx1 11 ?_ | refine d_index 11 ?_ | refine d_conv64 11 ?_ | refine d_slices 11 ?_ | refine d_concat 11 ?_ | refine d_build 11 ?_)
          (first | refine d_pure 12 ?_ | refine d_load 12 ?_ | refine d_arith 12 ?_ | refine d_rem 12 ?_ | refine d_quo 12 ?_ | refine d_shrv 12 ?_ | refine d_fieldat 12 ?_ | refine d_idx1 12 ?_ | refine d_index 12 ?_ | refine d_conv64 12 ?_ | refine d_slices 12 ?_ | refine d_concat 12 ?_ | refine d_build 12 ?_)
          refine d_via1 13 (h1 := by refine s_putall (h1 := by rfl) (hz := by rfl) (hi := by rfl) ?_; exact run_fin1) (h := ?_)
          (first | refine d_pure 14 ?_ | refine d_load 14 ?_ | refine d_arith 14 ?_ | refine d_rem 14 ?_ | refine d_quo 14 ?_ | refine d_shrv 14 ?_ | refine d_fieldat 14 ?_ | refine d_idx1 14 ?_ | refine d_index 14 ?_ | refine d_conv64 14 ?_ | refine d_slices 14 ?_ | refine d_concat 14 ?_ | refine d_build 14 ?_)
          refine d_done ?_
          (repeat (first | refine g ?_))
          refine run_ret2 (imp_RD ?_ shut) rfl (res_cell tabOk rfl rfl rfl (by repeat (first | (with_reducible exact At.head) | apply At.tail)) rfl) (res_tmp rfl)
          rfl
end Go.Proofs.Ytibookgcaboldaa.V
namespace Go.Proofs.Ytibookgcaboldaa.V
open Go.Proofs.Ytibookgcaboldaa.VL
attribute [local irreducible] Run
end Go.Proofs.Ytibookgcaboldaa.V
namespace Go.Proofs.Ytibookgcaboldaa.V
open Go.Proofs.Ytibookgcaboldaa.VL Go.Proofs.Ytibookgcaboldaa.VL.Sha
attribute [local irreducible] Run shaB sha
def slotAt (s : ByteArray) (i : Nat) : ByteArray := s.extract (8 + 96 * i) (8 + 96 * i + 96)
theorem slotAt_size (s : ByteArray) (i : Nat) (hi : i < 4) (hz : s.size = 448) : (slotAt s i).size = 96 := by
  unfold slotAt; rw [ByteArray.size_extract]; omega
/-- Slots that are laid one behind the other in a key ring. -/
def partL (xs : List SlotT) (i : Nat) : List SlotT := xs.take i ++ List.replicate (4 - i) zeroS
theorem partL_len (xs : List SlotT) (i : Nat) (hx : xs.length = 4) (hi : i ≤ 4) : (partL xs i).length = 4 := by
  unfold partL
  rw [List.length_append, List.length_take, List.length_replicate]; omega
theorem partL_set (xs : List SlotT) (i : Nat) (x : SlotT) (hx : xs.length = 4) (hi : i < 4) (h : xs[i]? = some x) : (partL xs i).set i x = partL xs (i + 1) := by
  unfold partL
  have hl : (xs.take i).length = i := by rw [List.length_take]; omega
  rw [List.set_append_right _ _ (by omega), hl, Nat.sub_self, show 4 - i = (4 - (i + 1)) + 1 by omega, List.replicate_succ, List.set_cons_zero, List.take_add_one, h]
  simp
def slotsP (s : ByteArray) : List SlotT := (List.range 4).map fun i => (slotP (slotAt s i)).1
theorem slotsP_len (s : ByteArray) : (slotsP s).length = 4 := by simp [slotsP]
theorem slotsP_at (s : ByteArray) (i : Nat) (hi : i < 4) : (slotsP s)[i]? = some (slotP (slotAt s i)).1 := by simp [slotsP, hi]
/-- The first bytes are right, and so are so many slots. -/
def okX (s : ByteArray) : Nat → Bool
  | 0 => decide (s.extract 0 4 = ⟨#[82, 73, 78, 71]⟩)
  | i + 1 => okX s i && (slotP (slotAt s i)).2
theorem okX_succ (s : ByteArray) (i : Nat) : okX s (i + 1) = (okX s i && (slotP (slotAt s i)).2) := rfl
def keysX (s : ByteArray) : KeysT := ⟨(lev s.data.toList 4 4 : Nat), slotsP s⟩
def ofP (s : ByteArray) : KeysT × Int :=
  if s.size < 448 then (zeroK, 3) else if 448 < s.size then (zeroK, 4) else if shaB (s.extract 0 392) ≠ s.extract 392 424 then (zeroK, 10) else
  if okX s 4 = true ∧ rightK (keysX s) = true ∧ s.extract 424 448 = bl (List.replicate 24 0) then (keysX s, 0) else (zeroK, 5)
theorem slotP_ok (s : ByteArray) (hz : s.size ≤ 1000000) : SlotOk (slotP s).1 := by
  unfold slotP
  split
  · exact zeroOk
  · exact slotX_ok s hz
theorem keysX_ok (s : ByteArray) (hz : s.size = 448) : KeysOk (keysX s) := by
  have h := lev_lt s.data.toList 4 4
  have e : (256 : Nat) ^ 4 = 4294967296 := by decide
  refine ⟨?_, ?_, slotsP_len s, fun t ht => ?_⟩
  · show _ ≤ ((lev s.data.toList 4 4 : Nat) : Int); omega
  · show ((lev s.data.toList 4 4 : Nat) : Int) ≤ _; omega
  · obtain ⟨i, hi, rfl⟩ := List.mem_map.1 (show t ∈ (List.range 4).map (fun i => (slotP (slotAt s i)).1) from ht)
    have hi4 : i < 4 := List.mem_range.1 hi
    exact slotP_ok _ (by rw [slotAt_size s i hi4 hz]; decide)
attribute [local irreducible] slotP okX lev rightK keysX slotAt bl in
theorem of_spec (q : View) (s : ByteArray) (hs : s.size ≤ 9223372036854775807) : FnD Try.prog q 32 [.string s] [] (.tuple #[.agg ⟨encKeys (ofP s).1⟩, .int .i64 (ofP s).2]) [] := by
  unfold ofP
  (first | refine FnD.go Try.call32 Try.func32 rfl rfl rfl ?_ | refine FnX.go Try.call32 Try.func32 rfl rfl rfl ?_)
  (repeat (first | refine g ?_ | refine s_flat 5 [(.pure, [0, 1, 3, 4]), (.mem false, [2]), (.pure, [5, 6])] ?_ | refine s_flat 18 [(.pure, [0, 1, 2]), (.mem true, [3]), (.mem false, [4]), (.pure, [5, 6, 7, 8, 9]), (.mem false, [10]), (.pure, [11, 12])] ?_))
  refine s_alloc fun rk => ?_
  (repeat (first | refine g ?_ | refine s_flat 5 [(.pure, [0, 1, 3, 4]), (.mem false, [2]), (.pure, [5, 6])] ?_ | refine s_flat 18 [(.pure, [0, 1, 2]), (.mem true, [3]), (.mem false, [4]), (.pure, [5, 6, 7, 8, 9]), (.mem false, [10]), (.pure, [11, 12])] ?_))
  by_cases h1 : s.size < 448
  · rw [if_pos h1]
    (repeat (first | refine g ?_ | refine s_flat 5 [(.pure, [0, 1, 3, 4]), (.mem false, [2]), (.pure, [5, 6])] ?_ | refine s_flat 18 [(.pure, [0, 1, 2]), (.mem true, [3]), (.mem false, [4]), (.pure, [5, 6, 7, 8, 9]), (.mem false, [10]), (.pure, [11, 12])] ?_))
    refine s_ret2 (imp_RD ?_ shut)
    rfl
  rw [if_neg h1]
  by_cases h2 : 448 < s.size
  · rw [if_pos h2]
    (repeat (first | refine g ?_ | refine s_flat 5 [(.pure, [0, 1, 3, 4]), (.mem false, [2]), (.pure, [5, 6])] ?_ | refine s_flat 18 [(.pure, [0, 1, 2]), (.mem true, [3]), (.mem false, [4]), (.pure, [5, 6, 7, 8, 9]), (.mem false, [10]), (.pure, [11, 12])] ?_))
    refine s_ret2 (imp_RD ?_ shut)
    rfl
  rw [if_neg h2]
  have hz : s.size = 448 := by omega
  have cs := sum_spec q (s.extract 0 392) (by rw [ByteArray.size_extract]; omega)
  (repeat (first | refine g ?_ | refine s_flat 5 [(.pure, [0, 1, 3, 4]), (.mem false, [2]), (.pure, [5, 6])] ?_ | refine s_flat 18 [(.pure, [0, 1, 2]), (.mem true, [3]), (.mem false, [4]), (.pure, [5, 6, 7, 8, 9]), (.mem false, [10]), (.pure, [11, 12])] ?_))
  refine s_call cs ?_
  (repeat (first | refine g ?_ | refine s_flat 5 [(.pure, [0, 1, 3, 4]), (.mem false, [2]), (.pure, [5, 6])] ?_ | refine s_flat 18 [(.pure, [0, 1, 2]), (.mem true, [3]), (.mem false, [4]), (.pure, [5, 6, 7, 8, 9]), (.mem false, [10]), (.pure, [11, 12])] ?_))
  by_cases h3 : shaB (s.extract 0 392) ≠ s.extract 392 424
  · rw [if_pos h3]
    (repeat (first | refine g ?_ | refine s_flat 5 [(.pure, [0, 1, 3, 4]), (.mem false, [2]), (.pure, [5, 6])] ?_ | refine s_flat 18 [(.pure, [0, 1, 2]), (.mem true, [3]), (.mem false, [4]), (.pure, [5, 6, 7, 8, 9]), (.mem false, [10]), (.pure, [11, 12])] ?_))
    refine s_ret2 (imp_RD ?_ shut)
    rfl
  rw [if_neg h3]
  have cg := get_spec q s 4 4 (by decide) (by decide) (by omega) (by omega)
  (repeat (first | refine g ?_ | refine s_flat 5 [(.pure, [0, 1, 3, 4]), (.mem false, [2]), (.pure, [5, 6])] ?_ | refine s_flat 18 [(.pure, [0, 1, 2]), (.mem true, [3]), (.mem false, [4]), (.pure, [5, 6, 7, 8, 9]), (.mem false, [10]), (.pure, [11, 12])] ?_))
  refine s_alloc fun bk => ?_
  (repeat (first | refine g ?_ | refine s_flat 5 [(.pure, [0, 1, 3, 4]), (.mem false, [2]), (.pure, [5, 6])] ?_ | refine s_flat 18 [(.pure, [0, 1, 2]), (.mem true, [3]), (.mem false, [4]), (.pure, [5, 6, 7, 8, 9]), (.mem false, [10]), (.pure, [11, 12])] ?_))
  refine s_call cg ?_
  (repeat (first | refine g ?_ | refine s_flat 5 [(.pure, [0, 1, 3, 4]), (.mem false, [2]), (.pure, [5, 6])] ?_ | refine s_flat 18 [(.pure, [0, 1, 2]), (.mem true, [3]), (.mem false, [4]), (.pure, [5, 6, 7, 8, 9]), (.mem false, [10]), (.pure, [11, 12])] ?_))
  have hX1 := slotsP_len s
  obtain ⟨gen, hgen⟩ : ∃ gen : Nat, gen = lev s.data.toList 4 4 := ⟨_, rfl⟩
  rw [← hgen]
  obtain ⟨xs, hxs⟩ : ∃ xs, xs = slotsP s := ⟨_, rfl⟩
  rw [← hxs] at hX1
  refine s_ceq bk (encKeys ⟨gen, partL xs 0⟩) ?_ ?_
  · rfl
  refine s_ceq rk (encKeys zeroK) ?_ ?_
  · rfl
  refine run_loopI (X := Nat) (fun i => i ≤ 4) (fun i => [(0, .string s), (2, .pointer (some ⟨rk, 0, none⟩)), (4, .pointer (some ⟨bk, 0, none⟩)), (5, .bool (okX s i)), (37, .int .i64 (i : Int))])
    (fun i => [cells bk 26 ⟨encKeys ⟨gen, partL xs i⟩⟩, cells rk 26 ⟨encKeys zeroK⟩]) (fun i => 4 - i) 0 (Nat.zero_le _) (by unfold okX; exact fct) shut ?_
  intro i hi
  have hlen := partL_len xs i hX1 hi
  have hl2 := encKeys_len (k := ⟨(gen : Int), partL xs i⟩) hlen
  (repeat (first | refine g ?_ | refine s_flat 5 [(.pure, [0, 1, 3, 4]), (.mem false, [2]), (.pure, [5, 6])] ?_ | refine s_flat 18 [(.pure, [0, 1, 2]), (.mem true, [3]), (.mem false, [4]), (.pure, [5, 6, 7, 8, 9]), (.mem false, [10]), (.pure, [11, 12])] ?_))
  refine run_cond_dec rfl ?_ ?_
  · intro hi4
    have hx := slotsP_at s i (by omega)
    rw [← hxs] at hx
    have hset := partL_set xs i _ hX1 (by omega) hx
    have csl := slot_spec q (slotAt s i) (slotAt_size s i (by omega) hz)
    have hput := encKeys_put ⟨(gen : Int), partL xs i⟩ i (slotP (slotAt s i)).1 (by show i < (partL xs i).length; omega)
    have hokn : okX s (i + 1) = (okX s i && (slotP (slotAt s i)).2) := okX_succ s i
    obtain ⟨⟨S, u⟩, hS⟩ : ∃ S, S = slotP (slotAt s i) := ⟨_, rfl⟩
    rw [← hS] at csl hput hset hokn
    dsimp only at csl hput hset hokn
    rw [hset] at hput
    have hS1 := encS_one S
    have ea : s.extract (8 + (i : Int) * 96).toNat (8 + (i : Int) * 96 + 96).toNat = slotAt s i := by
      unfold slotAt
      rw [show (8 + (i : Int) * 96).toNat = 8 + 96 * i by omega, show (8 + (i : Int) * 96 + 96).toNat = 8 + 96 * i + 96 by omega]
    (repeat (first | refine g ?_ | refine s_flat 5 [(.pure, [0, 1, 3, 4]), (.mem false, [2]), (.pure, [5, 6])] ?_ | refine s_flat 18 [(.pure, [0, 1, 2]), (.mem true, [3]), (.mem false, [4]), (.pure, [5, 6, 7, 8, 9]), (.mem false, [10]), (.pure, [11, 12])] ?_))
    refine s_to 48 (v := .string (s.extract (8 + (i : Int) * 96).toNat (8 + (i : Int) * 96 + 96).toNat)) (w := .string (slotAt s i)) (by rw [ea]) ?_
    (repeat (first | refine g ?_ | refine s_flat 5 [(.pure, [0, 1, 3, 4]), (.mem false, [2]), (.pure, [5, 6])] ?_ | refine s_flat 18 [(.pure, [0, 1, 2]), (.mem true, [3]), (.mem false, [4]), (.pure, [5, 6, 7, 8, 9]), (.mem false, [10]), (.pure, [11, 12])] ?_))
    refine s_call csl ?_
    (repeat (first | refine g ?_ | refine s_flat 5 [(.pure, [0, 1, 3, 4]), (.mem false, [2]), (.pure, [5, 6])] ?_ | refine s_flat 18 [(.pure, [0, 1, 2]), (.mem true, [3]), (.mem false, [4]), (.pure, [5, 6, 7, 8, 9]), (.mem false, [10]), (.pure, [11, 12])] ?_))
    refine s_alloc fun r => ?_
    (repeat (first | refine g ?_ | refine s_flat 5 [(.pure, [0, 1, 3, 4]), (.mem false, [2]), (.pure, [5, 6])] ?_ | refine s_flat 18 [(.pure, [0, 1, 2]), (.mem true, [3]), (.mem false, [4]), (.pure, [5, 6, 7, 8, 9]), (.mem false, [10]), (.pure, [11, 12])] ?_))
    refine s_idr (kk := 5) (1 + i * 5) ?_
    (repeat (first | refine g ?_ | refine s_flat 5 [(.pure, [0, 1, 3, 4]), (.mem false, [2]), (.pure, [5, 6])] ?_ | refine s_flat 18 [(.pure, [0, 1, 2]), (.mem true, [3]), (.mem false, [4]), (.pure, [5, 6, 7, 8, 9]), (.mem false, [10]), (.pure, [11, 12])] ?_))
    refine s_put (vs := encS S) (h1 := hS1) (hi := by rw [hl2]; show 1 + i * 5 + 5 ≤ 21; omega) ?_
    rw [hput]
    have nxt : i + 1 ≤ 4 ∧ 4 - (i + 1) < 4 - i := by omega
    cases hok : okX s i with
    | false =>
      rw [hok, Bool.false_and] at hokn
      (repeat (first | refine g ?_ | refine s_flat 5 [(.pure, [0, 1, 3, 4]), (.mem false, [2]), (.pure, [5, 6])] ?_ | refine s_flat 18 [(.pure, [0, 1, 2]), (.mem true, [3]), (.mem false, [4]), (.pure, [5, 6, 7, 8, 9]), (.mem false, [10]), (.pure, [11, 12])] ?_))
      exact run_stop_loop (i + 1) nxt (by rw [hokn]; exact fct) shut
    | true =>
      rw [hok, Bool.true_and] at hokn
      (repeat (first | refine g ?_ | refine s_flat 5 [(.pure, [0, 1, 3, 4]), (.mem false, [2]), (.pure, [5, 6])] ?_ | refine s_flat 18 [(.pure, [0, 1, 2]), (.mem true, [3]), (.mem false, [4]), (.pure, [5, 6, 7, 8, 9]), (.mem false, [10]), (.pure, [11, 12])] ?_))
      exact run_stop_loop (i + 1) nxt (by rw [hokn]; exact fct) shut
  · intro hi4
    obtain rfl : i = 4 := by omega
    have hk4 : partL xs 4 = xs := by
      unfold partL
      rw [List.take_of_length_le (by omega), Nat.sub_self]; simp
    rw [hk4] at hl2 ⊢
    have hKX : (⟨(gen : Int), xs⟩ : KeysT) = keysX s := by unfold keysX; rw [hgen, hxs]
    have hok := keysX_ok s hz
    rw [hKX] at hl2 ⊢
    have cr := rightK_spec q (keysX s) hok
    have c24 := repeat24 q
    have h1E := encKeys_one (keysX s)
    have h0z := encKeys_len (k := zeroK) rfl
    have e448 : s.extract (Int.toNat 424) s.size = s.extract 424 448 := by rw [hz]; rfl
    cases hb : okX s 4 with
    | false =>
      rw [if_neg (by rintro ⟨h, _⟩; cases h)]
      (repeat (first | refine g ?_ | refine s_flat 5 [(.pure, [0, 1, 3, 4]), (.mem false, [2]), (.pure, [5, 6])] ?_ | refine s_flat 18 [(.pure, [0, 1, 2]), (.mem true, [3]), (.mem false, [4]), (.pure, [5, 6, 7, 8, 9]), (.mem false, [10]), (.pure, [11, 12])] ?_))
      refine s_ret2 (imp_RD ?_ shut)
      rfl
    | true =>
      cases hr : rightK (keysX s) with
      | false =>
        rw [hr] at cr
        rw [if_neg (by rintro ⟨_, h, _⟩; cases h)]
        (repeat (first | refine g ?_ | refine s_flat 5 [(.pure, [0, 1, 3, 4]), (.mem false, [2]), (.pure, [5, 6])] ?_ | refine s_flat 18 [(.pure, [0, 1, 2]), (.mem true, [3]), (.mem false, [4]), (.pure, [5, 6, 7, 8, 9]), (.mem false, [10]), (.pure, [11, 12])] ?_))
        refine s_getall (hz := hl2) ?_
        (repeat (first | refine g ?_ | refine s_flat 5 [(.pure, [0, 1, 3, 4]), (.mem false, [2]), (.pure, [5, 6])] ?_ | refine s_flat 18 [(.pure, [0, 1, 2]), (.mem true, [3]), (.mem false, [4]), (.pure, [5, 6, 7, 8, 9]), (.mem false, [10]), (.pure, [11, 12])] ?_))
        refine s_call cr ?_
        (repeat (first | refine g ?_ | refine s_flat 5 [(.pure, [0, 1, 3, 4]), (.mem false, [2]), (.pure, [5, 6])] ?_ | refine s_flat 18 [(.pure, [0, 1, 2]), (.mem true, [3]), (.mem false, [4]), (.pure, [5, 6, 7, 8, 9]), (.mem false, [10]), (.pure, [11, 12])] ?_))
        refine s_ret2 (imp_RD ?_ shut)
        rfl
      | true =>
        rw [hr] at cr
        obtain ⟨Z, hZ⟩ : ∃ Z, Z = bl (List.replicate 24 0) := ⟨_, rfl⟩
        obtain ⟨T, hT⟩ : ∃ T, T = s.extract 424 448 := ⟨_, rfl⟩
        rw [← hZ] at c24 ⊢
        rw [← hT] at e448 ⊢
        by_cases ht : T = Z
        · rw [if_pos ⟨rfl, rfl, ht⟩]
          have hnn : ¬ T ≠ Z := fun h => h ht
          obtain ⟨E, hE⟩ : ∃ E, E = encKeys (keysX s) := ⟨_, rfl⟩
          rw [← hE] at hl2 h1E cr ⊢
          (repeat (first | refine g ?_ | refine s_flat 5 [(.pure, [0, 1, 3, 4]), (.mem false, [2]), (.pure, [5, 6])] ?_ | refine s_flat 18 [(.pure, [0, 1, 2]), (.mem true, [3]), (.mem false, [4]), (.pure, [5, 6, 7, 8, 9]), (.mem false, [10]), (.pure, [11, 12])] ?_))
          refine s_getall (hz := hl2) ?_
          (repeat (first | refine g ?_ | refine s_flat 5 [(.pure, [0, 1, 3, 4]), (.mem false, [2]), (.pure, [5, 6])] ?_ | refine s_flat 18 [(.pure, [0, 1, 2]), (.mem true, [3]), (.mem false, [4]), (.pure, [5, 6, 7, 8, 9]), (.mem false, [10]), (.pure, [11, 12])] ?_))
          refine s_call cr ?_
          (repeat (first | refine g ?_ | refine s_flat 5 [(.pure, [0, 1, 3, 4]), (.mem false, [2]), (.pure, [5, 6])] ?_ | refine s_flat 18 [(.pure, [0, 1, 2]), (.mem true, [3]), (.mem false, [4]), (.pure, [5, 6, 7, 8, 9]), (.mem false, [10]), (.pure, [11, 12])] ?_))
          refine s_to 70 (v := .string (s.extract (Int.toNat 424) s.size)) (w := .string T) (by rw [e448]) ?_
          refine s_call c24 ?_
          (repeat (first | refine g ?_ | refine s_flat 5 [(.pure, [0, 1, 3, 4]), (.mem false, [2]), (.pure, [5, 6])] ?_ | refine s_flat 18 [(.pure, [0, 1, 2]), (.mem true, [3]), (.mem false, [4]), (.pure, [5, 6, 7, 8, 9]), (.mem false, [10]), (.pure, [11, 12])] ?_))
          refine s_getall (hz := hl2) ?_
          (repeat (first | refine g ?_ | refine s_flat 5 [(.pure, [0, 1, 3, 4]), (.mem false, [2]), (.pure, [5, 6])] ?_ | refine s_flat 18 [(.pure, [0, 1, 2]), (.mem true, [3]), (.mem false, [4]), (.pure, [5, 6, 7, 8, 9]), (.mem false, [10]), (.pure, [11, 12])] ?_))
          refine s_putall (h1 := h1E) (hz := hl2) (hi := by rw [hl2]; exact h0z.symm) ?_
          (repeat (first | refine g ?_ | refine s_flat 5 [(.pure, [0, 1, 3, 4]), (.mem false, [2]), (.pure, [5, 6])] ?_ | refine s_flat 18 [(.pure, [0, 1, 2]), (.mem true, [3]), (.mem false, [4]), (.pure, [5, 6, 7, 8, 9]), (.mem false, [10]), (.pure, [11, 12])] ?_))
          refine run_ret2 (imp_RD ?_ shut) rfl (res_cell tabOk rfl rfl rfl (by repeat (first | (with_reducible exact At.head) | apply At.tail)) hl2) (res_tmp rfl)
          rfl
        · rw [if_neg (by rintro ⟨_, _, h⟩; exact ht h)]
          (repeat (first | refine g ?_ | refine s_flat 5 [(.pure, [0, 1, 3, 4]), (.mem false, [2]), (.pure, [5, 6])] ?_ | refine s_flat 18 [(.pure, [0, 1, 2]), (.mem true, [3]), (.mem false, [4]), (.pure, [5, 6, 7, 8, 9]), (.mem false, [10]), (.pure, [11, 12])] ?_))
          refine s_getall (hz := hl2) ?_
          (repeat (first | refine g ?_ | refine s_flat 5 [(.pure, [0, 1, 3, 4]), (.mem false, [2]), (.pure, [5, 6])] ?_ | refine s_flat 18 [(.pure, [0, 1, 2]), (.mem true, [3]), (.mem false, [4]), (.pure, [5, 6, 7, 8, 9]), (.mem false, [10]), (.pure, [11, 12])] ?_))
          refine s_call cr ?_
          (repeat (first | refine g ?_ | refine s_flat 5 [(.pure, [0, 1, 3, 4]), (.mem false, [2]), (.pure, [5, 6])] ?_ | refine s_flat 18 [(.pure, [0, 1, 2]), (.mem true, [3]), (.mem false, [4]), (.pure, [5, 6, 7, 8, 9]), (.mem false, [10]), (.pure, [11, 12])] ?_))
          refine s_to 70 (v := .string (s.extract (Int.toNat 424) s.size)) (w := .string T) (by rw [e448]) ?_
          refine s_call c24 ?_
          (repeat (first | refine g ?_ | refine s_flat 5 [(.pure, [0, 1, 3, 4]), (.mem false, [2]), (.pure, [5, 6])] ?_ | refine s_flat 18 [(.pure, [0, 1, 2]), (.mem true, [3]), (.mem false, [4]), (.pure, [5, 6, 7, 8, 9]), (.mem false, [10]), (.pure, [11, 12])] ?_))
          refine s_ret2 (imp_RD ?_ shut)
          rfl
end Go.Proofs.Ytibookgcaboldaa.V
namespace Go.Proofs.Ytibookgcaboldaa.V
open Go.Proofs.Ytibookgcaboldaa.VL Go.Proofs.Ytibookgcaboldaa.VL.Sha
attribute [local irreducible] Run shaB sha
def slotR (b : ByteArray) : SlotT := if b = bl (List.replicate 96 0) then zeroS else ⟨true, (lev b.data.toList 1 4 : Nat), b.extract 5 21, b.extract 21 33, b.extract 33 81⟩
def slotsR (s : ByteArray) : List SlotT := (List.range 4).map fun i => slotR (slotAt s i)
def keysR (s : ByteArray) : KeysT := ⟨(lev s.data.toList 4 4 : Nat), slotsR s⟩
def ofR (s : ByteArray) : KeysT × Int :=
  if s.size < 448 then (zeroK, 3) else if 448 < s.size then (zeroK, 4) else if shaB (s.extract 0 392) ≠ s.extract 392 424 then (zeroK, 10) else
  if (bytesK (keysR s)).2 = 0 ∧ (bytesK (keysR s)).1 = s then (keysR s, 0) else (zeroK, 5)
end Go.Proofs.Ytibookgcaboldaa.V
namespace Go.Proofs.Ytibookgcaboldaa.V
open Go.Proofs.Ytibookgcaboldaa.VL Go.Proofs.Ytibookgcaboldaa.VL.Sha
attribute [local irreducible] sha shaB
theorem ext_list (s : ByteArray) (a b : Nat) : (s.extract a b).data.toList = (s.data.toList.drop a).take (b - a) := by
  rw [ByteArray.data_extract, Array.toList_extract, List.extract_eq_take_drop]
def sub (l : List UInt8) (a n : Nat) : List UInt8 := (l.drop a).take n
theorem drop_split (l : List UInt8) (a n : Nat) : l.drop a = sub l a n ++ l.drop (a + n) := by
  unfold sub
  rw [← List.drop_drop]
  exact (List.take_append_drop _ _).symm
theorem app_iff {a a' b b' : List UInt8} (h : a.length = a'.length) : a ++ b = a' ++ b' ↔ a = a' ∧ b = b' :=
  ⟨fun e => List.append_inj e h, fun ⟨h1, h2⟩ => by rw [h1, h2]⟩
theorem sub_len (l : List UInt8) (a n : Nat) (h : a + n ≤ l.length) : (sub l a n).length = n := by
  unfold sub; rw [List.length_take, List.length_drop]; omega
theorem ring_split (l : List UInt8) : l = sub l 0 4 ++ (sub l 4 4 ++ (sub l 8 96 ++ (sub l 104 96 ++ (sub l 200 96 ++ (sub l 296 96 ++ (sub l 392 32 ++ l.drop 424)))))) := by
  have e0 := drop_split l 0 4
  have e1 := drop_split l 4 4
  have e2 := drop_split l 8 96
  have e3 := drop_split l 104 96
  have e4 := drop_split l 200 96
  have e5 := drop_split l 296 96
  have e6 := drop_split l 392 32
  rw [List.drop_zero] at e0
  rw [← e6, ← e5, ← e4, ← e3, ← e2, ← e1, ← e0]
theorem ring_iff (g : Int) (s0 s1 s2 s3 : SlotT) (l : List UInt8) (hl : l.length = 448) (h : rightK ⟨g, [s0, s1, s2, s3]⟩ = true) :
    ringL ⟨g, [s0, s1, s2, s3]⟩ = l ↔ [82, 73, 78, 71] = sub l 0 4 ∧ leb g.toNat 4 = sub l 4 4 ∧ slotL s0 = sub l 8 96 ∧ slotL s1 = sub l 104 96 ∧ slotL s2 = sub l 200 96 ∧ slotL s3 = sub l 296 96 ∧
      sha (bodyL ⟨g, [s0, s1, s2, s3]⟩ 4) = sub l 392 32 ∧ List.replicate 24 0 = l.drop 424 := by
  have hr := right_all h
  have h0 := slotL_len (hr s0 (by simp))
  have h1 := slotL_len (hr s1 (by simp))
  have h2 := slotL_len (hr s2 (by simp))
  have h3 := slotL_len (hr s3 (by simp))
  have e : ringL ⟨g, [s0, s1, s2, s3]⟩ = [82, 73, 78, 71] ++ (leb g.toNat 4 ++ (slotL s0 ++ (slotL s1 ++ (slotL s2 ++ (slotL s3 ++ (sha (bodyL ⟨g, [s0, s1, s2, s3]⟩ 4) ++ List.replicate 24 0)))))) := by
    unfold ringL
    conv => lhs; lhs; lhs; unfold bodyL
    simp [List.append_assoc]
  rw [e]
  conv => lhs; rhs; rw [ring_split l]
  rw [app_iff (by rw [sub_len _ _ _ (by omega)]; rfl), app_iff (by rw [sub_len _ _ _ (by omega), leb_length]), app_iff (by rw [sub_len _ _ _ (by omega), h0]), app_iff (by rw [sub_len _ _ _ (by omega), h1]),
    app_iff (by rw [sub_len _ _ _ (by omega), h2]), app_iff (by rw [sub_len _ _ _ (by omega), h3]), app_iff (by rw [sub_len _ _ _ (by omega), sha_len])]
theorem body_of (g : Int) (s0 s1 s2 s3 : SlotT) (l : List UInt8) (h0 : [82, 73, 78, 71] = sub l 0 4) (h1 : leb g.toNat 4 = sub l 4 4) (h2 : slotL s0 = sub l 8 96) (h3 : slotL s1 = sub l 104 96) (h4 : slotL s2 = sub l 200 96) (h5 : slotL s3 = sub l 296 96) :
    bodyL ⟨g, [s0, s1, s2, s3]⟩ 4 = l.take 392 := by
  have hs := ring_split l
  have e : l.take 392 = sub l 0 4 ++ (sub l 4 4 ++ (sub l 8 96 ++ (sub l 104 96 ++ (sub l 200 96 ++ sub l 296 96)))) := by
    have d0 : l = l.take 392 ++ l.drop 392 := (List.take_append_drop _ _).symm
    have d1 := drop_split l 392 32
    have d2 : l = (sub l 0 4 ++ (sub l 4 4 ++ (sub l 8 96 ++ (sub l 104 96 ++ (sub l 200 96 ++ sub l 296 96))))) ++ l.drop 392 := by
      rw [d1]; simpa [List.append_assoc] using hs
    exact List.append_cancel_right (d0.symm.trans d2)
  rw [e, ← h0, ← h1, ← h2, ← h3, ← h4, ← h5]
  unfold bodyL
  simp
theorem lev_leb (s : List UInt8) (o : Nat) : ∀ (i n : Nat), (∀ j, j < i → s.getD (o + j) 0 = UInt8.ofNat (n / 256 ^ j % 256)) → lev s o i = n % 256 ^ i
  | 0, n, _ => by simp [lev, Nat.mod_one]
  | i + 1, n, h => by
    have e : (UInt8.ofNat (n / 256 ^ i % 256)).toNat = n / 256 ^ i % 256 := by rw [UInt8.toNat_ofNat']; exact Nat.mod_eq_of_lt (Nat.mod_lt _ (by decide))
    rw [lev, lev_leb s o i n (fun j hj => h j (by omega)), h i (by omega), e, Nat.pow_succ 256 i, Nat.mod_mul, Nat.mul_comm (n / 256 ^ i % 256)]
theorem leb_getD (n k j : Nat) (h : j < k) : (leb n k).getD j 0 = UInt8.ofNat (n / 256 ^ j % 256) := by
  unfold leb
  simp [List.getD_eq_getElem?_getD, h]
theorem sub_getD (l : List UInt8) (a n j : Nat) (h : j < n) : (sub l a n).getD j 0 = l.getD (a + j) 0 := by
  unfold sub
  rw [List.getD_eq_getElem?_getD, List.getD_eq_getElem?_getD, List.getElem?_take, if_pos h, List.getElem?_drop]
theorem lev_of_sub (l : List UInt8) (a n : Nat) (h : leb n 4 = sub l a 4) (hn : n < 4294967296) : lev l a 4 = n := by
  rw [lev_leb l a 4 n (fun j hj => by rw [← sub_getD l a 4 j hj, ← h, leb_getD n 4 j hj])]
  exact Nat.mod_eq_of_lt (by simpa using hn)
theorem lev_digit (s : List UInt8) (o : Nat) : ∀ (i j : Nat), j < i → lev s o i / 256 ^ j % 256 = (s.getD (o + j) 0).toNat
  | 0, j, h => absurd h (by omega)
  | i + 1, j, h => by
    have hb : (s.getD (o + i) 0).toNat < 256 := (s.getD (o + i) 0).toNat_lt
    rw [lev]
    rcases Nat.lt_or_ge j i with hj | hj
    · have e : 256 ^ i = 256 ^ j * (256 * 256 ^ (i - j - 1)) := by
        rw [← Nat.mul_assoc, ← Nat.pow_succ, ← Nat.pow_add]; congr 1; omega
      rw [e, ← Nat.mul_assoc, Nat.mul_comm _ (256 ^ j), Nat.mul_assoc, Nat.add_mul_div_left _ _ (Nat.pow_pos (by decide))]
      rw [show (s.getD (o + i) 0).toNat * (256 * 256 ^ (i - j - 1)) = 256 * ((s.getD (o + i) 0).toNat * 256 ^ (i - j - 1)) by rw [Nat.mul_left_comm], Nat.add_mul_mod_self_left]
      exact lev_digit s o i j hj
    · obtain rfl : j = i := by omega
      rw [Nat.add_mul_div_right _ _ (Nat.pow_pos (by decide)), Nat.div_eq_of_lt (lev_lt s o j), Nat.zero_add, Nat.mod_eq_of_lt hb]
theorem leb_lev (l : List UInt8) (a : Nat) (h : a + 4 ≤ l.length) : leb (lev l a 4) 4 = sub l a 4 := by
  refine List.ext_getElem (by rw [leb_length, sub_len _ _ _ h]) fun j h1 h2 => ?_
  rw [leb_length] at h1
  have e1 := leb_getD (lev l a 4) 4 j h1
  have e2 := sub_getD l a 4 j h1
  rw [lev_digit l a 4 j h1] at e1
  rw [List.getD_eq_getElem?_getD, List.getElem?_eq_getElem (by rw [leb_length]; exact h1)] at e1
  rw [List.getD_eq_getElem?_getD, List.getElem?_eq_getElem h2] at e2
  simp only [Option.getD_some] at e1 e2
  rw [e1, e2]
  exact UInt8.ofNat_toNat
end Go.Proofs.Ytibookgcaboldaa.V
namespace Go.Proofs.Ytibookgcaboldaa.V
open Go.Proofs.Ytibookgcaboldaa.VL Go.Proofs.Ytibookgcaboldaa.VL.Sha
attribute [local irreducible] sha
theorem slotAt_list (s : ByteArray) (i : Nat) : (slotAt s i).data.toList = sub s.data.toList (8 + 96 * i) 96 := by
  unfold slotAt sub
  rw [ext_list, show 8 + 96 * i + 96 - (8 + 96 * i) = 96 by omega]
theorem bl_eq {l : List UInt8} {b : ByteArray} : bl l = b ↔ l = b.data.toList := ⟨fun h => by rw [← h]; rfl, fun h => by rw [h]; exact bl_back b⟩
theorem slot_iff (b : ByteArray) : ((slotP b).2 = true ↔ rightF (slotR b) = true ∧ slotL (slotR b) = b.data.toList) ∧ ((slotP b).2 = true → (slotP b).1 = slotR b) := by
  unfold slotP slotR
  by_cases h : b = bl (List.replicate 96 0)
  · rw [if_pos h, if_pos h]
    refine ⟨⟨fun _ => ⟨by decide, ?_⟩, fun _ => rfl⟩, fun _ => rfl⟩
    rw [h]; rfl
  · rw [if_neg h, if_neg h]
    dsimp only
    have key : (slotX b).used = true → slotX b = ⟨true, (lev b.data.toList 1 4 : Nat), b.extract 5 21, b.extract 21 33, b.extract 33 81⟩ := fun hu => by
      have hu' : decide (bAt b 0 = 1) = true := hu
      unfold slotX
      rw [hu']
    refine ⟨⟨fun hh => ?_, fun ⟨h1, h2⟩ => ?_⟩, fun hh => ?_⟩
    · simp only [Bool.and_eq_true, decide_eq_true_eq] at hh
      rw [← key hh.1]
      exact ⟨hh.2.1, bl_eq.1 hh.2.2⟩
    · have hb : bAt b 0 = 1 := by
        unfold bAt
        rw [← h2]; rfl
      have hu : (slotX b).used = true := decide_eq_true hb
      rw [key hu]
      simp only [Bool.and_eq_true, decide_eq_true_eq]
      exact ⟨trivial, h1, bl_eq.2 h2⟩
    · simp only [Bool.and_eq_true, decide_eq_true_eq] at hh
      exact key hh.1
theorem okX4 (s : ByteArray) : okX s 4 = true ↔ s.extract 0 4 = ⟨#[82, 73, 78, 71]⟩ ∧ (slotP (slotAt s 0)).2 = true ∧ (slotP (slotAt s 1)).2 = true ∧ (slotP (slotAt s 2)).2 = true ∧ (slotP (slotAt s 3)).2 = true := by
  simp only [okX, Bool.and_eq_true, decide_eq_true_eq]
  constructor
  · rintro ⟨⟨⟨⟨a, b⟩, c⟩, d⟩, e⟩; exact ⟨a, b, c, d, e⟩
  · rintro ⟨a, b, c, d, e⟩; exact ⟨⟨⟨⟨a, b⟩, c⟩, d⟩, e⟩
theorem slotsR_eq (s : ByteArray) : slotsR s = [slotR (slotAt s 0), slotR (slotAt s 1), slotR (slotAt s 2), slotR (slotAt s 3)] := rfl
theorem slotsP_eq (s : ByteArray) : slotsP s = [(slotP (slotAt s 0)).1, (slotP (slotAt s 1)).1, (slotP (slotAt s 2)).1, (slotP (slotAt s 3)).1] := rfl
theorem bytesK_ok {k : KeysT} {s : ByteArray} : ((bytesK k).2 = 0 ∧ (bytesK k).1 = s) ↔ (rightK k = true ∧ ringL k = s.data.toList) := by
  unfold bytesK
  cases h : rightK k with
  | true => rw [if_pos rfl]; exact ⟨fun hh => ⟨rfl, bl_eq.1 hh.2⟩, fun hh => ⟨rfl, bl_eq.2 hh.2⟩⟩
  | false => rw [if_neg (by decide)]; exact ⟨fun hh => absurd hh.1 (by decide), fun hh => absurd hh.1 (by decide)⟩
theorem tail_iff (s : ByteArray) (hz : s.size = 448) : s.extract 424 448 = bl (List.replicate 24 0) ↔ List.replicate 24 0 = s.data.toList.drop 424 := by
  have e : (s.extract 424 448).data.toList = s.data.toList.drop 424 := by
    rw [ext_list]
    exact List.take_of_length_le (by rw [List.length_drop, list_size, hz]; decide)
  rw [eq_comm, bl_eq, e]
theorem head_iff (s : ByteArray) : s.extract 0 4 = ⟨#[82, 73, 78, 71]⟩ ↔ [82, 73, 78, 71] = sub s.data.toList 0 4 := by
  rw [eq_comm, show (⟨#[82, 73, 78, 71]⟩ : ByteArray) = bl [82, 73, 78, 71] from rfl, bl_eq, ext_list]; rfl
/-- Where the sum is right: the program reads just what the document reads. -/
theorem reads_iff (s : ByteArray) (hz : s.size = 448) (hsum : shaB (s.extract 0 392) = s.extract 392 424) :
    ((okX s 4 = true ∧ rightK (keysX s) = true ∧ s.extract 424 448 = bl (List.replicate 24 0)) ↔ ((bytesK (keysR s)).2 = 0 ∧ (bytesK (keysR s)).1 = s)) ∧ (okX s 4 = true → keysX s = keysR s) := by
  have hl : s.data.toList.length = 448 := by rw [list_size, hz]
  have hs : sha (s.data.toList.take 392) = sub s.data.toList 392 32 := by
    have this : (shaB (s.extract 0 392)).data.toList = (s.extract 392 424).data.toList := by rw [hsum]
    rw [ext_list s 392 424] at this
    rw [show s.data.toList.take 392 = (s.extract 0 392).data.toList by rw [ext_list]; rfl]
    unfold shaB at this
    exact this
  have hkk : okX s 4 = true → keysX s = keysR s := fun h => by
    obtain ⟨_, h0, h1, h2, h3⟩ := (okX4 s).1 h
    unfold keysX keysR
    rw [slotsP_eq, slotsR_eq, (slot_iff _).2 h0, (slot_iff _).2 h1, (slot_iff _).2 h2, (slot_iff _).2 h3]
  refine ⟨?_, hkk⟩
  rw [bytesK_ok]
  have hleb : leb ((lev s.data.toList 4 4 : Nat) : Int).toNat 4 = sub s.data.toList 4 4 := by rw [Int.toNat_natCast]; exact leb_lev _ _ (by omega)
  constructor
  · rintro ⟨h, hr, ht⟩
    rw [hkk h] at hr
    refine ⟨hr, ?_⟩
    obtain ⟨hm, h0, h1, h2, h3⟩ := (okX4 s).1 h
    have e0 := ((slot_iff _).1.1 h0).2
    have e1 := ((slot_iff _).1.1 h1).2
    have e2 := ((slot_iff _).1.1 h2).2
    have e3 := ((slot_iff _).1.1 h3).2
    rw [slotAt_list] at e0 e1 e2 e3
    unfold keysR at hr ⊢
    rw [slotsR_eq] at hr ⊢
    refine (ring_iff _ _ _ _ _ _ hl hr).2 ⟨(head_iff s).1 hm, hleb, e0, e1, e2, e3, ?_, (tail_iff s hz).1 ht⟩
    rw [body_of _ _ _ _ _ s.data.toList ((head_iff s).1 hm) hleb e0 e1 e2 e3]
    exact hs
  · rintro ⟨hr, h⟩
    have hr' := hr
    unfold keysR at hr h
    rw [slotsR_eq] at hr h
    obtain ⟨hm, _, e0, e1, e2, e3, _, ht⟩ := (ring_iff _ _ _ _ _ _ hl hr).1 h
    have ha := right_all hr
    have f0 := (slot_iff (slotAt s 0)).1.2 ⟨ha _ (by simp), by rw [slotAt_list]; exact e0⟩
    have f1 := (slot_iff (slotAt s 1)).1.2 ⟨ha _ (by simp), by rw [slotAt_list]; exact e1⟩
    have f2 := (slot_iff (slotAt s 2)).1.2 ⟨ha _ (by simp), by rw [slotAt_list]; exact e2⟩
    have f3 := (slot_iff (slotAt s 3)).1.2 ⟨ha _ (by simp), by rw [slotAt_list]; exact e3⟩
    have hok := (okX4 s).2 ⟨(head_iff s).2 hm, f0, f1, f2, f3⟩
    exact ⟨hok, by rw [hkk hok]; exact hr', (tail_iff s hz).2 ht⟩
theorem of_eq (s : ByteArray) : ofP s = ofR s := by
  unfold ofP ofR
  by_cases h1 : s.size < 448
  · rw [if_pos h1, if_pos h1]
  rw [if_neg h1, if_neg h1]
  by_cases h2 : 448 < s.size
  · rw [if_pos h2, if_pos h2]
  rw [if_neg h2, if_neg h2]
  by_cases h3 : shaB (s.extract 0 392) ≠ s.extract 392 424
  · rw [if_pos h3, if_pos h3]
  rw [if_neg h3, if_neg h3]
  obtain ⟨hi, hk⟩ := reads_iff s (by omega) (Classical.not_not.1 h3)
  by_cases h4 : okX s 4 = true ∧ rightK (keysX s) = true ∧ s.extract 424 448 = bl (List.replicate 24 0)
  · rw [if_pos h4, if_pos (hi.1 h4), hk h4.1]
  · rw [if_neg h4, if_neg (fun h => h4 (hi.2 h))]
end Go.Proofs.Ytibookgcaboldaa.V
namespace Go.Proofs.Ytibookgcaboldaa.V
open Go.Proofs.Ytibookgcaboldaa.VL Go.Proofs.Ytibookgcaboldaa.VL.Sha
attribute [local irreducible] sha
theorem sub_mid (A B C : List UInt8) (a n : Nat) (ha : A.length = a) (hn : B.length = n) : sub (A ++ (B ++ C)) a n = B := by
  subst ha hn
  unfold sub
  rw [List.drop_left, List.take_left]
theorem slotR_back (s : SlotT) (h : rightF s = true) (b : ByteArray) (hb : slotL s = b.data.toList) : slotR b = s := by
  cases hu : s.used with
  | false =>
    obtain rfl := right_unused h hu
    have e : b = bl (List.replicate 96 0) := (bl_eq.2 (show List.replicate 96 0 = b.data.toList from hb)).symm
    unfold slotR
    rw [if_pos e]
  | true =>
    obtain ⟨g1, g2, g3, g4, g5⟩ := right_used h hu
    obtain ⟨u, r, sa, no, se⟩ := s
    obtain rfl : u = true := hu
    dsimp only at g1 g2 g3 g4 g5
    obtain ⟨m, rfl⟩ : ∃ m : Nat, r = m := ⟨r.toNat, by omega⟩
    have e : b.data.toList = [1] ++ leb m 4 ++ sa.data.toList ++ no.data.toList ++ se.data.toList ++ List.replicate 15 0 := by
      rw [← hb]; unfold slotL; rw [if_pos rfl]; rfl
    have hne : ¬ b = bl (List.replicate 96 0) := fun hh => by
      have := congrArg (fun x : ByteArray => x.data.toList.getD 0 0) hh
      simp only [e] at this
      exact absurd (show (1 : UInt8) = 0 from this) (by decide)
    have h3 : sa.data.toList.length = 16 := by rw [list_size, g3]
    have h4 : no.data.toList.length = 12 := by rw [list_size, g4]
    have h5 : se.data.toList.length = 48 := by rw [list_size, g5]
    have e1 : leb m 4 = sub b.data.toList 1 4 := by
      rw [e]; simp only [List.append_assoc]
      exact (sub_mid _ _ _ 1 4 rfl (leb_length m 4)).symm
    have e3 : (b.extract 5 21) = sa := by
      refine bytes_ext ?_
      rw [ext_list, e]
      have := sub_mid ([1] ++ leb m 4) sa.data.toList (no.data.toList ++ (se.data.toList ++ List.replicate 15 0)) 5 16 (by rw [List.length_append, leb_length]; rfl) h3
      unfold sub at this
      simpa only [List.append_assoc] using this
    have e4 : (b.extract 21 33) = no := by
      refine bytes_ext ?_
      rw [ext_list, e]
      have := sub_mid ([1] ++ leb m 4 ++ sa.data.toList) no.data.toList (se.data.toList ++ List.replicate 15 0) 21 12 (by rw [List.length_append, List.length_append, leb_length, h3]; rfl) h4
      unfold sub at this
      simpa only [List.append_assoc] using this
    have e5 : (b.extract 33 81) = se := by
      refine bytes_ext ?_
      rw [ext_list, e]
      have := sub_mid ([1] ++ leb m 4 ++ sa.data.toList ++ no.data.toList) se.data.toList (List.replicate 15 0) 33 48 (by rw [List.length_append, List.length_append, List.length_append, leb_length, h3, h4]; rfl) h5
      unfold sub at this
      simpa only [List.append_assoc] using this
    unfold slotR
    rw [if_neg hne, e3, e4, e5, lev_of_sub b.data.toList 1 m e1 (by omega)]
theorem ringL_len (k : KeysT) (h : rightK k = true) (hk : k.sl.length = 4) : (ringL k).length = 448 := by
  unfold ringL
  rw [List.length_append, List.length_append, bodyL_len k h 4 (by omega), sha_len, List.length_replicate]
theorem ring_back (k : KeysT) (h : rightK k = true) (hk : k.sl.length = 4) : ofP (bl (ringL k)) = (k, 0) := by
  have hl := ringL_len k h hk
  have hz : (bl (ringL k)).size = 448 := by rw [bl_size, hl]
  have hg := rightK_gen h
  have hb := bytesK_ok (k := k) (s := bl (ringL k))
  have hall := right_all h
  rw [of_eq]
  obtain ⟨g, sl⟩ := k
  obtain ⟨n, rfl⟩ : ∃ n : Nat, g = n := ⟨g.toNat, by dsimp only at hg; omega⟩
  match sl, hk with
  | [s0, s1, s2, s3], _ =>
    obtain ⟨e0, e1, e2, e3, e4, e5, e6, e7⟩ := (ring_iff _ _ _ _ _ _ hl h).1 rfl
    have hbd := body_of _ _ _ _ _ _ e0 e1 e2 e3 e4 e5
    obtain ⟨L, hL⟩ : ∃ L, L = ringL ⟨(n : Int), [s0, s1, s2, s3]⟩ := ⟨_, rfl⟩
    rw [← hL] at hz hb e0 e1 e2 e3 e4 e5 e6 e7 hbd hl ⊢
    have hsum : shaB ((bl L).extract 0 392) = (bl L).extract 392 424 := by
      refine bytes_ext ?_
      rw [ext_list]
      show sha ((bl L).extract 0 392).data.toList = _
      rw [ext_list]
      show sha (L.take 392) = sub L 392 32
      rw [← hbd]; exact e6
    have hkk : keysR (bl L) = ⟨(n : Int), [s0, s1, s2, s3]⟩ := by
      unfold keysR
      rw [slotsR_eq, slotR_back s0 (hall _ (by simp)) _ (by rw [slotAt_list]; exact e2), slotR_back s1 (hall _ (by simp)) _ (by rw [slotAt_list]; exact e3), slotR_back s2 (hall _ (by simp)) _ (by rw [slotAt_list]; exact e4), slotR_back s3 (hall _ (by simp)) _ (by rw [slotAt_list]; exact e5)]
      rw [show lev (bl L).data.toList 4 4 = n from lev_of_sub L 4 n e1 (by dsimp only at hg; omega)]
    unfold ofR
    rw [if_neg (by omega), if_neg (by omega), if_neg (fun hh => hh hsum), hkk, if_pos (hb.2 ⟨h, rfl⟩)]
/-- What is read has those bytes. -/
theorem of_bytes (s : ByteArray) (h : (ofP s).2 = 0) : bytesK (ofP s).1 = (s, 0) := by
  rw [of_eq] at h ⊢
  unfold ofR at h ⊢
  split at h
  · cases h
  · rename_i h1
    rw [if_neg h1]
    split at h
    · cases h
    · rename_i h2
      rw [if_neg h2]
      split at h
      · cases h
      · rename_i h3
        rw [if_neg h3]
        split at h
        · rename_i h4
          rw [if_pos h4]
          exact Prod.ext h4.2 h4.1
        · cases h
end Go.Proofs.Ytibookgcaboldaa.V
namespace Go.Proofs.Ytibookgcaboldaa.V
open Go.Proofs.Ytibookgcaboldaa.VL Go.Proofs.Ytibookgcaboldaa.VL.Sha
attribute [local irreducible] Run sha shaB
theorem ofP_ok (s : ByteArray) : KeysOk (ofP s).1 := by
  unfold ofP
  split
  · exact zeroK_ok
  · split
    · exact zeroK_ok
    · split
      · exact zeroK_ok
      · split
        · exact keysX_ok s (by omega)
        · exact zeroK_ok
theorem backLaw_spec (q : View) (k : KeysT) (hk : KeysOk k) (s : ByteArray) (hs : s.size ≤ 9223372036854775807) : FnD Try.prog q 11 [.agg ⟨encKeys k⟩, .string s] [] (.bool true) [] := by
  have c1 := bytes_spec q k hk
  have c3 := of_spec q s hs
  have hM := ofP_ok s
  have c5 := awake_spec q
  have hback := of_bytes s
  obtain ⟨⟨M, ge⟩, hO⟩ : ∃ O, O = ofP s := ⟨_, rfl⟩
  rw [← hO] at c3 hM hback
  dsimp only at c3 hM hback
  have c4 := bytes_spec q M hM
  obtain ⟨⟨B, h⟩, hB⟩ : ∃ B, B = bytesK M := ⟨_, rfl⟩
  rw [← hB] at c4 hback
  dsimp only at c4
  have hl := encKeys_len hk.len
  have h1 := encKeys_one k
  have kl := keys_lits k hk
  have hfm := keys_formed (encKeys k) hl
  have hlM := encKeys_len hM.len
  have h1M := encKeys_one M
  obtain ⟨F, hF⟩ : ∃ F, F = encKeys M := ⟨_, rfl⟩
  rw [← hF] at hlM h1M c3 c4
  unfold bytesK at c1
  cases hr : rightK k with
  | false =>
    rw [hr, if_neg (by decide)] at c1
    dsimp only at c1
    have c2 := of_spec q ⟨#[]⟩ (by decide)
    rw [show ofP ⟨#[]⟩ = (zeroK, 3) from rfl] at c2
    dsimp only at c2
    have hl0 := encKeys_len (k := zeroK) rfl
    have h10 := encKeys_one zeroK
    obtain ⟨E, hE⟩ : ∃ E, E = encKeys k := ⟨_, rfl⟩
    rw [← hE] at hl h1 kl c1 hfm ⊢
    obtain ⟨G, hG⟩ : ∃ G, G = encKeys zeroK := ⟨_, rfl⟩
    rw [← hG] at hl0 h10 c2
    (first | refine FnD.go Try.call11 Try.func11 rfl rfl rfl ?_ | refine FnX.go Try.call11 Try.func11 rfl rfl rfl ?_)
    (repeat (first | refine g ?_))
    refine s_box fun b => ?_
    refine s_ceq b E ?_ ?_
    · rfl
    (repeat (first | refine g ?_))
    refine s_getall (hz := hl) ?_
    (repeat (first | refine g ?_))
    refine s_call c1 ?_
    (repeat (first | refine g ?_))
    refine s_call c2 ?_
    (repeat (first | refine g ?_))
    refine s_alloc fun b1 => ?_
    (repeat (first | refine g ?_))
    refine s_putall (h1 := h10) (hz := hl0) (hi := by rw [hl0]; rfl) ?_
    (repeat (first | refine g ?_))
    refine s_call c3 ?_
    (repeat (first | refine g ?_))
    refine s_alloc fun b2 => ?_
    (repeat (first | refine g ?_))
    refine s_putall (h1 := h1M) (hz := hlM) (hi := by rw [hlM]; rfl) ?_
    (repeat (first | refine g ?_))
    refine s_getall (hz := hlM) ?_
    (repeat (first | refine g ?_))
    refine s_call c4 ?_
    by_cases hg : ge ≠ 0
    · (repeat (first | refine g ?_))
      refine s_call c5 ?_
      (repeat (first | refine g ?_))
      exact run_ret rfl (imp_RD rfl shut)
    · obtain rfl : ge = 0 := Classical.not_not.1 hg
      obtain ⟨rfl, rfl⟩ : B = s ∧ h = 0 := by
        have := hback rfl
        exact ⟨congrArg Prod.fst this, congrArg Prod.snd this⟩
      (repeat (first | refine g ?_))
      refine s_call c5 ?_
      (repeat (first | refine g ?_))
      exact run_ret rfl (imp_RD rfl shut)
  | true =>
    rw [hr, if_pos rfl] at c1
    dsimp only at c1
    have c2 := of_spec q (bl (ringL k)) (by rw [bl_size, ringL_len k hr hk.len]; decide)
    rw [ring_back k hr hk.len] at c2
    dsimp only at c2
    obtain ⟨E, hE⟩ : ∃ E, E = encKeys k := ⟨_, rfl⟩
    rw [← hE] at hl h1 kl c1 c2 hfm ⊢
    obtain ⟨A, hA⟩ : ∃ A, A = bl (ringL k) := ⟨_, rfl⟩
    rw [← hA] at c1 c2
    (first | refine FnD.go Try.call11 Try.func11 rfl rfl rfl ?_ | refine FnX.go Try.call11 Try.func11 rfl rfl rfl ?_)
    (repeat (first | refine g ?_))
    refine s_box fun b => ?_
    refine s_ceq b E ?_ ?_
    · rfl
    (repeat (first | refine g ?_))
    refine s_getall (hz := hl) ?_
    (repeat (first | refine g ?_))
    refine s_call c1 ?_
    (repeat (first | refine g ?_))
    refine s_call c2 ?_
    (repeat (first | refine g ?_))
    refine s_alloc fun b1 => ?_
    (repeat (first | refine g ?_))
    refine s_putall (h1 := h1) (hz := hl) (hi := by rw [hl]; rfl) ?_
    (repeat (first | refine g ?_))
    refine s_call c3 ?_
    (repeat (first | refine g ?_))
    refine s_alloc fun b2 => ?_
    (repeat (first | refine g ?_))
    refine s_putall (h1 := h1M) (hz := hlM) (hi := by rw [hlM]; rfl) ?_
    (repeat (first | refine g ?_))
    refine s_getall (hz := hlM) ?_
    (repeat (first | refine g ?_))
    refine s_call c4 ?_
    (repeat (first | refine g ?_))
    refine s_getall (hz := hl) ?_
    (repeat (first | refine g ?_))
    refine s_getall (hz := hl) ?_
    (repeat (first | refine g ?_))
    refine s_eqk 6 4 true (la := litsK k) (lb := litsK k) ?_ ?_ (fa := hfm) (fb := hfm) (ka := kl) (kb := kl)
    · simp
    by_cases hg : ge ≠ 0
    · (repeat (first | refine g ?_))
      refine s_call c5 ?_
      (repeat (first | refine g ?_))
      exact run_ret rfl (imp_RD rfl shut)
    · obtain rfl : ge = 0 := Classical.not_not.1 hg
      obtain ⟨rfl, rfl⟩ : B = s ∧ h = 0 := by
        have := hback rfl
        exact ⟨congrArg Prod.fst this, congrArg Prod.snd this⟩
      (repeat (first | refine g ?_))
      refine s_call c5 ?_
      (repeat (first | refine g ?_))
      exact run_ret rfl (imp_RD rfl shut)
end Go.Proofs.Ytibookgcaboldaa.V
namespace Go.Proofs.Ytibookgcaboldaa.V
open Go.Proofs.Ytibookgcaboldaa.VL Go.Proofs.Ytibookgcaboldaa.VL.Sha
attribute [local irreducible] Run sha shaB sealB stretchB bndB
end Go.Proofs.Ytibookgcaboldaa.V
