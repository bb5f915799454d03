/- A block on a device, plainly: what was put is read again, behind a flush too, until a sector is spoilt. -/
import Derived.Test.YtajndpddlpnbkaaGreatDoorBDa
import Derived.Test.YtajndpddlpnbkaaGreatDoorBKa
import Derived.Test.YtajndpddlpnbkaaGreatDoorNAa
set_option maxRecDepth 10000
set_option linter.unusedVariables false
namespace Go.Proofs.YtajndpddlpnbkaaGreatDoor.V
open Go.Proofs.YtajndpddlpnbkaaGreatDoor.VL Go.Proofs.YtajndpddlpnbkaaGreatDoor.VL.RD Go.Proofs.YtajndpddlpnbkaaGreatDoor.VL.Sha
attribute [local irreducible] Run numB
end Go.Proofs.YtajndpddlpnbkaaGreatDoor.V
namespace Go.Proofs.YtajndpddlpnbkaaGreatDoor.V
open Go.Proofs.YtajndpddlpnbkaaGreatDoor.VL Go.Proofs.YtajndpddlpnbkaaGreatDoor.VL.RD Go.Proofs.YtajndpddlpnbkaaGreatDoor.VL.Sha
attribute [local irreducible] Run numB
theorem bputs_spec (q : View) (hE : ErrQ q) (n : Int) (sp : Option Addr) (sc : Nat) (l : List MarkT) (hs : MarksQ q sp l) (hl : l.length ≤ 9223372036854775807) (a : Int) (raw : ByteArray) (hz : raw.size ≤ 140737488351232) (fuse : Int) (hf : fuse ≤ 9223372036854775807) :
    FnD Tryz.prog q 3 [.int .i64 n, .slice sp l.length sc, .int .i64 a, .string raw, .int .i64 fuse] [] (.bool true) [] := by
  by_cases hn : n < 0 ∨ 32768 < n
  · (first | refine FnD.go Tryz.call3 Tryz.func3 rfl rfl rfl ?_ | refine FnX.go Tryz.call3 Tryz.func3 rfl rfl rfl ?_)
    (repeat (first | refine g ?_))
    refine s_call (both_bad q n hn _) ?_
    (repeat (first | refine g ?_))
    refine s_call (awake6_spec q) ?_
    (repeat (first | refine g ?_))
    exact run_ret rfl (imp_RD rfl shut)
  obtain ⟨m, rfl⟩ : ∃ m : Nat, n = m := ⟨n.toNat, by omega⟩
  have cb := both_spec q m (by omega) sp sc l hs hl
  by_cases h80 : 80 < m
  · (first | refine FnD.go Tryz.call3 Tryz.func3 rfl rfl rfl ?_ | refine FnX.go Tryz.call3 Tryz.func3 rfl rfl rfl ?_)
    (repeat (first | refine g ?_))
    refine s_callx cb fun ⟨⟨b, c⟩, ⟨⟨s, t⟩, hT⟩⟩ => ?_
    dsimp only
    (repeat (first | refine g ?_))
    refine s_call (awake6_spec q) ?_
    (repeat (first | refine g ?_))
    exact run_ret rfl (imp_RD rfl shut)
  by_cases h1000 : 1000 < raw.size
  · (first | refine FnD.go Tryz.call3 Tryz.func3 rfl rfl rfl ?_ | refine FnX.go Tryz.call3 Tryz.func3 rfl rfl rfl ?_)
    (repeat (first | refine g ?_))
    refine s_callx cb fun ⟨⟨b, c⟩, ⟨⟨s, t⟩, hT⟩⟩ => ?_
    dsimp only
    (repeat (first | refine g ?_))
    refine s_call (awake6_spec q) ?_
    (repeat (first | refine g ?_))
    exact run_ret rfl (imp_RD rfl shut)
  (first | refine FnD.go Tryz.call3 Tryz.func3 rfl rfl rfl ?_ | refine FnX.go Tryz.call3 Tryz.func3 rfl rfl rfl ?_)
  (repeat (first | refine g ?_))
  refine s_callx cb fun ⟨⟨b, c⟩, ⟨⟨s, t⟩, hT⟩⟩ => ?_
  dsimp only at hT ⊢
  have hB := hT.both.arm fuse hf
  have hP := hT.pw.arm fuse hf
  have ca := arm_spec q b s fuse
  have da := qarm_spec q c t fuse
  generalize (armF s fuse).2 = s1 at *
  generalize (qArmF t fuse).2 = t1 at *
  have hX := hB.2.bput (by omega) a raw
  have cp := bput_spec q hE b s1 40 hP (by omega) a raw (by omega)
  have dp := qbput_spec q c s1 t1 40 hB.2 (by omega) a raw (by omega)
  rw [hX.1] at dp
  generalize bputF s1 a raw = R at *
  generalize (qbputF t1 a raw).2 = T at *
  obtain ⟨e, S⟩ := R
  dsimp only at hX cp dp
  have hBB := hX.2
  have h2 := hBB.down
  have h4 := hBB.writes
  have h5 : T.wait.length = S.cache.length := congrArg _ hBB.cache
  (repeat (first | refine g ?_))
  refine s_call ca ?_
  (repeat (first | refine g ?_))
  refine s_call da ?_
  (repeat (first | refine g ?_))
  refine s_call cp ?_
  (repeat (first | refine g ?_))
  refine s_call dp ?_
  refine run_pull (X := qAt c T) (by (repeat (first | (with_reducible exact Pull.head) | apply Pull.tail))) ?_
  refine run_q fun pk ck pd cd pw cw => ?_
  unfold qParts
  (repeat (first | refine g ?_))
  refine d_start [plateAt b S] ?_
  (first | refine d_pure 0 ?_ | refine d_load 0 ?_ | refine d_arith 0 ?_ | refine d_rem 0 ?_ | refine d_quo 0 ?_ | refine d_shrv 0 ?_ | refine d_fieldat 0 ?_ | refine d_idx1 0 ?_ | refine d_index 0 ?_ | refine d_conv64 0 ?_ | refine d_slices 0 ?_ | refine d_concat 0 ?_ | refine d_build 0 ?_)
  (first | refine d_pure 1 ?_ | refine d_load 1 ?_ | refine d_arith 1 ?_ | refine d_rem 1 ?_ | refine d_quo 1 ?_ | refine d_shrv 1 ?_ | refine d_fieldat 1 ?_ | refine d_idx1 1 ?_ | refine d_index 1 ?_ | refine d_conv64 1 ?_ | refine d_slices 1 ?_ | refine d_concat 1 ?_ | refine d_build 1 ?_)
  (refine d_pure 2 ?_); refine d_is 53 (c := true) (decide_eq_true (p := e = e) rfl) ?_
  (first | refine d_pure 3 ?_ | refine d_load 3 ?_ | refine d_arith 3 ?_ | refine d_rem 3 ?_ | refine d_quo 3 ?_ | refine d_shrv 3 ?_ | refine d_fieldat 3 ?_ | refine d_idx1 3 ?_ | refine d_index 3 ?_ | refine d_conv64 3 ?_ | refine d_slices 3 ?_ | refine d_concat 3 ?_ | refine d_build 3 ?_)
  (first | refine d_pure 4 ?_ | refine d_load 4 ?_ | refine d_arith 4 ?_ | refine d_rem 4 ?_ | refine d_quo 4 ?_ | refine d_shrv 4 ?_ | refine d_fieldat 4 ?_ | refine d_idx1 4 ?_ | refine d_index 4 ?_ | refine d_conv64 4 ?_ | refine d_slices 4 ?_ | refine d_concat 4 ?_ | refine d_build 4 ?_)
  (first | refine d_pure 6 ?_ | refine d_load 6 ?_ | refine d_arith 6 ?_ | refine d_rem 6 ?_ | refine d_quo 6 ?_ | refine d_shrv 6 ?_ | refine d_fieldat 6 ?_ | refine d_idx1 6 ?_ | refine d_index 6 ?_ | refine d_conv64 6 ?_ | refine d_slices 6 ?_ | refine d_concat 6 ?_ | refine d_build 6 ?_)
  (first | refine d_pure 7 ?_ | refine d_load 7 ?_ | refine d_arith 7 ?_ | refine d_rem 7 ?_ | refine d_quo 7 ?_ | refine d_shrv 7 ?_ | refine d_fieldat 7 ?_ | refine d_idx1 7 ?_ | refine d_index 7 ?_ | refine d_conv64 7 ?_ | refine d_slices 7 ?_ | refine d_concat 7 ?_ | refine d_build 7 ?_)
  (first | refine d_pure 8 ?_ | refine d_load 8 ?_ | refine d_arith 8 ?_ | refine d_rem 8 ?_ | refine d_quo 8 ?_ | refine d_shrv 8 ?_ | refine d_fieldat 8 ?_ | refine d_idx1 8 ?_ | refine d_index 8 ?_ | refine d_conv64 8 ?_ | refine d_slices 8 ?_ | refine d_concat 8 ?_ | refine d_build 8 ?_)
  (first | refine d_pure 9 ?_ | refine d_load 9 ?_ | refine d_arith 9 ?_ | refine d_rem 9 ?_ | refine d_quo 9 ?_ | refine d_shrv 9 ?_ | refine d_fieldat 9 ?_ | refine d_idx1 9 ?_ | refine d_index 9 ?_ | refine d_conv64 9 ?_ | refine d_slices 9 ?_ | refine d_concat 9 ?_ | refine d_build 9 ?_)
  refine d_call 5 (writes_spec q b S) ?_
  (refine d_pure 10 ?_); refine d_is 61 (c := true) (decide_eq_true (p := S.writes = T.writes) h4.symm) ?_
  (first | refine d_pure 11 ?_ | refine d_load 11 ?_ | refine d_arith 11 ?_ | refine d_rem 11 ?_ | refine d_quo 11 ?_ | refine d_shrv 11 ?_ | refine d_fieldat 11 ?_ | refine d_idx1 11 ?_ | refine d_index 11 ?_ | refine d_conv64 11 ?_ | refine d_slices 11 ?_ | refine d_concat 11 ?_ | refine d_build 11 ?_)
  (first | refine d_pure 12 ?_ | refine d_load 12 ?_ | refine d_arith 12 ?_ | refine d_rem 12 ?_ | refine d_quo 12 ?_ | refine d_shrv 12 ?_ | refine d_fieldat 12 ?_ | refine d_idx1 12 ?_ | refine d_index 12 ?_ | refine d_conv64 12 ?_ | refine d_slices 12 ?_ | refine d_concat 12 ?_ | refine d_build 12 ?_)
  (first | refine d_pure 13 ?_ | refine d_load 13 ?_ | refine d_arith 13 ?_ | refine d_rem 13 ?_ | refine d_quo 13 ?_ | refine d_shrv 13 ?_ | refine d_fieldat 13 ?_ | refine d_idx1 13 ?_ | refine d_index 13 ?_ | refine d_conv64 13 ?_ | refine d_slices 13 ?_ | refine d_concat 13 ?_ | refine d_build 13 ?_)
  (first | refine d_pure 15 ?_ | refine d_load 15 ?_ | refine d_arith 15 ?_ | refine d_rem 15 ?_ | refine d_quo 15 ?_ | refine d_shrv 15 ?_ | refine d_fieldat 15 ?_ | refine d_idx1 15 ?_ | refine d_index 15 ?_ | refine d_conv64 15 ?_ | refine d_slices 15 ?_ | refine d_concat 15 ?_ | refine d_build 15 ?_)
  (first | refine d_pure 16 ?_ | refine d_load 16 ?_ | refine d_arith 16 ?_ | refine d_rem 16 ?_ | refine d_quo 16 ?_ | refine d_shrv 16 ?_ | refine d_fieldat 16 ?_ | refine d_idx1 16 ?_ | refine d_index 16 ?_ | refine d_conv64 16 ?_ | refine d_slices 16 ?_ | refine d_concat 16 ?_ | refine d_build 16 ?_)
  (first | refine d_pure 17 ?_ | refine d_load 17 ?_ | refine d_arith 17 ?_ | refine d_rem 17 ?_ | refine d_quo 17 ?_ | refine d_shrv 17 ?_ | refine d_fieldat 17 ?_ | refine d_idx1 17 ?_ | refine d_index 17 ?_ | refine d_conv64 17 ?_ | refine d_slices 17 ?_ | refine d_concat 17 ?_ | refine d_build 17 ?_)
  (first | refine d_pure 18 ?_ | refine d_load 18 ?_ | refine d_arith 18 ?_ | refine d_rem 18 ?_ | refine d_quo 18 ?_ | refine d_shrv 18 ?_ | refine d_fieldat 18 ?_ | refine d_idx1 18 ?_ | refine d_index 18 ?_ | refine d_conv64 18 ?_ | refine d_slices 18 ?_ | refine d_concat 18 ?_ | refine d_build 18 ?_)
  (first | refine d_pure 19 ?_ | refine d_load 19 ?_ | refine d_arith 19 ?_ | refine d_rem 19 ?_ | refine d_quo 19 ?_ | refine d_shrv 19 ?_ | refine d_fieldat 19 ?_ | refine d_idx1 19 ?_ | refine d_index 19 ?_ | refine d_conv64 19 ?_ | refine d_slices 19 ?_ | refine d_concat 19 ?_ | refine d_build 19 ?_)
  refine d_call 14 (pending_spec q b S) ?_
  (refine d_pure 20 ?_); refine d_is 71 (c := true) (decide_eq_true (p := (S.cache.length : Int) = (T.wait.length : Int)) (by omega)) ?_
  (first | refine d_pure 21 ?_ | refine d_load 21 ?_ | refine d_arith 21 ?_ | refine d_rem 21 ?_ | refine d_quo 21 ?_ | refine d_shrv 21 ?_ | refine d_fieldat 21 ?_ | refine d_idx1 21 ?_ | refine d_index 21 ?_ | refine d_conv64 21 ?_ | refine d_slices 21 ?_ | refine d_concat 21 ?_ | refine d_build 21 ?_)
  (first | refine d_pure 22 ?_ | refine d_load 22 ?_ | refine d_arith 22 ?_ | refine d_rem 22 ?_ | refine d_quo 22 ?_ | refine d_shrv 22 ?_ | refine d_fieldat 22 ?_ | refine d_idx1 22 ?_ | refine d_index 22 ?_ | refine d_conv64 22 ?_ | refine d_slices 22 ?_ | refine d_concat 22 ?_ | refine d_build 22 ?_)
  (first | refine d_pure 23 ?_ | refine d_load 23 ?_ | refine d_arith 23 ?_ | refine d_rem 23 ?_ | refine d_quo 23 ?_ | refine d_shrv 23 ?_ | refine d_fieldat 23 ?_ | refine d_idx1 23 ?_ | refine d_index 23 ?_ | refine d_conv64 23 ?_ | refine d_slices 23 ?_ | refine d_concat 23 ?_ | refine d_build 23 ?_)
  (first | refine d_pure 25 ?_ | refine d_load 25 ?_ | refine d_arith 25 ?_ | refine d_rem 25 ?_ | refine d_quo 25 ?_ | refine d_shrv 25 ?_ | refine d_fieldat 25 ?_ | refine d_idx1 25 ?_ | refine d_index 25 ?_ | refine d_conv64 25 ?_ | refine d_slices 25 ?_ | refine d_concat 25 ?_ | refine d_build 25 ?_)
  (first | refine d_pure 26 ?_ | refine d_load 26 ?_ | refine d_arith 26 ?_ | refine d_rem 26 ?_ | refine d_quo 26 ?_ | refine d_shrv 26 ?_ | refine d_fieldat 26 ?_ | refine d_idx1 26 ?_ | refine d_index 26 ?_ | refine d_conv64 26 ?_ | refine d_slices 26 ?_ | refine d_concat 26 ?_ | refine d_build 26 ?_)
  (first | refine d_pure 27 ?_ | refine d_load 27 ?_ | refine d_arith 27 ?_ | refine d_rem 27 ?_ | refine d_quo 27 ?_ | refine d_shrv 27 ?_ | refine d_fieldat 27 ?_ | refine d_idx1 27 ?_ | refine d_index 27 ?_ | refine d_conv64 27 ?_ | refine d_slices 27 ?_ | refine d_concat 27 ?_ | refine d_build 27 ?_)
  (first | refine d_pure 28 ?_ | refine d_load 28 ?_ | refine d_arith 28 ?_ | refine d_rem 28 ?_ | refine d_quo 28 ?_ | refine d_shrv 28 ?_ | refine d_fieldat 28 ?_ | refine d_idx1 28 ?_ | refine d_index 28 ?_ | refine d_conv64 28 ?_ | refine d_slices 28 ?_ | refine d_concat 28 ?_ | refine d_build 28 ?_)
  (first | refine d_pure 29 ?_ | refine d_load 29 ?_ | refine d_arith 29 ?_ | refine d_rem 29 ?_ | refine d_quo 29 ?_ | refine d_shrv 29 ?_ | refine d_fieldat 29 ?_ | refine d_idx1 29 ?_ | refine d_index 29 ?_ | refine d_conv64 29 ?_ | refine d_slices 29 ?_ | refine d_concat 29 ?_ | refine d_build 29 ?_)
  refine d_call 24 (up_spec q b S) ?_
  (refine d_pure 30 ?_); refine d_is 81 (b := (!S.down) == (!T.down)) (c := true) (by rw [h2]; cases S.down <;> rfl) ?_
  (first | refine d_pure 31 ?_ | refine d_load 31 ?_ | refine d_arith 31 ?_ | refine d_rem 31 ?_ | refine d_quo 31 ?_ | refine d_shrv 31 ?_ | refine d_fieldat 31 ?_ | refine d_idx1 31 ?_ | refine d_index 31 ?_ | refine d_conv64 31 ?_ | refine d_slices 31 ?_ | refine d_concat 31 ?_ | refine d_build 31 ?_)
  (first | refine d_pure 32 ?_ | refine d_load 32 ?_ | refine d_arith 32 ?_ | refine d_rem 32 ?_ | refine d_quo 32 ?_ | refine d_shrv 32 ?_ | refine d_fieldat 32 ?_ | refine d_idx1 32 ?_ | refine d_index 32 ?_ | refine d_conv64 32 ?_ | refine d_slices 32 ?_ | refine d_concat 32 ?_ | refine d_build 32 ?_)
  refine d_call 33 (awake6_spec q) ?_
  (first | refine d_pure 34 ?_ | refine d_load 34 ?_ | refine d_arith 34 ?_ | refine d_rem 34 ?_ | refine d_quo 34 ?_ | refine d_shrv 34 ?_ | refine d_fieldat 34 ?_ | refine d_idx1 34 ?_ | refine d_index 34 ?_ | refine d_conv64 34 ?_ | refine d_slices 34 ?_ | refine d_concat 34 ?_ | refine d_build 34 ?_)
  (first | refine d_pure 35 ?_ | refine d_load 35 ?_ | refine d_arith 35 ?_ | refine d_rem 35 ?_ | refine d_quo 35 ?_ | refine d_shrv 35 ?_ | refine d_fieldat 35 ?_ | refine d_idx1 35 ?_ | refine d_index 35 ?_ | refine d_conv64 35 ?_ | refine d_slices 35 ?_ | refine d_concat 35 ?_ | refine d_build 35 ?_)
  refine d_done ?_
  (repeat (first | refine g ?_))
  exact run_ret rfl (imp_RD rfl shut)
end Go.Proofs.YtajndpddlpnbkaaGreatDoor.V
namespace Go.Proofs.YtajndpddlpnbkaaGreatDoor.V
open Go.Proofs.YtajndpddlpnbkaaGreatDoor.VL Go.Proofs.YtajndpddlpnbkaaGreatDoor.VL.RD Go.Proofs.YtajndpddlpnbkaaGreatDoor.VL.Sha
attribute [local irreducible] Run numB
end Go.Proofs.YtajndpddlpnbkaaGreatDoor.V
namespace Go.Proofs.YtajndpddlpnbkaaGreatDoor.V
open Go.Proofs.YtajndpddlpnbkaaGreatDoor.VL Go.Proofs.YtajndpddlpnbkaaGreatDoor.VL.RD Go.Proofs.YtajndpddlpnbkaaGreatDoor.VL.Sha
attribute [local irreducible] Run numB
end Go.Proofs.YtajndpddlpnbkaaGreatDoor.V
namespace Go.Proofs.YtajndpddlpnbkaaGreatDoor.V
open Go.Proofs.YtajndpddlpnbkaaGreatDoor.VL Go.Proofs.YtajndpddlpnbkaaGreatDoor.VL.RD Go.Proofs.YtajndpddlpnbkaaGreatDoor.VL.Sha
attribute [local irreducible] Run numB
end Go.Proofs.YtajndpddlpnbkaaGreatDoor.V
