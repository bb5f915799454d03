/- A step with both devices; whether both tell the same. -/
import Derived.Test.YtkmdajbhkfneaaaPQ5
set_option maxRecDepth 10000
set_option linter.unusedVariables false
namespace Go.Proofs.Ytkmdajbhkfneaaa.V
open Go.Proofs.Ytkmdajbhkfneaaa.VL
attribute [local irreducible] Run
theorem FnD.qplate {P : Program} {q : View} {f : FuncId} {args : List Value} {b : Nat} {s s' : QSt} {v : Value} (h : ∀ pk ck pd cd pw cw, FnD P q f args (qParts b s pk ck pd cd pw cw []) v (qParts b s' pk ck pd cd pw cw [])) :
    FnD P q f args [qAt b s] v [qAt b s'] := FnX.hex fun x => FnD.conseq (h x.1 x.2.1 x.2.2.1 x.2.2.2.1 x.2.2.2.2.1 x.2.2.2.2.2) (by rw [star_one]; exact Imp.refl _) (imp_q (B := []) (Imp.refl _))
theorem qheld_spec (q : View) (b : Nat) (s : QSt) (hw : QW s) (at_ : Int) :
    FnD Try.prog q 38 [.pointer (some ⟨b, 0, none⟩), .int .i64 at_] [qAt b s] (.tuple #[.string (qHeldF s at_).1, .int .i64 (qHeldF s at_).2]) [qAt b s] :=
  FnD.qplate fun pk ck pd cd pw cw => FnD.frame (qheld_parts q b s hw.dumb hw.sec pk ck pd cd pw cw at_) [_]
theorem step_spec (q : View) (b c : Nat) (s : PSt) (t : QSt) (n : Nat) (h : Both n s t) (hn : n < 1000000) (o : OpT) (ho : OpOk q o) :
    FnD Try.prog q 29 [.pointer (some ⟨b, 0, none⟩), .pointer (some ⟨c, 0, none⟩), .agg ⟨encOp o⟩] [plateAt b s, qAt c t] (.bool true) [plateAt b (stepS s o), qAt c (stepT t o)] := by
  have hq := h.qw
  have hv0 := ho.v0
  have hv1 := ho.v1
  have hs0 : 0 ≤ someF o.len ∧ someF o.len ≤ 200 := by unfold someF; split <;> omega
  unfold encOp
  (first | refine FnD.go Try.call29 Try.func29 rfl rfl rfl ?_ | refine FnX.go Try.call29 Try.func29 rfl rfl rfl ?_)
  (repeat (first | refine g ?_))
  refine s_box fun r => ?_
  (repeat (first | refine g ?_))
  obtain ⟨m, hm⟩ : ∃ m : Nat, someF o.len = m := ⟨(someF o.len).toNat, by omega⟩
  have ht : txt o = bytesF o.v m := by unfold txt; rw [hm]; rfl
  have hcs := some_spec q o.len
  have hcb := bytes_spec q o.v m hv0 hv1 (by omega)
  rw [hm] at hcs
  rw [← ht] at hcb
  refine d_start [] ?_
  (first | refine d_pure 0 ?_ | refine d_load 0 ?_ | refine d_arith 0 ?_ | refine d_rem 0 ?_ | refine d_quo 0 ?_ | refine d_fieldat 0 ?_ | refine d_idx1 0 ?_ | refine d_index 0 ?_ | refine d_conv64 0 ?_ | refine d_slices 0 ?_ | refine d_concat 0 ?_ | refine d_build 0 ?_)
  (first | refine d_pure 1 ?_ | refine d_load 1 ?_ | refine d_arith 1 ?_ | refine d_rem 1 ?_ | refine d_quo 1 ?_ | refine d_fieldat 1 ?_ | refine d_idx1 1 ?_ | refine d_index 1 ?_ | refine d_conv64 1 ?_ | refine d_slices 1 ?_ | refine d_concat 1 ?_ | refine d_build 1 ?_)
  (first | refine d_pure 2 ?_ | refine d_load 2 ?_ | refine d_arith 2 ?_ | refine d_rem 2 ?_ | refine d_quo 2 ?_ | refine d_fieldat 2 ?_ | refine d_idx1 2 ?_ | refine d_index 2 ?_ | refine d_conv64 2 ?_ | refine d_slices 2 ?_ | refine d_concat 2 ?_ | refine d_build 2 ?_)
  (first | refine d_pure 3 ?_ | refine d_load 3 ?_ | refine d_arith 3 ?_ | refine d_rem 3 ?_ | refine d_quo 3 ?_ | refine d_fieldat 3 ?_ | refine d_idx1 3 ?_ | refine d_index 3 ?_ | refine d_conv64 3 ?_ | refine d_slices 3 ?_ | refine d_concat 3 ?_ | refine d_build 3 ?_)
  refine d_call 4 hcs ?_
  refine d_call 5 hcb ?_
  (first | refine d_pure 6 ?_ | refine d_load 6 ?_ | refine d_arith 6 ?_ | refine d_rem 6 ?_ | refine d_quo 6 ?_ | refine d_fieldat 6 ?_ | refine d_idx1 6 ?_ | refine d_index 6 ?_ | refine d_conv64 6 ?_ | refine d_slices 6 ?_ | refine d_concat 6 ?_ | refine d_build 6 ?_)
  refine d_done ?_
  by_cases k1 : o.kind = 1
  · have eS : stepS s o = (readF s o.at_).2 := by unfold stepS; rw [if_pos k1]
    have eT : stepT t o = (qReadF t o.at_).2 := by unfold stepT; rw [if_pos k1]
    rw [eS, eT]
    have c1 := read_spec q b s h.wf o.at_
    have c2 := qread_spec q c t hq o.at_
    rw [(h.read o.at_ hn).1] at c2
    (repeat (first | refine g ?_))
    refine s_call c1 ?_
    (repeat (first | refine g ?_))
    refine s_call c2 ?_
    (repeat (first | refine g ?_))
    exact run_ret rfl (imp_RD (by simp) shut)
  by_cases k2 : o.kind = 2
  · have eS : stepS s o = s := by unfold stepS; rw [if_neg k1, if_pos k2]
    have eT : stepT t o = t := by unfold stepT; rw [if_neg k1, if_pos k2]
    rw [eS, eT]
    have c1 := held_spec q b s h.wf o.at_
    have c2 := qheld_spec q c t hq o.at_
    rw [h.held o.at_] at c2
    (repeat (first | refine g ?_))
    refine s_call c1 ?_
    (repeat (first | refine g ?_))
    refine s_call c2 ?_
    (repeat (first | refine g ?_))
    exact run_ret rfl (imp_RD (by simp) shut)
  by_cases k3 : o.kind = 3
  · have eS : stepS s o = (writeF s o.at_ (txt o)).2 := by unfold stepS; rw [if_neg k1, if_neg k2, if_pos k3]
    have eT : stepT t o = (qWriteF t o.at_ (txt o)).2 := by unfold stepT; rw [if_neg k1, if_neg k2, if_pos k3]
    rw [eS, eT]
    have c1 := write_spec q b s h.wf o.at_ (txt o)
    have c2 := qwrite_spec q c t hq o.at_ (txt o)
    rw [(h.write o.at_ (txt o) hn).1] at c2
    (repeat (first | refine g ?_))
    refine d_start [plateAt b s, qAt c t] ?_
    (first | refine d_pure 0 ?_ | refine d_load 0 ?_ | refine d_arith 0 ?_ | refine d_rem 0 ?_ | refine d_quo 0 ?_ | refine d_fieldat 0 ?_ | refine d_idx1 0 ?_ | refine d_index 0 ?_ | refine d_conv64 0 ?_ | refine d_slices 0 ?_ | refine d_concat 0 ?_ | refine d_build 0 ?_)
    (first | refine d_pure 1 ?_ | refine d_load 1 ?_ | refine d_arith 1 ?_ | refine d_rem 1 ?_ | refine d_quo 1 ?_ | refine d_fieldat 1 ?_ | refine d_idx1 1 ?_ | refine d_index 1 ?_ | refine d_conv64 1 ?_ | refine d_slices 1 ?_ | refine d_concat 1 ?_ | refine d_build 1 ?_)
    (first | refine d_pure 2 ?_ | refine d_load 2 ?_ | refine d_arith 2 ?_ | refine d_rem 2 ?_ | refine d_quo 2 ?_ | refine d_fieldat 2 ?_ | refine d_idx1 2 ?_ | refine d_index 2 ?_ | refine d_conv64 2 ?_ | refine d_slices 2 ?_ | refine d_concat 2 ?_ | refine d_build 2 ?_)
    (first | refine d_pure 3 ?_ | refine d_load 3 ?_ | refine d_arith 3 ?_ | refine d_rem 3 ?_ | refine d_quo 3 ?_ | refine d_fieldat 3 ?_ | refine d_idx1 3 ?_ | refine d_index 3 ?_ | refine d_conv64 3 ?_ | refine d_slices 3 ?_ | refine d_concat 3 ?_ | refine d_build 3 ?_)
    (first | refine d_pure 5 ?_ | refine d_load 5 ?_ | refine d_arith 5 ?_ | refine d_rem 5 ?_ | refine d_quo 5 ?_ | refine d_fieldat 5 ?_ | refine d_idx1 5 ?_ | refine d_index 5 ?_ | refine d_conv64 5 ?_ | refine d_slices 5 ?_ | refine d_concat 5 ?_ | refine d_build 5 ?_)
    (first | refine d_pure 6 ?_ | refine d_load 6 ?_ | refine d_arith 6 ?_ | refine d_rem 6 ?_ | refine d_quo 6 ?_ | refine d_fieldat 6 ?_ | refine d_idx1 6 ?_ | refine d_index 6 ?_ | refine d_conv64 6 ?_ | refine d_slices 6 ?_ | refine d_concat 6 ?_ | refine d_build 6 ?_)
    (first | refine d_pure 7 ?_ | refine d_load 7 ?_ | refine d_arith 7 ?_ | refine d_rem 7 ?_ | refine d_quo 7 ?_ | refine d_fieldat 7 ?_ | refine d_idx1 7 ?_ | refine d_index 7 ?_ | refine d_conv64 7 ?_ | refine d_slices 7 ?_ | refine d_concat 7 ?_ | refine d_build 7 ?_)
    (first | refine d_pure 8 ?_ | refine d_load 8 ?_ | refine d_arith 8 ?_ | refine d_rem 8 ?_ | refine d_quo 8 ?_ | refine d_fieldat 8 ?_ | refine d_idx1 8 ?_ | refine d_index 8 ?_ | refine d_conv64 8 ?_ | refine d_slices 8 ?_ | refine d_concat 8 ?_ | refine d_build 8 ?_)
    refine d_call 4 c1 ?_
    refine d_call 9 c2 ?_
    (first | refine d_pure 10 ?_ | refine d_load 10 ?_ | refine d_arith 10 ?_ | refine d_rem 10 ?_ | refine d_quo 10 ?_ | refine d_fieldat 10 ?_ | refine d_idx1 10 ?_ | refine d_index 10 ?_ | refine d_conv64 10 ?_ | refine d_slices 10 ?_ | refine d_concat 10 ?_ | refine d_build 10 ?_)
    (first | refine d_pure 11 ?_ | refine d_load 11 ?_ | refine d_arith 11 ?_ | refine d_rem 11 ?_ | refine d_quo 11 ?_ | refine d_fieldat 11 ?_ | refine d_idx1 11 ?_ | refine d_index 11 ?_ | refine d_conv64 11 ?_ | refine d_slices 11 ?_ | refine d_concat 11 ?_ | refine d_build 11 ?_)
    refine d_done ?_
    (repeat (first | refine g ?_))
    exact run_ret rfl (imp_RD (by simp) shut)
  by_cases k4 : o.kind = 4
  · have eS : stepS s o = flushF s := by unfold stepS; rw [if_neg k1, if_neg k2, if_neg k3, if_pos k4]
    have eT : stepT t o = qFlushF t := by unfold stepT; rw [if_neg k1, if_neg k2, if_neg k3, if_pos k4]
    rw [eS, eT]
    have c1 := flush_spec q b s h.wf
    have c2 := qflush_spec q c t hq
    rw [h.down] at c2
    (repeat (first | refine g ?_))
    refine s_call c1 ?_
    (repeat (first | refine g ?_))
    refine s_call c2 ?_
    (repeat (first | refine g ?_))
    exact run_ret rfl (imp_RD (by simp) shut)
  by_cases k5 : o.kind = 5
  · have eS : stepS s o = (armF s o.at_).2 := by unfold stepS; rw [if_neg k1, if_neg k2, if_neg k3, if_neg k4, if_pos k5]
    have eT : stepT t o = (qArmF t o.at_).2 := by unfold stepT; rw [if_neg k1, if_neg k2, if_neg k3, if_neg k4, if_pos k5]
    rw [eS, eT]
    have c1 := arm_spec q b s o.at_
    have c2 := qarm_spec q c t o.at_
    rw [(h.arm o.at_ ho.at1).1] at c2
    (repeat (first | refine g ?_))
    refine d_start [plateAt b s, qAt c t] ?_
    (first | refine d_pure 0 ?_ | refine d_load 0 ?_ | refine d_arith 0 ?_ | refine d_rem 0 ?_ | refine d_quo 0 ?_ | refine d_fieldat 0 ?_ | refine d_idx1 0 ?_ | refine d_index 0 ?_ | refine d_conv64 0 ?_ | refine d_slices 0 ?_ | refine d_concat 0 ?_ | refine d_build 0 ?_)
    (first | refine d_pure 1 ?_ | refine d_load 1 ?_ | refine d_arith 1 ?_ | refine d_rem 1 ?_ | refine d_quo 1 ?_ | refine d_fieldat 1 ?_ | refine d_idx1 1 ?_ | refine d_index 1 ?_ | refine d_conv64 1 ?_ | refine d_slices 1 ?_ | refine d_concat 1 ?_ | refine d_build 1 ?_)
    (first | refine d_pure 2 ?_ | refine d_load 2 ?_ | refine d_arith 2 ?_ | refine d_rem 2 ?_ | refine d_quo 2 ?_ | refine d_fieldat 2 ?_ | refine d_idx1 2 ?_ | refine d_index 2 ?_ | refine d_conv64 2 ?_ | refine d_slices 2 ?_ | refine d_concat 2 ?_ | refine d_build 2 ?_)
    (first | refine d_pure 4 ?_ | refine d_load 4 ?_ | refine d_arith 4 ?_ | refine d_rem 4 ?_ | refine d_quo 4 ?_ | refine d_fieldat 4 ?_ | refine d_idx1 4 ?_ | refine d_index 4 ?_ | refine d_conv64 4 ?_ | refine d_slices 4 ?_ | refine d_concat 4 ?_ | refine d_build 4 ?_)
    (first | refine d_pure 5 ?_ | refine d_load 5 ?_ | refine d_arith 5 ?_ | refine d_rem 5 ?_ | refine d_quo 5 ?_ | refine d_fieldat 5 ?_ | refine d_idx1 5 ?_ | refine d_index 5 ?_ | refine d_conv64 5 ?_ | refine d_slices 5 ?_ | refine d_concat 5 ?_ | refine d_build 5 ?_)
    (first | refine d_pure 6 ?_ | refine d_load 6 ?_ | refine d_arith 6 ?_ | refine d_rem 6 ?_ | refine d_quo 6 ?_ | refine d_fieldat 6 ?_ | refine d_idx1 6 ?_ | refine d_index 6 ?_ | refine d_conv64 6 ?_ | refine d_slices 6 ?_ | refine d_concat 6 ?_ | refine d_build 6 ?_)
    refine d_call 3 c1 ?_
    refine d_call 7 c2 ?_
    (first | refine d_pure 8 ?_ | refine d_load 8 ?_ | refine d_arith 8 ?_ | refine d_rem 8 ?_ | refine d_quo 8 ?_ | refine d_fieldat 8 ?_ | refine d_idx1 8 ?_ | refine d_index 8 ?_ | refine d_conv64 8 ?_ | refine d_slices 8 ?_ | refine d_concat 8 ?_ | refine d_build 8 ?_)
    (first | refine d_pure 9 ?_ | refine d_load 9 ?_ | refine d_arith 9 ?_ | refine d_rem 9 ?_ | refine d_quo 9 ?_ | refine d_fieldat 9 ?_ | refine d_idx1 9 ?_ | refine d_index 9 ?_ | refine d_conv64 9 ?_ | refine d_slices 9 ?_ | refine d_concat 9 ?_ | refine d_build 9 ?_)
    refine d_done ?_
    (repeat (first | refine g ?_))
    exact run_ret rfl (imp_RD (by simp) shut)
  by_cases k6 : o.kind = 6
  · have eS : stepS s o = startF s o.ks := by unfold stepS; rw [if_neg k1, if_neg k2, if_neg k3, if_neg k4, if_neg k5, if_pos k6]
    have eT : stepT t o = qStartF t o.ks := by unfold stepT; rw [if_neg k1, if_neg k2, if_neg k3, if_neg k4, if_neg k5, if_pos k6]
    rw [eS, eT]
    have c1 := start_spec q b s h.wf o.kp o.kc o.ks ho.ks
    have c2 := qstart_spec q c t hq o.kp o.kc o.ks ho.ks
    (repeat (first | refine g ?_))
    refine s_call c1 ?_
    (repeat (first | refine g ?_))
    refine s_call c2 ?_
    (repeat (first | refine g ?_))
    exact run_ret rfl (imp_RD (by simp) shut)
  by_cases k7 : o.kind = 7
  · have eS : stepS s o = (layF s o.at_ (txt o)).2 := by unfold stepS; rw [if_neg k1, if_neg k2, if_neg k3, if_neg k4, if_neg k5, if_neg k6, if_pos k7]
    have eT : stepT t o = (qLayF t o.at_ (txt o)).2 := by unfold stepT; rw [if_neg k1, if_neg k2, if_neg k3, if_neg k4, if_neg k5, if_neg k6, if_pos k7]
    rw [eS, eT]
    have c1 := lay_spec q b s h.wf o.at_ (txt o)
    have c2 := qlay_spec q c t hq o.at_ (txt o)
    rw [(h.lay o.at_ (txt o)).1] at c2
    (repeat (first | refine g ?_))
    refine d_start [plateAt b s, qAt c t] ?_
    (first | refine d_pure 0 ?_ | refine d_load 0 ?_ | refine d_arith 0 ?_ | refine d_rem 0 ?_ | refine d_quo 0 ?_ | refine d_fieldat 0 ?_ | refine d_idx1 0 ?_ | refine d_index 0 ?_ | refine d_conv64 0 ?_ | refine d_slices 0 ?_ | refine d_concat 0 ?_ | refine d_build 0 ?_)
    (first | refine d_pure 1 ?_ | refine d_load 1 ?_ | refine d_arith 1 ?_ | refine d_rem 1 ?_ | refine d_quo 1 ?_ | refine d_fieldat 1 ?_ | refine d_idx1 1 ?_ | refine d_index 1 ?_ | refine d_conv64 1 ?_ | refine d_slices 1 ?_ | refine d_concat 1 ?_ | refine d_build 1 ?_)
    (first | refine d_pure 2 ?_ | refine d_load 2 ?_ | refine d_arith 2 ?_ | refine d_rem 2 ?_ | refine d_quo 2 ?_ | refine d_fieldat 2 ?_ | refine d_idx1 2 ?_ | refine d_index 2 ?_ | refine d_conv64 2 ?_ | refine d_slices 2 ?_ | refine d_concat 2 ?_ | refine d_build 2 ?_)
    (first | refine d_pure 3 ?_ | refine d_load 3 ?_ | refine d_arith 3 ?_ | refine d_rem 3 ?_ | refine d_quo 3 ?_ | refine d_fieldat 3 ?_ | refine d_idx1 3 ?_ | refine d_index 3 ?_ | refine d_conv64 3 ?_ | refine d_slices 3 ?_ | refine d_concat 3 ?_ | refine d_build 3 ?_)
    (first | refine d_pure 5 ?_ | refine d_load 5 ?_ | refine d_arith 5 ?_ | refine d_rem 5 ?_ | refine d_quo 5 ?_ | refine d_fieldat 5 ?_ | refine d_idx1 5 ?_ | refine d_index 5 ?_ | refine d_conv64 5 ?_ | refine d_slices 5 ?_ | refine d_concat 5 ?_ | refine d_build 5 ?_)
    (first | refine d_pure 6 ?_ | refine d_load 6 ?_ | refine d_arith 6 ?_ | refine d_rem 6 ?_ | refine d_quo 6 ?_ | refine d_fieldat 6 ?_ | refine d_idx1 6 ?_ | refine d_index 6 ?_ | refine d_conv64 6 ?_ | refine d_slices 6 ?_ | refine d_concat 6 ?_ | refine d_build 6 ?_)
    (first | refine d_pure 7 ?_ | refine d_load 7 ?_ | refine d_arith 7 ?_ | refine d_rem 7 ?_ | refine d_quo 7 ?_ | refine d_fieldat 7 ?_ | refine d_idx1 7 ?_ | refine d_index 7 ?_ | refine d_conv64 7 ?_ | refine d_slices 7 ?_ | refine d_concat 7 ?_ | refine d_build 7 ?_)
    (first | refine d_pure 8 ?_ | refine d_load 8 ?_ | refine d_arith 8 ?_ | refine d_rem 8 ?_ | refine d_quo 8 ?_ | refine d_fieldat 8 ?_ | refine d_idx1 8 ?_ | refine d_index 8 ?_ | refine d_conv64 8 ?_ | refine d_slices 8 ?_ | refine d_concat 8 ?_ | refine d_build 8 ?_)
    refine d_call 4 c1 ?_
    refine d_call 9 c2 ?_
    (first | refine d_pure 10 ?_ | refine d_load 10 ?_ | refine d_arith 10 ?_ | refine d_rem 10 ?_ | refine d_quo 10 ?_ | refine d_fieldat 10 ?_ | refine d_idx1 10 ?_ | refine d_index 10 ?_ | refine d_conv64 10 ?_ | refine d_slices 10 ?_ | refine d_concat 10 ?_ | refine d_build 10 ?_)
    (first | refine d_pure 11 ?_ | refine d_load 11 ?_ | refine d_arith 11 ?_ | refine d_rem 11 ?_ | refine d_quo 11 ?_ | refine d_fieldat 11 ?_ | refine d_idx1 11 ?_ | refine d_index 11 ?_ | refine d_conv64 11 ?_ | refine d_slices 11 ?_ | refine d_concat 11 ?_ | refine d_build 11 ?_)
    refine d_done ?_
    (repeat (first | refine g ?_))
    exact run_ret rfl (imp_RD (by simp) shut)
  by_cases k8 : o.kind = 8
  · have eS : stepS s o = (spoilF s o.at_).2 := by unfold stepS; rw [if_neg k1, if_neg k2, if_neg k3, if_neg k4, if_neg k5, if_neg k6, if_neg k7, if_pos k8]
    have eT : stepT t o = (qSpoilF t o.at_).2 := by unfold stepT; rw [if_neg k1, if_neg k2, if_neg k3, if_neg k4, if_neg k5, if_neg k6, if_neg k7, if_pos k8]
    rw [eS, eT]
    have c1 := spoil_spec q b s h.wf o.at_
    have c2 := qspoil_spec q c t hq o.at_
    rw [(h.spoil o.at_).1] at c2
    (repeat (first | refine g ?_))
    refine d_start [plateAt b s, qAt c t] ?_
    (first | refine d_pure 0 ?_ | refine d_load 0 ?_ | refine d_arith 0 ?_ | refine d_rem 0 ?_ | refine d_quo 0 ?_ | refine d_fieldat 0 ?_ | refine d_idx1 0 ?_ | refine d_index 0 ?_ | refine d_conv64 0 ?_ | refine d_slices 0 ?_ | refine d_concat 0 ?_ | refine d_build 0 ?_)
    (first | refine d_pure 1 ?_ | refine d_load 1 ?_ | refine d_arith 1 ?_ | refine d_rem 1 ?_ | refine d_quo 1 ?_ | refine d_fieldat 1 ?_ | refine d_idx1 1 ?_ | refine d_index 1 ?_ | refine d_conv64 1 ?_ | refine d_slices 1 ?_ | refine d_concat 1 ?_ | refine d_build 1 ?_)
    (first | refine d_pure 2 ?_ | refine d_load 2 ?_ | refine d_arith 2 ?_ | refine d_rem 2 ?_ | refine d_quo 2 ?_ | refine d_fieldat 2 ?_ | refine d_idx1 2 ?_ | refine d_index 2 ?_ | refine d_conv64 2 ?_ | refine d_slices 2 ?_ | refine d_concat 2 ?_ | refine d_build 2 ?_)
    (first | refine d_pure 4 ?_ | refine d_load 4 ?_ | refine d_arith 4 ?_ | refine d_rem 4 ?_ | refine d_quo 4 ?_ | refine d_fieldat 4 ?_ | refine d_idx1 4 ?_ | refine d_index 4 ?_ | refine d_conv64 4 ?_ | refine d_slices 4 ?_ | refine d_concat 4 ?_ | refine d_build 4 ?_)
    (first | refine d_pure 5 ?_ | refine d_load 5 ?_ | refine d_arith 5 ?_ | refine d_rem 5 ?_ | refine d_quo 5 ?_ | refine d_fieldat 5 ?_ | refine d_idx1 5 ?_ | refine d_index 5 ?_ | refine d_conv64 5 ?_ | refine d_slices 5 ?_ | refine d_concat 5 ?_ | refine d_build 5 ?_)
    (first | refine d_pure 6 ?_ | refine d_load 6 ?_ | refine d_arith 6 ?_ | refine d_rem 6 ?_ | refine d_quo 6 ?_ | refine d_fieldat 6 ?_ | refine d_idx1 6 ?_ | refine d_index 6 ?_ | refine d_conv64 6 ?_ | refine d_slices 6 ?_ | refine d_concat 6 ?_ | refine d_build 6 ?_)
    refine d_call 3 c1 ?_
    refine d_call 7 c2 ?_
    (first | refine d_pure 8 ?_ | refine d_load 8 ?_ | refine d_arith 8 ?_ | refine d_rem 8 ?_ | refine d_quo 8 ?_ | refine d_fieldat 8 ?_ | refine d_idx1 8 ?_ | refine d_index 8 ?_ | refine d_conv64 8 ?_ | refine d_slices 8 ?_ | refine d_concat 8 ?_ | refine d_build 8 ?_)
    (first | refine d_pure 9 ?_ | refine d_load 9 ?_ | refine d_arith 9 ?_ | refine d_rem 9 ?_ | refine d_quo 9 ?_ | refine d_fieldat 9 ?_ | refine d_idx1 9 ?_ | refine d_index 9 ?_ | refine d_conv64 9 ?_ | refine d_slices 9 ?_ | refine d_concat 9 ?_ | refine d_build 9 ?_)
    refine d_done ?_
    (repeat (first | refine g ?_))
    exact run_ret rfl (imp_RD (by simp) shut)
  have eS : stepS s o = s := by unfold stepS; rw [if_neg k1, if_neg k2, if_neg k3, if_neg k4, if_neg k5, if_neg k6, if_neg k7, if_neg k8]
  have eT : stepT t o = t := by unfold stepT; rw [if_neg k1, if_neg k2, if_neg k3, if_neg k4, if_neg k5, if_neg k6, if_neg k7, if_neg k8]
  rw [eS, eT]
  (repeat (first | refine g ?_))
  exact run_ret rfl (imp_RD rfl shut)
end Go.Proofs.Ytkmdajbhkfneaaa.V
