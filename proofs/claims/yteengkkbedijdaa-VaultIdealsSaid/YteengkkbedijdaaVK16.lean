/- A step with both vaults. -/
import Derived.Test.YteengkkbedijdaaVK15
set_option maxRecDepth 10000
set_option linter.unusedVariables false
namespace Go.Proofs.Yteengkkbedijdaa.V
open Go.Proofs.Yteengkkbedijdaa.VL Go.Proofs.Yteengkkbedijdaa.VL.RD
attribute [local irreducible] Run numB
def lab (o : OpT) : ByteArray := cutB o.label 100
def txt (o : OpT) : ByteArray := cutB o.text 600
def stepS (s : VSt) (o : OpT) : VSt :=
  if o.kind = 1 then { s with hs := cntL s.hs (txt o) } else if o.kind = 2 then { s with ms := cntL s.ms (markedK (lab o) (txt o)) } else if o.kind = 4 then (sealF s o.salt o.nonce (lab o) (txt o)).2 else s
theorem VOk.hash {n : Nat} {s : VSt} (h : VOk n s) (t : ByteArray) : VOk (n + 1) { s with hs := cntL s.hs t } := by
  have hc := (cnt_le s.hs t).2
  have hm := h.hs
  exact ⟨by show (cntL s.hs t).length ≤ _; omega, Nat.le_succ_of_le h.ms, Nat.le_succ_of_le h.es, h.mo, h.eo⟩
theorem VOk.seal {n : Nat} {s : VSt} (h : VOk n s) (m : Int) (no ad t : ByteArray) : VOk (n + 1) (sealF s m no ad t).2 := by
  unfold sealF
  split
  · exact h.mono (Nat.le_succ n)
  have hc := (cnt_le s.es (sealedK m no ad t)).2
  have hm := h.es
  refine ⟨Nat.le_succ_of_le h.hs, Nat.le_succ_of_le h.ms, by show (cntL s.es (sealedK m no ad t)).length ≤ _; omega, h.mo, ?_⟩
  intro k hk
  have hk : k ∈ cntL s.es (sealedK m no ad t) := hk
  unfold cntL at hk
  split at hk
  · exact h.eo k hk
  · rcases List.mem_append.1 hk with hk | hk
    · exact h.eo k hk
    · obtain rfl : k = sealedK m no ad t := by simpa using hk
      exact ⟨m, no, ad, t, rfl⟩
theorem VOk.step {n : Nat} {s : VSt} (h : VOk n s) (o : OpT) : VOk (n + 1) (stepS s o) := by
  unfold stepS
  split
  · exact h.hash _
  split
  · exact h.mac _ _
  split
  · exact h.seal _ _ _ _
  · exact h.mono (Nat.le_succ n)
set_option maxHeartbeats 2000000 in
theorem step_spec (q : View) (v w : Nat) (s : VSt) (hs : VOk 1000000 s) (o : OpT) (ho : OpOk o) :
    FnD Try.prog q 19 [.pointer (some ⟨v, 0, none⟩), .pointer (some ⟨w, 0, none⟩), .agg ⟨encOp o⟩] [vaultAt v s, rAt w s] (.bool true) [vaultAt v (stepS s o), rAt w (stepS s o)] := by
  have zt : (txt o).size ≤ 600 := cutB_size _ _
  have zg : (cutB o.tag 40).size ≤ 40 := cutB_size _ _
  have ct := cut_spec q o.text 600
  have cl := cut_spec q o.label 100
  have hk0 := ho.k0
  have hk1 := ho.k1
  unfold encOp
  (first | refine FnD.go Try.call19 Try.func19 rfl rfl rfl ?_ | refine FnX.go Try.call19 Try.func19 rfl rfl rfl ?_)
  (repeat (first | refine g ?_))
  refine s_box fun r => ?_
  (repeat (first | refine g ?_))
  refine s_call ct ?_
  (repeat (first | refine g ?_))
  refine s_call cl ?_
  rw [show cutB o.text 600 = txt o from rfl, show cutB o.label 100 = lab o from rfl]
  (repeat (first | refine g ?_))
  by_cases k1 : o.kind = 1
  · have eS : stepS s o = { s with hs := cntL s.hs (txt o) } := by unfold stepS; rw [if_pos k1]
    rw [eS]
    have c1 := hash_spec q v s hs (txt o)
    have c2 := rhash_spec q w s hs (txt o)
    (repeat (first | refine g ?_))
    refine s_call c1 ?_
    (repeat (first | refine g ?_))
    refine s_call c2 ?_
    (repeat (first | refine g ?_))
    exact run_ret rfl (imp_RD (by simp) shut)
  by_cases k2 : o.kind = 2
  · have eS : stepS s o = { s with ms := cntL s.ms (markedK (lab o) (txt o)) } := by unfold stepS; rw [if_neg k1, if_pos k2]
    rw [eS]
    have c1 := mac_spec q v s hs (lab o) (txt o)
    have c2 := rmac_spec q w s hs (lab o) (txt o)
    (repeat (first | refine g ?_))
    refine s_call c1 ?_
    (repeat (first | refine g ?_))
    refine s_call c2 ?_
    (repeat (first | refine g ?_))
    exact run_ret rfl (imp_RD (by simp) shut)
  by_cases k3 : o.kind = 3
  · have eS : stepS s o = s := by unfold stepS; rw [if_neg k1, if_neg k2, if_neg (by omega)]
    rw [eS]
    have c1 := made_spec q v s hs (lab o) (txt o) o.tag
    have c2 := rmade_spec q w s hs (lab o) (txt o) o.tag
    (repeat (first | refine g ?_))
    refine d_start [vaultAt v s, rAt w s] ?_
    (first | refine d_pure 0 ?_ | refine d_load 0 ?_ | refine d_arith 0 ?_ | refine d_rem 0 ?_ | refine d_quo 0 ?_ | refine d_shrv 0 ?_ | refine d_fieldat 0 ?_ | refine d_idx1 0 ?_ | refine d_index 0 ?_ | refine d_conv64 0 ?_ | refine d_slices 0 ?_ | refine d_concat 0 ?_ | refine d_build 0 ?_)
    (first | refine d_pure 1 ?_ | refine d_load 1 ?_ | refine d_arith 1 ?_ | refine d_rem 1 ?_ | refine d_quo 1 ?_ | refine d_shrv 1 ?_ | refine d_fieldat 1 ?_ | refine d_idx1 1 ?_ | refine d_index 1 ?_ | refine d_conv64 1 ?_ | refine d_slices 1 ?_ | refine d_concat 1 ?_ | refine d_build 1 ?_)
    (first | refine d_pure 2 ?_ | refine d_load 2 ?_ | refine d_arith 2 ?_ | refine d_rem 2 ?_ | refine d_quo 2 ?_ | refine d_shrv 2 ?_ | refine d_fieldat 2 ?_ | refine d_idx1 2 ?_ | refine d_index 2 ?_ | refine d_conv64 2 ?_ | refine d_slices 2 ?_ | refine d_concat 2 ?_ | refine d_build 2 ?_)
    (first | refine d_pure 3 ?_ | refine d_load 3 ?_ | refine d_arith 3 ?_ | refine d_rem 3 ?_ | refine d_quo 3 ?_ | refine d_shrv 3 ?_ | refine d_fieldat 3 ?_ | refine d_idx1 3 ?_ | refine d_index 3 ?_ | refine d_conv64 3 ?_ | refine d_slices 3 ?_ | refine d_concat 3 ?_ | refine d_build 3 ?_)
    (first | refine d_pure 4 ?_ | refine d_load 4 ?_ | refine d_arith 4 ?_ | refine d_rem 4 ?_ | refine d_quo 4 ?_ | refine d_shrv 4 ?_ | refine d_fieldat 4 ?_ | refine d_idx1 4 ?_ | refine d_index 4 ?_ | refine d_conv64 4 ?_ | refine d_slices 4 ?_ | refine d_concat 4 ?_ | refine d_build 4 ?_)
    (first | refine d_pure 6 ?_ | refine d_load 6 ?_ | refine d_arith 6 ?_ | refine d_rem 6 ?_ | refine d_quo 6 ?_ | refine d_shrv 6 ?_ | refine d_fieldat 6 ?_ | refine d_idx1 6 ?_ | refine d_index 6 ?_ | refine d_conv64 6 ?_ | refine d_slices 6 ?_ | refine d_concat 6 ?_ | refine d_build 6 ?_)
    (first | refine d_pure 7 ?_ | refine d_load 7 ?_ | refine d_arith 7 ?_ | refine d_rem 7 ?_ | refine d_quo 7 ?_ | refine d_shrv 7 ?_ | refine d_fieldat 7 ?_ | refine d_idx1 7 ?_ | refine d_index 7 ?_ | refine d_conv64 7 ?_ | refine d_slices 7 ?_ | refine d_concat 7 ?_ | refine d_build 7 ?_)
    (first | refine d_pure 8 ?_ | refine d_load 8 ?_ | refine d_arith 8 ?_ | refine d_rem 8 ?_ | refine d_quo 8 ?_ | refine d_shrv 8 ?_ | refine d_fieldat 8 ?_ | refine d_idx1 8 ?_ | refine d_index 8 ?_ | refine d_conv64 8 ?_ | refine d_slices 8 ?_ | refine d_concat 8 ?_ | refine d_build 8 ?_)
    (first | refine d_pure 9 ?_ | refine d_load 9 ?_ | refine d_arith 9 ?_ | refine d_rem 9 ?_ | refine d_quo 9 ?_ | refine d_shrv 9 ?_ | refine d_fieldat 9 ?_ | refine d_idx1 9 ?_ | refine d_index 9 ?_ | refine d_conv64 9 ?_ | refine d_slices 9 ?_ | refine d_concat 9 ?_ | refine d_build 9 ?_)
    (first | refine d_pure 10 ?_ | refine d_load 10 ?_ | refine d_arith 10 ?_ | refine d_rem 10 ?_ | refine d_quo 10 ?_ | refine d_shrv 10 ?_ | refine d_fieldat 10 ?_ | refine d_idx1 10 ?_ | refine d_index 10 ?_ | refine d_conv64 10 ?_ | refine d_slices 10 ?_ | refine d_concat 10 ?_ | refine d_build 10 ?_)
    refine d_call 5 c1 ?_
    refine d_call 11 c2 ?_
    (first | refine d_pure 12 ?_ | refine d_load 12 ?_ | refine d_arith 12 ?_ | refine d_rem 12 ?_ | refine d_quo 12 ?_ | refine d_shrv 12 ?_ | refine d_fieldat 12 ?_ | refine d_idx1 12 ?_ | refine d_index 12 ?_ | refine d_conv64 12 ?_ | refine d_slices 12 ?_ | refine d_concat 12 ?_ | refine d_build 12 ?_)
    (first | refine d_pure 13 ?_ | refine d_load 13 ?_ | refine d_arith 13 ?_ | refine d_rem 13 ?_ | refine d_quo 13 ?_ | refine d_shrv 13 ?_ | refine d_fieldat 13 ?_ | refine d_idx1 13 ?_ | refine d_index 13 ?_ | refine d_conv64 13 ?_ | refine d_slices 13 ?_ | refine d_concat 13 ?_ | refine d_build 13 ?_)
    refine d_done ?_
    (repeat (first | refine g ?_))
    exact run_ret rfl (imp_RD (by simp) shut)
  by_cases k4 : o.kind = 4
  · have eS : stepS s o = (sealF s o.salt o.nonce (lab o) (txt o)).2 := by unfold stepS; rw [if_neg k1, if_neg k2, if_pos k4]
    rw [eS]
    have c1 := seal_spec q v s hs o.salt o.nonce (lab o) (txt o) (by omega)
    have c2 := rseal_spec q w s hs o.salt o.nonce (lab o) (txt o) (by omega)
    (repeat (first | refine g ?_))
    refine s_call c1 ?_
    (repeat (first | refine g ?_))
    refine s_call c2 ?_
    have x1 : ¬ ((sealF s o.salt o.nonce (lab o) (txt o)).1.1 ≠ (sealF s o.salt o.nonce (lab o) (txt o)).1.1) := fun h => h rfl
    (repeat (first | refine g ?_))
    exact run_ret rfl (imp_RD (by simp) shut)
  have eS : stepS s o = s := by unfold stepS; rw [if_neg k1, if_neg k2, if_neg k4]
  rw [eS]
  by_cases k5 : o.kind = 5
  · have cg := cut_spec q o.tag 40
    have za : (txt o ++ cutB o.tag 40).size = (txt o).size + (cutB o.tag 40).size := ByteArray.size_append
    have c1 := open_spec q v s hs o.salt o.nonce (lab o) (txt o ++ cutB o.tag 40) (by omega)
    have c2 := ropen_spec q w s hs o.salt o.nonce (lab o) (txt o ++ cutB o.tag 40) (by omega)
    (repeat (first | refine g ?_))
    refine s_call cg ?_
    (repeat (first | refine g ?_))
    refine s_call c1 ?_
    (repeat (first | refine g ?_))
    refine s_call c2 ?_
    (repeat (first | refine g ?_))
    exact run_ret rfl (imp_RD (by simp) shut)
  · (repeat (first | refine g ?_))
    exact run_ret rfl (imp_RD rfl shut)
end Go.Proofs.Yteengkkbedijdaa.V
