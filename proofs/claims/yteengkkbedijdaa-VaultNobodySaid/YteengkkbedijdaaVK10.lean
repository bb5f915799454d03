/- The document's numbers as bytes: ref01.Put, Noughts, ref05.numbered. -/
import Derived.Test.YteengkkbedijdaaVK9
set_option maxRecDepth 10000
set_option linter.unusedVariables false
namespace Go.Proofs.Yteengkkbedijdaa.V
open Go.Proofs.Yteengkkbedijdaa.VL Go.Proofs.Yteengkkbedijdaa.VL.RD
attribute [local irreducible] Run
theorem refPut6 (q : View) (n : Nat) (hn : n < 281474976710656) : FnD Try.prog q 79 [.int .i64 n, .int .i64 6] [] (.tuple #[.string ⟨(leb n 6).toArray⟩, .int .i64 0]) [] := by
  (first | refine FnD.go Try.call79 Try.func79 rfl rfl rfl ?_ | refine FnX.go Try.call79 Try.func79 rfl rfl rfl ?_)
  (repeat (first | refine g ?_))
  refine run_loopI (X := Nat × Option Addr × Nat) (fun x => x.1 ≤ 6) (fun x => [(0, .int .i64 ((n / 256 ^ x.1 : Nat) : Int)), (1, .int .i64 6), (6, .slice x.2.1 (leb n x.1).length x.2.2), (7, .int .i64 (x.1 : Int))])
    (fun x => [sl x.2.1 (leb n x.1).length x.2.2 5 1 (bv (leb n x.1))]) (fun x => 6 - x.1) (0, none, 0) (Nat.zero_le _) (by dsimp only; rw [Nat.pow_zero, Nat.div_one]; exact fct) shut ?_
  intro ⟨i, p, c⟩ hi
  dsimp only at *
  have hle : n / 256 ^ i ≤ n := Nat.div_le_self _ _
  obtain ⟨m, hm⟩ : ∃ m, m = n / 256 ^ i := ⟨_, rfl⟩
  rw [← hm] at hle ⊢
  have hll := leb_length n i
  (repeat (first | refine g ?_))
  refine run_cond_dec rfl ?_ ?_
  · intro h
    (repeat (first | refine g ?_))
    refine s_built fun r1 => ?_
    (repeat (first | refine g ?_))
    refine s_app 1 1 (reads_own At.head rfl) (hxl := by rw [bv_length, Nat.mul_one]) fun r2 => ?_
    have e : bv (leb n i) ++ [Value.int .u8 ((m : Int) % 256 % 256)] = bv (leb n (i + 1)) := by
      rw [leb_succ, bv_append, ← hm, show (m : Int) % 256 % 256 = ((UInt8.ofNat (m % 256)).toNat : Int) by rw [UInt8.toNat_ofNat', Nat.mod_eq_of_lt (Nat.mod_lt _ (by decide))]; omega]; rfl
    refine s_eq e ?_
    have el : (leb n i).length + 1 = (leb n (i + 1)).length := by rw [leb_length, leb_length]
    rw [el]
    (repeat (first | refine g ?_))
    have e2 : (m : Int) / 256 = ((n / 256 ^ (i + 1) : Nat) : Int) := by
      rw [Nat.pow_succ, ← Nat.div_div_eq_div_mul, ← hm]; omega
    refine run_stop_loop (i + 1, r2) ?_ fct shut
    exact ⟨by dsimp only; omega, by dsimp only; omega⟩
  · intro h
    obtain rfl : i = 6 := by omega
    have h0 : m = 0 := by rw [hm]; exact Nat.div_eq_of_lt (by omega)
    (repeat (first | refine g ?_))
    refine s_string ?_
    (repeat (first | refine g ?_))
    exact run_ret rfl (imp_RD rfl shut)
theorem noughts_spec (q : View) (n : Nat) (hn : n ≤ 16777216) : FnD Try.prog q 80 [.int .i64 n] [] (.string ⟨(List.replicate n (0 : UInt8)).toArray⟩) [] := by
  (first | refine FnD.go Try.call80 Try.func80 rfl rfl rfl ?_ | refine FnX.go Try.call80 Try.func80 rfl rfl rfl ?_)
  (repeat (first | refine g ?_))
  refine s_made 1 n n fun r => ?_
  rw [zeroL_one _ rfl]
  (repeat (first | refine g ?_))
  refine s_stringc (m := n) (o := 0) (c := ⟨List.replicate n (.int .u8 0)⟩) (l := List.replicate n 0) (by simp) (by simp [bv]) ?_
  (repeat (first | refine g ?_))
  exact run_ret rfl (imp_RD rfl shut)
theorem refNumbered_spec (q : View) (n size : Nat) (hn : n < 281474976710656) (h6 : 6 ≤ size) (hs : size ≤ 4096) : FnD Try.prog q 57 [.int .i64 n, .int .i64 size] [] (.string (numB n size)) [] := by
  have e : (⟨(leb n 6).toArray⟩ : ByteArray) ++ ⟨(List.replicate (size - 6) (0 : UInt8)).toArray⟩ = numB n size := by
    unfold numB pad0
    rw [leb_length]
    have : ∀ (a b : ByteArray), a.data.toList = b.data.toList → a = b := fun a b h => by cases a; cases b; congr; exact Array.toList_inj.1 h
    apply this
    rw [ByteArray.data_append, Array.toList_append]
  have z1 : (⟨(leb n 6).toArray⟩ : ByteArray).size = 6 := by show (leb n 6).toArray.size = 6; rw [List.size_toArray, leb_length]
  have z2 : (⟨(List.replicate (size - 6) (0 : UInt8)).toArray⟩ : ByteArray).size = size - 6 := by show (List.replicate (size - 6) (0 : UInt8)).toArray.size = _; rw [List.size_toArray, List.length_replicate]
  have c2 := noughts_spec q (size - 6) (by omega)
  rw [show ((size - 6 : Nat) : Int) = (size : Int) - 6 by omega] at c2
  (first | refine FnD.go Try.call57 Try.func57 rfl rfl rfl ?_ | refine FnX.go Try.call57 Try.func57 rfl rfl rfl ?_)
  (repeat (first | refine g ?_))
  refine s_call (refPut6 q n hn) ?_
  (repeat (first | refine g ?_))
  refine s_call c2 ?_
  (repeat (first | refine g ?_))
  exact run_ret rfl (imp_RD (by rw [e]) shut)
end Go.Proofs.Yteengkkbedijdaa.V
