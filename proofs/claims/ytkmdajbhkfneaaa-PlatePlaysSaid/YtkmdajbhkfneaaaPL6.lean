/- Chapter 4's law: texts of one byte, so many times; how long a step's text is; the first example. -/
import Derived.Test.YtkmdajbhkfneaaaPL5
set_option maxRecDepth 10000
set_option linter.unusedVariables false
namespace Go.Proofs.Ytkmdajbhkfneaaa.V
open Go.Proofs.Ytkmdajbhkfneaaa.VL
attribute [local irreducible] Run
def bytesF (v : Int) (n : Nat) : ByteArray := ⟨(List.replicate n (UInt8.ofNat v.toNat)).toArray⟩
theorem bytesF_size (v : Int) (n : Nat) : (bytesF v n).size = n := by
  show (List.replicate n (UInt8.ofNat v.toNat)).toArray.size = n
  simp
theorem bv_bytes (v : Int) (n : Nat) (h0 : 0 ≤ v) (h1 : v ≤ 255) : bv (List.replicate n (UInt8.ofNat v.toNat)) = List.replicate n (Value.int .u8 v) := by
  unfold bv
  rw [List.map_replicate]
  congr 2
  rw [UInt8.toNat_ofNat']
  omega
theorem set_fill (n i : Nat) (a z : Value) (h : i < n) : (List.replicate i a ++ List.replicate (n - i) z).set i a = List.replicate (i + 1) a ++ List.replicate (n - (i + 1)) z := by
  rw [List.set_append_right _ _ (by simp), List.length_replicate, Nat.sub_self]
  obtain ⟨m, hm⟩ : ∃ m, n - i = m + 1 := ⟨n - i - 1, by omega⟩
  rw [hm, show n - (i + 1) = m by omega, List.replicate_succ, List.set_cons_zero, List.replicate_succ', List.append_assoc]
  rfl
theorem bytes_spec (q : View) (v : Int) (n : Nat) (h0 : 0 ≤ v) (h1 : v ≤ 255) (hn : n ≤ 16777216) :
    FnD Try.prog q 14 [.int .u8 v, .int .i64 n] [] (.string (bytesF v n)) [] := by
  (first | refine FnD.go Try.call14 Try.func14 rfl rfl rfl ?_ | refine FnX.go Try.call14 Try.func14 rfl rfl rfl ?_)
  (repeat (first | refine g ?_))
  refine s_made 1 n n fun r => ?_
  rw [zeroL_one _ rfl]
  (repeat (first | refine g ?_))
  refine run_loopI (X := Nat) (fun i => i ≤ n) (fun i => [(0, .int .u8 v), (1, .int .i64 n), (5, .slice (some ⟨r, 0, none⟩) n n), (6, .int .i64 (i : Int))])
    (fun i => [cells r 5 ⟨List.replicate i (.int .u8 v) ++ List.replicate (n - i) (.int .u8 0)⟩]) (fun i => n - i) 0 (Nat.zero_le _) fct ?_ ?_
  · simp only [List.replicate_zero, List.nil_append, Nat.sub_zero]
    exact shut
  · intro i hi
    (repeat (first | refine g ?_))
    refine run_cond_dec rfl ?_ ?_
    · intro h2
      have h2' : i < n := Int.ofNat_lt.1 h2
      (repeat (first | refine g ?_))
      refine s_storeset ?_
      (repeat (first | refine g ?_))
      refine run_stop_loop (i + 1) ⟨h2', by omega⟩ fct ?_
      rw [set_fill n i (.int .u8 v) (.int .u8 0) h2']
      exact shut
    · intro h2
      have h2' : i = n := Nat.le_antisymm hi (Nat.le_of_not_lt fun h => h2 (Int.ofNat_lt.2 h))
      subst h2'
      (repeat (first | refine g ?_))
      refine s_stringc (m := i) (o := 0) (c := ⟨List.replicate i (.int .u8 v) ++ List.replicate (i - i) (.int .u8 0)⟩) (l := List.replicate i (UInt8.ofNat v.toNat)) (by simp) (by rw [bv_bytes v _ h0 h1]; simp) ?_
      (repeat (first | refine g ?_))
      exact run_ret rfl (imp_RD rfl shut)
def someF (n : Int) : Int := if n < 0 ∨ 200 < n then 64 else n
theorem some_spec (q : View) (n : Int) : FnD Try.prog q 36 [.int .i64 n] [] (.int .i64 (someF n)) [] := by
  unfold someF
  (first | refine FnD.go Try.call36 Try.func36 rfl rfl rfl ?_ | refine FnX.go Try.call36 Try.func36 rfl rfl rfl ?_)
  by_cases h1 : n < 0
  · rw [if_pos (.inl h1)]
    (repeat (first | refine g ?_))
    exact run_ret rfl (imp_RD rfl shut)
  · by_cases h2 : 200 < n
    · rw [if_pos (.inr h2)]
      (repeat (first | refine g ?_))
      exact run_ret rfl (imp_RD rfl shut)
    · rw [if_neg (by omega)]
      (repeat (first | refine g ?_))
      exact run_ret rfl (imp_RD rfl shut)
theorem blank_spec (q : View) : FnD Try.prog q 12 [] [] (.string zeros64) [] := by
  (first | refine FnD.go Try.call12 Try.func12 rfl rfl rfl ?_ | refine FnX.go Try.call12 Try.func12 rfl rfl rfl ?_)
  (repeat (first | refine g ?_))
  refine s_made 1 64 64 fun r => ?_
  rw [zeroL_one _ rfl]
  (repeat (first | refine g ?_))
  refine s_stringc (m := 64) (o := 0) (c := ⟨List.replicate 64 (.int .u8 0)⟩) (l := List.replicate 64 0) (by simp) (by simp [bv]) ?_
  (repeat (first | refine g ?_))
  exact run_ret rfl (imp_RD rfl shut)
def aS : ByteArray := bytesF 120 64
def aS1 : PSt := ⟨2, [⟨#[]⟩, ⟨#[]⟩], [false, false], [(0, aS)], -1, false, 0, 1⟩
def aS2 : PSt := ⟨2, [aS, ⟨#[]⟩], [false, false], [], -1, false, 0, 1⟩
theorem aw1 : writeF (blank 2) 0 aS = (0, aS1) := by rfl
theorem aS1_wf : WF aS1 := ⟨rfl, rfl, by decide, by decide, by decide, by decide, by decide, by decide⟩
theorem aw2 : startF aS1 [true] = aS2 := by rfl
theorem aS2_wf : WF aS2 := ⟨rfl, rfl, by decide, by decide, by decide, by decide, by decide, by decide⟩
theorem aw3 : (readF aS2 0).1 = (aS, 0) := by rfl
theorem awake_spec (q : View) : FnD Try.prog q 17 [] [] (.bool true) [] := by
  (first | refine FnD.go Try.call17 Try.func17 rfl rfl rfl ?_ | refine FnX.go Try.call17 Try.func17 rfl rfl rfl ?_)
  (repeat (first | refine g ?_))
  refine s_callx (new_spec q 2 (by omega)) fun b => ?_
  (repeat (first | refine g ?_))
  refine s_call (bytes_spec q 120 64 (by omega) (by omega) (by omega)) ?_
  (repeat (first | refine g ?_))
  have h1 := write_spec q b (blank 2) (blank_wf 2 (by omega)) 0 aS
  rw [aw1] at h1
  refine s_call h1 ?_
  (repeat (first | refine g ?_))
  refine s_call (pending_spec q b aS1) ?_
  (repeat (first | refine g ?_))
  refine s_built fun r => ?_
  (repeat (first | refine g ?_))
  have h2 : FnD Try.prog q 15 [.pointer (some ⟨b, 0, none⟩), .slice (some ⟨r, 0, none⟩) 1 1] [cells r 4 ⟨[.bool true]⟩, plateAt b aS1] (.tuple #[]) [cells r 4 ⟨[.bool true]⟩, plateAt b aS2] :=
    FnD.lend Try.call15 fun q' hX hx hs hq => aw2 ▸ start_spec q' b aS1 aS1_wf (some ⟨r, 0, none⟩) 1 [true] (RowQ.of_cells hx hs rfl)
  refine s_call h2 ?_
  (repeat (first | refine g ?_))
  have h3 := read_spec q b aS2 aS2_wf 0
  rw [aw3] at h3
  refine s_call h3 ?_
  (repeat (first | refine g ?_))
  exact run_ret rfl (imp_RD rfl shut)
end Go.Proofs.Ytkmdajbhkfneaaa.V
