/- The device: what a nil one answers. -/
import Derived.Test.YtkmdajbhkfneaaaPL4
set_option maxRecDepth 10000
set_option linter.unusedVariables false
namespace Go.Proofs.Ytkmdajbhkfneaaa.V
open Go.Proofs.Ytkmdajbhkfneaaa.VL
attribute [local irreducible] Run
theorem read_nil (q : View) (at_ : Int) : FnD Try.prog q 16 [.pointer none, .int .i64 at_] [] (.tuple #[.string ⟨#[]⟩, .int .i64 1]) [] := by
  (first | refine FnD.go Try.call16 Try.func16 rfl rfl rfl ?_ | refine FnX.go Try.call16 Try.func16 rfl rfl rfl ?_)
  (repeat (first | refine g ?_))
  exact run_ret rfl (imp_RD rfl shut)
theorem held_nil (q : View) (at_ : Int) : FnD Try.prog q 19 [.pointer none, .int .i64 at_] [] (.tuple #[.string ⟨#[]⟩, .int .i64 1]) [] := by
  (first | refine FnD.go Try.call19 Try.func19 rfl rfl rfl ?_ | refine FnX.go Try.call19 Try.func19 rfl rfl rfl ?_)
  (repeat (first | refine g ?_))
  exact run_ret rfl (imp_RD rfl shut)
theorem write_nil (q : View) (at_ : Int) (t : ByteArray) : FnD Try.prog q 13 [.pointer none, .int .i64 at_, .string t] [] (.int .i64 1) [] := by
  (first | refine FnD.go Try.call13 Try.func13 rfl rfl rfl ?_ | refine FnX.go Try.call13 Try.func13 rfl rfl rfl ?_)
  (repeat (first | refine g ?_))
  exact run_ret rfl (imp_RD rfl shut)
theorem flush_nil (q : View) : FnD Try.prog q 18 [.pointer none] [] (.int .i64 1) [] := by
  (first | refine FnD.go Try.call18 Try.func18 rfl rfl rfl ?_ | refine FnX.go Try.call18 Try.func18 rfl rfl rfl ?_)
  (repeat (first | refine g ?_))
  exact run_ret rfl (imp_RD rfl shut)
theorem arm_nil (q : View) (at_ : Int) : FnD Try.prog q 21 [.pointer none, .int .i64 at_] [] (.int .i64 1) [] := by
  (first | refine FnD.go Try.call21 Try.func21 rfl rfl rfl ?_ | refine FnX.go Try.call21 Try.func21 rfl rfl rfl ?_)
  (repeat (first | refine g ?_))
  exact run_ret rfl (imp_RD rfl shut)
theorem lay_nil (q : View) (at_ : Int) (t : ByteArray) : FnD Try.prog q 25 [.pointer none, .int .i64 at_, .string t] [] (.int .i64 1) [] := by
  (first | refine FnD.go Try.call25 Try.func25 rfl rfl rfl ?_ | refine FnX.go Try.call25 Try.func25 rfl rfl rfl ?_)
  (repeat (first | refine g ?_))
  exact run_ret rfl (imp_RD rfl shut)
theorem spoil_nil (q : View) (at_ : Int) : FnD Try.prog q 20 [.pointer none, .int .i64 at_] [] (.int .i64 1) [] := by
  (first | refine FnD.go Try.call20 Try.func20 rfl rfl rfl ?_ | refine FnX.go Try.call20 Try.func20 rfl rfl rfl ?_)
  (repeat (first | refine g ?_))
  exact run_ret rfl (imp_RD rfl shut)
theorem copy_nil (q : View) : FnD Try.prog q 28 [.pointer none] [] (.pointer none) [] := by
  (first | refine FnD.go Try.call28 Try.func28 rfl rfl rfl ?_ | refine FnX.go Try.call28 Try.func28 rfl rfl rfl ?_)
  (repeat (first | refine g ?_ | refine s_flat 5 [(.pure, [0, 2, 3, 4]), (.mem true, [1, 5]), (.mem false, [6])] ?_ | refine s_flat 7 [(.pure, [0, 2, 3, 4]), (.mem true, [1, 5]), (.mem false, [6])] ?_ | refine s_flat 9 [(.pure, [0, 2, 3, 4]), (.mem true, [1, 5]), (.mem false, [6])] ?_))
  exact run_ret rfl (imp_RD rfl shut)
theorem start_nil (q : View) (p : Option Addr) (n c : Nat) : FnD Try.prog q 15 [.pointer none, .slice p n c] [] (.tuple #[]) [] := by
  (first | refine FnD.go Try.call15 Try.func15 rfl rfl rfl ?_ | refine FnX.go Try.call15 Try.func15 rfl rfl rfl ?_)
  (repeat (first | refine g ?_))
  exact run_ret rfl (imp_RD rfl shut)
theorem sectors_nil (q : View) : FnD Try.prog q 32 [.pointer none] [] (.int .i64 0) [] := by
  (first | refine FnD.go Try.call32 Try.func32 rfl rfl rfl ?_ | refine FnX.go Try.call32 Try.func32 rfl rfl rfl ?_)
  (repeat (first | refine g ?_))
  exact run_ret rfl (imp_RD rfl shut)
theorem pending_nil (q : View) : FnD Try.prog q 23 [.pointer none] [] (.int .i64 0) [] := by
  (first | refine FnD.go Try.call23 Try.func23 rfl rfl rfl ?_ | refine FnX.go Try.call23 Try.func23 rfl rfl rfl ?_)
  (repeat (first | refine g ?_))
  exact run_ret rfl (imp_RD rfl shut)
theorem reads_nil (q : View) : FnD Try.prog q 26 [.pointer none] [] (.int .i64 0) [] := by
  (first | refine FnD.go Try.call26 Try.func26 rfl rfl rfl ?_ | refine FnX.go Try.call26 Try.func26 rfl rfl rfl ?_)
  (repeat (first | refine g ?_))
  exact run_ret rfl (imp_RD rfl shut)
theorem writes_nil (q : View) : FnD Try.prog q 24 [.pointer none] [] (.int .i64 0) [] := by
  (first | refine FnD.go Try.call24 Try.func24 rfl rfl rfl ?_ | refine FnX.go Try.call24 Try.func24 rfl rfl rfl ?_)
  (repeat (first | refine g ?_))
  exact run_ret rfl (imp_RD rfl shut)
end Go.Proofs.Ytkmdajbhkfneaaa.V
