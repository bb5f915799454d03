/- The law VaultNobody. -/
import Derived.Test.YteengkkbedijdaaVK20
set_option maxRecDepth 10000
set_option linter.unusedVariables false
namespace Go.Proofs.Yteengkkbedijdaa.V
open Go.Proofs.Yteengkkbedijdaa.VL Go.Proofs.Yteengkkbedijdaa.VL.RD
attribute [local irreducible] Run numB
theorem none_nil (q : View) : FnD Try.prog q 22 [.pointer none] [] (.bool true) [] := by
  (first | refine FnD.go Try.call22 Try.func22 rfl rfl rfl ?_ | refine FnX.go Try.call22 Try.func22 rfl rfl rfl ?_)
  (repeat (first | refine g ?_))
  exact run_ret rfl (imp_RD rfl shut)
theorem none_zero (q : View) (v : Nat) : FnD Try.prog q 22 [.pointer (some ⟨v, 0, none⟩)] [cells v 49 ⟨[.pointer none, .pointer none]⟩] (.bool true) [cells v 49 ⟨[.pointer none, .pointer none]⟩] := by
  (first | refine FnD.go Try.call22 Try.func22 rfl rfl rfl ?_ | refine FnX.go Try.call22 Try.func22 rfl rfl rfl ?_)
  (repeat (first | refine g ?_))
  exact run_ret rfl (imp_RD rfl shut)
theorem seal_nil (q : View) (n : Int) (no ad t : ByteArray) : FnD Try.prog q 17 [.pointer none, .int .i64 n, .string no, .string ad, .string t] [] (.tuple #[.string ⟨#[]⟩, .int .i64 1]) [] := by
  (first | refine FnD.go Try.call17 Try.func17 rfl rfl rfl ?_ | refine FnX.go Try.call17 Try.func17 rfl rfl rfl ?_)
  (repeat (first | refine g ?_))
  refine s_call (none_nil q) ?_
  (repeat (first | refine g ?_))
  exact run_ret rfl (imp_RD rfl shut)
theorem open_zero (q : View) (v : Nat) (n : Int) (no ad t : ByteArray) : FnD Try.prog q 18 [.pointer (some ⟨v, 0, none⟩), .int .i64 n, .string no, .string ad, .string t] [cells v 49 ⟨[.pointer none, .pointer none]⟩] (.tuple #[.string ⟨#[]⟩, .int .i64 1]) [cells v 49 ⟨[.pointer none, .pointer none]⟩] := by
  (first | refine FnD.go Try.call18 Try.func18 rfl rfl rfl ?_ | refine FnX.go Try.call18 Try.func18 rfl rfl rfl ?_)
  (repeat (first | refine g ?_))
  refine s_call (none_zero q v) ?_
  (repeat (first | refine g ?_))
  exact run_ret rfl (imp_RD rfl shut)
theorem hash_nil (q : View) (t : ByteArray) : FnD Try.prog q 12 [.pointer none, .string t] [] (.string ⟨#[]⟩) [] := by
  (first | refine FnD.go Try.call12 Try.func12 rfl rfl rfl ?_ | refine FnX.go Try.call12 Try.func12 rfl rfl rfl ?_)
  (repeat (first | refine g ?_))
  refine s_call (none_nil q) ?_
  (repeat (first | refine g ?_))
  exact run_ret rfl (imp_RD rfl shut)
theorem mac_zero (q : View) (v : Nat) (l t : ByteArray) : FnD Try.prog q 14 [.pointer (some ⟨v, 0, none⟩), .string l, .string t] [cells v 49 ⟨[.pointer none, .pointer none]⟩] (.string ⟨#[]⟩) [cells v 49 ⟨[.pointer none, .pointer none]⟩] := by
  (first | refine FnD.go Try.call14 Try.func14 rfl rfl rfl ?_ | refine FnX.go Try.call14 Try.func14 rfl rfl rfl ?_)
  (repeat (first | refine g ?_))
  refine s_call (none_zero q v) ?_
  (repeat (first | refine g ?_))
  exact run_ret rfl (imp_RD rfl shut)
theorem made_nil (q : View) (l t tg : ByteArray) : FnD Try.prog q 15 [.pointer none, .string l, .string t, .string tg] [] (.bool false) [] := by
  (first | refine FnD.go Try.call15 Try.func15 rfl rfl rfl ?_ | refine FnX.go Try.call15 Try.func15 rfl rfl rfl ?_)
  (repeat (first | refine g ?_))
  refine s_call (none_nil q) ?_
  (repeat (first | refine g ?_))
  exact run_ret rfl (imp_RD rfl shut)
theorem nobody_spec (q : View) (a : OpT) : FnD Try.prog q 8 [.agg ⟨encOp a⟩] [] (.bool true) [] := by
  unfold encOp
  (first | refine FnD.go Try.call8 Try.func8 rfl rfl rfl ?_ | refine FnX.go Try.call8 Try.func8 rfl rfl rfl ?_)
  (repeat (first | refine g ?_))
  refine s_box fun ba => ?_
  (repeat (first | refine g ?_))
  refine s_alloc fun z => ?_
  (repeat (first | refine g ?_))
  refine s_call (seal_nil q a.salt a.nonce a.label a.text) ?_
  (repeat (first | refine g ?_))
  refine s_call (open_zero q z a.salt a.nonce a.label a.text) ?_
  (repeat (first | refine g ?_))
  refine s_call (hash_nil q a.text) ?_
  (repeat (first | refine g ?_))
  refine s_call (mac_zero q z a.label a.text) ?_
  (repeat (first | refine g ?_))
  refine s_call (made_nil q a.label a.text a.tag) ?_
  (repeat (first | refine g ?_))
  refine s_call (awake_spec q) ?_
  (repeat (first | refine g ?_))
  exact run_ret rfl (imp_RD rfl shut)
end Go.Proofs.Yteengkkbedijdaa.V
