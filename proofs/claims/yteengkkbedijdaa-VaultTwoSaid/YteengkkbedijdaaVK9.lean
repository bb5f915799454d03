/- Open of the ideal vault. -/
import Derived.Test.YteengkkbedijdaaVK8
set_option maxRecDepth 10000
set_option linter.unusedVariables false
namespace Go.Proofs.Yteengkkbedijdaa.V
open Go.Proofs.Yteengkkbedijdaa.VL Go.Proofs.Yteengkkbedijdaa.VL.RD
attribute [local irreducible] Run numB
def openF (s : VSt) (n : Int) (no ad t : ByteArray) : ByteArray × Int := if wrongF n no = true then (⟨#[]⟩, 1) else if t.size < 16 then (⟨#[]⟩, 3) else iopenF s n no ad t
theorem open_spec (q : View) (v : Nat) (s : VSt) (hs : VOk 1000000 s) (n : Int) (no ad t : ByteArray) (ht : t.size ≤ 1000000) :
    FnD Try.prog q 18 [.pointer (some ⟨v, 0, none⟩), .int .i64 n, .string no, .string ad, .string t] [vaultAt v s] (.tuple #[.string (openF s n no ad t).1, .int .i64 (openF s n no ad t).2]) [vaultAt v s] := by
  unfold openF
  (first | refine FnD.go Try.call18 Try.func18 rfl rfl rfl ?_ | refine FnX.go Try.call18 Try.func18 rfl rfl rfl ?_)
  refine run_vault fun i h m e => ?_
  unfold vParts iParts
  (repeat (first | refine g ?_))
  refine s_call (none_spec q v i) ?_
  (repeat (first | refine g ?_))
  have cw := wrong_spec q n no
  cases hw : wrongF n no with
  | true =>
    rw [hw] at cw
    refine s_call cw ?_
    (repeat (first | refine g ?_))
    exact run_ret rfl (imp_RD rfl (imp_vault shut))
  | false =>
    rw [hw] at cw
    refine s_call cw ?_
    by_cases h16 : t.size < 16
    · rw [if_neg (by decide), if_pos h16]
      (repeat (first | refine g ?_))
      exact run_ret rfl (imp_RD rfl (imp_vault shut))
    · rw [if_neg (by decide), if_neg h16]
      have c := iopen_spec q i h m e s hs n no ad t (by omega) ht
      (repeat (first | refine g ?_))
      refine s_call c ?_
      (repeat (first | refine g ?_))
      exact run_ret rfl (imp_RD rfl (imp_vault shut))
end Go.Proofs.Yteengkkbedijdaa.V
