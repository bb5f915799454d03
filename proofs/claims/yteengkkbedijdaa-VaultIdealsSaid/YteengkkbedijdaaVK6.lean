/- Marks: the ideal vault's Mac and Made; the law VaultMarks. -/
import Derived.Test.YteengkkbedijdaaVK4
set_option maxRecDepth 10000
set_option linter.unusedVariables false
namespace Go.Proofs.Yteengkkbedijdaa.V
open Go.Proofs.Yteengkkbedijdaa.VL Go.Proofs.Yteengkkbedijdaa.VL.RD
attribute [local irreducible] Run
theorem pos_cnt_ne {α : Type} [DecidableEq α] (l : List α) (k b : α) (h : k ≠ b) : pos (cntL l b) k = pos l k := by
  unfold cntL
  cases hb : pos l b with
  | some m => rfl
  | none =>
    show pos (l ++ [b]) k = _
    rw [pos_snoc]
    cases pos l k with
    | some n => rfl
    | none => simp [h]
theorem imac_spec (q : View) (i h m e : Nat) (s : VSt) (hs : VOk 1000000 s) (l t : ByteArray) :
    FnD Try.prog q 25 [.pointer (some ⟨i, 0, none⟩), .string l, .string t] (iParts i h m e s []) (.string (numB (cntN s.ms (markedK l t)) 16)) (iParts i h m e { s with ms := cntL s.ms (markedK l t) } []) := by
  have hc := (cnt_le s.ms (markedK l t)).1
  have hl := hs.ms
  (first | refine FnD.go Try.call25 Try.func25 rfl rfl rfl ?_ | refine FnX.go Try.call25 Try.func25 rfl rfl rfl ?_)
  unfold iParts
  (repeat (first | refine g ?_))
  refine s_call (countM_spec q m s.ms hs.mo l t (by omega)) ?_
  (repeat (first | refine g ?_))
  refine s_call (numbered_spec q (cntN s.ms (markedK l t)) 16 (by omega) (by omega) (by omega)) ?_
  (repeat (first | refine g ?_))
  exact run_ret rfl (imp_RD rfl shut)
theorem mac_spec (q : View) (v : Nat) (s : VSt) (hs : VOk 1000000 s) (l t : ByteArray) :
    FnD Try.prog q 14 [.pointer (some ⟨v, 0, none⟩), .string l, .string t] [vaultAt v s] (.string (numB (cntN s.ms (markedK l t)) 16)) [vaultAt v { s with ms := cntL s.ms (markedK l t) }] := by
  (first | refine FnD.go Try.call14 Try.func14 rfl rfl rfl ?_ | refine FnX.go Try.call14 Try.func14 rfl rfl rfl ?_)
  refine run_vault fun i h m e => ?_
  unfold vParts iParts
  (repeat (first | refine g ?_))
  refine s_call (none_spec q v i) ?_
  (repeat (first | refine g ?_))
  refine s_call (imac_spec q i h m e s hs l t) ?_
  (repeat (first | refine g ?_))
  exact run_ret rfl (imp_RD rfl (imp_vault shut))
/-- Was that mark made? -/
def madeF (s : VSt) (l t tg : ByteArray) : Bool := match pos s.ms (markedK l t) with | some n => decide (tg = numB (n + 1) 16) | none => false
theorem imade_spec (q : View) (i h m e : Nat) (s : VSt) (hs : VOk 1000000 s) (l t tg : ByteArray) :
    FnD Try.prog q 27 [.pointer (some ⟨i, 0, none⟩), .string l, .string t, .string tg] (iParts i h m e s []) (.bool (madeF s l t tg)) (iParts i h m e s []) := by
  have hl := hs.ms
  have hk := marked_find s.ms hs.mo l t
  rw [findK_numd] at hk
  unfold madeF
  (first | refine FnD.go Try.call27 Try.func27 rfl rfl rfl ?_ | refine FnX.go Try.call27 Try.func27 rfl rfl rfl ?_)
  unfold iParts
  cases hp : pos s.ms (markedK l t) with
  | some n =>
    rw [hp] at hk
    have hlt := (pos_lt s.ms _ n hp).1
    simp only [Option.map_some, Nat.zero_add] at hk
    unfold mapK
    (repeat (first | refine g ?_))
    refine s_look2s (k := encK (markedK l t)) hk ?_
    (repeat (first | refine g ?_))
    refine s_call (numbered_spec q (n + 1) 16 (by omega) (by omega) (by omega)) ?_
    (repeat (first | refine g ?_))
    exact run_ret rfl (imp_RD rfl shut)
  | none =>
    rw [hp] at hk
    simp only [Option.map_none] at hk
    unfold mapK
    (repeat (first | refine g ?_))
    refine s_look2n (k := encK (markedK l t)) hk ?_
    (repeat (first | refine g ?_))
    exact run_ret rfl (imp_RD rfl shut)
theorem made_spec (q : View) (v : Nat) (s : VSt) (hs : VOk 1000000 s) (l t tg : ByteArray) :
    FnD Try.prog q 15 [.pointer (some ⟨v, 0, none⟩), .string l, .string t, .string tg] [vaultAt v s] (.bool (madeF s l t tg)) [vaultAt v s] := by
  (first | refine FnD.go Try.call15 Try.func15 rfl rfl rfl ?_ | refine FnX.go Try.call15 Try.func15 rfl rfl rfl ?_)
  refine run_vault fun i h m e => ?_
  unfold vParts iParts
  (repeat (first | refine g ?_))
  refine s_call (none_spec q v i) ?_
  (repeat (first | refine g ?_))
  refine s_call (imade_spec q i h m e s hs l t tg) ?_
  (repeat (first | refine g ?_))
  exact run_ret rfl (imp_RD rfl (imp_vault shut))
end Go.Proofs.Yteengkkbedijdaa.V
