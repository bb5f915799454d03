/- The document's ideal vault: Mac, Made. -/
import Derived.Test.YteengkkbedijdaaVK12
set_option maxRecDepth 10000
set_option linter.unusedVariables false
namespace Go.Proofs.Yteengkkbedijdaa.V
open Go.Proofs.Yteengkkbedijdaa.VL Go.Proofs.Yteengkkbedijdaa.VL.RD
attribute [local irreducible] Run numB
theorem posI_some {α : Type} [DecidableEq α] {l : List α} {k : α} {n : Nat} (h : pos l k = some n) : posI l k = n := by unfold posI; rw [h]
theorem posI_none {α : Type} [DecidableEq α] {l : List α} {k : α} (h : pos l k = none) : posI l k = -1 := by unfold posI; rw [h]
theorem rmac_spec (q : View) (b : Nat) (s : VSt) (hs : VOk 1000000 s) (l t : ByteArray) :
    FnD Try.prog q 36 [.pointer (some ⟨b, 0, none⟩), .string l, .string t] [rAt b s] (.string (numB (cntN s.ms (markedK l t)) 16)) [rAt b { s with ms := cntL s.ms (markedK l t) }] := by
  have hl := hs.ms
  have hlen : ∀ x ∈ s.ms, x.length = 2 := fun x hx => marked_len (hs.mo x hx)
  have hrl := rowsK_length 2 s.ms hlen
  (first | refine FnD.go Try.call36 Try.func36 rfl rfl rfl ?_ | refine FnX.go Try.call36 Try.func36 rfl rfl rfl ?_)
  refine run_r fun ph ch pm cm pe ce => ?_
  unfold rParts
  (repeat (first | refine g ?_))
  have c := pair_parts q b s hs l t ph ch pm cm pe ce
  cases hp : pos s.ms (markedK l t) with
  | some n =>
    have hlt := (pos_lt _ _ _ hp).1
    have e1 : cntN s.ms (markedK l t) = n + 1 := by unfold cntN; rw [hp]
    have e2 : cntL s.ms (markedK l t) = s.ms := by unfold cntL; rw [hp]
    rw [posI_some hp] at c
    rw [e1, e2]
    refine s_call c ?_
    (repeat (first | refine g ?_))
    refine s_call (refNumbered_spec q (n + 1) 16 (by omega) (by omega) (by omega)) ?_
    (repeat (first | refine g ?_))
    exact run_ret rfl (imp_RD rfl (imp_r shut))
  | none =>
    have e1 : cntN s.ms (markedK l t) = s.ms.length + 1 := by unfold cntN; rw [hp]
    have e2 : cntL s.ms (markedK l t) = s.ms ++ [markedK l t] := by unfold cntL; rw [hp]
    rw [posI_none hp] at c
    rw [e1, e2]
    refine s_call c ?_
    (repeat (first | refine g ?_))
    refine s_built fun r => ?_
    (repeat (first | refine g ?_))
    refine s_app 2 32 (reads_own At.head rfl) fun r2 => ?_
    (repeat (first | refine g ?_))
    refine s_call (refNumbered_spec q (s.ms.length + 1) 16 (by omega) (by omega) (by omega)) ?_
    (repeat (first | refine g ?_))
    refine run_ret rfl (imp_RD rfl ?_)
    refine imp_r (ph := ph) (ch := ch) (pm := r2.1) (cm := r2.2) (pe := pe) (ce := ce) ?_
    unfold rParts
    dsimp only
    rw [List.length_append, show rowsK (s.ms ++ [markedK l t]) = rowsK s.ms ++ [.string l, .string t] by unfold rowsK; rw [List.flatMap_append]; rfl]
    exact shut
theorem rmade_spec (q : View) (b : Nat) (s : VSt) (hs : VOk 1000000 s) (l t tg : ByteArray) :
    FnD Try.prog q 37 [.pointer (some ⟨b, 0, none⟩), .string l, .string t, .string tg] [rAt b s] (.bool (madeF s l t tg)) [rAt b s] := by
  have hl := hs.ms
  unfold madeF
  (first | refine FnD.go Try.call37 Try.func37 rfl rfl rfl ?_ | refine FnX.go Try.call37 Try.func37 rfl rfl rfl ?_)
  refine run_r fun ph ch pm cm pe ce => ?_
  unfold rParts
  (repeat (first | refine g ?_))
  have c := pair_parts q b s hs l t ph ch pm cm pe ce
  cases hp : pos s.ms (markedK l t) with
  | some n =>
    have hlt := (pos_lt _ _ _ hp).1
    rw [posI_some hp] at c
    refine s_call c ?_
    (repeat (first | refine g ?_))
    refine s_call (refNumbered_spec q (n + 1) 16 (by omega) (by omega) (by omega)) ?_
    (repeat (first | refine g ?_))
    exact run_ret rfl (imp_RD rfl (imp_r shut))
  | none =>
    rw [posI_none hp] at c
    refine s_call c ?_
    (repeat (first | refine g ?_))
    exact run_ret rfl (imp_RD rfl (imp_r shut))
end Go.Proofs.Yteengkkbedijdaa.V
