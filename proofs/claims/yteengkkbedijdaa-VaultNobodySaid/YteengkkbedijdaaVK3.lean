/- The ideal vault's methods. -/
import Derived.Test.YteengkkbedijdaaVK2
set_option maxRecDepth 10000
set_option linter.unusedVariables false
namespace Go.Proofs.Yteengkkbedijdaa.V
open Go.Proofs.Yteengkkbedijdaa.VL Go.Proofs.Yteengkkbedijdaa.VL.RD
attribute [local irreducible] Run
structure VSt where
  hs : List ByteArray
  ms : List (List KV)
  es : List (List KV)
structure VOk (n : Nat) (s : VSt) : Prop where
  hs : s.hs.length ≤ n
  ms : s.ms.length ≤ n
  es : s.es.length ≤ n
  mo : ∀ k ∈ s.ms, MarkedOk k
  eo : ∀ k ∈ s.es, SealedOk k
@[reducible] def iParts (i h m e : Nat) (s : VSt) (A : List HProp) : List HProp :=
  cells i 61 ⟨[.map (some h), .map (some m), .map (some e)]⟩ :: mapS h s.hs :: mapK m s.ms :: mapK e s.es :: A
@[reducible] def vParts (v i h m e : Nat) (s : VSt) (A : List HProp) : List HProp :=
  cells v 49 ⟨[.pointer none, .pointer (some ⟨i, 0, none⟩)]⟩ :: iParts i h m e s A
def vaultAt (v : Nat) (s : VSt) : HProp := hex fun x : Nat × Nat × Nat × Nat => star (vParts v x.1 x.2.1 x.2.2.1 x.2.2.2 s [])
section
variable {P : Program} {q : View} {fn : Func} {R : Value → HProp} {k : List It} {σ : Facts} {A B : List HProp} {F : HProp} {v : Nat} {s : VSt}
theorem run_vault (hk : ∀ i h m e, Run P q fn R k σ (vParts v i h m e s A)) : Run P q fn R k σ (vaultAt v s :: A) :=
  run_hex fun x => run_star (hk _ _ _ _)
theorem imp_vault {i h m e : Nat} (hh : Imp F (star (vParts v i h m e s B))) : Imp F (star (vaultAt v s :: B)) := by
  refine imp_ex (i, h, m, e) ?_
  exact imp_star hh
end
theorem ideal_new (q : View) : FnX Try.prog q 11 [] [] (fun v : Nat => .pointer (some ⟨v, 0, none⟩)) fun v => [vaultAt v ⟨[], [], []⟩] := by
  (first | refine FnD.go Try.call11 Try.func11 rfl rfl rfl ?_ | refine FnX.go Try.call11 Try.func11 rfl rfl rfl ?_)
  (repeat (first | refine g ?_))
  refine s_makeMap fun h => ?_
  (repeat (first | refine g ?_))
  refine s_makeMap fun m => ?_
  (repeat (first | refine g ?_))
  refine s_makeMap fun e => ?_
  (repeat (first | refine g ?_))
  refine s_box fun i => ?_
  (repeat (first | refine g ?_))
  refine s_box fun v => ?_
  (repeat (first | refine g ?_))
  refine run_ret rfl (imp_RX v rfl (imp_vault (i := i) (h := h) (m := m) (e := e) ?_))
  unfold vParts iParts mapS mapK
  exact shut
theorem none_spec (q : View) (v i : Nat) : FnD Try.prog q 22 [.pointer (some ⟨v, 0, none⟩)] [cells v 49 ⟨[.pointer none, .pointer (some ⟨i, 0, none⟩)]⟩] (.bool false) [cells v 49 ⟨[.pointer none, .pointer (some ⟨i, 0, none⟩)]⟩] := by
  (first | refine FnD.go Try.call22 Try.func22 rfl rfl rfl ?_ | refine FnX.go Try.call22 Try.func22 rfl rfl rfl ?_)
  (repeat (first | refine g ?_))
  exact run_ret rfl (imp_RD rfl shut)
theorem ihash_spec (q : View) (i h m e : Nat) (s : VSt) (hs : VOk 1000000 s) (t : ByteArray) :
    FnD Try.prog q 23 [.pointer (some ⟨i, 0, none⟩), .string t] (iParts i h m e s []) (.string (numB (cntN s.hs t) 32)) (iParts i h m e { s with hs := cntL s.hs t } []) := by
  have hc : cntN s.hs t ≤ s.hs.length + 1 := by
    unfold cntN; cases hp : pos s.hs t with
    | none => exact Nat.le_refl _
    | some n => have := (pos_lt _ _ _ hp).1; show n + 1 ≤ _; omega
  have hl := hs.hs
  (first | refine FnD.go Try.call23 Try.func23 rfl rfl rfl ?_ | refine FnX.go Try.call23 Try.func23 rfl rfl rfl ?_)
  unfold iParts
  (repeat (first | refine g ?_))
  refine s_call (countS_spec q h s.hs t (by omega)) ?_
  (repeat (first | refine g ?_))
  refine s_call (numbered_spec q (cntN s.hs t) 32 (by omega) (by omega) (by omega)) ?_
  (repeat (first | refine g ?_))
  exact run_ret rfl (imp_RD rfl shut)
theorem hash_spec (q : View) (v : Nat) (s : VSt) (hs : VOk 1000000 s) (t : ByteArray) :
    FnD Try.prog q 12 [.pointer (some ⟨v, 0, none⟩), .string t] [vaultAt v s] (.string (numB (cntN s.hs t) 32)) [vaultAt v { s with hs := cntL s.hs t }] := by
  (first | refine FnD.go Try.call12 Try.func12 rfl rfl rfl ?_ | refine FnX.go Try.call12 Try.func12 rfl rfl rfl ?_)
  refine run_vault fun i h m e => ?_
  unfold vParts iParts
  (repeat (first | refine g ?_))
  refine s_call (none_spec q v i) ?_
  (repeat (first | refine g ?_))
  refine s_call (ihash_spec q i h m e s hs t) ?_
  (repeat (first | refine g ?_))
  exact run_ret rfl (imp_RD rfl (imp_vault shut))
end Go.Proofs.Yteengkkbedijdaa.V
