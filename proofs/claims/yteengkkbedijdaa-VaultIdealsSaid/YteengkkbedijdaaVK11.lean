/- The document's ideal vault: Hash, Mac, Made. -/
import Derived.Test.YteengkkbedijdaaVK10
set_option maxRecDepth 10000
set_option linter.unusedVariables false
namespace Go.Proofs.Yteengkkbedijdaa.V
open Go.Proofs.Yteengkkbedijdaa.VL Go.Proofs.Yteengkkbedijdaa.VL.RD
attribute [local irreducible] Run numB
theorem pos_found {α : Type} [DecidableEq α] (l : List α) (k : α) (i : Nat) (h : l[i]? = some k) (hno : ∀ j, j < i → l[j]? ≠ some k) : pos l k = some i := by
  induction l generalizing i with
  | nil => cases h
  | cons b l ih =>
    unfold pos
    cases i with
    | zero => obtain rfl := Option.some.inj h; rw [if_pos rfl]
    | succ i =>
      have h0 : ¬ k = b := fun e => hno 0 (Nat.succ_pos _) (by rw [e]; rfl)
      rw [if_neg h0, ih i h fun j hj => hno (j + 1) (by omega)]; rfl
theorem pos_not {α : Type} [DecidableEq α] (l : List α) (k : α) (hno : ∀ j, j < l.length → l[j]? ≠ some k) : pos l k = none := by
  cases hp : pos l k with
  | none => rfl
  | some n => exact absurd (pos_lt l k n hp).2 (hno n (pos_lt l k n hp).1)
def rowsK (l : List (List KV)) : List Value := l.flatMap fun k => k.map KV.enc
@[reducible] def rParts (b : Nat) (s : VSt) (ph : Option Addr) (ch : Nat) (pm : Option Addr) (cm : Nat) (pe : Option Addr) (ce : Nat) (A : List HProp) : List HProp :=
  cells b 42 ⟨[.bool true, .string ⟨#[]⟩, .slice ph s.hs.length ch, .slice pm s.ms.length cm, .slice pe s.es.length ce]⟩ ::
   sl ph s.hs.length ch 9 1 (s.hs.map Value.string) :: sl pm s.ms.length cm 88 2 (rowsK s.ms) :: sl pe s.es.length ce 91 4 (rowsK s.es) :: A
def rAt (b : Nat) (s : VSt) : HProp := hex fun x : Option Addr × Nat × Option Addr × Nat × Option Addr × Nat => star (rParts b s x.1 x.2.1 x.2.2.1 x.2.2.2.1 x.2.2.2.2.1 x.2.2.2.2.2 [])
section
variable {P : Program} {q : View} {fn : Func} {R : Value → HProp} {k : List It} {σ : Facts} {A B : List HProp} {F : HProp} {b : Nat} {s : VSt}
theorem run_r (hk : ∀ ph ch pm cm pe ce, Run P q fn R k σ (rParts b s ph ch pm cm pe ce A)) : Run P q fn R k σ (rAt b s :: A) :=
  run_hex fun x => run_star (hk _ _ _ _ _ _)
theorem imp_r {ph pm pe : Option Addr} {ch cm ce : Nat} (h : Imp F (star (rParts b s ph ch pm cm pe ce B))) : Imp F (star (rAt b s :: B)) := by
  refine imp_ex (ph, ch, pm, cm, pe, ce) ?_
  exact imp_star h
end
theorem rhash_spec (q : View) (b : Nat) (s : VSt) (hs : VOk 1000000 s) (t : ByteArray) :
    FnD Try.prog q 35 [.pointer (some ⟨b, 0, none⟩), .string t] [rAt b s] (.string (numB (cntN s.hs t) 32)) [rAt b { s with hs := cntL s.hs t }] := by
  have hl := hs.hs
  (first | refine FnD.go Try.call35 Try.func35 rfl rfl rfl ?_ | refine FnX.go Try.call35 Try.func35 rfl rfl rfl ?_)
  refine run_r fun ph ch pm cm pe ce => ?_
  unfold rParts
  (repeat (first | refine g ?_))
  refine run_cutI (X := Unit) (fun _ => ∀ j, j < s.hs.length → s.hs[j]? ≠ some t) (fun _ => [(0, .pointer (some ⟨b, 0, none⟩)), (1, .string t)]) (fun _ => rParts b s ph ch pm cm pe ce []) ?_ fun _ hno => ?_
  · refine run_loopI (X := Nat) (fun i => i ≤ s.hs.length ∧ ∀ j, j < i → s.hs[j]? ≠ some t) (fun i => [(0, .pointer (some ⟨b, 0, none⟩)), (1, .string t), (5, .int .i64 (i : Int))]) (fun i => rParts b s ph ch pm cm pe ce []) (fun i => s.hs.length - i) 0 ⟨Nat.zero_le _, fun j hj => absurd hj (Nat.not_lt_zero j)⟩ fct shut ?_
    intro i ⟨hi, hno⟩
    unfold rParts
    (repeat (first | refine g ?_))
    refine run_cond_dec rfl ?_ ?_
    · intro h1
      obtain ⟨x, hx⟩ : ∃ x, s.hs[i]? = some x := ⟨_, List.getElem?_eq_getElem (by omega)⟩
      refine s_ptr ph (h0 := by omega) (fun bh eh _ _ => ?_)
      subst eh
      (repeat (first | refine g ?_))
      refine s_loadsl (i := i) (v := .string x) (by rw [List.getElem?_map, hx]; rfl) ?_
      (repeat (first | refine g ?_))
      refine run_cond_dec rfl ?_ ?_
      · intro h2
        have hp := pos_found s.hs t i (by rw [hx, h2]) hno
        have e1 : cntN s.hs t = i + 1 := by unfold cntN; rw [hp]
        have e2 : cntL s.hs t = s.hs := by unfold cntL; rw [hp]
        (repeat (first | refine g ?_))
        refine s_call (refNumbered_spec q (i + 1) 32 (by omega) (by omega) (by omega)) ?_
        rw [e1, e2]
        (repeat (first | refine g ?_))
        exact run_ret rfl (imp_RD rfl (imp_r shut))
      · intro h2
        (repeat (first | refine g ?_))
        refine run_stop_loop (i + 1) ⟨⟨by omega, fun j hj => ?_⟩, by omega⟩ fct shut
        rcases Nat.lt_or_ge j i with h | h
        · exact hno j h
        · obtain rfl : j = i := by omega
          rw [hx]; intro e; exact h2 (Option.some.inj e)
    · intro h1
      obtain rfl : i = s.hs.length := by omega
      (repeat (first | refine g ?_))
      exact run_stop_loop () hno fct shut
  · have hp := pos_not s.hs t hno
    have e1 : cntN s.hs t = s.hs.length + 1 := by unfold cntN; rw [hp]
    have e2 : cntL s.hs t = s.hs ++ [t] := by unfold cntL; rw [hp]
    rw [e1, e2]
    unfold rParts
    (repeat (first | refine g ?_))
    refine s_built fun r => ?_
    (repeat (first | refine g ?_))
    refine s_app 1 16 (reads_own At.head rfl) (hxl := by simp) fun r2 => ?_
    (repeat (first | refine g ?_))
    refine s_call (refNumbered_spec q (s.hs.length + 1) 32 (by omega) (by omega) (by omega)) ?_
    (repeat (first | refine g ?_))
    refine run_ret rfl (imp_RD rfl ?_)
    refine imp_r (ph := r2.1) (ch := r2.2) (pm := pm) (cm := cm) (pe := pe) (ce := ce) ?_
    unfold rParts
    dsimp only
    rw [List.length_append, List.map_append]
    exact shut
end Go.Proofs.Yteengkkbedijdaa.V
