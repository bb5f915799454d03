/- The document's ideal vault: pairs; Mac, Made. -/
import Derived.Test.YteengkkbedijdaaVK11
set_option maxRecDepth 10000
set_option linter.unusedVariables false
namespace Go.Proofs.Yteengkkbedijdaa.V
open Go.Proofs.Yteengkkbedijdaa.VL Go.Proofs.Yteengkkbedijdaa.VL.RD
attribute [local irreducible] Run numB
theorem rowsK_at (k : Nat) (l : List (List KV)) (hl : ∀ x ∈ l, x.length = k) (i : Nat) (x : List KV) (h : l[i]? = some x) (j : Nat) (hj : j < k) : (rowsK l)[i * k + j]? = (x.map KV.enc)[j]? := by
  induction l generalizing i with
  | nil => cases h
  | cons y l ih =>
    unfold rowsK
    rw [List.flatMap_cons]
    have e5 : (y.map KV.enc).length = k := by rw [List.length_map]; exact hl y List.mem_cons_self
    cases i with
    | zero =>
      obtain rfl := Option.some.inj h
      rw [List.getElem?_append_left (by omega)]; congr 1; omega
    | succ i =>
      rw [List.getElem?_append_right (by rw [e5, Nat.add_mul]; omega), e5, show (i + 1) * k + j - k = i * k + j by rw [Nat.add_mul]; omega]
      exact ih (fun z hz => hl z (List.mem_cons_of_mem _ hz)) i h
theorem rowsK_length (k : Nat) (l : List (List KV)) (hl : ∀ x ∈ l, x.length = k) : (rowsK l).length = l.length * k := by
  induction l with
  | nil => simp [rowsK]
  | cons y l ih =>
    have := ih fun z hz => hl z (List.mem_cons_of_mem _ hz)
    unfold rowsK at *
    rw [List.flatMap_cons, List.length_append, this, List.length_map, hl y List.mem_cons_self, List.length_cons, Nat.add_mul]; omega
theorem marked_len {k : List KV} (h : MarkedOk k) : k.length = 2 := by obtain ⟨a, b, rfl⟩ := h; rfl
theorem sealed_len {k : List KV} (h : SealedOk k) : k.length = 4 := by obtain ⟨n, a, b, c, rfl⟩ := h; rfl
def posI {α : Type} [DecidableEq α] (l : List α) (k : α) : Int := match pos l k with | some n => (n : Int) | none => -1
theorem pair_parts (q : View) (b : Nat) (s : VSt) (hs : VOk 1000000 s) (l t : ByteArray) (ph : Option Addr) (ch : Nat) (pm : Option Addr) (cm : Nat) (pe : Option Addr) (ce : Nat) :
    FnD Try.prog q 60 [.pointer (some ⟨b, 0, none⟩), .string l, .string t] (rParts b s ph ch pm cm pe ce []) (.int .i64 (posI s.ms (markedK l t))) (rParts b s ph ch pm cm pe ce []) := by
  have hl := hs.ms
  have hlen : ∀ x ∈ s.ms, x.length = 2 := fun x hx => marked_len (hs.mo x hx)
  have hrl := rowsK_length 2 s.ms hlen
  unfold posI
  (first | refine FnD.go Try.call60 Try.func60 rfl rfl rfl ?_ | refine FnX.go Try.call60 Try.func60 rfl rfl rfl ?_)
  unfold rParts
  (repeat (first | refine g ?_))
  refine run_cutI (X := Unit) (fun _ => ∀ j, j < s.ms.length → s.ms[j]? ≠ some (markedK l t)) (fun _ => [(0, .pointer (some ⟨b, 0, none⟩))]) (fun _ => rParts b s ph ch pm cm pe ce []) ?_ fun _ hno => ?_
  · refine run_loopI (X := Nat) (fun i => i ≤ s.ms.length ∧ ∀ j, j < i → s.ms[j]? ≠ some (markedK l t)) (fun i => [(0, .pointer (some ⟨b, 0, none⟩)), (1, .string l), (2, .string t), (7, .int .i64 (i : Int))]) (fun i => rParts b s ph ch pm cm pe ce []) (fun i => s.ms.length - i) 0 ⟨Nat.zero_le _, fun j hj => absurd hj (Nat.not_lt_zero j)⟩ fct shut ?_
    intro i ⟨hi, hno⟩
    unfold rParts
    (repeat (first | refine g ?_))
    refine run_cond_dec rfl ?_ ?_
    · intro h1
      obtain ⟨x, hx⟩ : ∃ x, s.ms[i]? = some x := ⟨_, List.getElem?_eq_getElem (by omega)⟩
      obtain ⟨xa, xb, rfl⟩ := hs.mo x (List.mem_of_getElem? hx)
      have r0 := rowsK_at 2 s.ms hlen i _ hx 0 (by omega)
      have r1 := rowsK_at 2 s.ms hlen i _ hx 1 (by omega)
      have next : s.ms[i]? ≠ some (markedK l t) → ((i + 1 ≤ s.ms.length ∧ ∀ j, j < i + 1 → s.ms[j]? ≠ some (markedK l t)) ∧ s.ms.length - (i + 1) < s.ms.length - i) := fun hne => by
        refine ⟨⟨by omega, fun j hj => ?_⟩, by omega⟩
        rcases Nat.lt_or_ge j i with h | h
        · exact hno j h
        · obtain rfl : j = i := by omega
          exact hne
      refine s_ptr pm (h0 := by omega) (fun bm em _ _ => ?_)
      subst em
      by_cases ea : xa = l
      · by_cases eb : xb = t
        · subst ea eb
          have hp := pos_found s.ms _ i hx hno
          rw [hp]
          (repeat (first | refine g ?_))
          refine s_idxk 2 ?_
          (repeat (first | refine g ?_))
          refine s_loadsl (i := i * 2) r0 ?_
          (repeat (first | refine g ?_))
          refine s_idxk 2 ?_
          (repeat (first | refine g ?_))
          refine s_loadsl (i := i * 2 + 1) r1 ?_
          (repeat (first | refine g ?_))
          exact run_ret rfl (imp_RD rfl shut)
        · have hne : s.ms[i]? ≠ some (markedK l t) := fun e => by rw [hx] at e; have := Option.some.inj e; unfold markedK at this; simp at this; exact eb this.2
          subst ea
          (repeat (first | refine g ?_))
          refine s_idxk 2 ?_
          (repeat (first | refine g ?_))
          refine s_loadsl (i := i * 2) r0 ?_
          (repeat (first | refine g ?_))
          refine s_idxk 2 ?_
          (repeat (first | refine g ?_))
          refine s_loadsl (i := i * 2 + 1) r1 ?_
          (repeat (first | refine g ?_))
          exact run_stop_loop (i + 1) (next hne) fct shut
      · have hne : s.ms[i]? ≠ some (markedK l t) := fun e => by rw [hx] at e; have := Option.some.inj e; unfold markedK at this; simp at this; exact ea this.1
        (repeat (first | refine g ?_))
        refine s_idxk 2 ?_
        (repeat (first | refine g ?_))
        refine s_loadsl (i := i * 2) r0 ?_
        (repeat (first | refine g ?_))
        exact run_stop_loop (i + 1) (next hne) fct shut
    · intro h1
      obtain rfl : i = s.ms.length := by omega
      (repeat (first | refine g ?_))
      exact run_stop_loop () hno fct shut
  · rw [pos_not s.ms _ hno]
    unfold rParts
    (repeat (first | refine g ?_))
    exact run_ret rfl (imp_RD rfl shut)
end Go.Proofs.Yteengkkbedijdaa.V
