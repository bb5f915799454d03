/- The document's ideal vault: fours; Seal, Open. -/
import Derived.Test.YteengkkbedijdaaVK13
set_option maxRecDepth 10000
set_option linter.unusedVariables false
namespace Go.Proofs.Yteengkkbedijdaa.V
open Go.Proofs.Yteengkkbedijdaa.VL Go.Proofs.Yteengkkbedijdaa.VL.RD
attribute [local irreducible] Run numB
theorem rowsK_all (k : Nat) (l : List (List KV)) (hl : ∀ x ∈ l, x.length = k) (i : Nat) (x : List KV) (h : l[i]? = some x) : ((rowsK l).drop (i * k)).take k = x.map KV.enc := by
  have hx := hl x (List.mem_of_getElem? h)
  apply List.ext_getElem?
  intro j
  rw [List.getElem?_take, List.getElem?_drop]
  split
  · rename_i hj; exact rowsK_at k l hl i x h j hj
  · rename_i hj; rw [List.getElem?_eq_none]; rw [List.length_map, hx]; omega
set_option maxHeartbeats 1000000 in
theorem four_parts (q : View) (b : Nat) (s : VSt) (hs : VOk 1000000 s) (n : Int) (no ad t : ByteArray) (ph : Option Addr) (ch : Nat) (pm : Option Addr) (cm : Nat) (pe : Option Addr) (ce : Nat) :
    FnD Try.prog q 63 [.pointer (some ⟨b, 0, none⟩), .agg ⟨[.int .i64 n, .string no, .string ad, .string t]⟩] (rParts b s ph ch pm cm pe ce []) (.int .i64 (posI s.es (sealedK n no ad t))) (rParts b s ph ch pm cm pe ce []) := by
  have hl := hs.es
  have hlen : ∀ x ∈ s.es, x.length = 4 := fun x hx => sealed_len (hs.eo x hx)
  have hrl := rowsK_length 4 s.es hlen
  unfold posI
  (first | refine FnD.go Try.call63 Try.func63 rfl rfl rfl ?_ | refine FnX.go Try.call63 Try.func63 rfl rfl rfl ?_)
  unfold rParts
  (repeat (first | refine g ?_))
  refine s_box fun bx => ?_
  (repeat (first | refine g ?_))
  refine run_cutI (X := Unit) (fun _ => ∀ j, j < s.es.length → s.es[j]? ≠ some (sealedK n no ad t)) (fun _ => [(0, .pointer (some ⟨b, 0, none⟩))]) (fun _ => rParts b s ph ch pm cm pe ce []) ?_ fun _ hno => ?_
  · refine run_loopI (X := Nat) (fun i => i ≤ s.es.length ∧ ∀ j, j < i → s.es[j]? ≠ some (sealedK n no ad t)) (fun i => [(0, .pointer (some ⟨b, 0, none⟩)), (3, .pointer (some ⟨bx, 0, none⟩)), (5, .int .i64 (i : Int))]) (fun i => rParts b s ph ch pm cm pe ce [cells bx 91 ⟨[.int .i64 n, .string no, .string ad, .string t]⟩]) (fun i => s.es.length - i) 0 ⟨Nat.zero_le _, fun j hj => absurd hj (Nat.not_lt_zero j)⟩ fct shut ?_
    intro i ⟨hi, hno⟩
    unfold rParts
    (repeat (first | refine g ?_))
    refine run_cond_dec rfl ?_ ?_
    · intro h1
      obtain ⟨x, hx⟩ : ∃ x, s.es[i]? = some x := ⟨_, List.getElem?_eq_getElem (by omega)⟩
      obtain ⟨xn, xa, xb, xc, rfl⟩ := hs.eo x (List.mem_of_getElem? hx)
      have ra : ((rowsK s.es).drop (i * 4)).take 4 = [.int .i64 xn, .string xa, .string xb, .string xc] := rowsK_all 4 s.es hlen i _ hx
      have next : s.es[i]? ≠ some (sealedK n no ad t) → ((i + 1 ≤ s.es.length ∧ ∀ j, j < i + 1 → s.es[j]? ≠ some (sealedK n no ad t)) ∧ s.es.length - (i + 1) < s.es.length - i) := fun hne => by
        refine ⟨⟨by omega, fun j hj => ?_⟩, by omega⟩
        rcases Nat.lt_or_ge j i with h | h
        · exact hno j h
        · obtain rfl : j = i := by omega
          exact hne
      have ne : ∀ (h : ¬ (xn = n ∧ xa = no ∧ xb = ad ∧ xc = t)), s.es[i]? ≠ some (sealedK n no ad t) := fun h e => by
        rw [hx] at e
        have := Option.some.inj e
        unfold sealedK at this
        simp at this
        exact h this
      refine s_ptr pe (h0 := by omega) (fun bm em _ _ => ?_)
      subst em
      by_cases ea : xn = n
      · by_cases eb : xa = no
        · by_cases ec : xb = ad
          · by_cases ed : xc = t
            · subst ea eb ec ed
              have hp := pos_found s.es _ i hx hno
              rw [hp]
              (repeat (first | refine g ?_))
              refine s_idxk 4 ?_
              refine s_loadasl (i := i * 4) ra (by omega) ?_
              (repeat (first | refine g ?_))
              refine s_alloc fun r => ?_
              (repeat (first | refine g ?_))
              exact run_ret rfl (imp_RD rfl shut)
            · have hne := ne fun h => ed h.2.2.2
              subst ea eb ec
              (repeat (first | refine g ?_))
              refine s_idxk 4 ?_
              refine s_loadasl (i := i * 4) ra (by omega) ?_
              (repeat (first | refine g ?_))
              refine s_alloc fun r => ?_
              (repeat (first | refine g ?_))
              exact run_stop_loop (i + 1) (next hne) fct shut
          · have hne := ne fun h => ec h.2.2.1
            subst ea eb
            (repeat (first | refine g ?_))
            refine s_idxk 4 ?_
            refine s_loadasl (i := i * 4) ra (by omega) ?_
            (repeat (first | refine g ?_))
            refine s_alloc fun r => ?_
            (repeat (first | refine g ?_))
            exact run_stop_loop (i + 1) (next hne) fct shut
        · have hne := ne fun h => eb h.2.1
          subst ea
          (repeat (first | refine g ?_))
          refine s_idxk 4 ?_
          refine s_loadasl (i := i * 4) ra (by omega) ?_
          (repeat (first | refine g ?_))
          refine s_alloc fun r => ?_
          (repeat (first | refine g ?_))
          exact run_stop_loop (i + 1) (next hne) fct shut
      · have hne := ne fun h => ea h.1
        (repeat (first | refine g ?_))
        refine s_idxk 4 ?_
        refine s_loadasl (i := i * 4) ra (by omega) ?_
        (repeat (first | refine g ?_))
        refine s_alloc fun r => ?_
        (repeat (first | refine g ?_))
        exact run_stop_loop (i + 1) (next hne) fct shut
    · intro h1
      obtain rfl : i = s.es.length := by omega
      (repeat (first | refine g ?_))
      exact run_stop_loop () hno fct shut
  · rw [pos_not s.es _ hno]
    unfold rParts
    (repeat (first | refine g ?_))
    exact run_ret rfl (imp_RD rfl shut)
theorem rwrong_spec (q : View) (n : Int) (no : ByteArray) : FnD Try.prog q 61 [.int .i64 n, .string no] [] (.bool (wrongF n no)) [] := by
  unfold wrongF
  (first | refine FnD.go Try.call61 Try.func61 rfl rfl rfl ?_ | refine FnX.go Try.call61 Try.func61 rfl rfl rfl ?_)
  by_cases h0 : n < 0
  · rw [decide_eq_true (.inl h0)]
    (repeat (first | refine g ?_))
    exact run_ret rfl (imp_RD rfl shut)
  by_cases h1 : 281474976710656 ≤ n
  · rw [decide_eq_true (.inr (.inl h1))]
    (repeat (first | refine g ?_))
    exact run_ret rfl (imp_RD rfl shut)
  · have e : decide (n < 0 ∨ 281474976710656 ≤ n ∨ no.size ≠ 12) = decide ((no.size : Int) ≠ 12) := by rw [decide_eq_decide]; omega
    rw [e]
    (repeat (first | refine g ?_))
    exact run_ret rfl (imp_RD rfl shut)
end Go.Proofs.Yteengkkbedijdaa.V
