/- The law VaultHashes. -/
import Derived.Test.YteengkkbedijdaaVK4
set_option maxRecDepth 10000
set_option linter.unusedVariables false
namespace Go.Proofs.Yteengkkbedijdaa.V
open Go.Proofs.Yteengkkbedijdaa.VL Go.Proofs.Yteengkkbedijdaa.VL.RD
attribute [local irreducible] Run
def HashesI (l : List ByteArray) (i : Nat) (s : VSt) (O : List ByteArray) : Prop :=
  (i ≤ l.length ∧ i ≤ 40) ∧ VOk i s ∧ O.length = i ∧ ∀ (j : Nat) (o : ByteArray), O[j]? = some o → ∃ t n, l[j]? = some t ∧ pos s.hs t = some n ∧ o = numB (n + 1) 32
theorem VOk.mono {n m : Nat} {s : VSt} (h : VOk n s) (hm : n ≤ m) : VOk m s := ⟨Nat.le_trans h.hs hm, Nat.le_trans h.ms hm, Nat.le_trans h.es hm, h.mo, h.eo⟩
theorem HashesI.next {l : List ByteArray} {i : Nat} {s : VSt} {O : List ByteArray} (h : HashesI l i s O) (t : ByteArray) (ht : l[i]? = some t) (h40 : i < 40) : HashesI l (i + 1) { s with hs := cntL s.hs t } (O ++ [numB (cntN s.hs t) 32]) := by
  obtain ⟨⟨h1, h2⟩, h3, h4, h5⟩ := h
  have hi := (List.getElem?_eq_some_iff.1 ht).1
  have hc := cnt_le s.hs t
  have hh := h3.hs
  refine ⟨⟨hi, h40⟩, ⟨by show (cntL s.hs t).length ≤ _; omega, Nat.le_succ_of_le h3.ms, Nat.le_succ_of_le h3.es, h3.mo, h3.eo⟩, by rw [List.length_append, h4]; rfl, fun j o ho => ?_⟩
  rcases Nat.lt_or_ge j i with hj | hj
  · rw [List.getElem?_append_left (by omega)] at ho
    obtain ⟨t', n, e1, e2, e3⟩ := h5 j o ho
    exact ⟨t', n, e1, pos_cnt _ _ _ _ e2, e3⟩
  · rw [List.getElem?_append_right (by omega), h4] at ho
    have : j = i := by
      have := (List.getElem?_eq_some_iff.1 ho).1
      simp at this; omega
    subst this
    simp at ho
    have hp := pos_new s.hs t
    exact ⟨t, cntN s.hs t - 1, ht, hp.1, by rw [← ho]; congr 1; omega⟩
theorem hashes_eq {l : List ByteArray} {i : Nat} {s : VSt} {O : List ByteArray} (h : HashesI l i s O) (a b : Nat) (x y t u : ByteArray) (ha : O[a]? = some x) (hb : O[b]? = some y) (hta : l[a]? = some t) (htb : l[b]? = some u) : x = y ↔ t = u := by
  obtain ⟨⟨h1, h2⟩, h3, h4, h5⟩ := h
  obtain ⟨t', n, e1, e2, e3⟩ := h5 a x ha
  obtain ⟨u', m, f1, f2, f3⟩ := h5 b y hb
  rw [hta] at e1; rw [htb] at f1
  obtain rfl := Option.some.inj e1
  obtain rfl := Option.some.inj f1
  have ln := (pos_lt _ _ _ e2).1
  have lm := (pos_lt _ _ _ f2).1
  have hh := h3.hs
  constructor
  · intro e
    rw [e3, f3] at e
    have := numB_inj (n + 1) (m + 1) 32 (by omega) (by omega) e
    obtain rfl : n = m := by omega
    exact pos_inj _ _ _ _ e2 f2
  · intro e
    subst e
    rw [e2] at f2
    rw [e3, f3, Option.some.inj f2]
theorem hashes_spec (q : View) (lp : Option Addr) (lc : Nat) (l : List ByteArray) (hq : RowQ q lp l.length 1 (l.map Value.string)) (hl : l.length ≤ 9223372036854775807) :
    FnD Try.prog q 3 [.slice lp l.length lc] [] (.bool true) [] := by
  (first | refine FnD.go Try.call3 Try.func3 rfl rfl rfl ?_ | refine FnX.go Try.call3 Try.func3 rfl rfl rfl ?_)
  (repeat (first | refine g ?_ | refine s_flat 13 [(.pure, [0, 1, 2, 4, 5, 6, 9, 10, 11, 13, 14, 15]), (.mem true, [3, 7]), (.pure, [8]), (.mem true, [12, 16]), (.pure, [17, 18])] ?_))
  refine s_callx (ideal_new q) fun v => ?_
  (repeat (first | refine g ?_ | refine s_flat 13 [(.pure, [0, 1, 2, 4, 5, 6, 9, 10, 11, 13, 14, 15]), (.mem true, [3, 7]), (.pure, [8]), (.mem true, [12, 16]), (.pure, [17, 18])] ?_))
  have i0 : HashesI l 0 ⟨[], [], []⟩ [] := ⟨⟨Nat.zero_le _, Nat.zero_le _⟩, ⟨Nat.le_refl _, Nat.le_refl _, Nat.le_refl _, by simp, by simp⟩, rfl, by simp⟩
  refine run_cutI (X := Nat × VSt × List ByteArray × Option Addr × Nat) (fun x => HashesI l x.1 x.2.1 x.2.2.1) (fun x => [(0, .slice lp l.length lc), (4, .slice x.2.2.2.1 x.1 x.2.2.2.2)]) (fun x => [sl x.2.2.2.1 x.1 x.2.2.2.2 9 1 (x.2.2.1.map Value.string)]) ?_ fun ⟨k, s, O, op, oc⟩ hI => ?_
  · refine run_loopI (X := Nat × VSt × List ByteArray × Option Addr × Nat) (fun x => HashesI l x.1 x.2.1 x.2.2.1) (fun x => [(0, .slice lp l.length lc), (3, .pointer (some ⟨v, 0, none⟩)), (4, .slice x.2.2.2.1 x.1 x.2.2.2.2), (5, .int .i64 (x.1 : Int))])
      (fun x => [vaultAt v x.2.1, sl x.2.2.2.1 x.1 x.2.2.2.2 9 1 (x.2.2.1.map Value.string)]) (fun x => l.length - x.1) (0, ⟨[], [], []⟩, [], none, 0) i0 fct shut ?_
    intro ⟨i, s, O, op, oc⟩ hI
    dsimp only at *
    have hi := hI.1.1
    have hi4 := hI.1.2
    have hOl := hI.2.2.1
    (repeat (first | refine g ?_ | refine s_flat 13 [(.pure, [0, 1, 2, 4, 5, 6, 9, 10, 11, 13, 14, 15]), (.mem true, [3, 7]), (.pure, [8]), (.mem true, [12, 16]), (.pure, [17, 18])] ?_))
    refine run_split_dec rfl rfl rfl rfl rfl ?_ ?_
    · intro h1
      (repeat (first | refine g ?_ | refine s_flat 13 [(.pure, [0, 1, 2, 4, 5, 6, 9, 10, 11, 13, 14, 15]), (.mem true, [3, 7]), (.pure, [8]), (.mem true, [12, 16]), (.pure, [17, 18])] ?_))
      refine run_cond_dec rfl ?_ ?_
      · intro h2
        obtain ⟨t, ht⟩ : ∃ t, l[i]? = some t := ⟨_, List.getElem?_eq_getElem (by omega)⟩
        obtain ⟨bl, ol, ep, ho⟩ := hq.old (by omega)
        subst ep
        (repeat (first | refine g ?_ | refine s_flat 13 [(.pure, [0, 1, 2, 4, 5, 6, 9, 10, 11, 13, 14, 15]), (.mem true, [3, 7]), (.pure, [8]), (.mem true, [12, 16]), (.pure, [17, 18])] ?_))
        refine s_idxo (kk := 1) (ol + i) ?_
        refine s_loado (j := i) ho (v := .string t) (by rw [List.getElem?_map, ht]; rfl) ?_
        (repeat (first | refine g ?_ | refine s_flat 13 [(.pure, [0, 1, 2, 4, 5, 6, 9, 10, 11, 13, 14, 15]), (.mem true, [3, 7]), (.pure, [8]), (.mem true, [12, 16]), (.pure, [17, 18])] ?_))
        refine s_call (hash_spec q v s (hI.2.1.mono (by omega)) t) ?_
        (repeat (first | refine g ?_ | refine s_flat 13 [(.pure, [0, 1, 2, 4, 5, 6, 9, 10, 11, 13, 14, 15]), (.mem true, [3, 7]), (.pure, [8]), (.mem true, [12, 16]), (.pure, [17, 18])] ?_))
        refine s_built fun r => ?_
        refine s_app 1 16 (reads_own At.head rfl) (hxl := by rw [List.length_map, hOl, Nat.mul_one]) fun r2 => ?_
        (repeat (first | refine g ?_ | refine s_flat 13 [(.pure, [0, 1, 2, 4, 5, 6, 9, 10, 11, 13, 14, 15]), (.mem true, [3, 7]), (.pure, [8]), (.mem true, [12, 16]), (.pure, [17, 18])] ?_))
        refine run_stop_loop (i + 1, { s with hs := cntL s.hs t }, O ++ [numB (cntN s.hs t) 32], r2.1, r2.2) ⟨hI.next t ht (by omega), by dsimp only; omega⟩ fct ?_
        dsimp only
        rw [List.map_append]
        exact shut
      · intro h2
        (repeat (first | refine g ?_ | refine s_flat 13 [(.pure, [0, 1, 2, 4, 5, 6, 9, 10, 11, 13, 14, 15]), (.mem true, [3, 7]), (.pure, [8]), (.mem true, [12, 16]), (.pure, [17, 18])] ?_))
        exact run_stop_loop (i, s, O, op, oc) hI fct shut
    · intro h1
      (repeat (first | refine g ?_ | refine s_flat 13 [(.pure, [0, 1, 2, 4, 5, 6, 9, 10, 11, 13, 14, 15]), (.mem true, [3, 7]), (.pure, [8]), (.mem true, [12, 16]), (.pure, [17, 18])] ?_))
      exact run_stop_loop (i, s, O, op, oc) hI fct shut
  · dsimp only at *
    have hk := hI.1.1
    have hOl := hI.2.2.1
    (repeat (first | refine g ?_ | refine s_flat 13 [(.pure, [0, 1, 2, 4, 5, 6, 9, 10, 11, 13, 14, 15]), (.mem true, [3, 7]), (.pure, [8]), (.mem true, [12, 16]), (.pure, [17, 18])] ?_))
    refine run_loopI (X := Nat) (fun a => a ≤ k) (fun a => [(0, .slice lp l.length lc), (4, .slice op k oc), (6, .int .i64 (a : Int))]) (fun a => [sl op k oc 9 1 (O.map Value.string)]) (fun a => k - a) 0 (Nat.zero_le _) fct shut ?_
    intro a ha
    (repeat (first | refine g ?_ | refine s_flat 13 [(.pure, [0, 1, 2, 4, 5, 6, 9, 10, 11, 13, 14, 15]), (.mem true, [3, 7]), (.pure, [8]), (.mem true, [12, 16]), (.pure, [17, 18])] ?_))
    refine run_cond_dec rfl ?_ ?_
    · intro h1
      have h1' : a < k := by omega
      (repeat (first | refine g ?_ | refine s_flat 13 [(.pure, [0, 1, 2, 4, 5, 6, 9, 10, 11, 13, 14, 15]), (.mem true, [3, 7]), (.pure, [8]), (.mem true, [12, 16]), (.pure, [17, 18])] ?_))
      refine run_cutI (X := Unit) (fun _ => True) (fun _ => [(0, .slice lp l.length lc), (4, .slice op k oc), (6, .int .i64 (a : Int))]) (fun _ => [sl op k oc 9 1 (O.map Value.string)]) ?_ fun _ _ => ?_
      · refine run_loopI (X := Nat) (fun b => b ≤ a) (fun b => [(0, .slice lp l.length lc), (4, .slice op k oc), (6, .int .i64 (a : Int)), (7, .int .i64 (b : Int))]) (fun b => [sl op k oc 9 1 (O.map Value.string)]) (fun b => a - b) 0 (Nat.zero_le _) fct shut ?_
        intro b hb
        (repeat (first | refine g ?_ | refine s_flat 13 [(.pure, [0, 1, 2, 4, 5, 6, 9, 10, 11, 13, 14, 15]), (.mem true, [3, 7]), (.pure, [8]), (.mem true, [12, 16]), (.pure, [17, 18])] ?_))
        refine run_cond_dec rfl ?_ ?_
        · intro h2
          have h2' : b < a := by omega
          obtain ⟨x, hx⟩ : ∃ x, O[a]? = some x := ⟨_, List.getElem?_eq_getElem (by omega)⟩
          obtain ⟨y, hy⟩ : ∃ y, O[b]? = some y := ⟨_, List.getElem?_eq_getElem (by omega)⟩
          obtain ⟨t, ht⟩ : ∃ t, l[a]? = some t := ⟨_, List.getElem?_eq_getElem (by omega)⟩
          obtain ⟨u, hu⟩ : ∃ u, l[b]? = some u := ⟨_, List.getElem?_eq_getElem (by omega)⟩
          have heq := hashes_eq hI a b x y t u hx hy ht hu
          obtain ⟨bl, ol, ep, ho⟩ := hq.old (by omega)
          subst ep
          refine s_ptr op (h0 := by omega) (fun bo eo _ _ => ?_)
          subst eo
          have ox : (O.map Value.string)[a]? = some (.string x) := by rw [List.getElem?_map, hx]; rfl
          have oy : (O.map Value.string)[b]? = some (.string y) := by rw [List.getElem?_map, hy]; rfl
          have lx : (l.map Value.string)[a]? = some (.string t) := by rw [List.getElem?_map, ht]; rfl
          have ly : (l.map Value.string)[b]? = some (.string u) := by rw [List.getElem?_map, hu]; rfl
          (repeat (first | refine g ?_ | refine s_flat 13 [(.pure, [0, 1, 2, 4, 5, 6, 9, 10, 11, 13, 14, 15]), (.mem true, [3, 7]), (.pure, [8]), (.mem true, [12, 16]), (.pure, [17, 18])] ?_))
          refine s_idxo (kk := 1) (ol + a) ?_
          (repeat (first | refine g ?_ | refine s_flat 13 [(.pure, [0, 1, 2, 4, 5, 6, 9, 10, 11, 13, 14, 15]), (.mem true, [3, 7]), (.pure, [8]), (.mem true, [12, 16]), (.pure, [17, 18])] ?_))
          refine s_idxo (kk := 1) (ol + b) ?_
          (repeat (first | refine g ?_ | refine s_flat 13 [(.pure, [0, 1, 2, 4, 5, 6, 9, 10, 11, 13, 14, 15]), (.mem true, [3, 7]), (.pure, [8]), (.mem true, [12, 16]), (.pure, [17, 18])] ?_))
          refine s_loadsl (i := a) ox ?_
          (repeat (first | refine g ?_ | refine s_flat 13 [(.pure, [0, 1, 2, 4, 5, 6, 9, 10, 11, 13, 14, 15]), (.mem true, [3, 7]), (.pure, [8]), (.mem true, [12, 16]), (.pure, [17, 18])] ?_))
          refine s_loadsl (i := b) oy ?_
          (repeat (first | refine g ?_ | refine s_flat 13 [(.pure, [0, 1, 2, 4, 5, 6, 9, 10, 11, 13, 14, 15]), (.mem true, [3, 7]), (.pure, [8]), (.mem true, [12, 16]), (.pure, [17, 18])] ?_))
          refine s_loado (j := a) ho lx ?_
          (repeat (first | refine g ?_ | refine s_flat 13 [(.pure, [0, 1, 2, 4, 5, 6, 9, 10, 11, 13, 14, 15]), (.mem true, [3, 7]), (.pure, [8]), (.mem true, [12, 16]), (.pure, [17, 18])] ?_))
          refine s_loado (j := b) ho ly ?_
          (repeat (first | refine g ?_ | refine s_flat 13 [(.pure, [0, 1, 2, 4, 5, 6, 9, 10, 11, 13, 14, 15]), (.mem true, [3, 7]), (.pure, [8]), (.mem true, [12, 16]), (.pure, [17, 18])] ?_))
          refine s_is 57 (b := ((decide (x = y)) != (decide (t = u)))) (c := false) (by rw [show decide (x = y) = decide (t = u) from decide_eq_decide.2 heq]; simp) ?_
          (repeat (first | refine g ?_ | refine s_flat 13 [(.pure, [0, 1, 2, 4, 5, 6, 9, 10, 11, 13, 14, 15]), (.mem true, [3, 7]), (.pure, [8]), (.mem true, [12, 16]), (.pure, [17, 18])] ?_))
          exact run_stop_loop (b + 1) ⟨by omega, by omega⟩ fct shut
        · intro h2
          (repeat (first | refine g ?_ | refine s_flat 13 [(.pure, [0, 1, 2, 4, 5, 6, 9, 10, 11, 13, 14, 15]), (.mem true, [3, 7]), (.pure, [8]), (.mem true, [12, 16]), (.pure, [17, 18])] ?_))
          exact run_stop_loop () trivial fct shut
      · (repeat (first | refine g ?_ | refine s_flat 13 [(.pure, [0, 1, 2, 4, 5, 6, 9, 10, 11, 13, 14, 15]), (.mem true, [3, 7]), (.pure, [8]), (.mem true, [12, 16]), (.pure, [17, 18])] ?_))
        exact run_stop_loop (a + 1) ⟨by omega, by omega⟩ fct shut
    · intro h1
      (repeat (first | refine g ?_ | refine s_flat 13 [(.pure, [0, 1, 2, 4, 5, 6, 9, 10, 11, 13, 14, 15]), (.mem true, [3, 7]), (.pure, [8]), (.mem true, [12, 16]), (.pure, [17, 18])] ?_))
      refine s_call (awake_spec q) ?_
      (repeat (first | refine g ?_ | refine s_flat 13 [(.pure, [0, 1, 2, 4, 5, 6, 9, 10, 11, 13, 14, 15]), (.mem true, [3, 7]), (.pure, [8]), (.mem true, [12, 16]), (.pure, [17, 18])] ?_))
      exact run_ret rfl (imp_RD rfl shut)
end Go.Proofs.Yteengkkbedijdaa.V
