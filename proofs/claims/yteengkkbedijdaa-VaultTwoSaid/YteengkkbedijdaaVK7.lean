/- The law VaultMarks. -/
import Derived.Test.YteengkkbedijdaaVK6
set_option maxRecDepth 10000
set_option linter.unusedVariables false
namespace Go.Proofs.Yteengkkbedijdaa.V
open Go.Proofs.Yteengkkbedijdaa.VL Go.Proofs.Yteengkkbedijdaa.VL.RD
attribute [local irreducible] Run
/-- A step of a script. -/
structure OpT where
  kind : Int
  salt : Int
  nonce : ByteArray
  label : ByteArray
  text : ByteArray
  tag : ByteArray
def encOp (x : OpT) : List Value := [.int .i64 x.kind, .int .i64 x.salt, .string x.nonce, .string x.label, .string x.text, .string x.tag]
structure OpOk (x : OpT) : Prop where
  k0 : -9223372036854775808 ≤ x.kind
  k1 : x.kind ≤ 9223372036854775807
  s0 : -9223372036854775808 ≤ x.salt
  s1 : x.salt ≤ 9223372036854775807
  n : x.nonce.size ≤ 9223372036854775807
  l : x.label.size ≤ 9223372036854775807
  t : x.text.size ≤ 9223372036854775807
  g : x.tag.size ≤ 9223372036854775807
def OpsQ (q : View) (p : Option Addr) (l : List OpT) : Prop := RowQ q p l.length 6 (l.flatMap encOp) ∧ ∀ x ∈ l, OpOk x
theorem enc6 (l : List OpT) (i : Nat) (x : OpT) (h : l[i]? = some x) (j : Nat) (hj : j < 6) : (l.flatMap encOp)[i * 6 + j]? = (encOp x)[j]? := by
  induction l generalizing i with
  | nil => cases h
  | cons y l ih =>
    rw [List.flatMap_cons]
    have e5 : (encOp y).length = 6 := rfl
    cases i with
    | zero =>
      obtain rfl := Option.some.inj h
      rw [List.getElem?_append_left (by omega)]; congr 1; omega
    | succ i =>
      rw [List.getElem?_append_right (by omega), e5, show (i + 1) * 6 + j - 6 = i * 6 + j by omega]
      exact ih i h
theorem enc6_len (l : List OpT) : (l.flatMap encOp).length = l.length * 6 := by
  induction l with
  | nil => rfl
  | cons y l ih => rw [List.flatMap_cons, List.length_append, ih, List.length_cons]; show 6 + _ = _; omega
theorem enc6_all (l : List OpT) (i : Nat) (x : OpT) (h : l[i]? = some x) : ((l.flatMap encOp).drop (i * 6)).take 6 = encOp x := by
  apply List.ext_getElem?
  intro j
  rw [List.getElem?_take, List.getElem?_drop]
  split
  · rename_i hj; exact enc6 l i x h j hj
  · rename_i hj; rw [List.getElem?_eq_none]; show 6 ≤ j; omega
theorem OpsQ.at {q : View} {p : Option Addr} {l : List OpT} (h : OpsQ q p l) (i : Nat) (hi : i < l.length) : ∃ x b o, l[i]? = some x ∧ OpOk x ∧ p = some ⟨b, o, none⟩ ∧ Old q b o (l.flatMap encOp) ∧ ((l.flatMap encOp).drop (i * 6)).take 6 = encOp x ∧ i * 6 + 6 ≤ (l.flatMap encOp).length := by
  obtain ⟨x, hx⟩ : ∃ x, l[i]? = some x := ⟨_, List.getElem?_eq_getElem hi⟩
  obtain ⟨b, o, ep, ho⟩ := h.1.old (by omega)
  exact ⟨x, b, o, hx, h.2 x (List.mem_of_getElem? hx), ep, ho, enc6_all l i x hx, by rw [enc6_len]; omega⟩
theorem marked_inj {a b c d : ByteArray} (h : markedK a b = markedK c d) : a = c ∧ b = d := by
  unfold markedK at h
  simp at h
  exact h
theorem made_mac (s : VSt) (l t a b tg : ByteArray) : madeF { s with ms := cntL s.ms (markedK l t) } a b tg = (madeF s a b tg || (decide (l = a) && decide (t = b) && decide (numB (cntN s.ms (markedK l t)) 16 = tg))) := by
  unfold madeF
  dsimp only
  by_cases h : l = a ∧ t = b
  · obtain ⟨rfl, rfl⟩ := h
    have hp := pos_new s.ms (markedK l t)
    rw [hp.1]
    have e : cntN s.ms (markedK l t) - 1 + 1 = cntN s.ms (markedK l t) := by omega
    dsimp only
    rw [e]
    cases h0 : pos s.ms (markedK l t) with
    | none => simp [eq_comm]
    | some n =>
      have : cntN s.ms (markedK l t) = n + 1 := by unfold cntN; rw [h0]
      rw [this]
      by_cases h1 : tg = numB (n + 1) 16
      · simp [h1]
      · simp [h1, Ne.symm h1]
  · rw [pos_cnt_ne _ _ _ (fun e => h ⟨(marked_inj e).1.symm, (marked_inj e).2.symm⟩)]
    have : (decide (l = a) && decide (t = b)) = false := by
      by_cases h1 : l = a
      · rw [decide_eq_false (fun h2 => h ⟨h1, h2⟩)]; simp
      · rw [decide_eq_false h1]; simp
    rw [this]; simp
theorem made_self (s : VSt) (l t : ByteArray) : madeF { s with ms := cntL s.ms (markedK l t) } l t (numB (cntN s.ms (markedK l t)) 16) = true := by
  rw [made_mac]; simp
theorem VOk.mac {n : Nat} {s : VSt} (h : VOk n s) (l t : ByteArray) : VOk (n + 1) { s with ms := cntL s.ms (markedK l t) } := by
  have hc := (cnt_le s.ms (markedK l t)).2
  have hm := h.ms
  refine ⟨Nat.le_succ_of_le h.hs, by show (cntL s.ms (markedK l t)).length ≤ _; omega, Nat.le_succ_of_le h.es, ?_, h.eo⟩
  intro k hk
  have hk : k ∈ cntL s.ms (markedK l t) := hk
  unfold cntL at hk
  split at hk
  · exact h.mo k hk
  · rcases List.mem_append.1 hk with hk | hk
    · exact h.mo k hk
    · obtain rfl : k = markedK l t := by simpa using hk
      exact ⟨l, t, rfl⟩
theorem VOk.mono {n m : Nat} {s : VSt} (h : VOk n s) (hm : n ≤ m) : VOk m s := ⟨Nat.le_trans h.hs hm, Nat.le_trans h.ms hm, Nat.le_trans h.es hm, h.mo, h.eo⟩
theorem marks_spec (q : View) (p : Option Addr) (c : Nat) (l : List OpT) (hq : OpsQ q p l) (hl : l.length ≤ 9223372036854775807) (a : OpT) :
    FnD Try.prog q 4 [.slice p l.length c, .agg ⟨encOp a⟩] [] (.bool true) [] := by
  unfold encOp
  (first | refine FnD.go Try.call4 Try.func4 rfl rfl rfl ?_ | refine FnX.go Try.call4 Try.func4 rfl rfl rfl ?_)
  (repeat (first | refine g ?_))
  refine s_box fun ba => ?_
  (repeat (first | refine g ?_))
  refine s_callx (ideal_new q) fun v => ?_
  (repeat (first | refine g ?_))
  have k0 : VOk 0 ⟨[], [], []⟩ := ⟨Nat.le_refl _, Nat.le_refl _, Nat.le_refl _, by simp, by simp⟩
  refine run_cutI (X := VSt) (fun s => VOk 30 s) (fun s => [(3, .pointer (some ⟨ba, 0, none⟩)), (5, .pointer (some ⟨v, 0, none⟩)), (6, .bool (madeF s a.label a.text a.tag))]) (fun s => [vaultAt v s, cells ba 30 ⟨encOp a⟩]) ?_ fun s hs => ?_
  · refine run_loopI (X := Nat × VSt) (fun x => (x.1 ≤ l.length ∧ x.1 ≤ 30) ∧ VOk x.1 x.2) (fun x => [(0, .slice p l.length c), (3, .pointer (some ⟨ba, 0, none⟩)), (5, .pointer (some ⟨v, 0, none⟩)), (6, .bool (madeF x.2 a.label a.text a.tag)), (7, .int .i64 (x.1 : Int))])
      (fun x => [vaultAt v x.2, cells ba 30 ⟨encOp a⟩]) (fun x => l.length - x.1) (0, ⟨[], [], []⟩) ⟨⟨Nat.zero_le _, Nat.zero_le _⟩, k0⟩ fct shut ?_
    intro ⟨i, s⟩ ⟨⟨hi, hi30⟩, hs⟩
    dsimp only at *
    unfold encOp
    (repeat (first | refine g ?_))
    refine run_split_dec rfl rfl rfl rfl rfl ?_ ?_
    · intro h1
      (repeat (first | refine g ?_))
      refine run_cond_dec rfl ?_ ?_
      · intro h2
        obtain ⟨x, bs, os, hx, hxo, ep, ho, hxa, hxl⟩ := hq.at i (by omega)
        subst ep
        (repeat (first | refine g ?_))
        refine s_idxo (kk := 6) (os + i * 6) ?_
        refine s_loadao (j := i * 6) ho hxa hxl (by omega) ?_
        unfold encOp
        (repeat (first | refine g ?_))
        refine s_alloc fun r => ?_
        (repeat (first | refine g ?_))
        refine s_call (mac_spec q v s (hs.mono (by omega)) x.label x.text) ?_
        have hs2 := hs.mac x.label x.text
        (repeat (first | refine g ?_))
        have cm := made_spec q v _ (hs2.mono (by omega)) x.label x.text (numB (cntN s.ms (markedK x.label x.text)) 16)
        rw [made_self] at cm
        refine s_call cm ?_
        have em := made_mac s x.label x.text a.label a.text a.tag
        (repeat (first | refine g ?_))
        have nx : ((i + 1 ≤ l.length ∧ i + 1 ≤ 30) ∧ VOk (i + 1) { s with ms := cntL s.ms (markedK x.label x.text) }) ∧ l.length - (i + 1) < l.length - i := ⟨⟨⟨by omega, by omega⟩, hs2⟩, by omega⟩
        cases hM : madeF s a.label a.text a.tag with
        | true =>
          rw [hM, Bool.true_or] at em
          (repeat (first | refine g ?_))
          exact run_stop_loop (i + 1, { s with ms := cntL s.ms (markedK x.label x.text) }) nx (by rw [em]; exact fct) shut
        | false =>
          rw [hM, Bool.false_or] at em
          by_cases e1 : x.label = a.label
          · rw [decide_eq_true e1, Bool.true_and] at em
            by_cases e2 : x.text = a.text
            · rw [decide_eq_true e2, Bool.true_and] at em
              (repeat (first | refine g ?_))
              exact run_stop_loop (i + 1, { s with ms := cntL s.ms (markedK x.label x.text) }) nx (by rw [em]; exact fct) shut
            · rw [decide_eq_false e2, Bool.false_and] at em
              (repeat (first | refine g ?_))
              exact run_stop_loop (i + 1, { s with ms := cntL s.ms (markedK x.label x.text) }) nx (by rw [em]; exact fct) shut
          · rw [decide_eq_false e1, Bool.false_and, Bool.false_and] at em
            (repeat (first | refine g ?_))
            exact run_stop_loop (i + 1, { s with ms := cntL s.ms (markedK x.label x.text) }) nx (by rw [em]; exact fct) shut
      · intro h2
        (repeat (first | refine g ?_))
        exact run_stop_loop s (hs.mono hi30) fct shut
    · intro h1
      (repeat (first | refine g ?_))
      exact run_stop_loop s (hs.mono hi30) fct shut
  · unfold encOp
    (repeat (first | refine g ?_))
    refine s_call (made_spec q v s (hs.mono (by omega)) a.label a.text a.tag) ?_
    (repeat (first | refine g ?_))
    (repeat (first | refine g ?_))
    refine s_call (awake_spec q) ?_
    (repeat (first | refine g ?_))
    exact run_ret rfl (imp_RD rfl shut)
end Go.Proofs.Yteengkkbedijdaa.V
