/- The device and the document's stand alike, and go on so. -/
import Derived.Test.YtkmdajbhkfneaaaPQ4
set_option maxRecDepth 10000
set_option linter.unusedVariables false
namespace Go.Proofs.Ytkmdajbhkfneaaa.V
open Go.Proofs.Ytkmdajbhkfneaaa.VL
def eff (h : List ByteArray) (j : Nat) : ByteArray := if h.getD j ⟨#[]⟩ = ⟨#[]⟩ then zeros64 else h.getD j ⟨#[]⟩
/-- What is kept, here and there. -/
structure Kin (n : Nat) (h g : List ByteArray × List Bool) : Prop where
  l1 : h.1.length = n
  l2 : g.1.length = n
  l3 : h.2.length = n
  dumb : h.2 = g.2
  kept : ∀ j, j < n → h.2.getD j false = false → eff h.1 j = g.1.getD j ⟨#[]⟩
theorem getD_setX {α : Type} (l : List α) (i j : Nat) (b d : α) : (l.set i b).getD j d = if i = j ∧ i < l.length then b else l.getD j d := by
  rw [List.getD_eq_getElem?_getD, List.getD_eq_getElem?_getD, List.getElem?_set]
  by_cases h : i = j
  · subst h
    rw [if_pos rfl]
    by_cases h2 : i < l.length
    · rw [if_pos h2, if_pos ⟨rfl, h2⟩]; rfl
    · rw [if_neg h2, if_neg (by omega), List.getElem?_eq_none (by omega)]
  · rw [if_neg h, if_neg (fun e => h e.1)]
theorem ne_of64 {t : ByteArray} (h : t.size = 64) : t ≠ ⟨#[]⟩ := fun e => by subst e; exact absurd h (by decide)
theorem Kin.keep {n : Nat} {h g : List ByteArray × List Bool} (k : Kin n h g) (x : Int × ByteArray) (hx : x.2.size = 64) : Kin n (keepH h x) (keepH g x) := by
  refine ⟨by simp [k.l1], by simp [k.l2], by simp [k.l3], by simp [k.dumb], fun j hj hd => ?_⟩
  show eff (h.1.set x.1.toNat x.2) j = (g.1.set x.1.toNat x.2).getD j ⟨#[]⟩
  have hd : (h.2.set x.1.toNat false).getD j false = false := hd
  have l1 := k.l1
  have l2 := k.l2
  have z1 := getD_setX h.1 x.1.toNat j x.2 ⟨#[]⟩
  have z2 := getD_setX g.1 x.1.toNat j x.2 ⟨#[]⟩
  by_cases e : x.1.toNat = j
  · rw [if_pos ⟨e, by omega⟩] at z1 z2
    unfold eff
    rw [z1, z2, if_neg (ne_of64 hx)]
  · rw [if_neg (fun c => e c.1)] at z1 z2
    unfold eff
    rw [z1, z2]
    rw [getD_setX, if_neg (fun c => e c.1)] at hd
    exact k.kept j hj hd
theorem Kin.foldH {n : Nat} (l : List (Int × ByteArray)) {h g : List ByteArray × List Bool} (k : Kin n h g) (hl : ∀ x ∈ l, x.2.size = 64) : Kin n (l.foldl keepH h) (l.foldl keepH g) := by
  induction l generalizing h g with
  | nil => exact k
  | cons x l ih => exact ih (k.keep x (hl x List.mem_cons_self)) fun y hy => hl y (List.mem_cons_of_mem _ hy)
theorem Kin.foldB {n : Nat} (l : List ((Int × ByteArray) × Bool)) {h g : List ByteArray × List Bool} (k : Kin n h g) (hl : ∀ x ∈ l, x.1.2.size = 64) : Kin n (l.foldl keepB h) (l.foldl keepB g) := by
  induction l generalizing h g with
  | nil => exact k
  | cons x l ih =>
    refine ih ?_ fun y hy => hl y (List.mem_cons_of_mem _ hy)
    unfold keepB
    split
    · exact k.keep x.1 (hl x List.mem_cons_self)
    · exact k
/-- Both stand alike; no more was done than n steps. -/
structure Both (n : Nat) (s : PSt) (t : QSt) : Prop where
  wf : WF s
  sec : s.sectors = t.kept.length
  kin : Kin t.kept.length (s.held, s.dumb) (t.kept, t.dumb)
  cache : t.wait = s.cache
  fuse : t.fuse = s.fuse
  down : t.down = s.down
  reads : t.reads = s.reads
  writes : t.writes = s.writes
  c64 : ∀ x ∈ s.cache, x.2.size = 64
  nr : s.reads ≤ n
  nw : s.writes ≤ n
  nc : s.cache.length ≤ n
theorem Both.qw {n : Nat} {s : PSt} {t : QSt} (h : Both n s t) : QW t := by
  have hd := h.kin.dumb
  have l3 := h.kin.l3
  have hs := h.sec
  have hc := h.wf.sec
  dsimp only at hd l3
  refine ⟨by rw [← hd]; exact l3, by omega, ?_, by rw [h.cache]; exact h.wf.size, by rw [h.reads]; exact h.wf.reads, by rw [h.writes]; exact h.wf.writes, by rw [h.fuse]; exact h.wf.fuse⟩
  rw [h.cache, ← hs]
  exact h.wf.cache
theorem Both.mono {n m : Nat} {s : PSt} {t : QSt} (h : Both n s t) (hm : n ≤ m) : Both m s t :=
  ⟨h.wf, h.sec, h.kin, h.cache, h.fuse, h.down, h.reads, h.writes, h.c64, by have := h.nr; omega, by have := h.nw; omega, Nat.le_trans h.nc hm⟩
theorem Both.held {n : Nat} {s : PSt} {t : QSt} (h : Both n s t) (at_ : Int) : qHeldF t at_ = heldF s at_ := by
  unfold qHeldF heldF
  rw [h.sec]
  by_cases h1 : at_ < 0 ∨ (t.kept.length : Int) ≤ at_
  · rw [if_pos h1, if_pos h1]
  · rw [if_neg h1, if_neg h1, show t.dumb = s.dumb from h.kin.dumb.symm]
    by_cases h2 : s.dumb.getD at_.toNat false = true
    · rw [if_pos h2, if_pos h2]
    · rw [if_neg h2, if_neg h2]
      have := h.kin.kept at_.toNat (by omega) (by simpa using h2)
      rw [show t.kept.getD at_.toNat ⟨#[]⟩ = eff s.held at_.toNat from this.symm]
      unfold eff
      show ((if s.held.getD at_.toNat ⟨#[]⟩ = ⟨#[]⟩ then zeros64 else s.held.getD at_.toNat ⟨#[]⟩), (0 : Int)) = _
      split <;> rfl
theorem Both.read {n : Nat} {s : PSt} {t : QSt} (h : Both n s t) (at_ : Int) (hn : n < 1000000) : (qReadF t at_).1 = (readF s at_).1 ∧ Both (n + 1) (readF s at_).2 (qReadF t at_).2 := by
  unfold qReadF readF
  rw [h.down, ← h.sec]
  by_cases h1 : s.down = true
  · rw [if_pos h1, if_pos h1]; exact ⟨rfl, h.mono (Nat.le_succ n)⟩
  · rw [if_neg h1, if_neg h1]
    by_cases h2 : at_ < 0 ∨ s.sectors ≤ at_
    · rw [if_pos h2, if_pos h2]; exact ⟨rfl, h.mono (Nat.le_succ n)⟩
    · rw [if_neg h2, if_neg h2]
      have nr := h.nr
      have nw := h.nw
      have hr := h.wf.reads
      refine ⟨by rw [h.cache, h.held]; rfl, ⟨⟨h.wf.held, h.wf.dumb, h.wf.sec, h.wf.cache, h.wf.size, ⟨by show 0 ≤ s.reads + 1; omega, by show s.reads + 1 ≤ _; omega⟩, h.wf.writes, h.wf.fuse⟩, h.sec, h.kin, h.cache, h.fuse, rfl, by show t.reads + 1 = s.reads + 1; rw [h.reads], h.writes, h.c64, by show s.reads + 1 ≤ _; omega, by show s.writes ≤ _; omega, Nat.le_succ_of_le h.nc⟩⟩
theorem Both.write {n : Nat} {s : PSt} {t : QSt} (h : Both n s t) (at_ : Int) (z : ByteArray) (hn : n < 1000000) : (qWriteF t at_ z).1 = (writeF s at_ z).1 ∧ Both (n + 1) (writeF s at_ z).2 (qWriteF t at_ z).2 := by
  unfold qWriteF writeF
  rw [h.down, ← h.sec, h.fuse, h.writes, h.cache]
  have nr := h.nr
  have nw := h.nw
  have nc := h.nc
  have hw := h.wf.writes
  have hf := h.wf.fuse
  by_cases h0 : (z.size : Int) ≠ 64
  · rw [if_pos h0, if_pos h0]; exact ⟨rfl, h.mono (Nat.le_succ n)⟩
  rw [if_neg h0, if_neg h0]
  by_cases h1 : s.down = true
  · rw [if_pos h1, if_pos h1]; exact ⟨rfl, h.mono (Nat.le_succ n)⟩
  rw [if_neg h1, if_neg h1]
  by_cases h2 : at_ < 0 ∨ s.sectors ≤ at_
  · rw [if_pos h2, if_pos h2]; exact ⟨rfl, h.mono (Nat.le_succ n)⟩
  rw [if_neg h2, if_neg h2]
  by_cases h3 : s.fuse = 0
  · rw [if_pos h3, if_pos h3]
    exact ⟨rfl, ⟨⟨h.wf.held, h.wf.dumb, h.wf.sec, h.wf.cache, h.wf.size, h.wf.reads, h.wf.writes, h.wf.fuse⟩, h.sec, h.kin, rfl, rfl, rfl, h.reads, rfl, h.c64, by show s.reads ≤ _; omega, by show s.writes ≤ _; omega, Nat.le_succ_of_le h.nc⟩⟩
  rw [if_neg h3, if_neg h3]
  have hfu : -1 ≤ (if 0 < s.fuse then s.fuse - 1 else s.fuse) ∧ (if 0 < s.fuse then s.fuse - 1 else s.fuse) ≤ 9223372036854775807 := by split <;> omega
  generalize (if 0 < s.fuse then s.fuse - 1 else s.fuse) = fu at hfu
  refine ⟨rfl, ⟨⟨h.wf.held, h.wf.dumb, h.wf.sec, ?_, ?_, h.wf.reads, ⟨by show 0 ≤ s.writes + 1; omega, by show s.writes + 1 ≤ _; omega⟩, hfu⟩, h.sec, h.kin, rfl, rfl, rfl, h.reads, rfl, ?_, by show s.reads ≤ _; omega, by show s.writes + 1 ≤ _; omega, ?_⟩⟩
  · intro x hx
    rcases List.mem_append.1 hx with hx | hx
    · exact h.wf.cache x hx
    · obtain rfl : x = (at_, z) := by simpa using hx
      show 0 ≤ at_ ∧ at_ < s.sectors
      omega
  · show (s.cache ++ [(at_, z)]).length ≤ _
    rw [List.length_append, List.length_singleton]; omega
  · intro x hx
    rcases List.mem_append.1 hx with hx | hx
    · exact h.c64 x hx
    · obtain rfl : x = (at_, z) := by simpa using hx
      show z.size = 64
      omega
  · show (s.cache ++ [(at_, z)]).length ≤ _
    rw [List.length_append, List.length_singleton]; omega
theorem Both.flush {n : Nat} {s : PSt} {t : QSt} (h : Both n s t) : Both n (flushF s) (qFlushF t) := by
  have w := flush_wf s h.wf
  unfold qFlushF
  unfold flushF at w ⊢
  rw [h.down]
  cases hd : s.down with
  | true => rw [hd] at w; exact ⟨h.wf, h.sec, h.kin, h.cache, h.fuse, h.down, h.reads, h.writes, h.c64, h.nr, h.nw, h.nc⟩
  | false =>
    rw [hd] at w
    have k := h.kin.foldH s.cache h.c64
    rw [h.cache]
    simp only [Bool.false_eq_true, if_false] at w ⊢
    exact ⟨w, by show s.sectors = _; rw [h.sec]; exact congrArg _ k.l2.symm, by show Kin _ _ _; rw [show ((s.cache.foldl keepH (t.kept, t.dumb)).1).length = t.kept.length from k.l2]; exact k, rfl, h.fuse, rfl, h.reads, h.writes, by simp, h.nr, h.nw, Nat.zero_le _⟩
theorem Both.arm {n : Nat} {s : PSt} {t : QSt} (h : Both n s t) (a : Int) (ha : a ≤ 9223372036854775807) : (qArmF t a).1 = (armF s a).1 ∧ Both n (armF s a).2 (qArmF t a).2 := by
  unfold qArmF armF
  rw [h.down]
  by_cases h0 : a < 0
  · rw [if_pos h0, if_pos h0]; exact ⟨rfl, h⟩
  rw [if_neg h0, if_neg h0]
  by_cases h1 : s.down = true
  · rw [if_pos h1, if_pos h1]; exact ⟨rfl, h⟩
  rw [if_neg h1, if_neg h1]
  exact ⟨rfl, ⟨⟨h.wf.held, h.wf.dumb, h.wf.sec, h.wf.cache, h.wf.size, h.wf.reads, h.wf.writes, ⟨by show -1 ≤ a; omega, ha⟩⟩, h.sec, h.kin, h.cache, rfl, by first | exact h.down | rfl, h.reads, h.writes, h.c64, h.nr, h.nw, h.nc⟩⟩
theorem Both.start {n : Nat} {s : PSt} {t : QSt} (h : Both n s t) (ks : List Bool) : Both n (startF s ks) (qStartF t ks) := by
  have w := start_wf s ks h.wf
  have k : Kin t.kept.length (startH s ks) (qStartH t ks) := by
    unfold startH qStartH
    rw [h.cache]
    exact h.kin.foldB _ fun x hx => h.c64 x.1 (List.of_mem_zip hx).1
  exact ⟨w, by show s.sectors = _; rw [h.sec]; exact congrArg _ k.l2.symm, by show Kin _ _ _; rw [show (qStartF t ks).kept.length = t.kept.length from k.l2]; exact k, rfl, rfl, rfl, h.reads, h.writes, by simp [startF], h.nr, h.nw, Nat.zero_le _⟩
theorem Both.lay {n : Nat} {s : PSt} {t : QSt} (h : Both n s t) (at_ : Int) (z : ByteArray) : (qLayF t at_ z).1 = (layF s at_ z).1 ∧ Both n (layF s at_ z).2 (qLayF t at_ z).2 := by
  unfold qLayF layF
  rw [← h.sec]
  by_cases h0 : (z.size : Int) ≠ 64
  · rw [if_pos h0, if_pos h0]; exact ⟨rfl, h⟩
  rw [if_neg h0, if_neg h0]
  by_cases h2 : at_ < 0 ∨ s.sectors ≤ at_
  · rw [if_pos h2, if_pos h2]; exact ⟨rfl, h⟩
  rw [if_neg h2, if_neg h2]
  have k := h.kin.keep (at_, z) (show z.size = 64 by omega)
  have hh := h.wf.held
  have hd := h.wf.dumb
  exact ⟨rfl, ⟨⟨by show ((s.held.set _ _).length : Int) = _; rw [List.length_set]; exact hh, by show ((s.dumb.set _ _).length : Int) = _; rw [List.length_set]; exact hd, h.wf.sec, h.wf.cache, h.wf.size, h.wf.reads, h.wf.writes, h.wf.fuse⟩, by show s.sectors = _; rw [h.sec]; exact congrArg _ k.l2.symm, by show Kin _ _ _; rw [show (qWithH t (keepH (t.kept, t.dumb) (at_, z))).kept.length = t.kept.length from k.l2]; exact k, h.cache, h.fuse, h.down, h.reads, h.writes, h.c64, h.nr, h.nw, h.nc⟩⟩
theorem Both.spoil {n : Nat} {s : PSt} {t : QSt} (h : Both n s t) (at_ : Int) : (qSpoilF t at_).1 = (spoilF s at_).1 ∧ Both n (spoilF s at_).2 (qSpoilF t at_).2 := by
  unfold qSpoilF spoilF
  rw [← h.sec]
  by_cases h2 : at_ < 0 ∨ s.sectors ≤ at_
  · rw [if_pos h2, if_pos h2]; exact ⟨rfl, h⟩
  rw [if_neg h2, if_neg h2]
  have k := h.kin
  have kd := k.dumb
  dsimp only at kd
  have hh := h.wf.held
  have hd := h.wf.dumb
  refine ⟨rfl, ⟨⟨by show ((s.held.set _ _).length : Int) = _; rw [List.length_set]; exact hh, by show ((s.dumb.set _ _).length : Int) = _; rw [List.length_set]; exact hd, h.wf.sec, h.wf.cache, h.wf.size, h.wf.reads, h.wf.writes, h.wf.fuse⟩, h.sec, ?_, h.cache, h.fuse, h.down, h.reads, h.writes, h.c64, h.nr, h.nw, h.nc⟩⟩
  refine ⟨by rw [List.length_set]; exact k.l1, k.l2, by rw [List.length_set]; exact k.l3, by rw [kd], fun j hj hdj => ?_⟩
  show eff (s.held.set _ _) j = t.kept.getD j ⟨#[]⟩
  have hdj : (s.dumb.set at_.toNat true).getD j false = false := hdj
  rw [getD_setX] at hdj
  have l3 := k.l3
  dsimp only at l3 hj
  by_cases e : at_.toNat = j
  · rw [if_pos ⟨e, by omega⟩] at hdj; exact absurd hdj (by decide)
  · rw [if_neg fun c => e c.1] at hdj
    have z1 := getD_setX s.held at_.toNat j ⟨#[]⟩ ⟨#[]⟩
    rw [if_neg fun c => e c.1] at z1
    unfold eff
    rw [z1]
    exact k.kept j hj hdj
/-- What a step makes of them. -/
def txt (o : OpT) : ByteArray := bytesF o.v (someF o.len).toNat
def stepS (s : PSt) (o : OpT) : PSt :=
  if o.kind = 1 then (readF s o.at_).2 else if o.kind = 2 then s else if o.kind = 3 then (writeF s o.at_ (txt o)).2 else if o.kind = 4 then flushF s else if o.kind = 5 then (armF s o.at_).2 else
  if o.kind = 6 then startF s o.ks else if o.kind = 7 then (layF s o.at_ (txt o)).2 else if o.kind = 8 then (spoilF s o.at_).2 else s
def stepT (s : QSt) (o : OpT) : QSt :=
  if o.kind = 1 then (qReadF s o.at_).2 else if o.kind = 2 then s else if o.kind = 3 then (qWriteF s o.at_ (txt o)).2 else if o.kind = 4 then qFlushF s else if o.kind = 5 then (qArmF s o.at_).2 else
  if o.kind = 6 then qStartF s o.ks else if o.kind = 7 then (qLayF s o.at_ (txt o)).2 else if o.kind = 8 then (qSpoilF s o.at_).2 else s
theorem Both.step {n : Nat} {s : PSt} {t : QSt} (h : Both n s t) (o : OpT) (ha : o.at_ ≤ 9223372036854775807) (hn : n < 1000000) : Both (n + 1) (stepS s o) (stepT t o) := by
  unfold stepS stepT
  have hm := h.mono (Nat.le_succ n)
  repeat' split
  all_goals first | exact (h.read o.at_ hn).2 | exact hm | exact (h.write o.at_ (txt o) hn).2 | exact hm.flush | exact (hm.arm o.at_ ha).2 | exact hm.start o.ks | exact (hm.lay o.at_ (txt o)).2 | exact (hm.spoil o.at_).2
end Go.Proofs.Ytkmdajbhkfneaaa.V
