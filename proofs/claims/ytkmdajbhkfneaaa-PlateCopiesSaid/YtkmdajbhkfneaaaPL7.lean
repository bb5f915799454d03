/- Steps of a script; what writes, a flush and a start leave of a device. -/
import Derived.Test.YtkmdajbhkfneaaaPL6
set_option maxRecDepth 10000
set_option linter.unusedVariables false
namespace Go.Proofs.Ytkmdajbhkfneaaa.V
open Go.Proofs.Ytkmdajbhkfneaaa.VL
attribute [local irreducible] Run
structure OpT where
  kind : Int
  at_ : Int
  len : Int
  v : Int
  kp : Option Addr
  kc : Nat
  ks : List Bool
def encOp (x : OpT) : List Value := [.int .i64 x.kind, .int .i64 x.at_, .int .i64 x.len, .int .u8 x.v, .slice x.kp x.ks.length x.kc]
structure OpOk (q : View) (x : OpT) : Prop where
  at0 : -9223372036854775808 ≤ x.at_
  at1 : x.at_ ≤ 9223372036854775807
  k0 : -9223372036854775808 ≤ x.kind
  k1 : x.kind ≤ 9223372036854775807
  l0 : -9223372036854775808 ≤ x.len
  l1 : x.len ≤ 9223372036854775807
  v0 : 0 ≤ x.v
  v1 : x.v ≤ 255
  ks : RowQ q x.kp x.ks.length 1 (x.ks.map Value.bool)
def OpsQ (q : View) (p : Option Addr) (l : List OpT) : Prop := RowQ q p l.length 5 (l.flatMap encOp) ∧ ∀ x ∈ l, OpOk q x
theorem enc5 (l : List OpT) (i : Nat) (x : OpT) (h : l[i]? = some x) (j : Nat) (hj : j < 5) : (l.flatMap encOp)[i * 5 + j]? = (encOp x)[j]? := by
  induction l generalizing i with
  | nil => cases h
  | cons y l ih =>
    rw [List.flatMap_cons]
    have e5 : (encOp y).length = 5 := rfl
    cases i with
    | zero =>
      obtain rfl := Option.some.inj h
      rw [List.getElem?_append_left (by omega)]; congr 1; omega
    | succ i =>
      rw [List.getElem?_append_right (by omega), e5, show (i + 1) * 5 + j - 5 = i * 5 + j by omega]
      exact ih i h
theorem enc5_len (l : List OpT) : (l.flatMap encOp).length = l.length * 5 := by
  induction l with
  | nil => rfl
  | cons y l ih => rw [List.flatMap_cons, List.length_append, ih, List.length_cons]; show 5 + _ = _; omega
theorem enc5_all (l : List OpT) (i : Nat) (x : OpT) (h : l[i]? = some x) : ((l.flatMap encOp).drop (i * 5)).take 5 = encOp x := by
  apply List.ext_getElem?
  intro j
  have hl := (List.getElem?_eq_some_iff.1 h).1
  rw [List.getElem?_take, List.getElem?_drop]
  split
  · rename_i hj; exact enc5 l i x h j hj
  · rename_i hj; rw [List.getElem?_eq_none]; show 5 ≤ j; omega
/-- s stands as s0 does, but for what waits. -/
structure Like (s0 s : PSt) (n : Nat) : Prop where
  wf : WF s
  sec : s.sectors = s0.sectors
  held : s.held = s0.held
  dumb : s.dumb = s0.dumb
  down : s.down = false
  fuse : s.fuse = -1
  reads : s.reads = s0.reads
  writes : s.writes ≤ s0.writes + n
  cache : s.cache.length ≤ n
theorem Like.mono {s0 s : PSt} {n k : Nat} (h : Like s0 s n) (hk : n ≤ k) : Like s0 s k :=
  ⟨h.wf, h.sec, h.held, h.dumb, h.down, h.fuse, h.reads, by have := h.writes; omega, Nat.le_trans h.cache hk⟩
theorem write_like (s : PSt) (at_ : Int) (t : ByteArray) (ht : t.size = 64) (hd : s.down = false) (hf : s.fuse = -1) :
    writeF s at_ t = if at_ < 0 ∨ s.sectors ≤ at_ then (2, s) else (0, { s with writes := s.writes + 1, cache := s.cache ++ [(at_, t)] }) := by
  unfold writeF
  rw [if_neg (by omega), if_neg (by rw [hd]; decide)]
  split
  · rfl
  · rw [if_neg (by omega), if_neg (by omega)]
theorem Like.write {s0 s : PSt} {n : Nat} (h : Like s0 s n) (at_ : Int) (t : ByteArray) (ht : t.size = 64) (hn : n ≤ 1000000) (h0 : 0 ≤ s0.writes ∧ s0.writes ≤ 1000000) : Like s0 (writeF s at_ t).2 (n + 1) := by
  rw [write_like s at_ t ht h.down h.fuse]
  have hw := h.writes
  have hc := h.cache
  split
  · exact ⟨h.wf, h.sec, h.held, h.dumb, h.down, h.fuse, h.reads, show s.writes ≤ _ by omega, show s.cache.length ≤ _ by omega⟩
  · rename_i hi
    refine ⟨⟨h.wf.held, h.wf.dumb, h.wf.sec, ?_, ?_, h.wf.reads, ?_, h.wf.fuse⟩, h.sec, h.held, h.dumb, h.down, h.fuse, h.reads, ?_, ?_⟩
    · intro x hx
      rcases List.mem_append.1 hx with hx | hx
      · exact h.wf.cache x hx
      · obtain rfl : x = (at_, t) := by simpa using hx
        show 0 ≤ at_ ∧ at_ < s.sectors
        omega
    · show (s.cache ++ [(at_, t)]).length ≤ _
      rw [List.length_append, List.length_singleton]; omega
    · have := h.wf.writes
      show 0 ≤ s.writes + 1 ∧ s.writes + 1 ≤ _
      omega
    · show s.writes + 1 ≤ _
      omega
    · show (s.cache ++ [(at_, t)]).length ≤ _
      rw [List.length_append, List.length_singleton]; omega
theorem getD_set (l : List Bool) (i j : Nat) (b : Bool) : (l.set i b).getD j false = if i = j ∧ i < l.length then b else l.getD j false := by
  rw [List.getD_eq_getElem?_getD, List.getD_eq_getElem?_getD, List.getElem?_set]
  by_cases h : i = j
  · subst h
    rw [if_pos rfl]
    by_cases h2 : i < l.length
    · rw [if_pos h2, if_pos ⟨rfl, h2⟩]; rfl
    · rw [if_neg h2, if_neg (by omega), List.getElem?_eq_none (by omega)]
  · rw [if_neg h, if_neg (fun e => h e.1)]
theorem getD_setB (l : List ByteArray) (i j : Nat) (b : ByteArray) (h : i ≠ j) : (l.set i b).getD j ⟨#[]⟩ = l.getD j ⟨#[]⟩ := by
  rw [List.getD_eq_getElem?_getD, List.getD_eq_getElem?_getD, List.getElem?_set_ne h]
theorem foldB_dumb (l : List ((Int × ByteArray) × Bool)) (h : List ByteArray × List Bool) (hd : ∀ j, h.2.getD j false = false) (j : Nat) : (l.foldl keepB h).2.getD j false = false := by
  induction l generalizing h with
  | nil => exact hd j
  | cons x l ih =>
    refine ih _ fun j => ?_
    unfold keepB
    split
    · show (h.2.set _ false).getD j false = false
      rw [getD_set]; split
      · rfl
      · exact hd j
    · exact hd j
theorem foldH_dumb (l : List (Int × ByteArray)) (h : List ByteArray × List Bool) (hd : ∀ j, h.2.getD j false = false) (j : Nat) : (l.foldl keepH h).2.getD j false = false := by
  induction l generalizing h with
  | nil => exact hd j
  | cons x l ih =>
    refine ih _ fun j => ?_
    show (h.2.set _ false).getD j false = false
    rw [getD_set]; split
    · rfl
    · exact hd j
theorem foldB_held (l : List ((Int × ByteArray) × Bool)) (h : List ByteArray × List Bool) (j : Nat) (hn : ∀ x ∈ l, x.1.1.toNat ≠ j) : (l.foldl keepB h).1.getD j ⟨#[]⟩ = h.1.getD j ⟨#[]⟩ := by
  induction l generalizing h with
  | nil => rfl
  | cons x l ih =>
    rw [List.foldl_cons, ih _ fun y hy => hn y (List.mem_cons_of_mem _ hy)]
    unfold keepB
    split
    · exact getD_setB _ _ _ _ (hn x List.mem_cons_self)
    · rfl
theorem start_wf (s : PSt) (ks : List Bool) (h : WF s) : WF (startF s ks) := by
  have l := foldB_len (s.cache.zip ks) (s.held, s.dumb)
  refine ⟨?_, ?_, h.sec, by simp [startF], by simp [startF], h.reads, h.writes, by simp [startF]⟩
  · show ((startH s ks).1.length : Int) = _
    unfold startH; rw [l.1]; exact h.held
  · show ((startH s ks).2.length : Int) = _
    unfold startH; rw [l.2]; exact h.dumb
theorem flush_wf (s : PSt) (h : WF s) : WF (flushF s) := by
  unfold flushF
  split
  · exact h
  · have l := foldH_len s.cache (s.held, s.dumb)
    refine ⟨?_, ?_, h.sec, by simp, by simp, h.reads, h.writes, h.fuse⟩
    · show ((s.cache.foldl keepH (s.held, s.dumb)).1.length : Int) = _
      rw [l.1]; exact h.held
    · show ((s.cache.foldl keepH (s.held, s.dumb)).2.length : Int) = _
      rw [l.2]; exact h.dumb
theorem held_ok (s : PSt) (j : Nat) (hj : (j : Int) < s.sectors) (hd : s.dumb.getD j false = false) : heldF s j = (if s.held.getD j ⟨#[]⟩ = ⟨#[]⟩ then zeros64 else s.held.getD j ⟨#[]⟩, 0) := by
  unfold heldF
  rw [if_neg (by omega), show ((j : Int)).toNat = j from rfl, if_neg (by rw [hd]; decide)]
  split <;> rfl
theorem wrap8 (n : Int) : 0 ≤ IntKind.u8.wrap n ∧ IntKind.u8.wrap n ≤ 255 := by
  unfold IntKind.wrap
  simp [IntKind.signed, IntKind.bits]
  omega
end Go.Proofs.Ytkmdajbhkfneaaa.V
