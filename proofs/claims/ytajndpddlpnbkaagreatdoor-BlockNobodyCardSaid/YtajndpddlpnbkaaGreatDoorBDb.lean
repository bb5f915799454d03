/- A block on a device, plainly: what was put is read again, behind a flush too, until a sector is spoilt. -/
import Derived.Test.YtajndpddlpnbkaaGreatDoorBDa
import Derived.Test.YtajndpddlpnbkaaGreatDoorBKa
import Derived.Test.YtajndpddlpnbkaaGreatDoorNAa
set_option maxRecDepth 10000
set_option linter.unusedVariables false
namespace Go.Proofs.YtajndpddlpnbkaaGreatDoor.V
open Go.Proofs.YtajndpddlpnbkaaGreatDoor.VL Go.Proofs.YtajndpddlpnbkaaGreatDoor.VL.RD Go.Proofs.YtajndpddlpnbkaaGreatDoor.VL.Sha
attribute [local irreducible] Run numB
theorem rdF_last (s : PSt) (a : Int) : rdF s a = lastF s.cache a (heldF s a) := rfl
theorem last_in (l : List (Int × ByteArray)) (base : Int) (f : Nat → ByteArray) (d : ByteArray × Int) (i k : Nat) (hk : k < i) :
    lastF (l ++ (List.range i).map fun k : Nat => (base + (k : Int), f k)) (base + k) d = (f k, 0) := by
  induction i with
  | zero => omega
  | succ i ih =>
    rw [List.range_succ, List.map_append, ← List.append_assoc, List.map_singleton, lastF_snoc]
    by_cases e : k = i
    · subst e; rw [if_pos rfl]
    · rw [if_neg (by show ¬ base + (i : Int) = base + (k : Int); omega)]
      exact ih (by omega)
theorem last_out (l : List (Int × ByteArray)) (base : Int) (f : Nat → ByteArray) (d : ByteArray × Int) (i : Nat) (a : Int) (ha : a < base ∨ base + i ≤ a) :
    lastF (l ++ (List.range i).map fun k : Nat => (base + (k : Int), f k)) a d = lastF l a d := by
  induction i with
  | zero => simp
  | succ i ih =>
    rw [List.range_succ, List.map_append, ← List.append_assoc, List.map_singleton, lastF_snoc, if_neg (by show ¬ base + (i : Int) = a; omega)]
    exact ih (by omega)
theorem secT_size (raw : ByteArray) (hr : raw.size = 512) (k : Nat) (hk : k < 8) : (secT raw k).size = 64 := by
  unfold secT
  rw [ByteArray.size_extract]; omega
theorem wrN_up (s : PSt) (hd : s.down = false) (hf : s.fuse = -1) (base : Int) (h0 : 0 ≤ base) (h1 : base + 8 ≤ s.sectors) (raw : ByteArray) (hr : raw.size = 512) (i : Nat) (hi : i ≤ 8) :
    wrN s base raw i = (0, { s with writes := s.writes + i, cache := s.cache ++ (List.range i).map fun k : Nat => (base + (k : Int), secT raw k) }) := by
  induction i with
  | zero =>
    show (0, s) = _
    simp
  | succ i ih =>
    show (if (wrN s base raw i).1 = 0 then writeF (wrN s base raw i).2 (base + i) (secT raw i) else wrN s base raw i) = _
    rw [ih (by omega), if_pos rfl]
    have hz := secT_size raw hr i (by omega)
    unfold writeF
    dsimp only
    rw [if_neg (by omega), if_neg (by rw [hd]; decide), if_neg (by omega), if_neg (by rw [hf]; decide), if_neg (by rw [hf]; decide)]
    rw [List.range_succ, List.map_append, ← List.append_assoc]
    simp only [List.map_singleton, Prod.mk.injEq, PSt.mk.injEq, true_and]
    omega
/-- What a device tells where a block was put, and elsewhere. -/
theorem put_read (s : PSt) (hd : s.down = false) (hf : s.fuse = -1) (base : Int) (h0 : 0 ≤ base) (h1 : base + 8 ≤ s.sectors) (raw : ByteArray) (hr : raw.size = 512) :
    (wrN s base raw 8).1 = 0 ∧ (wrN s base raw 8).2.down = false ∧ (∀ k : Nat, k < 8 → rdF (wrN s base raw 8).2 (base + k) = (secT raw k, 0)) ∧ ∀ a, (a < base ∨ base + 8 ≤ a) → rdF (wrN s base raw 8).2 a = rdF s a := by
  rw [wrN_up s hd hf base h0 h1 raw hr 8 (by omega)]
  refine ⟨rfl, hd, fun k hk => ?_, fun a ha => ?_⟩
  · rw [rdF_last]
    exact last_in _ _ _ _ 8 k hk
  · rw [rdF_last]
    exact last_out _ _ _ _ 8 a ha
theorem ext_toList (raw : ByteArray) (a b : Nat) : (raw.extract a b).data.toList = (raw.data.toList.drop a).take (b - a) := by
  rw [ByteArray.data_extract, Array.toList_extract, List.extract_eq_take_drop]
theorem getL_raw (s : PSt) (a : Int) (raw : ByteArray) (h : ∀ k : Nat, k < 8 → rdF s (a * 8 + k) = (secT raw k, 0)) (i : Nat) (hi : i ≤ 8) : getL s a i = raw.data.toList.take (64 * i) ∧ getM s a i = 0 := by
  induction i with
  | zero => exact ⟨rfl, rfl⟩
  | succ i ih =>
    obtain ⟨h1, h2⟩ := ih (by omega)
    have e := h i (by omega)
    constructor
    · show getL s a i ++ secL s (a * 8 + i) = _
      unfold secL
      rw [e, if_pos rfl, h1]
      show _ ++ (secT raw i).data.toList = _
      unfold secT
      rw [ext_toList, show 64 * i + 64 - 64 * i = 64 by omega, show 64 * (i + 1) = 64 * i + 64 by omega, List.take_add]
    · show getM s a i + secM s (a * 8 + i) i = 0
      unfold secM
      rw [e, if_pos rfl, h2]
theorem bl_all (raw : ByteArray) (hr : raw.size = 512) : bl (raw.data.toList.take 512) = raw := by
  have : raw.data.toList.length = 512 := by rw [Array.length_toList]; exact hr
  rw [List.take_of_length_le (by omega)]
  rfl
theorem getF_raw (s : PSt) (hd : s.down = false) (a : Int) (h0 : 0 ≤ a) (h1 : a < s.sectors / 8) (raw : ByteArray) (hr : raw.size = 512) (h : ∀ k : Nat, k < 8 → rdF s (a * 8 + k) = (secT raw k, 0)) : getF s a = ((raw, 0, 0), rds s 8) := by
  obtain ⟨e1, e2⟩ := getL_raw s a raw h 8 (by omega)
  unfold getF
  rw [if_neg (by omega), if_neg (by rw [hd]; decide), e1, e2, bl_all raw hr]
  rfl
theorem getM_zero (s : PSt) (a : Int) (h : ∀ k : Nat, k < 8 → (rdF s (a * 8 + k)).2 = 0) (i : Nat) (hi : i ≤ 8) : getM s a i = 0 := by
  induction i with
  | zero => rfl
  | succ i ih =>
    show getM s a i + secM s (a * 8 + i) i = 0
    unfold secM
    rw [h i (by omega), if_pos rfl, ih (by omega)]
theorem getM_pos (s : PSt) (a : Int) (k : Nat) (h : (rdF s (a * 8 + k)).2 ≠ 0) (i : Nat) (hi : k < i) : getM s a i ≠ 0 := by
  induction i with
  | zero => omega
  | succ i ih =>
    show getM s a i + secM s (a * 8 + i) i ≠ 0
    by_cases e : k = i
    · subst e
      unfold secM
      rw [if_neg h]
      have := Nat.two_pow_pos k
      omega
    · have := ih (by omega)
      omega
/-- A flush changes nothing of what is read. -/
theorem foldH_get (l : List (Int × ByteArray)) (h : List ByteArray × List Bool) (j : Nat) (h1 : j < h.1.length) (h2 : j < h.2.length) (hl : ∀ x ∈ l, 0 ≤ x.1) :
    (l.foldl keepH h).1.getD j ⟨#[]⟩ = (match l.reverse.find? (fun x => decide (x.1 = (j : Int))) with | some x => x.2 | none => h.1.getD j ⟨#[]⟩) ∧
    (l.foldl keepH h).2.getD j false = (match l.reverse.find? (fun x => decide (x.1 = (j : Int))) with | some x => false | none => h.2.getD j false) := by
  induction l generalizing h with
  | nil => exact ⟨rfl, rfl⟩
  | cons x l ih =>
    have hx := hl x List.mem_cons_self
    have := ih (keepH h x) (by simpa [keepH] using h1) (by simpa [keepH] using h2) fun y hy => hl y (List.mem_cons_of_mem _ hy)
    rw [List.foldl_cons, this.1, this.2, List.reverse_cons, List.find?_append]
    cases hf : l.reverse.find? (fun x => decide (x.1 = (j : Int))) with
    | some y => exact ⟨rfl, rfl⟩
    | none =>
      have z1 := getD_setX h.1 x.1.toNat j x.2 ⟨#[]⟩
      have z2 := getD_setX h.2 x.1.toNat j false false
      by_cases e : x.1 = (j : Int)
      · rw [if_pos ⟨by omega, by omega⟩] at z1 z2
        simp only [Option.none_or, List.find?_cons, decide_eq_true e]
        exact ⟨z1, z2⟩
      · rw [if_neg (by omega)] at z1 z2
        simp only [Option.none_or, List.find?_cons, decide_eq_false e, List.find?_nil]
        exact ⟨z1, z2⟩
theorem flush_read {n : Nat} {s : PSt} (h : PW n s) (hd : s.down = false) (a : Int) (h0 : 0 ≤ a) (h1 : a < s.sectors) : rdF (flushF s) a = rdF s a := by
  obtain ⟨j, rfl⟩ : ∃ j : Nat, a = j := ⟨a.toNat, by omega⟩
  have hh := h.wf.held
  have hdu := h.wf.dumb
  have k := foldH_get s.cache (s.held, s.dumb) j (by show j < s.held.length; omega) (by show j < s.dumb.length; omega) fun x hx => (h.wf.cache x hx).1
  have ef : flushF s = { s with held := (s.cache.foldl keepH (s.held, s.dumb)).1, dumb := (s.cache.foldl keepH (s.held, s.dumb)).2, cache := [] } := by unfold flushF; rw [if_neg (by rw [hd]; decide)]
  rw [ef]
  generalize s.cache.foldl keepH (s.held, s.dumb) = F at k
  obtain ⟨k1, k2⟩ := k
  show heldF { s with held := F.1, dumb := F.2, cache := [] } (j : Int) = rdF s (j : Int)
  unfold rdF heldF
  dsimp only
  rw [if_neg (show ¬ ((j : Int) < 0 ∨ s.sectors ≤ (j : Int)) by omega), show ((j : Int)).toNat = j from rfl, k1, k2]
  cases hf : s.cache.reverse.find? (fun x => decide (x.1 = (j : Int))) with
  | some x =>
    have hx := h.s64.cache x (List.mem_reverse.1 (List.mem_of_find?_eq_some hf))
    dsimp only
    rw [if_neg (by decide), if_neg (ne_of64 hx)]
  | none =>
    dsimp only
    rw [if_neg (show ¬ ((j : Int) < 0 ∨ s.sectors ≤ (j : Int)) by omega)]
theorem spoil_read (s : PSt) (hc : s.cache = []) (sp : Int) (h0 : 0 ≤ sp) (h1 : sp < s.sectors) (hd : (s.dumb.length : Int) = s.sectors) (a : Int) (ha : 0 ≤ a) (ha1 : a < s.sectors) : rdF (spoilF s sp).2 a = if a = sp then (⟨#[]⟩, 21) else rdF s a := by
  have ef : (spoilF s sp).2 = { s with held := s.held.set sp.toNat ⟨#[]⟩, dumb := s.dumb.set sp.toNat true } := by unfold spoilF; rw [if_neg (by omega)]
  rw [ef]
  unfold rdF heldF
  dsimp only
  rw [hc]
  show (if a < 0 ∨ s.sectors ≤ a then _ else _) = _
  rw [if_neg (by omega), getD_setX, getD_setX]
  by_cases e : a = sp
  · subst e
    have c : a.toNat = a.toNat ∧ a.toNat < s.dumb.length := ⟨rfl, by omega⟩
    simp [c.2]
  · have c1 : ¬ (sp.toNat = a.toNat ∧ sp.toNat < s.dumb.length) := by omega
    have c2 : ¬ (sp.toNat = a.toNat ∧ sp.toNat < s.held.length) := by omega
    rw [if_neg c1, if_neg c2, if_neg e]
    show _ = (if a < 0 ∨ s.sectors ≤ a then _ else _)
    rw [if_neg (show ¬ (a < 0 ∨ s.sectors ≤ a) by omega)]
theorem two_ne {x y : ByteArray × Int} (e : x = y) (h : x.2 = 0) (hy : y.2 ≠ 0) : False := hy (by rw [← e]; exact h)
theorem open_text (s : VSt) (n : Int) (no ad t : ByteArray) (h : (openF s n no ad t).2 = 0) : (openF s n no ad t).1 = t.extract 0 (t.size - 16) := by
  by_cases h1 : wrongF n no = true
  · exact (two_ne (show openF s n no ad t = (⟨#[]⟩, 1) by unfold openF; rw [if_pos h1]) h (by decide)).elim
  by_cases h2 : t.size < 16
  · exact (two_ne (show openF s n no ad t = (⟨#[]⟩, 3) by unfold openF; rw [if_neg h1, if_pos h2]) h (by decide)).elim
  have e0 : openF s n no ad t = iopenF s n no ad t := by unfold openF; rw [if_neg h1, if_neg h2]
  cases hp : pos s.es (sealedK n no ad (t.extract 0 (t.size - 16))) with
  | none => exact (two_ne (show openF s n no ad t = (⟨#[]⟩, 10) by rw [e0]; unfold iopenF; rw [hp]) h (by decide)).elim
  | some m =>
    by_cases h3 : t.extract (t.size - 16) t.size = numB (m + 1) 16
    · rw [show openF s n no ad t = (t.extract 0 (t.size - 16), 0) by rw [e0]; unfold iopenF; rw [hp]; exact if_pos h3]
    · exact (two_ne (show openF s n no ad t = (⟨#[]⟩, 10) by rw [e0]; unfold iopenF; rw [hp]; exact if_neg h3) h (by decide)).elim
theorem told_key (B : HeadT × ByteArray × Int) (H h : HeadT) (X : ByteArray) (R : ByteArray × Int) (hB : B = (if R.2 = 0 then H else zeroH, if R.2 = 0 then R.1 else ⟨#[]⟩, R.2)) (e1 : R.2 = 0) (e2 : R.1 = X) (e3 : H = h) : toldR B.1 B.2.1 B.2.2 h.addr = ⟨true, h, X⟩ := by
  obtain ⟨x, y⟩ := R
  dsimp only at e1 e2 hB
  subst e1 e2 e3
  rw [if_pos rfl, if_pos rfl] at hB
  subst hB
  unfold toldR
  rw [if_pos ⟨rfl, rfl⟩]
theorem bopenR_text (s : VSt) (raw : ByteArray) (X : ByteArray) (hz : raw.size = 512) (hx : (raw.extract 48 512).extract 0 448 = X) (h : (bopenR s raw).2 = 0) : (bopenR s raw).1 = X := by
  unfold bopenR at *
  rw [open_text s _ _ _ _ h, show (raw.extract 48 512).size - 16 = 448 by rw [ByteArray.size_extract]; omega, hx]
theorem told_open (s : VSt) (raw : ByteArray) (h : HeadT) (X : ByteArray) (hz : raw.size = 512) (ho : opensB s raw) (hg : headGood raw) (hh : openH raw = h) (hx : (raw.extract 48 512).extract 0 448 = X) : btoldF s raw h.addr = ⟨true, h, X⟩ := by
  have hb := bopenF_ok s raw hz hg
  have e1 : (bopenR s raw).2 = 0 := by
    have key : ∀ (a : HeadT) (b : ByteArray) (r : ByteArray × Int), ((a, b, r.2) : HeadT × ByteArray × Int).2.2 = r.2 := fun _ _ _ => rfl
    unfold opensB at ho
    rw [hb, key] at ho
    exact ho
  exact told_key _ _ _ _ _ hb e1 (bopenR_text s raw X hz hx e1) hh
theorem told_back (h : HeadT) (X : ByteArray) (hb : X.size = 448) (hok : (fldH h).all okN = true) : btoldF (sealS s00 h X) (blkB h X (sealC s00 h X)) h.addr = ⟨true, h, X⟩ := by
  obtain ⟨hz, p2, p3⟩ := blkB_parts h X (sealC s00 h X) hb
  refine told_open _ _ h X hz ((opens_iffS s00 h X hok hb _ hz).2 (.inr rfl)) (headGood_head _ h p2) (openH_block h X _ hb hok) ?_
  rw [p3]
  exact ext_l hb
theorem told_only (h : HeadT) (X : ByteArray) (hb : X.size = 448) (hok : (fldH h).all okN = true) (raw : ByteArray) (hz : raw.size = 512) (a : Int) (ha : a ≠ h.addr) : (btoldF (sealS s00 h X) raw a).ok = false := by
  cases ho : (btoldF (sealS s00 h X) raw a).ok with
  | false => rfl
  | true =>
    rw [told_ok _ _ _ hz, opens_iffS s00 h X hok hb _ hz] at ho
    obtain ⟨h1 | h1, h2⟩ := ho
    · exact absurd h1 (opens_none _ _ _)
    · rw [h1, openH_block h X _ hb hok] at h2
      exact absurd h2.symm ha
end Go.Proofs.YtajndpddlpnbkaaGreatDoor.V
/- BlockPuts. -/
namespace Go.Proofs.YtajndpddlpnbkaaGreatDoor.V
open Go.Proofs.YtajndpddlpnbkaaGreatDoor.VL Go.Proofs.YtajndpddlpnbkaaGreatDoor.VL.RD Go.Proofs.YtajndpddlpnbkaaGreatDoor.VL.Sha
attribute [local irreducible] Run numB
theorem bputs_spec (q : View) (hE : ErrQ q) (n : Int) (sp : Option Addr) (sc : Nat) (l : List MarkT) (hs : MarksQ q sp l) (hl : l.length ≤ 9223372036854775807) (a : Int) (raw : ByteArray) (hz : raw.size ≤ 140737488351232) (fuse : Int) (hf : fuse ≤ 9223372036854775807) :
    FnD Tryz.prog q 3 [.int .i64 n, .slice sp l.length sc, .int .i64 a, .string raw, .int .i64 fuse] [] (.bool true) [] := by
  by_cases hn : n < 0 ∨ 32768 < n
  · (first | refine FnD.go Tryz.call3 Tryz.func3 rfl rfl rfl ?_ | refine FnX.go Tryz.call3 Tryz.func3 rfl rfl rfl ?_)
    (repeat (first | refine g ?_))
    refine s_call (both_bad q n hn _) ?_
    (repeat (first | refine g ?_))
    refine s_call (awake6_spec q) ?_
    (repeat (first | refine g ?_))
    exact run_ret rfl (imp_RD rfl shut)
  obtain ⟨m, rfl⟩ : ∃ m : Nat, n = m := ⟨n.toNat, by omega⟩
  have cb := both_spec q m (by omega) sp sc l hs hl
  by_cases h80 : 80 < m
  · (first | refine FnD.go Tryz.call3 Tryz.func3 rfl rfl rfl ?_ | refine FnX.go Tryz.call3 Tryz.func3 rfl rfl rfl ?_)
    (repeat (first | refine g ?_))
    refine s_callx cb fun ⟨⟨b, c⟩, ⟨⟨s, t⟩, hT⟩⟩ => ?_
    dsimp only
    (repeat (first | refine g ?_))
    refine s_call (awake6_spec q) ?_
    (repeat (first | refine g ?_))
    exact run_ret rfl (imp_RD rfl shut)
  by_cases h1000 : 1000 < raw.size
  · (first | refine FnD.go Tryz.call3 Tryz.func3 rfl rfl rfl ?_ | refine FnX.go Tryz.call3 Tryz.func3 rfl rfl rfl ?_)
    (repeat (first | refine g ?_))
    refine s_callx cb fun ⟨⟨b, c⟩, ⟨⟨s, t⟩, hT⟩⟩ => ?_
    dsimp only
    (repeat (first | refine g ?_))
    refine s_call (awake6_spec q) ?_
    (repeat (first | refine g ?_))
    exact run_ret rfl (imp_RD rfl shut)
  (first | refine FnD.go Tryz.call3 Tryz.func3 rfl rfl rfl ?_ | refine FnX.go Tryz.call3 Tryz.func3 rfl rfl rfl ?_)
  (repeat (first | refine g ?_))
  refine s_callx cb fun ⟨⟨b, c⟩, ⟨⟨s, t⟩, hT⟩⟩ => ?_
  dsimp only at hT ⊢
  have hB := hT.both.arm fuse hf
  have hP := hT.pw.arm fuse hf
  have ca := arm_spec q b s fuse
  have da := qarm_spec q c t fuse
  generalize (armF s fuse).2 = s1 at *
  generalize (qArmF t fuse).2 = t1 at *
  have hX := hB.2.bput (by omega) a raw
  have cp := bput_spec q hE b s1 40 hP (by omega) a raw (by omega)
  have dp := qbput_spec q c s1 t1 40 hB.2 (by omega) a raw (by omega)
  rw [hX.1] at dp
  generalize bputF s1 a raw = R at *
  generalize (qbputF t1 a raw).2 = T at *
  obtain ⟨e, S⟩ := R
  dsimp only at hX cp dp
  have hBB := hX.2
  have h2 := hBB.down
  have h4 := hBB.writes
  have h5 : T.wait.length = S.cache.length := congrArg _ hBB.cache
  (repeat (first | refine g ?_))
  refine s_call ca ?_
  (repeat (first | refine g ?_))
  refine s_call da ?_
  (repeat (first | refine g ?_))
  refine s_call cp ?_
  (repeat (first | refine g ?_))
  refine s_call dp ?_
  refine run_pull (X := qAt c T) (by (repeat (first | (with_reducible exact Pull.head) | apply Pull.tail))) ?_
  refine run_q fun pk ck pd cd pw cw => ?_
  unfold qParts
  (repeat (first | refine g ?_))
  refine d_start [plateAt b S] ?_
  (first | refine d_pure 0 ?_ | refine d_load 0 ?_ | refine d_arith 0 ?_ | refine d_rem 0 ?_ | refine d_quo 0 ?_ | refine d_shrv 0 ?_ | refine d_fieldat 0 ?_ | refine d_idx1 0 ?_ | refine d_index 0 ?_ | refine d_conv64 0 ?_ | refine d_slices 0 ?_ | refine d_concat 0 ?_ | refine d_build 0 ?_)
  (first | refine d_pure 1 ?_ | refine d_load 1 ?_ | refine d_arith 1 ?_ | refine d_rem 1 ?_ | refine d_quo 1 ?_ | refine d_shrv 1 ?_ | refine d_fieldat 1 ?_ | refine d_idx1 1 ?_ | refine d_index 1 ?_ | refine d_conv64 1 ?_ | refine d_slices 1 ?_ | refine d_concat 1 ?_ | refine d_build 1 ?_)
  (refine d_pure 2 ?_); refine d_is 53 (c := true) (decide_eq_true (p := e = e) rfl) ?_
  (first | refine d_pure 3 ?_ | refine d_load 3 ?_ | refine d_arith 3 ?_ | refine d_rem 3 ?_ | refine d_quo 3 ?_ | refine d_shrv 3 ?_ | refine d_fieldat 3 ?_ | refine d_idx1 3 ?_ | refine d_index 3 ?_ | refine d_conv64 3 ?_ | refine d_slices 3 ?_ | refine d_concat 3 ?_ | refine d_build 3 ?_)
  (first | refine d_pure 4 ?_ | refine d_load 4 ?_ | refine d_arith 4 ?_ | refine d_rem 4 ?_ | refine d_quo 4 ?_ | refine d_shrv 4 ?_ | refine d_fieldat 4 ?_ | refine d_idx1 4 ?_ | refine d_index 4 ?_ | refine d_conv64 4 ?_ | refine d_slices 4 ?_ | refine d_concat 4 ?_ | refine d_build 4 ?_)
  (first | refine d_pure 6 ?_ | refine d_load 6 ?_ | refine d_arith 6 ?_ | refine d_rem 6 ?_ | refine d_quo 6 ?_ | refine d_shrv 6 ?_ | refine d_fieldat 6 ?_ | refine d_idx1 6 ?_ | refine d_index 6 ?_ | refine d_conv64 6 ?_ | refine d_slices 6 ?_ | refine d_concat 6 ?_ | refine d_build 6 ?_)
  (first | refine d_pure 7 ?_ | refine d_load 7 ?_ | refine d_arith 7 ?_ | refine d_rem 7 ?_ | refine d_quo 7 ?_ | refine d_shrv 7 ?_ | refine d_fieldat 7 ?_ | refine d_idx1 7 ?_ | refine d_index 7 ?_ | refine d_conv64 7 ?_ | refine d_slices 7 ?_ | refine d_concat 7 ?_ | refine d_build 7 ?_)
  (first | refine d_pure 8 ?_ | refine d_load 8 ?_ | refine d_arith 8 ?_ | refine d_rem 8 ?_ | refine d_quo 8 ?_ | refine d_shrv 8 ?_ | refine d_fieldat 8 ?_ | refine d_idx1 8 ?_ | refine d_index 8 ?_ | refine d_conv64 8 ?_ | refine d_slices 8 ?_ | refine d_concat 8 ?_ | refine d_build 8 ?_)
  (first | refine d_pure 9 ?_ | refine d_load 9 ?_ | refine d_arith 9 ?_ | refine d_rem 9 ?_ | refine d_quo 9 ?_ | refine d_shrv 9 ?_ | refine d_fieldat 9 ?_ | refine d_idx1 9 ?_ | refine d_index 9 ?_ | refine d_conv64 9 ?_ | refine d_slices 9 ?_ | refine d_concat 9 ?_ | refine d_build 9 ?_)
  refine d_call 5 (writes_spec q b S) ?_
  (refine d_pure 10 ?_); refine d_is 61 (c := true) (decide_eq_true (p := S.writes = T.writes) h4.symm) ?_
  (first | refine d_pure 11 ?_ | refine d_load 11 ?_ | refine d_arith 11 ?_ | refine d_rem 11 ?_ | refine d_quo 11 ?_ | refine d_shrv 11 ?_ | refine d_fieldat 11 ?_ | refine d_idx1 11 ?_ | refine d_index 11 ?_ | refine d_conv64 11 ?_ | refine d_slices 11 ?_ | refine d_concat 11 ?_ | refine d_build 11 ?_)
  (first | refine d_pure 12 ?_ | refine d_load 12 ?_ | refine d_arith 12 ?_ | refine d_rem 12 ?_ | refine d_quo 12 ?_ | refine d_shrv 12 ?_ | refine d_fieldat 12 ?_ | refine d_idx1 12 ?_ | refine d_index 12 ?_ | refine d_conv64 12 ?_ | refine d_slices 12 ?_ | refine d_concat 12 ?_ | refine d_build 12 ?_)
  (first | refine d_pure 13 ?_ | refine d_load 13 ?_ | refine d_arith 13 ?_ | refine d_rem 13 ?_ | refine d_quo 13 ?_ | refine d_shrv 13 ?_ | refine d_fieldat 13 ?_ | refine d_idx1 13 ?_ | refine d_index 13 ?_ | refine d_conv64 13 ?_ | refine d_slices 13 ?_ | refine d_concat 13 ?_ | refine d_build 13 ?_)
  (first | refine d_pure 15 ?_ | refine d_load 15 ?_ | refine d_arith 15 ?_ | refine d_rem 15 ?_ | refine d_quo 15 ?_ | refine d_shrv 15 ?_ | refine d_fieldat 15 ?_ | refine d_idx1 15 ?_ | refine d_index 15 ?_ | refine d_conv64 15 ?_ | refine d_slices 15 ?_ | refine d_concat 15 ?_ | refine d_build 15 ?_)
  (first | refine d_pure 16 ?_ | refine d_load 16 ?_ | refine d_arith 16 ?_ | refine d_rem 16 ?_ | refine d_quo 16 ?_ | refine d_shrv 16 ?_ | refine d_fieldat 16 ?_ | refine d_idx1 16 ?_ | refine d_index 16 ?_ | refine d_conv64 16 ?_ | refine d_slices 16 ?_ | refine d_concat 16 ?_ | refine d_build 16 ?_)
  (first | refine d_pure 17 ?_ | refine d_load 17 ?_ | refine d_arith 17 ?_ | refine d_rem 17 ?_ | refine d_quo 17 ?_ | refine d_shrv 17 ?_ | refine d_fieldat 17 ?_ | refine d_idx1 17 ?_ | refine d_index 17 ?_ | refine d_conv64 17 ?_ | refine d_slices 17 ?_ | refine d_concat 17 ?_ | refine d_build 17 ?_)
  (first | refine d_pure 18 ?_ | refine d_load 18 ?_ | refine d_arith 18 ?_ | refine d_rem 18 ?_ | refine d_quo 18 ?_ | refine d_shrv 18 ?_ | refine d_fieldat 18 ?_ | refine d_idx1 18 ?_ | refine d_index 18 ?_ | refine d_conv64 18 ?_ | refine d_slices 18 ?_ | refine d_concat 18 ?_ | refine d_build 18 ?_)
  (first | refine d_pure 19 ?_ | refine d_load 19 ?_ | refine d_arith 19 ?_ | refine d_rem 19 ?_ | refine d_quo 19 ?_ | refine d_shrv 19 ?_ | refine d_fieldat 19 ?_ | refine d_idx1 19 ?_ | refine d_index 19 ?_ | refine d_conv64 19 ?_ | refine d_slices 19 ?_ | refine d_concat 19 ?_ | refine d_build 19 ?_)
  refine d_call 14 (pending_spec q b S) ?_
  (refine d_pure 20 ?_); refine d_is 71 (c := true) (decide_eq_true (p := (S.cache.length : Int) = (T.wait.length : Int)) (by omega)) ?_
  (first | refine d_pure 21 ?_ | refine d_load 21 ?_ | refine d_arith 21 ?_ | refine d_rem 21 ?_ | refine d_quo 21 ?_ | refine d_shrv 21 ?_ | refine d_fieldat 21 ?_ | refine d_idx1 21 ?_ | refine d_index 21 ?_ | refine d_conv64 21 ?_ | refine d_slices 21 ?_ | refine d_concat 21 ?_ | refine d_build 21 ?_)
  (first | refine d_pure 22 ?_ | refine d_load 22 ?_ | refine d_arith 22 ?_ | refine d_rem 22 ?_ | refine d_quo 22 ?_ | refine d_shrv 22 ?_ | refine d_fieldat 22 ?_ | refine d_idx1 22 ?_ | refine d_index 22 ?_ | refine d_conv64 22 ?_ | refine d_slices 22 ?_ | refine d_concat 22 ?_ | refine d_build 22 ?_)
  (first | refine d_pure 23 ?_ | refine d_load 23 ?_ | refine d_arith 23 ?_ | refine d_rem 23 ?_ | refine d_quo 23 ?_ | refine d_shrv 23 ?_ | refine d_fieldat 23 ?_ | refine d_idx1 23 ?_ | refine d_index 23 ?_ | refine d_conv64 23 ?_ | refine d_slices 23 ?_ | refine d_concat 23 ?_ | refine d_build 23 ?_)
  (first | refine d_pure 25 ?_ | refine d_load 25 ?_ | refine d_arith 25 ?_ | refine d_rem 25 ?_ | refine d_quo 25 ?_ | refine d_shrv 25 ?_ | refine d_fieldat 25 ?_ | refine d_idx1 25 ?_ | refine d_index 25 ?_ | refine d_conv64 25 ?_ | refine d_slices 25 ?_ | refine d_concat 25 ?_ | refine d_build 25 ?_)
  (first | refine d_pure 26 ?_ | refine d_load 26 ?_ | refine d_arith 26 ?_ | refine d_rem 26 ?_ | refine d_quo 26 ?_ | refine d_shrv 26 ?_ | refine d_fieldat 26 ?_ | refine d_idx1 26 ?_ | refine d_index 26 ?_ | refine d_conv64 26 ?_ | refine d_slices 26 ?_ | refine d_concat 26 ?_ | refine d_build 26 ?_)
  (first | refine d_pure 27 ?_ | refine d_load 27 ?_ | refine d_arith 27 ?_ | refine d_rem 27 ?_ | refine d_quo 27 ?_ | refine d_shrv 27 ?_ | refine d_fieldat 27 ?_ | refine d_idx1 27 ?_ | refine d_index 27 ?_ | refine d_conv64 27 ?_ | refine d_slices 27 ?_ | refine d_concat 27 ?_ | refine d_build 27 ?_)
  (first | refine d_pure 28 ?_ | refine d_load 28 ?_ | refine d_arith 28 ?_ | refine d_rem 28 ?_ | refine d_quo 28 ?_ | refine d_shrv 28 ?_ | refine d_fieldat 28 ?_ | refine d_idx1 28 ?_ | refine d_index 28 ?_ | refine d_conv64 28 ?_ | refine d_slices 28 ?_ | refine d_concat 28 ?_ | refine d_build 28 ?_)
  (first | refine d_pure 29 ?_ | refine d_load 29 ?_ | refine d_arith 29 ?_ | refine d_rem 29 ?_ | refine d_quo 29 ?_ | refine d_shrv 29 ?_ | refine d_fieldat 29 ?_ | refine d_idx1 29 ?_ | refine d_index 29 ?_ | refine d_conv64 29 ?_ | refine d_slices 29 ?_ | refine d_concat 29 ?_ | refine d_build 29 ?_)
  refine d_call 24 (up_spec q b S) ?_
  (refine d_pure 30 ?_); refine d_is 81 (b := (!S.down) == (!T.down)) (c := true) (by rw [h2]; cases S.down <;> rfl) ?_
  (first | refine d_pure 31 ?_ | refine d_load 31 ?_ | refine d_arith 31 ?_ | refine d_rem 31 ?_ | refine d_quo 31 ?_ | refine d_shrv 31 ?_ | refine d_fieldat 31 ?_ | refine d_idx1 31 ?_ | refine d_index 31 ?_ | refine d_conv64 31 ?_ | refine d_slices 31 ?_ | refine d_concat 31 ?_ | refine d_build 31 ?_)
  (first | refine d_pure 32 ?_ | refine d_load 32 ?_ | refine d_arith 32 ?_ | refine d_rem 32 ?_ | refine d_quo 32 ?_ | refine d_shrv 32 ?_ | refine d_fieldat 32 ?_ | refine d_idx1 32 ?_ | refine d_index 32 ?_ | refine d_conv64 32 ?_ | refine d_slices 32 ?_ | refine d_concat 32 ?_ | refine d_build 32 ?_)
  refine d_call 33 (awake6_spec q) ?_
  (first | refine d_pure 34 ?_ | refine d_load 34 ?_ | refine d_arith 34 ?_ | refine d_rem 34 ?_ | refine d_quo 34 ?_ | refine d_shrv 34 ?_ | refine d_fieldat 34 ?_ | refine d_idx1 34 ?_ | refine d_index 34 ?_ | refine d_conv64 34 ?_ | refine d_slices 34 ?_ | refine d_concat 34 ?_ | refine d_build 34 ?_)
  (first | refine d_pure 35 ?_ | refine d_load 35 ?_ | refine d_arith 35 ?_ | refine d_rem 35 ?_ | refine d_quo 35 ?_ | refine d_shrv 35 ?_ | refine d_fieldat 35 ?_ | refine d_idx1 35 ?_ | refine d_index 35 ?_ | refine d_conv64 35 ?_ | refine d_slices 35 ?_ | refine d_concat 35 ?_ | refine d_build 35 ?_)
  refine d_done ?_
  (repeat (first | refine g ?_))
  exact run_ret rfl (imp_RD rfl shut)
end Go.Proofs.YtajndpddlpnbkaaGreatDoor.V
/- BlockAlls. -/
namespace Go.Proofs.YtajndpddlpnbkaaGreatDoor.V
open Go.Proofs.YtajndpddlpnbkaaGreatDoor.VL Go.Proofs.YtajndpddlpnbkaaGreatDoor.VL.RD Go.Proofs.YtajndpddlpnbkaaGreatDoor.VL.Sha
attribute [local irreducible] Run numB
theorem at_okown (q : View) (pr pm : Option Addr) (cr cm : Nat) (raws : List ByteArray) (masks : List Int) (hlr : raws.length ≤ 1000000) (hlm : masks.length ≤ 9223372036854775807) (i : Nat) (raw : ByteArray) (m : Int) (hi : raws[i]? = some raw) (hmi : masks[i]? = some m) (hz : raw.size = 512) :
    FnD Tryz.prog q 30 [.agg ⟨[.slice pr raws.length cr, .slice pm masks.length cm]⟩, .int .i64 (i : Int)] [sl pr raws.length cr 9 1 (raws.map Value.string), sl pm masks.length cm 3 1 (masks.map (Value.int .i64))] (.tuple #[.string raw, .int .i64 m]) [sl pr raws.length cr 9 1 (raws.map Value.string), sl pm masks.length cm 3 1 (masks.map (Value.int .i64))] := by
  have h1 : i < raws.length := (List.getElem?_eq_some_iff.1 hi).1
  have h2 : i < masks.length := (List.getElem?_eq_some_iff.1 hmi).1
  have hx : (raws.map Value.string)[i]? = some (.string raw) := by rw [List.getElem?_map, hi]; rfl
  have hy : (masks.map (Value.int .i64))[i]? = some (.int .i64 m) := by rw [List.getElem?_map, hmi]; rfl
  (first | refine FnD.go Tryz.call30 Tryz.func30 rfl rfl rfl ?_ | refine FnX.go Tryz.call30 Tryz.func30 rfl rfl rfl ?_)
  (repeat (first | refine g ?_ | refine s_flat 3 [(.pure, [0, 2, 5, 7]), (.mem true, [1]), (.pure, [3]), (.mem true, [4]), (.pure, [10]), (.mem true, [6]), (.pure, [8]), (.mem true, [9]), (.pure, [11])] ?_))
  refine s_box fun b2 => ?_
  refine s_ptr pr (h0 := by omega) (fun br er _ _ => ?_)
  refine s_ptr pm (h0 := by omega) (fun bm em _ _ => ?_)
  subst er em
  (repeat (first | refine g ?_ | refine s_flat 3 [(.pure, [0, 2, 5, 7]), (.mem true, [1]), (.pure, [3]), (.mem true, [4]), (.pure, [10]), (.mem true, [6]), (.pure, [8]), (.mem true, [9]), (.pure, [11])] ?_))
  refine s_loadsl hx ?_
  (repeat (first | refine g ?_ | refine s_flat 3 [(.pure, [0, 2, 5, 7]), (.mem true, [1]), (.pure, [3]), (.mem true, [4]), (.pure, [10]), (.mem true, [6]), (.pure, [8]), (.mem true, [9]), (.pure, [11])] ?_))
  refine s_loadsl hx ?_
  (repeat (first | refine g ?_ | refine s_flat 3 [(.pure, [0, 2, 5, 7]), (.mem true, [1]), (.pure, [3]), (.mem true, [4]), (.pure, [10]), (.mem true, [6]), (.pure, [8]), (.mem true, [9]), (.pure, [11])] ?_))
  refine s_loadsl hy ?_
  (repeat (first | refine g ?_ | refine s_flat 3 [(.pure, [0, 2, 5, 7]), (.mem true, [1]), (.pure, [3]), (.mem true, [4]), (.pure, [10]), (.mem true, [6]), (.pure, [8]), (.mem true, [9]), (.pure, [11])] ?_))
  exact run_ret rfl (imp_RD rfl shut)
theorem blankB_size : blankB.size = 512 := by
  unfold blankB bl
  show (List.replicate 512 (0 : UInt8)).toArray.size = 512
  simp
theorem allR_size {n : Nat} {s : PSt} (h : PW n s) (i : Nat) (h1 : (i : Int) < s.sectors / 8) : (allR s i).size = 512 := by
  unfold allR
  split
  · exact blankB_size
  · have := getL_len h.s64 i (by omega) h1 8 (by omega)
    show (getL s i 8).toArray.size = 512
    simp [this]
/-- The document's device, behind so many blocks that were read. -/
def qallS (s : PSt) (t : QSt) (i : Nat) : QSt := if s.down = true then t else qrds t (8 * i)
theorem Both.all {n : Nat} {s : PSt} {t : QSt} (h : Both n s t) (i : Nat) (hi : n + 8 * i ≤ 1000000) : Both (n + 8 * i) (allS s i) (qallS s t i) := by
  unfold allS qallS
  split
  · exact h.mono (Nat.le_add_right _ _)
  · exact h.rds _ (by omega)
theorem qall_get {n : Nat} {s : PSt} {t : QSt} (h : Both n s t) (i : Nat) (h1 : (i : Int) < s.sectors / 8) : qgetS (qallS s t i) i = qallS s t (i + 1) := by
  have hs := h.sec
  unfold qgetS qallS
  cases hd : s.down with
  | true =>
    simp only [if_true]
    rw [if_neg (by omega), if_pos (by rw [h.down]; exact hd)]
  | false =>
    simp only [Bool.false_eq_true, if_false]
    rw [if_neg (show ¬ ((i : Int) < 0 ∨ ((qrds t (8 * i)).kept.length : Int) / 8 ≤ (i : Int)) by show ¬ ((i : Int) < 0 ∨ (t.kept.length : Int) / 8 ≤ (i : Int)); omega), if_neg (show ¬ (qrds t (8 * i)).down = true by show ¬ t.down = true; rw [h.down, hd]; decide), qrds_add]
    rfl
set_option maxHeartbeats 4000000 in
theorem balls_spec (q : View) (hE : ErrQ q) (n : Int) (sp : Option Addr) (sc : Nat) (l : List MarkT) (hs : MarksQ q sp l) (hl : l.length ≤ 9223372036854775807) (a : Int) (off : Bool) :
    FnD Tryz.prog q 6 [.int .i64 n, .slice sp l.length sc, .int .i64 a, .bool off] [] (.bool true) [] := by
  by_cases hn : n < 0 ∨ 32768 < n
  · (first | refine FnD.go Tryz.call6 Tryz.func6 rfl rfl rfl ?_ | refine FnX.go Tryz.call6 Tryz.func6 rfl rfl rfl ?_)
    (repeat (first | refine g ?_ | refine s_flat 10 [(.pure, [0, 3, 4, 5]), (.mem true, [1]), (.pure, [2]), (.mem true, [6]), (.pure, [7, 8, 9, 10, 11, 14]), (.mem true, [12]), (.pure, [13]), (.mem true, [15]), (.pure, [16, 17, 18])] ?_))
    refine s_call (both_bad q n hn _) ?_
    (repeat (first | refine g ?_ | refine s_flat 10 [(.pure, [0, 3, 4, 5]), (.mem true, [1]), (.pure, [2]), (.mem true, [6]), (.pure, [7, 8, 9, 10, 11, 14]), (.mem true, [12]), (.pure, [13]), (.mem true, [15]), (.pure, [16, 17, 18])] ?_))
    refine s_call (awake6_spec q) ?_
    (repeat (first | refine g ?_ | refine s_flat 10 [(.pure, [0, 3, 4, 5]), (.mem true, [1]), (.pure, [2]), (.mem true, [6]), (.pure, [7, 8, 9, 10, 11, 14]), (.mem true, [12]), (.pure, [13]), (.mem true, [15]), (.pure, [16, 17, 18])] ?_))
    exact run_ret rfl (imp_RD rfl shut)
  obtain ⟨m, rfl⟩ : ∃ m : Nat, n = m := ⟨n.toNat, by omega⟩
  have cb := both_spec q m (by omega) sp sc l hs hl
  by_cases h80 : 80 < m
  · (first | refine FnD.go Tryz.call6 Tryz.func6 rfl rfl rfl ?_ | refine FnX.go Tryz.call6 Tryz.func6 rfl rfl rfl ?_)
    (repeat (first | refine g ?_ | refine s_flat 10 [(.pure, [0, 3, 4, 5]), (.mem true, [1]), (.pure, [2]), (.mem true, [6]), (.pure, [7, 8, 9, 10, 11, 14]), (.mem true, [12]), (.pure, [13]), (.mem true, [15]), (.pure, [16, 17, 18])] ?_))
    refine s_callx cb fun ⟨⟨b, c⟩, ⟨⟨s, t⟩, hT⟩⟩ => ?_
    dsimp only
    (repeat (first | refine g ?_ | refine s_flat 10 [(.pure, [0, 3, 4, 5]), (.mem true, [1]), (.pure, [2]), (.mem true, [6]), (.pure, [7, 8, 9, 10, 11, 14]), (.mem true, [12]), (.pure, [13]), (.mem true, [15]), (.pure, [16, 17, 18])] ?_))
    refine s_call (awake6_spec q) ?_
    (repeat (first | refine g ?_ | refine s_flat 10 [(.pure, [0, 3, 4, 5]), (.mem true, [1]), (.pure, [2]), (.mem true, [6]), (.pure, [7, 8, 9, 10, 11, 14]), (.mem true, [12]), (.pure, [13]), (.mem true, [15]), (.pure, [16, 17, 18])] ?_))
    exact run_ret rfl (imp_RD rfl shut)
  (first | refine FnD.go Tryz.call6 Tryz.func6 rfl rfl rfl ?_ | refine FnX.go Tryz.call6 Tryz.func6 rfl rfl rfl ?_)
  (repeat (first | refine g ?_ | refine s_flat 10 [(.pure, [0, 3, 4, 5]), (.mem true, [1]), (.pure, [2]), (.mem true, [6]), (.pure, [7, 8, 9, 10, 11, 14]), (.mem true, [12]), (.pure, [13]), (.mem true, [15]), (.pure, [16, 17, 18])] ?_))
  refine s_callx cb fun ⟨⟨b, c⟩, ⟨⟨s, t⟩, hT⟩⟩ => ?_
  dsimp only at hT ⊢
  (repeat (first | refine g ?_ | refine s_flat 10 [(.pure, [0, 3, 4, 5]), (.mem true, [1]), (.pure, [2]), (.mem true, [6]), (.pure, [7, 8, 9, 10, 11, 14]), (.mem true, [12]), (.pure, [13]), (.mem true, [15]), (.pure, [16, 17, 18])] ?_))
  refine run_cut (X := {y : PSt × QSt // Twin 41 m y.1 y.2}) (fun _ => [(2, .int .i64 a), (9, .pointer (some ⟨b, 0, none⟩)), (10, .pointer (some ⟨c, 0, none⟩))]) (fun x => [plateAt b x.1.1, qAt c x.1.2]) ?_ fun ⟨⟨s1, t1⟩, hT1⟩ => ?_
  · cases off with
    | false =>
      (repeat (first | refine g ?_ | refine s_flat 10 [(.pure, [0, 3, 4, 5]), (.mem true, [1]), (.pure, [2]), (.mem true, [6]), (.pure, [7, 8, 9, 10, 11, 14]), (.mem true, [12]), (.pure, [13]), (.mem true, [15]), (.pure, [16, 17, 18])] ?_))
      exact run_stop_loop ⟨(s, t), hT.both.mono (by omega), hT.pw.mono (by omega), hT.sec⟩ trivial fct shut
    | true =>
      have hB := (hT.both.arm 0 (by omega)).2
      have hP := hT.pw.arm 0 (by omega)
      have ca := arm_spec q b s 0
      have da := qarm_spec q c t 0
      have hk : (armF s 0).2.sectors = m := by
        rw [← hT.sec]; unfold armF
        repeat' split
        all_goals rfl
      generalize (armF s 0).2 = s1 at *
      generalize (qArmF t 0).2 = t1 at *
      have hbw := (hB.write 0 (⟨(List.replicate 64 0).toArray⟩ : ByteArray) (by omega)).2
      have hpw := hP.write 0 (⟨(List.replicate 64 0).toArray⟩ : ByteArray) (by omega)
      have hkw : (writeF s1 0 (⟨(List.replicate 64 0).toArray⟩ : ByteArray)).2.sectors = m := by rw [writeF_sectors]; exact hk
      have cw := write_spec q b s1 hP.wf 0 (⟨(List.replicate 64 0).toArray⟩ : ByteArray)
      have dw := qwrite_spec q c t1 hB.qw 0 (⟨(List.replicate 64 0).toArray⟩ : ByteArray)
      (repeat (first | refine g ?_ | refine s_flat 10 [(.pure, [0, 3, 4, 5]), (.mem true, [1]), (.pure, [2]), (.mem true, [6]), (.pure, [7, 8, 9, 10, 11, 14]), (.mem true, [12]), (.pure, [13]), (.mem true, [15]), (.pure, [16, 17, 18])] ?_))
      refine s_call ca ?_
      (repeat (first | refine g ?_ | refine s_flat 10 [(.pure, [0, 3, 4, 5]), (.mem true, [1]), (.pure, [2]), (.mem true, [6]), (.pure, [7, 8, 9, 10, 11, 14]), (.mem true, [12]), (.pure, [13]), (.mem true, [15]), (.pure, [16, 17, 18])] ?_))
      refine s_call da ?_
      (repeat (first | refine g ?_ | refine s_flat 10 [(.pure, [0, 3, 4, 5]), (.mem true, [1]), (.pure, [2]), (.mem true, [6]), (.pure, [7, 8, 9, 10, 11, 14]), (.mem true, [12]), (.pure, [13]), (.mem true, [15]), (.pure, [16, 17, 18])] ?_))
      refine s_made 1 64 64 fun rz => ?_
      rw [zeroL_one _ rfl]
      (repeat (first | refine g ?_ | refine s_flat 10 [(.pure, [0, 3, 4, 5]), (.mem true, [1]), (.pure, [2]), (.mem true, [6]), (.pure, [7, 8, 9, 10, 11, 14]), (.mem true, [12]), (.pure, [13]), (.mem true, [15]), (.pure, [16, 17, 18])] ?_))
      refine s_stringc (m := 64) (o := 0) (c := ⟨List.replicate 64 (.int .u8 0)⟩) (l := List.replicate 64 0) (by simp) (by simp [bv]) ?_
      (repeat (first | refine g ?_ | refine s_flat 10 [(.pure, [0, 3, 4, 5]), (.mem true, [1]), (.pure, [2]), (.mem true, [6]), (.pure, [7, 8, 9, 10, 11, 14]), (.mem true, [12]), (.pure, [13]), (.mem true, [15]), (.pure, [16, 17, 18])] ?_))
      refine s_call cw ?_
      (repeat (first | refine g ?_ | refine s_flat 10 [(.pure, [0, 3, 4, 5]), (.mem true, [1]), (.pure, [2]), (.mem true, [6]), (.pure, [7, 8, 9, 10, 11, 14]), (.mem true, [12]), (.pure, [13]), (.mem true, [15]), (.pure, [16, 17, 18])] ?_))
      refine s_made 1 64 64 fun rz => ?_
      rw [zeroL_one _ rfl]
      (repeat (first | refine g ?_ | refine s_flat 10 [(.pure, [0, 3, 4, 5]), (.mem true, [1]), (.pure, [2]), (.mem true, [6]), (.pure, [7, 8, 9, 10, 11, 14]), (.mem true, [12]), (.pure, [13]), (.mem true, [15]), (.pure, [16, 17, 18])] ?_))
      refine s_stringc (m := 64) (o := 0) (c := ⟨List.replicate 64 (.int .u8 0)⟩) (l := List.replicate 64 0) (by simp) (by simp [bv]) ?_
      (repeat (first | refine g ?_ | refine s_flat 10 [(.pure, [0, 3, 4, 5]), (.mem true, [1]), (.pure, [2]), (.mem true, [6]), (.pure, [7, 8, 9, 10, 11, 14]), (.mem true, [12]), (.pure, [13]), (.mem true, [15]), (.pure, [16, 17, 18])] ?_))
      refine s_call dw ?_
      (repeat (first | refine g ?_ | refine s_flat 10 [(.pure, [0, 3, 4, 5]), (.mem true, [1]), (.pure, [2]), (.mem true, [6]), (.pure, [7, 8, 9, 10, 11, 14]), (.mem true, [12]), (.pure, [13]), (.mem true, [15]), (.pure, [16, 17, 18])] ?_))
      exact run_stop_loop ⟨(_, _), hbw, hpw, hkw⟩ trivial fct shut
  dsimp only at hT1 ⊢
  have hB := hT1.both
  have hP := hT1.pw
  have hse := hT1.sec
  have hks := hB.sec
  have cal := ball_spec q hE b s1 41 hP (by omega)
  obtain ⟨M, hM⟩ : ∃ M : Nat, s1.sectors / 8 = M := ⟨(s1.sectors / 8).toNat, by omega⟩
  rw [hM, show ((M : Nat) : Int).toNat = M from rfl] at cal
  have hM10 : M ≤ 10 := by omega
  (repeat (first | refine g ?_ | refine s_flat 10 [(.pure, [0, 3, 4, 5]), (.mem true, [1]), (.pure, [2]), (.mem true, [6]), (.pure, [7, 8, 9, 10, 11, 14]), (.mem true, [12]), (.pure, [13]), (.mem true, [15]), (.pure, [16, 17, 18])] ?_))
  refine s_callx cal fun ⟨pr, cr, pm, cm⟩ => ?_
  dsimp only
  (repeat (first | refine g ?_ | refine s_flat 10 [(.pure, [0, 3, 4, 5]), (.mem true, [1]), (.pure, [2]), (.mem true, [6]), (.pure, [7, 8, 9, 10, 11, 14]), (.mem true, [12]), (.pure, [13]), (.mem true, [15]), (.pure, [16, 17, 18])] ?_))
  refine s_alloc fun r11 => ?_
  refine run_pull (X := qAt c t1) (by (repeat (first | (with_reducible exact Pull.head) | apply Pull.tail))) ?_
  refine run_q fun pk ck pd cd pw cw => ?_
  unfold qParts
  (repeat (first | refine g ?_ | refine s_flat 10 [(.pure, [0, 3, 4, 5]), (.mem true, [1]), (.pure, [2]), (.mem true, [6]), (.pure, [7, 8, 9, 10, 11, 14]), (.mem true, [12]), (.pure, [13]), (.mem true, [15]), (.pure, [16, 17, 18])] ?_))
  refine run_loopI (X := Nat) (fun i => i ≤ M) (fun i => [(2, .int .i64 a), (10, .pointer (some ⟨c, 0, none⟩)), (11, .pointer (some ⟨r11, 0, none⟩)), (12, .int .i64 (i : Int))])
    (fun i => [qAt c (qallS s1 t1 i), cells r11 62 ⟨[.slice pr M cr, .slice pm M cm]⟩, sl pr M cr 9 1 ((rawsL s1 M).map Value.string), sl pm M cm 3 1 ((masksL s1 M).map (Value.int .i64))]) (fun i => M - i) 0 (Nat.zero_le _) fct ?_ ?_
  · rw [show qallS s1 t1 0 = t1 from by unfold qallS; split; rfl; exact qrds_zero t1]
    exact imp_q shut
  intro i hi
  have hlr := rawsL_len s1 M
  have hlm := masksL_len s1 M
  have hget : ∀ j : Nat, j < M → (rawsL s1 M)[j]? = some (allR s1 j) ∧ (masksL s1 M)[j]? = some (allM s1 j) := fun j hj => by
    unfold rawsL masksL
    rw [List.getElem?_map, List.getElem?_map, List.getElem?_range hj]
    exact ⟨rfl, rfl⟩
  by_cases h8 : i < M
  · have hx : ((rawsL s1 M).map Value.string)[i]? = some (.string (allR s1 i)) := by rw [List.getElem?_map, (hget i h8).1]; rfl
    have hy : ((masksL s1 M).map (Value.int .i64))[i]? = some (.int .i64 (allM s1 i)) := by rw [List.getElem?_map, (hget i h8).2]; rfl
    have hBi := hB.all i (by omega)
    have hPi := allS_pw hP i (by omega)
    have cg := qbget_spec q c (allS s1 i) (qallS s1 t1 i) (41 + 8 * i) hBi hPi.s64 (by omega) i
    rw [qall_get hB i (by omega)] at cg
    refine s_ptr pr (h0 := by omega) (fun br er _ _ => ?_)
    refine s_ptr pm (h0 := by omega) (fun bm em _ _ => ?_)
    subst er em
    rcases (all_get s1 i (by omega)).2 with ⟨hd, he⟩ | ⟨hd, he⟩
    · rw [he] at cg
      dsimp only at cg
      have er : allR s1 i = (⟨(List.replicate 512 0).toArray⟩ : ByteArray) := by unfold allR; rw [if_pos hd]; rfl
      have em : allM s1 i = 255 := by unfold allM; rw [if_pos hd]
      generalize allR s1 i = R at *
      generalize allM s1 i = MM at *
      subst em
      (repeat (first | refine g ?_ | refine s_flat 10 [(.pure, [0, 3, 4, 5]), (.mem true, [1]), (.pure, [2]), (.mem true, [6]), (.pure, [7, 8, 9, 10, 11, 14]), (.mem true, [12]), (.pure, [13]), (.mem true, [15]), (.pure, [16, 17, 18])] ?_))
      refine s_call cg ?_
      (repeat (first | refine g ?_ | refine s_flat 10 [(.pure, [0, 3, 4, 5]), (.mem true, [1]), (.pure, [2]), (.mem true, [6]), (.pure, [7, 8, 9, 10, 11, 14]), (.mem true, [12]), (.pure, [13]), (.mem true, [15]), (.pure, [16, 17, 18])] ?_))
      refine s_made 1 512 512 fun rz => ?_
      rw [zeroL_one _ rfl]
      (repeat (first | refine g ?_ | refine s_flat 10 [(.pure, [0, 3, 4, 5]), (.mem true, [1]), (.pure, [2]), (.mem true, [6]), (.pure, [7, 8, 9, 10, 11, 14]), (.mem true, [12]), (.pure, [13]), (.mem true, [15]), (.pure, [16, 17, 18])] ?_))
      refine s_stringc (m := 512) (o := 0) (c := ⟨List.replicate 512 (.int .u8 0)⟩) (l := List.replicate 512 0) (by simp) (by simp [bv]) ?_
      rw [← er]
      have hne : ¬ (R ≠ R) := fun h => h rfl
      (repeat (first | refine g ?_ | refine s_flat 10 [(.pure, [0, 3, 4, 5]), (.mem true, [1]), (.pure, [2]), (.mem true, [6]), (.pure, [7, 8, 9, 10, 11, 14]), (.mem true, [12]), (.pure, [13]), (.mem true, [15]), (.pure, [16, 17, 18])] ?_))
      refine s_loadsl hx ?_
      (repeat (first | refine g ?_ | refine s_flat 10 [(.pure, [0, 3, 4, 5]), (.mem true, [1]), (.pure, [2]), (.mem true, [6]), (.pure, [7, 8, 9, 10, 11, 14]), (.mem true, [12]), (.pure, [13]), (.mem true, [15]), (.pure, [16, 17, 18])] ?_))
      refine s_loadsl hy ?_
      (repeat (first | refine g ?_ | refine s_flat 10 [(.pure, [0, 3, 4, 5]), (.mem true, [1]), (.pure, [2]), (.mem true, [6]), (.pure, [7, 8, 9, 10, 11, 14]), (.mem true, [12]), (.pure, [13]), (.mem true, [15]), (.pure, [16, 17, 18])] ?_))
      exact run_stop_loop (i + 1) ⟨by omega, by omega⟩ fct shut
    · rw [he] at cg
      dsimp only at cg
      generalize allR s1 i = R at *
      generalize allM s1 i = MM at *
      have hne : ¬ (R ≠ R) := fun h => h rfl
      (repeat (first | refine g ?_ | refine s_flat 10 [(.pure, [0, 3, 4, 5]), (.mem true, [1]), (.pure, [2]), (.mem true, [6]), (.pure, [7, 8, 9, 10, 11, 14]), (.mem true, [12]), (.pure, [13]), (.mem true, [15]), (.pure, [16, 17, 18])] ?_))
      refine s_call cg ?_
      (repeat (first | refine g ?_ | refine s_flat 10 [(.pure, [0, 3, 4, 5]), (.mem true, [1]), (.pure, [2]), (.mem true, [6]), (.pure, [7, 8, 9, 10, 11, 14]), (.mem true, [12]), (.pure, [13]), (.mem true, [15]), (.pure, [16, 17, 18])] ?_))
      refine s_loadsl hx ?_
      (repeat (first | refine g ?_ | refine s_flat 10 [(.pure, [0, 3, 4, 5]), (.mem true, [1]), (.pure, [2]), (.mem true, [6]), (.pure, [7, 8, 9, 10, 11, 14]), (.mem true, [12]), (.pure, [13]), (.mem true, [15]), (.pure, [16, 17, 18])] ?_))
      refine s_loadsl hy ?_
      (repeat (first | refine g ?_ | refine s_flat 10 [(.pure, [0, 3, 4, 5]), (.mem true, [1]), (.pure, [2]), (.mem true, [6]), (.pure, [7, 8, 9, 10, 11, 14]), (.mem true, [12]), (.pure, [13]), (.mem true, [15]), (.pure, [16, 17, 18])] ?_))
      exact run_stop_loop (i + 1) ⟨by omega, by omega⟩ fct shut
  · obtain rfl : i = M := by omega
    by_cases ha : 0 ≤ a ∧ a < i
    · obtain ⟨j, rfl⟩ : ∃ j : Nat, a = j := ⟨a.toNat, by omega⟩
      have hj : j < i := by omega
      have hx : ((rawsL s1 i).map Value.string)[j]? = some (.string (allR s1 j)) := by rw [List.getElem?_map, (hget j hj).1]; rfl
      have hy : ((masksL s1 i).map (Value.int .i64))[j]? = some (.int .i64 (allM s1 j)) := by rw [List.getElem?_map, (hget j hj).2]; rfl
      have cat := at_okown q pr pm cr cm (rawsL s1 i) (masksL s1 i) (by omega) (by omega) j (allR s1 j) (allM s1 j) (hget j hj).1 (hget j hj).2 (allR_size hP j (by omega))
      rw [hlr, hlm] at cat
      generalize allR s1 j = R at *
      generalize allM s1 j = MM at *
      have hee : R = R := rfl
      (repeat (first | refine g ?_ | refine s_flat 10 [(.pure, [0, 3, 4, 5]), (.mem true, [1]), (.pure, [2]), (.mem true, [6]), (.pure, [7, 8, 9, 10, 11, 14]), (.mem true, [12]), (.pure, [13]), (.mem true, [15]), (.pure, [16, 17, 18])] ?_))
      refine s_call cat ?_
      refine s_ptr pr (h0 := by omega) (fun br er _ _ => ?_)
      refine s_ptr pm (h0 := by omega) (fun bm em _ _ => ?_)
      subst er em
      (repeat (first | refine g ?_ | refine s_flat 10 [(.pure, [0, 3, 4, 5]), (.mem true, [1]), (.pure, [2]), (.mem true, [6]), (.pure, [7, 8, 9, 10, 11, 14]), (.mem true, [12]), (.pure, [13]), (.mem true, [15]), (.pure, [16, 17, 18])] ?_))
      refine s_loadsl hx ?_
      (repeat (first | refine g ?_ | refine s_flat 10 [(.pure, [0, 3, 4, 5]), (.mem true, [1]), (.pure, [2]), (.mem true, [6]), (.pure, [7, 8, 9, 10, 11, 14]), (.mem true, [12]), (.pure, [13]), (.mem true, [15]), (.pure, [16, 17, 18])] ?_))
      refine s_loadsl hy ?_
      (repeat (first | refine g ?_ | refine s_flat 10 [(.pure, [0, 3, 4, 5]), (.mem true, [1]), (.pure, [2]), (.mem true, [6]), (.pure, [7, 8, 9, 10, 11, 14]), (.mem true, [12]), (.pure, [13]), (.mem true, [15]), (.pure, [16, 17, 18])] ?_))
      refine s_call (awake6_spec q) ?_
      (repeat (first | refine g ?_ | refine s_flat 10 [(.pure, [0, 3, 4, 5]), (.mem true, [1]), (.pure, [2]), (.mem true, [6]), (.pure, [7, 8, 9, 10, 11, 14]), (.mem true, [12]), (.pure, [13]), (.mem true, [15]), (.pure, [16, 17, 18])] ?_))
      exact run_ret rfl (imp_RD rfl shut)
    · have cat := at_blank q pr pm cr cm (rawsL s1 i) (masksL s1 i) (by omega) (by omega) a (by omega)
      rw [hlr, hlm] at cat
      have eb : blankB = (⟨(List.replicate 512 0).toArray⟩ : ByteArray) := rfl
      generalize blankB = R at *
      have hee : R = R := rfl
      clear hget hT1 hT hB hP cb cal hse hks hs
      by_cases h0 : a < 0
      · clear ha
        (repeat (first | refine g ?_ | refine s_flat 10 [(.pure, [0, 3, 4, 5]), (.mem true, [1]), (.pure, [2]), (.mem true, [6]), (.pure, [7, 8, 9, 10, 11, 14]), (.mem true, [12]), (.pure, [13]), (.mem true, [15]), (.pure, [16, 17, 18])] ?_))
        refine s_call cat ?_
        (repeat (first | refine g ?_ | refine s_flat 10 [(.pure, [0, 3, 4, 5]), (.mem true, [1]), (.pure, [2]), (.mem true, [6]), (.pure, [7, 8, 9, 10, 11, 14]), (.mem true, [12]), (.pure, [13]), (.mem true, [15]), (.pure, [16, 17, 18])] ?_))
        refine s_made 1 512 512 fun rz => ?_
        rw [zeroL_one _ rfl]
        (repeat (first | refine g ?_ | refine s_flat 10 [(.pure, [0, 3, 4, 5]), (.mem true, [1]), (.pure, [2]), (.mem true, [6]), (.pure, [7, 8, 9, 10, 11, 14]), (.mem true, [12]), (.pure, [13]), (.mem true, [15]), (.pure, [16, 17, 18])] ?_))
        refine s_stringc (m := 512) (o := 0) (c := ⟨List.replicate 512 (.int .u8 0)⟩) (l := List.replicate 512 0) (by simp) (by simp [bv]) ?_
        rw [← eb]
        (repeat (first | refine g ?_ | refine s_flat 10 [(.pure, [0, 3, 4, 5]), (.mem true, [1]), (.pure, [2]), (.mem true, [6]), (.pure, [7, 8, 9, 10, 11, 14]), (.mem true, [12]), (.pure, [13]), (.mem true, [15]), (.pure, [16, 17, 18])] ?_))
        refine s_call (awake6_spec q) ?_
        (repeat (first | refine g ?_ | refine s_flat 10 [(.pure, [0, 3, 4, 5]), (.mem true, [1]), (.pure, [2]), (.mem true, [6]), (.pure, [7, 8, 9, 10, 11, 14]), (.mem true, [12]), (.pure, [13]), (.mem true, [15]), (.pure, [16, 17, 18])] ?_))
        exact run_ret rfl (imp_RD rfl shut)
      · have h1 : (i : Int) ≤ a := by omega
        clear ha
        (repeat (first | refine g ?_ | refine s_flat 10 [(.pure, [0, 3, 4, 5]), (.mem true, [1]), (.pure, [2]), (.mem true, [6]), (.pure, [7, 8, 9, 10, 11, 14]), (.mem true, [12]), (.pure, [13]), (.mem true, [15]), (.pure, [16, 17, 18])] ?_))
        refine s_call cat ?_
        (repeat (first | refine g ?_ | refine s_flat 10 [(.pure, [0, 3, 4, 5]), (.mem true, [1]), (.pure, [2]), (.mem true, [6]), (.pure, [7, 8, 9, 10, 11, 14]), (.mem true, [12]), (.pure, [13]), (.mem true, [15]), (.pure, [16, 17, 18])] ?_))
        refine s_made 1 512 512 fun rz => ?_
        rw [zeroL_one _ rfl]
        (repeat (first | refine g ?_ | refine s_flat 10 [(.pure, [0, 3, 4, 5]), (.mem true, [1]), (.pure, [2]), (.mem true, [6]), (.pure, [7, 8, 9, 10, 11, 14]), (.mem true, [12]), (.pure, [13]), (.mem true, [15]), (.pure, [16, 17, 18])] ?_))
        refine s_stringc (m := 512) (o := 0) (c := ⟨List.replicate 512 (.int .u8 0)⟩) (l := List.replicate 512 0) (by simp) (by simp [bv]) ?_
        rw [← eb]
        (repeat (first | refine g ?_ | refine s_flat 10 [(.pure, [0, 3, 4, 5]), (.mem true, [1]), (.pure, [2]), (.mem true, [6]), (.pure, [7, 8, 9, 10, 11, 14]), (.mem true, [12]), (.pure, [13]), (.mem true, [15]), (.pure, [16, 17, 18])] ?_))
        refine s_call (awake6_spec q) ?_
        (repeat (first | refine g ?_ | refine s_flat 10 [(.pure, [0, 3, 4, 5]), (.mem true, [1]), (.pure, [2]), (.mem true, [6]), (.pure, [7, 8, 9, 10, 11, 14]), (.mem true, [12]), (.pure, [13]), (.mem true, [15]), (.pure, [16, 17, 18])] ?_))
        exact run_ret rfl (imp_RD rfl shut)
end Go.Proofs.YtajndpddlpnbkaaGreatDoor.V
/- BlockBack. -/
namespace Go.Proofs.YtajndpddlpnbkaaGreatDoor.V
open Go.Proofs.YtajndpddlpnbkaaGreatDoor.VL Go.Proofs.YtajndpddlpnbkaaGreatDoor.VL.RD Go.Proofs.YtajndpddlpnbkaaGreatDoor.VL.Sha
attribute [local irreducible] Run numB
/-- A device behind a block that was put at the address a, read twice, flushed, and of which a sector was spoilt. -/
structure Run5 (a sp : Int) (raw : ByteArray) (S1 : PSt) : Prop where
  pw : PW 8 S1
  sec : S1.sectors = 80
  up : S1.down = false
  here : ∀ k : Nat, k < 8 → rdF S1 (a * 8 + k) = (secT raw k, 0)
  else_ : ∀ j : Int, 0 ≤ j → j < 80 → (j < a * 8 ∨ a * 8 + 8 ≤ j) → (rdF S1 j).2 = 0
theorem put80 (a : Int) (h0 : 0 ≤ a) (h1 : a ≤ 9) (raw : ByteArray) (hr : raw.size = 512) : (bputF (blank 80) a raw).1 = 0 ∧ Run5 a 0 raw (bputF (blank 80) a raw).2 := by
  have e : bputF (blank 80) a raw = wrN (blank 80) (a * 8) raw 8 := by
    unfold bputF
    rw [if_neg (fun h => h hr), if_neg (show ¬ (a < 0 ∨ (blank 80).sectors / 8 ≤ a) from fun h => by rw [show (blank 80).sectors = 80 from rfl] at h; omega)]
  rw [e]
  obtain ⟨k1, k2, k3, k4⟩ := put_read (blank 80) rfl rfl (a * 8) (by omega) (show a * 8 + 8 ≤ (80 : Int) by omega) raw hr
  have hp := wrN_pw (PW.blank 80 (by decide)) (by decide) (a * 8) raw 8 (by omega)
  refine ⟨k1, ⟨hp.1, hp.2, k2, k3, fun j j0 j1 hj => ?_⟩⟩
  rw [k4 j hj]
  obtain ⟨m, rfl⟩ : ∃ m : Nat, j = m := ⟨j.toNat, by omega⟩
  show (heldF (blank 80) (m : Int)).2 = 0
  unfold heldF
  rw [if_neg (show ¬ ((m : Int) < 0 ∨ (blank 80).sectors ≤ (m : Int)) from fun h => by rw [show (blank 80).sectors = 80 from rfl] at h; omega)]
  have d1 : (blank 80).dumb.getD ((m : Int)).toNat false = false := by
    show (List.replicate 80 false).getD m false = false
    rw [List.getD_eq_getElem?_getD, List.getElem?_replicate]
    split <;> rfl
  rw [if_neg (by rw [d1]; decide)]
  split <;> rfl
theorem other_get {a sp : Int} {raw : ByteArray} {S1 : PSt} (h : Run5 a sp raw S1) (h0 : 0 ≤ a) (h1 : a ≤ 9) : ∃ T : ByteArray, T.size = 512 ∧ getF (rds S1 8) ((a + 1) % 10) = ((T, 0, 0), rds (rds S1 8) 8) := by
  have hs : (rds S1 8).sectors = 80 := h.sec
  have hl := getL_len (s := rds S1 8) ⟨h.pw.s64.cache, h.pw.s64.held⟩ ((a + 1) % 10) (by omega) (by omega) 8 (by omega)
  have hm : getM (rds S1 8) ((a + 1) % 10) 8 = 0 := getM_zero _ _ (fun k hk => by rw [rdF_rds]; exact h.else_ _ (by omega) (by omega) (by omega)) 8 (by omega)
  refine ⟨bl (getL (rds S1 8) ((a + 1) % 10) 8), ?_, ?_⟩
  · show (getL (rds S1 8) ((a + 1) % 10) 8).toArray.size = 512
    simp [hl]
  · unfold getF
    rw [if_neg (by omega), if_neg (show ¬ (rds S1 8).down = true from fun h2 => by rw [show (rds S1 8).down = S1.down from rfl, h.up] at h2; exact absurd h2 (by decide)), hm]
    rfl
def S5 (S1 : PSt) (sp : Int) : PSt := (spoilF (flushF (rds (rds S1 8) 8)) sp).2
theorem flush_sec (s : PSt) : (flushF s).sectors = s.sectors := by unfold flushF; split <;> rfl
theorem flush_down (s : PSt) : (flushF s).down = s.down := by unfold flushF; split <;> rfl
theorem PW.flush {n : Nat} {s : PSt} (h : PW n s) : PW n (flushF s) := by
  have w := flush_wf s h.wf
  unfold flushF at w ⊢
  split
  · exact h
  · rename_i hd
    rw [if_neg hd] at w
    refine ⟨w, ⟨by simp, ?_⟩, h.nr, h.nw, Nat.zero_le _⟩
    have key : ∀ (l : List (Int × ByteArray)) (g : List ByteArray × List Bool), (∀ x ∈ l, x.2.size = 64) → (∀ x ∈ g.1, x.size = 0 ∨ x.size = 64) → ∀ x ∈ (l.foldl keepH g).1, x.size = 0 ∨ x.size = 64 := by
      intro l
      induction l with
      | nil => intro g _ hg; exact hg
      | cons y l ih =>
        intro g hl hg
        refine ih (keepH g y) (fun x hx => hl x (List.mem_cons_of_mem _ hx)) fun x hx => ?_
        rcases mem_setX hx with e | hx
        · exact .inr (by rw [e]; exact hl y List.mem_cons_self)
        · exact hg x hx
    exact key s.cache (s.held, s.dumb) h.s64.cache h.s64.held
theorem S5_facts {a sp : Int} {raw : ByteArray} {S1 : PSt} (h : Run5 a sp raw S1) (hr : raw.size = 512) (h0 : 0 ≤ a) (h1 : a ≤ 9) (p0 : 0 ≤ sp) (p1 : sp ≤ 79) :
    PW 24 (S5 S1 sp) ∧ (sp / 8 ≠ a → getF (S5 S1 sp) a = ((raw, 0, 0), rds (S5 S1 sp) 8)) ∧ (sp / 8 = a → ∃ (T : ByteArray) (m : Int), m ≠ 0 ∧ getF (S5 S1 sp) a = ((T, m, 0), rds (S5 S1 sp) 8)) := by
  have hp2 : PW 24 (rds (rds S1 8) 8) := (h.pw.rds 8 (by omega)).rds 8 (by omega)
  have hd2 : (rds (rds S1 8) 8).down = false := h.up
  have hs2 : (rds (rds S1 8) 8).sectors = 80 := h.sec
  have hp3 := hp2.flush
  have hs3 : (flushF (rds (rds S1 8) 8)).sectors = 80 := by rw [flush_sec]; exact hs2
  have hd3 : (flushF (rds (rds S1 8) 8)).down = false := by rw [flush_down]; exact hd2
  have hc3 : (flushF (rds (rds S1 8) 8)).cache = [] := by unfold flushF; rw [if_neg (by rw [hd2]; decide)]
  have hr3 : ∀ j : Int, 0 ≤ j → j < 80 → rdF (flushF (rds (rds S1 8) 8)) j = rdF S1 j := fun j j0 j1 => by
    rw [flush_read hp2 hd2 j j0 (by omega), rdF_rds, rdF_rds]
  have hp5 := hp3.spoil sp
  have hs5 : (S5 S1 sp).sectors = 80 := by unfold S5; rw [spoilF_sectors]; exact hs3
  have hd5 : (S5 S1 sp).down = false := by
    unfold S5 spoilF
    split
    · exact hd3
    · exact hd3
  have hr5 : ∀ j : Int, 0 ≤ j → j < 80 → rdF (S5 S1 sp) j = if j = sp then (⟨#[]⟩, 21) else rdF S1 j := fun j j0 j1 => by
    unfold S5
    rw [spoil_read _ hc3 sp p0 (by omega) hp3.wf.dumb j j0 (by omega), hr3 j j0 j1]
  refine ⟨hp5, fun hne => ?_, fun he => ?_⟩
  · refine getF_raw _ hd5 a h0 (by omega) raw hr fun k hk => ?_
    rw [hr5 _ (by omega) (by omega), if_neg (by omega)]
    exact h.here k hk
  · have hk : ∃ k : Nat, k < 8 ∧ a * 8 + k = sp := ⟨(sp - a * 8).toNat, by omega, by omega⟩
    obtain ⟨k, hk8, ek⟩ := hk
    have hm := getM_pos (S5 S1 sp) a k (by rw [ek, hr5 _ (by omega) (by omega), if_pos rfl]; decide) 8 hk8
    refine ⟨bl (getL (S5 S1 sp) a 8), ((getM (S5 S1 sp) a 8 : Nat) : Int), by omega, ?_⟩
    unfold getF
    rw [if_neg (by omega), if_neg (by rw [hd5]; decide)]
set_option maxHeartbeats 4000000 in
theorem bback_spec (q : View) (hE : ErrQ q) (h0 : HeadT) (hh0 : HeadOk h0) (s : ByteArray) (a sp : Int) : FnD Tryz.prog q 5 [.agg ⟨encH h0⟩, .string s, .int .i64 a, .int .i64 sp] [] (.bool true) [] := by
  have ca := awake6_spec q
  have cb := body_spec q s
  have hb := bodyF_size s
  obtain ⟨X, hX⟩ : ∃ X, X = bodyF s := ⟨_, rfl⟩
  rw [← hX] at cb hb
  by_cases hbad : a < 0 ∨ 9 < a ∨ sp < 0 ∨ 79 < sp
  · unfold encH
    (first | refine FnD.go Tryz.call5 Tryz.func5 rfl rfl rfl ?_ | refine FnX.go Tryz.call5 Tryz.func5 rfl rfl rfl ?_)
    (repeat (first | refine g ?_))
    refine s_box fun b4 => ?_
    (repeat (first | refine g ?_))
    refine s_callx (ideal_new q) fun v => ?_
    (repeat (first | refine g ?_))
    refine s_callx (new_spec q 80 (by decide)) fun b => ?_
    by_cases g1 : a < 0
    · skip
      (repeat (first | refine g ?_))
      refine s_call (awake6_spec q) ?_
      (repeat (first | refine g ?_))
      exact run_ret rfl (imp_RD rfl shut)
    by_cases g2 : 9 < a
    · skip
      (repeat (first | refine g ?_))
      refine s_call (awake6_spec q) ?_
      (repeat (first | refine g ?_))
      exact run_ret rfl (imp_RD rfl shut)
    by_cases g3 : sp < 0
    · skip
      (repeat (first | refine g ?_))
      refine s_call (awake6_spec q) ?_
      (repeat (first | refine g ?_))
      exact run_ret rfl (imp_RD rfl shut)
    have g4 : 79 < sp := by omega
    (repeat (first | refine g ?_))
    refine s_call (awake6_spec q) ?_
    (repeat (first | refine g ?_))
    exact run_ret rfl (imp_RD rfl shut)
  obtain ⟨h, hh⟩ : ∃ h : HeadT, h = { h0 with addr := a } := ⟨_, rfl⟩
  have hhk : HeadOk h := by
    subst hh
    obtain ⟨v0, v1, a0, a1, k0, k1, i0, i1, g0, g1, x0, x1, r0, r1, s0, s1⟩ := hh0
    exact ⟨v0, v1, by show _ ≤ a; omega, by show a ≤ _; omega, k0, k1, i0, i1, g0, g1, x0, x1, r0, r1, s0, s1⟩
  have hfld : encH h = [.int .i64 h0.vol, .int .i64 a, .int .i64 h0.kind, .int .i64 h0.ino, .int .i64 h0.gen, .int .i64 h0.index, .int .i64 h0.ver, .int .i64 h0.salt] := by rw [hh]; rfl
  have haddr : h.addr = a := by rw [hh]
  have cs := fun v => bseal_ideal q v s00 (s00_ok.mono (by decide)) h hhk X
  obtain ⟨⟨⟨ra, ea⟩, Sa⟩, hA⟩ : ∃ A, A = bsealF s00 h X := ⟨_, rfl⟩
  rw [← hA] at cs
  dsimp only at cs
  rw [hfld] at cs
  unfold encH
  (first | refine FnD.go Tryz.call5 Tryz.func5 rfl rfl rfl ?_ | refine FnX.go Tryz.call5 Tryz.func5 rfl rfl rfl ?_)
  (repeat (first | refine g ?_))
  refine s_box fun b4 => ?_
  (repeat (first | refine g ?_))
  refine s_callx (ideal_new q) fun v => ?_
  (repeat (first | refine g ?_))
  refine s_callx (new_spec q 80 (by decide)) fun b => ?_
  (repeat (first | refine g ?_))
  refine d_start [vaultAt v s00] ?_
  (first | refine d_pure 0 ?_ | refine d_load 0 ?_ | refine d_arith 0 ?_ | refine d_rem 0 ?_ | refine d_quo 0 ?_ | refine d_shrv 0 ?_ | refine d_fieldat 0 ?_ | refine d_idx1 0 ?_ | refine d_index 0 ?_ | refine d_conv64 0 ?_ | refine d_slices 0 ?_ | refine d_concat 0 ?_ | refine d_build 0 ?_)
  refine d_getall 1 rfl ?_
  (first | refine d_pure 2 ?_ | refine d_load 2 ?_ | refine d_arith 2 ?_ | refine d_rem 2 ?_ | refine d_quo 2 ?_ | refine d_shrv 2 ?_ | refine d_fieldat 2 ?_ | refine d_idx1 2 ?_ | refine d_index 2 ?_ | refine d_conv64 2 ?_ | refine d_slices 2 ?_ | refine d_concat 2 ?_ | refine d_build 2 ?_)
  refine d_call 3 cb ?_
  refine d_call 4 (cs v) ?_
  (first | refine d_pure 5 ?_ | refine d_load 5 ?_ | refine d_arith 5 ?_ | refine d_rem 5 ?_ | refine d_quo 5 ?_ | refine d_shrv 5 ?_ | refine d_fieldat 5 ?_ | refine d_idx1 5 ?_ | refine d_index 5 ?_ | refine d_conv64 5 ?_ | refine d_slices 5 ?_ | refine d_concat 5 ?_ | refine d_build 5 ?_)
  (first | refine d_pure 6 ?_ | refine d_load 6 ?_ | refine d_arith 6 ?_ | refine d_rem 6 ?_ | refine d_quo 6 ?_ | refine d_shrv 6 ?_ | refine d_fieldat 6 ?_ | refine d_idx1 6 ?_ | refine d_index 6 ?_ | refine d_conv64 6 ?_ | refine d_slices 6 ?_ | refine d_concat 6 ?_ | refine d_build 6 ?_)
  (first | refine d_pure 7 ?_ | refine d_load 7 ?_ | refine d_arith 7 ?_ | refine d_rem 7 ?_ | refine d_quo 7 ?_ | refine d_shrv 7 ?_ | refine d_fieldat 7 ?_ | refine d_idx1 7 ?_ | refine d_index 7 ?_ | refine d_conv64 7 ?_ | refine d_slices 7 ?_ | refine d_concat 7 ?_ | refine d_build 7 ?_)
  (first | refine d_pure 8 ?_ | refine d_load 8 ?_ | refine d_arith 8 ?_ | refine d_rem 8 ?_ | refine d_quo 8 ?_ | refine d_shrv 8 ?_ | refine d_fieldat 8 ?_ | refine d_idx1 8 ?_ | refine d_index 8 ?_ | refine d_conv64 8 ?_ | refine d_slices 8 ?_ | refine d_concat 8 ?_ | refine d_build 8 ?_)
  (first | refine d_pure 9 ?_ | refine d_load 9 ?_ | refine d_arith 9 ?_ | refine d_rem 9 ?_ | refine d_quo 9 ?_ | refine d_shrv 9 ?_ | refine d_fieldat 9 ?_ | refine d_idx1 9 ?_ | refine d_index 9 ?_ | refine d_conv64 9 ?_ | refine d_slices 9 ?_ | refine d_concat 9 ?_ | refine d_build 9 ?_)
  refine d_done ?_
  cases hok : (fldH h).all okN with
  | false =>
    rw [bsealF_no s00 h X hb hok] at hA
    obtain ⟨e1, rfl⟩ := Prod.mk.inj hA
    obtain ⟨rfl, rfl⟩ := Prod.mk.inj e1
    (repeat (first | refine g ?_))
    refine s_call (awake6_spec q) ?_
    (repeat (first | refine g ?_))
    exact run_ret rfl (imp_RD rfl shut)
  | true =>
    rw [bsealF_ok s00 h X hb hok] at hA
    obtain ⟨e1, e2⟩ := Prod.mk.inj hA
    obtain ⟨e3, rfl⟩ := Prod.mk.inj e1
    have hz := (blkB_parts h X (sealC s00 h X) hb).1
    have hS := sealS_ok s00_ok h X
    have tb := told_back h X hb hok
    have to_ := told_only h X hb hok
    rw [← e3] at hz
    rw [← e3, ← e2] at tb
    rw [← e2] at to_ hS
    rw [haddr] at tb to_
    clear e1 e2 e3 hA
    have ct1 := btold_ideal q v Sa (hS.mono (by decide)) ra a
    rw [tb] at ct1
    obtain ⟨z1, hR⟩ := put80 a (by omega) (by omega) ra hz
    have hR : Run5 a sp ra (bputF (blank 80) a ra).2 := ⟨hR.pw, hR.sec, hR.up, hR.here, hR.else_⟩
    have cp := bput_spec q hE b (blank 80) 0 (PW.blank 80 (by decide)) (by decide) a ra (by omega)
    rw [z1] at cp
    generalize (bputF (blank 80) a ra).2 = S1 at *
    have hs1 := hR.sec
    have cg1 := get_spec q hE b S1 hR.pw.wf hR.pw.s64 (by have := hR.pw.nr; omega) a
    rw [getF_raw S1 hR.up a (by omega) (by omega) ra hz hR.here] at cg1
    dsimp only at cg1
    have cl1 := bload_ok q b (.pointer (some ⟨v, 0, none⟩)) _ _ _ _ a ra _ cg1 ct1
    have hp2 := hR.pw.rds 8 (by omega)
    obtain ⟨T, hT, hg2⟩ := other_get hR (by omega) (by omega)
    have cg2 := get_spec q hE b (rds S1 8) hp2.wf hp2.s64 (by have := hp2.nr; omega) ((a + 1) % 10)
    rw [hg2] at cg2
    dsimp only at cg2
    have ct2 := btold_ideal q v Sa (hS.mono (by decide)) T ((a + 1) % 10)
    have to2 := to_ T hT ((a + 1) % 10) (by omega)
    obtain ⟨R2, hR2⟩ : ∃ R2, R2 = btoldF Sa T ((a + 1) % 10) := ⟨_, rfl⟩
    rw [← hR2] at ct2 to2
    have cl2 := bload_ok q b (.pointer (some ⟨v, 0, none⟩)) _ _ _ _ ((a + 1) % 10) T _ cg2 ct2
    have hp3 := hp2.rds 8 (by omega)
    have cf := flush_spec q b (rds (rds S1 8) 8) hp3.wf
    have csp := spoil_spec q b (flushF (rds (rds S1 8) 8)) hp3.flush.wf sp
    obtain ⟨hp5, f1, f2⟩ := S5_facts hR hz (by omega) (by omega) (by omega) (by omega)
    have cg3 := get_spec q hE b (S5 S1 sp) hp5.wf hp5.s64 (by have := hp5.nr; omega) a
    have hcs : (spoilF (flushF (rds (rds S1 8) 8)) sp).2 = S5 S1 sp := rfl
    rw [hcs] at csp
    generalize S5 S1 sp = SS at *
    have kh := head_lits 2 h hhk
    rw [hfld] at kh
    have kn : Tryz.prog.keyLits 4 51 (encR noR) = some (litsR noR) := read_lits 1 noR zeroH_ok (Nat.zero_le _)
    unfold encR at cl1 cl2
    rw [to2] at cl2
    rw [hfld] at cl1
    unfold encH at cl2
    by_cases hsa : sp / 8 = a
    · obtain ⟨T3, m3, hm3, e3⟩ := f2 hsa
      rw [e3] at cg3
      dsimp only at cg3
      have cl3 := bload_no q b (.pointer (some ⟨v, 0, none⟩)) (vaultAt v Sa) _ _ a m3 0 T3 (.inr hm3) cg3
      unfold encR encH noR zeroH at cl3 kn
      (repeat (first | refine g ?_))
      refine s_call cp ?_
      (repeat (first | refine g ?_))
      refine s_call cl1 ?_
      (repeat (first | refine g ?_))
      refine s_alloc fun r15 => ?_
      (repeat (first | refine g ?_))
      refine s_call cl2 ?_
      (repeat (first | refine g ?_))
      refine s_alloc fun r16 => ?_
      (repeat (first | refine g ?_))
      refine s_call cf ?_
      (repeat (first | refine g ?_))
      refine s_call csp ?_
      (repeat (first | refine g ?_))
      refine s_call cl3 ?_
      (repeat (first | refine g ?_))
      refine s_alloc fun r17 => ?_
      (repeat (first | refine g ?_))
      refine d_start [] ?_
      (first | refine d_pure 0 ?_ | refine d_load 0 ?_ | refine d_arith 0 ?_ | refine d_rem 0 ?_ | refine d_quo 0 ?_ | refine d_shrv 0 ?_ | refine d_fieldat 0 ?_ | refine d_idx1 0 ?_ | refine d_index 0 ?_ | refine d_conv64 0 ?_ | refine d_slices 0 ?_ | refine d_concat 0 ?_ | refine d_build 0 ?_)
      (first | refine d_pure 1 ?_ | refine d_load 1 ?_ | refine d_arith 1 ?_ | refine d_rem 1 ?_ | refine d_quo 1 ?_ | refine d_shrv 1 ?_ | refine d_fieldat 1 ?_ | refine d_idx1 1 ?_ | refine d_index 1 ?_ | refine d_conv64 1 ?_ | refine d_slices 1 ?_ | refine d_concat 1 ?_ | refine d_build 1 ?_)
      (first | refine d_pure 2 ?_ | refine d_load 2 ?_ | refine d_arith 2 ?_ | refine d_rem 2 ?_ | refine d_quo 2 ?_ | refine d_shrv 2 ?_ | refine d_fieldat 2 ?_ | refine d_idx1 2 ?_ | refine d_index 2 ?_ | refine d_conv64 2 ?_ | refine d_slices 2 ?_ | refine d_concat 2 ?_ | refine d_build 2 ?_)
      (first | refine d_pure 3 ?_ | refine d_load 3 ?_ | refine d_arith 3 ?_ | refine d_rem 3 ?_ | refine d_quo 3 ?_ | refine d_shrv 3 ?_ | refine d_fieldat 3 ?_ | refine d_idx1 3 ?_ | refine d_index 3 ?_ | refine d_conv64 3 ?_ | refine d_slices 3 ?_ | refine d_concat 3 ?_ | refine d_build 3 ?_)
      (first | refine d_pure 4 ?_ | refine d_load 4 ?_ | refine d_arith 4 ?_ | refine d_rem 4 ?_ | refine d_quo 4 ?_ | refine d_shrv 4 ?_ | refine d_fieldat 4 ?_ | refine d_idx1 4 ?_ | refine d_index 4 ?_ | refine d_conv64 4 ?_ | refine d_slices 4 ?_ | refine d_concat 4 ?_ | refine d_build 4 ?_)
      (first | refine d_pure 5 ?_ | refine d_load 5 ?_ | refine d_arith 5 ?_ | refine d_rem 5 ?_ | refine d_quo 5 ?_ | refine d_shrv 5 ?_ | refine d_fieldat 5 ?_ | refine d_idx1 5 ?_ | refine d_index 5 ?_ | refine d_conv64 5 ?_ | refine d_slices 5 ?_ | refine d_concat 5 ?_ | refine d_build 5 ?_)
      (first | refine d_pure 6 ?_ | refine d_load 6 ?_ | refine d_arith 6 ?_ | refine d_rem 6 ?_ | refine d_quo 6 ?_ | refine d_shrv 6 ?_ | refine d_fieldat 6 ?_ | refine d_idx1 6 ?_ | refine d_index 6 ?_ | refine d_conv64 6 ?_ | refine d_slices 6 ?_ | refine d_concat 6 ?_ | refine d_build 6 ?_)
      (first | refine d_pure 7 ?_ | refine d_load 7 ?_ | refine d_arith 7 ?_ | refine d_rem 7 ?_ | refine d_quo 7 ?_ | refine d_shrv 7 ?_ | refine d_fieldat 7 ?_ | refine d_idx1 7 ?_ | refine d_index 7 ?_ | refine d_conv64 7 ?_ | refine d_slices 7 ?_ | refine d_concat 7 ?_ | refine d_build 7 ?_)
      refine d_getpart 8 ?_
      refine d_getall 9 rfl ?_
      refine d_via1 10 (h1 := by refine s_eqk 6 4 true (la := litsH h) (lb := litsH h) ?_ ?_ (ka := kh) (kb := kh); (· simp); exact run_fin1) (h := ?_)
      (first | refine d_pure 11 ?_ | refine d_load 11 ?_ | refine d_arith 11 ?_ | refine d_rem 11 ?_ | refine d_quo 11 ?_ | refine d_shrv 11 ?_ | refine d_fieldat 11 ?_ | refine d_idx1 11 ?_ | refine d_index 11 ?_ | refine d_conv64 11 ?_ | refine d_slices 11 ?_ | refine d_concat 11 ?_ | refine d_build 11 ?_)
      (first | refine d_pure 12 ?_ | refine d_load 12 ?_ | refine d_arith 12 ?_ | refine d_rem 12 ?_ | refine d_quo 12 ?_ | refine d_shrv 12 ?_ | refine d_fieldat 12 ?_ | refine d_idx1 12 ?_ | refine d_index 12 ?_ | refine d_conv64 12 ?_ | refine d_slices 12 ?_ | refine d_concat 12 ?_ | refine d_build 12 ?_)
      (first | refine d_pure 13 ?_ | refine d_load 13 ?_ | refine d_arith 13 ?_ | refine d_rem 13 ?_ | refine d_quo 13 ?_ | refine d_shrv 13 ?_ | refine d_fieldat 13 ?_ | refine d_idx1 13 ?_ | refine d_index 13 ?_ | refine d_conv64 13 ?_ | refine d_slices 13 ?_ | refine d_concat 13 ?_ | refine d_build 13 ?_)
      (first | refine d_pure 14 ?_ | refine d_load 14 ?_ | refine d_arith 14 ?_ | refine d_rem 14 ?_ | refine d_quo 14 ?_ | refine d_shrv 14 ?_ | refine d_fieldat 14 ?_ | refine d_idx1 14 ?_ | refine d_index 14 ?_ | refine d_conv64 14 ?_ | refine d_slices 14 ?_ | refine d_concat 14 ?_ | refine d_build 14 ?_)
      (first | refine d_pure 15 ?_ | refine d_load 15 ?_ | refine d_arith 15 ?_ | refine d_rem 15 ?_ | refine d_quo 15 ?_ | refine d_shrv 15 ?_ | refine d_fieldat 15 ?_ | refine d_idx1 15 ?_ | refine d_index 15 ?_ | refine d_conv64 15 ?_ | refine d_slices 15 ?_ | refine d_concat 15 ?_ | refine d_build 15 ?_)
      refine d_call 16 cb ?_
      (refine d_pure 17 ?_); refine d_is 103 (c := true) (decide_eq_true (p := X = X) rfl) ?_
      (first | refine d_pure 18 ?_ | refine d_load 18 ?_ | refine d_arith 18 ?_ | refine d_rem 18 ?_ | refine d_quo 18 ?_ | refine d_shrv 18 ?_ | refine d_fieldat 18 ?_ | refine d_idx1 18 ?_ | refine d_index 18 ?_ | refine d_conv64 18 ?_ | refine d_slices 18 ?_ | refine d_concat 18 ?_ | refine d_build 18 ?_)
      (first | refine d_pure 19 ?_ | refine d_load 19 ?_ | refine d_arith 19 ?_ | refine d_rem 19 ?_ | refine d_quo 19 ?_ | refine d_shrv 19 ?_ | refine d_fieldat 19 ?_ | refine d_idx1 19 ?_ | refine d_index 19 ?_ | refine d_conv64 19 ?_ | refine d_slices 19 ?_ | refine d_concat 19 ?_ | refine d_build 19 ?_)
      (first | refine d_pure 20 ?_ | refine d_load 20 ?_ | refine d_arith 20 ?_ | refine d_rem 20 ?_ | refine d_quo 20 ?_ | refine d_shrv 20 ?_ | refine d_fieldat 20 ?_ | refine d_idx1 20 ?_ | refine d_index 20 ?_ | refine d_conv64 20 ?_ | refine d_slices 20 ?_ | refine d_concat 20 ?_ | refine d_build 20 ?_)
      (first | refine d_pure 21 ?_ | refine d_load 21 ?_ | refine d_arith 21 ?_ | refine d_rem 21 ?_ | refine d_quo 21 ?_ | refine d_shrv 21 ?_ | refine d_fieldat 21 ?_ | refine d_idx1 21 ?_ | refine d_index 21 ?_ | refine d_conv64 21 ?_ | refine d_slices 21 ?_ | refine d_concat 21 ?_ | refine d_build 21 ?_)
      (first | refine d_pure 22 ?_ | refine d_load 22 ?_ | refine d_arith 22 ?_ | refine d_rem 22 ?_ | refine d_quo 22 ?_ | refine d_shrv 22 ?_ | refine d_fieldat 22 ?_ | refine d_idx1 22 ?_ | refine d_index 22 ?_ | refine d_conv64 22 ?_ | refine d_slices 22 ?_ | refine d_concat 22 ?_ | refine d_build 22 ?_)
      (first | refine d_pure 23 ?_ | refine d_load 23 ?_ | refine d_arith 23 ?_ | refine d_rem 23 ?_ | refine d_quo 23 ?_ | refine d_shrv 23 ?_ | refine d_fieldat 23 ?_ | refine d_idx1 23 ?_ | refine d_index 23 ?_ | refine d_conv64 23 ?_ | refine d_slices 23 ?_ | refine d_concat 23 ?_ | refine d_build 23 ?_)
      (first | refine d_pure 24 ?_ | refine d_load 24 ?_ | refine d_arith 24 ?_ | refine d_rem 24 ?_ | refine d_quo 24 ?_ | refine d_shrv 24 ?_ | refine d_fieldat 24 ?_ | refine d_idx1 24 ?_ | refine d_index 24 ?_ | refine d_conv64 24 ?_ | refine d_slices 24 ?_ | refine d_concat 24 ?_ | refine d_build 24 ?_)
      (first | refine d_pure 25 ?_ | refine d_load 25 ?_ | refine d_arith 25 ?_ | refine d_rem 25 ?_ | refine d_quo 25 ?_ | refine d_shrv 25 ?_ | refine d_fieldat 25 ?_ | refine d_idx1 25 ?_ | refine d_index 25 ?_ | refine d_conv64 25 ?_ | refine d_slices 25 ?_ | refine d_concat 25 ?_ | refine d_build 25 ?_)
      (first | refine d_pure 26 ?_ | refine d_load 26 ?_ | refine d_arith 26 ?_ | refine d_rem 26 ?_ | refine d_quo 26 ?_ | refine d_shrv 26 ?_ | refine d_fieldat 26 ?_ | refine d_idx1 26 ?_ | refine d_index 26 ?_ | refine d_conv64 26 ?_ | refine d_slices 26 ?_ | refine d_concat 26 ?_ | refine d_build 26 ?_)
      (first | refine d_pure 27 ?_ | refine d_load 27 ?_ | refine d_arith 27 ?_ | refine d_rem 27 ?_ | refine d_quo 27 ?_ | refine d_shrv 27 ?_ | refine d_fieldat 27 ?_ | refine d_idx1 27 ?_ | refine d_index 27 ?_ | refine d_conv64 27 ?_ | refine d_slices 27 ?_ | refine d_concat 27 ?_ | refine d_build 27 ?_)
      (first | refine d_pure 28 ?_ | refine d_load 28 ?_ | refine d_arith 28 ?_ | refine d_rem 28 ?_ | refine d_quo 28 ?_ | refine d_shrv 28 ?_ | refine d_fieldat 28 ?_ | refine d_idx1 28 ?_ | refine d_index 28 ?_ | refine d_conv64 28 ?_ | refine d_slices 28 ?_ | refine d_concat 28 ?_ | refine d_build 28 ?_)
      (first | refine d_pure 29 ?_ | refine d_load 29 ?_ | refine d_arith 29 ?_ | refine d_rem 29 ?_ | refine d_quo 29 ?_ | refine d_shrv 29 ?_ | refine d_fieldat 29 ?_ | refine d_idx1 29 ?_ | refine d_index 29 ?_ | refine d_conv64 29 ?_ | refine d_slices 29 ?_ | refine d_concat 29 ?_ | refine d_build 29 ?_)
      (first | refine d_pure 30 ?_ | refine d_load 30 ?_ | refine d_arith 30 ?_ | refine d_rem 30 ?_ | refine d_quo 30 ?_ | refine d_shrv 30 ?_ | refine d_fieldat 30 ?_ | refine d_idx1 30 ?_ | refine d_index 30 ?_ | refine d_conv64 30 ?_ | refine d_slices 30 ?_ | refine d_concat 30 ?_ | refine d_build 30 ?_)
      (refine d_pure 31 ?_); refine d_is 117 (b := (false == decide (sp / 8 ≠ a))) (c := true) (by rw [decide_eq_false (fun h => h hsa)]; rfl) ?_
      (first | refine d_pure 32 ?_ | refine d_load 32 ?_ | refine d_arith 32 ?_ | refine d_rem 32 ?_ | refine d_quo 32 ?_ | refine d_shrv 32 ?_ | refine d_fieldat 32 ?_ | refine d_idx1 32 ?_ | refine d_index 32 ?_ | refine d_conv64 32 ?_ | refine d_slices 32 ?_ | refine d_concat 32 ?_ | refine d_build 32 ?_)
      (first | refine d_pure 33 ?_ | refine d_load 33 ?_ | refine d_arith 33 ?_ | refine d_rem 33 ?_ | refine d_quo 33 ?_ | refine d_shrv 33 ?_ | refine d_fieldat 33 ?_ | refine d_idx1 33 ?_ | refine d_index 33 ?_ | refine d_conv64 33 ?_ | refine d_slices 33 ?_ | refine d_concat 33 ?_ | refine d_build 33 ?_)
      (first | refine d_pure 34 ?_ | refine d_load 34 ?_ | refine d_arith 34 ?_ | refine d_rem 34 ?_ | refine d_quo 34 ?_ | refine d_shrv 34 ?_ | refine d_fieldat 34 ?_ | refine d_idx1 34 ?_ | refine d_index 34 ?_ | refine d_conv64 34 ?_ | refine d_slices 34 ?_ | refine d_concat 34 ?_ | refine d_build 34 ?_)
      (first | refine d_pure 35 ?_ | refine d_load 35 ?_ | refine d_arith 35 ?_ | refine d_rem 35 ?_ | refine d_quo 35 ?_ | refine d_shrv 35 ?_ | refine d_fieldat 35 ?_ | refine d_idx1 35 ?_ | refine d_index 35 ?_ | refine d_conv64 35 ?_ | refine d_slices 35 ?_ | refine d_concat 35 ?_ | refine d_build 35 ?_)
      (first | refine d_pure 36 ?_ | refine d_load 36 ?_ | refine d_arith 36 ?_ | refine d_rem 36 ?_ | refine d_quo 36 ?_ | refine d_shrv 36 ?_ | refine d_fieldat 36 ?_ | refine d_idx1 36 ?_ | refine d_index 36 ?_ | refine d_conv64 36 ?_ | refine d_slices 36 ?_ | refine d_concat 36 ?_ | refine d_build 36 ?_)
      refine d_getall 37 rfl ?_
      (first | refine d_pure 38 ?_ | refine d_load 38 ?_ | refine d_arith 38 ?_ | refine d_rem 38 ?_ | refine d_quo 38 ?_ | refine d_shrv 38 ?_ | refine d_fieldat 38 ?_ | refine d_idx1 38 ?_ | refine d_index 38 ?_ | refine d_conv64 38 ?_ | refine d_slices 38 ?_ | refine d_concat 38 ?_ | refine d_build 38 ?_)
      refine d_via1 39 (h1 := by refine s_eqk 6 4 true (la := litsR noR) (lb := litsR noR) ?_ ?_ (ka := kn) (kb := kn); (· simp); exact run_fin1) (h := ?_)
      (first | refine d_pure 40 ?_ | refine d_load 40 ?_ | refine d_arith 40 ?_ | refine d_rem 40 ?_ | refine d_quo 40 ?_ | refine d_shrv 40 ?_ | refine d_fieldat 40 ?_ | refine d_idx1 40 ?_ | refine d_index 40 ?_ | refine d_conv64 40 ?_ | refine d_slices 40 ?_ | refine d_concat 40 ?_ | refine d_build 40 ?_)
      (first | refine d_pure 41 ?_ | refine d_load 41 ?_ | refine d_arith 41 ?_ | refine d_rem 41 ?_ | refine d_quo 41 ?_ | refine d_shrv 41 ?_ | refine d_fieldat 41 ?_ | refine d_idx1 41 ?_ | refine d_index 41 ?_ | refine d_conv64 41 ?_ | refine d_slices 41 ?_ | refine d_concat 41 ?_ | refine d_build 41 ?_)
      (first | refine d_pure 42 ?_ | refine d_load 42 ?_ | refine d_arith 42 ?_ | refine d_rem 42 ?_ | refine d_quo 42 ?_ | refine d_shrv 42 ?_ | refine d_fieldat 42 ?_ | refine d_idx1 42 ?_ | refine d_index 42 ?_ | refine d_conv64 42 ?_ | refine d_slices 42 ?_ | refine d_concat 42 ?_ | refine d_build 42 ?_)
      refine d_call 43 ca ?_
      (first | refine d_pure 44 ?_ | refine d_load 44 ?_ | refine d_arith 44 ?_ | refine d_rem 44 ?_ | refine d_quo 44 ?_ | refine d_shrv 44 ?_ | refine d_fieldat 44 ?_ | refine d_idx1 44 ?_ | refine d_index 44 ?_ | refine d_conv64 44 ?_ | refine d_slices 44 ?_ | refine d_concat 44 ?_ | refine d_build 44 ?_)
      (first | refine d_pure 45 ?_ | refine d_load 45 ?_ | refine d_arith 45 ?_ | refine d_rem 45 ?_ | refine d_quo 45 ?_ | refine d_shrv 45 ?_ | refine d_fieldat 45 ?_ | refine d_idx1 45 ?_ | refine d_index 45 ?_ | refine d_conv64 45 ?_ | refine d_slices 45 ?_ | refine d_concat 45 ?_ | refine d_build 45 ?_)
      refine d_done ?_
      (repeat (first | refine g ?_))
      exact run_ret rfl (imp_RD rfl shut)
    · have e3 := f1 hsa
      rw [e3] at cg3
      dsimp only at cg3
      have cl3 := bload_ok q b (.pointer (some ⟨v, 0, none⟩)) _ _ _ _ a ra _ cg3 ct1
      unfold encR at cl3
      rw [hfld] at cl3
      (repeat (first | refine g ?_))
      refine s_call cp ?_
      (repeat (first | refine g ?_))
      refine s_call cl1 ?_
      (repeat (first | refine g ?_))
      refine s_alloc fun r15 => ?_
      (repeat (first | refine g ?_))
      refine s_call cl2 ?_
      (repeat (first | refine g ?_))
      refine s_alloc fun r16 => ?_
      (repeat (first | refine g ?_))
      refine s_call cf ?_
      (repeat (first | refine g ?_))
      refine s_call csp ?_
      (repeat (first | refine g ?_))
      refine s_call cl3 ?_
      (repeat (first | refine g ?_))
      refine s_alloc fun r17 => ?_
      (repeat (first | refine g ?_))
      refine d_start [] ?_
      (first | refine d_pure 0 ?_ | refine d_load 0 ?_ | refine d_arith 0 ?_ | refine d_rem 0 ?_ | refine d_quo 0 ?_ | refine d_shrv 0 ?_ | refine d_fieldat 0 ?_ | refine d_idx1 0 ?_ | refine d_index 0 ?_ | refine d_conv64 0 ?_ | refine d_slices 0 ?_ | refine d_concat 0 ?_ | refine d_build 0 ?_)
      (first | refine d_pure 1 ?_ | refine d_load 1 ?_ | refine d_arith 1 ?_ | refine d_rem 1 ?_ | refine d_quo 1 ?_ | refine d_shrv 1 ?_ | refine d_fieldat 1 ?_ | refine d_idx1 1 ?_ | refine d_index 1 ?_ | refine d_conv64 1 ?_ | refine d_slices 1 ?_ | refine d_concat 1 ?_ | refine d_build 1 ?_)
      (first | refine d_pure 2 ?_ | refine d_load 2 ?_ | refine d_arith 2 ?_ | refine d_rem 2 ?_ | refine d_quo 2 ?_ | refine d_shrv 2 ?_ | refine d_fieldat 2 ?_ | refine d_idx1 2 ?_ | refine d_index 2 ?_ | refine d_conv64 2 ?_ | refine d_slices 2 ?_ | refine d_concat 2 ?_ | refine d_build 2 ?_)
      (first | refine d_pure 3 ?_ | refine d_load 3 ?_ | refine d_arith 3 ?_ | refine d_rem 3 ?_ | refine d_quo 3 ?_ | refine d_shrv 3 ?_ | refine d_fieldat 3 ?_ | refine d_idx1 3 ?_ | refine d_index 3 ?_ | refine d_conv64 3 ?_ | refine d_slices 3 ?_ | refine d_concat 3 ?_ | refine d_build 3 ?_)
      (first | refine d_pure 4 ?_ | refine d_load 4 ?_ | refine d_arith 4 ?_ | refine d_rem 4 ?_ | refine d_quo 4 ?_ | refine d_shrv 4 ?_ | refine d_fieldat 4 ?_ | refine d_idx1 4 ?_ | refine d_index 4 ?_ | refine d_conv64 4 ?_ | refine d_slices 4 ?_ | refine d_concat 4 ?_ | refine d_build 4 ?_)
      (first | refine d_pure 5 ?_ | refine d_load 5 ?_ | refine d_arith 5 ?_ | refine d_rem 5 ?_ | refine d_quo 5 ?_ | refine d_shrv 5 ?_ | refine d_fieldat 5 ?_ | refine d_idx1 5 ?_ | refine d_index 5 ?_ | refine d_conv64 5 ?_ | refine d_slices 5 ?_ | refine d_concat 5 ?_ | refine d_build 5 ?_)
      (first | refine d_pure 6 ?_ | refine d_load 6 ?_ | refine d_arith 6 ?_ | refine d_rem 6 ?_ | refine d_quo 6 ?_ | refine d_shrv 6 ?_ | refine d_fieldat 6 ?_ | refine d_idx1 6 ?_ | refine d_index 6 ?_ | refine d_conv64 6 ?_ | refine d_slices 6 ?_ | refine d_concat 6 ?_ | refine d_build 6 ?_)
      (first | refine d_pure 7 ?_ | refine d_load 7 ?_ | refine d_arith 7 ?_ | refine d_rem 7 ?_ | refine d_quo 7 ?_ | refine d_shrv 7 ?_ | refine d_fieldat 7 ?_ | refine d_idx1 7 ?_ | refine d_index 7 ?_ | refine d_conv64 7 ?_ | refine d_slices 7 ?_ | refine d_concat 7 ?_ | refine d_build 7 ?_)
      refine d_getpart 8 ?_
      refine d_getall 9 rfl ?_
      refine d_via1 10 (h1 := by refine s_eqk 6 4 true (la := litsH h) (lb := litsH h) ?_ ?_ (ka := kh) (kb := kh); (· simp); exact run_fin1) (h := ?_)
      (first | refine d_pure 11 ?_ | refine d_load 11 ?_ | refine d_arith 11 ?_ | refine d_rem 11 ?_ | refine d_quo 11 ?_ | refine d_shrv 11 ?_ | refine d_fieldat 11 ?_ | refine d_idx1 11 ?_ | refine d_index 11 ?_ | refine d_conv64 11 ?_ | refine d_slices 11 ?_ | refine d_concat 11 ?_ | refine d_build 11 ?_)
      (first | refine d_pure 12 ?_ | refine d_load 12 ?_ | refine d_arith 12 ?_ | refine d_rem 12 ?_ | refine d_quo 12 ?_ | refine d_shrv 12 ?_ | refine d_fieldat 12 ?_ | refine d_idx1 12 ?_ | refine d_index 12 ?_ | refine d_conv64 12 ?_ | refine d_slices 12 ?_ | refine d_concat 12 ?_ | refine d_build 12 ?_)
      (first | refine d_pure 13 ?_ | refine d_load 13 ?_ | refine d_arith 13 ?_ | refine d_rem 13 ?_ | refine d_quo 13 ?_ | refine d_shrv 13 ?_ | refine d_fieldat 13 ?_ | refine d_idx1 13 ?_ | refine d_index 13 ?_ | refine d_conv64 13 ?_ | refine d_slices 13 ?_ | refine d_concat 13 ?_ | refine d_build 13 ?_)
      (first | refine d_pure 14 ?_ | refine d_load 14 ?_ | refine d_arith 14 ?_ | refine d_rem 14 ?_ | refine d_quo 14 ?_ | refine d_shrv 14 ?_ | refine d_fieldat 14 ?_ | refine d_idx1 14 ?_ | refine d_index 14 ?_ | refine d_conv64 14 ?_ | refine d_slices 14 ?_ | refine d_concat 14 ?_ | refine d_build 14 ?_)
      (first | refine d_pure 15 ?_ | refine d_load 15 ?_ | refine d_arith 15 ?_ | refine d_rem 15 ?_ | refine d_quo 15 ?_ | refine d_shrv 15 ?_ | refine d_fieldat 15 ?_ | refine d_idx1 15 ?_ | refine d_index 15 ?_ | refine d_conv64 15 ?_ | refine d_slices 15 ?_ | refine d_concat 15 ?_ | refine d_build 15 ?_)
      refine d_call 16 cb ?_
      (refine d_pure 17 ?_); refine d_is 103 (c := true) (decide_eq_true (p := X = X) rfl) ?_
      (first | refine d_pure 18 ?_ | refine d_load 18 ?_ | refine d_arith 18 ?_ | refine d_rem 18 ?_ | refine d_quo 18 ?_ | refine d_shrv 18 ?_ | refine d_fieldat 18 ?_ | refine d_idx1 18 ?_ | refine d_index 18 ?_ | refine d_conv64 18 ?_ | refine d_slices 18 ?_ | refine d_concat 18 ?_ | refine d_build 18 ?_)
      (first | refine d_pure 19 ?_ | refine d_load 19 ?_ | refine d_arith 19 ?_ | refine d_rem 19 ?_ | refine d_quo 19 ?_ | refine d_shrv 19 ?_ | refine d_fieldat 19 ?_ | refine d_idx1 19 ?_ | refine d_index 19 ?_ | refine d_conv64 19 ?_ | refine d_slices 19 ?_ | refine d_concat 19 ?_ | refine d_build 19 ?_)
      (first | refine d_pure 20 ?_ | refine d_load 20 ?_ | refine d_arith 20 ?_ | refine d_rem 20 ?_ | refine d_quo 20 ?_ | refine d_shrv 20 ?_ | refine d_fieldat 20 ?_ | refine d_idx1 20 ?_ | refine d_index 20 ?_ | refine d_conv64 20 ?_ | refine d_slices 20 ?_ | refine d_concat 20 ?_ | refine d_build 20 ?_)
      (first | refine d_pure 21 ?_ | refine d_load 21 ?_ | refine d_arith 21 ?_ | refine d_rem 21 ?_ | refine d_quo 21 ?_ | refine d_shrv 21 ?_ | refine d_fieldat 21 ?_ | refine d_idx1 21 ?_ | refine d_index 21 ?_ | refine d_conv64 21 ?_ | refine d_slices 21 ?_ | refine d_concat 21 ?_ | refine d_build 21 ?_)
      (first | refine d_pure 22 ?_ | refine d_load 22 ?_ | refine d_arith 22 ?_ | refine d_rem 22 ?_ | refine d_quo 22 ?_ | refine d_shrv 22 ?_ | refine d_fieldat 22 ?_ | refine d_idx1 22 ?_ | refine d_index 22 ?_ | refine d_conv64 22 ?_ | refine d_slices 22 ?_ | refine d_concat 22 ?_ | refine d_build 22 ?_)
      (first | refine d_pure 23 ?_ | refine d_load 23 ?_ | refine d_arith 23 ?_ | refine d_rem 23 ?_ | refine d_quo 23 ?_ | refine d_shrv 23 ?_ | refine d_fieldat 23 ?_ | refine d_idx1 23 ?_ | refine d_index 23 ?_ | refine d_conv64 23 ?_ | refine d_slices 23 ?_ | refine d_concat 23 ?_ | refine d_build 23 ?_)
      (first | refine d_pure 24 ?_ | refine d_load 24 ?_ | refine d_arith 24 ?_ | refine d_rem 24 ?_ | refine d_quo 24 ?_ | refine d_shrv 24 ?_ | refine d_fieldat 24 ?_ | refine d_idx1 24 ?_ | refine d_index 24 ?_ | refine d_conv64 24 ?_ | refine d_slices 24 ?_ | refine d_concat 24 ?_ | refine d_build 24 ?_)
      (first | refine d_pure 25 ?_ | refine d_load 25 ?_ | refine d_arith 25 ?_ | refine d_rem 25 ?_ | refine d_quo 25 ?_ | refine d_shrv 25 ?_ | refine d_fieldat 25 ?_ | refine d_idx1 25 ?_ | refine d_index 25 ?_ | refine d_conv64 25 ?_ | refine d_slices 25 ?_ | refine d_concat 25 ?_ | refine d_build 25 ?_)
      (first | refine d_pure 26 ?_ | refine d_load 26 ?_ | refine d_arith 26 ?_ | refine d_rem 26 ?_ | refine d_quo 26 ?_ | refine d_shrv 26 ?_ | refine d_fieldat 26 ?_ | refine d_idx1 26 ?_ | refine d_index 26 ?_ | refine d_conv64 26 ?_ | refine d_slices 26 ?_ | refine d_concat 26 ?_ | refine d_build 26 ?_)
      (first | refine d_pure 27 ?_ | refine d_load 27 ?_ | refine d_arith 27 ?_ | refine d_rem 27 ?_ | refine d_quo 27 ?_ | refine d_shrv 27 ?_ | refine d_fieldat 27 ?_ | refine d_idx1 27 ?_ | refine d_index 27 ?_ | refine d_conv64 27 ?_ | refine d_slices 27 ?_ | refine d_concat 27 ?_ | refine d_build 27 ?_)
      (first | refine d_pure 28 ?_ | refine d_load 28 ?_ | refine d_arith 28 ?_ | refine d_rem 28 ?_ | refine d_quo 28 ?_ | refine d_shrv 28 ?_ | refine d_fieldat 28 ?_ | refine d_idx1 28 ?_ | refine d_index 28 ?_ | refine d_conv64 28 ?_ | refine d_slices 28 ?_ | refine d_concat 28 ?_ | refine d_build 28 ?_)
      (first | refine d_pure 29 ?_ | refine d_load 29 ?_ | refine d_arith 29 ?_ | refine d_rem 29 ?_ | refine d_quo 29 ?_ | refine d_shrv 29 ?_ | refine d_fieldat 29 ?_ | refine d_idx1 29 ?_ | refine d_index 29 ?_ | refine d_conv64 29 ?_ | refine d_slices 29 ?_ | refine d_concat 29 ?_ | refine d_build 29 ?_)
      (first | refine d_pure 30 ?_ | refine d_load 30 ?_ | refine d_arith 30 ?_ | refine d_rem 30 ?_ | refine d_quo 30 ?_ | refine d_shrv 30 ?_ | refine d_fieldat 30 ?_ | refine d_idx1 30 ?_ | refine d_index 30 ?_ | refine d_conv64 30 ?_ | refine d_slices 30 ?_ | refine d_concat 30 ?_ | refine d_build 30 ?_)
      (refine d_pure 31 ?_); refine d_is 117 (b := (true == decide (sp / 8 ≠ a))) (c := true) (by rw [decide_eq_true hsa]; rfl) ?_
      (first | refine d_pure 32 ?_ | refine d_load 32 ?_ | refine d_arith 32 ?_ | refine d_rem 32 ?_ | refine d_quo 32 ?_ | refine d_shrv 32 ?_ | refine d_fieldat 32 ?_ | refine d_idx1 32 ?_ | refine d_index 32 ?_ | refine d_conv64 32 ?_ | refine d_slices 32 ?_ | refine d_concat 32 ?_ | refine d_build 32 ?_)
      (first | refine d_pure 33 ?_ | refine d_load 33 ?_ | refine d_arith 33 ?_ | refine d_rem 33 ?_ | refine d_quo 33 ?_ | refine d_shrv 33 ?_ | refine d_fieldat 33 ?_ | refine d_idx1 33 ?_ | refine d_index 33 ?_ | refine d_conv64 33 ?_ | refine d_slices 33 ?_ | refine d_concat 33 ?_ | refine d_build 33 ?_)
      (first | refine d_pure 34 ?_ | refine d_load 34 ?_ | refine d_arith 34 ?_ | refine d_rem 34 ?_ | refine d_quo 34 ?_ | refine d_shrv 34 ?_ | refine d_fieldat 34 ?_ | refine d_idx1 34 ?_ | refine d_index 34 ?_ | refine d_conv64 34 ?_ | refine d_slices 34 ?_ | refine d_concat 34 ?_ | refine d_build 34 ?_)
      (first | refine d_pure 35 ?_ | refine d_load 35 ?_ | refine d_arith 35 ?_ | refine d_rem 35 ?_ | refine d_quo 35 ?_ | refine d_shrv 35 ?_ | refine d_fieldat 35 ?_ | refine d_idx1 35 ?_ | refine d_index 35 ?_ | refine d_conv64 35 ?_ | refine d_slices 35 ?_ | refine d_concat 35 ?_ | refine d_build 35 ?_)
      (first | refine d_pure 36 ?_ | refine d_load 36 ?_ | refine d_arith 36 ?_ | refine d_rem 36 ?_ | refine d_quo 36 ?_ | refine d_shrv 36 ?_ | refine d_fieldat 36 ?_ | refine d_idx1 36 ?_ | refine d_index 36 ?_ | refine d_conv64 36 ?_ | refine d_slices 36 ?_ | refine d_concat 36 ?_ | refine d_build 36 ?_)
      refine d_two 37 38 (o_skip 37 (by exact rfl) (by exact rfl) (by exact rfl) (d_skip 38 ?_)) (o_skip 38 (by exact rfl) (by exact rfl) (by exact rfl) (d_skip 37 ?_))
      skip
      skip
      skip
      skip
      skip
      skip
      skip
      skip
      all_goals (refine d_skip 39 ?_; refine d_pure 40 ?_; refine d_pure 41 ?_; refine d_pure 42 ?_; refine d_call 43 ca ?_; refine d_pure 44 ?_; refine d_pure 45 ?_; refine d_done ?_)
      all_goals ((repeat (first | refine g ?_)); exact run_ret rfl (imp_RD rfl shut))
end Go.Proofs.YtajndpddlpnbkaaGreatDoor.V
/- BlockNobody. -/
namespace Go.Proofs.YtajndpddlpnbkaaGreatDoor.V
open Go.Proofs.YtajndpddlpnbkaaGreatDoor.VL Go.Proofs.YtajndpddlpnbkaaGreatDoor.VL.RD Go.Proofs.YtajndpddlpnbkaaGreatDoor.VL.Sha
attribute [local irreducible] Run numB
theorem vnone_nil (q : View) : FnD Tryz.prog q 60 [.pointer none] [] (.bool true) [] := by
  (first | refine FnD.go Tryz.call60 Tryz.func60 rfl rfl rfl ?_ | refine FnX.go Tryz.call60 Tryz.func60 rfl rfl rfl ?_)
  (repeat (first | refine g ?_))
  exact run_ret rfl (imp_RD rfl shut)
theorem vseal_nil (q : View) (n : Int) (no ad t : ByteArray) : FnD Tryz.prog q 46 [.pointer none, .int .i64 n, .string no, .string ad, .string t] [] (.tuple #[.string ⟨#[]⟩, .int .i64 1]) [] := by
  (first | refine FnD.go Tryz.call46 Tryz.func46 rfl rfl rfl ?_ | refine FnX.go Tryz.call46 Tryz.func46 rfl rfl rfl ?_)
  (repeat (first | refine g ?_))
  refine s_call (vnone_nil q) ?_
  (repeat (first | refine g ?_))
  exact run_ret rfl (imp_RD rfl shut)
theorem zeroH_fld : (fldH zeroH).all okN = true := by decide
theorem bseal_nilV (q : View) (X : ByteArray) (hX : X.size = 448) : FnD Tryz.prog q 19 [.pointer none, .agg ⟨encH zeroH⟩, .string X] [] (.tuple #[.string ⟨#[]⟩, .int .i64 1]) [] := by
  have ch := head_spec q zeroH zeroH_ok
  unfold headF at ch
  rw [if_pos zeroH_fld] at ch
  have cn := nonce_spec q zeroH (ok_nonce zeroH_fld).1 (ok_nonce zeroH_fld).2 (by decide) (by decide)
  have hc := vseal_nil q zeroH.salt (nonceB zeroH) (bl (headL zeroH)) X
  obtain ⟨H, hH⟩ : ∃ H, H = bl (headL zeroH) := ⟨_, rfl⟩
  obtain ⟨N, hN⟩ : ∃ N, N = nonceB zeroH := ⟨_, rfl⟩
  rw [← hH] at ch hc
  rw [← hN] at cn hc
  obtain ⟨z, hz⟩ : ∃ z, z = zeroH := ⟨_, rfl⟩
  rw [← hz] at ch cn hc ⊢
  dsimp only at ch
  unfold encH at cn ch ⊢
  (first | refine FnD.go Tryz.call19 Tryz.func19 rfl rfl rfl ?_ | refine FnX.go Tryz.call19 Tryz.func19 rfl rfl rfl ?_)
  (repeat (first | refine g ?_))
  refine s_box fun b => ?_
  (repeat (first | refine g ?_))
  refine s_call ch ?_
  (repeat (first | refine g ?_))
  refine d_start [] ?_
  (first | refine d_pure 0 ?_ | refine d_load 0 ?_ | refine d_arith 0 ?_ | refine d_rem 0 ?_ | refine d_quo 0 ?_ | refine d_shrv 0 ?_ | refine d_fieldat 0 ?_ | refine d_idx1 0 ?_ | refine d_index 0 ?_ | refine d_conv64 0 ?_ | refine d_slices 0 ?_ | refine d_concat 0 ?_ | refine d_build 0 ?_)
  (first | refine d_pure 1 ?_ | refine d_load 1 ?_ | refine d_arith 1 ?_ | refine d_rem 1 ?_ | refine d_quo 1 ?_ | refine d_shrv 1 ?_ | refine d_fieldat 1 ?_ | refine d_idx1 1 ?_ | refine d_index 1 ?_ | refine d_conv64 1 ?_ | refine d_slices 1 ?_ | refine d_concat 1 ?_ | refine d_build 1 ?_)
  (first | refine d_pure 2 ?_ | refine d_load 2 ?_ | refine d_arith 2 ?_ | refine d_rem 2 ?_ | refine d_quo 2 ?_ | refine d_shrv 2 ?_ | refine d_fieldat 2 ?_ | refine d_idx1 2 ?_ | refine d_index 2 ?_ | refine d_conv64 2 ?_ | refine d_slices 2 ?_ | refine d_concat 2 ?_ | refine d_build 2 ?_)
  refine d_getall 3 rfl ?_
  (first | refine d_pure 5 ?_ | refine d_load 5 ?_ | refine d_arith 5 ?_ | refine d_rem 5 ?_ | refine d_quo 5 ?_ | refine d_shrv 5 ?_ | refine d_fieldat 5 ?_ | refine d_idx1 5 ?_ | refine d_index 5 ?_ | refine d_conv64 5 ?_ | refine d_slices 5 ?_ | refine d_concat 5 ?_ | refine d_build 5 ?_)
  (first | refine d_pure 6 ?_ | refine d_load 6 ?_ | refine d_arith 6 ?_ | refine d_rem 6 ?_ | refine d_quo 6 ?_ | refine d_shrv 6 ?_ | refine d_fieldat 6 ?_ | refine d_idx1 6 ?_ | refine d_index 6 ?_ | refine d_conv64 6 ?_ | refine d_slices 6 ?_ | refine d_concat 6 ?_ | refine d_build 6 ?_)
  refine d_call 4 cn ?_
  refine d_call 7 hc ?_
  (first | refine d_pure 8 ?_ | refine d_load 8 ?_ | refine d_arith 8 ?_ | refine d_rem 8 ?_ | refine d_quo 8 ?_ | refine d_shrv 8 ?_ | refine d_fieldat 8 ?_ | refine d_idx1 8 ?_ | refine d_index 8 ?_ | refine d_conv64 8 ?_ | refine d_slices 8 ?_ | refine d_concat 8 ?_ | refine d_build 8 ?_)
  (first | refine d_pure 9 ?_ | refine d_load 9 ?_ | refine d_arith 9 ?_ | refine d_rem 9 ?_ | refine d_quo 9 ?_ | refine d_shrv 9 ?_ | refine d_fieldat 9 ?_ | refine d_idx1 9 ?_ | refine d_index 9 ?_ | refine d_conv64 9 ?_ | refine d_slices 9 ?_ | refine d_concat 9 ?_ | refine d_build 9 ?_)
  (first | refine d_pure 10 ?_ | refine d_load 10 ?_ | refine d_arith 10 ?_ | refine d_rem 10 ?_ | refine d_quo 10 ?_ | refine d_shrv 10 ?_ | refine d_fieldat 10 ?_ | refine d_idx1 10 ?_ | refine d_index 10 ?_ | refine d_conv64 10 ?_ | refine d_slices 10 ?_ | refine d_concat 10 ?_ | refine d_build 10 ?_)
  (first | refine d_pure 11 ?_ | refine d_load 11 ?_ | refine d_arith 11 ?_ | refine d_rem 11 ?_ | refine d_quo 11 ?_ | refine d_shrv 11 ?_ | refine d_fieldat 11 ?_ | refine d_idx1 11 ?_ | refine d_index 11 ?_ | refine d_conv64 11 ?_ | refine d_slices 11 ?_ | refine d_concat 11 ?_ | refine d_build 11 ?_)
  (first | refine d_pure 12 ?_ | refine d_load 12 ?_ | refine d_arith 12 ?_ | refine d_rem 12 ?_ | refine d_quo 12 ?_ | refine d_shrv 12 ?_ | refine d_fieldat 12 ?_ | refine d_idx1 12 ?_ | refine d_index 12 ?_ | refine d_conv64 12 ?_ | refine d_slices 12 ?_ | refine d_concat 12 ?_ | refine d_build 12 ?_)
  refine d_done ?_
  (repeat (first | refine g ?_))
  exact run_ret rfl (imp_RD rfl shut)
theorem get_nil (q : View) (a : Int) : FnD Tryz.prog q 18 [.pointer none, .int .i64 a] [] (.tuple #[.string ⟨#[]⟩, .int .i64 0, .int .i64 1]) [] := by
  (first | refine FnD.go Tryz.call18 Tryz.func18 rfl rfl rfl ?_ | refine FnX.go Tryz.call18 Tryz.func18 rfl rfl rfl ?_)
  (repeat (first | refine g ?_))
  exact run_ret rfl (imp_RD rfl shut)
theorem put_nil (q : View) (a : Int) (s : ByteArray) : FnD Tryz.prog q 11 [.pointer none, .int .i64 a, .string s] [] (.int .i64 1) [] := by
  (first | refine FnD.go Tryz.call11 Tryz.func11 rfl rfl rfl ?_ | refine FnX.go Tryz.call11 Tryz.func11 rfl rfl rfl ?_)
  (repeat (first | refine g ?_))
  exact run_ret rfl (imp_RD rfl shut)
theorem tag_no (q : View) (s : ByteArray) (hz : s.size ≠ 512) : FnD Tryz.prog q 21 [.string s] [] (.string ⟨#[]⟩) [] := by
  (first | refine FnD.go Tryz.call21 Tryz.func21 rfl rfl rfl ?_ | refine FnX.go Tryz.call21 Tryz.func21 rfl rfl rfl ?_)
  (repeat (first | refine g ?_))
  exact run_ret rfl (imp_RD rfl shut)
theorem load_nil (q : View) (v : Value) (a : Int) : FnD Tryz.prog q 22 [.pointer none, v, .int .i64 a] [] (.agg ⟨encR noR⟩) [] := by
  (first | refine FnD.go Tryz.call22 Tryz.func22 rfl rfl rfl ?_ | refine FnX.go Tryz.call22 Tryz.func22 rfl rfl rfl ?_)
  (repeat (first | refine g ?_))
  refine s_alloc fun r6 => ?_
  (repeat (first | refine g ?_))
  refine s_call (get_nil q a) ?_
  (repeat (first | refine g ?_))
  refine s_ceq r6 (encR noR) ?_ ?_
  · rfl
  refine run_ret1 (imp_RD ?_ shut) rfl (res_cell tabOk rfl rfl rfl (by repeat (first | (with_reducible exact At.head) | apply At.tail)) rfl)
  rfl
theorem bnobody_spec (q : View) (s : ByteArray) (a : Int) : FnD Tryz.prog q 4 [.string s, .int .i64 a] [] (.bool true) [] := by
  have ca := awake6_spec q
  have cb := body_spec q ⟨#[]⟩
  have hb := bodyF_size ⟨#[]⟩
  obtain ⟨X, hX⟩ : ∃ X, X = bodyF ⟨#[]⟩ := ⟨_, rfl⟩
  rw [← hX] at cb hb
  have cs := bseal_nilV q X hb
  have cl := fun v => load_nil q v a
  unfold encH zeroH at cs
  (first | refine FnD.go Tryz.call4 Tryz.func4 rfl rfl rfl ?_ | refine FnX.go Tryz.call4 Tryz.func4 rfl rfl rfl ?_)
  by_cases h5 : s.size = 512
  · have hz : (s.extract (0 : Int).toNat (511 : Int).toNat).size ≠ 512 := by rw [ByteArray.size_extract]; show min 511 s.size - 0 ≠ 512; omega
    have co := fun v => bopen_len q (.pointer (some ⟨v, 0, none⟩)) (vaultAt v s00) (s.extract (0 : Int).toNat (511 : Int).toNat) (hz)
    have ct := tag_no q (s.extract (0 : Int).toNat (511 : Int).toNat) (hz)
    unfold encH zeroH at co
    unfold encR encH noR zeroH at cl
    (repeat (first | refine g ?_))
    refine s_callx (ideal_new q) fun v => ?_
    (repeat (first | refine g ?_))
    refine s_call (co v) ?_
    (repeat (first | refine g ?_))
    refine s_alloc fun r5 => ?_
    (repeat (first | refine g ?_))
    refine s_call (get_nil q a) ?_
    (repeat (first | refine g ?_))
    refine s_call cb ?_
    (repeat (first | refine g ?_))
    refine s_call cs ?_
    (repeat (first | refine g ?_))
    refine s_call (put_nil q a (s.extract (0 : Int).toNat (511 : Int).toNat)) ?_
    (repeat (first | refine g ?_))
    refine s_call ct ?_
    have hee : (⟨#[]⟩ : ByteArray) = ⟨#[]⟩ := rfl
    (repeat (first | refine g ?_))
    refine s_callx (ideal_new q) fun v2 => ?_
    (repeat (first | refine g ?_))
    refine s_call (cl _) ?_
    (repeat (first | refine g ?_))
    refine s_call ca ?_
    (repeat (first | refine g ?_))
    exact run_ret rfl (imp_RD rfl shut)
  · have hz := h5
    have co := fun v => bopen_len q (.pointer (some ⟨v, 0, none⟩)) (vaultAt v s00) (s) (hz)
    have ct := tag_no q (s) (hz)
    unfold encH zeroH at co
    unfold encR encH noR zeroH at cl
    (repeat (first | refine g ?_))
    refine s_callx (ideal_new q) fun v => ?_
    (repeat (first | refine g ?_))
    refine s_call (co v) ?_
    (repeat (first | refine g ?_))
    refine s_alloc fun r5 => ?_
    (repeat (first | refine g ?_))
    refine s_call (get_nil q a) ?_
    (repeat (first | refine g ?_))
    refine s_call cb ?_
    (repeat (first | refine g ?_))
    refine s_call cs ?_
    (repeat (first | refine g ?_))
    refine s_call (put_nil q a (s)) ?_
    (repeat (first | refine g ?_))
    refine s_call ct ?_
    have hee : (⟨#[]⟩ : ByteArray) = ⟨#[]⟩ := rfl
    (repeat (first | refine g ?_))
    refine s_callx (ideal_new q) fun v2 => ?_
    (repeat (first | refine g ?_))
    refine s_call (cl _) ?_
    (repeat (first | refine g ?_))
    refine s_call ca ?_
    (repeat (first | refine g ?_))
    exact run_ret rfl (imp_RD rfl shut)
end Go.Proofs.YtajndpddlpnbkaaGreatDoor.V
