/- pack: cursor's take, gave, Get. -/
import Derived.Test.YtajndpddlpnbkaaGreatDoorVKa
import Derived.Test.YtajndpddlpnbkaaGreatDoorVLc
import Derived.Test.YtajndpddlpnbkaaGreatDoorSHx
import Derived.Test.YtajndpddlpnbkaaGreatDoorShelf
set_option maxRecDepth 10000
set_option linter.unusedVariables false
namespace Go.Proofs.YtajndpddlpnbkaaGreatDoor.V
open Go.Proofs.YtajndpddlpnbkaaGreatDoor.VL
attribute [local irreducible] Run
/-- The number that so many bytes are, the lowest first. -/
def lev (s : List UInt8) (o : Nat) : Nat → Nat
  | 0 => 0
  | i + 1 => lev s o i + (s.getD (o + i) 0).toNat * 256 ^ i
theorem lev_lt (s : List UInt8) (o i : Nat) : lev s o i < 256 ^ i := by
  induction i with
  | zero => exact Nat.one_pos
  | succ i ih =>
    have h : (s.getD (o + i) 0).toNat ≤ 255 := by have := (s.getD (o + i) 0).toNat_lt; omega
    have h2 : (s.getD (o + i) 0).toNat * 256 ^ i ≤ 255 * 256 ^ i := Nat.mul_le_mul_right _ h
    rw [lev, Nat.pow_succ]; omega
theorem or_shift (n b i : Nat) (hn : n < 256 ^ i) : n ||| b * 256 ^ i = n + b * 256 ^ i := by
  rw [show 256 = 2 ^ 8 from rfl, ← Nat.pow_mul] at *
  rw [Nat.or_comm, Nat.mul_comm b, ← Nat.two_pow_add_eq_or_of_lt hn, Nat.add_comm]
theorem pow6 (i : Nat) (h : i ≤ 6) : 256 ^ i ≤ 281474976710656 := by
  have := Nat.pow_le_pow_right (n := 256) (by decide) h
  exact this
theorem take_spec (q : View) (b o w : Nat) (s : ByteArray) (hw : w ≤ 6) (h : o + w ≤ s.size) (hs : s.size ≤ 1000000) :
    FnD Tryz.prog q 59 [.pointer (some ⟨b, 0, none⟩), .int .i64 (w : Int)] [cells b 120 ⟨[.string s, .int .i64 (o : Int)]⟩] (.int .i64 (lev s.data.toList o w : Nat)) [cells b 120 ⟨[.string s, .int .i64 ((o + w : Nat) : Int)]⟩] := by
  (first | refine FnD.go Tryz.call59 Tryz.func59 rfl rfl rfl ?_ | refine FnX.go Tryz.call59 Tryz.func59 rfl rfl rfl ?_)
  (repeat (first | refine g ?_ | refine s_flat 1 [(.pure, [0, 1, 2, 3, 6, 7, 8]), (.mem true, [4]), (.pure, [5]), (.mem true, [9]), (.pure, [10, 11])] ?_ | refine s_flat 7 [(.pure, [0, 1, 2, 3, 5, 6, 7, 9, 13, 14]), (.mem true, [4, 8]), (.pure, [10, 11, 12, 15, 16, 17])] ?_))
  refine run_loopI (X := Nat) (fun i => i ≤ w) (fun i => [(0, .pointer (some ⟨b, 0, none⟩)), (1, .int .i64 (w : Int)), (21, .int .i64 (w : Int)), (22, .int .i64 (i : Int)), (5, .int .i64 ((lev s.data.toList o i : Nat) : Int))])
    (fun i => [cells b 120 ⟨[.string s, .int .i64 (o : Int)]⟩]) (fun i => w - i) 0 (Nat.zero_le _) fct shut ?_
  intro i hi
  try dsimp only at *
  have hp := pow6 i (by omega)
  have hl := lev_lt s.data.toList o i
  (repeat (first | refine g ?_ | refine s_flat 1 [(.pure, [0, 1, 2, 3, 6, 7, 8]), (.mem true, [4]), (.pure, [5]), (.mem true, [9]), (.pure, [10, 11])] ?_ | refine s_flat 7 [(.pure, [0, 1, 2, 3, 5, 6, 7, 9, 13, 14]), (.mem true, [4, 8]), (.pure, [10, 11, 12, 15, 16, 17])] ?_))
  refine run_cond_dec rfl ?_ ?_
  · intro h1
    have hb := bAt_lt s (o + i)
    (repeat (first | refine g ?_ | refine s_flat 1 [(.pure, [0, 1, 2, 3, 6, 7, 8]), (.mem true, [4]), (.pure, [5]), (.mem true, [9]), (.pure, [10, 11])] ?_ | refine s_flat 7 [(.pure, [0, 1, 2, 3, 5, 6, 7, 9, 13, 14]), (.mem true, [4, 8]), (.pure, [10, 11, 12, 15, 16, 17])] ?_))
    obtain ⟨u, hu⟩ : ∃ u, u = (s.data.toList.getD (o + i) 0).toNat := ⟨_, rfl⟩
    have hub : u < 256 := by rw [hu]; exact (s.data.toList.getD (o + i) 0).toNat_lt
    refine s_to 36 (v := .int .u8 (bAt s ((o : Int) + (i : Int)).toNat)) (w := .int .u8 (u : Int)) (by rw [show ((o : Int) + (i : Int)).toNat = o + i by omega, hu]; rfl) ?_
    refine s_conv64 ?_
    refine s_shl ?_
    have hm : u * 256 ^ i ≤ 255 * 281474976710656 := Nat.mul_le_mul (by omega) hp
    refine s_to 40 (v := .int .i64 (IntKind.i64.wrap ((u : Int) * 2 ^ min ((8 : Int) * (i : Int)).toNat IntKind.i64.bits))) (w := .int .i64 ((u * 256 ^ i : Nat) : Int)) ?_ ?_
    · have e1 : min ((8 : Int) * (i : Int)).toNat IntKind.i64.bits = 8 * i := by
        rw [show ((8 : Int) * (i : Int)).toNat = 8 * i by omega]
        exact Nat.min_eq_left (by show 8 * i ≤ 64; omega)
      have e2 : ((u : Int) * 2 ^ (8 * i) : Int) = ((u * 256 ^ i : Nat) : Int) := by
        rw [Int.pow_mul]; norm_cast
      rw [e1, e2, wrap_in]
      · omega
      · show _ ≤ (9223372036854775807 : Int); omega
    refine s_bitn ?_
    refine s_to 41 (v := .int .i64 ((((lev s.data.toList o i : Nat) : Int).toNat ||| ((u * 256 ^ i : Nat) : Int).toNat : Nat) : Int)) (w := .int .i64 ((lev s.data.toList o (i + 1) : Nat) : Int)) ?_ ?_
    · rw [lev, ← hu, Int.toNat_natCast, Int.toNat_natCast, or_shift _ _ _ hl]
    (repeat (first | refine g ?_ | refine s_flat 1 [(.pure, [0, 1, 2, 3, 6, 7, 8]), (.mem true, [4]), (.pure, [5]), (.mem true, [9]), (.pure, [10, 11])] ?_ | refine s_flat 7 [(.pure, [0, 1, 2, 3, 5, 6, 7, 9, 13, 14]), (.mem true, [4, 8]), (.pure, [10, 11, 12, 15, 16, 17])] ?_))
    exact run_stop_loop (i + 1) ⟨by omega, by omega⟩ fct shut
  · intro h1
    obtain rfl : i = w := by omega
    (repeat (first | refine g ?_ | refine s_flat 1 [(.pure, [0, 1, 2, 3, 6, 7, 8]), (.mem true, [4]), (.pure, [5]), (.mem true, [9]), (.pure, [10, 11])] ?_ | refine s_flat 7 [(.pure, [0, 1, 2, 3, 5, 6, 7, 9, 13, 14]), (.mem true, [4, 8]), (.pure, [10, 11, 12, 15, 16, 17])] ?_))
    exact run_ret rfl (imp_RD rfl shut)
theorem gave_nil (q : View) : FnD Tryz.prog q 57 [.nilIface] [] (.bool false) [] := by
  (first | refine FnD.go Tryz.call57 Tryz.func57 rfl rfl rfl ?_ | refine FnX.go Tryz.call57 Tryz.func57 rfl rfl rfl ?_)
  (repeat (first | refine g ?_))
  refine s_eqnil (ms := #[]) ?_
  (repeat (first | refine g ?_))
  exact run_ret rfl (imp_RD rfl shut)
end Go.Proofs.YtajndpddlpnbkaaGreatDoor.V
/- A block's head as bytes. -/
namespace Go.Proofs.YtajndpddlpnbkaaGreatDoor.V
open Go.Proofs.YtajndpddlpnbkaaGreatDoor.VL Go.Proofs.YtajndpddlpnbkaaGreatDoor.VL.RD Go.Proofs.YtajndpddlpnbkaaGreatDoor.VL.Sha
attribute [local irreducible] Run
structure HeadT where
  vol : Int
  addr : Int
  kind : Int
  ino : Int
  gen : Int
  index : Int
  ver : Int
  salt : Int
  deriving DecidableEq
def encH (h : HeadT) : List Value := [.int .i64 h.vol, .int .i64 h.addr, .int .i64 h.kind, .int .i64 h.ino, .int .i64 h.gen, .int .i64 h.index, .int .i64 h.ver, .int .i64 h.salt]
structure HeadOk (h : HeadT) : Prop where
  v0 : -9223372036854775808 ≤ h.vol
  v1 : h.vol ≤ 9223372036854775807
  a0 : -9223372036854775808 ≤ h.addr
  a1 : h.addr ≤ 9223372036854775807
  k0 : -9223372036854775808 ≤ h.kind
  k1 : h.kind ≤ 9223372036854775807
  i0 : -9223372036854775808 ≤ h.ino
  i1 : h.ino ≤ 9223372036854775807
  g0 : -9223372036854775808 ≤ h.gen
  g1 : h.gen ≤ 9223372036854775807
  x0 : -9223372036854775808 ≤ h.index
  x1 : h.index ≤ 9223372036854775807
  r0 : -9223372036854775808 ≤ h.ver
  r1 : h.ver ≤ 9223372036854775807
  s0 : -9223372036854775808 ≤ h.salt
  s1 : h.salt ≤ 9223372036854775807
def fldH (h : HeadT) : List (Int × Nat) := [(h.vol, 6), (h.addr, 4), (h.kind, 2), (h.ino, 4), (h.gen, 4), (h.index, 4), (h.ver, 6), (h.salt, 6)]
def okN (x : Int × Nat) : Bool := decide (0 ≤ x.1 ∧ x.1 / 2 ^ (8 * x.2) = 0)
def numsL (l : List (Int × Nat)) : List UInt8 := l.flatMap fun x => leb x.1.toNat x.2
def magicL : List UInt8 := [71, 82, 80, 78]
def headL (h : HeadT) : List UInt8 := magicL ++ numsL (fldH h) ++ List.replicate 8 0
def headF (h : HeadT) : ByteArray × Int := if (fldH h).all okN = true then (bl (headL h), 0) else (⟨#[]⟩, 2)
def wputs (s : List UInt8 × Bool) (l : List (Int × Nat)) : List UInt8 × Bool := l.foldl (fun s x => wput s.1 s.2 x.1 x.2) s
theorem wput_ok (s : List UInt8 × Bool) (x : Int × Nat) (h : okN x = true) : wput s.1 s.2 x.1 x.2 = (s.1 ++ leb x.1.toNat x.2, s.2) := by
  have h := of_decide_eq_true h
  unfold wput
  rw [if_neg (by rintro (h1 | h1); omega; exact h1 h.2)]
theorem wput_no (s : List UInt8 × Bool) (x : Int × Nat) (h : okN x = false) : (wput s.1 s.2 x.1 x.2).2 = true := by
  have h := of_decide_eq_false h
  unfold wput
  rw [if_pos (by
    by_cases h1 : x.1 < 0
    · exact .inl h1
    · exact .inr (fun h2 => h ⟨by omega, h2⟩))]
theorem wput_keep (s : List UInt8 × Bool) (x : Int × Nat) (h : s.2 = true) : (wput s.1 s.2 x.1 x.2).2 = true := by
  unfold wput
  split
  · rfl
  · exact h
theorem wputs_keep (l : List (Int × Nat)) : ∀ s : List UInt8 × Bool, s.2 = true → (wputs s l).2 = true := by
  induction l with
  | nil => exact fun s h => h
  | cons x l ih => exact fun s h => ih _ (wput_keep s x h)
theorem wputs_ok (l : List (Int × Nat)) : ∀ s : List UInt8 × Bool, l.all okN = true → wputs s l = (s.1 ++ numsL l, s.2) := by
  induction l with
  | nil => intro s _; simp [wputs, numsL]
  | cons x l ih =>
    intro s h
    rw [List.all_cons, Bool.and_eq_true] at h
    show wputs (wput s.1 s.2 x.1 x.2) l = _
    rw [wput_ok s x h.1, ih _ h.2]
    simp [numsL, List.append_assoc]
theorem wputs_no (l : List (Int × Nat)) : ∀ s : List UInt8 × Bool, l.all okN = false → (wputs s l).2 = true := by
  induction l with
  | nil => intro s h; cases h
  | cons x l ih =>
    intro s h
    show (wputs (wput s.1 s.2 x.1 x.2) l).2 = true
    cases hx : okN x with
    | false => exact wputs_keep l _ (wput_no s x hx)
    | true =>
      rw [List.all_cons, hx, Bool.true_and] at h
      exact ih _ h
theorem wput_len (s : List UInt8 × Bool) (x : Int) (w : Nat) : (wput s.1 s.2 x w).1.length ≤ s.1.length + w := by
  unfold wput
  split
  · exact Nat.le_add_right _ _
  · show (s.1 ++ leb _ _).length ≤ _
    rw [List.length_append, leb_length]; exact Nat.le_refl _
theorem numsL_len (l : List (Int × Nat)) : (numsL l).length = (l.map (·.2)).sum := by
  unfold numsL
  rw [List.length_flatMap]
  congr 1
  exact List.map_congr_left fun x _ => leb_length _ _
theorem headL_len (h : HeadT) : (headL h).length = 48 := by
  unfold headL
  rw [List.length_append, List.length_append, numsL_len, List.length_replicate]; rfl
theorem head_spec (q : View) (h : HeadT) (hh : HeadOk h) : FnD Tryz.prog q 45 [.agg ⟨encH h⟩] [] (.tuple #[.string (headF h).1, .int .i64 (headF h).2]) [] := by
  obtain ⟨v0, v1, a0, a1, k0, k1, i0, i1, g0, g1, x0, x1, r0, r1, s0, s1⟩ := hh
  unfold encH
  (first | refine FnD.go Tryz.call45 Tryz.func45 rfl rfl rfl ?_ | refine FnX.go Tryz.call45 Tryz.func45 rfl rfl rfl ?_)
  (repeat (first | refine g ?_))
  refine s_box fun b => ?_
  (repeat (first | refine g ?_))
  refine s_built fun rb => ?_
  (repeat (first | refine g ?_))
  refine s_mark ?_
  refine s_ceq rb (bv magicL) ?_ ?_
  · rfl
  refine run_to_sl (n := 4) (kk := 1) rfl ?_
  (repeat (first | refine g ?_))
  refine s_alloc fun w => ?_
  (repeat (first | refine g ?_))
  refine run_to_writer (l := magicL) ?_
  have hm : magicL.length = 4 := rfl
  refine s_call (wput_spec q w magicL false h.vol 6 (by decide) v1 (by omega)) ?_
  obtain ⟨t1, e1⟩ : ∃ t, t = wput magicL false h.vol 6 := ⟨_, rfl⟩
  have z1 := wput_len (magicL, false) h.vol 6
  dsimp only at z1
  rw [← e1] at z1 ⊢
  (repeat (first | refine g ?_))
  refine s_call (wput_spec q w t1.1 t1.2 h.addr 4 (by decide) a1 (by omega)) ?_
  obtain ⟨t2, e2⟩ : ∃ t, t = wput t1.1 t1.2 h.addr 4 := ⟨_, rfl⟩
  have z2 := wput_len t1 h.addr 4
  rw [← e2] at z2 ⊢
  (repeat (first | refine g ?_))
  refine s_call (wput_spec q w t2.1 t2.2 h.kind 2 (by decide) k1 (by omega)) ?_
  obtain ⟨t3, e3⟩ : ∃ t, t = wput t2.1 t2.2 h.kind 2 := ⟨_, rfl⟩
  have z3 := wput_len t2 h.kind 2
  rw [← e3] at z3 ⊢
  (repeat (first | refine g ?_))
  refine s_call (wput_spec q w t3.1 t3.2 h.ino 4 (by decide) i1 (by omega)) ?_
  obtain ⟨t4, e4⟩ : ∃ t, t = wput t3.1 t3.2 h.ino 4 := ⟨_, rfl⟩
  have z4 := wput_len t3 h.ino 4
  rw [← e4] at z4 ⊢
  (repeat (first | refine g ?_))
  refine s_call (wput_spec q w t4.1 t4.2 h.gen 4 (by decide) g1 (by omega)) ?_
  obtain ⟨t5, e5⟩ : ∃ t, t = wput t4.1 t4.2 h.gen 4 := ⟨_, rfl⟩
  have z5 := wput_len t4 h.gen 4
  rw [← e5] at z5 ⊢
  (repeat (first | refine g ?_))
  refine s_call (wput_spec q w t5.1 t5.2 h.index 4 (by decide) x1 (by omega)) ?_
  obtain ⟨t6, e6⟩ : ∃ t, t = wput t5.1 t5.2 h.index 4 := ⟨_, rfl⟩
  have z6 := wput_len t5 h.index 4
  rw [← e6] at z6 ⊢
  (repeat (first | refine g ?_))
  refine s_call (wput_spec q w t6.1 t6.2 h.ver 6 (by decide) r1 (by omega)) ?_
  obtain ⟨t7, e7⟩ : ∃ t, t = wput t6.1 t6.2 h.ver 6 := ⟨_, rfl⟩
  have z7 := wput_len t6 h.ver 6
  rw [← e7] at z7 ⊢
  (repeat (first | refine g ?_))
  refine s_call (wput_spec q w t7.1 t7.2 h.salt 6 (by decide) s1 (by omega)) ?_
  obtain ⟨t8, e8⟩ : ∃ t, t = wput t7.1 t7.2 h.salt 6 := ⟨_, rfl⟩
  have z8 := wput_len t7 h.salt 6
  rw [← e8] at z8 ⊢
  have hw : t8 = wputs (magicL, false) (fldH h) := by rw [e8, e7, e6, e5, e4, e3, e2, e1]; rfl
  obtain ⟨L, bad⟩ := t8
  dsimp only at z8 ⊢
  refine run_writer fun p c => ?_
  cases hok : (fldH h).all okN with
  | false =>
    have hb : bad = true := by
      have := wputs_no (fldH h) (magicL, false) hok
      rw [← hw] at this; exact this
    subst hb
    unfold headF
    rw [hok, if_neg (by decide)]
    (repeat (first | refine g ?_))
    exact run_ret rfl (imp_RD rfl shut)
  | true =>
    have hb := wputs_ok (fldH h) (magicL, false) hok
    rw [← hw] at hb
    dsimp only at hb
    obtain ⟨rfl, rfl⟩ := Prod.mk.inj hb
    have hl : (magicL ++ numsL (fldH h)).length = 40 := by rw [List.length_append, numsL_len]; rfl
    have cf := full_spec q w (magicL ++ numsL (fldH h)) false 48 (by decide) (by omega)
    have he : pad0 (magicL ++ numsL (fldH h)) 48 = headL h := by unfold pad0 headL; rw [hl]
    unfold headF
    rw [hok, if_pos rfl]
    rw [he] at cf
    (repeat (first | refine g ?_))
    refine run_to_writer ?_
    refine s_call cf ?_
    (repeat (first | refine g ?_))
    exact run_ret rfl (imp_RD rfl shut)
end Go.Proofs.YtajndpddlpnbkaaGreatDoor.V
/- A head out of bytes. -/
namespace Go.Proofs.YtajndpddlpnbkaaGreatDoor.V
open Go.Proofs.YtajndpddlpnbkaaGreatDoor.VL Go.Proofs.YtajndpddlpnbkaaGreatDoor.VL.RD Go.Proofs.YtajndpddlpnbkaaGreatDoor.VL.Sha
attribute [local irreducible] Run
theorem text_spec (q : View) (b o n : Nat) (s : ByteArray) (h : o + n ≤ s.size) (hs : s.size ≤ 1000000) :
    FnD Tryz.prog q 58 [.pointer (some ⟨b, 0, none⟩), .int .i64 (n : Int)] [cells b 120 ⟨[.string s, .int .i64 (o : Int)]⟩] (.string (s.extract o (o + n))) [cells b 120 ⟨[.string s, .int .i64 ((o + n : Nat) : Int)]⟩] := by
  (first | refine FnD.go Tryz.call58 Tryz.func58 rfl rfl rfl ?_ | refine FnX.go Tryz.call58 Tryz.func58 rfl rfl rfl ?_)
  (repeat (first | refine g ?_ | refine s_flat 1 [(.pure, [0, 1, 2, 3, 6, 7, 8]), (.mem true, [4]), (.pure, [5]), (.mem true, [9]), (.pure, [10, 11])] ?_ | refine s_flat 3 [(.pure, [0, 1, 2, 4, 5, 6, 8, 9, 10, 12]), (.mem true, [3, 7, 11]), (.pure, [13, 14, 15])] ?_))
  rw [show ((o : Int) + (n : Int)) = ((o + n : Nat) : Int) from (Int.natCast_add o n).symm, Int.toNat_natCast, Int.toNat_natCast]
  exact run_ret rfl (imp_RD rfl shut)
def headP (s : ByteArray) : HeadT := ⟨(lev s.data.toList 4 6 : Nat), (lev s.data.toList 10 4 : Nat), (lev s.data.toList 14 2 : Nat), (lev s.data.toList 16 4 : Nat), (lev s.data.toList 20 4 : Nat), (lev s.data.toList 24 4 : Nat), (lev s.data.toList 28 6 : Nat), (lev s.data.toList 34 6 : Nat)⟩
def zeroH : HeadT := ⟨0, 0, 0, 0, 0, 0, 0, 0⟩
def headOfF (s : ByteArray) : HeadT × Int := if s.extract 40 48 = bl (List.replicate 8 0) ∧ s.extract 0 4 = bl magicL then (headP s, 0) else (zeroH, 5)
theorem headOf_gave (q : View) (x : Value) : DefT Tryz.prog q 56 #[x] hemp hemp := def_gave Tryz.func56 rfl rfl rfl (gave_nil q)
theorem headOf_callable : Callable Tryz.prog 56 := Tryz.call56
theorem headOf_spec (q : View) (s : ByteArray) (hz : s.size = 48) : FnD Tryz.prog q 39 [.string s] [] (.tuple #[.agg ⟨encH (headOfF s).1⟩, .int .i64 (headOfF s).2]) [] := by
  unfold headOfF
  obtain ⟨U, hU⟩ : ∃ U, U = s.extract 40 48 := ⟨_, rfl⟩
  obtain ⟨M, hM⟩ : ∃ M, M = s.extract 0 4 := ⟨_, rfl⟩
  rw [← hU, ← hM, show bl (List.replicate 8 0) = ⟨#[0, 0, 0, 0, 0, 0, 0, 0]⟩ from rfl, show bl magicL = ⟨#[71, 82, 80, 78]⟩ from rfl]
  (first | refine FnD.go Tryz.call39 Tryz.func39 rfl rfl rfl ?_ | refine FnX.go Tryz.call39 Tryz.func39 rfl rfl rfl ?_)
  (repeat (first | refine g ?_))
  refine s_alloc fun r2 => ?_
  (repeat (first | refine g ?_))
  refine s_alloc fun r3 => ?_
  (repeat (first | refine g ?_))
  refine s_defer ?_
  (repeat (first | refine g ?_))
  refine s_alloc fun c => ?_
  have t0 : FnD Tryz.prog q 58 [.pointer (some ⟨c, 0, none⟩), .int .i64 4] [cells c 120 ⟨[.string s, .int .i64 0]⟩] (.string (s.extract 0 4)) [cells c 120 ⟨[.string s, .int .i64 4]⟩] := text_spec q c 0 4 s (by omega) (by omega)
  have k1 : FnD Tryz.prog q 59 [.pointer (some ⟨c, 0, none⟩), .int .i64 6] [cells c 120 ⟨[.string s, .int .i64 4]⟩] (.int .i64 (lev s.data.toList 4 6 : Nat)) [cells c 120 ⟨[.string s, .int .i64 10]⟩] := take_spec q c 4 6 s (by omega) (by omega) (by omega)
  have k2 : FnD Tryz.prog q 59 [.pointer (some ⟨c, 0, none⟩), .int .i64 4] [cells c 120 ⟨[.string s, .int .i64 10]⟩] (.int .i64 (lev s.data.toList 10 4 : Nat)) [cells c 120 ⟨[.string s, .int .i64 14]⟩] := take_spec q c 10 4 s (by omega) (by omega) (by omega)
  have k3 : FnD Tryz.prog q 59 [.pointer (some ⟨c, 0, none⟩), .int .i64 2] [cells c 120 ⟨[.string s, .int .i64 14]⟩] (.int .i64 (lev s.data.toList 14 2 : Nat)) [cells c 120 ⟨[.string s, .int .i64 16]⟩] := take_spec q c 14 2 s (by omega) (by omega) (by omega)
  have k4 : FnD Tryz.prog q 59 [.pointer (some ⟨c, 0, none⟩), .int .i64 4] [cells c 120 ⟨[.string s, .int .i64 16]⟩] (.int .i64 (lev s.data.toList 16 4 : Nat)) [cells c 120 ⟨[.string s, .int .i64 20]⟩] := take_spec q c 16 4 s (by omega) (by omega) (by omega)
  have k5 : FnD Tryz.prog q 59 [.pointer (some ⟨c, 0, none⟩), .int .i64 4] [cells c 120 ⟨[.string s, .int .i64 20]⟩] (.int .i64 (lev s.data.toList 20 4 : Nat)) [cells c 120 ⟨[.string s, .int .i64 24]⟩] := take_spec q c 20 4 s (by omega) (by omega) (by omega)
  have k6 : FnD Tryz.prog q 59 [.pointer (some ⟨c, 0, none⟩), .int .i64 4] [cells c 120 ⟨[.string s, .int .i64 24]⟩] (.int .i64 (lev s.data.toList 24 4 : Nat)) [cells c 120 ⟨[.string s, .int .i64 28]⟩] := take_spec q c 24 4 s (by omega) (by omega) (by omega)
  have k7 : FnD Tryz.prog q 59 [.pointer (some ⟨c, 0, none⟩), .int .i64 6] [cells c 120 ⟨[.string s, .int .i64 28]⟩] (.int .i64 (lev s.data.toList 28 6 : Nat)) [cells c 120 ⟨[.string s, .int .i64 34]⟩] := take_spec q c 28 6 s (by omega) (by omega) (by omega)
  have k8 : FnD Tryz.prog q 59 [.pointer (some ⟨c, 0, none⟩), .int .i64 6] [cells c 120 ⟨[.string s, .int .i64 34]⟩] (.int .i64 (lev s.data.toList 34 6 : Nat)) [cells c 120 ⟨[.string s, .int .i64 40]⟩] := take_spec q c 34 6 s (by omega) (by omega) (by omega)
  have t9 : FnD Tryz.prog q 58 [.pointer (some ⟨c, 0, none⟩), .int .i64 8] [cells c 120 ⟨[.string s, .int .i64 40]⟩] (.string (s.extract 40 48)) [cells c 120 ⟨[.string s, .int .i64 48]⟩] := text_spec q c 40 8 s (by omega) (by omega)
  rw [← hU] at t9
  rw [← hM] at t0
  have hP : headP s = ⟨(lev s.data.toList 4 6 : Nat), (lev s.data.toList 10 4 : Nat), (lev s.data.toList 14 2 : Nat), (lev s.data.toList 16 4 : Nat), (lev s.data.toList 20 4 : Nat), (lev s.data.toList 24 4 : Nat), (lev s.data.toList 28 6 : Nat), (lev s.data.toList 34 6 : Nat)⟩ := rfl
  (repeat (first | refine g ?_))
  refine s_call t0 ?_
  (repeat (first | refine g ?_))
  refine s_call k1 ?_
  (repeat (first | refine g ?_))
  refine s_call k2 ?_
  (repeat (first | refine g ?_))
  refine s_call k3 ?_
  (repeat (first | refine g ?_))
  refine s_call k4 ?_
  (repeat (first | refine g ?_))
  refine s_call k5 ?_
  (repeat (first | refine g ?_))
  refine s_call k6 ?_
  (repeat (first | refine g ?_))
  refine s_call k7 ?_
  (repeat (first | refine g ?_))
  refine s_call k8 ?_
  (repeat (first | refine g ?_))
  refine s_alloc fun rh => ?_
  (repeat (first | refine g ?_))
  refine s_call t9 ?_
  by_cases h1 : U ≠ ⟨#[0, 0, 0, 0, 0, 0, 0, 0]⟩
  · rw [if_neg (fun hh => h1 hh.1)]
    (repeat (first | refine g ?_))
    refine run_retD2 (Bs := []) (Cs := []) (headOf_gave q _) headOf_callable (imp_RD ?_ shut) rfl (res_cell tabOk rfl rfl rfl (by repeat (first | (with_reducible exact At.head) | apply At.tail)) rfl) (res_cell1 tabOk rfl rfl rfl (by repeat (first | (with_reducible exact At.head) | apply At.tail))) Pulls.nil (hM := rfl)
    rfl
  · by_cases h2 : M ≠ ⟨#[71, 82, 80, 78]⟩
    · rw [if_neg (fun hh => h2 hh.2)]
      (repeat (first | refine g ?_))
      refine run_retD2 (Bs := []) (Cs := []) (headOf_gave q _) headOf_callable (imp_RD ?_ shut) rfl (res_cell tabOk rfl rfl rfl (by repeat (first | (with_reducible exact At.head) | apply At.tail)) rfl) (res_cell1 tabOk rfl rfl rfl (by repeat (first | (with_reducible exact At.head) | apply At.tail))) Pulls.nil (hM := rfl)
      rfl
    · rw [if_pos ⟨Classical.not_not.1 h1, Classical.not_not.1 h2⟩]
      (repeat (first | refine g ?_))
      refine run_retD2 (Bs := []) (Cs := []) (headOf_gave q _) headOf_callable (imp_RD ?_ shut) rfl (res_cell tabOk rfl rfl rfl (by repeat (first | (with_reducible exact At.head) | apply At.tail)) rfl) (res_cell1 tabOk rfl rfl rfl (by repeat (first | (with_reducible exact At.head) | apply At.tail))) Pulls.nil (hM := rfl)
      rfl
end Go.Proofs.YtajndpddlpnbkaaGreatDoor.V
/- block.Seal, Open, Told, Tag under any vault. -/
namespace Go.Proofs.YtajndpddlpnbkaaGreatDoor.V
open Go.Proofs.YtajndpddlpnbkaaGreatDoor.VL Go.Proofs.YtajndpddlpnbkaaGreatDoor.VL.RD Go.Proofs.YtajndpddlpnbkaaGreatDoor.VL.Sha
attribute [local irreducible] Run numB
def nonceB (h : HeadT) : ByteArray := bl (leb h.addr.toNat 4 ++ leb h.ver.toNat 6 ++ [0, 0])
theorem putF_ok (x : Int × Nat) (h : okN x = true) (h1 : 1 ≤ x.2) (h6 : x.2 ≤ 6) : V.putF x.1 x.2 = (bl (leb x.1.toNat x.2), 0) := by
  have h := of_decide_eq_true h
  unfold V.putF
  rw [if_neg (by omega), if_neg (by rw [Int.toNat_natCast]; rintro (h2 | h2); omega; exact h2 h.2), Int.toNat_natCast]
  rfl
theorem nonce_spec (q : View) (h : HeadT) (ha : okN (h.addr, 4) = true) (hv : okN (h.ver, 6) = true) (a1 : h.addr ≤ 9223372036854775807) (r1 : h.ver ≤ 9223372036854775807) :
    FnD Tryz.prog q 41 [.agg ⟨encH h⟩] [] (.string (nonceB h)) [] := by
  have c1 := put_spec q h.addr 4 a1
  have e1 := putF_ok (h.addr, 4) ha (by show 1 ≤ 4; decide) (by show 4 ≤ 6; decide)
  dsimp only at e1
  rw [show ((4 : Nat) : Int) = 4 from rfl] at e1
  rw [e1] at c1
  have c2 := put_spec q h.ver 6 r1
  have e2 := putF_ok (h.ver, 6) hv (by show 1 ≤ 6; decide) (by show 6 ≤ 6; decide)
  dsimp only at e2
  rw [show ((6 : Nat) : Int) = 6 from rfl] at e2
  rw [e2] at c2
  have e3 : (bl (leb h.addr.toNat 4) ++ bl (leb h.ver.toNat 6)) ++ (⟨#[0, 0]⟩ : ByteArray) = nonceB h := by
    unfold nonceB bl
    exact ByteArray.ext (by simp)
  have z1 : (bl (leb h.addr.toNat 4)).size = 4 := by show (leb h.addr.toNat 4).toArray.size = 4; rw [List.size_toArray, leb_length]
  have z2 : (bl (leb h.ver.toNat 6)).size = 6 := by show (leb h.ver.toNat 6).toArray.size = 6; rw [List.size_toArray, leb_length]
  have z3 : (⟨#[0, 0]⟩ : ByteArray).size = 2 := rfl
  obtain ⟨X, hX⟩ : ∃ X, X = bl (leb h.addr.toNat 4) := ⟨_, rfl⟩
  obtain ⟨Y, hY⟩ : ∃ Y, Y = bl (leb h.ver.toNat 6) := ⟨_, rfl⟩
  rw [← hX] at z1
  rw [← hY] at z2
  have z4 : (X ++ Y).size = 10 := by rw [ByteArray.size_append]; omega
  rw [← hX] at c1 e3
  rw [← hY] at c2 e3
  unfold encH
  dsimp only at c1 c2
  (first | refine FnD.go Tryz.call41 Tryz.func41 rfl rfl rfl ?_ | refine FnX.go Tryz.call41 Tryz.func41 rfl rfl rfl ?_)
  (repeat (first | refine g ?_))
  refine s_box fun b => ?_
  (repeat (first | refine g ?_))
  refine s_call c1 ?_
  (repeat (first | refine g ?_))
  refine s_call c2 ?_
  (repeat (first | refine g ?_))
  rw [e3]
  exact run_ret rfl (imp_RD rfl shut)
theorem ok_nonce {h : HeadT} (hok : (fldH h).all okN = true) : okN (h.addr, 4) = true ∧ okN (h.ver, 6) = true := by
  unfold fldH at hok
  simp only [List.all_cons, List.all_nil, Bool.and_eq_true] at hok
  exact ⟨hok.2.1, hok.2.2.2.2.2.2.1⟩
theorem bseal_len (q : View) (v : Value) (V : HProp) (h : HeadT) (body : ByteArray) (hz : body.size ≠ 448) :
    FnD Tryz.prog q 19 [v, .agg ⟨encH h⟩, .string body] [V] (.tuple #[.string ⟨#[]⟩, .int .i64 1]) [V] := by
  (first | refine FnD.go Tryz.call19 Tryz.func19 rfl rfl rfl ?_ | refine FnX.go Tryz.call19 Tryz.func19 rfl rfl rfl ?_)
  (repeat (first | refine g ?_))
  refine s_box fun b => ?_
  (repeat (first | refine g ?_))
  exact run_ret rfl (imp_RD rfl shut)
theorem bseal_no (q : View) (v : Value) (V : HProp) (h : HeadT) (hh : HeadOk h) (body : ByteArray) (hz : body.size = 448) (hok : (fldH h).all okN = false) :
    FnD Tryz.prog q 19 [v, .agg ⟨encH h⟩, .string body] [V] (.tuple #[.string ⟨#[]⟩, .int .i64 2]) [V] := by
  have ch := head_spec q h hh
  unfold headF at ch
  rw [if_neg (by rw [hok]; decide)] at ch
  (first | refine FnD.go Tryz.call19 Tryz.func19 rfl rfl rfl ?_ | refine FnX.go Tryz.call19 Tryz.func19 rfl rfl rfl ?_)
  (repeat (first | refine g ?_))
  refine s_box fun b => ?_
  (repeat (first | refine g ?_))
  refine s_call ch ?_
  (repeat (first | refine g ?_))
  exact run_ret rfl (imp_RD rfl shut)
theorem headL_size (h : HeadT) : (bl (headL h)).size = 48 := by show (headL h).toArray.size = 48; rw [List.size_toArray, headL_len]
theorem bseal_call (q : View) (v : Value) (V V' : HProp) (h : HeadT) (hh : HeadOk h) (body : ByteArray) (hz : body.size = 448) (hok : (fldH h).all okN = true) (F : ByteArray) (e : Int) (hF : F.size ≤ 1000000)
    (hc : FnD Tryz.prog q 46 [v, .int .i64 h.salt, .string (nonceB h), .string (bl (headL h)), .string body] [V] (.tuple #[.string F, .int .i64 e]) [V']) :
    FnD Tryz.prog q 19 [v, .agg ⟨encH h⟩, .string body] [V] (.tuple #[.string (if e = 0 then bl (headL h) ++ F else ⟨#[]⟩), .int .i64 e]) [V'] := by
  have ch := head_spec q h hh
  unfold headF at ch
  rw [if_pos hok] at ch
  have cn := nonce_spec q h (ok_nonce hok).1 (ok_nonce hok).2 hh.a1 hh.r1
  have zH := headL_size h
  obtain ⟨H, hH⟩ : ∃ H, H = bl (headL h) := ⟨_, rfl⟩
  rw [← hH] at ch hc zH ⊢
  dsimp only at ch
  (first | refine FnD.go Tryz.call19 Tryz.func19 rfl rfl rfl ?_ | refine FnX.go Tryz.call19 Tryz.func19 rfl rfl rfl ?_)
  (repeat (first | refine g ?_))
  refine s_box fun b => ?_
  (repeat (first | refine g ?_))
  refine s_call ch ?_
  (repeat (first | refine g ?_))
  refine d_start [V] ?_
  (first | refine d_pure 0 ?_ | refine d_load 0 ?_ | refine d_arith 0 ?_ | refine d_rem 0 ?_ | refine d_quo 0 ?_ | refine d_shrv 0 ?_ | refine d_fieldat 0 ?_ | refine d_idx1 0 ?_ | refine d_index 0 ?_ | refine d_conv64 0 ?_ | refine d_slices 0 ?_ | refine d_concat 0 ?_ | refine d_build 0 ?_)
  (first | refine d_pure 1 ?_ | refine d_load 1 ?_ | refine d_arith 1 ?_ | refine d_rem 1 ?_ | refine d_quo 1 ?_ | refine d_shrv 1 ?_ | refine d_fieldat 1 ?_ | refine d_idx1 1 ?_ | refine d_index 1 ?_ | refine d_conv64 1 ?_ | refine d_slices 1 ?_ | refine d_concat 1 ?_ | refine d_build 1 ?_)
  (first | refine d_pure 2 ?_ | refine d_load 2 ?_ | refine d_arith 2 ?_ | refine d_rem 2 ?_ | refine d_quo 2 ?_ | refine d_shrv 2 ?_ | refine d_fieldat 2 ?_ | refine d_idx1 2 ?_ | refine d_index 2 ?_ | refine d_conv64 2 ?_ | refine d_slices 2 ?_ | refine d_concat 2 ?_ | refine d_build 2 ?_)
  refine d_getall 3 rfl ?_
  (first | refine d_pure 5 ?_ | refine d_load 5 ?_ | refine d_arith 5 ?_ | refine d_rem 5 ?_ | refine d_quo 5 ?_ | refine d_shrv 5 ?_ | refine d_fieldat 5 ?_ | refine d_idx1 5 ?_ | refine d_index 5 ?_ | refine d_conv64 5 ?_ | refine d_slices 5 ?_ | refine d_concat 5 ?_ | refine d_build 5 ?_)
  (first | refine d_pure 6 ?_ | refine d_load 6 ?_ | refine d_arith 6 ?_ | refine d_rem 6 ?_ | refine d_quo 6 ?_ | refine d_shrv 6 ?_ | refine d_fieldat 6 ?_ | refine d_idx1 6 ?_ | refine d_index 6 ?_ | refine d_conv64 6 ?_ | refine d_slices 6 ?_ | refine d_concat 6 ?_ | refine d_build 6 ?_)
  refine d_call 4 cn ?_
  refine d_call 7 hc ?_
  (first | refine d_pure 8 ?_ | refine d_load 8 ?_ | refine d_arith 8 ?_ | refine d_rem 8 ?_ | refine d_quo 8 ?_ | refine d_shrv 8 ?_ | refine d_fieldat 8 ?_ | refine d_idx1 8 ?_ | refine d_index 8 ?_ | refine d_conv64 8 ?_ | refine d_slices 8 ?_ | refine d_concat 8 ?_ | refine d_build 8 ?_)
  (first | refine d_pure 9 ?_ | refine d_load 9 ?_ | refine d_arith 9 ?_ | refine d_rem 9 ?_ | refine d_quo 9 ?_ | refine d_shrv 9 ?_ | refine d_fieldat 9 ?_ | refine d_idx1 9 ?_ | refine d_index 9 ?_ | refine d_conv64 9 ?_ | refine d_slices 9 ?_ | refine d_concat 9 ?_ | refine d_build 9 ?_)
  (first | refine d_pure 10 ?_ | refine d_load 10 ?_ | refine d_arith 10 ?_ | refine d_rem 10 ?_ | refine d_quo 10 ?_ | refine d_shrv 10 ?_ | refine d_fieldat 10 ?_ | refine d_idx1 10 ?_ | refine d_index 10 ?_ | refine d_conv64 10 ?_ | refine d_slices 10 ?_ | refine d_concat 10 ?_ | refine d_build 10 ?_)
  (first | refine d_pure 11 ?_ | refine d_load 11 ?_ | refine d_arith 11 ?_ | refine d_rem 11 ?_ | refine d_quo 11 ?_ | refine d_shrv 11 ?_ | refine d_fieldat 11 ?_ | refine d_idx1 11 ?_ | refine d_index 11 ?_ | refine d_conv64 11 ?_ | refine d_slices 11 ?_ | refine d_concat 11 ?_ | refine d_build 11 ?_)
  (first | refine d_pure 12 ?_ | refine d_load 12 ?_ | refine d_arith 12 ?_ | refine d_rem 12 ?_ | refine d_quo 12 ?_ | refine d_shrv 12 ?_ | refine d_fieldat 12 ?_ | refine d_idx1 12 ?_ | refine d_index 12 ?_ | refine d_conv64 12 ?_ | refine d_slices 12 ?_ | refine d_concat 12 ?_ | refine d_build 12 ?_)
  refine d_done ?_
  by_cases he : e = 0
  · subst he
    rw [if_pos rfl]
    (repeat (first | refine g ?_))
    exact run_ret rfl (imp_RD rfl shut)
  · rw [if_neg he]
    (repeat (first | refine g ?_))
    exact run_ret rfl (imp_RD rfl shut)
theorem tag_spec (q : View) (s : ByteArray) (hz : s.size = 512) : FnD Tryz.prog q 21 [.string s] [] (.string (s.extract 496 512)) [] := by
  (first | refine FnD.go Tryz.call21 Tryz.func21 rfl rfl rfl ?_ | refine FnX.go Tryz.call21 Tryz.func21 rfl rfl rfl ?_)
  (repeat (first | refine g ?_))
  rw [hz]
  exact run_ret rfl (imp_RD rfl shut)
theorem lev_ok (l : List UInt8) (o w : Nat) : okN ((lev l o w : Nat), w) = true := by
  have h := lev_lt l o w
  unfold okN
  apply decide_eq_true
  dsimp only
  refine ⟨by omega, ?_⟩
  have e : ((lev l o w : Nat) : Int) / 2 ^ (8 * w) = ((lev l o w / 2 ^ (8 * w) : Nat) : Int) := by
    rw [Int.natCast_ediv, Int.natCast_pow]; rfl
  rw [e, Nat.pow_mul]
  rw [show (2 ^ 8) = 256 from rfl, Nat.div_eq_of_lt h]; rfl
theorem headP_fld (s : ByteArray) : (fldH (headP s)).all okN = true := by
  unfold fldH headP
  simp only [List.all_cons, List.all_nil, Bool.and_eq_true]
  exact ⟨lev_ok _ _ _, lev_ok _ _ _, lev_ok _ _ _, lev_ok _ _ _, lev_ok _ _ _, lev_ok _ _ _, lev_ok _ _ _, lev_ok _ _ _, trivial⟩
theorem headP_ok (s : ByteArray) : HeadOk (headP s) := by
  have h := fun o w => lev_lt s.data.toList o w
  have h1 := h 4 6; have h2 := h 10 4; have h3 := h 14 2; have h4 := h 16 4; have h5 := h 20 4; have h6 := h 24 4; have h7 := h 28 6; have h8 := h 34 6
  rw [show 256 ^ 6 = 281474976710656 from rfl] at h1 h7 h8
  rw [show 256 ^ 4 = 4294967296 from rfl] at h2 h4 h5 h6
  rw [show 256 ^ 2 = 65536 from rfl] at h3
  unfold headP
  constructor <;> dsimp only <;> omega
/-- What the vault is asked of a block's bytes. -/
def openH (s : ByteArray) : HeadT := headP (s.extract 0 48)
def headGood (s : ByteArray) : Prop := (s.extract 0 48).extract 40 48 = bl (List.replicate 8 0) ∧ (s.extract 0 48).extract 0 4 = bl magicL
theorem headOf_good {s : ByteArray} (h : headGood s) : headOfF (s.extract 0 48) = (openH s, 0) := by
  unfold headOfF; unfold headGood at h; rw [if_pos h]; unfold openH; rfl
theorem headOf_bad {s : ByteArray} (h : ¬ headGood s) : headOfF (s.extract 0 48) = (zeroH, 5) := by
  unfold headOfF; unfold headGood at h; rw [if_neg h]
theorem bopen_len (q : View) (v : Value) (V : HProp) (s : ByteArray) (hz : s.size ≠ 512) :
    FnD Tryz.prog q 16 [v, .string s] [V] (.tuple #[.agg ⟨encH zeroH⟩, .string ⟨#[]⟩, .int .i64 1]) [V] := by
  (first | refine FnD.go Tryz.call16 Tryz.func16 rfl rfl rfl ?_ | refine FnX.go Tryz.call16 Tryz.func16 rfl rfl rfl ?_)
  (repeat (first | refine g ?_))
  refine s_alloc fun r => ?_
  (repeat (first | refine g ?_))
  refine s_ceq r (encH zeroH) ?_ ?_
  · rfl
  refine run_ret3 (imp_RD ?_ shut) rfl (res_cell tabOk rfl rfl rfl (by repeat (first | (with_reducible exact At.head) | apply At.tail)) rfl) (res_tmp rfl) (res_tmp rfl)
  rfl
theorem bopen_no (q : View) (v : Value) (V : HProp) (s : ByteArray) (hz : s.size = 512) (hg : ¬ headGood s) :
    FnD Tryz.prog q 16 [v, .string s] [V] (.tuple #[.agg ⟨encH zeroH⟩, .string ⟨#[]⟩, .int .i64 5]) [V] := by
  have ch := headOf_spec q (s.extract 0 48) (by rw [ByteArray.size_extract]; omega)
  rw [headOf_bad hg] at ch
  dsimp only at ch
  have e1 : s.extract (0 : Int).toNat (48 : Int).toNat = s.extract 0 48 := rfl
  obtain ⟨S1, h1⟩ : ∃ S, S = s.extract 0 48 := ⟨_, rfl⟩
  rw [← h1] at ch e1
  (first | refine FnD.go Tryz.call16 Tryz.func16 rfl rfl rfl ?_ | refine FnX.go Tryz.call16 Tryz.func16 rfl rfl rfl ?_)
  (repeat (first | refine g ?_))
  refine s_alloc fun r => ?_
  (repeat (first | refine g ?_))
  refine s_to 16 (v := .string (s.extract (0 : Int).toNat (48 : Int).toNat)) (w := .string S1) (by rw [e1]) ?_
  refine s_call ch ?_
  (repeat (first | refine g ?_))
  refine s_alloc fun r2 => ?_
  (repeat (first | refine g ?_))
  refine s_ceq r (encH zeroH) ?_ ?_
  · rfl
  refine run_ret3 (imp_RD ?_ shut) rfl (res_cell tabOk rfl rfl rfl (by repeat (first | (with_reducible exact At.head) | apply At.tail)) rfl) (res_tmp rfl) (res_tmp rfl)
  rfl
theorem bopen_call (q : View) (v : Value) (V V' : HProp) (s : ByteArray) (hz : s.size = 512) (hg : headGood s) (F : ByteArray) (e : Int)
    (hc : FnD Tryz.prog q 40 [v, .int .i64 (openH s).salt, .string (nonceB (openH s)), .string (s.extract 0 48), .string (s.extract 48 512)] [V] (.tuple #[.string F, .int .i64 e]) [V']) :
    FnD Tryz.prog q 16 [v, .string s] [V] (.tuple #[.agg ⟨encH (if e = 0 then openH s else zeroH)⟩, .string (if e = 0 then F else ⟨#[]⟩), .int .i64 e]) [V'] := by
  have ch := headOf_spec q (s.extract 0 48) (by rw [ByteArray.size_extract]; omega)
  rw [headOf_good hg] at ch
  dsimp only at ch
  have hok := headP_fld (s.extract 0 48)
  have cn := nonce_spec q (openH s) (ok_nonce hok).1 (ok_nonce hok).2 (headP_ok _).a1 (headP_ok _).r1
  have e1 : s.extract (0 : Int).toNat (48 : Int).toNat = s.extract 0 48 := rfl
  have e2 : s.extract (48 : Int).toNat (s.size : Int).toNat = s.extract 48 512 := by rw [hz]; rfl
  obtain ⟨S1, h1⟩ : ∃ S, S = s.extract 0 48 := ⟨_, rfl⟩
  obtain ⟨S2, h2⟩ : ∃ S, S = s.extract 48 512 := ⟨_, rfl⟩
  obtain ⟨H, hH⟩ : ∃ H, H = openH s := ⟨_, rfl⟩
  rw [← h1] at ch e1 hc
  rw [← h2] at e2 hc
  rw [← hH] at ch cn hc ⊢
  unfold encH at ch
  (first | refine FnD.go Tryz.call16 Tryz.func16 rfl rfl rfl ?_ | refine FnX.go Tryz.call16 Tryz.func16 rfl rfl rfl ?_)
  (repeat (first | refine g ?_))
  refine s_alloc fun r => ?_
  (repeat (first | refine g ?_))
  refine s_to 16 (v := .string (s.extract (0 : Int).toNat (48 : Int).toNat)) (w := .string S1) (by rw [e1]) ?_
  refine s_call ch ?_
  (repeat (first | refine g ?_))
  refine s_alloc fun r2 => ?_
  (repeat (first | refine g ?_))
  refine s_ceq r2 (encH H) ?_ ?_
  · rfl
  unfold encH at cn ⊢
  rw [← e1, ← e2] at hc
  refine d_start [V] ?_
  (first | refine d_pure 0 ?_ | refine d_load 0 ?_ | refine d_arith 0 ?_ | refine d_rem 0 ?_ | refine d_quo 0 ?_ | refine d_shrv 0 ?_ | refine d_fieldat 0 ?_ | refine d_idx1 0 ?_ | refine d_index 0 ?_ | refine d_conv64 0 ?_ | refine d_slices 0 ?_ | refine d_concat 0 ?_ | refine d_build 0 ?_)
  (first | refine d_pure 1 ?_ | refine d_load 1 ?_ | refine d_arith 1 ?_ | refine d_rem 1 ?_ | refine d_quo 1 ?_ | refine d_shrv 1 ?_ | refine d_fieldat 1 ?_ | refine d_idx1 1 ?_ | refine d_index 1 ?_ | refine d_conv64 1 ?_ | refine d_slices 1 ?_ | refine d_concat 1 ?_ | refine d_build 1 ?_)
  (first | refine d_pure 2 ?_ | refine d_load 2 ?_ | refine d_arith 2 ?_ | refine d_rem 2 ?_ | refine d_quo 2 ?_ | refine d_shrv 2 ?_ | refine d_fieldat 2 ?_ | refine d_idx1 2 ?_ | refine d_index 2 ?_ | refine d_conv64 2 ?_ | refine d_slices 2 ?_ | refine d_concat 2 ?_ | refine d_build 2 ?_)
  refine d_getall 3 rfl ?_
  (first | refine d_pure 5 ?_ | refine d_load 5 ?_ | refine d_arith 5 ?_ | refine d_rem 5 ?_ | refine d_quo 5 ?_ | refine d_shrv 5 ?_ | refine d_fieldat 5 ?_ | refine d_idx1 5 ?_ | refine d_index 5 ?_ | refine d_conv64 5 ?_ | refine d_slices 5 ?_ | refine d_concat 5 ?_ | refine d_build 5 ?_)
  (first | refine d_pure 6 ?_ | refine d_load 6 ?_ | refine d_arith 6 ?_ | refine d_rem 6 ?_ | refine d_quo 6 ?_ | refine d_shrv 6 ?_ | refine d_fieldat 6 ?_ | refine d_idx1 6 ?_ | refine d_index 6 ?_ | refine d_conv64 6 ?_ | refine d_slices 6 ?_ | refine d_concat 6 ?_ | refine d_build 6 ?_)
  (first | refine d_pure 7 ?_ | refine d_load 7 ?_ | refine d_arith 7 ?_ | refine d_rem 7 ?_ | refine d_quo 7 ?_ | refine d_shrv 7 ?_ | refine d_fieldat 7 ?_ | refine d_idx1 7 ?_ | refine d_index 7 ?_ | refine d_conv64 7 ?_ | refine d_slices 7 ?_ | refine d_concat 7 ?_ | refine d_build 7 ?_)
  (first | refine d_pure 8 ?_ | refine d_load 8 ?_ | refine d_arith 8 ?_ | refine d_rem 8 ?_ | refine d_quo 8 ?_ | refine d_shrv 8 ?_ | refine d_fieldat 8 ?_ | refine d_idx1 8 ?_ | refine d_index 8 ?_ | refine d_conv64 8 ?_ | refine d_slices 8 ?_ | refine d_concat 8 ?_ | refine d_build 8 ?_)
  refine d_call 4 cn ?_
  refine d_call 9 hc ?_
  (first | refine d_pure 10 ?_ | refine d_load 10 ?_ | refine d_arith 10 ?_ | refine d_rem 10 ?_ | refine d_quo 10 ?_ | refine d_shrv 10 ?_ | refine d_fieldat 10 ?_ | refine d_idx1 10 ?_ | refine d_index 10 ?_ | refine d_conv64 10 ?_ | refine d_slices 10 ?_ | refine d_concat 10 ?_ | refine d_build 10 ?_)
  (first | refine d_pure 11 ?_ | refine d_load 11 ?_ | refine d_arith 11 ?_ | refine d_rem 11 ?_ | refine d_quo 11 ?_ | refine d_shrv 11 ?_ | refine d_fieldat 11 ?_ | refine d_idx1 11 ?_ | refine d_index 11 ?_ | refine d_conv64 11 ?_ | refine d_slices 11 ?_ | refine d_concat 11 ?_ | refine d_build 11 ?_)
  (first | refine d_pure 12 ?_ | refine d_load 12 ?_ | refine d_arith 12 ?_ | refine d_rem 12 ?_ | refine d_quo 12 ?_ | refine d_shrv 12 ?_ | refine d_fieldat 12 ?_ | refine d_idx1 12 ?_ | refine d_index 12 ?_ | refine d_conv64 12 ?_ | refine d_slices 12 ?_ | refine d_concat 12 ?_ | refine d_build 12 ?_)
  (first | refine d_pure 13 ?_ | refine d_load 13 ?_ | refine d_arith 13 ?_ | refine d_rem 13 ?_ | refine d_quo 13 ?_ | refine d_shrv 13 ?_ | refine d_fieldat 13 ?_ | refine d_idx1 13 ?_ | refine d_index 13 ?_ | refine d_conv64 13 ?_ | refine d_slices 13 ?_ | refine d_concat 13 ?_ | refine d_build 13 ?_)
  (first | refine d_pure 14 ?_ | refine d_load 14 ?_ | refine d_arith 14 ?_ | refine d_rem 14 ?_ | refine d_quo 14 ?_ | refine d_shrv 14 ?_ | refine d_fieldat 14 ?_ | refine d_idx1 14 ?_ | refine d_index 14 ?_ | refine d_conv64 14 ?_ | refine d_slices 14 ?_ | refine d_concat 14 ?_ | refine d_build 14 ?_)
  refine d_done ?_
  by_cases he : e = 0
  · subst he
    rw [if_pos rfl, if_pos rfl]
    (repeat (first | refine g ?_))
    refine run_ret3 (imp_RD ?_ shut) rfl (res_cell tabOk rfl rfl rfl (by repeat (first | (with_reducible exact At.head) | apply At.tail)) rfl) (res_tmp rfl) (res_tmp rfl)
    rfl
  · rw [if_neg he, if_neg he]
    (repeat (first | refine g ?_))
    refine run_ret3 (imp_RD ?_ shut) rfl (res_cell tabOk rfl rfl rfl (by repeat (first | (with_reducible exact At.head) | apply At.tail)) rfl) (res_tmp rfl) (res_tmp rfl)
    rfl
end Go.Proofs.YtajndpddlpnbkaaGreatDoor.V
/- Told; the law's body. -/
namespace Go.Proofs.YtajndpddlpnbkaaGreatDoor.V
open Go.Proofs.YtajndpddlpnbkaaGreatDoor.VL Go.Proofs.YtajndpddlpnbkaaGreatDoor.VL.RD Go.Proofs.YtajndpddlpnbkaaGreatDoor.VL.Sha
attribute [local irreducible] Run numB
structure ReadT where
  ok : Bool
  head : HeadT
  body : ByteArray
  deriving DecidableEq
def noR : ReadT := ⟨false, zeroH, ⟨#[]⟩⟩
def encR (r : ReadT) : List Value := .bool r.ok :: (encH r.head ++ [.string r.body])
def toldR (H : HeadT) (B : ByteArray) (e : Int) (at_ : Int) : ReadT := if e = 0 ∧ H.addr = at_ then ⟨true, H, B⟩ else noR
theorem btold_spec (q : View) (v : Value) (V V' : HProp) (s : ByteArray) (H : HeadT) (B : ByteArray) (e at_ : Int) 
    (hc : FnD Tryz.prog q 16 [v, .string s] [V] (.tuple #[.agg ⟨encH H⟩, .string B, .int .i64 e]) [V']) :
    FnD Tryz.prog q 35 [v, .string s, .int .i64 at_] [V] (.agg ⟨encR (toldR H B e at_)⟩) [V'] := by
  unfold encH at hc
  (first | refine FnD.go Tryz.call35 Tryz.func35 rfl rfl rfl ?_ | refine FnX.go Tryz.call35 Tryz.func35 rfl rfl rfl ?_)
  (repeat (first | refine g ?_))
  refine s_alloc fun r => ?_
  (repeat (first | refine g ?_))
  refine s_call hc ?_
  (repeat (first | refine g ?_))
  refine s_alloc fun r7 => ?_
  (repeat (first | refine g ?_))
  unfold toldR
  by_cases he : e = 0
  · by_cases ha : H.addr = at_
    · rw [if_pos ⟨he, ha⟩]
      (repeat (first | refine g ?_))
      refine s_ceq r (encR ⟨true, H, B⟩) ?_ ?_
      · rfl
      refine run_ret1 (imp_RD ?_ shut) rfl (res_cell tabOk rfl rfl rfl (by repeat (first | (with_reducible exact At.head) | apply At.tail)) rfl)
      rfl
    · rw [if_neg (fun h => ha h.2)]
      (repeat (first | refine g ?_))
      refine s_ceq r (encR noR) ?_ ?_
      · rfl
      refine run_ret1 (imp_RD ?_ shut) rfl (res_cell tabOk rfl rfl rfl (by repeat (first | (with_reducible exact At.head) | apply At.tail)) rfl)
      rfl
  · rw [if_neg (fun h => he h.1)]
    (repeat (first | refine g ?_))
    refine s_ceq r (encR noR) ?_ ?_
    · rfl
    refine run_ret1 (imp_RD ?_ shut) rfl (res_cell tabOk rfl rfl rfl (by repeat (first | (with_reducible exact At.head) | apply At.tail)) rfl)
    rfl
end Go.Proofs.YtajndpddlpnbkaaGreatDoor.V
/- Blocks under the ideal vault. -/
namespace Go.Proofs.YtajndpddlpnbkaaGreatDoor.V
open Go.Proofs.YtajndpddlpnbkaaGreatDoor.VL Go.Proofs.YtajndpddlpnbkaaGreatDoor.VL.RD Go.Proofs.YtajndpddlpnbkaaGreatDoor.VL.Sha
attribute [local irreducible] Run numB
def bodyF (s : ByteArray) : ByteArray := cutB s 448 ++ bl (List.replicate (448 - (cutB s 448).size) 0)
theorem bl0_size (n : Nat) : (bl (List.replicate n 0)).size = n := by show (List.replicate n (0 : UInt8)).toArray.size = n; rw [List.size_toArray, List.length_replicate]
theorem bodyF_size (s : ByteArray) : (bodyF s).size = 448 := by
  have h := cutB_size s 448
  unfold bodyF
  rw [ByteArray.size_append, bl0_size]; omega
theorem body_spec (q : View) (s : ByteArray) : FnD Tryz.prog q 20 [.string s] [] (.string (bodyF s)) [] := by
  have h448 := cutB_size s 448
  have key : cutB s 448 ++ bl (List.replicate (448 - (cutB s 448).size) 0) = bodyF s := rfl
  (first | refine FnD.go Tryz.call20 Tryz.func20 rfl rfl rfl ?_ | refine FnX.go Tryz.call20 Tryz.func20 rfl rfl rfl ?_)
  by_cases h : 448 < s.size
  · have e : cutB s 448 = s.extract (0 : Int).toNat (448 : Int).toNat := by unfold cutB; rw [if_pos h]; rfl
    rw [e] at h448 key
    obtain ⟨n, hn⟩ : ∃ n, n = 448 - (s.extract (0 : Int).toNat (448 : Int).toNat).size := ⟨_, rfl⟩
    rw [← hn] at key
    (repeat (first | refine g ?_))
    refine s_made 1 n n fun r => ?_
    rw [zeroL_one _ rfl]
    (repeat (first | refine g ?_))
    refine s_stringc (m := n) (o := 0) (c := ⟨List.replicate n (.int .u8 0)⟩) (l := List.replicate n 0) (by simp) (by simp [bv]) ?_
    refine s_concat (b := bl (List.replicate n 0)) (h := by rw [bl0_size]; omega) ?_
    (repeat (first | refine g ?_))
    exact run_ret rfl (imp_RD (by rw [← key]) shut)
  · have e : cutB s 448 = s := by unfold cutB; rw [if_neg h]
    rw [e] at h448 key
    obtain ⟨n, hn⟩ : ∃ n, n = 448 - s.size := ⟨_, rfl⟩
    rw [← hn] at key
    (repeat (first | refine g ?_))
    refine s_made 1 n n fun r => ?_
    rw [zeroL_one _ rfl]
    (repeat (first | refine g ?_))
    refine s_stringc (m := n) (o := 0) (c := ⟨List.replicate n (.int .u8 0)⟩) (l := List.replicate n 0) (by simp) (by simp [bv]) ?_
    refine s_concat (b := bl (List.replicate n 0)) (h := by rw [bl0_size]; omega) ?_
    (repeat (first | refine g ?_))
    exact run_ret rfl (imp_RD (by rw [← key]) shut)
def bsealF (s : VSt) (h : HeadT) (body : ByteArray) : (ByteArray × Int) × VSt :=
  if body.size ≠ 448 then ((⟨#[]⟩, 1), s) else if (fldH h).all okN = true then ((bl (headL h) ++ (body ++ numB (cntN s.es (sealedK h.salt (nonceB h) (bl (headL h)) body)) 16), 0), { s with es := cntL s.es (sealedK h.salt (nonceB h) (bl (headL h)) body) }) else ((⟨#[]⟩, 2), s)
theorem nonceB_size (h : HeadT) : (nonceB h).size = 12 := by
  unfold nonceB
  show (leb h.addr.toNat 4 ++ leb h.ver.toNat 6 ++ [0, 0]).toArray.size = 12
  rw [List.size_toArray, List.length_append, List.length_append, leb_length, leb_length]; rfl
theorem ok_salt {h : HeadT} (hok : (fldH h).all okN = true) : okN (h.salt, 6) = true := by
  unfold fldH at hok
  simp only [List.all_cons, List.all_nil, Bool.and_eq_true] at hok
  exact hok.2.2.2.2.2.2.2.1
theorem bwrong_ok {h : HeadT} (hok : okN (h.salt, 6) = true) (hv : HeadT) : wrongF h.salt (nonceB hv) = false := by
  have h1 := of_decide_eq_true hok
  dsimp only at h1
  have h2 := nonceB_size hv
  unfold wrongF
  apply decide_eq_false
  omega
theorem bseal_ideal (q : View) (v : Nat) (s : VSt) (hs : VOk 1000000 s) (h : HeadT) (hh : HeadOk h) (body : ByteArray) :
    FnD Tryz.prog q 19 [.pointer (some ⟨v, 0, none⟩), .agg ⟨encH h⟩, .string body] [vaultAt v s] (.tuple #[.string (bsealF s h body).1.1, .int .i64 (bsealF s h body).1.2]) [vaultAt v (bsealF s h body).2] := by
  unfold bsealF
  by_cases hz : body.size ≠ 448
  · rw [if_pos hz]
    exact bseal_len q _ _ h body hz
  · rw [if_neg hz]
    have hz : body.size = 448 := by omega
    cases hok : (fldH h).all okN with
    | false =>
      rw [if_neg (by decide)]
      exact bseal_no q _ _ h hh body hz hok
    | true =>
      rw [if_pos rfl]
      have hw := bwrong_ok (ok_salt hok) h
      have hz16 := numB_size (cntN s.es (sealedK h.salt (nonceB h) (bl (headL h)) body)) 16 (by decide)
      have hc := seal_spec q v s hs h.salt (nonceB h) (bl (headL h)) body (by omega)
      unfold sealF at hc
      rw [if_neg (by rw [hw]; decide)] at hc
      have := bseal_call q (.pointer (some ⟨v, 0, none⟩)) _ _ h hh body hz hok _ _ (by dsimp only; rw [ByteArray.size_append]; omega) hc
      rw [if_pos rfl] at this
      exact this
def bopenR (s : VSt) (raw : ByteArray) : ByteArray × Int := openF s (openH raw).salt (nonceB (openH raw)) (raw.extract 0 48) (raw.extract 48 512)
open Classical in
noncomputable def bopenF (s : VSt) (raw : ByteArray) : HeadT × ByteArray × Int :=
  if raw.size ≠ 512 then (zeroH, ⟨#[]⟩, 1) else if headGood raw then (if (bopenR s raw).2 = 0 then openH raw else zeroH, if (bopenR s raw).2 = 0 then (bopenR s raw).1 else ⟨#[]⟩, (bopenR s raw).2)
  else (zeroH, ⟨#[]⟩, 5)
theorem bopenF_len (s : VSt) (raw : ByteArray) (hz : raw.size ≠ 512) : bopenF s raw = (zeroH, ⟨#[]⟩, 1) := by unfold bopenF; rw [if_pos hz]
theorem bopenF_no (s : VSt) (raw : ByteArray) (hz : raw.size = 512) (hg : ¬ headGood raw) : bopenF s raw = (zeroH, ⟨#[]⟩, 5) := by unfold bopenF; rw [if_neg (fun h => h hz), if_neg hg]
theorem bopenF_ok (s : VSt) (raw : ByteArray) (hz : raw.size = 512) (hg : headGood raw) : bopenF s raw = (if (bopenR s raw).2 = 0 then openH raw else zeroH, if (bopenR s raw).2 = 0 then (bopenR s raw).1 else ⟨#[]⟩, (bopenR s raw).2) := by unfold bopenF; rw [if_neg (fun h => h hz), if_pos hg]
theorem bopen_ideal (q : View) (v : Nat) (s : VSt) (hs : VOk 1000000 s) (raw : ByteArray) :
    FnD Tryz.prog q 16 [.pointer (some ⟨v, 0, none⟩), .string raw] [vaultAt v s] (.tuple #[.agg ⟨encH (bopenF s raw).1⟩, .string (bopenF s raw).2.1, .int .i64 (bopenF s raw).2.2]) [vaultAt v s] := by
  by_cases hz : raw.size ≠ 512
  · rw [bopenF_len s raw hz]
    exact bopen_len q _ _ raw hz
  · have hz : raw.size = 512 := by omega
    by_cases hg : headGood raw
    · rw [bopenF_ok s raw hz hg]
      have hc := open_spec q v s hs (openH raw).salt (nonceB (openH raw)) (raw.extract 0 48) (raw.extract 48 512) (by rw [ByteArray.size_extract]; omega)
      obtain ⟨R, hR⟩ : ∃ R, R = bopenR s raw := ⟨_, rfl⟩
      rw [← hR]
      unfold bopenR at hR
      rw [← hR] at hc
      exact bopen_call q _ _ _ raw hz hg _ _ hc
    · rw [bopenF_no s raw hz hg]
      exact bopen_no q _ _ raw hz hg
noncomputable def btoldF (s : VSt) (raw : ByteArray) (at_ : Int) : ReadT := toldR (bopenF s raw).1 (bopenF s raw).2.1 (bopenF s raw).2.2 at_
theorem btold_ideal (q : View) (v : Nat) (s : VSt) (hs : VOk 1000000 s) (raw : ByteArray) (at_ : Int) :
    FnD Tryz.prog q 35 [.pointer (some ⟨v, 0, none⟩), .string raw, .int .i64 at_] [vaultAt v s] (.agg ⟨encR (btoldF s raw at_)⟩) [vaultAt v s] :=
  btold_spec q _ _ _ raw _ _ _ at_ (bopen_ideal q v s hs raw)
end Go.Proofs.YtajndpddlpnbkaaGreatDoor.V
/- What is sealed opens: plain. -/
namespace Go.Proofs.YtajndpddlpnbkaaGreatDoor.V
open Go.Proofs.YtajndpddlpnbkaaGreatDoor.VL Go.Proofs.YtajndpddlpnbkaaGreatDoor.VL.RD Go.Proofs.YtajndpddlpnbkaaGreatDoor.VL.Sha
attribute [local irreducible] Run numB
theorem lev_lebs (s : List UInt8) (o : Nat) : ∀ (i n : Nat), (∀ j, j < i → s.getD (o + j) 0 = UInt8.ofNat (n / 256 ^ j % 256)) → lev s o i = n % 256 ^ i
  | 0, n, _ => by simp [lev, Nat.mod_one]
  | i + 1, n, h => by
    have e : (UInt8.ofNat (n / 256 ^ i % 256)).toNat = n / 256 ^ i % 256 := by rw [UInt8.toNat_ofNat']; exact Nat.mod_eq_of_lt (Nat.mod_lt _ (by decide))
    rw [lev, lev_lebs s o i n (fun j hj => h j (by omega)), h i (by omega), e, Nat.pow_succ 256 i, Nat.mod_mul, Nat.mul_comm (n / 256 ^ i % 256)]
theorem leb_at (n k j : Nat) (h : j < k) : (leb n k).getD j 0 = UInt8.ofNat (n / 256 ^ j % 256) := by
  unfold leb
  simp [List.getD_eq_getElem?_getD, h]
theorem lev_mid (A B : List UInt8) (x : Int) (o w : Nat) (ho : A.length = o) (h : okN (x, w) = true) : ((lev (A ++ (leb x.toNat w ++ B)) o w : Nat) : Int) = x := by
  have h := of_decide_eq_true h
  dsimp only at h
  subst ho
  have hx : x.toNat < 256 ^ w := by
    obtain ⟨n, rfl⟩ : ∃ n : Nat, x = n := ⟨x.toNat, by omega⟩
    have h2 := h.2
    have e : ((n : Nat) : Int) / 2 ^ (8 * w) = ((n / 2 ^ (8 * w) : Nat) : Int) := by rw [Int.natCast_ediv, Int.natCast_pow]; rfl
    rw [e, Nat.pow_mul] at h2
    have h3 : n / 256 ^ w = 0 := by rw [show (2 ^ 8) = 256 from rfl] at h2; omega
    rw [Int.toNat_natCast]
    exact (Nat.div_eq_zero_iff.1 h3).resolve_left (Nat.ne_of_gt (Nat.pow_pos (by decide)))
  rw [lev_lebs _ _ w x.toNat, Nat.mod_eq_of_lt hx]
  · omega
  · intro j hj
    rw [List.getD_eq_getElem?_getD, List.getElem?_append_right (by omega), Nat.add_sub_cancel_left, List.getElem?_append_left (by rw [leb_length]; exact hj), ← List.getD_eq_getElem?_getD, leb_at _ _ _ hj]
theorem headL_eq (h : HeadT) : headL h = magicL ++ (leb h.vol.toNat 6 ++ (leb h.addr.toNat 4 ++ (leb h.kind.toNat 2 ++ (leb h.ino.toNat 4 ++ (leb h.gen.toNat 4 ++ (leb h.index.toNat 4 ++ (leb h.ver.toNat 6 ++ (leb h.salt.toNat 6 ++ List.replicate 8 0)))))))) := by
  unfold headL numsL fldH
  simp [List.append_assoc]
theorem headP_back (h : HeadT) (hok : (fldH h).all okN = true) : headP (bl (headL h)) = h := by
  unfold fldH at hok
  simp only [List.all_cons, List.all_nil, Bool.and_eq_true] at hok
  obtain ⟨o1, o2, o3, o4, o5, o6, o7, o8, _⟩ := hok
  obtain ⟨vol, addr, kind, ino, gen, index, ver, salt⟩ := h
  dsimp only at o1 o2 o3 o4 o5 o6 o7 o8
  have e : (bl (headL ⟨vol, addr, kind, ino, gen, index, ver, salt⟩)).data.toList = headL ⟨vol, addr, kind, ino, gen, index, ver, salt⟩ := rfl
  have hL := headL_eq ⟨vol, addr, kind, ino, gen, index, ver, salt⟩
  dsimp only at hL
  unfold headP
  rw [e, hL]
  congr 1
  · exact lev_mid magicL _ vol 4 6 rfl o1
  · have := lev_mid (magicL ++ leb vol.toNat 6) (leb kind.toNat 2 ++ (leb ino.toNat 4 ++ (leb gen.toNat 4 ++ (leb index.toNat 4 ++ (leb ver.toNat 6 ++ (leb salt.toNat 6 ++ List.replicate 8 0)))))) addr 10 4 (by simp [leb_length, magicL]) o2
    simpa only [List.append_assoc] using this
  · have := lev_mid (magicL ++ leb vol.toNat 6 ++ leb addr.toNat 4) (leb ino.toNat 4 ++ (leb gen.toNat 4 ++ (leb index.toNat 4 ++ (leb ver.toNat 6 ++ (leb salt.toNat 6 ++ List.replicate 8 0))))) kind 14 2 (by simp [leb_length, magicL]) o3
    simpa only [List.append_assoc] using this
  · have := lev_mid (magicL ++ leb vol.toNat 6 ++ leb addr.toNat 4 ++ leb kind.toNat 2) (leb gen.toNat 4 ++ (leb index.toNat 4 ++ (leb ver.toNat 6 ++ (leb salt.toNat 6 ++ List.replicate 8 0)))) ino 16 4 (by simp [leb_length, magicL]) o4
    simpa only [List.append_assoc] using this
  · have := lev_mid (magicL ++ leb vol.toNat 6 ++ leb addr.toNat 4 ++ leb kind.toNat 2 ++ leb ino.toNat 4) (leb index.toNat 4 ++ (leb ver.toNat 6 ++ (leb salt.toNat 6 ++ List.replicate 8 0))) gen 20 4 (by simp [leb_length, magicL]) o5
    simpa only [List.append_assoc] using this
  · have := lev_mid (magicL ++ leb vol.toNat 6 ++ leb addr.toNat 4 ++ leb kind.toNat 2 ++ leb ino.toNat 4 ++ leb gen.toNat 4) (leb ver.toNat 6 ++ (leb salt.toNat 6 ++ List.replicate 8 0)) index 24 4 (by simp [leb_length, magicL]) o6
    simpa only [List.append_assoc] using this
  · have := lev_mid (magicL ++ leb vol.toNat 6 ++ leb addr.toNat 4 ++ leb kind.toNat 2 ++ leb ino.toNat 4 ++ leb gen.toNat 4 ++ leb index.toNat 4) (leb salt.toNat 6 ++ List.replicate 8 0) ver 28 6 (by simp [leb_length, magicL]) o7
    simpa only [List.append_assoc] using this
  · have := lev_mid (magicL ++ leb vol.toNat 6 ++ leb addr.toNat 4 ++ leb kind.toNat 2 ++ leb ino.toNat 4 ++ leb gen.toNat 4 ++ leb index.toNat 4 ++ leb ver.toNat 6) (List.replicate 8 0) salt 34 6 (by simp [leb_length, magicL]) o8
    simpa only [List.append_assoc] using this
theorem headL_inj {h g : HeadT} (hh : (fldH h).all okN = true) (hg : (fldH g).all okN = true) (e : bl (headL h) = bl (headL g)) : h = g := by
  rw [← headP_back h hh, ← headP_back g hg, e]
theorem ext_l {a b : ByteArray} {n : Nat} (h : a.size = n) : (a ++ b).extract 0 n = a := by
  subst h
  rw [ByteArray.extract_append, Nat.sub_self]
  simp
theorem ext_r {a b : ByteArray} {n m : Nat} (h : a.size = n) (h2 : n + b.size = m) : (a ++ b).extract n m = b := by
  subst h h2
  rw [ByteArray.extract_append, Nat.sub_self, Nat.add_sub_cancel_left, ByteArray.extract_zero_size, ByteArray.extract_eq_empty_iff.2 (by omega)]
  exact ByteArray.empty_append
theorem join48 (s : ByteArray) (hz : s.size = 512) : s.extract 0 48 ++ s.extract 48 512 = s := by
  rw [ByteArray.extract_append_extract, show min 0 48 = 0 from rfl, show max 48 512 = 512 from rfl, ← hz, ByteArray.extract_zero_size]
theorem headGood_head (s : ByteArray) (h : HeadT) (e : s.extract 0 48 = bl (headL h)) : headGood s := by
  unfold headGood
  rw [e]
  have hA : (bl (magicL ++ numsL (fldH h))).size = 40 := by show (magicL ++ numsL (fldH h)).toArray.size = 40; rw [List.size_toArray, List.length_append, numsL_len]; rfl
  have hM : (bl magicL).size = 4 := rfl
  have e1 : bl (headL h) = bl (magicL ++ numsL (fldH h)) ++ bl (List.replicate 8 0) := by
    unfold headL bl
    exact ByteArray.ext (by simp)
  have e2 : bl (headL h) = bl magicL ++ bl (numsL (fldH h) ++ List.replicate 8 0) := by
    unfold headL bl
    exact ByteArray.ext (by simp)
  refine ⟨?_, ?_⟩
  · rw [e1]; exact ext_r hA rfl
  · rw [e2]; exact ext_l hM
theorem openH_head (s : ByteArray) (h : HeadT) (hok : (fldH h).all okN = true) (e : s.extract 0 48 = bl (headL h)) : openH s = h := by
  unfold openH
  rw [e, headP_back h hok]
theorem openH_fld (s : ByteArray) : (fldH (openH s)).all okN = true := headP_fld _
/-- A block: its head's bytes, its body, its tag. -/
def blkB (h : HeadT) (body : ByteArray) (c : Nat) : ByteArray := bl (headL h) ++ (body ++ numB c 16)
theorem blkB_parts (h : HeadT) (body : ByteArray) (c : Nat) (hb : body.size = 448) : (blkB h body c).size = 512 ∧ (blkB h body c).extract 0 48 = bl (headL h) ∧ (blkB h body c).extract 48 512 = body ++ numB c 16 := by
  have h1 := headL_size h
  have h2 := numB_size c 16 (by decide)
  have h3 : (body ++ numB c 16).size = 464 := by rw [ByteArray.size_append]; omega
  unfold blkB
  exact ⟨by rw [ByteArray.size_append]; omega, ext_l h1, ext_r h1 (by omega)⟩
/-- That a block opens. -/
noncomputable def opensB (s : VSt) (raw : ByteArray) : Prop := (bopenF s raw).2.2 = 0
theorem opens_good (s : VSt) (raw : ByteArray) (hz : raw.size = 512) (hg : headGood raw) : (bopenF s raw).2.2 = (openF s (openH raw).salt (nonceB (openH raw)) (raw.extract 0 48) (raw.extract 48 512)).2 := by
  have key : ∀ (a : HeadT) (b : ByteArray) (r : ByteArray × Int), ((a, b, r.2) : HeadT × ByteArray × Int).2.2 = r.2 := fun _ _ _ => rfl
  rw [bopenF_ok s raw hz hg]
  exact key _ _ (bopenR s raw)
theorem opens_bad (s : VSt) (raw : ByteArray) (hz : raw.size = 512) (hg : ¬ headGood raw) : (bopenF s raw).2.2 = 5 := by
  rw [bopenF_no s raw hz hg]
theorem okF_iff (s : VSt) (n : Int) (no ad x : ByteArray) : okF s n no ad x = true ↔ (openF s n no ad x).2 = 0 := by
  unfold okF
  exact decide_eq_true_iff
theorem opens_iff (s : VSt) (raw : ByteArray) (hz : raw.size = 512) : opensB s raw ↔ headGood raw ∧ okF s (openH raw).salt (nonceB (openH raw)) (raw.extract 0 48) (raw.extract 48 512) = true := by
  rw [okF_iff]
  unfold opensB
  by_cases hg : headGood raw
  · rw [opens_good s raw hz hg]
    exact ⟨fun h => ⟨hg, h⟩, fun h => h.2⟩
  · rw [opens_bad s raw hz hg]
    exact ⟨fun h => absurd h (by decide), fun h => absurd h.1 hg⟩
theorem ok_none (n : Int) (no ad x : ByteArray) (a : List ByteArray) (b : List (List KV)) : okF ⟨a, b, []⟩ n no ad x = false := by
  unfold okF
  apply decide_eq_false
  rw [open_ok]
  rintro ⟨_, _, m, hm, _⟩
  cases hm
theorem opens_none (raw : ByteArray) (a : List ByteArray) (b : List (List KV)) : ¬ opensB ⟨a, b, []⟩ raw := by
  by_cases hz : raw.size = 512
  · rw [opens_iff _ _ hz, ok_none]
    exact fun h => absurd h.2 (by decide)
  · unfold opensB
    rw [bopenF_len _ _ hz]; decide
/-- Behind a seal a block opens just if it did, or is the one that was sealed. -/
theorem opens_seal (s : VSt) (h : HeadT) (body : ByteArray) (hok : (fldH h).all okN = true) (hb : body.size = 448) (raw : ByteArray) (hz : raw.size = 512) :
    opensB { s with es := cntL s.es (sealedK h.salt (nonceB h) (bl (headL h)) body) } raw ↔ opensB s raw ∨ raw = blkB h body (cntN s.es (sealedK h.salt (nonceB h) (bl (headL h)) body)) := by
  have hw := bwrong_ok (ok_salt hok) h
  obtain ⟨p1, p2, p3⟩ := blkB_parts h body (cntN s.es (sealedK h.salt (nonceB h) (bl (headL h)) body)) hb
  rw [opens_iff _ _ hz, opens_iff _ _ hz, open_seal s _ _ _ _ hw, Bool.or_eq_true]
  simp only [Bool.and_eq_true, decide_eq_true_eq]
  constructor
  · rintro ⟨hg, h1 | ⟨h1, h2, h3, h4⟩⟩
    · exact .inl ⟨hg, h1⟩
    · refine .inr ?_
      rw [← join48 raw hz, ← h3, ← h4]; rfl
  · rintro (⟨h1, h2⟩ | rfl)
    · exact ⟨h1, .inl h2⟩
    · have ho := openH_head _ h hok p2
      refine ⟨headGood_head _ h p2, .inr ?_⟩
      rw [ho, p2, p3]
      exact ⟨rfl, rfl, rfl, rfl⟩
end Go.Proofs.YtajndpddlpnbkaaGreatDoor.V
/- The example; heads compared. -/
namespace Go.Proofs.YtajndpddlpnbkaaGreatDoor.V
open Go.Proofs.YtajndpddlpnbkaaGreatDoor.VL Go.Proofs.YtajndpddlpnbkaaGreatDoor.VL.RD Go.Proofs.YtajndpddlpnbkaaGreatDoor.VL.Sha
attribute [local irreducible] Run numB
abbrev s00 : VSt := ⟨[], [], []⟩
theorem s00_ok : VOk 0 s00 := ⟨Nat.zero_le _, Nat.zero_le _, Nat.zero_le _, by simp, by simp⟩
/-- What the vault knows behind a seal. -/
def sealS (s : VSt) (h : HeadT) (body : ByteArray) : VSt := { s with es := cntL s.es (sealedK h.salt (nonceB h) (bl (headL h)) body) }
def sealC (s : VSt) (h : HeadT) (body : ByteArray) : Nat := cntN s.es (sealedK h.salt (nonceB h) (bl (headL h)) body)
theorem bsealF_ok (s : VSt) (h : HeadT) (body : ByteArray) (hb : body.size = 448) (hok : (fldH h).all okN = true) : bsealF s h body = ((blkB h body (sealC s h body), 0), sealS s h body) := by
  unfold bsealF
  rw [if_neg (fun h => h hb), if_pos hok]
  rfl
theorem bsealF_no (s : VSt) (h : HeadT) (body : ByteArray) (hb : body.size = 448) (hok : (fldH h).all okN = false) : bsealF s h body = ((⟨#[]⟩, 2), s) := by
  unfold bsealF
  rw [if_neg (fun h => h hb), if_neg (by rw [hok]; decide)]
/-- A block that was made is empty or has all its bytes. -/
theorem bsealF_size (s : VSt) (h : HeadT) (body : ByteArray) : (bsealF s h body).1.1.size = 0 ∨ (bsealF s h body).1.1.size = 512 := by
  by_cases hz : body.size = 448
  · cases hok : (fldH h).all okN with
    | false => rw [bsealF_no s h body hz hok]; exact .inl rfl
    | true => rw [bsealF_ok s h body hz hok]; exact .inr (blkB_parts h body _ hz).1
  · unfold bsealF
    rw [if_pos hz]; exact .inl rfl
theorem sealS_ok {n : Nat} {s : VSt} (hs : VOk n s) (h : HeadT) (body : ByteArray) : VOk (n + 1) (sealS s h body) := by
  have hc := (cnt_le s.es (sealedK h.salt (nonceB h) (bl (headL h)) body)).2
  have hm := hs.es
  refine ⟨Nat.le_succ_of_le hs.hs, Nat.le_succ_of_le hs.ms, by show (cntL s.es _).length ≤ _; omega, hs.mo, ?_⟩
  intro k hk
  have hk : k ∈ cntL s.es (sealedK h.salt (nonceB h) (bl (headL h)) body) := hk
  unfold cntL at hk
  split at hk
  · exact hs.eo k hk
  · rcases List.mem_append.1 hk with hk | hk
    · exact hs.eo k hk
    · obtain rfl : k = sealedK h.salt (nonceB h) (bl (headL h)) body := by simpa using hk
      exact ⟨_, _, _, _, rfl⟩
theorem opens_iffS (s : VSt) (h : HeadT) (body : ByteArray) (hok : (fldH h).all okN = true) (hb : body.size = 448) (raw : ByteArray) (hz : raw.size = 512) :
    opensB (sealS s h body) raw ↔ opensB s raw ∨ raw = blkB h body (sealC s h body) := opens_seal s h body hok hb raw hz
theorem bopenF_head (s : VSt) (raw : ByteArray) (hz : raw.size = 512) (ho : opensB s raw) : (bopenF s raw).1 = openH raw := by
  by_cases hg : headGood raw
  · have h0 : (bopenR s raw).2 = 0 := by
      have := opens_good s raw hz hg
      unfold opensB at ho
      rw [ho] at this
      exact this.symm
    rw [bopenF_ok s raw hz hg, if_pos h0]
  · unfold opensB at ho
    rw [opens_bad s raw hz hg] at ho
    exact absurd ho (by decide)
theorem toldR_ok (H : HeadT) (B : ByteArray) (e a : Int) : (toldR H B e a).ok = true ↔ e = 0 ∧ H.addr = a := by
  unfold toldR
  split
  · rename_i h; exact ⟨fun _ => h, fun _ => rfl⟩
  · rename_i h; exact ⟨fun h2 => (by cases h2), fun h2 => absurd h2 h⟩
theorem told_ok (s : VSt) (raw : ByteArray) (a : Int) (hz : raw.size = 512) : (btoldF s raw a).ok = true ↔ opensB s raw ∧ (openH raw).addr = a := by
  unfold btoldF
  rw [toldR_ok]
  constructor
  · rintro ⟨h1, h2⟩
    rw [bopenF_head s raw hz h1] at h2
    exact ⟨h1, h2⟩
  · rintro ⟨h1, h2⟩
    refine ⟨h1, ?_⟩
    rw [bopenF_head s raw hz h1, h2]
theorem openH_block (h : HeadT) (body : ByteArray) (c : Nat) (hb : body.size = 448) (hok : (fldH h).all okN = true) : openH (blkB h body c) = h := openH_head _ h hok (blkB_parts h body c hb).2.1
/-- A block that was just sealed is told at its address alone. -/
theorem told_seal (s : VSt) (h : HeadT) (body : ByteArray) (hb : body.size = 448) (hok : (fldH h).all okN = true) (a : Int) : (btoldF (sealS s h body) (blkB h body (sealC s h body)) a).ok = decide (a = h.addr) := by
  have hz := (blkB_parts h body (sealC s h body) hb).1
  rw [Bool.eq_iff_iff, told_ok _ _ _ hz, openH_block h body _ hb hok, opens_iffS s h body hok hb _ hz, decide_eq_true_eq]
  exact ⟨fun h => h.2.symm, fun h => ⟨.inr rfl, h.symm⟩⟩
def h9 : HeadT := ⟨0, 9, 0, 0, 0, 0, 0, 0⟩
theorem h9_fld : (fldH h9).all okN = true := by decide
theorem h9_ok : HeadOk h9 := by constructor <;> decide
theorem btold_call (q : View) (v : Nat) (s : VSt) (hs : VOk 1000000 s) (raw : ByteArray) (a : Int) (b : Bool) (e : (btoldF s raw a).ok = b) : ∃ H B, FnD Tryz.prog q 35 [.pointer (some ⟨v, 0, none⟩), .string raw, .int .i64 a] [vaultAt v s] (.agg ⟨.bool b :: (encH H ++ [.string B])⟩) [vaultAt v s] := by
  have h := btold_ideal q v s hs raw a
  subst e
  exact ⟨_, _, h⟩
theorem awake6_spec (q : View) : FnD Tryz.prog q 8 [] [] (.bool true) [] := by
  have cb := body_spec q ⟨#[120]⟩
  have hb := bodyF_size ⟨#[120]⟩
  obtain ⟨X, hX⟩ : ∃ X, X = bodyF ⟨#[120]⟩ := ⟨_, rfl⟩
  rw [← hX] at cb hb
  have t9 := told_seal s00 h9 X hb h9_fld 9
  have t10 := told_seal s00 h9 X hb h9_fld 10
  rw [decide_eq_true (show (9 : Int) = h9.addr from rfl)] at t9
  rw [decide_eq_false (show ¬ (10 : Int) = h9.addr by decide)] at t10
  have hz := (blkB_parts h9 X (sealC s00 h9 X) hb).1
  obtain ⟨raw, hraw⟩ : ∃ raw, raw = blkB h9 X (sealC s00 h9 X) := ⟨_, rfl⟩
  have hS := sealS_ok s00_ok h9 X
  rw [← hraw] at hz t9 t10
  obtain ⟨S, hSS⟩ : ∃ S, S = sealS s00 h9 X := ⟨_, rfl⟩
  rw [← hSS] at t9 t10 hS
  (first | refine FnD.go Tryz.call8 Tryz.func8 rfl rfl rfl ?_ | refine FnX.go Tryz.call8 Tryz.func8 rfl rfl rfl ?_)
  (repeat (first | refine g ?_))
  refine s_callx (ideal_new q) fun v => ?_
  have cs := bseal_ideal q v s00 (s00_ok.mono (by decide)) h9 h9_ok X
  rw [bsealF_ok s00 h9 X hb h9_fld, ← hraw, ← hSS] at cs
  dsimp only at cs
  obtain ⟨H1, B1, c9⟩ := btold_call q v S (hS.mono (by decide)) raw 9 true t9
  obtain ⟨H2, B2, c10⟩ := btold_call q v S (hS.mono (by decide)) raw 10 false t10
  (repeat (first | refine g ?_))
  refine s_call cb ?_
  (repeat (first | refine g ?_))
  refine s_call cs ?_
  (repeat (first | refine g ?_))
  refine s_call c9 ?_
  (repeat (first | refine g ?_))
  refine s_call c10 ?_
  (repeat (first | refine g ?_))
  exact run_ret rfl (imp_RD rfl shut)
end Go.Proofs.YtajndpddlpnbkaaGreatDoor.V
/- Heads: compared, in a row; what a vault holds fits. -/
namespace Go.Proofs.YtajndpddlpnbkaaGreatDoor.V
open Go.Proofs.YtajndpddlpnbkaaGreatDoor.VL Go.Proofs.YtajndpddlpnbkaaGreatDoor.VL.RD Go.Proofs.YtajndpddlpnbkaaGreatDoor.VL.Sha
attribute [local irreducible] Run numB
theorem uH : Tryz.prog.underlying 40 = some ty40.und := by kernel_rfl
theorem uI : Tryz.prog.underlying 3 = some (.int .i64) := by kernel_rfl
theorem cH : Tryz.prog.cellsOf 40 = 8 := by kernel_rfl
theorem cI : Tryz.prog.cellsOf 3 = 1 := by kernel_rfl
def litsH (h : HeadT) : List Lit := [.int .i64 h.vol, .int .i64 h.addr, .int .i64 h.kind, .int .i64 h.ino, .int .i64 h.gen, .int .i64 h.index, .int .i64 h.ver, .int .i64 h.salt]
theorem int_litI (d : Nat) (r : Int) (r0 : -9223372036854775808 ≤ r) (r1 : r ≤ 9223372036854775807) : Tryz.prog.keyLits (d + 1) 3 [.int .i64 r] = some [.int .i64 r] := by
  unfold Program.keyLits; rw [uI]
  show (if _ then _ else _) = _
  rw [if_pos ⟨rfl, by simp [Lit.wf, IntKind.min, IntKind.max, IntKind.signed, IntKind.bits]; omega⟩]
theorem head_lits (d : Nat) (h : HeadT) (hh : HeadOk h) : Tryz.prog.keyLits (d + 2) 40 (encH h) = some (litsH h) := by
  obtain ⟨v0, v1, a0, a1, k0, k1, i0, i1, g0, g1, x0, x1, r0, r1, s0, s1⟩ := hh
  have e1 := int_litI d h.vol v0 v1
  have e2 := int_litI d h.addr a0 a1
  have e3 := int_litI d h.kind k0 k1
  have e4 := int_litI d h.ino i0 i1
  have e5 := int_litI d h.gen g0 g1
  have e6 := int_litI d h.index x0 x1
  have e7 := int_litI d h.ver r0 r1
  have e8 := int_litI d h.salt s0 s1
  unfold Program.keyLits
  rw [uH]
  show (if _ then _ else _) = _
  rw [if_pos ⟨by rw [cH]; rfl, by kernel_rfl⟩]
  unfold encH litsH
  simp [List.mapM_cons, cI, e1, e2, e3, e4, e5, e6, e7, e8]
theorem litsH_inj (a b : HeadT) : litsH a = litsH b ↔ a = b := by
  obtain ⟨x1, x2, x3, x4, x5, x6, x7, x8⟩ := a
  obtain ⟨y1, y2, y3, y4, y5, y6, y7, y8⟩ := b
  simp [litsH]
/-! Heads in a row. -/
def HeadsQ (q : View) (p : Option Addr) (l : List HeadT) : Prop := RowQ q p l.length 8 (l.flatMap encH) ∧ ∀ x ∈ l, HeadOk x
theorem enc8 (l : List HeadT) (i : Nat) (x : HeadT) (h : l[i]? = some x) (j : Nat) (hj : j < 8) : (l.flatMap encH)[i * 8 + j]? = (encH x)[j]? := by
  induction l generalizing i with
  | nil => cases h
  | cons y l ih =>
    rw [List.flatMap_cons]
    have e5 : (encH y).length = 8 := rfl
    cases i with
    | zero =>
      obtain rfl := Option.some.inj h
      rw [List.getElem?_append_left (by omega)]; congr 1; omega
    | succ i =>
      rw [List.getElem?_append_right (by omega), e5, show (i + 1) * 8 + j - 8 = i * 8 + j by omega]
      exact ih i h
theorem enc8_len (l : List HeadT) : (l.flatMap encH).length = l.length * 8 := by
  induction l with
  | nil => rfl
  | cons y l ih => rw [List.flatMap_cons, List.length_append, ih, List.length_cons]; show 8 + _ = _; omega
theorem enc8_all (l : List HeadT) (i : Nat) (x : HeadT) (h : l[i]? = some x) : ((l.flatMap encH).drop (i * 8)).take 8 = encH x := by
  apply List.ext_getElem?
  intro j
  rw [List.getElem?_take, List.getElem?_drop]
  split
  · rename_i hj; exact enc8 l i x h j hj
  · rename_i hj; exact (List.getElem?_eq_none (by show 8 ≤ j; omega)).symm
theorem HeadsQ.at {q : View} {p : Option Addr} {l : List HeadT} (h : HeadsQ q p l) (i : Nat) (hi : i < l.length) : ∃ x b o, l[i]? = some x ∧ HeadOk x ∧ p = some ⟨b, o, none⟩ ∧ Old q b o (l.flatMap encH) ∧ ((l.flatMap encH).drop (i * 8)).take 8 = encH x ∧ i * 8 + 8 ≤ (l.flatMap encH).length := by
  obtain ⟨b, o, ep, ho⟩ := h.1.old (by omega)
  have e : l[i]? = some l[i] := List.getElem?_eq_getElem hi
  refine ⟨l[i], b, o, e, h.2 _ (List.getElem_mem hi), ep, ho, enc8_all l i _ e, ?_⟩
  rw [enc8_len]; omega
theorem bsealF_vok {n : Nat} {s : VSt} (hs : VOk n s) (h : HeadT) (body : ByteArray) : VOk (n + 1) (bsealF s h body).2 := by
  by_cases hz : body.size = 448
  · cases hok : (fldH h).all okN with
    | false => rw [bsealF_no s h body hz hok]; exact hs.mono (by omega)
    | true => rw [bsealF_ok s h body hz hok]; exact sealS_ok hs h body
  · unfold bsealF
    rw [if_pos hz]; exact hs.mono (by omega)
theorem zeroH_ok : HeadOk zeroH := by constructor <;> decide
theorem iopenF_fits (s : VSt) (n : Int) (no ad t : ByteArray) : (iopenF s n no ad t).1.size ≤ t.size := by
  unfold iopenF
  split
  · split
    · show (t.extract 0 (t.size - 16)).size ≤ _
      rw [ByteArray.size_extract]; omega
    · exact Nat.zero_le _
  · exact Nat.zero_le _
theorem openF_fits (s : VSt) (n : Int) (no ad t : ByteArray) : (openF s n no ad t).1.size ≤ t.size := by
  unfold openF
  split
  · exact Nat.zero_le _
  · split
    · exact Nat.zero_le _
    · exact iopenF_fits s n no ad t
theorem bopenF_fits (s : VSt) (raw : ByteArray) : HeadOk (bopenF s raw).1 ∧ (bopenF s raw).2.1.size ≤ 1000000 := by
  by_cases hz : raw.size = 512
  · by_cases hg : headGood raw
    · rw [bopenF_ok s raw hz hg]
      dsimp only
      have hf : (bopenR s raw).1.size ≤ 464 := by
        refine Nat.le_trans (openF_fits s _ _ _ _) ?_
        rw [ByteArray.size_extract]; omega
      constructor
      · split
        · exact headP_ok _
        · exact zeroH_ok
      · split
        · omega
        · exact Nat.zero_le _
    · rw [bopenF_no s raw hz hg]; exact ⟨zeroH_ok, Nat.zero_le _⟩
  · rw [bopenF_len s raw hz]; exact ⟨zeroH_ok, Nat.zero_le _⟩
end Go.Proofs.YtajndpddlpnbkaaGreatDoor.V
/- A block of an image; what is authentic there. -/
namespace Go.Proofs.YtajndpddlpnbkaaGreatDoor.V
open Go.Proofs.YtajndpddlpnbkaaGreatDoor.VL Go.Proofs.YtajndpddlpnbkaaGreatDoor.VL.RD Go.Proofs.YtajndpddlpnbkaaGreatDoor.VL.Sha
attribute [local irreducible] Run numB
theorem repeatL_one (n : Nat) : Lib.repeatL [(0 : UInt8)] n = List.replicate n 0 := by
  induction n with
  | zero => rfl
  | succ n ih => rw [List.replicate_succ, ← ih]; rfl
theorem repeat_spec (q : View) (n : Nat) (h : n ≤ 1000000) : FnD Tryz.prog q 67 [.string ⟨#[0]⟩, .int .i64 (n : Int)] [] (.string (bl (List.replicate n 0))) [] :=
  FnD.of_below Tryz.call67 fun w => by
    have := Tryz.strings_Repeat ⟨#[0]⟩ n w (by omega) (by show 1 * n ≤ _; omega)
    refine this.mono ?_
    rintro e' w' ⟨rfl, hb⟩
    exact ⟨by rw [show (⟨#[0]⟩ : ByteArray).data.toList = [0] from rfl, repeatL_one]; rfl, hb⟩
def blankB : ByteArray := bl (List.replicate 512 0)
theorem bblank_spec (q : View) : FnD Tryz.prog q 50 [] [] (.tuple #[.string blankB, .int .i64 255]) [] := by
  have c : FnD Tryz.prog q 67 [.string ⟨#[0]⟩, .int .i64 512] [] (.string blankB) [] := repeat_spec q 512 (by decide)
  obtain ⟨X, hX⟩ : ∃ X, X = blankB := ⟨_, rfl⟩
  rw [← hX] at c ⊢
  (first | refine FnD.go Tryz.call50 Tryz.func50 rfl rfl rfl ?_ | refine FnX.go Tryz.call50 Tryz.func50 rfl rfl rfl ?_)
  (repeat (first | refine g ?_))
  refine s_call c ?_
  (repeat (first | refine g ?_))
  exact run_ret rfl (imp_RD rfl shut)
theorem at_ok (q : View) (pr pm : Option Addr) (cr cm : Nat) (raws : List ByteArray) (masks : List Int) (hm : RowQ q pm masks.length 1 (masks.map (Value.int .i64))) (hlr : raws.length ≤ 1000000) (hlm : masks.length ≤ 9223372036854775807) (i : Nat) (raw : ByteArray) (m : Int) (hi : raws[i]? = some raw) (hmi : masks[i]? = some m) (hz : raw.size = 512) :
    FnD Tryz.prog q 30 [.agg ⟨[.slice pr raws.length cr, .slice pm masks.length cm]⟩, .int .i64 (i : Int)] [sl pr raws.length cr 9 1 (raws.map Value.string)] (.tuple #[.string raw, .int .i64 m]) [sl pr raws.length cr 9 1 (raws.map Value.string)] := by
  have h1 : i < raws.length := (List.getElem?_eq_some_iff.1 hi).1
  have h2 : i < masks.length := (List.getElem?_eq_some_iff.1 hmi).1
  have hx : (raws.map Value.string)[i]? = some (.string raw) := by rw [List.getElem?_map, hi]; rfl
  have hy : (masks.map (Value.int .i64))[i]? = some (.int .i64 m) := by rw [List.getElem?_map, hmi]; rfl
  obtain ⟨bm, om, ep, ho⟩ := hm.old (by omega)
  subst ep
  (first | refine FnD.go Tryz.call30 Tryz.func30 rfl rfl rfl ?_ | refine FnX.go Tryz.call30 Tryz.func30 rfl rfl rfl ?_)
  (repeat (first | refine g ?_ | refine s_flat 3 [(.pure, [0, 2, 5, 7]), (.mem true, [1]), (.pure, [3]), (.mem true, [4]), (.pure, [10]), (.mem true, [6]), (.pure, [8]), (.mem true, [9]), (.pure, [11])] ?_))
  refine s_box fun b2 => ?_
  refine s_ptr pr (h0 := by omega) (fun br er _ _ => ?_)
  subst er
  (repeat (first | refine g ?_ | refine s_flat 3 [(.pure, [0, 2, 5, 7]), (.mem true, [1]), (.pure, [3]), (.mem true, [4]), (.pure, [10]), (.mem true, [6]), (.pure, [8]), (.mem true, [9]), (.pure, [11])] ?_))
  refine s_loadsl hx ?_
  (repeat (first | refine g ?_ | refine s_flat 3 [(.pure, [0, 2, 5, 7]), (.mem true, [1]), (.pure, [3]), (.mem true, [4]), (.pure, [10]), (.mem true, [6]), (.pure, [8]), (.mem true, [9]), (.pure, [11])] ?_))
  refine s_loadsl hx ?_
  (repeat (first | refine g ?_ | refine s_flat 3 [(.pure, [0, 2, 5, 7]), (.mem true, [1]), (.pure, [3]), (.mem true, [4]), (.pure, [10]), (.mem true, [6]), (.pure, [8]), (.mem true, [9]), (.pure, [11])] ?_))
  refine s_idxo (kk := 1) (om + i * 1) ?_
  (repeat (first | refine g ?_ | refine s_flat 3 [(.pure, [0, 2, 5, 7]), (.mem true, [1]), (.pure, [3]), (.mem true, [4]), (.pure, [10]), (.mem true, [6]), (.pure, [8]), (.mem true, [9]), (.pure, [11])] ?_))
  refine s_loado (j := i * 1) ho (by rw [Nat.mul_one]; exact hy) ?_
  (repeat (first | refine g ?_ | refine s_flat 3 [(.pure, [0, 2, 5, 7]), (.mem true, [1]), (.pure, [3]), (.mem true, [4]), (.pure, [10]), (.mem true, [6]), (.pure, [8]), (.mem true, [9]), (.pure, [11])] ?_))
  exact run_ret rfl (imp_RD rfl shut)
theorem at_blank (q : View) (pr pm : Option Addr) (cr cm : Nat) (raws : List ByteArray) (masks : List Int) (hlr : raws.length ≤ 1000000) (hlm : masks.length ≤ 9223372036854775807) (a : Int)
    (hbad : a < 0 ∨ (raws.length : Int) ≤ a ∨ (masks.length : Int) ≤ a ∨ ∃ (i : Nat) (raw : ByteArray), a = i ∧ raws[i]? = some raw ∧ raw.size ≠ 512) :
    FnD Tryz.prog q 30 [.agg ⟨[.slice pr raws.length cr, .slice pm masks.length cm]⟩, .int .i64 a] [sl pr raws.length cr 9 1 (raws.map Value.string)] (.tuple #[.string blankB, .int .i64 255]) [sl pr raws.length cr 9 1 (raws.map Value.string)] := by
  have cb := bblank_spec q
  obtain ⟨X, hX⟩ : ∃ X, X = blankB := ⟨_, rfl⟩
  rw [← hX] at cb ⊢
  by_cases h0 : a < 0
  · (first | refine FnD.go Tryz.call30 Tryz.func30 rfl rfl rfl ?_ | refine FnX.go Tryz.call30 Tryz.func30 rfl rfl rfl ?_)
    (repeat (first | refine g ?_ | refine s_flat 3 [(.pure, [0, 2, 5, 7]), (.mem true, [1]), (.pure, [3]), (.mem true, [4]), (.pure, [10]), (.mem true, [6]), (.pure, [8]), (.mem true, [9]), (.pure, [11])] ?_))
    refine s_box fun b2 => ?_
    (repeat (first | refine g ?_ | refine s_flat 3 [(.pure, [0, 2, 5, 7]), (.mem true, [1]), (.pure, [3]), (.mem true, [4]), (.pure, [10]), (.mem true, [6]), (.pure, [8]), (.mem true, [9]), (.pure, [11])] ?_))
    refine s_call cb ?_
    (repeat (first | refine g ?_ | refine s_flat 3 [(.pure, [0, 2, 5, 7]), (.mem true, [1]), (.pure, [3]), (.mem true, [4]), (.pure, [10]), (.mem true, [6]), (.pure, [8]), (.mem true, [9]), (.pure, [11])] ?_))
    exact run_ret rfl (imp_RD rfl shut)
  by_cases h1 : (raws.length : Int) ≤ a
  · (first | refine FnD.go Tryz.call30 Tryz.func30 rfl rfl rfl ?_ | refine FnX.go Tryz.call30 Tryz.func30 rfl rfl rfl ?_)
    (repeat (first | refine g ?_ | refine s_flat 3 [(.pure, [0, 2, 5, 7]), (.mem true, [1]), (.pure, [3]), (.mem true, [4]), (.pure, [10]), (.mem true, [6]), (.pure, [8]), (.mem true, [9]), (.pure, [11])] ?_))
    refine s_box fun b2 => ?_
    (repeat (first | refine g ?_ | refine s_flat 3 [(.pure, [0, 2, 5, 7]), (.mem true, [1]), (.pure, [3]), (.mem true, [4]), (.pure, [10]), (.mem true, [6]), (.pure, [8]), (.mem true, [9]), (.pure, [11])] ?_))
    refine s_call cb ?_
    (repeat (first | refine g ?_ | refine s_flat 3 [(.pure, [0, 2, 5, 7]), (.mem true, [1]), (.pure, [3]), (.mem true, [4]), (.pure, [10]), (.mem true, [6]), (.pure, [8]), (.mem true, [9]), (.pure, [11])] ?_))
    exact run_ret rfl (imp_RD rfl shut)
  by_cases h2 : (masks.length : Int) ≤ a
  · (first | refine FnD.go Tryz.call30 Tryz.func30 rfl rfl rfl ?_ | refine FnX.go Tryz.call30 Tryz.func30 rfl rfl rfl ?_)
    (repeat (first | refine g ?_ | refine s_flat 3 [(.pure, [0, 2, 5, 7]), (.mem true, [1]), (.pure, [3]), (.mem true, [4]), (.pure, [10]), (.mem true, [6]), (.pure, [8]), (.mem true, [9]), (.pure, [11])] ?_))
    refine s_box fun b2 => ?_
    (repeat (first | refine g ?_ | refine s_flat 3 [(.pure, [0, 2, 5, 7]), (.mem true, [1]), (.pure, [3]), (.mem true, [4]), (.pure, [10]), (.mem true, [6]), (.pure, [8]), (.mem true, [9]), (.pure, [11])] ?_))
    refine s_call cb ?_
    (repeat (first | refine g ?_ | refine s_flat 3 [(.pure, [0, 2, 5, 7]), (.mem true, [1]), (.pure, [3]), (.mem true, [4]), (.pure, [10]), (.mem true, [6]), (.pure, [8]), (.mem true, [9]), (.pure, [11])] ?_))
    exact run_ret rfl (imp_RD rfl shut)
  obtain ⟨i, raw, rfl, hi, hz⟩ : ∃ (i : Nat) (raw : ByteArray), a = i ∧ raws[i]? = some raw ∧ raw.size ≠ 512 := by
    rcases hbad with h | h | h | h
    · exact absurd h h0
    · exact absurd h h1
    · exact absurd h h2
    · exact h
  have h1 : i < raws.length := (List.getElem?_eq_some_iff.1 hi).1
  have hx : (raws.map Value.string)[i]? = some (.string raw) := by rw [List.getElem?_map, hi]; rfl
  (first | refine FnD.go Tryz.call30 Tryz.func30 rfl rfl rfl ?_ | refine FnX.go Tryz.call30 Tryz.func30 rfl rfl rfl ?_)
  (repeat (first | refine g ?_ | refine s_flat 3 [(.pure, [0, 2, 5, 7]), (.mem true, [1]), (.pure, [3]), (.mem true, [4]), (.pure, [10]), (.mem true, [6]), (.pure, [8]), (.mem true, [9]), (.pure, [11])] ?_))
  refine s_box fun b2 => ?_
  refine s_ptr pr (h0 := by omega) (fun br er _ _ => ?_)
  subst er
  (repeat (first | refine g ?_ | refine s_flat 3 [(.pure, [0, 2, 5, 7]), (.mem true, [1]), (.pure, [3]), (.mem true, [4]), (.pure, [10]), (.mem true, [6]), (.pure, [8]), (.mem true, [9]), (.pure, [11])] ?_))
  refine s_loadsl hx ?_
  (repeat (first | refine g ?_ | refine s_flat 3 [(.pure, [0, 2, 5, 7]), (.mem true, [1]), (.pure, [3]), (.mem true, [4]), (.pure, [10]), (.mem true, [6]), (.pure, [8]), (.mem true, [9]), (.pure, [11])] ?_))
  refine s_call cb ?_
  (repeat (first | refine g ?_ | refine s_flat 3 [(.pure, [0, 2, 5, 7]), (.mem true, [1]), (.pure, [3]), (.mem true, [4]), (.pure, [10]), (.mem true, [6]), (.pure, [8]), (.mem true, [9]), (.pure, [11])] ?_))
  exact run_ret rfl (imp_RD rfl shut)
end Go.Proofs.YtajndpddlpnbkaaGreatDoor.V
/- Look; readings compared; heads as they stand in memory. -/
namespace Go.Proofs.YtajndpddlpnbkaaGreatDoor.V
open Go.Proofs.YtajndpddlpnbkaaGreatDoor.VL Go.Proofs.YtajndpddlpnbkaaGreatDoor.VL.RD Go.Proofs.YtajndpddlpnbkaaGreatDoor.VL.Sha
attribute [local irreducible] Run numB
/-! Readings compared. -/
theorem uR : Tryz.prog.underlying 51 = some ty51.und := by kernel_rfl
theorem cR : Tryz.prog.cellsOf 51 = 10 := by kernel_rfl
theorem uBo : Tryz.prog.underlying 4 = some .bool := by kernel_rfl
theorem uSt : Tryz.prog.underlying 9 = some .string := by kernel_rfl
theorem cBo : Tryz.prog.cellsOf 4 = 1 := by kernel_rfl
theorem cSt : Tryz.prog.cellsOf 9 = 1 := by kernel_rfl
def litsR (r : ReadT) : List Lit := .bool r.ok :: (litsH r.head ++ [.string r.body.data.toList])
theorem read_lits (d : Nat) (r : ReadT) (hh : HeadOk r.head) (hb : r.body.size ≤ 9223372036854775807) : Tryz.prog.keyLits (d + 3) 51 (encR r) = some (litsR r) := by
  have lb : Tryz.prog.keyLits (d + 2) 4 [.bool r.ok] = some [.bool r.ok] := by unfold Program.keyLits; rw [uBo]
  have lh := head_lits d r.head hh
  have lt : Tryz.prog.keyLits (d + 2) 9 [.string r.body] = some [.string r.body.data.toList] := by
    unfold Program.keyLits; rw [uSt]
    show (if _ then _ else _) = _
    rw [if_pos (show r.body.size ≤ maxLen from by unfold maxLen; omega)]
  unfold encH at lh
  unfold Program.keyLits
  rw [uR]
  show (if _ then _ else _) = _
  rw [if_pos ⟨by rw [cR]; rfl, by kernel_rfl⟩]
  unfold encR encH litsR
  simp [List.mapM_cons, cBo, cH, cSt, lb, lh, lt]
end Go.Proofs.YtajndpddlpnbkaaGreatDoor.V
