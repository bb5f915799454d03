/- A block on a device: how many blocks there are, a sector, Get. -/
import Derived.Test.YtajndpddlpnbkaaGreatDoorPLa
import Derived.Test.YtajndpddlpnbkaaGreatDoorNAa
import Derived.Test.YtajndpddlpnbkaaGreatDoorVKa
import Derived.Test.YtajndpddlpnbkaaGreatDoorBKa
set_option maxRecDepth 10000
set_option linter.unusedVariables false
namespace Go.Proofs.YtajndpddlpnbkaaGreatDoor.V
open Go.Proofs.YtajndpddlpnbkaaGreatDoor.VL Go.Proofs.YtajndpddlpnbkaaGreatDoor.VL.RD Go.Proofs.YtajndpddlpnbkaaGreatDoor.VL.Sha
attribute [local irreducible] Run numB
/-- Sectors have 64 bytes, or none where nothing was ever written. -/
structure S64 (s : PSt) : Prop where
  cache : ∀ x ∈ s.cache, x.2.size = 64
  held : ∀ x ∈ s.held, x.size = 0 ∨ x.size = 64
/-- What a device tells of a sector that it has, the power being on. -/
def rdF (s : PSt) (a : Int) : ByteArray × Int := match s.cache.reverse.find? (fun x => decide (x.1 = a)) with | some x => (x.2, 0) | none => heldF s a
def rds (s : PSt) (k : Nat) : PSt := { s with reads := s.reads + k }
theorem rds_zero (s : PSt) : rds s 0 = s := by unfold rds; simp
theorem rds_add (s : PSt) (k j : Nat) : rds (rds s k) j = rds s (k + j) := by
  unfold rds
  simp only [PSt.mk.injEq, true_and, and_true]
  omega
theorem readF_down {s : PSt} (h : s.down = true) (a : Int) : readF s a = ((⟨#[]⟩, 20), s) := by unfold readF; rw [if_pos h]
theorem readF_up {s : PSt} (h : s.down = false) (a : Int) (h0 : 0 ≤ a) (h1 : a < s.sectors) : readF s a = (rdF s a, rds s 1) := by
  unfold readF
  rw [if_neg (by rw [h]; decide), if_neg (by omega)]
  rfl
theorem rdF_rds (s : PSt) (k : Nat) (a : Int) : rdF (rds s k) a = rdF s a := rfl
theorem empty_of_size {x : ByteArray} (h : x.size = 0) : x = ⟨#[]⟩ := by
  obtain ⟨⟨l⟩⟩ := x
  have : l.length = 0 := h
  rw [List.length_eq_zero_iff.1 this]
theorem zeros64_size : zeros64.size = 64 := by decide +kernel
/-- It has 64 bytes, or it can't be read. -/
theorem rdF_cases {s : PSt} (h : S64 s) (a : Int) (h0 : 0 ≤ a) (h1 : a < s.sectors) : (rdF s a).2 = 0 ∧ (rdF s a).1.size = 64 ∨ rdF s a = (⟨#[]⟩, 21) := by
  unfold rdF
  split
  · rename_i x hx
    have := List.mem_of_find?_eq_some hx
    exact .inl ⟨rfl, h.cache x (List.mem_reverse.1 this)⟩
  · unfold heldF
    rw [if_neg (by omega)]
    by_cases hd : s.dumb.getD a.toNat false = true
    · rw [if_pos hd]; exact .inr rfl
    · rw [if_neg hd]
      by_cases he : s.held.getD a.toNat ⟨#[]⟩ = ⟨#[]⟩
      · rw [if_pos he]; exact .inl ⟨rfl, zeros64_size⟩
      · rw [if_neg he]
        refine .inl ⟨rfl, ?_⟩
        show (s.held.getD a.toNat ⟨#[]⟩).size = 64
        rw [List.getD_eq_getElem?_getD] at he ⊢
        cases hx : s.held[a.toNat]? with
        | none => rw [hx] at he; exact absurd rfl he
        | some x =>
          rw [hx] at he
          rcases h.held x (List.mem_of_getElem? hx) with hz | hz
          · exact absurd (empty_of_size hz) he
          · exact hz
theorem blocks_spec (q : View) (b : Nat) (s : PSt) (hw : WF s) : FnD Tryz.prog q 36 [.pointer (some ⟨b, 0, none⟩)] [plateAt b s] (.int .i64 (s.sectors / 8)) [plateAt b s] := by
  have h0 := hw.held
  have h1 := hw.sec
  (first | refine FnD.go Tryz.call36 Tryz.func36 rfl rfl rfl ?_ | refine FnX.go Tryz.call36 Tryz.func36 rfl rfl rfl ?_)
  (repeat (first | refine g ?_))
  refine s_call (sectors_spec q b s) ?_
  (repeat (first | refine g ?_))
  exact run_ret rfl (imp_RD rfl shut)
theorem sector_ok (q : View) (b m : Nat) (s s' : PSt) (hw : WF s) (a bit x : Int) (t : ByteArray) (h : readF s a = ((t, 0), s')) :
    FnD Tryz.prog q 42 [.pointer (some ⟨b, 0, none⟩), .int .i64 a, .pointer (some ⟨m, 0, none⟩), .int .i64 bit] [plateAt b s, cells m 3 ⟨[.int .i64 x]⟩] (.tuple #[.string t, .nilIface]) [plateAt b s', cells m 3 ⟨[.int .i64 x]⟩] := by
  have c := read_spec q b s hw a
  rw [h] at c
  dsimp only at c
  (first | refine FnD.go Tryz.call42 Tryz.func42 rfl rfl rfl ?_ | refine FnX.go Tryz.call42 Tryz.func42 rfl rfl rfl ?_)
  (repeat (first | refine g ?_ | refine s_flat 6 [(.pure, [0, 1, 3, 4]), (.mem true, [2]), (.pure, [5, 6]), (.mem false, [7])] ?_))
  refine s_call c ?_
  (repeat (first | refine g ?_ | refine s_flat 6 [(.pure, [0, 1, 3, 4]), (.mem true, [2]), (.pure, [5, 6]), (.mem false, [7])] ?_))
  exact run_ret rfl (imp_RD rfl shut)
theorem sector_off (q : View) (b m : Nat) (s s' : PSt) (hw : WF s) (a bit x e : Int) (t : ByteArray) (h : readF s a = ((t, e), s')) (h0 : e ≠ 0) (h21 : e ≠ 21) :
    FnX Tryz.prog q 42 [.pointer (some ⟨b, 0, none⟩), .int .i64 a, .pointer (some ⟨m, 0, none⟩), .int .i64 bit] [plateAt b s, cells m 3 ⟨[.int .i64 x]⟩]
      (fun f : Nat => .tuple #[.string ⟨#[]⟩, .iface 115 (.pointer (some ⟨f, 0, none⟩))]) fun f => [plateAt b s', cells m 3 ⟨[.int .i64 x]⟩, cells f 117 ⟨[.int .i64 a, .int .i64 e]⟩] := by
  have c := read_spec q b s hw a
  rw [h] at c
  dsimp only at c
  (first | refine FnD.go Tryz.call42 Tryz.func42 rfl rfl rfl ?_ | refine FnX.go Tryz.call42 Tryz.func42 rfl rfl rfl ?_)
  (repeat (first | refine g ?_ | refine s_flat 6 [(.pure, [0, 1, 3, 4]), (.mem true, [2]), (.pure, [5, 6]), (.mem false, [7])] ?_))
  refine s_call c ?_
  (repeat (first | refine g ?_ | refine s_flat 6 [(.pure, [0, 1, 3, 4]), (.mem true, [2]), (.pure, [5, 6]), (.mem false, [7])] ?_))
  refine s_box fun f => ?_
  (repeat (first | refine g ?_ | refine s_flat 6 [(.pure, [0, 1, 3, 4]), (.mem true, [2]), (.pure, [5, 6]), (.mem false, [7])] ?_))
  refine s_mki ?_
  (repeat (first | refine g ?_ | refine s_flat 6 [(.pure, [0, 1, 3, 4]), (.mem true, [2]), (.pure, [5, 6]), (.mem false, [7])] ?_))
  exact run_ret rfl (imp_RX f rfl shut)
theorem or_pow (x i : Nat) (h : x < 2 ^ i) : x ||| 2 ^ i = x + 2 ^ i := by
  have := Nat.two_pow_add_eq_or_of_lt h 1
  rw [Nat.mul_one] at this
  rw [Nat.or_comm, ← this, Nat.add_comm]
theorem sector_bad (q : View) (b m : Nat) (s s' : PSt) (hw : WF s) (a : Int) (t : ByteArray) (h : readF s a = ((t, 21), s')) (i : Nat) (hi : i < 8) (x : Nat) (hx : x < 2 ^ i) :
    FnD Tryz.prog q 42 [.pointer (some ⟨b, 0, none⟩), .int .i64 a, .pointer (some ⟨m, 0, none⟩), .int .i64 (i : Int)] [plateAt b s, cells m 3 ⟨[.int .i64 (x : Int)]⟩] (.tuple #[.string zeros64, .nilIface]) [plateAt b s', cells m 3 ⟨[.int .i64 ((x + 2 ^ i : Nat) : Int)]⟩] := by
  have c := read_spec q b s hw a
  rw [h] at c
  dsimp only at c
  have cz := repeat64 q
  generalize zeros64 = Z at *
  have hor := or_pow x i hx
  have hx8 : x ≤ 255 := by
    have := Nat.pow_le_pow_right (show 2 > 0 by decide) (show i ≤ 8 by omega)
    omega
  rcases (by omega : i = 0 ∨ i = 1 ∨ i = 2 ∨ i = 3 ∨ i = 4 ∨ i = 5 ∨ i = 6 ∨ i = 7) with rfl | rfl | rfl | rfl | rfl | rfl | rfl | rfl
  · (first | refine FnD.go Tryz.call42 Tryz.func42 rfl rfl rfl ?_ | refine FnX.go Tryz.call42 Tryz.func42 rfl rfl rfl ?_)
    (repeat (first | refine g ?_ | refine s_flat 6 [(.pure, [0, 1, 3, 4]), (.mem true, [2]), (.pure, [5, 6]), (.mem false, [7])] ?_))
    refine s_call c ?_
    (repeat (first | refine g ?_ | refine s_flat 6 [(.pure, [0, 1, 3, 4]), (.mem true, [2]), (.pure, [5, 6]), (.mem false, [7])] ?_))
    refine s_call cz ?_
    (repeat (first | refine g ?_ | refine s_flat 6 [(.pure, [0, 1, 3, 4]), (.mem true, [2]), (.pure, [5, 6]), (.mem false, [7])] ?_))
    refine run_ret rfl (imp_RD rfl ?_)
    rw [← hor]
    exact shut
  · (first | refine FnD.go Tryz.call42 Tryz.func42 rfl rfl rfl ?_ | refine FnX.go Tryz.call42 Tryz.func42 rfl rfl rfl ?_)
    (repeat (first | refine g ?_ | refine s_flat 6 [(.pure, [0, 1, 3, 4]), (.mem true, [2]), (.pure, [5, 6]), (.mem false, [7])] ?_))
    refine s_call c ?_
    (repeat (first | refine g ?_ | refine s_flat 6 [(.pure, [0, 1, 3, 4]), (.mem true, [2]), (.pure, [5, 6]), (.mem false, [7])] ?_))
    refine s_call cz ?_
    (repeat (first | refine g ?_ | refine s_flat 6 [(.pure, [0, 1, 3, 4]), (.mem true, [2]), (.pure, [5, 6]), (.mem false, [7])] ?_))
    refine run_ret rfl (imp_RD rfl ?_)
    rw [← hor]
    exact shut
  · (first | refine FnD.go Tryz.call42 Tryz.func42 rfl rfl rfl ?_ | refine FnX.go Tryz.call42 Tryz.func42 rfl rfl rfl ?_)
    (repeat (first | refine g ?_ | refine s_flat 6 [(.pure, [0, 1, 3, 4]), (.mem true, [2]), (.pure, [5, 6]), (.mem false, [7])] ?_))
    refine s_call c ?_
    (repeat (first | refine g ?_ | refine s_flat 6 [(.pure, [0, 1, 3, 4]), (.mem true, [2]), (.pure, [5, 6]), (.mem false, [7])] ?_))
    refine s_call cz ?_
    (repeat (first | refine g ?_ | refine s_flat 6 [(.pure, [0, 1, 3, 4]), (.mem true, [2]), (.pure, [5, 6]), (.mem false, [7])] ?_))
    refine run_ret rfl (imp_RD rfl ?_)
    rw [← hor]
    exact shut
  · (first | refine FnD.go Tryz.call42 Tryz.func42 rfl rfl rfl ?_ | refine FnX.go Tryz.call42 Tryz.func42 rfl rfl rfl ?_)
    (repeat (first | refine g ?_ | refine s_flat 6 [(.pure, [0, 1, 3, 4]), (.mem true, [2]), (.pure, [5, 6]), (.mem false, [7])] ?_))
    refine s_call c ?_
    (repeat (first | refine g ?_ | refine s_flat 6 [(.pure, [0, 1, 3, 4]), (.mem true, [2]), (.pure, [5, 6]), (.mem false, [7])] ?_))
    refine s_call cz ?_
    (repeat (first | refine g ?_ | refine s_flat 6 [(.pure, [0, 1, 3, 4]), (.mem true, [2]), (.pure, [5, 6]), (.mem false, [7])] ?_))
    refine run_ret rfl (imp_RD rfl ?_)
    rw [← hor]
    exact shut
  · (first | refine FnD.go Tryz.call42 Tryz.func42 rfl rfl rfl ?_ | refine FnX.go Tryz.call42 Tryz.func42 rfl rfl rfl ?_)
    (repeat (first | refine g ?_ | refine s_flat 6 [(.pure, [0, 1, 3, 4]), (.mem true, [2]), (.pure, [5, 6]), (.mem false, [7])] ?_))
    refine s_call c ?_
    (repeat (first | refine g ?_ | refine s_flat 6 [(.pure, [0, 1, 3, 4]), (.mem true, [2]), (.pure, [5, 6]), (.mem false, [7])] ?_))
    refine s_call cz ?_
    (repeat (first | refine g ?_ | refine s_flat 6 [(.pure, [0, 1, 3, 4]), (.mem true, [2]), (.pure, [5, 6]), (.mem false, [7])] ?_))
    refine run_ret rfl (imp_RD rfl ?_)
    rw [← hor]
    exact shut
  · (first | refine FnD.go Tryz.call42 Tryz.func42 rfl rfl rfl ?_ | refine FnX.go Tryz.call42 Tryz.func42 rfl rfl rfl ?_)
    (repeat (first | refine g ?_ | refine s_flat 6 [(.pure, [0, 1, 3, 4]), (.mem true, [2]), (.pure, [5, 6]), (.mem false, [7])] ?_))
    refine s_call c ?_
    (repeat (first | refine g ?_ | refine s_flat 6 [(.pure, [0, 1, 3, 4]), (.mem true, [2]), (.pure, [5, 6]), (.mem false, [7])] ?_))
    refine s_call cz ?_
    (repeat (first | refine g ?_ | refine s_flat 6 [(.pure, [0, 1, 3, 4]), (.mem true, [2]), (.pure, [5, 6]), (.mem false, [7])] ?_))
    refine run_ret rfl (imp_RD rfl ?_)
    rw [← hor]
    exact shut
  · (first | refine FnD.go Tryz.call42 Tryz.func42 rfl rfl rfl ?_ | refine FnX.go Tryz.call42 Tryz.func42 rfl rfl rfl ?_)
    (repeat (first | refine g ?_ | refine s_flat 6 [(.pure, [0, 1, 3, 4]), (.mem true, [2]), (.pure, [5, 6]), (.mem false, [7])] ?_))
    refine s_call c ?_
    (repeat (first | refine g ?_ | refine s_flat 6 [(.pure, [0, 1, 3, 4]), (.mem true, [2]), (.pure, [5, 6]), (.mem false, [7])] ?_))
    refine s_call cz ?_
    (repeat (first | refine g ?_ | refine s_flat 6 [(.pure, [0, 1, 3, 4]), (.mem true, [2]), (.pure, [5, 6]), (.mem false, [7])] ?_))
    refine run_ret rfl (imp_RD rfl ?_)
    rw [← hor]
    exact shut
  · (first | refine FnD.go Tryz.call42 Tryz.func42 rfl rfl rfl ?_ | refine FnX.go Tryz.call42 Tryz.func42 rfl rfl rfl ?_)
    (repeat (first | refine g ?_ | refine s_flat 6 [(.pure, [0, 1, 3, 4]), (.mem true, [2]), (.pure, [5, 6]), (.mem false, [7])] ?_))
    refine s_call c ?_
    (repeat (first | refine g ?_ | refine s_flat 6 [(.pure, [0, 1, 3, 4]), (.mem true, [2]), (.pure, [5, 6]), (.mem false, [7])] ?_))
    refine s_call cz ?_
    (repeat (first | refine g ?_ | refine s_flat 6 [(.pure, [0, 1, 3, 4]), (.mem true, [2]), (.pure, [5, 6]), (.mem false, [7])] ?_))
    refine run_ret rfl (imp_RD rfl ?_)
    rw [← hor]
    exact shut
end Go.Proofs.YtajndpddlpnbkaaGreatDoor.V
/- A block is read: Get. -/
namespace Go.Proofs.YtajndpddlpnbkaaGreatDoor.V
open Go.Proofs.YtajndpddlpnbkaaGreatDoor.VL Go.Proofs.YtajndpddlpnbkaaGreatDoor.VL.RD Go.Proofs.YtajndpddlpnbkaaGreatDoor.VL.Sha
attribute [local irreducible] Run numB
def secL (s : PSt) (j : Int) : List UInt8 := if (rdF s j).2 = 0 then (rdF s j).1.data.toList else List.replicate 64 0
def secM (s : PSt) (j : Int) (k : Nat) : Nat := if (rdF s j).2 = 0 then 0 else 2 ^ k
def getL (s : PSt) (a : Int) : Nat → List UInt8
  | 0 => []
  | i + 1 => getL s a i ++ secL s (a * 8 + i)
def getM (s : PSt) (a : Int) : Nat → Nat
  | 0 => 0
  | i + 1 => getM s a i + secM s (a * 8 + i) i
def getF (s : PSt) (a : Int) : (ByteArray × Int × Int) × PSt :=
  if a < 0 ∨ s.sectors / 8 ≤ a then ((⟨#[]⟩, 0, 2), s) else if s.down = true then ((⟨#[]⟩, 0, 20), s) else ((bl (getL s a 8), ((getM s a 8 : Nat) : Int), 0), rds s 8)
theorem secL_len {s : PSt} (h : S64 s) (j : Int) (h0 : 0 ≤ j) (h1 : j < s.sectors) : (secL s j).length = 64 := by
  unfold secL
  rcases rdF_cases h j h0 h1 with ⟨h2, h3⟩ | h2
  · rw [if_pos h2, Array.length_toList]; exact h3
  · rw [if_neg (by rw [h2]; decide), List.length_replicate]
theorem getL_len {s : PSt} (h : S64 s) (a : Int) (h0 : 0 ≤ a) (h1 : a < s.sectors / 8) (i : Nat) (hi : i ≤ 8) : (getL s a i).length = 64 * i := by
  induction i with
  | zero => rfl
  | succ i ih =>
    show (getL s a i ++ secL s (a * 8 + i)).length = _
    rw [List.length_append, ih (by omega), secL_len h _ (by omega) (by omega)]
    omega
theorem getM_lt (s : PSt) (a : Int) (i : Nat) : getM s a i < 2 ^ i := by
  induction i with
  | zero => show 0 < 1; omega
  | succ i ih =>
    show getM s a i + secM s (a * 8 + i) i < _
    rw [Nat.pow_succ]
    unfold secM
    split <;> omega
theorem getL_rds (s : PSt) (k : Nat) (a : Int) (i : Nat) : getL (rds s k) a i = getL s a i := by
  induction i with
  | zero => rfl
  | succ i ih => show getL (rds s k) a i ++ secL (rds s k) (a * 8 + i) = _; rw [ih]; rfl
theorem getM_rds (s : PSt) (k : Nat) (a : Int) (i : Nat) : getM (rds s k) a i = getM s a i := by
  induction i with
  | zero => rfl
  | succ i ih => show getM (rds s k) a i + secM (rds s k) (a * 8 + i) i = _; rw [ih]; rfl
theorem rds_wf {s : PSt} (h : WF s) (k : Nat) (hk : s.reads + k ≤ 1099511627776) : WF (rds s k) :=
  ⟨h.held, h.dumb, h.sec, h.cache, h.size, ⟨by have := h.reads.1; show 0 ≤ s.reads + k; omega, hk⟩, h.writes, h.fuse⟩
theorem run_sl_nil0 {P : Program} {q : View} {fn : Func} {R : Value → HProp} {k : List It} {σ : Facts} {A : List HProp} {t : TypeId} {kk : Nat} (h : Run P q fn R k σ (sl none 0 0 t kk [] :: A)) : Run P q fn R k σ A := h.imp (imp_sl_nil (Imp.refl _))
theorem get_spec (q : View) (hE : ErrQ q) (b : Nat) (s : PSt) (hw : WF s) (h64 : S64 s) (hr : s.reads + 8 ≤ 1099511627776) (a : Int) :
    FnD Tryz.prog q 18 [.pointer (some ⟨b, 0, none⟩), .int .i64 a] [plateAt b s] (.tuple #[.string (getF s a).1.1, .int .i64 (getF s a).1.2.1, .int .i64 (getF s a).1.2.2]) [plateAt b (getF s a).2] := by
  have h0 := hw.held
  have h1 := hw.sec
  have cb := blocks_spec q b s hw
  by_cases ha : a < 0
  · rw [show getF s a = ((⟨#[]⟩, 0, 2), s) from by unfold getF; rw [if_pos (.inl ha)]]
    (first | refine FnD.go Tryz.call18 Tryz.func18 rfl rfl rfl ?_ | refine FnX.go Tryz.call18 Tryz.func18 rfl rfl rfl ?_)
    (repeat (first | refine g ?_))
    exact run_ret rfl (imp_RD rfl shut)
  by_cases ha2 : s.sectors / 8 ≤ a
  · rw [show getF s a = ((⟨#[]⟩, 0, 2), s) from by unfold getF; rw [if_pos (.inr ha2)]]
    (first | refine FnD.go Tryz.call18 Tryz.func18 rfl rfl rfl ?_ | refine FnX.go Tryz.call18 Tryz.func18 rfl rfl rfl ?_)
    (repeat (first | refine g ?_))
    refine s_call cb ?_
    (repeat (first | refine g ?_))
    exact run_ret rfl (imp_RD rfl shut)
  by_cases hd : s.down = true
  · rw [show getF s a = ((⟨#[]⟩, 0, 20), s) from by unfold getF; rw [if_neg (by omega), if_pos hd]]
    have ho := fun m => sector_off q b m s s hw (a * 8 + (0 : Nat)) (0 : Nat) 0 20 ⟨#[]⟩ (readF_down hd _) (by decide) (by decide)
    have hn := fun f => number_spec q hE f (a * 8 + (0 : Nat)) 20
    (first | refine FnD.go Tryz.call18 Tryz.func18 rfl rfl rfl ?_ | refine FnX.go Tryz.call18 Tryz.func18 rfl rfl rfl ?_)
    (repeat (first | refine g ?_))
    refine s_call cb ?_
    (repeat (first | refine g ?_))
    refine s_alloc fun bb => ?_
    (repeat (first | refine g ?_))
    refine s_alloc fun m => ?_
    (repeat (first | refine g ?_))
    refine run_loopI (X := Unit) (fun _ => True) (fun _ => [(0, .pointer (some ⟨b, 0, none⟩)), (1, .int .i64 a), (7, .pointer (some ⟨bb, 0, none⟩)), (8, .pointer (some ⟨m, 0, none⟩)), (22, .int .i64 ((0 : Nat) : Int))])
      (fun _ => [plateAt b s, cells m 3 ⟨[.int .i64 0]⟩]) (fun _ => 0) () trivial fct shut ?_
    intro _ _
    (repeat (first | refine g ?_))
    refine s_callx (ho m) fun f => ?_
    (repeat (first | refine g ?_))
    refine s_ifnil ?_
    (repeat (first | refine g ?_))
    refine s_call (hn f) ?_
    (repeat (first | refine g ?_))
    exact run_ret rfl (imp_RD rfl shut)
  have hdf : s.down = false := by simpa using hd
  rw [show getF s a = ((bl (getL s a 8), ((getM s a 8 : Nat) : Int), 0), rds s 8) from by unfold getF; rw [if_neg (by omega), if_neg hd]]
  (first | refine FnD.go Tryz.call18 Tryz.func18 rfl rfl rfl ?_ | refine FnX.go Tryz.call18 Tryz.func18 rfl rfl rfl ?_)
  (repeat (first | refine g ?_))
  refine s_call cb ?_
  (repeat (first | refine g ?_))
  refine s_alloc fun bb => ?_
  (repeat (first | refine g ?_))
  refine s_alloc fun m => ?_
  (repeat (first | refine g ?_))
  refine run_sl_nil0 (t := 5) (kk := 1) ?_
  refine run_loopI (X := Nat × Bool × Option Addr × Nat) (fun x => x.1 ≤ 8) (fun x => [(0, .pointer (some ⟨b, 0, none⟩)), (1, .int .i64 a), (7, .pointer (some ⟨bb, 0, none⟩)), (8, .pointer (some ⟨m, 0, none⟩)), (22, .int .i64 (x.1 : Int))])
    (fun x => [plateAt b (rds s x.1), cells m 3 ⟨[.int .i64 ((getM s a x.1 : Nat) : Int)]⟩, cells bb 96 ⟨[.pointer (selfP x.2.1 bb), .slice x.2.2.1 (64 * x.1) x.2.2.2]⟩, sl x.2.2.1 (64 * x.1) x.2.2.2 5 1 (bv (getL s a x.1))]) (fun x => 8 - x.1) (0, false, none, 0) (Nat.zero_le _) fct ?_ ?_
  · dsimp only
    rw [rds_zero]
    exact shut
  intro ⟨i, own, p, cap⟩ hi
  dsimp only at hi ⊢
  have hm := getM_lt s a i
  have hl := getL_len h64 a (by omega) (by omega) i hi
  by_cases h8 : i < 8
  · have hup : readF (rds s i) (a * 8 + i) = (rdF s (a * 8 + i), rds s (i + 1)) := by
      rw [readF_up (s := rds s i) hdf _ (by omega) (show a * 8 + i < s.sectors by omega), rds_add]
      rfl
    have hL : ∀ t : ByteArray, t.data.toList = secL s (a * 8 + i) → getL s a (i + 1) = getL s a i ++ t.data.toList := fun t e => by rw [e]; rfl
    have hwi := rds_wf hw i (by omega)
    have eself : selfP true bb = some ⟨bb, 0, none⟩ := rfl
    rcases rdF_cases h64 (a * 8 + i) (by omega) (by omega) with ⟨h2, h3⟩ | h2
    · have e1 : secL s (a * 8 + i) = (rdF s (a * 8 + i)).1.data.toList := by unfold secL; rw [if_pos h2]
      have e2 : getM s a (i + 1) = getM s a i := by show _ + secM s (a * 8 + i) i = _; unfold secM; rw [if_pos h2]; rfl
      have e3 := hL _ e1.symm
      obtain ⟨t, e⟩ : ∃ t, t = (rdF s (a * 8 + i)).1 := ⟨_, rfl⟩
      rw [← e] at e1 e3 h3
      have hup2 : readF (rds s i) (a * 8 + i) = ((t, 0), rds s (i + 1)) := by rw [hup, e, ← h2]
      have cs := fun bit => sector_ok q b m (rds s i) (rds s (i + 1)) hwi (a * 8 + i) bit (getM s a i) t hup2
      have cw := writeString_spec q bb own p (64 * i) cap (getL s a i) t hl (by omega)
      rw [← e3] at cw
      rw [h3, show 64 * i + 64 = 64 * (i + 1) from by omega] at cw
      generalize hg1 : getL s a (i + 1) = L1 at cw
      (repeat (first | refine g ?_))
      refine s_call (cs _) ?_
      (repeat (first | refine g ?_))
      refine s_ifnil ?_
      (repeat (first | refine g ?_))
      refine s_callx cw fun r => ?_
      (repeat (first | refine g ?_))
      refine run_stop_loop (i + 1, true, r.1, r.2) ⟨by dsimp only; omega, by dsimp only; omega⟩ fct ?_
      dsimp only
      rw [eself, e2, hg1]
      exact shut
    · have e1 : secL s (a * 8 + i) = List.replicate 64 0 := by unfold secL; rw [if_neg (by rw [h2]; decide)]
      have e2 : getM s a (i + 1) = getM s a i + 2 ^ i := by show _ + secM s (a * 8 + i) i = _; unfold secM; rw [if_neg (by rw [h2]; decide)]
      have e3 := hL zeros64 e1.symm
      have hz := zeros64_size
      rw [h2] at hup
      have cs := sector_bad q b m (rds s i) (rds s (i + 1)) hwi (a * 8 + i) ⟨#[]⟩ hup i h8 (getM s a i) hm
      generalize zeros64 = t at *
      have cw := writeString_spec q bb own p (64 * i) cap (getL s a i) t hl (by omega)
      rw [← e3] at cw
      rw [hz, show 64 * i + 64 = 64 * (i + 1) from by omega] at cw
      rw [← e2] at cs
      generalize hg1 : getL s a (i + 1) = L1 at cw
      (repeat (first | refine g ?_))
      refine s_call cs ?_
      (repeat (first | refine g ?_))
      refine s_ifnil ?_
      (repeat (first | refine g ?_))
      refine s_callx cw fun r => ?_
      (repeat (first | refine g ?_))
      refine run_stop_loop (i + 1, true, r.1, r.2) ⟨by dsimp only; omega, by dsimp only; omega⟩ fct ?_
      dsimp only
      rw [eself, hg1]
      exact shut
  · obtain rfl : i = 8 := by omega
    have cst := string_spec q bb (selfP own bb) p 512 cap (getL s a 8) (by omega) (by decide) (by decide)
    show Run _ _ _ _ _ _ [plateAt b (rds s 8), cells m 3 ⟨[.int .i64 ((getM s a 8 : Nat) : Int)]⟩, cells bb 96 ⟨[.pointer (selfP own bb), .slice p 512 cap]⟩, sl p 512 cap 5 1 (bv (getL s a 8))]
    (repeat (first | refine g ?_))
    refine d_start [cells bb 96 ⟨[.pointer (selfP own bb), .slice p 512 cap]⟩, sl p 512 cap 5 1 (bv (getL s a 8))] ?_
    (first | refine d_pure 1 ?_ | refine d_load 1 ?_ | refine d_arith 1 ?_ | refine d_rem 1 ?_ | refine d_quo 1 ?_ | refine d_shrv 1 ?_ | refine d_fieldat 1 ?_ | refine d_idx1 1 ?_ | refine d_index 1 ?_ | refine d_conv64 1 ?_ | refine d_slices 1 ?_ | refine d_concat 1 ?_ | refine d_build 1 ?_)
    refine d_call 0 cst ?_
    (first | refine d_pure 2 ?_ | refine d_load 2 ?_ | refine d_arith 2 ?_ | refine d_rem 2 ?_ | refine d_quo 2 ?_ | refine d_shrv 2 ?_ | refine d_fieldat 2 ?_ | refine d_idx1 2 ?_ | refine d_index 2 ?_ | refine d_conv64 2 ?_ | refine d_slices 2 ?_ | refine d_concat 2 ?_ | refine d_build 2 ?_)
    (first | refine d_pure 3 ?_ | refine d_load 3 ?_ | refine d_arith 3 ?_ | refine d_rem 3 ?_ | refine d_quo 3 ?_ | refine d_shrv 3 ?_ | refine d_fieldat 3 ?_ | refine d_idx1 3 ?_ | refine d_index 3 ?_ | refine d_conv64 3 ?_ | refine d_slices 3 ?_ | refine d_concat 3 ?_ | refine d_build 3 ?_)
    (first | refine d_pure 4 ?_ | refine d_load 4 ?_ | refine d_arith 4 ?_ | refine d_rem 4 ?_ | refine d_quo 4 ?_ | refine d_shrv 4 ?_ | refine d_fieldat 4 ?_ | refine d_idx1 4 ?_ | refine d_index 4 ?_ | refine d_conv64 4 ?_ | refine d_slices 4 ?_ | refine d_concat 4 ?_ | refine d_build 4 ?_)
    refine d_done ?_
    (repeat (first | refine g ?_))
    exact run_ret rfl (imp_RD rfl shut)
end Go.Proofs.YtajndpddlpnbkaaGreatDoor.V
/- A block is written: lay, Put. -/
namespace Go.Proofs.YtajndpddlpnbkaaGreatDoor.V
open Go.Proofs.YtajndpddlpnbkaaGreatDoor.VL Go.Proofs.YtajndpddlpnbkaaGreatDoor.VL.RD Go.Proofs.YtajndpddlpnbkaaGreatDoor.VL.Sha
attribute [local irreducible] Run numB
/-- A device that is as it should be; no more was done with it than n steps. -/
structure PW (n : Nat) (s : PSt) : Prop where
  wf : WF s
  s64 : S64 s
  nr : s.reads ≤ n
  nw : s.writes ≤ n
  nc : s.cache.length ≤ n
theorem PW.mono {n m : Nat} {s : PSt} (h : PW n s) (hm : n ≤ m) : PW m s := ⟨h.wf, h.s64, by have := h.nr; omega, by have := h.nw; omega, Nat.le_trans h.nc hm⟩
theorem PW.blank (n : Nat) (h : n ≤ 32768) : PW 0 (blank n) := by
  refine ⟨blank_wf n h, ⟨by simp [V.blank], ?_⟩, by simp [V.blank], by simp [V.blank], by simp [V.blank]⟩
  intro x hx
  have : x = ⟨#[]⟩ := (List.mem_replicate.1 hx).2
  subst this; exact .inl rfl
theorem PW.rds {n : Nat} {s : PSt} (h : PW n s) (k : Nat) (hn : n + k ≤ 1099511627776) : PW (n + k) (rds s k) :=
  ⟨rds_wf h.wf k (by have := h.nr; omega), ⟨h.s64.cache, h.s64.held⟩, by have := h.nr; show s.reads + k ≤ _; omega, by have := h.nw; show s.writes ≤ _; omega, Nat.le_trans h.nc (Nat.le_add_right _ _)⟩
theorem PW.write {n : Nat} {s : PSt} (h : PW n s) (a : Int) (t : ByteArray) (hn : n < 1000000000) : PW (n + 1) (writeF s a t).2 := by
  unfold writeF
  have nr := h.nr
  have nw := h.nw
  have nc := h.nc
  have hw := h.wf.writes
  have hf := h.wf.fuse
  have hm := h.mono (Nat.le_succ n)
  by_cases h0 : (t.size : Int) ≠ 64
  · rw [if_pos h0]; exact hm
  rw [if_neg h0]
  by_cases h1 : s.down = true
  · rw [if_pos h1]; exact hm
  rw [if_neg h1]
  by_cases h2 : a < 0 ∨ s.sectors ≤ a
  · rw [if_pos h2]; exact hm
  rw [if_neg h2]
  by_cases h3 : s.fuse = 0
  · rw [if_pos h3]
    exact ⟨⟨h.wf.held, h.wf.dumb, h.wf.sec, h.wf.cache, h.wf.size, h.wf.reads, h.wf.writes, h.wf.fuse⟩, ⟨h.s64.cache, h.s64.held⟩, hm.nr, hm.nw, hm.nc⟩
  rw [if_neg h3]
  have hfu : -1 ≤ (if 0 < s.fuse then s.fuse - 1 else s.fuse) ∧ (if 0 < s.fuse then s.fuse - 1 else s.fuse) ≤ 9223372036854775807 := by split <;> omega
  generalize (if 0 < s.fuse then s.fuse - 1 else s.fuse) = fu at hfu
  refine ⟨⟨h.wf.held, h.wf.dumb, h.wf.sec, ?_, ?_, h.wf.reads, ⟨by show 0 ≤ s.writes + 1; omega, by show s.writes + 1 ≤ _; omega⟩, hfu⟩, ⟨?_, h.s64.held⟩, hm.nr, by show s.writes + 1 ≤ _; omega, ?_⟩
  · intro x hx
    rcases List.mem_append.1 hx with hx | hx
    · exact h.wf.cache x hx
    · obtain rfl : x = (a, t) := by simpa using hx
      show 0 ≤ a ∧ a < s.sectors
      omega
  · show (s.cache ++ [(a, t)]).length ≤ _
    rw [List.length_append, List.length_singleton]; omega
  · intro x hx
    rcases List.mem_append.1 hx with hx | hx
    · exact h.s64.cache x hx
    · obtain rfl : x = (a, t) := by simpa using hx
      show t.size = 64
      omega
  · show (s.cache ++ [(a, t)]).length ≤ _
    rw [List.length_append, List.length_singleton]; omega
theorem writeF_sectors (s : PSt) (a : Int) (t : ByteArray) : (writeF s a t).2.sectors = s.sectors := by
  unfold writeF
  repeat' split
  all_goals rfl
/-- A block's sector. -/
def secT (raw : ByteArray) (i : Nat) : ByteArray := raw.extract (64 * i) (64 * i + 64)
/-- So many sectors are written, up to the first that fails. -/
def wrN (s : PSt) (base : Int) (raw : ByteArray) : Nat → Int × PSt
  | 0 => (0, s)
  | i + 1 => if (wrN s base raw i).1 = 0 then writeF (wrN s base raw i).2 (base + i) (secT raw i) else wrN s base raw i
theorem wrN_pw {n : Nat} {s : PSt} (h : PW n s) (hn : n < 1000000) (base : Int) (raw : ByteArray) (i : Nat) (hi : i ≤ 8) : PW (n + i) (wrN s base raw i).2 ∧ (wrN s base raw i).2.sectors = s.sectors := by
  induction i with
  | zero => exact ⟨h, rfl⟩
  | succ i ih =>
    have ih := ih (by omega)
    show PW (n + (i + 1)) (if (wrN s base raw i).1 = 0 then writeF (wrN s base raw i).2 (base + i) (secT raw i) else wrN s base raw i).2 ∧ (if (wrN s base raw i).1 = 0 then writeF (wrN s base raw i).2 (base + i) (secT raw i) else wrN s base raw i).2.sectors = s.sectors
    split
    · exact ⟨ih.1.write _ _ (by omega), by rw [writeF_sectors]; exact ih.2⟩
    · exact ⟨ih.1.mono (by omega), ih.2⟩
theorem wrN_stop (s : PSt) (base : Int) (raw : ByteArray) (i j : Nat) (hij : i ≤ j) (h : (wrN s base raw i).1 ≠ 0) : wrN s base raw j = wrN s base raw i := by
  induction j with
  | zero => rw [show i = 0 by omega]
  | succ j ih =>
    by_cases e : i = j + 1
    · rw [e]
    · have := ih (by omega)
      show (if (wrN s base raw j).1 = 0 then _ else wrN s base raw j) = _
      rw [if_neg (by rw [this]; exact h), this]
def faultV (e : Int) (f : Nat) : Value := if e = 0 then .nilIface else .iface 115 (.pointer (some ⟨f, 0, none⟩))
def faultC (e a : Int) (f : Nat) : HProp := if e = 0 then star [] else cells f 117 ⟨[.int .i64 a, .int .i64 e]⟩
theorem blay_spec (q : View) (b : Nat) (s : PSt) (n : Nat) (hw : PW n s) (hn : n < 1000000) (a : Int) (h0 : 0 ≤ a) (h1 : a < s.sectors / 8) (raw : ByteArray) (hr : raw.size = 512) :
    FnX Tryz.prog q 38 [.pointer (some ⟨b, 0, none⟩), .int .i64 a, .string raw] [plateAt b s] (fun f : Nat => faultV (wrN s (a * 8) raw 8).1 f) fun f => [plateAt b (wrN s (a * 8) raw 8).2, faultC (wrN s (a * 8) raw 8).1 a f] := by
  have hsec := hw.wf.sec
  (first | refine FnD.go Tryz.call38 Tryz.func38 rfl rfl rfl ?_ | refine FnX.go Tryz.call38 Tryz.func38 rfl rfl rfl ?_)
  (repeat (first | refine g ?_))
  refine run_loopI (X := Nat) (fun i => i ≤ 8 ∧ (wrN s (a * 8) raw i).1 = 0) (fun i => [(0, .pointer (some ⟨b, 0, none⟩)), (1, .int .i64 a), (2, .string raw), (9, .int .i64 (i : Int))])
    (fun i => [plateAt b (wrN s (a * 8) raw i).2]) (fun i => 8 - i) 0 ⟨Nat.zero_le _, rfl⟩ fct shut ?_
  intro i ⟨hi, hz⟩
  have hp := wrN_pw hw hn (a * 8) raw i hi
  by_cases h8 : i < 8
  · have eF : raw.extract ((i : Int) * 64).toNat (((i : Int) + 1) * 64).toNat = secT raw i := by
      unfold secT
      rw [show ((i : Int) * 64).toNat = 64 * i by omega, show (((i : Int) + 1) * 64).toNat = 64 * i + 64 by omega]
    have eN : wrN s (a * 8) raw (i + 1) = writeF (wrN s (a * 8) raw i).2 (a * 8 + i) (secT raw i) := by show (if _ then _ else _) = _; rw [if_pos hz]
    have cw := write_spec q b (wrN s (a * 8) raw i).2 hp.1.wf (a * 8 + i) (raw.extract ((i : Int) * 64).toNat (((i : Int) + 1) * 64).toNat)
    rw [show writeF (wrN s (a * 8) raw i).2 (a * 8 + i) (raw.extract ((i : Int) * 64).toNat (((i : Int) + 1) * 64).toNat) = wrN s (a * 8) raw (i + 1) by rw [eF, eN]] at cw
    by_cases he : (wrN s (a * 8) raw (i + 1)).1 = 0
    · rw [he] at cw
      (repeat (first | refine g ?_))
      refine s_call cw ?_
      (repeat (first | refine g ?_))
      exact run_stop_loop (i + 1) ⟨⟨by omega, he⟩, by omega⟩ fct shut
    · have e8 := wrN_stop s (a * 8) raw (i + 1) 8 (by omega) he
      rw [e8]
      generalize hR : wrN s (a * 8) raw (i + 1) = R at *
      obtain ⟨e, s'⟩ := R
      dsimp only at he cw ⊢
      (repeat (first | refine g ?_))
      refine s_call cw ?_
      (repeat (first | refine g ?_))
      refine s_box fun f => ?_
      (repeat (first | refine g ?_))
      refine s_mki ?_
      (repeat (first | refine g ?_))
      refine run_ret rfl (imp_RX f ?_ ?_)
      · unfold faultV; rw [if_neg he]
      · unfold faultC; rw [if_neg he]; exact shut
  · obtain rfl : i = 8 := by omega
    rw [hz]
    (repeat (first | refine g ?_))
    refine run_ret rfl (imp_RX 0 ?_ ?_)
    · rfl
    · unfold faultC; rw [if_pos rfl]; apply imp_pick; (repeat (first | (with_reducible exact Pull.head) | apply Pull.tail)); exact imp_star (Imp.refl _)
def bputF (s : PSt) (a : Int) (raw : ByteArray) : Int × PSt := if raw.size ≠ 512 then (1, s) else if a < 0 ∨ s.sectors / 8 ≤ a then (2, s) else wrN s (a * 8) raw 8
theorem bput_spec (q : View) (hE : ErrQ q) (b : Nat) (s : PSt) (n : Nat) (hw : PW n s) (hn : n < 1000000) (a : Int) (raw : ByteArray) (hz : raw.size ≤ 140737488355328) :
    FnD Tryz.prog q 11 [.pointer (some ⟨b, 0, none⟩), .int .i64 a, .string raw] [plateAt b s] (.int .i64 (bputF s a raw).1) [plateAt b (bputF s a raw).2] := by
  have hsec := hw.wf.sec
  have hh := hw.wf.held
  have cb := blocks_spec q b s hw.wf
  by_cases h512 : raw.size ≠ 512
  · rw [show bputF s a raw = (1, s) from by unfold bputF; rw [if_pos h512]]
    (first | refine FnD.go Tryz.call11 Tryz.func11 rfl rfl rfl ?_ | refine FnX.go Tryz.call11 Tryz.func11 rfl rfl rfl ?_)
    (repeat (first | refine g ?_))
    exact run_ret rfl (imp_RD rfl shut)
  by_cases ha : a < 0
  · rw [show bputF s a raw = (2, s) from by unfold bputF; rw [if_neg h512, if_pos (.inl ha)]]
    (first | refine FnD.go Tryz.call11 Tryz.func11 rfl rfl rfl ?_ | refine FnX.go Tryz.call11 Tryz.func11 rfl rfl rfl ?_)
    (repeat (first | refine g ?_))
    exact run_ret rfl (imp_RD rfl shut)
  by_cases ha2 : s.sectors / 8 ≤ a
  · rw [show bputF s a raw = (2, s) from by unfold bputF; rw [if_neg h512, if_pos (.inr ha2)]]
    (first | refine FnD.go Tryz.call11 Tryz.func11 rfl rfl rfl ?_ | refine FnX.go Tryz.call11 Tryz.func11 rfl rfl rfl ?_)
    (repeat (first | refine g ?_))
    refine s_call cb ?_
    (repeat (first | refine g ?_))
    exact run_ret rfl (imp_RD rfl shut)
  have h512 : raw.size = 512 := Decidable.not_not.1 h512
  rw [show bputF s a raw = wrN s (a * 8) raw 8 from by unfold bputF; rw [if_neg (by omega), if_neg (by omega)]]
  have cl := blay_spec q b s n hw hn a (by omega) (by omega) raw h512
  generalize wrN s (a * 8) raw 8 = R at cl ⊢
  obtain ⟨e, s'⟩ := R
  dsimp only at cl ⊢
  by_cases he : e = 0
  · subst he
    have cn := number_nil q
    (first | refine FnD.go Tryz.call11 Tryz.func11 rfl rfl rfl ?_ | refine FnX.go Tryz.call11 Tryz.func11 rfl rfl rfl ?_)
    (repeat (first | refine g ?_))
    refine s_call cb ?_
    (repeat (first | refine g ?_))
    refine s_callx cl fun f => ?_
    unfold faultV faultC
    rw [if_pos rfl, if_pos rfl]
    (repeat (first | refine g ?_))
    refine s_call cn ?_
    (repeat (first | refine g ?_))
    exact run_ret rfl (imp_RD rfl shut)
  · have cn := fun f => number_spec q hE f a e
    (first | refine FnD.go Tryz.call11 Tryz.func11 rfl rfl rfl ?_ | refine FnX.go Tryz.call11 Tryz.func11 rfl rfl rfl ?_)
    (repeat (first | refine g ?_))
    refine s_call cb ?_
    (repeat (first | refine g ?_))
    refine s_callx cl fun f => ?_
    unfold faultV faultC
    rw [if_neg he, if_neg he]
    (repeat (first | refine g ?_))
    refine s_call (cn f) ?_
    (repeat (first | refine g ?_))
    exact run_ret rfl (imp_RD rfl shut)
end Go.Proofs.YtajndpddlpnbkaaGreatDoor.V
/- What is authentic at an address of a device; all that stands on it. -/
namespace Go.Proofs.YtajndpddlpnbkaaGreatDoor.V
open Go.Proofs.YtajndpddlpnbkaaGreatDoor.VL Go.Proofs.YtajndpddlpnbkaaGreatDoor.VL.RD Go.Proofs.YtajndpddlpnbkaaGreatDoor.VL.Sha
attribute [local irreducible] Run numB
/-- A block that can't be had, or not all of it, is no reading. -/
theorem bload_no (q : View) (b : Nat) (v : Value) (W L L' : HProp) (a m e : Int) (raw : ByteArray) (hm : e ≠ 0 ∨ m ≠ 0)
    (cg : FnD Tryz.prog q 18 [.pointer (some ⟨b, 0, none⟩), .int .i64 a] [L] (.tuple #[.string raw, .int .i64 m, .int .i64 e]) [L']) :
    FnD Tryz.prog q 22 [.pointer (some ⟨b, 0, none⟩), v, .int .i64 a] [L, W] (.agg ⟨encR noR⟩) [L', W] := by
  by_cases he : e ≠ 0
  · (first | refine FnD.go Tryz.call22 Tryz.func22 rfl rfl rfl ?_ | refine FnX.go Tryz.call22 Tryz.func22 rfl rfl rfl ?_)
    (repeat (first | refine g ?_))
    refine s_alloc fun r6 => ?_
    (repeat (first | refine g ?_))
    refine s_call cg ?_
    (repeat (first | refine g ?_))
    refine s_ceq r6 (encR noR) ?_ ?_
    · rfl
    refine run_ret1 (imp_RD ?_ shut) rfl (res_cell tabOk rfl rfl rfl (by repeat (first | (with_reducible exact At.head) | apply At.tail)) rfl)
    rfl
  · have he : e = 0 := Decidable.not_not.1 he
    have hm : m ≠ 0 := by omega
    subst he
    (first | refine FnD.go Tryz.call22 Tryz.func22 rfl rfl rfl ?_ | refine FnX.go Tryz.call22 Tryz.func22 rfl rfl rfl ?_)
    (repeat (first | refine g ?_))
    refine s_alloc fun r6 => ?_
    (repeat (first | refine g ?_))
    refine s_call cg ?_
    (repeat (first | refine g ?_))
    refine s_ceq r6 (encR noR) ?_ ?_
    · rfl
    refine run_ret1 (imp_RD ?_ shut) rfl (res_cell tabOk rfl rfl rfl (by repeat (first | (with_reducible exact At.head) | apply At.tail)) rfl)
    rfl
theorem bload_ok (q : View) (b : Nat) (v : Value) (W W' L L' : HProp) (a : Int) (raw : ByteArray) (r : ReadT)
    (cg : FnD Tryz.prog q 18 [.pointer (some ⟨b, 0, none⟩), .int .i64 a] [L] (.tuple #[.string raw, .int .i64 0, .int .i64 0]) [L'])
    (ct : FnD Tryz.prog q 35 [v, .string raw, .int .i64 a] [W] (.agg ⟨encR r⟩) [W']) :
    FnD Tryz.prog q 22 [.pointer (some ⟨b, 0, none⟩), v, .int .i64 a] [L, W] (.agg ⟨encR r⟩) [L', W'] := by
  unfold encR encH at ct
  (first | refine FnD.go Tryz.call22 Tryz.func22 rfl rfl rfl ?_ | refine FnX.go Tryz.call22 Tryz.func22 rfl rfl rfl ?_)
  (repeat (first | refine g ?_))
  refine s_alloc fun r6 => ?_
  (repeat (first | refine g ?_))
  refine s_call cg ?_
  (repeat (first | refine g ?_))
  refine s_call ct ?_
  (repeat (first | refine g ?_))
  refine s_ceq r6 (encR r) ?_ ?_
  · rfl
  refine run_ret1 (imp_RD ?_ shut) rfl (res_cell tabOk rfl rfl rfl (by repeat (first | (with_reducible exact At.head) | apply At.tail)) rfl)
  rfl
/-- What a block of an image of the device is. -/
def allR (s : PSt) (i : Nat) : ByteArray := if s.down = true then blankB else bl (getL s i 8)
def allM (s : PSt) (i : Nat) : Int := if s.down = true then 255 else ((getM s i 8 : Nat) : Int)
def allS (s : PSt) (i : Nat) : PSt := if s.down = true then s else rds s (8 * i)
theorem all_get (s : PSt) (i : Nat) (h1 : (i : Int) < s.sectors / 8) : (getF (allS s i) i).2 = allS s (i + 1) ∧
    (s.down = true ∧ (getF (allS s i) i).1 = (⟨#[]⟩, 0, 20) ∨ s.down = false ∧ (getF (allS s i) i).1 = (allR s i, allM s i, 0)) := by
  unfold allS allR allM
  cases hd : s.down with
  | true =>
    simp only [if_true]
    unfold getF
    rw [if_neg (by omega), if_pos hd]
    exact ⟨rfl, .inl ⟨trivial, rfl⟩⟩
  | false =>
    simp only [Bool.false_eq_true, if_false]
    unfold getF
    rw [if_neg (show ¬ ((i : Int) < 0 ∨ (rds s (8 * i)).sectors / 8 ≤ (i : Int)) by show ¬ ((i : Int) < 0 ∨ s.sectors / 8 ≤ (i : Int)); omega), if_neg (show ¬ (rds s (8 * i)).down = true by show ¬ s.down = true; rw [hd]; decide), getL_rds, getM_rds, rds_add]
    exact ⟨rfl, .inr ⟨trivial, rfl⟩⟩
theorem allS_pw {n : Nat} {s : PSt} (h : PW n s) (i : Nat) (hi : n + 8 * i ≤ 1000000) : PW (n + 8 * i) (allS s i) := by
  unfold allS
  split
  · exact h.mono (Nat.le_add_right _ _)
  · exact h.rds _ (by omega)
def rawsL (s : PSt) (n : Nat) : List ByteArray := (List.range n).map (allR s)
def masksL (s : PSt) (n : Nat) : List Int := (List.range n).map (allM s)
theorem rawsL_succ (s : PSt) (n : Nat) : rawsL s (n + 1) = rawsL s n ++ [allR s n] := by unfold rawsL; rw [List.range_succ, List.map_append]; rfl
theorem masksL_succ (s : PSt) (n : Nat) : masksL s (n + 1) = masksL s n ++ [allM s n] := by unfold masksL; rw [List.range_succ, List.map_append]; rfl
theorem rawsL_len (s : PSt) (n : Nat) : (rawsL s n).length = n := by unfold rawsL; simp
theorem masksL_len (s : PSt) (n : Nat) : (masksL s n).length = n := by unfold masksL; simp
theorem ball_spec (q : View) (hE : ErrQ q) (b : Nat) (s : PSt) (n : Nat) (hw : PW n s) (hn : n ≤ 500000) :
    FnX Tryz.prog q 28 [.pointer (some ⟨b, 0, none⟩)] [plateAt b s] (fun x : Option Addr × Nat × Option Addr × Nat => .agg ⟨[.slice x.1 (s.sectors / 8).toNat x.2.1, .slice x.2.2.1 (s.sectors / 8).toNat x.2.2.2]⟩)
      fun x => [plateAt b (allS s (s.sectors / 8).toNat), sl x.1 (s.sectors / 8).toNat x.2.1 9 1 ((rawsL s (s.sectors / 8).toNat).map Value.string), sl x.2.2.1 (s.sectors / 8).toNat x.2.2.2 3 1 ((masksL s (s.sectors / 8).toNat).map (Value.int .i64))] := by
  have hsec := hw.wf.sec
  have hh := hw.wf.held
  have cb := blocks_spec q b s hw.wf
  obtain ⟨m, hm⟩ : ∃ m : Nat, s.sectors / 8 = m := ⟨(s.sectors / 8).toNat, by omega⟩
  rw [hm] at cb ⊢
  rw [show ((m : Int)).toNat = m from rfl]
  have hm2 : m ≤ 4096 := by omega
  have cbl := bblank_spec q
  (first | refine FnD.go Tryz.call28 Tryz.func28 rfl rfl rfl ?_ | refine FnX.go Tryz.call28 Tryz.func28 rfl rfl rfl ?_)
  (repeat (first | refine g ?_))
  refine s_alloc fun res => ?_
  (repeat (first | refine g ?_))
  refine s_alloc fun im => ?_
  (repeat (first | refine g ?_))
  refine s_call cb ?_
  (repeat (first | refine g ?_))
  refine run_sl_nil0 (t := 9) (kk := 1) ?_
  refine run_sl_nil0 (t := 3) (kk := 1) ?_
  refine run_loopI (X := Nat × Option Addr × Nat × Option Addr × Nat) (fun x => x.1 ≤ m) (fun x => [(0, .pointer (some ⟨b, 0, none⟩)), (2, .pointer (some ⟨res, 0, none⟩)), (3, .pointer (some ⟨im, 0, none⟩)), (9, .int .i64 (m : Int)), (10, .int .i64 (x.1 : Int))])
    (fun x => [cells res 62 ⟨[.slice none 0 0, .slice none 0 0]⟩, cells im 62 ⟨[.slice x.2.1 x.1 x.2.2.1, .slice x.2.2.2.1 x.1 x.2.2.2.2]⟩, plateAt b (allS s x.1), sl x.2.1 x.1 x.2.2.1 9 1 ((rawsL s x.1).map Value.string), sl x.2.2.2.1 x.1 x.2.2.2.2 3 1 ((masksL s x.1).map (Value.int .i64))]) (fun x => m - x.1) (0, none, 0, none, 0) (Nat.zero_le _) fct ?_ ?_
  · dsimp only
    rw [show allS s 0 = s from by unfold allS; split; rfl; exact rds_zero s]
    exact shut
  intro ⟨i, pr, cr, pm, cm⟩ hi
  dsimp only at hi ⊢
  by_cases h8 : i < m
  · have hp := allS_pw hw i (by omega)
    have hg := all_get s i (by omega)
    have cg := get_spec q hE b (allS s i) hp.wf hp.s64 (by have := hp.nr; omega) i
    rw [hg.1] at cg
    rcases hg.2 with ⟨hd, he⟩ | ⟨hd, he⟩
    · rw [he] at cg
      dsimp only at cg
      have er : allR s i = blankB := by unfold allR; rw [if_pos hd]
      have em : allM s i = 255 := by unfold allM; rw [if_pos hd]
      rw [← er, ← em] at cbl
      (repeat (first | refine g ?_))
      refine s_call cg ?_
      (repeat (first | refine g ?_))
      refine s_call cbl ?_
      (repeat (first | refine g ?_))
      refine s_built fun r1 => ?_
      (repeat (first | refine g ?_))
      refine s_app 1 16 (reads_own At.head rfl) (hxl := by rw [List.length_map, rawsL_len, Nat.mul_one]) fun r2 => ?_
      (repeat (first | refine g ?_))
      refine s_built fun r3 => ?_
      (repeat (first | refine g ?_))
      refine s_app 1 8 (reads_own At.head rfl) (hxl := by rw [List.length_map, masksL_len, Nat.mul_one]) fun r4 => ?_
      (repeat (first | refine g ?_))
      refine run_stop_loop (i + 1, r2.1, r2.2, r4.1, r4.2) ⟨by dsimp only; omega, by dsimp only; omega⟩ fct ?_
      dsimp only
      rw [rawsL_succ, masksL_succ, List.map_append, List.map_append]
      exact shut
    · rw [he] at cg
      dsimp only at cg
      (repeat (first | refine g ?_))
      refine s_call cg ?_
      (repeat (first | refine g ?_))
      refine s_built fun r1 => ?_
      (repeat (first | refine g ?_))
      refine s_app 1 16 (reads_own At.head rfl) (hxl := by rw [List.length_map, rawsL_len, Nat.mul_one]) fun r2 => ?_
      (repeat (first | refine g ?_))
      refine s_built fun r3 => ?_
      (repeat (first | refine g ?_))
      refine s_app 1 8 (reads_own At.head rfl) (hxl := by rw [List.length_map, masksL_len, Nat.mul_one]) fun r4 => ?_
      (repeat (first | refine g ?_))
      refine run_stop_loop (i + 1, r2.1, r2.2, r4.1, r4.2) ⟨by dsimp only; omega, by dsimp only; omega⟩ fct ?_
      dsimp only
      rw [rawsL_succ, masksL_succ, List.map_append, List.map_append]
      exact shut
  · obtain rfl : i = m := by omega
    (repeat (first | refine g ?_))
    refine run_ret1 (imp_RX (pr, cr, pm, cm) ?_ shut) rfl (res_cell tabOk rfl rfl rfl (by repeat (first | (with_reducible exact At.head) | apply At.tail)) rfl)
    rfl
end Go.Proofs.YtajndpddlpnbkaaGreatDoor.V
/- The document's block on a device: Get, Put; both stand alike. -/
namespace Go.Proofs.YtajndpddlpnbkaaGreatDoor.V
open Go.Proofs.YtajndpddlpnbkaaGreatDoor.VL Go.Proofs.YtajndpddlpnbkaaGreatDoor.VL.RD Go.Proofs.YtajndpddlpnbkaaGreatDoor.VL.Sha
attribute [local irreducible] Run numB
def qwrN (s : QSt) (base : Int) (raw : ByteArray) : Nat → Int × QSt
  | 0 => (0, s)
  | i + 1 => if (qwrN s base raw i).1 = 0 then qWriteF (qwrN s base raw i).2 (base + i) (secT raw i) else qwrN s base raw i
theorem qwrN_stop (s : QSt) (base : Int) (raw : ByteArray) (i j : Nat) (hij : i ≤ j) (h : (qwrN s base raw i).1 ≠ 0) : qwrN s base raw j = qwrN s base raw i := by
  induction j with
  | zero => rw [show i = 0 by omega]
  | succ j ih =>
    by_cases e : i = j + 1
    · rw [e]
    · have := ih (by omega)
      show (if (qwrN s base raw j).1 = 0 then _ else qwrN s base raw j) = _
      rw [if_neg (by rw [this]; exact h), this]
/-- Both devices take a block alike. -/
theorem Both.wrN {n : Nat} {s : PSt} {t : QSt} (h : Both n s t) (hn : n < 100000) (base : Int) (raw : ByteArray) (i : Nat) (hi : i ≤ 8) :
    (qwrN t base raw i).1 = (V.wrN s base raw i).1 ∧ Both (n + i) (V.wrN s base raw i).2 (qwrN t base raw i).2 ∧ (V.wrN s base raw i).2.sectors = s.sectors := by
  induction i with
  | zero => exact ⟨rfl, h, rfl⟩
  | succ i ih =>
    obtain ⟨h1, h2, h3⟩ := ih (by omega)
    show (if (qwrN t base raw i).1 = 0 then qWriteF (qwrN t base raw i).2 (base + i) (secT raw i) else qwrN t base raw i).1 = (if (V.wrN s base raw i).1 = 0 then writeF (V.wrN s base raw i).2 (base + i) (secT raw i) else V.wrN s base raw i).1 ∧
      Both (n + (i + 1)) (if (V.wrN s base raw i).1 = 0 then writeF (V.wrN s base raw i).2 (base + i) (secT raw i) else V.wrN s base raw i).2 (if (qwrN t base raw i).1 = 0 then qWriteF (qwrN t base raw i).2 (base + i) (secT raw i) else qwrN t base raw i).2 ∧
      (if (V.wrN s base raw i).1 = 0 then writeF (V.wrN s base raw i).2 (base + i) (secT raw i) else V.wrN s base raw i).2.sectors = s.sectors
    rw [h1]
    by_cases hz : (V.wrN s base raw i).1 = 0
    · rw [if_pos hz, if_pos hz]
      have := h2.write (base + i) (secT raw i) (by omega)
      exact ⟨this.1, this.2, by rw [writeF_sectors]; exact h3⟩
    · rw [if_neg hz, if_neg hz]
      exact ⟨h1, h2.mono (by omega), h3⟩
def qbputF (s : QSt) (a : Int) (raw : ByteArray) : Int × QSt := if raw.size ≠ 512 then (1, s) else if a < 0 ∨ (s.kept.length : Int) / 8 ≤ a then (2, s) else qwrN s (8 * a) raw 8
theorem Both.bput {n : Nat} {s : PSt} {t : QSt} (h : Both n s t) (hn : n < 100000) (a : Int) (raw : ByteArray) : (qbputF t a raw).1 = (bputF s a raw).1 ∧ Both (n + 8) (bputF s a raw).2 (qbputF t a raw).2 := by
  unfold qbputF bputF
  rw [← h.sec]
  by_cases h0 : raw.size ≠ 512
  · rw [if_pos h0, if_pos h0]; exact ⟨rfl, h.mono (by omega)⟩
  rw [if_neg h0, if_neg h0]
  by_cases h2 : a < 0 ∨ s.sectors / 8 ≤ a
  · rw [if_pos h2, if_pos h2]; exact ⟨rfl, h.mono (by omega)⟩
  rw [if_neg h2, if_neg h2, Int.mul_comm 8 a]
  have := h.wrN hn (a * 8) raw 8 (by omega)
  exact ⟨this.1, this.2.1⟩
theorem qbput_spec (q : View) (b : Nat) (s : PSt) (t : QSt) (n : Nat) (h : Both n s t) (hn : n < 100000) (a : Int) (raw : ByteArray) (hz : raw.size ≤ 140737488355328) :
    FnD Tryz.prog q 12 [.pointer (some ⟨b, 0, none⟩), .int .i64 a, .string raw] [qAt b t] (.int .i64 (qbputF t a raw).1) [qAt b (qbputF t a raw).2] := by
  have hsec := h.qw.sec
  by_cases h512 : raw.size ≠ 512
  · rw [show qbputF t a raw = (1, t) from by unfold qbputF; rw [if_pos h512]]
    (first | refine FnD.go Tryz.call12 Tryz.func12 rfl rfl rfl ?_ | refine FnX.go Tryz.call12 Tryz.func12 rfl rfl rfl ?_)
    (repeat (first | refine g ?_))
    exact run_ret rfl (imp_RD rfl shut)
  by_cases ha : a < 0
  · rw [show qbputF t a raw = (2, t) from by unfold qbputF; rw [if_neg h512, if_pos (.inl ha)]]
    (first | refine FnD.go Tryz.call12 Tryz.func12 rfl rfl rfl ?_ | refine FnX.go Tryz.call12 Tryz.func12 rfl rfl rfl ?_)
    (repeat (first | refine g ?_))
    exact run_ret rfl (imp_RD rfl shut)
  by_cases ha2 : (t.kept.length : Int) / 8 ≤ a
  · rw [show qbputF t a raw = (2, t) from by unfold qbputF; rw [if_neg h512, if_pos (.inr ha2)]]
    (first | refine FnD.go Tryz.call12 Tryz.func12 rfl rfl rfl ?_ | refine FnX.go Tryz.call12 Tryz.func12 rfl rfl rfl ?_)
    (repeat (first | refine g ?_))
    refine run_q fun pk ck pd cd pw cw => ?_
    unfold qParts
    (repeat (first | refine g ?_))
    exact run_ret rfl (imp_RD rfl (imp_q shut))
  have h512 : raw.size = 512 := Decidable.not_not.1 h512
  rw [show qbputF t a raw = qwrN t (8 * a) raw 8 from by unfold qbputF; rw [if_neg (by omega), if_neg (by omega)]]
  (first | refine FnD.go Tryz.call12 Tryz.func12 rfl rfl rfl ?_ | refine FnX.go Tryz.call12 Tryz.func12 rfl rfl rfl ?_)
  (repeat (first | refine g ?_))
  refine run_q fun pk ck pd cd pw cw => ?_
  unfold qParts
  (repeat (first | refine g ?_))
  refine run_loopI (X := Nat) (fun i => i ≤ 8 ∧ (qwrN t (8 * a) raw i).1 = 0) (fun i => [(0, .pointer (some ⟨b, 0, none⟩)), (1, .int .i64 a), (2, .string raw), (7, .int .i64 (i : Int))])
    (fun i => [qAt b (qwrN t (8 * a) raw i).2]) (fun i => 8 - i) 0 ⟨Nat.zero_le _, rfl⟩ fct (imp_q shut) ?_
  intro i ⟨hi, hz⟩
  have hp := h.wrN hn (8 * a) raw i hi
  by_cases h8 : i < 8
  · have eF : raw.extract (64 * (i : Int)).toNat (64 * (i : Int) + 64).toNat = secT raw i := by
      unfold secT
      rw [show (64 * (i : Int)).toNat = 64 * i by omega, show (64 * (i : Int) + 64).toNat = 64 * i + 64 by omega]
    have eN : qwrN t (8 * a) raw (i + 1) = qWriteF (qwrN t (8 * a) raw i).2 (8 * a + i) (secT raw i) := by show (if _ then _ else _) = _; rw [if_pos hz]
    have cw := qwrite_spec q b (qwrN t (8 * a) raw i).2 hp.2.1.qw (8 * a + i) (raw.extract (64 * (i : Int)).toNat (64 * (i : Int) + 64).toNat)
    rw [show qWriteF (qwrN t (8 * a) raw i).2 (8 * a + i) (raw.extract (64 * (i : Int)).toNat (64 * (i : Int) + 64).toNat) = qwrN t (8 * a) raw (i + 1) by rw [eF, eN]] at cw
    by_cases he : (qwrN t (8 * a) raw (i + 1)).1 = 0
    · rw [he] at cw
      (repeat (first | refine g ?_))
      refine s_call cw ?_
      (repeat (first | refine g ?_))
      exact run_stop_loop (i + 1) ⟨⟨by omega, he⟩, by omega⟩ fct shut
    · have e8 := qwrN_stop t (8 * a) raw (i + 1) 8 (by omega) he
      rw [e8]
      generalize hR : qwrN t (8 * a) raw (i + 1) = R at *
      obtain ⟨e, s'⟩ := R
      dsimp only at he cw ⊢
      (repeat (first | refine g ?_))
      refine s_call cw ?_
      (repeat (first | refine g ?_))
      exact run_ret rfl (imp_RD rfl shut)
  · obtain rfl : i = 8 := by omega
    rw [hz]
    (repeat (first | refine g ?_))
    exact run_ret rfl (imp_RD rfl shut)
end Go.Proofs.YtajndpddlpnbkaaGreatDoor.V
/- The document's Get; both devices with marks on them. -/
namespace Go.Proofs.YtajndpddlpnbkaaGreatDoor.V
open Go.Proofs.YtajndpddlpnbkaaGreatDoor.VL Go.Proofs.YtajndpddlpnbkaaGreatDoor.VL.RD Go.Proofs.YtajndpddlpnbkaaGreatDoor.VL.Sha
attribute [local irreducible] Run numB
def qrds (t : QSt) (k : Nat) : QSt := { t with reads := t.reads + k }
theorem qrds_zero (t : QSt) : qrds t 0 = t := by unfold qrds; simp
theorem qrds_add (s : QSt) (k j : Nat) : qrds (qrds s k) j = qrds s (k + j) := by
  unfold qrds
  simp only [QSt.mk.injEq, true_and, and_true]
  omega
theorem Both.rds {n : Nat} {s : PSt} {t : QSt} (h : Both n s t) (k : Nat) (hk : n + k ≤ 1099511627776) : Both (n + k) (V.rds s k) (qrds t k) :=
  ⟨rds_wf h.wf k (by have := h.nr; omega), h.sec, h.kin, h.cache, h.fuse, h.down, by show t.reads + k = s.reads + k; rw [h.reads], h.writes, h.c64, by have := h.nr; show s.reads + k ≤ _; omega, by have := h.nw; show s.writes ≤ _; omega, Nat.le_trans h.nc (Nat.le_add_right _ _)⟩
theorem qread_up {n : Nat} {s : PSt} {t : QSt} (h : Both n s t) (hn : n < 1000000) (hd : s.down = false) (a : Int) (h0 : 0 ≤ a) (h1 : a < s.sectors) : qReadF t a = (rdF s a, qrds t 1) := by
  have hr := (h.read a hn).1
  rw [readF_up hd a h0 h1] at hr
  have h2 : (qReadF t a).2 = qrds t 1 := by
    unfold qReadF
    rw [if_neg (by rw [h.down, hd]; decide), if_neg (by rw [← h.sec]; omega)]
    rfl
  dsimp only at hr
  rw [← hr, ← h2]
def qgetS (t : QSt) (a : Int) : QSt := if a < 0 ∨ (t.kept.length : Int) / 8 ≤ a then t else if t.down = true then t else qrds t 8
theorem bl_app (l : List UInt8) (t : ByteArray) : bl l ++ t = bl (l ++ t.data.toList) := by
  apply ByteArray.ext
  show (bl l ++ t).data = (l ++ t.data.toList).toArray
  rw [ByteArray.data_append]
  apply Array.ext'
  simp [bl]
theorem qbget_spec (q : View) (c : Nat) (s : PSt) (t : QSt) (n : Nat) (h : Both n s t) (h64 : S64 s) (hn : n < 100000) (a : Int) :
    FnD Tryz.prog q 29 [.pointer (some ⟨c, 0, none⟩), .int .i64 a] [qAt c t] (.tuple #[.string (getF s a).1.1, .int .i64 (getF s a).1.2.1, .int .i64 (getF s a).1.2.2]) [qAt c (qgetS t a)] := by
  have hsec := h.qw.sec
  have hs := h.sec
  by_cases ha : a < 0
  · rw [show getF s a = ((⟨#[]⟩, 0, 2), s) from by unfold getF; rw [if_pos (.inl ha)], show qgetS t a = t from by unfold qgetS; rw [if_pos (.inl ha)]]
    (first | refine FnD.go Tryz.call29 Tryz.func29 rfl rfl rfl ?_ | refine FnX.go Tryz.call29 Tryz.func29 rfl rfl rfl ?_)
    (repeat (first | refine g ?_))
    exact run_ret rfl (imp_RD rfl shut)
  by_cases ha2 : (t.kept.length : Int) / 8 ≤ a
  · rw [show getF s a = ((⟨#[]⟩, 0, 2), s) from by unfold getF; rw [if_pos (.inr (by omega))], show qgetS t a = t from by unfold qgetS; rw [if_pos (.inr ha2)]]
    (first | refine FnD.go Tryz.call29 Tryz.func29 rfl rfl rfl ?_ | refine FnX.go Tryz.call29 Tryz.func29 rfl rfl rfl ?_)
    (repeat (first | refine g ?_))
    refine run_q fun pk ck pd cd pw cw => ?_
    unfold qParts
    (repeat (first | refine g ?_))
    exact run_ret rfl (imp_RD rfl (imp_q shut))
  by_cases hd : s.down = true
  · rw [show getF s a = ((⟨#[]⟩, 0, 20), s) from by unfold getF; rw [if_neg (by omega), if_pos hd], show qgetS t a = t from by unfold qgetS; rw [if_neg (by omega), if_pos (by rw [h.down]; exact hd)]]
    have cr := qread_spec q c t h.qw (8 * a + (0 : Nat))
    rw [show qReadF t (8 * a + (0 : Nat)) = ((⟨#[]⟩, 20), t) from by unfold qReadF; rw [if_pos (by rw [h.down]; exact hd)]] at cr
    (first | refine FnD.go Tryz.call29 Tryz.func29 rfl rfl rfl ?_ | refine FnX.go Tryz.call29 Tryz.func29 rfl rfl rfl ?_)
    (repeat (first | refine g ?_))
    refine run_q fun pk ck pd cd pw cw => ?_
    unfold qParts
    (repeat (first | refine g ?_))
    refine run_loopI (X := Unit) (fun _ => True) (fun _ => [(0, .pointer (some ⟨c, 0, none⟩)), (1, .int .i64 a), (10, .int .i64 ((0 : Nat) : Int))])
      (fun _ => [qAt c t]) (fun _ => 0) () trivial fct (imp_q shut) ?_
    intro _ _
    (repeat (first | refine g ?_))
    refine s_call cr ?_
    (repeat (first | refine g ?_))
    exact run_ret rfl (imp_RD rfl shut)
  have hdf : s.down = false := by simpa using hd
  rw [show getF s a = ((bl (getL s a 8), ((getM s a 8 : Nat) : Int), 0), V.rds s 8) from by unfold getF; rw [if_neg (by omega), if_neg hd], show qgetS t a = qrds t 8 from by unfold qgetS; rw [if_neg (by omega), if_neg (by rw [h.down]; exact hd)]]
  (first | refine FnD.go Tryz.call29 Tryz.func29 rfl rfl rfl ?_ | refine FnX.go Tryz.call29 Tryz.func29 rfl rfl rfl ?_)
  (repeat (first | refine g ?_))
  refine run_q fun pk ck pd cd pw cw => ?_
  unfold qParts
  (repeat (first | refine g ?_))
  refine run_loopI (X := Nat) (fun i => i ≤ 8) (fun i => [(0, .pointer (some ⟨c, 0, none⟩)), (1, .int .i64 a), (7, .string (bl (getL s a i))), (8, .int .i64 ((getM s a i : Nat) : Int)), (9, .int .i64 ((2 ^ i : Nat) : Int)), (10, .int .i64 (i : Int))])
    (fun i => [qAt c (qrds t i)]) (fun i => 8 - i) 0 (Nat.zero_le _) fct ?_ ?_
  · rw [qrds_zero]; exact imp_q shut
  intro i hi
  have hm := getM_lt s a i
  have hl := getL_len h64 a (by omega) (by omega) i hi
  have hbs : (bl (getL s a i)).size = 64 * i := by rw [← hl]; exact (Array.size_eq_length_toList)
  have hp8 : 2 ^ i ≤ 2 ^ 8 := Nat.pow_le_pow_right (by decide) hi
  by_cases h8 : i < 8
  · have hb := h.rds i (by omega)
    have hup : qReadF (qrds t i) (8 * a + i) = (rdF s (a * 8 + i), qrds t (i + 1)) := by
      rw [qread_up hb (by omega) hdf _ (by omega) (show 8 * a + i < s.sectors by omega), qrds_add, Int.mul_comm 8 a]
      rfl
    have cr := qread_spec q c (qrds t i) hb.qw (8 * a + i)
    rw [hup] at cr
    have ep : ((2 ^ (i + 1) : Nat) : Int) = 2 * ((2 ^ i : Nat) : Int) := by rw [Nat.pow_succ]; omega
    have cbk := blank_spec q
    rcases rdF_cases h64 (a * 8 + i) (by omega) (by omega) with ⟨h2, h3⟩ | h2
    · have e1 : secL s (a * 8 + i) = (rdF s (a * 8 + i)).1.data.toList := by unfold secL; rw [if_pos h2]
      have e2 : getM s a (i + 1) = getM s a i := by show _ + secM s (a * 8 + i) i = _; unfold secM; rw [if_pos h2]; rfl
      have e3 : bl (getL s a (i + 1)) = bl (getL s a i) ++ (rdF s (a * 8 + i)).1 := by rw [bl_app, ← e1]; rfl
      obtain ⟨tt, e⟩ : ∃ tt, tt = (rdF s (a * 8 + i)).1 := ⟨_, rfl⟩
      rw [← e] at e3 h3
      dsimp only at cr
      rw [← e, h2] at cr
      generalize hX : bl (getL s a i) = X at *
      generalize hY : 2 ^ i = Y at *
      (repeat (first | refine g ?_))
      refine s_call cr ?_
      (repeat (first | refine g ?_))
      refine run_stop_loop (i + 1) ⟨by omega, by omega⟩ (by rw [e2, e3, ep]; exact fct) shut
    · have e1 : secL s (a * 8 + i) = List.replicate 64 0 := by unfold secL; rw [if_neg (by rw [h2]; decide)]
      have e2 : ((getM s a (i + 1) : Nat) : Int) = ((getM s a i : Nat) : Int) + ((2 ^ i : Nat) : Int) := by rw [show getM s a (i + 1) = getM s a i + secM s (a * 8 + i) i from rfl]; unfold secM; rw [if_neg (by rw [h2]; decide)]; omega
      have e3 : bl (getL s a (i + 1)) = bl (getL s a i) ++ zeros64 := by rw [bl_app, show zeros64.data.toList = secL s (a * 8 + i) from e1.symm]; rfl
      have hz := zeros64_size
      rw [h2] at cr
      dsimp only at cr
      generalize zeros64 = Z at *
      generalize hX : bl (getL s a i) = X at *
      generalize hY : 2 ^ i = Y at *
      (repeat (first | refine g ?_))
      refine s_call cr ?_
      (repeat (first | refine g ?_))
      refine s_call cbk ?_
      (repeat (first | refine g ?_))
      refine run_stop_loop (i + 1) ⟨by omega, by omega⟩ (by rw [e2, e3, ep]; exact fct) shut
  · obtain rfl : i = 8 := by omega
    (repeat (first | refine g ?_))
    exact run_ret rfl (imp_RD rfl shut)
end Go.Proofs.YtajndpddlpnbkaaGreatDoor.V
/- Chapter 6's law: both devices with marks on them. -/
namespace Go.Proofs.YtajndpddlpnbkaaGreatDoor.V
open Go.Proofs.YtajndpddlpnbkaaGreatDoor.VL Go.Proofs.YtajndpddlpnbkaaGreatDoor.VL.RD Go.Proofs.YtajndpddlpnbkaaGreatDoor.VL.Sha
attribute [local irreducible] Run numB
structure MarkT where
  kind : Int
  at_ : Int
  v : Int
def encM (x : MarkT) : List Value := [.int .i64 x.kind, .int .i64 x.at_, .int .u8 x.v]
structure MarkOk (x : MarkT) : Prop where
  k0 : -9223372036854775808 ≤ x.kind
  k1 : x.kind ≤ 9223372036854775807
  a0 : -9223372036854775808 ≤ x.at_
  a1 : x.at_ ≤ 9223372036854775807
  v0 : 0 ≤ x.v
  v1 : x.v ≤ 255
def MarksQ (q : View) (p : Option Addr) (l : List MarkT) : Prop := RowQ q p l.length 3 (l.flatMap encM) ∧ ∀ x ∈ l, MarkOk x
theorem enc3 (l : List MarkT) (i : Nat) (x : MarkT) (h : l[i]? = some x) (j : Nat) (hj : j < 3) : (l.flatMap encM)[i * 3 + j]? = (encM x)[j]? := by
  induction l generalizing i with
  | nil => cases h
  | cons y l ih =>
    rw [List.flatMap_cons]
    have e5 : (encM y).length = 3 := rfl
    cases i with
    | zero =>
      obtain rfl := Option.some.inj h
      rw [List.getElem?_append_left (by omega)]; congr 1; omega
    | succ i =>
      rw [List.getElem?_append_right (by omega), e5, show (i + 1) * 3 + j - 3 = i * 3 + j by omega]
      exact ih i h
theorem enc3_len (l : List MarkT) : (l.flatMap encM).length = l.length * 3 := by
  induction l with
  | nil => rfl
  | cons y l ih => rw [List.flatMap_cons, List.length_append, ih, List.length_cons]; show 3 + _ = _; omega
theorem enc3_all (l : List MarkT) (i : Nat) (x : MarkT) (h : l[i]? = some x) : ((l.flatMap encM).drop (i * 3)).take 3 = encM x := by
  apply List.ext_getElem?
  intro j
  have hl := (List.getElem?_eq_some_iff.1 h).1
  rw [List.getElem?_take, List.getElem?_drop]
  split
  · rename_i hj; exact enc3 l i x h j hj
  · rename_i hj; rw [List.getElem?_eq_none]; show 3 ≤ j; omega
theorem both_blank (n : Nat) (hn : n ≤ 32768) : Both 0 (blank n) (qBlank n) := by
  have l1 : (List.replicate n zeros64).length = n := List.length_replicate
  refine ⟨blank_wf n hn, by show (n : Int) = ((List.replicate n zeros64).length : Int); rw [l1], ?_, rfl, rfl, rfl, rfl, rfl, by simp [blank], Int.le_refl 0, Int.le_refl 0, Nat.le_refl 0⟩
  show Kin (List.replicate n zeros64).length (List.replicate n ⟨#[]⟩, List.replicate n false) (List.replicate n zeros64, List.replicate n false)
  rw [l1]
  refine ⟨List.length_replicate, l1, List.length_replicate, rfl, fun j hj _ => ?_⟩
  show eff (List.replicate n ⟨#[]⟩) j = (List.replicate n zeros64).getD j ⟨#[]⟩
  unfold eff
  rw [List.getD_eq_getElem?_getD, List.getD_eq_getElem?_getD, List.getElem?_replicate, List.getElem?_replicate, if_pos hj, if_pos hj]
  rfl
theorem mem_setX {α : Type} {l : List α} {i : Nat} {x y : α} (h : y ∈ l.set i x) : y = x ∨ y ∈ l := by
  rcases List.mem_or_eq_of_mem_set h with h | h
  · exact .inr h
  · exact .inl h
theorem PW.lay {n : Nat} {s : PSt} (h : PW n s) (a : Int) (t : ByteArray) : PW n (layF s a t).2 := by
  unfold layF
  by_cases h0 : (t.size : Int) ≠ 64
  · rw [if_pos h0]; exact h
  rw [if_neg h0]
  by_cases h2 : a < 0 ∨ s.sectors ≤ a
  · rw [if_pos h2]; exact h
  rw [if_neg h2]
  have hh := h.wf.held
  have hd := h.wf.dumb
  refine ⟨⟨by show ((s.held.set _ _).length : Int) = _; rw [List.length_set]; exact hh, by show ((s.dumb.set _ _).length : Int) = _; rw [List.length_set]; exact hd, h.wf.sec, h.wf.cache, h.wf.size, h.wf.reads, h.wf.writes, h.wf.fuse⟩, ⟨h.s64.cache, fun x hx => ?_⟩, h.nr, h.nw, h.nc⟩
  rcases mem_setX hx with e | hx
  · exact .inr (by rw [e]; show t.size = 64; omega)
  · exact h.s64.held x hx
theorem PW.spoil {n : Nat} {s : PSt} (h : PW n s) (a : Int) : PW n (spoilF s a).2 := by
  unfold spoilF
  by_cases h2 : a < 0 ∨ s.sectors ≤ a
  · rw [if_pos h2]; exact h
  rw [if_neg h2]
  have hh := h.wf.held
  have hd := h.wf.dumb
  refine ⟨⟨by show ((s.held.set _ _).length : Int) = _; rw [List.length_set]; exact hh, by show ((s.dumb.set _ _).length : Int) = _; rw [List.length_set]; exact hd, h.wf.sec, h.wf.cache, h.wf.size, h.wf.reads, h.wf.writes, h.wf.fuse⟩, ⟨h.s64.cache, fun x hx => ?_⟩, h.nr, h.nw, h.nc⟩
  rcases mem_setX hx with e | hx
  · exact .inl (by rw [e]; rfl)
  · exact h.s64.held x hx
theorem PW.arm {n : Nat} {s : PSt} (h : PW n s) (a : Int) (ha : a ≤ 9223372036854775807) : PW n (armF s a).2 := by
  unfold armF
  by_cases h0 : a < 0
  · rw [if_pos h0]; exact h
  rw [if_neg h0]
  by_cases h1 : s.down = true
  · rw [if_pos h1]; exact h
  rw [if_neg h1]
  exact ⟨⟨h.wf.held, h.wf.dumb, h.wf.sec, h.wf.cache, h.wf.size, h.wf.reads, h.wf.writes, ⟨by show -1 ≤ a; omega, ha⟩⟩, ⟨h.s64.cache, h.s64.held⟩, h.nr, h.nw, h.nc⟩
theorem layF_sectors (s : PSt) (a : Int) (t : ByteArray) : (layF s a t).2.sectors = s.sectors := by
  unfold layF
  repeat' split
  all_goals rfl
theorem spoilF_sectors (s : PSt) (a : Int) : (spoilF s a).2.sectors = s.sectors := by
  unfold spoilF
  repeat' split
  all_goals rfl
def markS (s : PSt) (m : MarkT) : PSt := if m.kind = 1 then (layF s m.at_ (bytesF m.v 64)).2 else if m.kind = 2 then (spoilF s m.at_).2 else if m.kind = 3 then (writeF s m.at_ (bytesF m.v 64)).2 else s
def markQ (t : QSt) (m : MarkT) : QSt := if m.kind = 1 then (qLayF t m.at_ (bytesF m.v 64)).2 else if m.kind = 2 then (qSpoilF t m.at_).2 else if m.kind = 3 then (qWriteF t m.at_ (bytesF m.v 64)).2 else t
theorem PW.mark {n : Nat} {s : PSt} (h : PW n s) (hn : n < 1000) (m : MarkT) : PW (n + 1) (markS s m) := by
  unfold markS
  repeat' split
  · exact (h.lay _ _).mono (Nat.le_succ _)
  · exact (h.spoil _).mono (Nat.le_succ _)
  · exact h.write _ _ (by omega)
  · exact h.mono (Nat.le_succ _)
theorem Both.mark {n : Nat} {s : PSt} {t : QSt} (h : Both n s t) (hn : n < 1000) (m : MarkT) : Both (n + 1) (markS s m) (markQ t m) := by
  unfold markS markQ
  repeat' split
  · exact (h.lay _ _).2.mono (Nat.le_succ _)
  · exact (h.spoil _).2.mono (Nat.le_succ _)
  · exact (h.write _ _ (by omega)).2
  · exact h.mono (Nat.le_succ _)
theorem markS_sectors (s : PSt) (m : MarkT) : (markS s m).sectors = s.sectors := by
  unfold markS
  repeat' split
  · exact layF_sectors _ _ _
  · exact spoilF_sectors _ _
  · exact writeF_sectors _ _ _
  · rfl
/-- Both devices, behind their marks. -/
structure Twin (n : Nat) (k : Nat) (s : PSt) (t : QSt) : Prop where
  both : Both n s t
  pw : PW n s
  sec : s.sectors = k
theorem both_bad (q : View) (n : Int) (h : n < 0 ∨ 32768 < n) (v : Value) : FnD Tryz.prog q 7 [.int .i64 n, v] [] (.tuple #[.pointer none, .pointer none]) [] := by
  (first | refine FnD.go Tryz.call7 Tryz.func7 rfl rfl rfl ?_ | refine FnX.go Tryz.call7 Tryz.func7 rfl rfl rfl ?_)
  (repeat (first | refine g ?_))
  refine s_call (new_bad q n h) ?_
  (repeat (first | refine g ?_))
  refine s_call (qnew_bad q n h) ?_
  (repeat (first | refine g ?_))
  exact run_ret rfl (imp_RD rfl shut)
theorem both_spec (q : View) (n : Nat) (hn : n ≤ 32768) (sp : Option Addr) (sc : Nat) (l : List MarkT) (hs : MarksQ q sp l) (hl : l.length ≤ 9223372036854775807) :
    FnX Tryz.prog q 7 [.int .i64 (n : Int), .slice sp l.length sc] [] (fun x : (Nat × Nat) × {y : PSt × QSt // Twin 40 n y.1 y.2} => .tuple #[.pointer (some ⟨x.1.1, 0, none⟩), .pointer (some ⟨x.1.2, 0, none⟩)]) fun x => [plateAt x.1.1 x.2.1.1, qAt x.1.2 x.2.1.2] := by
  (first | refine FnD.go Tryz.call7 Tryz.func7 rfl rfl rfl ?_ | refine FnX.go Tryz.call7 Tryz.func7 rfl rfl rfl ?_)
  (repeat (first | refine g ?_))
  refine s_callx (new_spec q n hn) fun b => ?_
  (repeat (first | refine g ?_))
  refine s_callx (qnew_spec q n hn) fun c => ?_
  (repeat (first | refine g ?_))
  refine run_cutI (X := PSt × QSt) (fun x => Twin 40 n x.1 x.2) (fun x => [(6, .pointer (some ⟨b, 0, none⟩)), (8, .pointer (some ⟨c, 0, none⟩))]) (fun x => [plateAt b x.1, qAt c x.2]) ?_ fun ⟨s, t⟩ hT => ?_
  · refine run_loopI (X := Nat × PSt × QSt) (fun x => (x.1 ≤ l.length ∧ x.1 ≤ 40) ∧ Twin x.1 n x.2.1 x.2.2) (fun x => [(1, .slice sp l.length sc), (6, .pointer (some ⟨b, 0, none⟩)), (8, .pointer (some ⟨c, 0, none⟩)), (10, .int .i64 (x.1 : Int))])
      (fun x => [plateAt b x.2.1, qAt c x.2.2]) (fun x => l.length - x.1) (0, blank n, qBlank n) ⟨⟨Nat.zero_le _, Nat.zero_le _⟩, both_blank n hn, PW.blank n hn, rfl⟩ fct shut ?_
    intro ⟨i, s, t⟩ ⟨⟨hi, hi40⟩, hT⟩
    dsimp only at *
    by_cases h1 : i < l.length
    · by_cases h2 : i < 40
      · obtain ⟨x, hx⟩ : ∃ x, l[i]? = some x := ⟨_, List.getElem?_eq_getElem h1⟩
        have hxo := hs.2 x (List.mem_of_getElem? hx)
        obtain ⟨bs, os, ep, ho⟩ := hs.1.old (by omega)
        subst ep
        have hxa := enc3_all l i x hx
        have hxl := enc3_len l
        have hT' : Twin (i + 1) n (markS s x) (markQ t x) := ⟨hT.both.mark (by omega) x, hT.pw.mark (by omega) x, by rw [markS_sectors]; exact hT.sec⟩
        (repeat (first | refine g ?_))
        refine s_idxo (kk := 3) (os + i * 3) ?_
        refine s_loadao (j := i * 3) ho hxa (by rw [hxl]; omega) (by omega) ?_
        (repeat (first | refine g ?_))
        refine s_alloc fun rm => ?_
        (repeat (first | refine g ?_))
        refine s_made 1 64 64 fun r => ?_
        rw [zeroL_one _ rfl]
        (repeat (first | refine g ?_))
        refine run_loopI (X := Nat) (fun k => k ≤ 64) (fun k => [(1, .slice (some ⟨bs, os, none⟩) l.length sc), (6, .pointer (some ⟨b, 0, none⟩)), (8, .pointer (some ⟨c, 0, none⟩)), (10, .int .i64 (i : Int)), (11, .pointer (some ⟨rm, 0, none⟩)), (12, .slice (some ⟨r, 0, none⟩) 64 64), (13, .int .i64 (k : Int))])
          (fun k => [plateAt b s, qAt c t, cells rm 71 ⟨[.int .i64 x.kind, .int .i64 x.at_, .int .u8 x.v]⟩, cells r 5 ⟨List.replicate k (.int .u8 x.v) ++ List.replicate (64 - k) (.int .u8 0)⟩]) (fun k => 64 - k) 0 (Nat.zero_le _) fct ?_ ?_
        · rw [List.replicate_zero, List.nil_append, Nat.sub_zero]
          exact shut
        intro k hk
        by_cases h3 : k < 64
        · (repeat (first | refine g ?_))
          refine s_storeset ?_
          (repeat (first | refine g ?_))
          refine run_stop_loop (k + 1) ⟨h3, by omega⟩ fct ?_
          rw [set_fill 64 k (.int .u8 x.v) (.int .u8 0) h3]
          exact shut
        · obtain rfl : k = 64 := by omega
          have c1 := lay_spec q b s hT.pw.wf x.at_ (bytesF x.v 64)
          have d1 := qlay_spec q c t hT.both.qw x.at_ (bytesF x.v 64)
          have c2 := spoil_spec q b s hT.pw.wf x.at_
          have d2 := qspoil_spec q c t hT.both.qw x.at_
          have c3 := write_spec q b s hT.pw.wf x.at_ (bytesF x.v 64)
          have d3 := qwrite_spec q c t hT.both.qw x.at_ (bytesF x.v 64)
          by_cases k1 : x.kind = 1
          · have eS : markS s x = (layF s x.at_ (bytesF x.v 64)).2 := by unfold markS; rw [if_pos k1]
            have eT : markQ t x = (qLayF t x.at_ (bytesF x.v 64)).2 := by unfold markQ; rw [if_pos k1]
            (repeat (first | refine g ?_))
            refine s_stringc (m := 64) (o := 0) (c := ⟨List.replicate 64 (.int .u8 x.v) ++ List.replicate (64 - 64) (.int .u8 0)⟩) (l := List.replicate 64 (UInt8.ofNat x.v.toNat)) (by simp) (by rw [bv_bytes x.v _ hxo.v0 hxo.v1]; simp) ?_
            (repeat (first | refine g ?_))
            refine s_call c1 ?_
            (repeat (first | refine g ?_))
            refine s_stringc (m := 64) (o := 0) (c := ⟨List.replicate 64 (.int .u8 x.v) ++ List.replicate (64 - 64) (.int .u8 0)⟩) (l := List.replicate 64 (UInt8.ofNat x.v.toNat)) (by simp) (by rw [bv_bytes x.v _ hxo.v0 hxo.v1]; simp) ?_
            (repeat (first | refine g ?_))
            refine s_call d1 ?_
            (repeat (first | refine g ?_))
            exact run_stop_loop (i + 1, markS s x, markQ t x) ⟨⟨⟨by omega, by omega⟩, hT'⟩, by dsimp only; omega⟩ fct (by rw [eS, eT]; exact shut)
          by_cases k2 : x.kind = 2
          · have eS : markS s x = (spoilF s x.at_).2 := by unfold markS; rw [if_neg k1, if_pos k2]
            have eT : markQ t x = (qSpoilF t x.at_).2 := by unfold markQ; rw [if_neg k1, if_pos k2]
            (repeat (first | refine g ?_))
            refine s_call c2 ?_
            (repeat (first | refine g ?_))
            refine s_call d2 ?_
            (repeat (first | refine g ?_))
            exact run_stop_loop (i + 1, markS s x, markQ t x) ⟨⟨⟨by omega, by omega⟩, hT'⟩, by dsimp only; omega⟩ fct (by rw [eS, eT]; exact shut)
          by_cases k3 : x.kind = 3
          · have eS : markS s x = (writeF s x.at_ (bytesF x.v 64)).2 := by unfold markS; rw [if_neg k1, if_neg k2, if_pos k3]
            have eT : markQ t x = (qWriteF t x.at_ (bytesF x.v 64)).2 := by unfold markQ; rw [if_neg k1, if_neg k2, if_pos k3]
            (repeat (first | refine g ?_))
            refine s_stringc (m := 64) (o := 0) (c := ⟨List.replicate 64 (.int .u8 x.v) ++ List.replicate (64 - 64) (.int .u8 0)⟩) (l := List.replicate 64 (UInt8.ofNat x.v.toNat)) (by simp) (by rw [bv_bytes x.v _ hxo.v0 hxo.v1]; simp) ?_
            (repeat (first | refine g ?_))
            refine s_call c3 ?_
            (repeat (first | refine g ?_))
            refine s_stringc (m := 64) (o := 0) (c := ⟨List.replicate 64 (.int .u8 x.v) ++ List.replicate (64 - 64) (.int .u8 0)⟩) (l := List.replicate 64 (UInt8.ofNat x.v.toNat)) (by simp) (by rw [bv_bytes x.v _ hxo.v0 hxo.v1]; simp) ?_
            (repeat (first | refine g ?_))
            refine s_call d3 ?_
            (repeat (first | refine g ?_))
            exact run_stop_loop (i + 1, markS s x, markQ t x) ⟨⟨⟨by omega, by omega⟩, hT'⟩, by dsimp only; omega⟩ fct (by rw [eS, eT]; exact shut)
          have eS : markS s x = s := by unfold markS; rw [if_neg k1, if_neg k2, if_neg k3]
          have eT : markQ t x = t := by unfold markQ; rw [if_neg k1, if_neg k2, if_neg k3]
          (repeat (first | refine g ?_))
          exact run_stop_loop (i + 1, markS s x, markQ t x) ⟨⟨⟨by omega, by omega⟩, hT'⟩, by dsimp only; omega⟩ fct (by rw [eS, eT]; exact shut)
      · (repeat (first | refine g ?_))
        exact run_stop_loop (s, t) ⟨hT.both.mono (by omega), hT.pw.mono (by omega), hT.sec⟩ fct shut
    · (repeat (first | refine g ?_))
      exact run_stop_loop (s, t) ⟨hT.both.mono (by omega), hT.pw.mono (by omega), hT.sec⟩ fct shut
  · dsimp only at *
    (repeat (first | refine g ?_))
    exact run_ret rfl (imp_RX ((b, c), ⟨(s, t), hT⟩) rfl shut)
end Go.Proofs.YtajndpddlpnbkaaGreatDoor.V
