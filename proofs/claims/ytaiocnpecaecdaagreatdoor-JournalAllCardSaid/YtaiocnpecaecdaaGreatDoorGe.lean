/- A block on a device: how many blocks there are, a sector, Get. -/
import Derived.Test.YtaiocnpecaecdaaGreatDoorGd
import Derived.Test.YtaiocnpecaecdaaGreatDoorGb
import Derived.Test.YtaiocnpecaecdaaGreatDoorGa
set_option maxRecDepth 10000
set_option linter.unusedVariables false
namespace Go.Proofs.YtaiocnpecaecdaaGreatDoor.V
open Go.Proofs.YtaiocnpecaecdaaGreatDoor.VL Go.Proofs.YtaiocnpecaecdaaGreatDoor.VL.RD Go.Proofs.YtaiocnpecaecdaaGreatDoor.VL.Sha
attribute [local irreducible] Run numB
/-- Sectors have 64 bytes, or none where nothing was ever written. -/
structure S64 (s : PSt) : Prop where
  cache : ∀ x ∈ s.cache, x.2.size = 64
  held : ∀ x ∈ s.held, x.size = 0 ∨ x.size = 64
/-- What a device tells of a sector that it has, the power being on. -/
def rdF (s : PSt) (a : Int) : ByteArray × Int := match s.cache.reverse.find? (fun x => decide (x.1 = a)) with | some x => (x.2, 0) | none => heldF s a
def rds (s : PSt) (k : Nat) : PSt := { s with reads := s.reads + k }
theorem rds_zero (s : PSt) : rds s 0 = s := by unfold rds; simp
theorem rds_add (s : PSt) (k j : Nat) : rds (rds s k) j = rds s (k + j) := by
  unfold rds
  simp only [PSt.mk.injEq, true_and, and_true]
  omega
theorem readF_down {s : PSt} (h : s.down = true) (a : Int) : readF s a = ((⟨#[]⟩, 20), s) := by unfold readF; rw [if_pos h]
theorem readF_up {s : PSt} (h : s.down = false) (a : Int) (h0 : 0 ≤ a) (h1 : a < s.sectors) : readF s a = (rdF s a, rds s 1) := by
  unfold readF
  rw [if_neg (by rw [h]; decide), if_neg (by omega)]
  rfl
theorem empty_of_size {x : ByteArray} (h : x.size = 0) : x = ⟨#[]⟩ := by
  obtain ⟨⟨l⟩⟩ := x
  have : l.length = 0 := h
  rw [List.length_eq_zero_iff.1 this]
theorem zeros64_size : zeros64.size = 64 := by decide +kernel
/-- It has 64 bytes, or it can't be read. -/
theorem rdF_cases {s : PSt} (h : S64 s) (a : Int) (h0 : 0 ≤ a) (h1 : a < s.sectors) : (rdF s a).2 = 0 ∧ (rdF s a).1.size = 64 ∨ rdF s a = (⟨#[]⟩, 21) := by
  unfold rdF
  split
  · rename_i x hx
    have := List.mem_of_find?_eq_some hx
    exact .inl ⟨rfl, h.cache x (List.mem_reverse.1 this)⟩
  · unfold heldF
    rw [if_neg (by omega)]
    by_cases hd : s.dumb.getD a.toNat false = true
    · rw [if_pos hd]; exact .inr rfl
    · rw [if_neg hd]
      by_cases he : s.held.getD a.toNat ⟨#[]⟩ = ⟨#[]⟩
      · rw [if_pos he]; exact .inl ⟨rfl, zeros64_size⟩
      · rw [if_neg he]
        refine .inl ⟨rfl, ?_⟩
        show (s.held.getD a.toNat ⟨#[]⟩).size = 64
        rw [List.getD_eq_getElem?_getD] at he ⊢
        cases hx : s.held[a.toNat]? with
        | none => rw [hx] at he; exact absurd rfl he
        | some x =>
          rw [hx] at he
          rcases h.held x (List.mem_of_getElem? hx) with hz | hz
          · exact absurd (empty_of_size hz) he
          · exact hz
theorem blocks_spec (q : View) (b : Nat) (s : PSt) (hw : WF s) : FnD Tryz.prog q 61 [.pointer (some ⟨b, 0, none⟩)] [plateAt b s] (.int .i64 (s.sectors / 8)) [plateAt b s] := by
  have h0 := hw.held
  have h1 := hw.sec
  (first | refine FnD.go Tryz.call61 Tryz.func61 rfl rfl rfl ?_ | refine FnX.go Tryz.call61 Tryz.func61 rfl rfl rfl ?_)
  (repeat (first | refine g ?_))
  refine s_call (sectors_spec q b s) ?_
  (repeat (first | refine g ?_))
  exact run_ret rfl (imp_RD rfl shut)
theorem sector_ok (q : View) (b m : Nat) (s s' : PSt) (hw : WF s) (a bit x : Int) (t : ByteArray) (h : readF s a = ((t, 0), s')) :
    FnD Tryz.prog q 117 [.pointer (some ⟨b, 0, none⟩), .int .i64 a, .pointer (some ⟨m, 0, none⟩), .int .i64 bit] [plateAt b s, cells m 3 ⟨[.int .i64 x]⟩] (.tuple #[.string t, .nilIface]) [plateAt b s', cells m 3 ⟨[.int .i64 x]⟩] := by
  have c := read_spec q b s hw a
  rw [h] at c
  dsimp only at c
  (first | refine FnD.go Tryz.call117 Tryz.func117 rfl rfl rfl ?_ | refine FnX.go Tryz.call117 Tryz.func117 rfl rfl rfl ?_)
  (repeat (first | refine g ?_ | refine s_flat 6 [(.pure, [0, 1, 3, 4]), (.mem true, [2]), (.pure, [5, 6]), (.mem false, [7])] ?_))
  refine s_call c ?_
  (repeat (first | refine g ?_ | refine s_flat 6 [(.pure, [0, 1, 3, 4]), (.mem true, [2]), (.pure, [5, 6]), (.mem false, [7])] ?_))
  exact run_ret rfl (imp_RD rfl shut)
theorem sector_off (q : View) (b m : Nat) (s s' : PSt) (hw : WF s) (a bit x e : Int) (t : ByteArray) (h : readF s a = ((t, e), s')) (h0 : e ≠ 0) (h21 : e ≠ 21) :
    FnX Tryz.prog q 117 [.pointer (some ⟨b, 0, none⟩), .int .i64 a, .pointer (some ⟨m, 0, none⟩), .int .i64 bit] [plateAt b s, cells m 3 ⟨[.int .i64 x]⟩]
      (fun f : Nat => .tuple #[.string ⟨#[]⟩, .iface 230 (.pointer (some ⟨f, 0, none⟩))]) fun f => [plateAt b s', cells m 3 ⟨[.int .i64 x]⟩, cells f 232 ⟨[.int .i64 a, .int .i64 e]⟩] := by
  have c := read_spec q b s hw a
  rw [h] at c
  dsimp only at c
  (first | refine FnD.go Tryz.call117 Tryz.func117 rfl rfl rfl ?_ | refine FnX.go Tryz.call117 Tryz.func117 rfl rfl rfl ?_)
  (repeat (first | refine g ?_ | refine s_flat 6 [(.pure, [0, 1, 3, 4]), (.mem true, [2]), (.pure, [5, 6]), (.mem false, [7])] ?_))
  refine s_call c ?_
  (repeat (first | refine g ?_ | refine s_flat 6 [(.pure, [0, 1, 3, 4]), (.mem true, [2]), (.pure, [5, 6]), (.mem false, [7])] ?_))
  refine s_box fun f => ?_
  (repeat (first | refine g ?_ | refine s_flat 6 [(.pure, [0, 1, 3, 4]), (.mem true, [2]), (.pure, [5, 6]), (.mem false, [7])] ?_))
  refine s_mki ?_
  (repeat (first | refine g ?_ | refine s_flat 6 [(.pure, [0, 1, 3, 4]), (.mem true, [2]), (.pure, [5, 6]), (.mem false, [7])] ?_))
  exact run_ret rfl (imp_RX f rfl shut)
theorem or_pow (x i : Nat) (h : x < 2 ^ i) : x ||| 2 ^ i = x + 2 ^ i := by
  have := Nat.two_pow_add_eq_or_of_lt h 1
  rw [Nat.mul_one] at this
  rw [Nat.or_comm, ← this, Nat.add_comm]
theorem sector_bad (q : View) (b m : Nat) (s s' : PSt) (hw : WF s) (a : Int) (t : ByteArray) (h : readF s a = ((t, 21), s')) (i : Nat) (hi : i < 8) (x : Nat) (hx : x < 2 ^ i) :
    FnD Tryz.prog q 117 [.pointer (some ⟨b, 0, none⟩), .int .i64 a, .pointer (some ⟨m, 0, none⟩), .int .i64 (i : Int)] [plateAt b s, cells m 3 ⟨[.int .i64 (x : Int)]⟩] (.tuple #[.string zeros64, .nilIface]) [plateAt b s', cells m 3 ⟨[.int .i64 ((x + 2 ^ i : Nat) : Int)]⟩] := by
  have c := read_spec q b s hw a
  rw [h] at c
  dsimp only at c
  have cz := repeat64 q
  generalize zeros64 = Z at *
  have hor := or_pow x i hx
  have hx8 : x ≤ 255 := by
    have := Nat.pow_le_pow_right (show 2 > 0 by decide) (show i ≤ 8 by omega)
    omega
  rcases (by omega : i = 0 ∨ i = 1 ∨ i = 2 ∨ i = 3 ∨ i = 4 ∨ i = 5 ∨ i = 6 ∨ i = 7) with rfl | rfl | rfl | rfl | rfl | rfl | rfl | rfl
  · (first | refine FnD.go Tryz.call117 Tryz.func117 rfl rfl rfl ?_ | refine FnX.go Tryz.call117 Tryz.func117 rfl rfl rfl ?_)
    (repeat (first | refine g ?_ | refine s_flat 6 [(.pure, [0, 1, 3, 4]), (.mem true, [2]), (.pure, [5, 6]), (.mem false, [7])] ?_))
    refine s_call c ?_
    (repeat (first | refine g ?_ | refine s_flat 6 [(.pure, [0, 1, 3, 4]), (.mem true, [2]), (.pure, [5, 6]), (.mem false, [7])] ?_))
    refine s_call cz ?_
    (repeat (first | refine g ?_ | refine s_flat 6 [(.pure, [0, 1, 3, 4]), (.mem true, [2]), (.pure, [5, 6]), (.mem false, [7])] ?_))
    refine run_ret rfl (imp_RD rfl ?_)
    rw [← hor]
    exact shut
  · (first | refine FnD.go Tryz.call117 Tryz.func117 rfl rfl rfl ?_ | refine FnX.go Tryz.call117 Tryz.func117 rfl rfl rfl ?_)
    (repeat (first | refine g ?_ | refine s_flat 6 [(.pure, [0, 1, 3, 4]), (.mem true, [2]), (.pure, [5, 6]), (.mem false, [7])] ?_))
    refine s_call c ?_
    (repeat (first | refine g ?_ | refine s_flat 6 [(.pure, [0, 1, 3, 4]), (.mem true, [2]), (.pure, [5, 6]), (.mem false, [7])] ?_))
    refine s_call cz ?_
    (repeat (first | refine g ?_ | refine s_flat 6 [(.pure, [0, 1, 3, 4]), (.mem true, [2]), (.pure, [5, 6]), (.mem false, [7])] ?_))
    refine run_ret rfl (imp_RD rfl ?_)
    rw [← hor]
    exact shut
  · (first | refine FnD.go Tryz.call117 Tryz.func117 rfl rfl rfl ?_ | refine FnX.go Tryz.call117 Tryz.func117 rfl rfl rfl ?_)
    (repeat (first | refine g ?_ | refine s_flat 6 [(.pure, [0, 1, 3, 4]), (.mem true, [2]), (.pure, [5, 6]), (.mem false, [7])] ?_))
    refine s_call c ?_
    (repeat (first | refine g ?_ | refine s_flat 6 [(.pure, [0, 1, 3, 4]), (.mem true, [2]), (.pure, [5, 6]), (.mem false, [7])] ?_))
    refine s_call cz ?_
    (repeat (first | refine g ?_ | refine s_flat 6 [(.pure, [0, 1, 3, 4]), (.mem true, [2]), (.pure, [5, 6]), (.mem false, [7])] ?_))
    refine run_ret rfl (imp_RD rfl ?_)
    rw [← hor]
    exact shut
  · (first | refine FnD.go Tryz.call117 Tryz.func117 rfl rfl rfl ?_ | refine FnX.go Tryz.call117 Tryz.func117 rfl rfl rfl ?_)
    (repeat (first | refine g ?_ | refine s_flat 6 [(.pure, [0, 1, 3, 4]), (.mem true, [2]), (.pure, [5, 6]), (.mem false, [7])] ?_))
    refine s_call c ?_
    (repeat (first | refine g ?_ | refine s_flat 6 [(.pure, [0, 1, 3, 4]), (.mem true, [2]), (.pure, [5, 6]), (.mem false, [7])] ?_))
    refine s_call cz ?_
    (repeat (first | refine g ?_ | refine s_flat 6 [(.pure, [0, 1, 3, 4]), (.mem true, [2]), (.pure, [5, 6]), (.mem false, [7])] ?_))
    refine run_ret rfl (imp_RD rfl ?_)
    rw [← hor]
    exact shut
  · (first | refine FnD.go Tryz.call117 Tryz.func117 rfl rfl rfl ?_ | refine FnX.go Tryz.call117 Tryz.func117 rfl rfl rfl ?_)
    (repeat (first | refine g ?_ | refine s_flat 6 [(.pure, [0, 1, 3, 4]), (.mem true, [2]), (.pure, [5, 6]), (.mem false, [7])] ?_))
    refine s_call c ?_
    (repeat (first | refine g ?_ | refine s_flat 6 [(.pure, [0, 1, 3, 4]), (.mem true, [2]), (.pure, [5, 6]), (.mem false, [7])] ?_))
    refine s_call cz ?_
    (repeat (first | refine g ?_ | refine s_flat 6 [(.pure, [0, 1, 3, 4]), (.mem true, [2]), (.pure, [5, 6]), (.mem false, [7])] ?_))
    refine run_ret rfl (imp_RD rfl ?_)
    rw [← hor]
    exact shut
  · (first | refine FnD.go Tryz.call117 Tryz.func117 rfl rfl rfl ?_ | refine FnX.go Tryz.call117 Tryz.func117 rfl rfl rfl ?_)
    (repeat (first | refine g ?_ | refine s_flat 6 [(.pure, [0, 1, 3, 4]), (.mem true, [2]), (.pure, [5, 6]), (.mem false, [7])] ?_))
    refine s_call c ?_
    (repeat (first | refine g ?_ | refine s_flat 6 [(.pure, [0, 1, 3, 4]), (.mem true, [2]), (.pure, [5, 6]), (.mem false, [7])] ?_))
    refine s_call cz ?_
    (repeat (first | refine g ?_ | refine s_flat 6 [(.pure, [0, 1, 3, 4]), (.mem true, [2]), (.pure, [5, 6]), (.mem false, [7])] ?_))
    refine run_ret rfl (imp_RD rfl ?_)
    rw [← hor]
    exact shut
  · (first | refine FnD.go Tryz.call117 Tryz.func117 rfl rfl rfl ?_ | refine FnX.go Tryz.call117 Tryz.func117 rfl rfl rfl ?_)
    (repeat (first | refine g ?_ | refine s_flat 6 [(.pure, [0, 1, 3, 4]), (.mem true, [2]), (.pure, [5, 6]), (.mem false, [7])] ?_))
    refine s_call c ?_
    (repeat (first | refine g ?_ | refine s_flat 6 [(.pure, [0, 1, 3, 4]), (.mem true, [2]), (.pure, [5, 6]), (.mem false, [7])] ?_))
    refine s_call cz ?_
    (repeat (first | refine g ?_ | refine s_flat 6 [(.pure, [0, 1, 3, 4]), (.mem true, [2]), (.pure, [5, 6]), (.mem false, [7])] ?_))
    refine run_ret rfl (imp_RD rfl ?_)
    rw [← hor]
    exact shut
  · (first | refine FnD.go Tryz.call117 Tryz.func117 rfl rfl rfl ?_ | refine FnX.go Tryz.call117 Tryz.func117 rfl rfl rfl ?_)
    (repeat (first | refine g ?_ | refine s_flat 6 [(.pure, [0, 1, 3, 4]), (.mem true, [2]), (.pure, [5, 6]), (.mem false, [7])] ?_))
    refine s_call c ?_
    (repeat (first | refine g ?_ | refine s_flat 6 [(.pure, [0, 1, 3, 4]), (.mem true, [2]), (.pure, [5, 6]), (.mem false, [7])] ?_))
    refine s_call cz ?_
    (repeat (first | refine g ?_ | refine s_flat 6 [(.pure, [0, 1, 3, 4]), (.mem true, [2]), (.pure, [5, 6]), (.mem false, [7])] ?_))
    refine run_ret rfl (imp_RD rfl ?_)
    rw [← hor]
    exact shut
end Go.Proofs.YtaiocnpecaecdaaGreatDoor.V
namespace Go.Proofs.YtaiocnpecaecdaaGreatDoor.V
open Go.Proofs.YtaiocnpecaecdaaGreatDoor.VL Go.Proofs.YtaiocnpecaecdaaGreatDoor.VL.RD Go.Proofs.YtaiocnpecaecdaaGreatDoor.VL.Sha
attribute [local irreducible] Run numB
def secL (s : PSt) (j : Int) : List UInt8 := if (rdF s j).2 = 0 then (rdF s j).1.data.toList else List.replicate 64 0
def secM (s : PSt) (j : Int) (k : Nat) : Nat := if (rdF s j).2 = 0 then 0 else 2 ^ k
def getL (s : PSt) (a : Int) : Nat → List UInt8
  | 0 => []
  | i + 1 => getL s a i ++ secL s (a * 8 + i)
def getM (s : PSt) (a : Int) : Nat → Nat
  | 0 => 0
  | i + 1 => getM s a i + secM s (a * 8 + i) i
def getF (s : PSt) (a : Int) : (ByteArray × Int × Int) × PSt :=
  if a < 0 ∨ s.sectors / 8 ≤ a then ((⟨#[]⟩, 0, 2), s) else if s.down = true then ((⟨#[]⟩, 0, 20), s) else ((bl (getL s a 8), ((getM s a 8 : Nat) : Int), 0), rds s 8)
theorem secL_len {s : PSt} (h : S64 s) (j : Int) (h0 : 0 ≤ j) (h1 : j < s.sectors) : (secL s j).length = 64 := by
  unfold secL
  rcases rdF_cases h j h0 h1 with ⟨h2, h3⟩ | h2
  · rw [if_pos h2, Array.length_toList]; exact h3
  · rw [if_neg (by rw [h2]; decide), List.length_replicate]
theorem getL_len {s : PSt} (h : S64 s) (a : Int) (h0 : 0 ≤ a) (h1 : a < s.sectors / 8) (i : Nat) (hi : i ≤ 8) : (getL s a i).length = 64 * i := by
  induction i with
  | zero => rfl
  | succ i ih =>
    show (getL s a i ++ secL s (a * 8 + i)).length = _
    rw [List.length_append, ih (by omega), secL_len h _ (by omega) (by omega)]
    omega
theorem getM_lt (s : PSt) (a : Int) (i : Nat) : getM s a i < 2 ^ i := by
  induction i with
  | zero => show 0 < 1; omega
  | succ i ih =>
    show getM s a i + secM s (a * 8 + i) i < _
    rw [Nat.pow_succ]
    unfold secM
    split <;> omega
theorem getL_rds (s : PSt) (k : Nat) (a : Int) (i : Nat) : getL (rds s k) a i = getL s a i := by
  induction i with
  | zero => rfl
  | succ i ih => show getL (rds s k) a i ++ secL (rds s k) (a * 8 + i) = _; rw [ih]; rfl
theorem getM_rds (s : PSt) (k : Nat) (a : Int) (i : Nat) : getM (rds s k) a i = getM s a i := by
  induction i with
  | zero => rfl
  | succ i ih => show getM (rds s k) a i + secM (rds s k) (a * 8 + i) i = _; rw [ih]; rfl
theorem rds_wf {s : PSt} (h : WF s) (k : Nat) (hk : s.reads + k ≤ 1099511627776) : WF (rds s k) :=
  ⟨h.held, h.dumb, h.sec, h.cache, h.size, ⟨by have := h.reads.1; show 0 ≤ s.reads + k; omega, hk⟩, h.writes, h.fuse⟩
theorem run_sl_nil0 {P : Program} {q : View} {fn : Func} {R : Value → HProp} {k : List It} {σ : Facts} {A : List HProp} {t : TypeId} {kk : Nat} (h : Run P q fn R k σ (sl none 0 0 t kk [] :: A)) : Run P q fn R k σ A := h.imp (imp_sl_nil (Imp.refl _))
theorem bget_spec (q : View) (hE : ErrQ q) (b : Nat) (s : PSt) (hw : WF s) (h64 : S64 s) (hr : s.reads + 8 ≤ 1099511627776) (a : Int) :
    FnD Tryz.prog q 62 [.pointer (some ⟨b, 0, none⟩), .int .i64 a] [plateAt b s] (.tuple #[.string (getF s a).1.1, .int .i64 (getF s a).1.2.1, .int .i64 (getF s a).1.2.2]) [plateAt b (getF s a).2] := by
  have h0 := hw.held
  have h1 := hw.sec
  have cb := blocks_spec q b s hw
  by_cases ha : a < 0
  · rw [show getF s a = ((⟨#[]⟩, 0, 2), s) from by unfold getF; rw [if_pos (.inl ha)]]
    (first | refine FnD.go Tryz.call62 Tryz.func62 rfl rfl rfl ?_ | refine FnX.go Tryz.call62 Tryz.func62 rfl rfl rfl ?_)
    (repeat (first | refine g ?_))
    exact run_ret rfl (imp_RD rfl shut)
  by_cases ha2 : s.sectors / 8 ≤ a
  · rw [show getF s a = ((⟨#[]⟩, 0, 2), s) from by unfold getF; rw [if_pos (.inr ha2)]]
    (first | refine FnD.go Tryz.call62 Tryz.func62 rfl rfl rfl ?_ | refine FnX.go Tryz.call62 Tryz.func62 rfl rfl rfl ?_)
    (repeat (first | refine g ?_))
    refine s_call cb ?_
    (repeat (first | refine g ?_))
    exact run_ret rfl (imp_RD rfl shut)
  by_cases hd : s.down = true
  · rw [show getF s a = ((⟨#[]⟩, 0, 20), s) from by unfold getF; rw [if_neg (by omega), if_pos hd]]
    have ho := fun m => sector_off q b m s s hw (a * 8 + (0 : Nat)) (0 : Nat) 0 20 ⟨#[]⟩ (readF_down hd _) (by decide) (by decide)
    have hn := fun f => number_spec q hE f (a * 8 + (0 : Nat)) 20
    (first | refine FnD.go Tryz.call62 Tryz.func62 rfl rfl rfl ?_ | refine FnX.go Tryz.call62 Tryz.func62 rfl rfl rfl ?_)
    (repeat (first | refine g ?_))
    refine s_call cb ?_
    (repeat (first | refine g ?_))
    refine s_alloc fun bb => ?_
    (repeat (first | refine g ?_))
    refine s_alloc fun m => ?_
    (repeat (first | refine g ?_))
    refine run_loopI (X := Unit) (fun _ => True) (fun _ => [(0, .pointer (some ⟨b, 0, none⟩)), (1, .int .i64 a), (7, .pointer (some ⟨bb, 0, none⟩)), (8, .pointer (some ⟨m, 0, none⟩)), (22, .int .i64 ((0 : Nat) : Int))])
      (fun _ => [plateAt b s, cells m 3 ⟨[.int .i64 0]⟩]) (fun _ => 0) () trivial fct shut ?_
    intro _ _
    (repeat (first | refine g ?_))
    refine s_callx (ho m) fun f => ?_
    (repeat (first | refine g ?_))
    refine s_ifnil ?_
    (repeat (first | refine g ?_))
    refine s_call (hn f) ?_
    (repeat (first | refine g ?_))
    exact run_ret rfl (imp_RD rfl shut)
  have hdf : s.down = false := by simpa using hd
  rw [show getF s a = ((bl (getL s a 8), ((getM s a 8 : Nat) : Int), 0), rds s 8) from by unfold getF; rw [if_neg (by omega), if_neg hd]]
  (first | refine FnD.go Tryz.call62 Tryz.func62 rfl rfl rfl ?_ | refine FnX.go Tryz.call62 Tryz.func62 rfl rfl rfl ?_)
  (repeat (first | refine g ?_))
  refine s_call cb ?_
  (repeat (first | refine g ?_))
  refine s_alloc fun bb => ?_
  (repeat (first | refine g ?_))
  refine s_alloc fun m => ?_
  (repeat (first | refine g ?_))
  refine run_sl_nil0 (t := 5) (kk := 1) ?_
  refine run_loopI (X := Nat × Bool × Option Addr × Nat) (fun x => x.1 ≤ 8) (fun x => [(0, .pointer (some ⟨b, 0, none⟩)), (1, .int .i64 a), (7, .pointer (some ⟨bb, 0, none⟩)), (8, .pointer (some ⟨m, 0, none⟩)), (22, .int .i64 (x.1 : Int))])
    (fun x => [plateAt b (rds s x.1), cells m 3 ⟨[.int .i64 ((getM s a x.1 : Nat) : Int)]⟩, cells bb 184 ⟨[.pointer (selfP x.2.1 bb), .slice x.2.2.1 (64 * x.1) x.2.2.2]⟩, sl x.2.2.1 (64 * x.1) x.2.2.2 5 1 (bv (getL s a x.1))]) (fun x => 8 - x.1) (0, false, none, 0) (Nat.zero_le _) fct ?_ ?_
  · dsimp only
    rw [rds_zero]
    exact shut
  intro ⟨i, own, p, cap⟩ hi
  dsimp only at hi ⊢
  have hm := getM_lt s a i
  have hl := getL_len h64 a (by omega) (by omega) i hi
  by_cases h8 : i < 8
  · have hup : readF (rds s i) (a * 8 + i) = (rdF s (a * 8 + i), rds s (i + 1)) := by
      rw [readF_up (s := rds s i) hdf _ (by omega) (show a * 8 + i < s.sectors by omega), rds_add]
      rfl
    have hL : ∀ t : ByteArray, t.data.toList = secL s (a * 8 + i) → getL s a (i + 1) = getL s a i ++ t.data.toList := fun t e => by rw [e]; rfl
    have hwi := rds_wf hw i (by omega)
    have eself : selfP true bb = some ⟨bb, 0, none⟩ := rfl
    rcases rdF_cases h64 (a * 8 + i) (by omega) (by omega) with ⟨h2, h3⟩ | h2
    · have e1 : secL s (a * 8 + i) = (rdF s (a * 8 + i)).1.data.toList := by unfold secL; rw [if_pos h2]
      have e2 : getM s a (i + 1) = getM s a i := by show _ + secM s (a * 8 + i) i = _; unfold secM; rw [if_pos h2]; rfl
      have e3 := hL _ e1.symm
      obtain ⟨t, e⟩ : ∃ t, t = (rdF s (a * 8 + i)).1 := ⟨_, rfl⟩
      rw [← e] at e1 e3 h3
      have hup2 : readF (rds s i) (a * 8 + i) = ((t, 0), rds s (i + 1)) := by rw [hup, e, ← h2]
      have cs := fun bit => sector_ok q b m (rds s i) (rds s (i + 1)) hwi (a * 8 + i) bit (getM s a i) t hup2
      have cw := writeString_spec q bb own p (64 * i) cap (getL s a i) t hl (by omega)
      rw [← e3] at cw
      rw [h3, show 64 * i + 64 = 64 * (i + 1) from by omega] at cw
      generalize hg1 : getL s a (i + 1) = L1 at cw
      (repeat (first | refine g ?_))
      refine s_call (cs _) ?_
      (repeat (first | refine g ?_))
      refine s_ifnil ?_
      (repeat (first | refine g ?_))
      refine s_callx cw fun r => ?_
      (repeat (first | refine g ?_))
      refine run_stop_loop (i + 1, true, r.1, r.2) ⟨by dsimp only; omega, by dsimp only; omega⟩ fct ?_
      dsimp only
      rw [eself, e2, hg1]
      exact shut
    · have e1 : secL s (a * 8 + i) = List.replicate 64 0 := by unfold secL; rw [if_neg (by rw [h2]; decide)]
      have e2 : getM s a (i + 1) = getM s a i + 2 ^ i := by show _ + secM s (a * 8 + i) i = _; unfold secM; rw [if_neg (by rw [h2]; decide)]
      have e3 := hL zeros64 e1.symm
      have hz := zeros64_size
      rw [h2] at hup
      have cs := sector_bad q b m (rds s i) (rds s (i + 1)) hwi (a * 8 + i) ⟨#[]⟩ hup i h8 (getM s a i) hm
      generalize zeros64 = t at *
      have cw := writeString_spec q bb own p (64 * i) cap (getL s a i) t hl (by omega)
      rw [← e3] at cw
      rw [hz, show 64 * i + 64 = 64 * (i + 1) from by omega] at cw
      rw [← e2] at cs
      generalize hg1 : getL s a (i + 1) = L1 at cw
      (repeat (first | refine g ?_))
      refine s_call cs ?_
      (repeat (first | refine g ?_))
      refine s_ifnil ?_
      (repeat (first | refine g ?_))
      refine s_callx cw fun r => ?_
      (repeat (first | refine g ?_))
      refine run_stop_loop (i + 1, true, r.1, r.2) ⟨by dsimp only; omega, by dsimp only; omega⟩ fct ?_
      dsimp only
      rw [eself, hg1]
      exact shut
  · obtain rfl : i = 8 := by omega
    have cst := string_spec q bb (selfP own bb) p 512 cap (getL s a 8) (by omega) (by decide) (by decide)
    show Run _ _ _ _ _ _ [plateAt b (rds s 8), cells m 3 ⟨[.int .i64 ((getM s a 8 : Nat) : Int)]⟩, cells bb 184 ⟨[.pointer (selfP own bb), .slice p 512 cap]⟩, sl p 512 cap 5 1 (bv (getL s a 8))]
    (repeat (first | refine g ?_))
    refine d_start [cells bb 184 ⟨[.pointer (selfP own bb), .slice p 512 cap]⟩, sl p 512 cap 5 1 (bv (getL s a 8))] ?_
    (first | refine d_pure 1 ?_ | refine d_load 1 ?_ | refine d_arith 1 ?_ | refine d_rem 1 ?_ | refine d_quo 1 ?_ | refine d_shrv 1 ?_ | refine d_fieldat 1 ?_ | refine d_idx1 1 ?_ | refine d_index 1 ?_ | refine d_conv64 1 ?_ | refine d_slices 1 ?_ | refine d_concat 1 ?_ | refine d_build 1 ?_)
    refine d_call 0 cst ?_
    (first | refine d_pure 2 ?_ | refine d_load 2 ?_ | refine d_arith 2 ?_ | refine d_rem 2 ?_ | refine d_quo 2 ?_ | refine d_shrv 2 ?_ | refine d_fieldat 2 ?_ | refine d_idx1 2 ?_ | refine d_index 2 ?_ | refine d_conv64 2 ?_ | refine d_slices 2 ?_ | refine d_concat 2 ?_ | refine d_build 2 ?_)
    (first | refine d_pure 3 ?_ | refine d_load 3 ?_ | refine d_arith 3 ?_ | refine d_rem 3 ?_ | refine d_quo 3 ?_ | refine d_shrv 3 ?_ | refine d_fieldat 3 ?_ | refine d_idx1 3 ?_ | refine d_index 3 ?_ | refine d_conv64 3 ?_ | refine d_slices 3 ?_ | refine d_concat 3 ?_ | refine d_build 3 ?_)
    (first | refine d_pure 4 ?_ | refine d_load 4 ?_ | refine d_arith 4 ?_ | refine d_rem 4 ?_ | refine d_quo 4 ?_ | refine d_shrv 4 ?_ | refine d_fieldat 4 ?_ | refine d_idx1 4 ?_ | refine d_index 4 ?_ | refine d_conv64 4 ?_ | refine d_slices 4 ?_ | refine d_concat 4 ?_ | refine d_build 4 ?_)
    refine d_done ?_
    (repeat (first | refine g ?_))
    exact run_ret rfl (imp_RD rfl shut)
end Go.Proofs.YtaiocnpecaecdaaGreatDoor.V
namespace Go.Proofs.YtaiocnpecaecdaaGreatDoor.V
open Go.Proofs.YtaiocnpecaecdaaGreatDoor.VL Go.Proofs.YtaiocnpecaecdaaGreatDoor.VL.RD Go.Proofs.YtaiocnpecaecdaaGreatDoor.VL.Sha
attribute [local irreducible] Run numB
/-- A device that is as it should be; no more was done with it than n steps. -/
structure PW (n : Nat) (s : PSt) : Prop where
  wf : WF s
  s64 : S64 s
  nr : s.reads ≤ n
  nw : s.writes ≤ n
  nc : s.cache.length ≤ n
theorem PW.mono {n m : Nat} {s : PSt} (h : PW n s) (hm : n ≤ m) : PW m s := ⟨h.wf, h.s64, by have := h.nr; omega, by have := h.nw; omega, Nat.le_trans h.nc hm⟩
theorem PW.blank (n : Nat) (h : n ≤ 32768) : PW 0 (blank n) := by
  refine ⟨blank_wf n h, ⟨by simp [V.blank], ?_⟩, by simp [V.blank], by simp [V.blank], by simp [V.blank]⟩
  intro x hx
  have : x = ⟨#[]⟩ := (List.mem_replicate.1 hx).2
  subst this; exact .inl rfl
theorem PW.rds {n : Nat} {s : PSt} (h : PW n s) (k : Nat) (hn : n + k ≤ 1099511627776) : PW (n + k) (rds s k) :=
  ⟨rds_wf h.wf k (by have := h.nr; omega), ⟨h.s64.cache, h.s64.held⟩, by have := h.nr; show s.reads + k ≤ _; omega, by have := h.nw; show s.writes ≤ _; omega, Nat.le_trans h.nc (Nat.le_add_right _ _)⟩
theorem PW.write {n : Nat} {s : PSt} (h : PW n s) (a : Int) (t : ByteArray) (hn : n < 1000000000) : PW (n + 1) (writeF s a t).2 := by
  unfold writeF
  have nr := h.nr
  have nw := h.nw
  have nc := h.nc
  have hw := h.wf.writes
  have hf := h.wf.fuse
  have hm := h.mono (Nat.le_succ n)
  by_cases h0 : (t.size : Int) ≠ 64
  · rw [if_pos h0]; exact hm
  rw [if_neg h0]
  by_cases h1 : s.down = true
  · rw [if_pos h1]; exact hm
  rw [if_neg h1]
  by_cases h2 : a < 0 ∨ s.sectors ≤ a
  · rw [if_pos h2]; exact hm
  rw [if_neg h2]
  by_cases h3 : s.fuse = 0
  · rw [if_pos h3]
    exact ⟨⟨h.wf.held, h.wf.dumb, h.wf.sec, h.wf.cache, h.wf.size, h.wf.reads, h.wf.writes, h.wf.fuse⟩, ⟨h.s64.cache, h.s64.held⟩, hm.nr, hm.nw, hm.nc⟩
  rw [if_neg h3]
  have hfu : -1 ≤ (if 0 < s.fuse then s.fuse - 1 else s.fuse) ∧ (if 0 < s.fuse then s.fuse - 1 else s.fuse) ≤ 9223372036854775807 := by split <;> omega
  generalize (if 0 < s.fuse then s.fuse - 1 else s.fuse) = fu at hfu
  refine ⟨⟨h.wf.held, h.wf.dumb, h.wf.sec, ?_, ?_, h.wf.reads, ⟨by show 0 ≤ s.writes + 1; omega, by show s.writes + 1 ≤ _; omega⟩, hfu⟩, ⟨?_, h.s64.held⟩, hm.nr, by show s.writes + 1 ≤ _; omega, ?_⟩
  · intro x hx
    rcases List.mem_append.1 hx with hx | hx
    · exact h.wf.cache x hx
    · obtain rfl : x = (a, t) := by simpa using hx
      show 0 ≤ a ∧ a < s.sectors
      omega
  · show (s.cache ++ [(a, t)]).length ≤ _
    rw [List.length_append, List.length_singleton]; omega
  · intro x hx
    rcases List.mem_append.1 hx with hx | hx
    · exact h.s64.cache x hx
    · obtain rfl : x = (a, t) := by simpa using hx
      show t.size = 64
      omega
  · show (s.cache ++ [(a, t)]).length ≤ _
    rw [List.length_append, List.length_singleton]; omega
theorem writeF_sectors (s : PSt) (a : Int) (t : ByteArray) : (writeF s a t).2.sectors = s.sectors := by
  unfold writeF
  repeat' split
  all_goals rfl
/-- A block's sector. -/
def secT (raw : ByteArray) (i : Nat) : ByteArray := raw.extract (64 * i) (64 * i + 64)
/-- So many sectors are written, up to the first that fails. -/
def wrN (s : PSt) (base : Int) (raw : ByteArray) : Nat → Int × PSt
  | 0 => (0, s)
  | i + 1 => if (wrN s base raw i).1 = 0 then writeF (wrN s base raw i).2 (base + i) (secT raw i) else wrN s base raw i
theorem wrN_pw {n : Nat} {s : PSt} (h : PW n s) (hn : n < 1000000) (base : Int) (raw : ByteArray) (i : Nat) (hi : i ≤ 8) : PW (n + i) (wrN s base raw i).2 ∧ (wrN s base raw i).2.sectors = s.sectors := by
  induction i with
  | zero => exact ⟨h, rfl⟩
  | succ i ih =>
    have ih := ih (by omega)
    show PW (n + (i + 1)) (if (wrN s base raw i).1 = 0 then writeF (wrN s base raw i).2 (base + i) (secT raw i) else wrN s base raw i).2 ∧ (if (wrN s base raw i).1 = 0 then writeF (wrN s base raw i).2 (base + i) (secT raw i) else wrN s base raw i).2.sectors = s.sectors
    split
    · exact ⟨ih.1.write _ _ (by omega), by rw [writeF_sectors]; exact ih.2⟩
    · exact ⟨ih.1.mono (by omega), ih.2⟩
theorem wrN_stop (s : PSt) (base : Int) (raw : ByteArray) (i j : Nat) (hij : i ≤ j) (h : (wrN s base raw i).1 ≠ 0) : wrN s base raw j = wrN s base raw i := by
  induction j with
  | zero => rw [show i = 0 by omega]
  | succ j ih =>
    by_cases e : i = j + 1
    · rw [e]
    · have := ih (by omega)
      show (if (wrN s base raw j).1 = 0 then _ else wrN s base raw j) = _
      rw [if_neg (by rw [this]; exact h), this]
def faultV (e : Int) (f : Nat) : Value := if e = 0 then .nilIface else .iface 230 (.pointer (some ⟨f, 0, none⟩))
def faultC (e a : Int) (f : Nat) : HProp := if e = 0 then star [] else cells f 232 ⟨[.int .i64 a, .int .i64 e]⟩
theorem blay_spec (q : View) (b : Nat) (s : PSt) (n : Nat) (hw : PW n s) (hn : n < 1000000) (a : Int) (h0 : 0 ≤ a) (h1 : a < s.sectors / 8) (raw : ByteArray) (hr : raw.size = 512) :
    FnX Tryz.prog q 151 [.pointer (some ⟨b, 0, none⟩), .int .i64 a, .string raw] [plateAt b s] (fun f : Nat => faultV (wrN s (a * 8) raw 8).1 f) fun f => [plateAt b (wrN s (a * 8) raw 8).2, faultC (wrN s (a * 8) raw 8).1 a f] := by
  have hsec := hw.wf.sec
  (first | refine FnD.go Tryz.call151 Tryz.func151 rfl rfl rfl ?_ | refine FnX.go Tryz.call151 Tryz.func151 rfl rfl rfl ?_)
  (repeat (first | refine g ?_))
  refine run_loopI (X := Nat) (fun i => i ≤ 8 ∧ (wrN s (a * 8) raw i).1 = 0) (fun i => [(0, .pointer (some ⟨b, 0, none⟩)), (1, .int .i64 a), (2, .string raw), (9, .int .i64 (i : Int))])
    (fun i => [plateAt b (wrN s (a * 8) raw i).2]) (fun i => 8 - i) 0 ⟨Nat.zero_le _, rfl⟩ fct shut ?_
  intro i ⟨hi, hz⟩
  have hp := wrN_pw hw hn (a * 8) raw i hi
  by_cases h8 : i < 8
  · have eF : raw.extract ((i : Int) * 64).toNat (((i : Int) + 1) * 64).toNat = secT raw i := by
      unfold secT
      rw [show ((i : Int) * 64).toNat = 64 * i by omega, show (((i : Int) + 1) * 64).toNat = 64 * i + 64 by omega]
    have eN : wrN s (a * 8) raw (i + 1) = writeF (wrN s (a * 8) raw i).2 (a * 8 + i) (secT raw i) := by show (if _ then _ else _) = _; rw [if_pos hz]
    have cw := write_spec q b (wrN s (a * 8) raw i).2 hp.1.wf (a * 8 + i) (raw.extract ((i : Int) * 64).toNat (((i : Int) + 1) * 64).toNat)
    rw [show writeF (wrN s (a * 8) raw i).2 (a * 8 + i) (raw.extract ((i : Int) * 64).toNat (((i : Int) + 1) * 64).toNat) = wrN s (a * 8) raw (i + 1) by rw [eF, eN]] at cw
    by_cases he : (wrN s (a * 8) raw (i + 1)).1 = 0
    · rw [he] at cw
      (repeat (first | refine g ?_))
      refine s_call cw ?_
      (repeat (first | refine g ?_))
      exact run_stop_loop (i + 1) ⟨⟨by omega, he⟩, by omega⟩ fct shut
    · have e8 := wrN_stop s (a * 8) raw (i + 1) 8 (by omega) he
      rw [e8]
      generalize hR : wrN s (a * 8) raw (i + 1) = R at *
      obtain ⟨e, s'⟩ := R
      dsimp only at he cw ⊢
      (repeat (first | refine g ?_))
      refine s_call cw ?_
      (repeat (first | refine g ?_))
      refine s_box fun f => ?_
      (repeat (first | refine g ?_))
      refine s_mki ?_
      (repeat (first | refine g ?_))
      refine run_ret rfl (imp_RX f ?_ ?_)
      · unfold faultV; rw [if_neg he]
      · unfold faultC; rw [if_neg he]; exact shut
  · obtain rfl : i = 8 := by omega
    rw [hz]
    (repeat (first | refine g ?_))
    refine run_ret rfl (imp_RX 0 ?_ ?_)
    · rfl
    · unfold faultC; rw [if_pos rfl]; apply imp_pick; (repeat (first | (with_reducible exact Pull.head) | apply Pull.tail)); exact imp_star (Imp.refl _)
def bputF (s : PSt) (a : Int) (raw : ByteArray) : Int × PSt := if raw.size ≠ 512 then (1, s) else if a < 0 ∨ s.sectors / 8 ≤ a then (2, s) else wrN s (a * 8) raw 8
theorem bput_spec (q : View) (hE : ErrQ q) (b : Nat) (s : PSt) (n : Nat) (hw : PW n s) (hn : n < 1000000) (a : Int) (raw : ByteArray) (hz : raw.size ≤ 140737488355328) :
    FnD Tryz.prog q 107 [.pointer (some ⟨b, 0, none⟩), .int .i64 a, .string raw] [plateAt b s] (.int .i64 (bputF s a raw).1) [plateAt b (bputF s a raw).2] := by
  have hsec := hw.wf.sec
  have hh := hw.wf.held
  have cb := blocks_spec q b s hw.wf
  by_cases h512 : raw.size ≠ 512
  · rw [show bputF s a raw = (1, s) from by unfold bputF; rw [if_pos h512]]
    (first | refine FnD.go Tryz.call107 Tryz.func107 rfl rfl rfl ?_ | refine FnX.go Tryz.call107 Tryz.func107 rfl rfl rfl ?_)
    (repeat (first | refine g ?_))
    exact run_ret rfl (imp_RD rfl shut)
  by_cases ha : a < 0
  · rw [show bputF s a raw = (2, s) from by unfold bputF; rw [if_neg h512, if_pos (.inl ha)]]
    (first | refine FnD.go Tryz.call107 Tryz.func107 rfl rfl rfl ?_ | refine FnX.go Tryz.call107 Tryz.func107 rfl rfl rfl ?_)
    (repeat (first | refine g ?_))
    exact run_ret rfl (imp_RD rfl shut)
  by_cases ha2 : s.sectors / 8 ≤ a
  · rw [show bputF s a raw = (2, s) from by unfold bputF; rw [if_neg h512, if_pos (.inr ha2)]]
    (first | refine FnD.go Tryz.call107 Tryz.func107 rfl rfl rfl ?_ | refine FnX.go Tryz.call107 Tryz.func107 rfl rfl rfl ?_)
    (repeat (first | refine g ?_))
    refine s_call cb ?_
    (repeat (first | refine g ?_))
    exact run_ret rfl (imp_RD rfl shut)
  have h512 : raw.size = 512 := Decidable.not_not.1 h512
  rw [show bputF s a raw = wrN s (a * 8) raw 8 from by unfold bputF; rw [if_neg (by omega), if_neg (by omega)]]
  have cl := blay_spec q b s n hw hn a (by omega) (by omega) raw h512
  generalize wrN s (a * 8) raw 8 = R at cl ⊢
  obtain ⟨e, s'⟩ := R
  dsimp only at cl ⊢
  by_cases he : e = 0
  · subst he
    have cn := number_nil q
    (first | refine FnD.go Tryz.call107 Tryz.func107 rfl rfl rfl ?_ | refine FnX.go Tryz.call107 Tryz.func107 rfl rfl rfl ?_)
    (repeat (first | refine g ?_))
    refine s_call cb ?_
    (repeat (first | refine g ?_))
    refine s_callx cl fun f => ?_
    unfold faultV faultC
    rw [if_pos rfl, if_pos rfl]
    (repeat (first | refine g ?_))
    refine s_call cn ?_
    (repeat (first | refine g ?_))
    exact run_ret rfl (imp_RD rfl shut)
  · have cn := fun f => number_spec q hE f a e
    (first | refine FnD.go Tryz.call107 Tryz.func107 rfl rfl rfl ?_ | refine FnX.go Tryz.call107 Tryz.func107 rfl rfl rfl ?_)
    (repeat (first | refine g ?_))
    refine s_call cb ?_
    (repeat (first | refine g ?_))
    refine s_callx cl fun f => ?_
    unfold faultV faultC
    rw [if_neg he, if_neg he]
    (repeat (first | refine g ?_))
    refine s_call (cn f) ?_
    (repeat (first | refine g ?_))
    exact run_ret rfl (imp_RD rfl shut)
end Go.Proofs.YtaiocnpecaecdaaGreatDoor.V
namespace Go.Proofs.YtaiocnpecaecdaaGreatDoor.V
open Go.Proofs.YtaiocnpecaecdaaGreatDoor.VL Go.Proofs.YtaiocnpecaecdaaGreatDoor.VL.RD Go.Proofs.YtaiocnpecaecdaaGreatDoor.VL.Sha
attribute [local irreducible] Run numB
/-- A block that can't be had, or not all of it, is no reading. -/
theorem bload_no (q : View) (b : Nat) (v : Value) (W L L' : HProp) (a m e : Int) (raw : ByteArray) (hm : e ≠ 0 ∨ m ≠ 0)
    (cg : FnD Tryz.prog q 62 [.pointer (some ⟨b, 0, none⟩), .int .i64 a] [L] (.tuple #[.string raw, .int .i64 m, .int .i64 e]) [L']) :
    FnD Tryz.prog q 51 [.pointer (some ⟨b, 0, none⟩), v, .int .i64 a] [L, W] (.agg ⟨encR noR⟩) [L', W] := by
  by_cases he : e ≠ 0
  · (first | refine FnD.go Tryz.call51 Tryz.func51 rfl rfl rfl ?_ | refine FnX.go Tryz.call51 Tryz.func51 rfl rfl rfl ?_)
    (repeat (first | refine g ?_))
    refine s_alloc fun r6 => ?_
    (repeat (first | refine g ?_))
    refine s_call cg ?_
    (repeat (first | refine g ?_))
    refine s_ceq r6 (encR noR) ?_ ?_
    · rfl
    refine run_ret1 (imp_RD ?_ shut) rfl (res_cell tabOk rfl rfl rfl (by repeat (first | (with_reducible exact At.head) | apply At.tail)) rfl)
    rfl
  · have he : e = 0 := Decidable.not_not.1 he
    have hm : m ≠ 0 := by omega
    subst he
    (first | refine FnD.go Tryz.call51 Tryz.func51 rfl rfl rfl ?_ | refine FnX.go Tryz.call51 Tryz.func51 rfl rfl rfl ?_)
    (repeat (first | refine g ?_))
    refine s_alloc fun r6 => ?_
    (repeat (first | refine g ?_))
    refine s_call cg ?_
    (repeat (first | refine g ?_))
    refine s_ceq r6 (encR noR) ?_ ?_
    · rfl
    refine run_ret1 (imp_RD ?_ shut) rfl (res_cell tabOk rfl rfl rfl (by repeat (first | (with_reducible exact At.head) | apply At.tail)) rfl)
    rfl
theorem bload_ok (q : View) (b : Nat) (v : Value) (W W' L L' : HProp) (a : Int) (raw : ByteArray) (r : ReadT)
    (cg : FnD Tryz.prog q 62 [.pointer (some ⟨b, 0, none⟩), .int .i64 a] [L] (.tuple #[.string raw, .int .i64 0, .int .i64 0]) [L'])
    (ct : FnD Tryz.prog q 104 [v, .string raw, .int .i64 a] [W] (.agg ⟨encR r⟩) [W']) :
    FnD Tryz.prog q 51 [.pointer (some ⟨b, 0, none⟩), v, .int .i64 a] [L, W] (.agg ⟨encR r⟩) [L', W'] := by
  unfold encR encH at ct
  (first | refine FnD.go Tryz.call51 Tryz.func51 rfl rfl rfl ?_ | refine FnX.go Tryz.call51 Tryz.func51 rfl rfl rfl ?_)
  (repeat (first | refine g ?_))
  refine s_alloc fun r6 => ?_
  (repeat (first | refine g ?_))
  refine s_call cg ?_
  (repeat (first | refine g ?_))
  refine s_call ct ?_
  (repeat (first | refine g ?_))
  refine s_ceq r6 (encR r) ?_ ?_
  · rfl
  refine run_ret1 (imp_RD ?_ shut) rfl (res_cell tabOk rfl rfl rfl (by repeat (first | (with_reducible exact At.head) | apply At.tail)) rfl)
  rfl
/-- What a block of an image of the device is. -/
def allR (s : PSt) (i : Nat) : ByteArray := if s.down = true then blankB else bl (getL s i 8)
def allM (s : PSt) (i : Nat) : Int := if s.down = true then 255 else ((getM s i 8 : Nat) : Int)
def allS (s : PSt) (i : Nat) : PSt := if s.down = true then s else rds s (8 * i)
theorem all_get (s : PSt) (i : Nat) (h1 : (i : Int) < s.sectors / 8) : (getF (allS s i) i).2 = allS s (i + 1) ∧
    (s.down = true ∧ (getF (allS s i) i).1 = (⟨#[]⟩, 0, 20) ∨ s.down = false ∧ (getF (allS s i) i).1 = (allR s i, allM s i, 0)) := by
  unfold allS allR allM
  cases hd : s.down with
  | true =>
    simp only [if_true]
    unfold getF
    rw [if_neg (by omega), if_pos hd]
    exact ⟨rfl, .inl ⟨trivial, rfl⟩⟩
  | false =>
    simp only [Bool.false_eq_true, if_false]
    unfold getF
    rw [if_neg (show ¬ ((i : Int) < 0 ∨ (rds s (8 * i)).sectors / 8 ≤ (i : Int)) by show ¬ ((i : Int) < 0 ∨ s.sectors / 8 ≤ (i : Int)); omega), if_neg (show ¬ (rds s (8 * i)).down = true by show ¬ s.down = true; rw [hd]; decide), getL_rds, getM_rds, rds_add]
    exact ⟨rfl, .inr ⟨trivial, rfl⟩⟩
theorem allS_pw {n : Nat} {s : PSt} (h : PW n s) (i : Nat) (hi : n + 8 * i ≤ 1000000) : PW (n + 8 * i) (allS s i) := by
  unfold allS
  split
  · exact h.mono (Nat.le_add_right _ _)
  · exact h.rds _ (by omega)
def rawsL (s : PSt) (n : Nat) : List ByteArray := (List.range n).map (allR s)
def masksL (s : PSt) (n : Nat) : List Int := (List.range n).map (allM s)
theorem rawsL_succ (s : PSt) (n : Nat) : rawsL s (n + 1) = rawsL s n ++ [allR s n] := by unfold rawsL; rw [List.range_succ, List.map_append]; rfl
theorem masksL_succ (s : PSt) (n : Nat) : masksL s (n + 1) = masksL s n ++ [allM s n] := by unfold masksL; rw [List.range_succ, List.map_append]; rfl
theorem rawsL_len (s : PSt) (n : Nat) : (rawsL s n).length = n := by unfold rawsL; simp
theorem masksL_len (s : PSt) (n : Nat) : (masksL s n).length = n := by unfold masksL; simp
theorem ball_spec (q : View) (hE : ErrQ q) (b : Nat) (s : PSt) (n : Nat) (hw : PW n s) (hn : n ≤ 500000) :
    FnX Tryz.prog q 30 [.pointer (some ⟨b, 0, none⟩)] [plateAt b s] (fun x : Option Addr × Nat × Option Addr × Nat => .agg ⟨[.slice x.1 (s.sectors / 8).toNat x.2.1, .slice x.2.2.1 (s.sectors / 8).toNat x.2.2.2]⟩)
      fun x => [plateAt b (allS s (s.sectors / 8).toNat), sl x.1 (s.sectors / 8).toNat x.2.1 9 1 ((rawsL s (s.sectors / 8).toNat).map Value.string), sl x.2.2.1 (s.sectors / 8).toNat x.2.2.2 3 1 ((masksL s (s.sectors / 8).toNat).map (Value.int .i64))] := by
  have hsec := hw.wf.sec
  have hh := hw.wf.held
  have cb := blocks_spec q b s hw.wf
  obtain ⟨m, hm⟩ : ∃ m : Nat, s.sectors / 8 = m := ⟨(s.sectors / 8).toNat, by omega⟩
  rw [hm] at cb ⊢
  rw [show ((m : Int)).toNat = m from rfl]
  have hm2 : m ≤ 4096 := by omega
  have cbl := bblank_spec q
  (first | refine FnD.go Tryz.call30 Tryz.func30 rfl rfl rfl ?_ | refine FnX.go Tryz.call30 Tryz.func30 rfl rfl rfl ?_)
  (repeat (first | refine g ?_))
  refine s_alloc fun res => ?_
  (repeat (first | refine g ?_))
  refine s_alloc fun im => ?_
  (repeat (first | refine g ?_))
  refine s_call cb ?_
  (repeat (first | refine g ?_))
  refine run_sl_nil0 (t := 9) (kk := 1) ?_
  refine run_sl_nil0 (t := 3) (kk := 1) ?_
  refine run_loopI (X := Nat × Option Addr × Nat × Option Addr × Nat) (fun x => x.1 ≤ m) (fun x => [(0, .pointer (some ⟨b, 0, none⟩)), (2, .pointer (some ⟨res, 0, none⟩)), (3, .pointer (some ⟨im, 0, none⟩)), (9, .int .i64 (m : Int)), (10, .int .i64 (x.1 : Int))])
    (fun x => [cells res 61 ⟨[.slice none 0 0, .slice none 0 0]⟩, cells im 61 ⟨[.slice x.2.1 x.1 x.2.2.1, .slice x.2.2.2.1 x.1 x.2.2.2.2]⟩, plateAt b (allS s x.1), sl x.2.1 x.1 x.2.2.1 9 1 ((rawsL s x.1).map Value.string), sl x.2.2.2.1 x.1 x.2.2.2.2 3 1 ((masksL s x.1).map (Value.int .i64))]) (fun x => m - x.1) (0, none, 0, none, 0) (Nat.zero_le _) fct ?_ ?_
  · dsimp only
    rw [show allS s 0 = s from by unfold allS; split; rfl; exact rds_zero s]
    exact shut
  intro ⟨i, pr, cr, pm, cm⟩ hi
  dsimp only at hi ⊢
  by_cases h8 : i < m
  · have hp := allS_pw hw i (by omega)
    have hg := all_get s i (by omega)
    have cg := bget_spec q hE b (allS s i) hp.wf hp.s64 (by have := hp.nr; omega) i
    rw [hg.1] at cg
    rcases hg.2 with ⟨hd, he⟩ | ⟨hd, he⟩
    · rw [he] at cg
      dsimp only at cg
      have er : allR s i = blankB := by unfold allR; rw [if_pos hd]
      have em : allM s i = 255 := by unfold allM; rw [if_pos hd]
      rw [← er, ← em] at cbl
      (repeat (first | refine g ?_))
      refine s_call cg ?_
      (repeat (first | refine g ?_))
      refine s_call cbl ?_
      (repeat (first | refine g ?_))
      refine s_built fun r1 => ?_
      (repeat (first | refine g ?_))
      refine s_app 1 16 (reads_own At.head rfl) (hxl := by rw [List.length_map, rawsL_len, Nat.mul_one]) fun r2 => ?_
      (repeat (first | refine g ?_))
      refine s_built fun r3 => ?_
      (repeat (first | refine g ?_))
      refine s_app 1 8 (reads_own At.head rfl) (hxl := by rw [List.length_map, masksL_len, Nat.mul_one]) fun r4 => ?_
      (repeat (first | refine g ?_))
      refine run_stop_loop (i + 1, r2.1, r2.2, r4.1, r4.2) ⟨by dsimp only; omega, by dsimp only; omega⟩ fct ?_
      dsimp only
      rw [rawsL_succ, masksL_succ, List.map_append, List.map_append]
      exact shut
    · rw [he] at cg
      dsimp only at cg
      (repeat (first | refine g ?_))
      refine s_call cg ?_
      (repeat (first | refine g ?_))
      refine s_built fun r1 => ?_
      (repeat (first | refine g ?_))
      refine s_app 1 16 (reads_own At.head rfl) (hxl := by rw [List.length_map, rawsL_len, Nat.mul_one]) fun r2 => ?_
      (repeat (first | refine g ?_))
      refine s_built fun r3 => ?_
      (repeat (first | refine g ?_))
      refine s_app 1 8 (reads_own At.head rfl) (hxl := by rw [List.length_map, masksL_len, Nat.mul_one]) fun r4 => ?_
      (repeat (first | refine g ?_))
      refine run_stop_loop (i + 1, r2.1, r2.2, r4.1, r4.2) ⟨by dsimp only; omega, by dsimp only; omega⟩ fct ?_
      dsimp only
      rw [rawsL_succ, masksL_succ, List.map_append, List.map_append]
      exact shut
  · obtain rfl : i = m := by omega
    (repeat (first | refine g ?_))
    refine run_ret1 (imp_RX (pr, cr, pm, cm) ?_ shut) rfl (res_cell tabOk rfl rfl rfl (by repeat (first | (with_reducible exact At.head) | apply At.tail)) rfl)
    rfl
end Go.Proofs.YtaiocnpecaecdaaGreatDoor.V
namespace Go.Proofs.YtaiocnpecaecdaaGreatDoor.V
open Go.Proofs.YtaiocnpecaecdaaGreatDoor.VL
attribute [local irreducible] Run
/-- The document's device: what is kept, which can't be read, what waits, the fuse. -/
structure QSt where
  kept : List ByteArray
  dumb : List Bool
  wait : List (Int × ByteArray)
  fuse : Int
  down : Bool
  reads : Int
  writes : Int
section
variable {P : Program} {q : View} {fn : Func} {R : Value → HProp} {k : List It} {σ : Facts} {A B : List HProp} {F : HProp} {b : Nat} {s : QSt}
end
def qHeldF (s : QSt) (at_ : Int) : ByteArray × Int :=
  if at_ < 0 ∨ (s.kept.length : Int) ≤ at_ then (⟨#[]⟩, 2) else
  if s.dumb.getD at_.toNat false = true then (⟨#[]⟩, 21) else (s.kept.getD at_.toNat ⟨#[]⟩, 0)
end Go.Proofs.YtaiocnpecaecdaaGreatDoor.V
namespace Go.Proofs.YtaiocnpecaecdaaGreatDoor.V
open Go.Proofs.YtaiocnpecaecdaaGreatDoor.VL
attribute [local irreducible] Run
end Go.Proofs.YtaiocnpecaecdaaGreatDoor.V
namespace Go.Proofs.YtaiocnpecaecdaaGreatDoor.V
open Go.Proofs.YtaiocnpecaecdaaGreatDoor.VL
attribute [local irreducible] Run
/-- The last write there, or else. -/
def lastF (l : List (Int × ByteArray)) (at_ : Int) (d : ByteArray × Int) : ByteArray × Int :=
  match l.reverse.find? (fun x => decide (x.1 = at_)) with | some x => (x.2, 0) | none => d
theorem lastF_snoc (l : List (Int × ByteArray)) (at_ : Int) (d : ByteArray × Int) (x : Int × ByteArray) : lastF (l ++ [x]) at_ d = if x.1 = at_ then (x.2, 0) else lastF l at_ d := by
  unfold lastF
  rw [List.reverse_append, List.reverse_singleton, List.singleton_append, List.find?_cons]
  by_cases h : x.1 = at_
  · rw [if_pos h]; simp [h]
  · rw [if_neg h]; simp [h]
def qReadF (s : QSt) (at_ : Int) : (ByteArray × Int) × QSt := if s.down = true then ((⟨#[]⟩, 20), s) else if at_ < 0 ∨ (s.kept.length : Int) ≤ at_ then ((⟨#[]⟩, 2), s) else
  (lastF s.wait at_ (qHeldF s at_), { s with reads := s.reads + 1 })
end Go.Proofs.YtaiocnpecaecdaaGreatDoor.V
namespace Go.Proofs.YtaiocnpecaecdaaGreatDoor.V
open Go.Proofs.YtaiocnpecaecdaaGreatDoor.VL
attribute [local irreducible] Run
def qStartH (s : QSt) (ks : List Bool) : List ByteArray × List Bool := (s.wait.zip ks).foldl keepB (s.kept, s.dumb)
def qStartF (s : QSt) (ks : List Bool) : QSt := { s with kept := (qStartH s ks).1, dumb := (qStartH s ks).2, wait := [], down := false, fuse := -1 }
end Go.Proofs.YtaiocnpecaecdaaGreatDoor.V
namespace Go.Proofs.YtaiocnpecaecdaaGreatDoor.V
open Go.Proofs.YtaiocnpecaecdaaGreatDoor.VL
theorem start_wf (s : PSt) (ks : List Bool) (h : WF s) : WF (startF s ks) := by
  have l := foldB_len (s.cache.zip ks) (s.held, s.dumb)
  refine ⟨?_, ?_, h.sec, by simp [startF], by simp [startF], h.reads, h.writes, by simp [startF]⟩
  · show ((startH s ks).1.length : Int) = _
    unfold startH; rw [l.1]; exact h.held
  · show ((startH s ks).2.length : Int) = _
    unfold startH; rw [l.2]; exact h.dumb
theorem flush_wf (s : PSt) (h : WF s) : WF (flushF s) := by
  unfold flushF
  split
  · exact h
  · have l := foldH_len s.cache (s.held, s.dumb)
    refine ⟨?_, ?_, h.sec, by simp, by simp, h.reads, h.writes, h.fuse⟩
    · show ((s.cache.foldl keepH (s.held, s.dumb)).1.length : Int) = _
      rw [l.1]; exact h.held
    · show ((s.cache.foldl keepH (s.held, s.dumb)).2.length : Int) = _
      rw [l.2]; exact h.dumb
def eff (h : List ByteArray) (j : Nat) : ByteArray := if h.getD j ⟨#[]⟩ = ⟨#[]⟩ then zeros64 else h.getD j ⟨#[]⟩
/-- What is kept, here and there. -/
structure Kin (n : Nat) (h g : List ByteArray × List Bool) : Prop where
  l1 : h.1.length = n
  l2 : g.1.length = n
  l3 : h.2.length = n
  dumb : h.2 = g.2
  kept : ∀ j, j < n → h.2.getD j false = false → eff h.1 j = g.1.getD j ⟨#[]⟩
theorem getD_setX {α : Type} (l : List α) (i j : Nat) (b d : α) : (l.set i b).getD j d = if i = j ∧ i < l.length then b else l.getD j d := by
  rw [List.getD_eq_getElem?_getD, List.getD_eq_getElem?_getD, List.getElem?_set]
  by_cases h : i = j
  · subst h
    rw [if_pos rfl]
    by_cases h2 : i < l.length
    · rw [if_pos h2, if_pos ⟨rfl, h2⟩]; rfl
    · rw [if_neg h2, if_neg (by omega), List.getElem?_eq_none (by omega)]
  · rw [if_neg h, if_neg (fun e => h e.1)]
theorem ne_of64 {t : ByteArray} (h : t.size = 64) : t ≠ ⟨#[]⟩ := fun e => by subst e; exact absurd h (by decide)
theorem Kin.keep {n : Nat} {h g : List ByteArray × List Bool} (k : Kin n h g) (x : Int × ByteArray) (hx : x.2.size = 64) : Kin n (keepH h x) (keepH g x) := by
  refine ⟨by simp [k.l1], by simp [k.l2], by simp [k.l3], by simp [k.dumb], fun j hj hd => ?_⟩
  show eff (h.1.set x.1.toNat x.2) j = (g.1.set x.1.toNat x.2).getD j ⟨#[]⟩
  have hd : (h.2.set x.1.toNat false).getD j false = false := hd
  have l1 := k.l1
  have l2 := k.l2
  have z1 := getD_setX h.1 x.1.toNat j x.2 ⟨#[]⟩
  have z2 := getD_setX g.1 x.1.toNat j x.2 ⟨#[]⟩
  by_cases e : x.1.toNat = j
  · rw [if_pos ⟨e, by omega⟩] at z1 z2
    unfold eff
    rw [z1, z2, if_neg (ne_of64 hx)]
  · rw [if_neg (fun c => e c.1)] at z1 z2
    unfold eff
    rw [z1, z2]
    rw [getD_setX, if_neg (fun c => e c.1)] at hd
    exact k.kept j hj hd
theorem Kin.foldB {n : Nat} (l : List ((Int × ByteArray) × Bool)) {h g : List ByteArray × List Bool} (k : Kin n h g) (hl : ∀ x ∈ l, x.1.2.size = 64) : Kin n (l.foldl keepB h) (l.foldl keepB g) := by
  induction l generalizing h g with
  | nil => exact k
  | cons x l ih =>
    refine ih ?_ fun y hy => hl y (List.mem_cons_of_mem _ hy)
    unfold keepB
    split
    · exact k.keep x.1 (hl x List.mem_cons_self)
    · exact k
/-- Both stand alike; no more was done than n steps. -/
structure Both (n : Nat) (s : PSt) (t : QSt) : Prop where
  wf : WF s
  sec : s.sectors = t.kept.length
  kin : Kin t.kept.length (s.held, s.dumb) (t.kept, t.dumb)
  cache : t.wait = s.cache
  fuse : t.fuse = s.fuse
  down : t.down = s.down
  reads : t.reads = s.reads
  writes : t.writes = s.writes
  c64 : ∀ x ∈ s.cache, x.2.size = 64
  nr : s.reads ≤ n
  nw : s.writes ≤ n
  nc : s.cache.length ≤ n
theorem Both.mono {n m : Nat} {s : PSt} {t : QSt} (h : Both n s t) (hm : n ≤ m) : Both m s t :=
  ⟨h.wf, h.sec, h.kin, h.cache, h.fuse, h.down, h.reads, h.writes, h.c64, by have := h.nr; omega, by have := h.nw; omega, Nat.le_trans h.nc hm⟩
theorem Both.held {n : Nat} {s : PSt} {t : QSt} (h : Both n s t) (at_ : Int) : qHeldF t at_ = heldF s at_ := by
  unfold qHeldF heldF
  rw [h.sec]
  by_cases h1 : at_ < 0 ∨ (t.kept.length : Int) ≤ at_
  · rw [if_pos h1, if_pos h1]
  · rw [if_neg h1, if_neg h1, show t.dumb = s.dumb from h.kin.dumb.symm]
    by_cases h2 : s.dumb.getD at_.toNat false = true
    · rw [if_pos h2, if_pos h2]
    · rw [if_neg h2, if_neg h2]
      have := h.kin.kept at_.toNat (by omega) (by simpa using h2)
      rw [show t.kept.getD at_.toNat ⟨#[]⟩ = eff s.held at_.toNat from this.symm]
      unfold eff
      show ((if s.held.getD at_.toNat ⟨#[]⟩ = ⟨#[]⟩ then zeros64 else s.held.getD at_.toNat ⟨#[]⟩), (0 : Int)) = _
      split <;> rfl
theorem Both.read {n : Nat} {s : PSt} {t : QSt} (h : Both n s t) (at_ : Int) (hn : n < 1000000) : (qReadF t at_).1 = (readF s at_).1 ∧ Both (n + 1) (readF s at_).2 (qReadF t at_).2 := by
  unfold qReadF readF
  rw [h.down, ← h.sec]
  by_cases h1 : s.down = true
  · rw [if_pos h1, if_pos h1]; exact ⟨rfl, h.mono (Nat.le_succ n)⟩
  · rw [if_neg h1, if_neg h1]
    by_cases h2 : at_ < 0 ∨ s.sectors ≤ at_
    · rw [if_pos h2, if_pos h2]; exact ⟨rfl, h.mono (Nat.le_succ n)⟩
    · rw [if_neg h2, if_neg h2]
      have nr := h.nr
      have nw := h.nw
      have hr := h.wf.reads
      refine ⟨by rw [h.cache, h.held]; rfl, ⟨⟨h.wf.held, h.wf.dumb, h.wf.sec, h.wf.cache, h.wf.size, ⟨by show 0 ≤ s.reads + 1; omega, by show s.reads + 1 ≤ _; omega⟩, h.wf.writes, h.wf.fuse⟩, h.sec, h.kin, h.cache, h.fuse, rfl, by show t.reads + 1 = s.reads + 1; rw [h.reads], h.writes, h.c64, by show s.reads + 1 ≤ _; omega, by show s.writes ≤ _; omega, Nat.le_succ_of_le h.nc⟩⟩
theorem Both.start {n : Nat} {s : PSt} {t : QSt} (h : Both n s t) (ks : List Bool) : Both n (startF s ks) (qStartF t ks) := by
  have w := start_wf s ks h.wf
  have k : Kin t.kept.length (startH s ks) (qStartH t ks) := by
    unfold startH qStartH
    rw [h.cache]
    exact h.kin.foldB _ fun x hx => h.c64 x.1 (List.of_mem_zip hx).1
  exact ⟨w, by show s.sectors = _; rw [h.sec]; exact congrArg _ k.l2.symm, by show Kin _ _ _; rw [show (qStartF t ks).kept.length = t.kept.length from k.l2]; exact k, rfl, rfl, rfl, h.reads, h.writes, by simp [startF], h.nr, h.nw, Nat.zero_le _⟩
end Go.Proofs.YtaiocnpecaecdaaGreatDoor.V
namespace Go.Proofs.YtaiocnpecaecdaaGreatDoor.V
open Go.Proofs.YtaiocnpecaecdaaGreatDoor.VL Go.Proofs.YtaiocnpecaecdaaGreatDoor.VL.RD Go.Proofs.YtaiocnpecaecdaaGreatDoor.VL.Sha
attribute [local irreducible] Run numB
end Go.Proofs.YtaiocnpecaecdaaGreatDoor.V
namespace Go.Proofs.YtaiocnpecaecdaaGreatDoor.V
open Go.Proofs.YtaiocnpecaecdaaGreatDoor.VL Go.Proofs.YtaiocnpecaecdaaGreatDoor.VL.RD Go.Proofs.YtaiocnpecaecdaaGreatDoor.VL.Sha
attribute [local irreducible] Run numB
end Go.Proofs.YtaiocnpecaecdaaGreatDoor.V
namespace Go.Proofs.YtaiocnpecaecdaaGreatDoor.V
open Go.Proofs.YtaiocnpecaecdaaGreatDoor.VL Go.Proofs.YtaiocnpecaecdaaGreatDoor.VL.RD Go.Proofs.YtaiocnpecaecdaaGreatDoor.VL.Sha
attribute [local irreducible] Run numB
theorem mem_setX {α : Type} {l : List α} {i : Nat} {x y : α} (h : y ∈ l.set i x) : y = x ∨ y ∈ l := by
  rcases List.mem_or_eq_of_mem_set h with h | h
  · exact .inr h
  · exact .inl h
theorem PW.arm {n : Nat} {s : PSt} (h : PW n s) (a : Int) (ha : a ≤ 9223372036854775807) : PW n (armF s a).2 := by
  unfold armF
  by_cases h0 : a < 0
  · rw [if_pos h0]; exact h
  rw [if_neg h0]
  by_cases h1 : s.down = true
  · rw [if_pos h1]; exact h
  rw [if_neg h1]
  exact ⟨⟨h.wf.held, h.wf.dumb, h.wf.sec, h.wf.cache, h.wf.size, h.wf.reads, h.wf.writes, ⟨by show -1 ≤ a; omega, ha⟩⟩, ⟨h.s64.cache, h.s64.held⟩, h.nr, h.nw, h.nc⟩
end Go.Proofs.YtaiocnpecaecdaaGreatDoor.V
namespace Go.Proofs.YtaiocnpecaecdaaGreatDoor.V
open Go.Proofs.YtaiocnpecaecdaaGreatDoor.VL Go.Proofs.YtaiocnpecaecdaaGreatDoor.VL.RD Go.Proofs.YtaiocnpecaecdaaGreatDoor.VL.Sha
attribute [local irreducible] Run numB
theorem uI : Tryz.prog.underlying 3 = some (.int .i64) := by kernel_rfl
theorem cI : Tryz.prog.cellsOf 3 = 1 := by kernel_rfl
theorem int_litI (d : Nat) (r : Int) (r0 : -9223372036854775808 ≤ r) (r1 : r ≤ 9223372036854775807) : Tryz.prog.keyLits (d + 1) 3 [.int .i64 r] = some [.int .i64 r] := by
  unfold Program.keyLits; rw [uI]
  show (if _ then _ else _) = _
  rw [if_pos ⟨rfl, by simp [Lit.wf, IntKind.min, IntKind.max, IntKind.signed, IntKind.bits]; omega⟩]
def HeadsQ (q : View) (p : Option Addr) (l : List HeadT) : Prop := RowQ q p l.length 8 (l.flatMap encH) ∧ ∀ x ∈ l, HeadOk x
theorem enc8 (l : List HeadT) (i : Nat) (x : HeadT) (h : l[i]? = some x) (j : Nat) (hj : j < 8) : (l.flatMap encH)[i * 8 + j]? = (encH x)[j]? := by
  induction l generalizing i with
  | nil => cases h
  | cons y l ih =>
    rw [List.flatMap_cons]
    have e5 : (encH y).length = 8 := rfl
    cases i with
    | zero =>
      obtain rfl := Option.some.inj h
      rw [List.getElem?_append_left (by omega)]; congr 1; omega
    | succ i =>
      rw [List.getElem?_append_right (by omega), e5, show (i + 1) * 8 + j - 8 = i * 8 + j by omega]
      exact ih i h
theorem enc8_len (l : List HeadT) : (l.flatMap encH).length = l.length * 8 := by
  induction l with
  | nil => rfl
  | cons y l ih => rw [List.flatMap_cons, List.length_append, ih, List.length_cons]; show 8 + _ = _; omega
theorem enc8_all (l : List HeadT) (i : Nat) (x : HeadT) (h : l[i]? = some x) : ((l.flatMap encH).drop (i * 8)).take 8 = encH x := by
  apply List.ext_getElem?
  intro j
  rw [List.getElem?_take, List.getElem?_drop]
  split
  · rename_i hj; exact enc8 l i x h j hj
  · rename_i hj; exact (List.getElem?_eq_none (by show 8 ≤ j; omega)).symm
theorem HeadsQ.at {q : View} {p : Option Addr} {l : List HeadT} (h : HeadsQ q p l) (i : Nat) (hi : i < l.length) : ∃ x b o, l[i]? = some x ∧ HeadOk x ∧ p = some ⟨b, o, none⟩ ∧ Old q b o (l.flatMap encH) ∧ ((l.flatMap encH).drop (i * 8)).take 8 = encH x ∧ i * 8 + 8 ≤ (l.flatMap encH).length := by
  obtain ⟨b, o, ep, ho⟩ := h.1.old (by omega)
  have e : l[i]? = some l[i] := List.getElem?_eq_getElem hi
  refine ⟨l[i], b, o, e, h.2 _ (List.getElem_mem hi), ep, ho, enc8_all l i _ e, ?_⟩
  rw [enc8_len]; omega
theorem bsealF_vok {n : Nat} {s : VSt} (hs : VOk n s) (h : HeadT) (body : ByteArray) : VOk (n + 1) (bsealF s h body).2 := by
  by_cases hz : body.size = 448
  · cases hok : (fldH h).all okN with
    | false => rw [bsealF_no s h body hz hok]; exact hs.mono (by omega)
    | true => rw [bsealF_ok s h body hz hok]; exact sealS_ok hs h body
  · unfold bsealF
    rw [if_pos hz]; exact hs.mono (by omega)
theorem zeroH_ok : HeadOk zeroH := by constructor <;> decide
theorem iopenF_fits (s : VSt) (n : Int) (no ad t : ByteArray) : (iopenF s n no ad t).1.size ≤ t.size := by
  unfold iopenF
  split
  · split
    · show (t.extract 0 (t.size - 16)).size ≤ _
      rw [ByteArray.size_extract]; omega
    · exact Nat.zero_le _
  · exact Nat.zero_le _
theorem openF_fits (s : VSt) (n : Int) (no ad t : ByteArray) : (openF s n no ad t).1.size ≤ t.size := by
  unfold openF
  split
  · exact Nat.zero_le _
  · split
    · exact Nat.zero_le _
    · exact iopenF_fits s n no ad t
theorem bopenF_fits (s : VSt) (raw : ByteArray) : HeadOk (bopenF s raw).1 ∧ (bopenF s raw).2.1.size ≤ 1000000 := by
  by_cases hz : raw.size = 512
  · by_cases hg : headGood raw
    · rw [bopenF_ok s raw hz hg]
      dsimp only
      have hf : (bopenR s raw).1.size ≤ 464 := by
        refine Nat.le_trans (openF_fits s _ _ _ _) ?_
        rw [ByteArray.size_extract]; omega
      constructor
      · split
        · exact headP_ok _
        · exact zeroH_ok
      · split
        · omega
        · exact Nat.zero_le _
    · rw [bopenF_no s raw hz hg]; exact ⟨zeroH_ok, Nat.zero_le _⟩
  · rw [bopenF_len s raw hz]; exact ⟨zeroH_ok, Nat.zero_le _⟩
end Go.Proofs.YtaiocnpecaecdaaGreatDoor.V
namespace Go.Proofs.YtaiocnpecaecdaaGreatDoor.V
open Go.Proofs.YtaiocnpecaecdaaGreatDoor.VL Go.Proofs.YtaiocnpecaecdaaGreatDoor.VL.RD Go.Proofs.YtaiocnpecaecdaaGreatDoor.VL.Sha
attribute [local irreducible] Run numB
theorem uSt : Tryz.prog.underlying 9 = some .string := by kernel_rfl
theorem cSt : Tryz.prog.cellsOf 9 = 1 := by kernel_rfl
end Go.Proofs.YtaiocnpecaecdaaGreatDoor.V
namespace Go.Proofs.YtaiocnpecaecdaaGreatDoor.V
open Go.Proofs.YtaiocnpecaecdaaGreatDoor.VL Go.Proofs.YtaiocnpecaecdaaGreatDoor.VL.RD Go.Proofs.YtaiocnpecaecdaaGreatDoor.VL.Sha
attribute [local irreducible] Run numB
theorem blankB_sz : blankB.size = 512 := by
  unfold blankB bl
  show (List.replicate 512 (0 : UInt8)).toArray.size = 512
  simp
theorem rdF_last (s : PSt) (a : Int) : rdF s a = lastF s.cache a (heldF s a) := rfl
theorem last_in (l : List (Int × ByteArray)) (base : Int) (f : Nat → ByteArray) (d : ByteArray × Int) (i k : Nat) (hk : k < i) :
    lastF (l ++ (List.range i).map fun k : Nat => (base + (k : Int), f k)) (base + k) d = (f k, 0) := by
  induction i with
  | zero => omega
  | succ i ih =>
    rw [List.range_succ, List.map_append, ← List.append_assoc, List.map_singleton, lastF_snoc]
    by_cases e : k = i
    · subst e; rw [if_pos rfl]
    · rw [if_neg (by show ¬ base + (i : Int) = base + (k : Int); omega)]
      exact ih (by omega)
theorem last_out (l : List (Int × ByteArray)) (base : Int) (f : Nat → ByteArray) (d : ByteArray × Int) (i : Nat) (a : Int) (ha : a < base ∨ base + i ≤ a) :
    lastF (l ++ (List.range i).map fun k : Nat => (base + (k : Int), f k)) a d = lastF l a d := by
  induction i with
  | zero => simp
  | succ i ih =>
    rw [List.range_succ, List.map_append, ← List.append_assoc, List.map_singleton, lastF_snoc, if_neg (by show ¬ base + (i : Int) = a; omega)]
    exact ih (by omega)
theorem secT_size (raw : ByteArray) (hr : raw.size = 512) (k : Nat) (hk : k < 8) : (secT raw k).size = 64 := by
  unfold secT
  rw [ByteArray.size_extract]; omega
theorem wrN_up (s : PSt) (hd : s.down = false) (hf : s.fuse = -1) (base : Int) (h0 : 0 ≤ base) (h1 : base + 8 ≤ s.sectors) (raw : ByteArray) (hr : raw.size = 512) (i : Nat) (hi : i ≤ 8) :
    wrN s base raw i = (0, { s with writes := s.writes + i, cache := s.cache ++ (List.range i).map fun k : Nat => (base + (k : Int), secT raw k) }) := by
  induction i with
  | zero =>
    show (0, s) = _
    simp
  | succ i ih =>
    show (if (wrN s base raw i).1 = 0 then writeF (wrN s base raw i).2 (base + i) (secT raw i) else wrN s base raw i) = _
    rw [ih (by omega), if_pos rfl]
    have hz := secT_size raw hr i (by omega)
    unfold writeF
    dsimp only
    rw [if_neg (by omega), if_neg (by rw [hd]; decide), if_neg (by omega), if_neg (by rw [hf]; decide), if_neg (by rw [hf]; decide)]
    rw [List.range_succ, List.map_append, ← List.append_assoc]
    simp only [List.map_singleton, Prod.mk.injEq, PSt.mk.injEq, true_and]
    omega
/-- What a device tells where a block was put, and elsewhere. -/
theorem put_read (s : PSt) (hd : s.down = false) (hf : s.fuse = -1) (base : Int) (h0 : 0 ≤ base) (h1 : base + 8 ≤ s.sectors) (raw : ByteArray) (hr : raw.size = 512) :
    (wrN s base raw 8).1 = 0 ∧ (wrN s base raw 8).2.down = false ∧ (∀ k : Nat, k < 8 → rdF (wrN s base raw 8).2 (base + k) = (secT raw k, 0)) ∧ ∀ a, (a < base ∨ base + 8 ≤ a) → rdF (wrN s base raw 8).2 a = rdF s a := by
  rw [wrN_up s hd hf base h0 h1 raw hr 8 (by omega)]
  refine ⟨rfl, hd, fun k hk => ?_, fun a ha => ?_⟩
  · rw [rdF_last]
    exact last_in _ _ _ _ 8 k hk
  · rw [rdF_last]
    exact last_out _ _ _ _ 8 a ha
theorem ext_toList (raw : ByteArray) (a b : Nat) : (raw.extract a b).data.toList = (raw.data.toList.drop a).take (b - a) := by
  rw [ByteArray.data_extract, Array.toList_extract, List.extract_eq_take_drop]
theorem getL_raw (s : PSt) (a : Int) (raw : ByteArray) (h : ∀ k : Nat, k < 8 → rdF s (a * 8 + k) = (secT raw k, 0)) (i : Nat) (hi : i ≤ 8) : getL s a i = raw.data.toList.take (64 * i) ∧ getM s a i = 0 := by
  induction i with
  | zero => exact ⟨rfl, rfl⟩
  | succ i ih =>
    obtain ⟨h1, h2⟩ := ih (by omega)
    have e := h i (by omega)
    constructor
    · show getL s a i ++ secL s (a * 8 + i) = _
      unfold secL
      rw [e, if_pos rfl, h1]
      show _ ++ (secT raw i).data.toList = _
      unfold secT
      rw [ext_toList, show 64 * i + 64 - 64 * i = 64 by omega, show 64 * (i + 1) = 64 * i + 64 by omega, List.take_add]
    · show getM s a i + secM s (a * 8 + i) i = 0
      unfold secM
      rw [e, if_pos rfl, h2]
theorem bl_all (raw : ByteArray) (hr : raw.size = 512) : bl (raw.data.toList.take 512) = raw := by
  have : raw.data.toList.length = 512 := by rw [Array.length_toList]; exact hr
  rw [List.take_of_length_le (by omega)]
  rfl
theorem getF_raw (s : PSt) (hd : s.down = false) (a : Int) (h0 : 0 ≤ a) (h1 : a < s.sectors / 8) (raw : ByteArray) (hr : raw.size = 512) (h : ∀ k : Nat, k < 8 → rdF s (a * 8 + k) = (secT raw k, 0)) : getF s a = ((raw, 0, 0), rds s 8) := by
  obtain ⟨e1, e2⟩ := getL_raw s a raw h 8 (by omega)
  unfold getF
  rw [if_neg (by omega), if_neg (by rw [hd]; decide), e1, e2, bl_all raw hr]
  rfl
/-- A flush changes nothing of what is read. -/
theorem foldH_get (l : List (Int × ByteArray)) (h : List ByteArray × List Bool) (j : Nat) (h1 : j < h.1.length) (h2 : j < h.2.length) (hl : ∀ x ∈ l, 0 ≤ x.1) :
    (l.foldl keepH h).1.getD j ⟨#[]⟩ = (match l.reverse.find? (fun x => decide (x.1 = (j : Int))) with | some x => x.2 | none => h.1.getD j ⟨#[]⟩) ∧
    (l.foldl keepH h).2.getD j false = (match l.reverse.find? (fun x => decide (x.1 = (j : Int))) with | some x => false | none => h.2.getD j false) := by
  induction l generalizing h with
  | nil => exact ⟨rfl, rfl⟩
  | cons x l ih =>
    have hx := hl x List.mem_cons_self
    have := ih (keepH h x) (by simpa [keepH] using h1) (by simpa [keepH] using h2) fun y hy => hl y (List.mem_cons_of_mem _ hy)
    rw [List.foldl_cons, this.1, this.2, List.reverse_cons, List.find?_append]
    cases hf : l.reverse.find? (fun x => decide (x.1 = (j : Int))) with
    | some y => exact ⟨rfl, rfl⟩
    | none =>
      have z1 := getD_setX h.1 x.1.toNat j x.2 ⟨#[]⟩
      have z2 := getD_setX h.2 x.1.toNat j false false
      by_cases e : x.1 = (j : Int)
      · rw [if_pos ⟨by omega, by omega⟩] at z1 z2
        simp only [Option.none_or, List.find?_cons, decide_eq_true e]
        exact ⟨z1, z2⟩
      · rw [if_neg (by omega)] at z1 z2
        simp only [Option.none_or, List.find?_cons, decide_eq_false e, List.find?_nil]
        exact ⟨z1, z2⟩
theorem flush_read {n : Nat} {s : PSt} (h : PW n s) (hd : s.down = false) (a : Int) (h0 : 0 ≤ a) (h1 : a < s.sectors) : rdF (flushF s) a = rdF s a := by
  obtain ⟨j, rfl⟩ : ∃ j : Nat, a = j := ⟨a.toNat, by omega⟩
  have hh := h.wf.held
  have hdu := h.wf.dumb
  have k := foldH_get s.cache (s.held, s.dumb) j (by show j < s.held.length; omega) (by show j < s.dumb.length; omega) fun x hx => (h.wf.cache x hx).1
  have ef : flushF s = { s with held := (s.cache.foldl keepH (s.held, s.dumb)).1, dumb := (s.cache.foldl keepH (s.held, s.dumb)).2, cache := [] } := by unfold flushF; rw [if_neg (by rw [hd]; decide)]
  rw [ef]
  generalize s.cache.foldl keepH (s.held, s.dumb) = F at k
  obtain ⟨k1, k2⟩ := k
  show heldF { s with held := F.1, dumb := F.2, cache := [] } (j : Int) = rdF s (j : Int)
  unfold rdF heldF
  dsimp only
  rw [if_neg (show ¬ ((j : Int) < 0 ∨ s.sectors ≤ (j : Int)) by omega), show ((j : Int)).toNat = j from rfl, k1, k2]
  cases hf : s.cache.reverse.find? (fun x => decide (x.1 = (j : Int))) with
  | some x =>
    have hx := h.s64.cache x (List.mem_reverse.1 (List.mem_of_find?_eq_some hf))
    dsimp only
    rw [if_neg (by decide), if_neg (ne_of64 hx)]
  | none =>
    dsimp only
    rw [if_neg (show ¬ ((j : Int) < 0 ∨ s.sectors ≤ (j : Int)) by omega)]
theorem flush_sec (s : PSt) : (flushF s).sectors = s.sectors := by unfold flushF; split <;> rfl
theorem flush_down (s : PSt) : (flushF s).down = s.down := by unfold flushF; split <;> rfl
theorem PW.flush {n : Nat} {s : PSt} (h : PW n s) : PW n (flushF s) := by
  have w := flush_wf s h.wf
  unfold flushF at w ⊢
  split
  · exact h
  · rename_i hd
    rw [if_neg hd] at w
    refine ⟨w, ⟨by simp, ?_⟩, h.nr, h.nw, Nat.zero_le _⟩
    have key : ∀ (l : List (Int × ByteArray)) (g : List ByteArray × List Bool), (∀ x ∈ l, x.2.size = 64) → (∀ x ∈ g.1, x.size = 0 ∨ x.size = 64) → ∀ x ∈ (l.foldl keepH g).1, x.size = 0 ∨ x.size = 64 := by
      intro l
      induction l with
      | nil => intro g _ hg; exact hg
      | cons y l ih =>
        intro g hl hg
        refine ih (keepH g y) (fun x hx => hl x (List.mem_cons_of_mem _ hx)) fun x hx => ?_
        rcases mem_setX hx with e | hx
        · exact .inr (by rw [e]; exact hl y List.mem_cons_self)
        · exact hg x hx
    exact key s.cache (s.held, s.dumb) h.s64.cache h.s64.held
theorem two_ne {x y : ByteArray × Int} (e : x = y) (h : x.2 = 0) (hy : y.2 ≠ 0) : False := hy (by rw [← e]; exact h)
theorem open_text (s : VSt) (n : Int) (no ad t : ByteArray) (h : (openF s n no ad t).2 = 0) : (openF s n no ad t).1 = t.extract 0 (t.size - 16) := by
  by_cases h1 : wrongF n no = true
  · exact (two_ne (show openF s n no ad t = (⟨#[]⟩, 1) by unfold openF; rw [if_pos h1]) h (by decide)).elim
  by_cases h2 : t.size < 16
  · exact (two_ne (show openF s n no ad t = (⟨#[]⟩, 3) by unfold openF; rw [if_neg h1, if_pos h2]) h (by decide)).elim
  have e0 : openF s n no ad t = iopenF s n no ad t := by unfold openF; rw [if_neg h1, if_neg h2]
  cases hp : pos s.es (sealedK n no ad (t.extract 0 (t.size - 16))) with
  | none => exact (two_ne (show openF s n no ad t = (⟨#[]⟩, 10) by rw [e0]; unfold iopenF; rw [hp]) h (by decide)).elim
  | some m =>
    by_cases h3 : t.extract (t.size - 16) t.size = numB (m + 1) 16
    · rw [show openF s n no ad t = (t.extract 0 (t.size - 16), 0) by rw [e0]; unfold iopenF; rw [hp]; exact if_pos h3]
    · exact (two_ne (show openF s n no ad t = (⟨#[]⟩, 10) by rw [e0]; unfold iopenF; rw [hp]; exact if_neg h3) h (by decide)).elim
theorem told_key (B : HeadT × ByteArray × Int) (H h : HeadT) (X : ByteArray) (R : ByteArray × Int) (hB : B = (if R.2 = 0 then H else zeroH, if R.2 = 0 then R.1 else ⟨#[]⟩, R.2)) (e1 : R.2 = 0) (e2 : R.1 = X) (e3 : H = h) : toldR B.1 B.2.1 B.2.2 h.addr = ⟨true, h, X⟩ := by
  obtain ⟨x, y⟩ := R
  dsimp only at e1 e2 hB
  subst e1 e2 e3
  rw [if_pos rfl, if_pos rfl] at hB
  subst hB
  unfold toldR
  rw [if_pos ⟨rfl, rfl⟩]
theorem bopenR_text (s : VSt) (raw : ByteArray) (X : ByteArray) (hz : raw.size = 512) (hx : (raw.extract 48 512).extract 0 448 = X) (h : (bopenR s raw).2 = 0) : (bopenR s raw).1 = X := by
  unfold bopenR at *
  rw [open_text s _ _ _ _ h, show (raw.extract 48 512).size - 16 = 448 by rw [ByteArray.size_extract]; omega, hx]
theorem told_open (s : VSt) (raw : ByteArray) (h : HeadT) (X : ByteArray) (hz : raw.size = 512) (ho : opensB s raw) (hg : headGood raw) (hh : openH raw = h) (hx : (raw.extract 48 512).extract 0 448 = X) : btoldF s raw h.addr = ⟨true, h, X⟩ := by
  have hb := bopenF_ok s raw hz hg
  have e1 : (bopenR s raw).2 = 0 := by
    have key : ∀ (a : HeadT) (b : ByteArray) (r : ByteArray × Int), ((a, b, r.2) : HeadT × ByteArray × Int).2.2 = r.2 := fun _ _ _ => rfl
    unfold opensB at ho
    rw [hb, key] at ho
    exact ho
  exact told_key _ _ _ _ _ hb e1 (bopenR_text s raw X hz hx e1) hh
end Go.Proofs.YtaiocnpecaecdaaGreatDoor.V
namespace Go.Proofs.YtaiocnpecaecdaaGreatDoor.V
open Go.Proofs.YtaiocnpecaecdaaGreatDoor.VL Go.Proofs.YtaiocnpecaecdaaGreatDoor.VL.RD Go.Proofs.YtaiocnpecaecdaaGreatDoor.VL.Sha
attribute [local irreducible] Run numB
/-- What a vault does, plainly: it seals blocks, hashes, and tells of bytes what they are at an address. -/
structure VP where
  St : Type
  sealF : St → HeadT → ByteArray → (ByteArray × Int) × St
  hashF : St → ByteArray → ByteArray × St
  toldF : St → ByteArray → Int → ReadT
structure WriteT where
  at_ : Int
  raw : ByteArray
def noW : WriteT := ⟨0, ⟨#[]⟩⟩
/-- The head of a superblock's block. -/
def headSu (x : SuperT) : HeadT := ⟨x.vol, x.epoch % 2, 1, 0, 0, 0, x.epoch, x.epoch⟩
section
variable (p : VP)
def superM (s : p.St) (x : SuperT) : (WriteT × Int) × p.St :=
  if (superF x).2 ≠ 0 then ((noW, (superF x).2), s) else
  if (p.sealF s (headSu x) (superF x).1).1.2 ≠ 0 then ((noW, (p.sealF s (headSu x) (superF x).1).1.2), (p.sealF s (headSu x) (superF x).1).2) else
  ((⟨x.epoch % 2, (p.sealF s (headSu x) (superF x).1).1.1⟩, 0), (p.sealF s (headSu x) (superF x).1).2)
/-- A row of steps on a device: nothing is done behind the first that fails. -/
def dput (d : PSt × Int) (a : Int) (raw : ByteArray) : PSt × Int := if d.2 ≠ 0 then d else ((bputF d.1 a raw).2, (bputF d.1 a raw).1)
def dflush (d : PSt × Int) : PSt × Int := if d.2 ≠ 0 then d else (flushF d.1, if d.1.down = true then 20 else 0)
def stopF (e : Int) : Int := if e = 0 then 0 else if e = 20 then 20 else 1
def formatM (d : PSt) (s : p.St) (x : SuperT) : Int × PSt × p.St :=
  if (liveF d.sectors).2 ≠ 0 ∨ x.live ≠ (liveF d.sectors).1 then (1, d, s) else
  let w := superM p s x
  if w.1.2 ≠ 0 then (w.1.2, d, w.2) else
  let t := dflush (dput (dflush (dput (dput (d, 0) (1 - w.1.1.at_) blankB) 2 blankB)) w.1.1.at_ w.1.1.raw)
  (stopF t.2, t.1, w.2)
/-- May blocks be written together? -/
def mayG (live : Int) : Int → List WriteT → Bool
  | _, [] => true
  | last, w :: l => if w.at_ ≤ last ∨ live ≤ w.at_ ∨ w.raw.size ≠ 512 then false else
      if (headOfF (w.raw.extract 0 48)).2 ≠ 0 ∨ (headOfF (w.raw.extract 0 48)).1.addr ≠ w.at_ then false else mayG live w.at_ l
def mayF (live : Int) (l : List WriteT) : Bool := mayG live 26 l
def joinedL (l : List WriteT) : List UInt8 := l.flatMap fun w => w.raw.data.toList
/-- The commit's body. -/
def promB (n : Nat) (hash su : ByteArray) : ByteArray := (padF ((V.putF (n : Int) 2).1 ++ hash ++ su.extract 0 54) 448).1
def headPr (x : SuperT) : HeadT := ⟨x.vol, 2, 2, 0, 0, 0, x.epoch, x.epoch⟩
def promiseM (s : p.St) (l : List WriteT) (x : SuperT) : (ByteArray × Int) × p.St :=
  if (superF x).2 ≠ 0 then ((⟨#[]⟩, (superF x).2), s) else
  p.sealF (p.hashF s (bl (joinedL l))).2 (headPr x) (promB l.length (p.hashF s (bl (joinedL l))).1 (superF x).1)
def putsD (d : PSt × Int) (base : Int) : List WriteT → PSt × Int
  | [] => d
  | w :: l => putsD (dput d base w.raw) (base + 1) l
def placesD (d : PSt × Int) : List WriteT → PSt × Int
  | [] => d
  | w :: l => placesD (dput d w.at_ w.raw) l
def finishD (d : PSt × Int) (l : List WriteT) (h : WriteT) : PSt × Int := dflush (dput (dflush (placesD d l)) h.at_ h.raw)
def commitM (d : PSt) (s : p.St) (l : List WriteT) (x : SuperT) : Int × PSt × p.St :=
  if 24 < l.length then (4, d, s) else
  if x.live < 48 ∨ 1024 < x.live ∨ (liveF d.sectors).2 ≠ 0 ∨ (liveF d.sectors).1 ≠ x.live ∨ mayF x.live l = false then (1, d, s) else
  let w := promiseM p s l x
  if w.1.2 ≠ 0 then (w.1.2, d, w.2) else
  let h := superM p w.2 x
  let t := finishD (dflush (dput (dflush (putsD (d, 0) 3 l)) 2 w.1.1)) l h.1.1
  (stopF t.2, t.1, h.2)
/-- The superblock that a reading of a slot is. -/
def slotF (r : ReadT) (at_ live : Int) : SuperT × Bool :=
  if r.ok = false ∨ r.head.kind ≠ 1 then (zeroSu, false) else
  if (superOfF r.body).2 ≠ 0 ∨ (superOfF r.body).1.epoch % 2 ≠ at_ ∨ (superOfF r.body).1.live ≠ live then (zeroSu, false) else ((superOfF r.body).1, true)
def betterF (b : SuperT × Bool) (c : SuperT × Bool) : SuperT × Bool := if c.2 = true ∧ (b.2 = false ∨ b.1.epoch < c.1.epoch) then (c.1, true) else b
def chooseF (l : List ReadT) (live : Int) : SuperT × Bool := match l with
  | [] => (zeroSu, false)
  | [r] => betterF (zeroSu, false) (slotF r 0 live)
  | r :: r2 :: _ => betterF (betterF (zeroSu, false) (slotF r 0 live)) (slotF r2 1 live)
/-- A block of an image. -/
def atF (raws : List ByteArray) (masks : List Int) (a : Int) : ByteArray × Int :=
  if a < 0 ∨ (raws.length : Int) ≤ a ∨ (masks.length : Int) ≤ a ∨ (raws.getD a.toNat ⟨#[]⟩).size ≠ 512 then (blankB, 255) else (raws.getD a.toNat ⟨#[]⟩, masks.getD a.toNat 0)
def lookM (s : p.St) (raws : List ByteArray) (masks : List Int) (a : Int) : ReadT := if (atF raws masks a).2 ≠ 0 then noR else p.toldF s (atF raws masks a).1 a
/-- The records; none, if one of them is none. -/
def recsF (raws : List ByteArray) (masks : List Int) (base : Int) : Nat → Option (List WriteT)
  | 0 => some []
  | n + 1 => match recsF raws masks base n with
    | none => none
    | some l => if (atF raws masks (base + n)).2 ≠ 0 ∨ (headOfF ((atF raws masks (base + n)).1.extract 0 48)).2 ≠ 0 then none else
        some (l ++ [⟨(headOfF ((atF raws masks (base + n)).1.extract 0 48)).1.addr, (atF raws masks (base + n)).1⟩])
/-- The superblock that a promise's body holds. -/
def nextF (b : ByteArray) : SuperT × Int := superOfF (padF (b.extract 34 88) 448).1
def foundM (s : p.St) (live : Int) (raws : List ByteArray) (masks : List Int) : (List WriteT × SuperT × Bool) × p.St :=
  let r := lookM p s raws masks 2
  if r.ok = false ∨ r.head.kind ≠ 2 then (([], zeroSu, false), s) else
  let n := lev r.body.data.toList 0 2
  if (nextF r.body).2 ≠ 0 ∨ 24 < n ∨ (nextF r.body).1.live ≠ live then (([], zeroSu, false), s) else
  match recsF raws masks 3 n with
  | none => (([], zeroSu, false), s)
  | some l => if mayF live l = false then (([], zeroSu, false), s) else
      let h := p.hashF s (bl (joinedL l))
      if h.1 ≠ r.body.extract 2 34 then (([], zeroSu, false), h.2) else ((l, (nextF r.body).1, true), h.2)
def loadM (d : PSt) (s : p.St) (a : Int) : ReadT := if (getF d a).1.2.2 ≠ 0 ∨ (getF d a).1.2.1 ≠ 0 then noR else p.toldF s (getF d a).1.1 a
def blocksN (d : PSt) : Nat := (d.sectors / 8).toNat
def recoverM (d : PSt) (s : p.St) : (SuperT × Int × Int) × PSt × p.St :=
  if d.down = true then ((zeroSu, 0, 20), d, s) else
  if (liveF d.sectors).2 ≠ 0 then ((zeroSu, 0, (liveF d.sectors).2), d, s) else
  let d2 := (getF (getF d 0).2 1).2
  let c := chooseF [loadM p d s 0, loadM p (getF d 0).2 s 1] (liveF d.sectors).1
  if c.2 = false then ((zeroSu, 0, 30), d2, s) else
  let f := foundM p s (liveF d.sectors).1 (rawsL d2 (blocksN d2)) (masksL d2 (blocksN d2))
  let d3 := allS d2 (blocksN d2)
  if f.1.2.2 = false ∨ f.1.2.1.epoch ≠ c.1.epoch + 1 then ((c.1, 0, 0), d3, f.2) else
  let h := superM p f.2 f.1.2.1
  let t := finishD (d3, 0) f.1.1 h.1.1
  if stopF t.2 ≠ 0 then ((zeroSu, 0, stopF t.2), t.1, h.2) else ((f.1.2.1, (f.1.1.length : Int), 0), t.1, h.2)
end
end Go.Proofs.YtaiocnpecaecdaaGreatDoor.V
namespace Go.Proofs.YtaiocnpecaecdaaGreatDoor.V
open Go.Proofs.YtaiocnpecaecdaaGreatDoor.VL Go.Proofs.YtaiocnpecaecdaaGreatDoor.VL.RD Go.Proofs.YtaiocnpecaecdaaGreatDoor.VL.Sha
attribute [local irreducible] Run numB
theorem superOf_small (s : ByteArray) : 0 ≤ (superOfF s).1.epoch ∧ (superOfF s).1.epoch < 281474976710656 ∧ 0 ≤ (superOfF s).1.live ∧ (superOfF s).1.live < 4294967296 := by
  unfold superOfF
  split
  · exact ⟨by decide, by decide, by decide, by decide⟩
  split
  · exact ⟨by decide, by decide, by decide, by decide⟩
  split
  · have h1 := lev_lt s.data.toList 6 6
    have h2 := lev_lt s.data.toList 18 4
    rw [show 256 ^ 6 = 281474976710656 by decide] at h1
    rw [show 256 ^ 4 = 4294967296 by decide] at h2
    unfold superP
    dsimp only
    omega
  · exact ⟨by decide, by decide, by decide, by decide⟩
set_option maxHeartbeats 1000000 in
theorem slot_spec12 (q : View) (R : ReadT) (hb : R.body.size ≤ 9223372036854775807) (hk0 : -9223372036854775808 ≤ R.head.kind) (hk1 : R.head.kind ≤ 9223372036854775807) (a live : Int) :
    FnD Tryz.prog q 48 [.agg ⟨encR R⟩, .int .i64 a, .int .i64 live] [] (.tuple #[.agg ⟨encSu (slotF R a live).1⟩, .bool (slotF R a live).2]) [] := by
  obtain ⟨ok, H, B⟩ := R
  dsimp only at hb hk0 hk1
  have cs := superOf_spec q B hb
  have hs := superOf_small B
  cases ok with
  | false =>
    rw [show slotF ⟨false, H, B⟩ a live = (zeroSu, false) from by unfold slotF; rw [if_pos (.inl rfl)]]
    unfold encR encH
    (first | refine FnD.go Tryz.call48 Tryz.func48 rfl rfl rfl ?_ | refine FnX.go Tryz.call48 Tryz.func48 rfl rfl rfl ?_)
    (repeat (first | refine g ?_))
    refine s_box fun r3 => ?_
    (repeat (first | refine g ?_))
    refine s_alloc fun r6 => ?_
    (repeat (first | refine g ?_))
    refine s_ceq r6 (encSu zeroSu) ?_ ?_
    · rfl
    refine run_ret2 (imp_RD ?_ shut) rfl (res_cell tabOk rfl rfl rfl (by repeat (first | (with_reducible exact At.head) | apply At.tail)) rfl) (res_tmp rfl)
    rfl
  | true =>
    by_cases hk : H.kind ≠ 1
    · rw [show slotF ⟨true, H, B⟩ a live = (zeroSu, false) from by unfold slotF; rw [if_pos (.inr hk)]]
      unfold encR encH
      (first | refine FnD.go Tryz.call48 Tryz.func48 rfl rfl rfl ?_ | refine FnX.go Tryz.call48 Tryz.func48 rfl rfl rfl ?_)
      (repeat (first | refine g ?_))
      refine s_box fun r3 => ?_
      (repeat (first | refine g ?_))
      refine s_alloc fun r6 => ?_
      (repeat (first | refine g ?_))
      refine s_ceq r6 (encSu zeroSu) ?_ ?_
      · rfl
      refine run_ret2 (imp_RD ?_ shut) rfl (res_cell tabOk rfl rfl rfl (by repeat (first | (with_reducible exact At.head) | apply At.tail)) rfl) (res_tmp rfl)
      rfl
    have e : slotF ⟨true, H, B⟩ a live = if (superOfF B).2 ≠ 0 ∨ (superOfF B).1.epoch % 2 ≠ a ∨ (superOfF B).1.live ≠ live then (zeroSu, false) else ((superOfF B).1, true) := by
      unfold slotF
      rw [if_neg]
      rintro (h | h)
      · exact absurd (show true = false from h) (by decide)
      · exact hk h
    rw [e]
    generalize superOfF B = S at *
    obtain ⟨⟨vol, epoch, next, lv, root⟩, er⟩ := S
    dsimp only at hs ⊢
    unfold encSu at cs
    dsimp only at cs
    by_cases h1 : er ≠ 0
    · rw [if_pos (.inl h1)]
      unfold encR encH
      (first | refine FnD.go Tryz.call48 Tryz.func48 rfl rfl rfl ?_ | refine FnX.go Tryz.call48 Tryz.func48 rfl rfl rfl ?_)
      (repeat (first | refine g ?_))
      refine s_box fun r3 => ?_
      (repeat (first | refine g ?_))
      refine s_alloc fun r6 => ?_
      (repeat (first | refine g ?_))
      refine s_call cs ?_
      (repeat (first | refine g ?_))
      refine s_alloc fun r8 => ?_
      (repeat (first | refine g ?_))
      refine s_ceq r6 (encSu zeroSu) ?_ ?_
      · rfl
      refine run_ret2 (imp_RD ?_ shut) rfl (res_cell tabOk rfl rfl rfl (by repeat (first | (with_reducible exact At.head) | apply At.tail)) rfl) (res_tmp rfl)
      rfl
    by_cases h2 : epoch % 2 ≠ a
    · rw [if_pos (.inr (.inl h2))]
      unfold encR encH
      (first | refine FnD.go Tryz.call48 Tryz.func48 rfl rfl rfl ?_ | refine FnX.go Tryz.call48 Tryz.func48 rfl rfl rfl ?_)
      (repeat (first | refine g ?_))
      refine s_box fun r3 => ?_
      (repeat (first | refine g ?_))
      refine s_alloc fun r6 => ?_
      (repeat (first | refine g ?_))
      refine s_call cs ?_
      (repeat (first | refine g ?_))
      refine s_alloc fun r8 => ?_
      (repeat (first | refine g ?_))
      refine s_ceq r6 (encSu zeroSu) ?_ ?_
      · rfl
      refine run_ret2 (imp_RD ?_ shut) rfl (res_cell tabOk rfl rfl rfl (by repeat (first | (with_reducible exact At.head) | apply At.tail)) rfl) (res_tmp rfl)
      rfl
    by_cases h3 : lv ≠ live
    · rw [if_pos (.inr (.inr h3))]
      unfold encR encH
      (first | refine FnD.go Tryz.call48 Tryz.func48 rfl rfl rfl ?_ | refine FnX.go Tryz.call48 Tryz.func48 rfl rfl rfl ?_)
      (repeat (first | refine g ?_))
      refine s_box fun r3 => ?_
      (repeat (first | refine g ?_))
      refine s_alloc fun r6 => ?_
      (repeat (first | refine g ?_))
      refine s_call cs ?_
      (repeat (first | refine g ?_))
      refine s_alloc fun r8 => ?_
      (repeat (first | refine g ?_))
      refine s_ceq r6 (encSu zeroSu) ?_ ?_
      · rfl
      refine run_ret2 (imp_RD ?_ shut) rfl (res_cell tabOk rfl rfl rfl (by repeat (first | (with_reducible exact At.head) | apply At.tail)) rfl) (res_tmp rfl)
      rfl
    rw [if_neg (fun h => h.elim h1 fun h => h.elim h2 h3)]
    unfold encR encH
    (first | refine FnD.go Tryz.call48 Tryz.func48 rfl rfl rfl ?_ | refine FnX.go Tryz.call48 Tryz.func48 rfl rfl rfl ?_)
    (repeat (first | refine g ?_))
    refine s_box fun r3 => ?_
    (repeat (first | refine g ?_))
    refine s_alloc fun r6 => ?_
    (repeat (first | refine g ?_))
    refine s_call cs ?_
    (repeat (first | refine g ?_))
    refine s_alloc fun r8 => ?_
    (repeat (first | refine g ?_))
    refine s_ceq r6 (encSu ⟨vol, epoch, next, lv, root⟩) ?_ ?_
    · rfl
    refine run_ret2 (imp_RD ?_ shut) rfl (res_cell tabOk rfl rfl rfl (by repeat (first | (with_reducible exact At.head) | apply At.tail)) rfl) (res_tmp rfl)
    rfl
end Go.Proofs.YtaiocnpecaecdaaGreatDoor.V
namespace Go.Proofs.YtaiocnpecaecdaaGreatDoor.V
open Go.Proofs.YtaiocnpecaecdaaGreatDoor.VL Go.Proofs.YtaiocnpecaecdaaGreatDoor.VL.RD Go.Proofs.YtaiocnpecaecdaaGreatDoor.VL.Sha
attribute [local irreducible] Run numB
structure ReadOk (R : ReadT) : Prop where
  head : HeadOk R.head
  body : R.body.size ≤ 9223372036854775807
def ReadsQ (q : View) (p : Option Addr) (l : List ReadT) : Prop := RowQ q p l.length 10 (l.flatMap encR) ∧ ∀ x ∈ l, ReadOk x
theorem encR_len (R : ReadT) : (encR R).length = 10 := by unfold encR encH; rfl
theorem enc10 (l : List ReadT) (i : Nat) (x : ReadT) (h : l[i]? = some x) (j : Nat) (hj : j < 10) : (l.flatMap encR)[i * 10 + j]? = (encR x)[j]? := by
  induction l generalizing i with
  | nil => cases h
  | cons y l ih =>
    rw [List.flatMap_cons]
    have e5 := encR_len y
    cases i with
    | zero =>
      obtain rfl := Option.some.inj h
      rw [List.getElem?_append_left (by omega)]; congr 1; omega
    | succ i =>
      rw [List.getElem?_append_right (by omega), e5, show (i + 1) * 10 + j - 10 = i * 10 + j by omega]
      exact ih i h
theorem enc10_len (l : List ReadT) : (l.flatMap encR).length = l.length * 10 := by
  induction l with
  | nil => rfl
  | cons y l ih => rw [List.flatMap_cons, List.length_append, ih, List.length_cons, encR_len]; omega
theorem enc10_all (l : List ReadT) (i : Nat) (x : ReadT) (h : l[i]? = some x) : ((l.flatMap encR).drop (i * 10)).take 10 = encR x := by
  apply List.ext_getElem?
  intro j
  rw [List.getElem?_take, List.getElem?_drop]
  split
  · rename_i hj; exact enc10 l i x h j hj
  · rename_i hj; rw [List.getElem?_eq_none]; rw [encR_len]; omega
/-- The best of the first readings. -/
def bestN (l : List ReadT) (live : Int) : Nat → SuperT × Bool
  | 0 => (zeroSu, false)
  | i + 1 => match l[i]? with
    | some r => betterF (bestN l live i) (slotF r i live)
    | none => bestN l live i
theorem choose_best (l : List ReadT) (live : Int) (i : Nat) (h : i = l.length ∧ i ≤ 2 ∨ i = 2 ∧ 2 ≤ l.length) : chooseF l live = bestN l live i := by
  match l, h with
  | [], h =>
    obtain rfl : i = 0 := by simp at h; omega
    rfl
  | [r], h =>
    obtain rfl : i = 1 := by simp at h; omega
    rfl
  | r :: r2 :: t, h =>
    obtain rfl : i = 2 := by simp at h; omega
    rfl
theorem slotF_small (R : ReadT) (a live : Int) : 0 ≤ (slotF R a live).1.epoch ∧ (slotF R a live).1.epoch < 281474976710656 := by
  unfold slotF
  split
  · exact ⟨by decide, by decide⟩
  split
  · exact ⟨by decide, by decide⟩
  · have := superOf_small R.body
    exact ⟨this.1, this.2.1⟩
set_option maxHeartbeats 2000000 in
theorem choose_spec (q : View) (lp : Option Addr) (lc : Nat) (l : List ReadT) (hq : ReadsQ q lp l) (hl : l.length ≤ 9223372036854775807) (live : Int) :
    FnD Tryz.prog q 17 [.slice lp l.length lc, .int .i64 live] [] (.tuple #[.agg ⟨encSu (chooseF l live).1⟩, .bool (chooseF l live).2]) [] := by
  (first | refine FnD.go Tryz.call17 Tryz.func17 rfl rfl rfl ?_ | refine FnX.go Tryz.call17 Tryz.func17 rfl rfl rfl ?_)
  (repeat (first | refine g ?_))
  refine s_alloc fun r4 => ?_
  (repeat (first | refine g ?_))
  refine s_alloc fun r6 => ?_
  (repeat (first | refine g ?_))
  refine run_cutI (X := SuperT × Bool) (fun x => chooseF l live = x) (fun x => [(4, .pointer (some ⟨r4, 0, none⟩)), (6, .pointer (some ⟨r6, 0, none⟩)), (7, .bool x.2)]) (fun x => [cells r4 33 ⟨encSu zeroSu⟩, cells r6 33 ⟨encSu x.1⟩]) ?_ fun ⟨b, h⟩ hB => ?_
  · refine run_loopI (X := Nat) (fun i => i ≤ l.length ∧ i ≤ 2) (fun i => [(1, .int .i64 live), (4, .pointer (some ⟨r4, 0, none⟩)), (6, .pointer (some ⟨r6, 0, none⟩)), (7, .bool (bestN l live i).2), (13, .slice lp l.length lc), (14, .int .i64 (l.length : Int)), (15, .int .i64 (i : Int))])
      (fun i => [cells r4 33 ⟨encSu zeroSu⟩, cells r6 33 ⟨encSu (bestN l live i).1⟩]) (fun i => 2 - i) 0 ⟨Nat.zero_le _, by decide⟩ fct shut ?_
    intro i ⟨hi, hi2⟩
    by_cases h1 : i < l.length
    · obtain ⟨x, hx⟩ : ∃ x, l[i]? = some x := ⟨_, List.getElem?_eq_getElem h1⟩
      have hxo := hq.2 x (List.mem_of_getElem? hx)
      obtain ⟨bs, os, ep, ho⟩ := hq.1.old (by omega)
      subst ep
      have hxa := enc10_all l i x hx
      have hxl := enc10_len l
      have hcb := choose_best l live i
      have cs := slot_spec12 q x hxo.body hxo.head.k0 hxo.head.k1 i live
      have hsm := slotF_small x i live
      have eN : bestN l live (i + 1) = betterF (bestN l live i) (slotF x i live) := by
        show (match l[i]? with | some r => betterF (bestN l live i) (slotF r i live) | none => bestN l live i) = _
        rw [hx]
      by_cases h2 : i < 2
      · generalize hb : bestN l live i = B at *
        generalize hc : slotF x i live = C at *
        obtain ⟨⟨v1, e1, n1, l1, t1⟩, b1⟩ := B
        obtain ⟨⟨v2, e2, n2, l2, t2⟩, b2⟩ := C
        dsimp only at hsm ⊢
        have done : ∀ (D : SuperT × Bool), betterF (⟨v1, e1, n1, l1, t1⟩, b1) (⟨v2, e2, n2, l2, t2⟩, b2) = D → bestN l live (i + 1) = D := fun D hD => by rw [eN, hD]
        clear eN hcb hb hc
        unfold encR encH at cs hxa
        unfold encSu at cs
        dsimp only at cs
        rw [show encSu ⟨v1, e1, n1, l1, t1⟩ = [.int .i64 v1, .int .i64 e1, .int .i64 n1, .int .i64 l1, .string t1] from rfl]
        cases b2 with
        | false =>
          have eD := done (⟨v1, e1, n1, l1, t1⟩, b1) (if_neg (fun h => absurd (show false = true from h.1) (by decide)))
          (repeat (first | refine g ?_))
          refine s_idxo (kk := 10) (os + i * 10) ?_
          refine s_loadao (j := i * 10) ho hxa (by rw [hxl]; omega) (by omega) ?_
          (repeat (first | refine g ?_))
          refine s_alloc fun r9 => ?_
          (repeat (first | refine g ?_))
          refine s_call cs ?_
          (repeat (first | refine g ?_))
          refine s_alloc fun r10 => ?_
          (repeat (first | refine g ?_))
          exact run_stop_loop (i + 1) ⟨⟨by omega, by omega⟩, by omega⟩ (by rw [eD]; exact fct) (by rw [eD]; exact shut)
        | true =>
          cases b1 with
          | false =>
            have eD := done (⟨v2, e2, n2, l2, t2⟩, true) (if_pos ⟨rfl, .inl rfl⟩)
            (repeat (first | refine g ?_))
            refine s_idxo (kk := 10) (os + i * 10) ?_
            refine s_loadao (j := i * 10) ho hxa (by rw [hxl]; omega) (by omega) ?_
            (repeat (first | refine g ?_))
            refine s_alloc fun r9 => ?_
            (repeat (first | refine g ?_))
            refine s_call cs ?_
            (repeat (first | refine g ?_))
            refine s_alloc fun r10 => ?_
            (repeat (first | refine g ?_))
            exact run_stop_loop (i + 1) ⟨⟨by omega, by omega⟩, by omega⟩ (by rw [eD]; exact fct) (by rw [eD]; exact shut)
          | true =>
            by_cases he : e1 < e2
            · have eD := done (⟨v2, e2, n2, l2, t2⟩, true) (if_pos ⟨rfl, .inr he⟩)
              (repeat (first | refine g ?_))
              refine s_idxo (kk := 10) (os + i * 10) ?_
              refine s_loadao (j := i * 10) ho hxa (by rw [hxl]; omega) (by omega) ?_
              (repeat (first | refine g ?_))
              refine s_alloc fun r9 => ?_
              (repeat (first | refine g ?_))
              refine s_call cs ?_
              (repeat (first | refine g ?_))
              refine s_alloc fun r10 => ?_
              (repeat (first | refine g ?_))
              exact run_stop_loop (i + 1) ⟨⟨by omega, by omega⟩, by omega⟩ (by rw [eD]; exact fct) (by rw [eD]; exact shut)
            · have eD := done (⟨v1, e1, n1, l1, t1⟩, true) (if_neg (fun h => h.2.elim (fun h => absurd (show true = false from h) (by decide)) he))
              (repeat (first | refine g ?_))
              refine s_idxo (kk := 10) (os + i * 10) ?_
              refine s_loadao (j := i * 10) ho hxa (by rw [hxl]; omega) (by omega) ?_
              (repeat (first | refine g ?_))
              refine s_alloc fun r9 => ?_
              (repeat (first | refine g ?_))
              refine s_call cs ?_
              (repeat (first | refine g ?_))
              refine s_alloc fun r10 => ?_
              (repeat (first | refine g ?_))
              exact run_stop_loop (i + 1) ⟨⟨by omega, by omega⟩, by omega⟩ (by rw [eD]; exact fct) (by rw [eD]; exact shut)
      · have e2 : i = 2 := by omega
        have e := hcb (.inr ⟨e2, by omega⟩)
        unfold encR encH at hxa
        (repeat (first | refine g ?_))
        refine s_idxo (kk := 10) (os + i * 10) ?_
        refine s_loadao (j := i * 10) ho hxa (by rw [hxl]; omega) (by omega) ?_
        (repeat (first | refine g ?_))
        refine s_alloc fun r9 => ?_
        (repeat (first | refine g ?_))
        exact run_stop_loop (bestN l live i) e fct shut
    · have e := choose_best l live i (.inl ⟨by omega, hi2⟩)
      (repeat (first | refine g ?_))
      exact run_stop_loop (bestN l live i) e fct shut
  · rw [hB]
    dsimp only
    (repeat (first | refine g ?_))
    refine s_ceq r4 (encSu b) ?_ ?_
    · rfl
    refine run_ret2 (imp_RD ?_ shut) rfl (res_cell tabOk rfl rfl rfl (by repeat (first | (with_reducible exact At.head) | apply At.tail)) rfl) (res_tmp rfl)
    rfl
end Go.Proofs.YtaiocnpecaecdaaGreatDoor.V
namespace Go.Proofs.YtaiocnpecaecdaaGreatDoor.V
open Go.Proofs.YtaiocnpecaecdaaGreatDoor.VL Go.Proofs.YtaiocnpecaecdaaGreatDoor.VL.RD
structure BlockT where
  at_ : Int
  v : Int
  bad : Bool
def encBk (x : BlockT) : List Value := [.int .i64 x.at_, .int .u8 x.v, .bool x.bad]
structure BlockOk (x : BlockT) : Prop where
  a0 : -9223372036854775808 ≤ x.at_
  a1 : x.at_ ≤ 9223372036854775807
  v0 : 0 ≤ x.v
  v1 : x.v ≤ 255
structure CutT where
  fuse : Int
  kp : Option Addr
  kc : Nat
  keep : List Bool
def encCut (x : CutT) : List Value := [.int .i64 x.fuse, .slice x.kp x.keep.length x.kc]
structure CutOk (q : View) (x : CutT) : Prop where
  f0 : -9223372036854775808 ≤ x.fuse
  f1 : x.fuse ≤ 9223372036854775807
  kl : x.keep.length ≤ 9223372036854775807
  kq : RowQ q x.kp x.keep.length 1 (x.keep.map Value.bool)
end Go.Proofs.YtaiocnpecaecdaaGreatDoor.V
namespace Go.Proofs.YtaiocnpecaecdaaGreatDoor.V
open Go.Proofs.YtaiocnpecaecdaaGreatDoor.VL Go.Proofs.YtaiocnpecaecdaaGreatDoor.VL.RD Go.Proofs.YtaiocnpecaecdaaGreatDoor.VL.Sha
attribute [local irreducible] Run numB
structure VM (q : View) (v : Value) (p : VP) where
  ch : p.St → HProp
  ok : Nat → p.St → Prop
  mono : ∀ {n m : Nat} {s : p.St}, ok n s → n ≤ m → ok m s
  sealOk : ∀ {n : Nat} {s : p.St} (h : HeadT) (X : ByteArray), ok n s → ok (n + 1) (p.sealF s h X).2
  sealC : ∀ {n : Nat} {s : p.St} (h : HeadT) (X : ByteArray), ok n s → n ≤ 1000 → HeadOk h →
    FnD Tryz.prog q 68 [v, .agg ⟨encH h⟩, .string X] [ch s] (.tuple #[.string (p.sealF s h X).1.1, .int .i64 (p.sealF s h X).1.2]) [ch (p.sealF s h X).2]
  sealB : ∀ (s : p.St) (h : HeadT) (X : ByteArray), (p.sealF s h X).1.1.size ≤ 1000000
  hashOk : ∀ {n : Nat} {s : p.St} (t : ByteArray), ok n s → ok (n + 1) (p.hashF s t).2
  hashC : ∀ {n : Nat} {s : p.St} (t : ByteArray), t.size ≤ 1000000 → ok n s → n ≤ 1000 → FnD Tryz.prog q 94 [v, .string t] [ch s] (.string (p.hashF s t).1) [ch (p.hashF s t).2]
  hash32 : ∀ (s : p.St) (t : ByteArray), (p.hashF s t).1.size = 32
  toldC : ∀ {n : Nat} {s : p.St} (raw : ByteArray) (a : Int), ok n s → n ≤ 1000 → FnD Tryz.prog q 104 [v, .string raw, .int .i64 a] [ch s] (.agg ⟨encR (p.toldF s raw a)⟩) [ch s]
  toldH : ∀ (s : p.St) (raw : ByteArray) (a : Int), HeadOk (p.toldF s raw a).head
  toldB : ∀ (s : p.St) (raw : ByteArray) (a : Int), (p.toldF s raw a).ok = true → (p.toldF s raw a).body.size = 448
  toldN : ∀ (s : p.St) (raw : ByteArray) (a : Int), (p.toldF s raw a).ok = false → p.toldF s raw a = noR
end Go.Proofs.YtaiocnpecaecdaaGreatDoor.V
namespace Go.Proofs.YtaiocnpecaecdaaGreatDoor.V
open Go.Proofs.YtaiocnpecaecdaaGreatDoor.VL Go.Proofs.YtaiocnpecaecdaaGreatDoor.VL.RD Go.Proofs.YtaiocnpecaecdaaGreatDoor.VL.Sha
attribute [local irreducible] Run numB
theorem isPower_spec (q : View) (e : Int) : FnD Tryz.prog q 105 [.iface 176 (.agg ⟨[.int .i64 e]⟩), .iface 23 (.int .i64 20)] [] (.bool (decide (e = 20))) [] :=
  FnD.of_below Tryz.call105 fun w => by
    refine (NI.is_calls e w).mono ?_
    rintro e' w' ⟨rfl, hb⟩
    exact ⟨rfl, hb⟩
def stopV (e : Int) : Value := if e = 0 then .nilIface else .iface 176 (.agg ⟨[.int .i64 e]⟩)
theorem stopped_spec (q : View) (e : Int) : FnD Tryz.prog q 53 [stopV e] [] (.int .i64 (stopF e)) [] := by
  have ci := isPower_spec q e
  unfold stopV stopF
  by_cases h0 : e = 0
  · rw [if_pos h0, if_pos h0]
    (first | refine FnD.go Tryz.call53 Tryz.func53 rfl rfl rfl ?_ | refine FnX.go Tryz.call53 Tryz.func53 rfl rfl rfl ?_)
    (repeat (first | refine g ?_))
    refine s_ifnil ?_
    (repeat (first | refine g ?_))
    exact run_ret rfl (imp_RD rfl shut)
  · rw [if_neg h0, if_neg h0]
    by_cases h1 : e = 20
    · rw [if_pos h1]
      rw [decide_eq_true h1] at ci
      (first | refine FnD.go Tryz.call53 Tryz.func53 rfl rfl rfl ?_ | refine FnX.go Tryz.call53 Tryz.func53 rfl rfl rfl ?_)
      (repeat (first | refine g ?_))
      refine s_ifnil ?_
      (repeat (first | refine g ?_))
      refine s_mki ?_
      (repeat (first | refine g ?_))
      refine s_call ci ?_
      (repeat (first | refine g ?_))
      exact run_ret rfl (imp_RD rfl shut)
    · rw [if_neg h1]
      rw [decide_eq_false h1] at ci
      (first | refine FnD.go Tryz.call53 Tryz.func53 rfl rfl rfl ?_ | refine FnX.go Tryz.call53 Tryz.func53 rfl rfl rfl ?_)
      (repeat (first | refine g ?_))
      refine s_ifnil ?_
      (repeat (first | refine g ?_))
      refine s_mki ?_
      (repeat (first | refine g ?_))
      refine s_call ci ?_
      (repeat (first | refine g ?_))
      exact run_ret rfl (imp_RD rfl shut)
@[reducible] def rowAt (r b : Nat) (d : PSt × Int) : List HProp :=
  [cells r 120 ⟨[.pointer (some ⟨b, 0, none⟩), stopV d.2]⟩, plateAt b d.1]
theorem sput_spec (q : View) (hE : ErrQ q) (r b : Nat) (d : PSt × Int) (n : Nat) (hw : PW n d.1) (hn : n < 1000000) (a : Int) (raw : ByteArray) (hz : raw.size ≤ 140737488355328) :
    FnD Tryz.prog q 56 [.pointer (some ⟨r, 0, none⟩), .int .i64 a, .string raw] (rowAt r b d) (.tuple #[]) (rowAt r b (dput d a raw)) := by
  obtain ⟨s, e⟩ := d
  dsimp only at hw
  by_cases h0 : e = 0
  · subst h0
    have ed : dput (s, 0) a raw = ((bputF s a raw).2, (bputF s a raw).1) := if_neg (fun h => h rfl)
    rw [ed]
    have cp := bput_spec q hE b s n hw hn a raw hz
    generalize bputF s a raw = R at *
    obtain ⟨e, S⟩ := R
    dsimp only at cp ⊢
    have e0 : stopV 0 = .nilIface := if_pos rfl
    unfold rowAt
    dsimp only
    rw [e0]
    by_cases h1 : e = 0
    · subst h1
      rw [e0]
      (first | refine FnD.go Tryz.call56 Tryz.func56 rfl rfl rfl ?_ | refine FnX.go Tryz.call56 Tryz.func56 rfl rfl rfl ?_)
      (repeat (first | refine g ?_))
      refine s_ifnil ?_
      (repeat (first | refine g ?_))
      refine s_call cp ?_
      (repeat (first | refine g ?_))
      exact run_end rfl (imp_RD rfl shut)
    · have e1 : stopV e = .iface 176 (.agg ⟨[.int .i64 e]⟩) := if_neg h1
      rw [e1]
      (first | refine FnD.go Tryz.call56 Tryz.func56 rfl rfl rfl ?_ | refine FnX.go Tryz.call56 Tryz.func56 rfl rfl rfl ?_)
      (repeat (first | refine g ?_))
      refine s_ifnil ?_
      (repeat (first | refine g ?_))
      refine s_call cp ?_
      (repeat (first | refine g ?_))
      refine s_mki ?_
      (repeat (first | refine g ?_))
      exact run_end rfl (imp_RD rfl shut)
  · have ed : dput (s, e) a raw = (s, e) := if_pos h0
    have e1 : stopV e = .iface 176 (.agg ⟨[.int .i64 e]⟩) := if_neg h0
    rw [ed]
    unfold rowAt
    dsimp only
    rw [e1]
    (first | refine FnD.go Tryz.call56 Tryz.func56 rfl rfl rfl ?_ | refine FnX.go Tryz.call56 Tryz.func56 rfl rfl rfl ?_)
    (repeat (first | refine g ?_))
    refine s_ifnil ?_
    (repeat (first | refine g ?_))
    exact run_ret rfl (imp_RD rfl shut)
theorem sflush_spec (q : View) (r b : Nat) (d : PSt × Int) (hw : WF d.1) :
    FnD Tryz.prog q 57 [.pointer (some ⟨r, 0, none⟩)] (rowAt r b d) (.tuple #[]) (rowAt r b (dflush d)) := by
  obtain ⟨s, e⟩ := d
  dsimp only at hw
  by_cases h0 : e = 0
  · subst h0
    have ed : dflush (s, 0) = (flushF s, if s.down = true then 20 else 0) := if_neg (fun h => h rfl)
    rw [ed]
    have cp := flush_spec q b s hw
    have e0 : stopV 0 = .nilIface := if_pos rfl
    unfold rowAt
    dsimp only
    rw [e0]
    by_cases h1 : s.down = true
    · rw [if_pos h1] at cp ⊢
      have e1 : stopV 20 = .iface 176 (.agg ⟨[.int .i64 20]⟩) := if_neg (by decide)
      rw [e1]
      (first | refine FnD.go Tryz.call57 Tryz.func57 rfl rfl rfl ?_ | refine FnX.go Tryz.call57 Tryz.func57 rfl rfl rfl ?_)
      (repeat (first | refine g ?_))
      refine s_ifnil ?_
      (repeat (first | refine g ?_))
      refine s_call cp ?_
      (repeat (first | refine g ?_))
      refine s_mki ?_
      (repeat (first | refine g ?_))
      exact run_end rfl (imp_RD rfl shut)
    · rw [if_neg h1] at cp ⊢
      rw [e0]
      (first | refine FnD.go Tryz.call57 Tryz.func57 rfl rfl rfl ?_ | refine FnX.go Tryz.call57 Tryz.func57 rfl rfl rfl ?_)
      (repeat (first | refine g ?_))
      refine s_ifnil ?_
      (repeat (first | refine g ?_))
      refine s_call cp ?_
      (repeat (first | refine g ?_))
      exact run_end rfl (imp_RD rfl shut)
  · have ed : dflush (s, e) = (s, e) := if_pos h0
    have e1 : stopV e = .iface 176 (.agg ⟨[.int .i64 e]⟩) := if_neg h0
    rw [ed]
    unfold rowAt
    dsimp only
    rw [e1]
    (first | refine FnD.go Tryz.call57 Tryz.func57 rfl rfl rfl ?_ | refine FnX.go Tryz.call57 Tryz.func57 rfl rfl rfl ?_)
    (repeat (first | refine g ?_))
    refine s_ifnil ?_
    (repeat (first | refine g ?_))
    exact run_ret rfl (imp_RD rfl shut)
end Go.Proofs.YtaiocnpecaecdaaGreatDoor.V
namespace Go.Proofs.YtaiocnpecaecdaaGreatDoor.V
open Go.Proofs.YtaiocnpecaecdaaGreatDoor.VL Go.Proofs.YtaiocnpecaecdaaGreatDoor.VL.RD Go.Proofs.YtaiocnpecaecdaaGreatDoor.VL.Sha
attribute [local irreducible] Run numB
theorem layout_bad (q : View) (l : Int) (h : l < 48 ∨ 1024 < l) : FnD Tryz.prog q 47 [.int .i64 l] [] (.tuple #[.agg ⟨encLay0⟩, .int .i64 1]) [] := by
  by_cases h1 : l < 48
  · (first | refine FnD.go Tryz.call47 Tryz.func47 rfl rfl rfl ?_ | refine FnX.go Tryz.call47 Tryz.func47 rfl rfl rfl ?_)
    (repeat (first | refine g ?_))
    refine s_alloc fun r2 => ?_
    (repeat (first | refine g ?_))
    refine s_ceq r2 encLay0 ?_ ?_
    · rfl
    refine run_ret2 (imp_RD ?_ shut) rfl (res_cell tabOk rfl rfl rfl (by repeat (first | (with_reducible exact At.head) | apply At.tail)) rfl) (res_tmp rfl)
    rfl
  · have h2 : 1024 < l := by omega
    (first | refine FnD.go Tryz.call47 Tryz.func47 rfl rfl rfl ?_ | refine FnX.go Tryz.call47 Tryz.func47 rfl rfl rfl ?_)
    (repeat (first | refine g ?_))
    refine s_alloc fun r2 => ?_
    (repeat (first | refine g ?_))
    refine s_ceq r2 encLay0 ?_ ?_
    · rfl
    refine run_ret2 (imp_RD ?_ shut) rfl (res_cell tabOk rfl rfl rfl (by repeat (first | (with_reducible exact At.head) | apply At.tail)) rfl) (res_tmp rfl)
    rfl
theorem layout_spec (q : View) (l : Nat) (h0 : 48 ≤ l) (h1 : l ≤ 1024) : FnD Tryz.prog q 47 [.int .i64 (l : Int)] [] (.tuple #[.agg ⟨encLay l⟩, .int .i64 0]) [] := by
  (first | refine FnD.go Tryz.call47 Tryz.func47 rfl rfl rfl ?_ | refine FnX.go Tryz.call47 Tryz.func47 rfl rfl rfl ?_)
  (repeat (first | refine g ?_))
  refine s_alloc fun r2 => ?_
  (repeat (first | refine g ?_))
  refine s_alloc fun r4 => ?_
  (repeat (first | refine g ?_))
  refine s_ceq r2 (encLay l) ?_ ?_
  · unfold encLay lTotal lLost lInodes lList
    simp only [List.cons.injEq, Value.int.injEq, true_and, and_true]
    omega
  refine run_ret2 (imp_RD ?_ shut) rfl (res_cell tabOk rfl rfl rfl (by repeat (first | (with_reducible exact At.head) | apply At.tail)) rfl) (res_tmp rfl)
  rfl
theorem up_spec9 (q : View) (n b : Nat) (h : n ≤ 100000) (hb : 1 ≤ b) (hb2 : b ≤ 1000) : FnD Tryz.prog q 88 [.int .i64 (n : Int), .int .i64 (b : Int)] [] (.int .i64 (((n : Int) + b - 1) / b)) [] := by
  (first | refine FnD.go Tryz.call88 Tryz.func88 rfl rfl rfl ?_ | refine FnX.go Tryz.call88 Tryz.func88 rfl rfl rfl ?_)
  (repeat (first | refine g ?_))
  exact run_ret rfl (imp_RD rfl shut)
theorem layout_rspec (q : View) (l : Nat) (h0 : 48 ≤ l) (h1 : l ≤ 1024) : FnD Tryz.prog q 41 [.int .i64 (l : Int)] [] (.tuple #[.agg ⟨encLay l⟩, .int .i64 0]) [] := by
  have c1 : FnD Tryz.prog q 88 [.int .i64 ((l : Int) / 8), .int .i64 16] [] (.int .i64 (((l : Int) / 8 + 16 - 1) / 16)) [] := by
    have := up_spec9 q (l / 8) 16 (by omega) (by decide) (by decide)
    rw [show ((l / 8 : Nat) : Int) = (l : Int) / 8 by omega] at this
    exact this
  have c2 : FnD Tryz.prog q 88 [.int .i64 (l : Int), .int .i64 64] [] (.int .i64 (((l : Int) + 64 - 1) / 64)) [] := up_spec9 q l 64 (by omega) (by decide) (by decide)
  (first | refine FnD.go Tryz.call41 Tryz.func41 rfl rfl rfl ?_ | refine FnX.go Tryz.call41 Tryz.func41 rfl rfl rfl ?_)
  (repeat (first | refine g ?_))
  refine s_alloc fun r2 => ?_
  (repeat (first | refine g ?_))
  refine s_call c1 ?_
  (repeat (first | refine g ?_))
  refine s_call c2 ?_
  (repeat (first | refine g ?_))
  refine s_ceq r2 (encLay l) ?_ ?_
  · unfold encLay lTotal lLost lInodes lList
    simp only [List.cons.injEq, Value.int.injEq, true_and, and_true]
    omega
  refine run_ret2 (imp_RD ?_ shut) rfl (res_cell tabOk rfl rfl rfl (by repeat (first | (with_reducible exact At.head) | apply At.tail)) rfl) (res_tmp rfl)
  rfl
end Go.Proofs.YtaiocnpecaecdaaGreatDoor.V
namespace Go.Proofs.YtaiocnpecaecdaaGreatDoor.V
open Go.Proofs.YtaiocnpecaecdaaGreatDoor.VL Go.Proofs.YtaiocnpecaecdaaGreatDoor.VL.RD Go.Proofs.YtaiocnpecaecdaaGreatDoor.VL.Sha
attribute [local irreducible] Run numB
theorem lTotal_le (l : Nat) (h : l ≤ 1024) : lTotal l ≤ 3000 := by unfold lTotal lList; omega
theorem live_spec (q : View) (b : Nat) (s : PSt) (hw : WF s) : FnD Tryz.prog q 14 [.pointer (some ⟨b, 0, none⟩)] [plateAt b s] (.tuple #[.int .i64 (liveF s.sectors).1, .int .i64 (liveF s.sectors).2]) [plateAt b s] := by
  have h0 := hw.held
  have h1 := hw.sec
  have cs := sectors_spec q b s
  by_cases h8 : s.sectors % 8 ≠ 0
  · rw [live_none (sec := s.sectors) fun l _ _ e => h8 (by omega)]
    (first | refine FnD.go Tryz.call14 Tryz.func14 rfl rfl rfl ?_ | refine FnX.go Tryz.call14 Tryz.func14 rfl rfl rfl ?_)
    (repeat (first | refine g ?_))
    refine s_call cs ?_
    (repeat (first | refine g ?_))
    exact run_ret rfl (imp_RD rfl shut)
  obtain ⟨n, hn⟩ : ∃ n : Nat, s.sectors / 8 = n := ⟨(s.sectors / 8).toNat, by omega⟩
  have hsn : s.sectors = 8 * (n : Int) := by omega
  (first | refine FnD.go Tryz.call14 Tryz.func14 rfl rfl rfl ?_ | refine FnX.go Tryz.call14 Tryz.func14 rfl rfl rfl ?_)
  (repeat (first | refine g ?_))
  refine s_call cs ?_
  (repeat (first | refine g ?_))
  refine s_call cs ?_
  (repeat (first | refine g ?_))
  refine run_cutI (X := Unit) (fun _ => liveF s.sectors = (0, 30)) (fun _ => []) (fun _ => [plateAt b s]) ?_ fun _ hL => ?_
  · refine run_loopI (X := Nat) (fun i => (48 ≤ i ∧ i ≤ 1025) ∧ ∀ j, 48 ≤ j → j < i → lTotal j < n) (fun i => [(4, .int .i64 (s.sectors / 8)), (5, .int .i64 (i : Int))])
      (fun _ => [plateAt b s]) (fun i => 1025 - i) 48 ⟨⟨by decide, by decide⟩, fun j h2 h3 => by omega⟩ fct shut ?_
    intro i ⟨⟨hi, hi2⟩, hj⟩
    by_cases h5 : i ≤ 1024
    · have cl := layout_spec q i hi h5
      have ht := lTotal_le i h5
      unfold encLay at cl
      by_cases h6 : n ≤ lTotal i
      · by_cases h7 : lTotal i = n
        · have e := live_some (sec := s.sectors) hi h5 (by rw [hsn, h7])
          rw [e]
          (repeat (first | refine g ?_))
          refine s_call cl ?_
          (repeat (first | refine g ?_))
          refine s_alloc fun r6 => ?_
          (repeat (first | refine g ?_))
          exact run_ret rfl (imp_RD rfl shut)
        · have e := live_none (sec := s.sectors) fun l l0 l1 el => by
            have : lTotal l = n := by omega
            rcases Nat.lt_trichotomy l i with g | g | g
            · have := hj l l0 g; omega
            · subst g; exact h7 this
            · have := lTotal_lt g; omega
          (repeat (first | refine g ?_))
          refine s_call cl ?_
          (repeat (first | refine g ?_))
          refine s_alloc fun r6 => ?_
          (repeat (first | refine g ?_))
          exact run_stop_loop () e fct shut
      · (repeat (first | refine g ?_))
        refine s_call cl ?_
        (repeat (first | refine g ?_))
        refine s_alloc fun r6 => ?_
        (repeat (first | refine g ?_))
        refine run_stop_loop (i + 1) ⟨⟨⟨by omega, by omega⟩, fun j j0 j1 => ?_⟩, by omega⟩ fct shut
        by_cases e : j = i
        · subst e; omega
        · exact hj j j0 (by omega)
    · have e := live_none (sec := s.sectors) fun l l0 l1 el => by
        have := hj l l0 (by omega)
        omega
      (repeat (first | refine g ?_))
      exact run_stop_loop () e fct shut
  · rw [hL]
    (repeat (first | refine g ?_))
    exact run_ret rfl (imp_RD rfl shut)
end Go.Proofs.YtaiocnpecaecdaaGreatDoor.V
namespace Go.Proofs.YtaiocnpecaecdaaGreatDoor.V
open Go.Proofs.YtaiocnpecaecdaaGreatDoor.VL Go.Proofs.YtaiocnpecaecdaaGreatDoor.VL.RD Go.Proofs.YtaiocnpecaecdaaGreatDoor.VL.Sha
attribute [local irreducible] Run numB
theorem text12_spec (q : View) (v : Int) (n : Nat) (h0 : 0 ≤ v) (h1 : v ≤ 255) (hn : n ≤ 16777216) :
    FnD Tryz.prog q 27 [.int .u8 v, .int .i64 n] [] (.string (bytesF v n)) [] := by
  (first | refine FnD.go Tryz.call27 Tryz.func27 rfl rfl rfl ?_ | refine FnX.go Tryz.call27 Tryz.func27 rfl rfl rfl ?_)
  (repeat (first | refine g ?_))
  refine s_made 1 n n fun r => ?_
  rw [zeroL_one _ rfl]
  (repeat (first | refine g ?_))
  refine run_loopI (X := Nat) (fun i => i ≤ n) (fun i => [(0, .int .u8 v), (1, .int .i64 n), (5, .slice (some ⟨r, 0, none⟩) n n), (6, .int .i64 (i : Int))])
    (fun i => [cells r 5 ⟨List.replicate i (.int .u8 v) ++ List.replicate (n - i) (.int .u8 0)⟩]) (fun i => n - i) 0 (Nat.zero_le _) fct ?_ ?_
  · simp only [List.replicate_zero, List.nil_append, Nat.sub_zero]
    exact shut
  · intro i hi
    (repeat (first | refine g ?_))
    refine run_cond_dec rfl ?_ ?_
    · intro h2
      have h2' : i < n := Int.ofNat_lt.1 h2
      (repeat (first | refine g ?_))
      refine s_storeset ?_
      (repeat (first | refine g ?_))
      refine run_stop_loop (i + 1) ⟨h2', by omega⟩ fct ?_
      rw [set_fill n i (.int .u8 v) (.int .u8 0) h2']
      exact shut
    · intro h2
      have h2' : i = n := Nat.le_antisymm hi (Nat.le_of_not_lt fun h => h2 (Int.ofNat_lt.2 h))
      subst h2'
      (repeat (first | refine g ?_))
      refine s_stringc (m := i) (o := 0) (c := ⟨List.replicate i (.int .u8 v) ++ List.replicate (i - i) (.int .u8 0)⟩) (l := List.replicate i (UInt8.ofNat v.toNat)) (by simp) (by rw [bv_bytes v _ h0 h1]; simp) ?_
      (repeat (first | refine g ?_))
      exact run_ret rfl (imp_RD rfl shut)
theorem sup12_spec (q : View) (l e : Int) : FnD Tryz.prog q 22 [.int .i64 l, .int .i64 e] [] (.agg ⟨encSu ⟨7, e, 5, l, bytesF 3 32⟩⟩) [] := by
  have ct : FnD Tryz.prog q 27 [.int .u8 3, .int .i64 32] [] (.string (bytesF 3 32)) [] := text12_spec q 3 32 (by decide) (by decide) (by decide)
  generalize bytesF 3 32 = T at *
  (first | refine FnD.go Tryz.call22 Tryz.func22 rfl rfl rfl ?_ | refine FnX.go Tryz.call22 Tryz.func22 rfl rfl rfl ?_)
  (repeat (first | refine g ?_))
  refine s_alloc fun r4 => ?_
  (repeat (first | refine g ?_))
  refine s_call ct ?_
  (repeat (first | refine g ?_))
  refine s_ceq r4 (encSu ⟨7, e, 5, l, T⟩) ?_ ?_
  · rfl
  refine run_ret1 (imp_RD ?_ shut) rfl (res_cell tabOk rfl rfl rfl (by repeat (first | (with_reducible exact At.head) | apply At.tail)) rfl)
  rfl
theorem sectors12_spec (q : View) (l : Nat) (h0 : 48 ≤ l) (h1 : l ≤ 1024) : FnD Tryz.prog q 25 [.int .i64 (l : Int)] [] (.int .i64 (8 * (lTotal l : Int))) [] := by
  have cl := layout_rspec q l h0 h1
  have ht := lTotal_le l h1
  unfold encLay at cl
  (first | refine FnD.go Tryz.call25 Tryz.func25 rfl rfl rfl ?_ | refine FnX.go Tryz.call25 Tryz.func25 rfl rfl rfl ?_)
  (repeat (first | refine g ?_))
  refine s_call cl ?_
  (repeat (first | refine g ?_))
  refine s_alloc fun r3 => ?_
  (repeat (first | refine g ?_))
  exact run_ret rfl (imp_RD rfl shut)
def encW (w : WriteT) : List Value := [.int .i64 w.at_, .string w.raw]
theorem jsuper_spec {q : View} {v : Value} {p : VP} (M : VM q v p) {n : Nat} {s : p.St} (hs : M.ok n s) (hn : n ≤ 1000) (x : SuperT) (hx : SuperOk x) :
    FnD Tryz.prog q 33 [v, .agg ⟨encSu x⟩] [M.ch s] (.tuple #[.agg ⟨encW (superM p s x).1.1⟩, .int .i64 (superM p s x).1.2]) [M.ch (superM p s x).2] := by
  have cp := super_spec q x hx
  by_cases h1 : (superF x).2 ≠ 0
  · have e : superM p s x = ((noW, (superF x).2), s) := by unfold superM; rw [if_pos h1]
    rw [e]
    generalize superF x = S at *
    obtain ⟨t, e1⟩ := S
    dsimp only at h1 cp ⊢
    unfold encSu at *
    (first | refine FnD.go Tryz.call33 Tryz.func33 rfl rfl rfl ?_ | refine FnX.go Tryz.call33 Tryz.func33 rfl rfl rfl ?_)
    (repeat (first | refine g ?_))
    refine s_box fun r3 => ?_
    (repeat (first | refine g ?_))
    refine s_alloc fun r4 => ?_
    (repeat (first | refine g ?_))
    refine s_call cp ?_
    (repeat (first | refine g ?_))
    refine s_ceq r4 (encW noW) ?_ ?_
    · rfl
    refine run_ret2 (imp_RD ?_ shut) rfl (res_cell tabOk rfl rfl rfl (by repeat (first | (with_reducible exact At.head) | apply At.tail)) rfl) (res_tmp rfl)
    rfl
  have h1 : (superF x).2 = 0 := Decidable.not_not.1 h1
  have hfl : (fldSu x).all okN = true := by
    unfold superF at h1
    split at h1
    · exact absurd h1 (by decide)
    · split at h1
      · assumption
      · exact absurd h1 (by decide)
  have hep : 0 ≤ x.epoch := by
    unfold fldSu at hfl
    simp only [List.all_cons, List.all_nil, Bool.and_eq_true] at hfl
    exact (of_decide_eq_true hfl.2.1).1
  have hH : HeadOk (headSu x) := by
    obtain ⟨v0, v1, e0, e1, n0, n1, l0, l1, r1⟩ := hx
    constructor <;> (unfold headSu; dsimp only; omega)
  have cs := M.sealC (headSu x) (superF x).1 hs hn hH
  have e : superM p s x = if (p.sealF s (headSu x) (superF x).1).1.2 ≠ 0 then ((noW, (p.sealF s (headSu x) (superF x).1).1.2), (p.sealF s (headSu x) (superF x).1).2) else
      ((⟨x.epoch % 2, (p.sealF s (headSu x) (superF x).1).1.1⟩, 0), (p.sealF s (headSu x) (superF x).1).2) := by unfold superM; rw [if_neg (fun h => h h1)]
  rw [e]
  generalize p.sealF s (headSu x) (superF x).1 = R at *
  obtain ⟨⟨raw, e2⟩, s2⟩ := R
  dsimp only at cs ⊢
  rw [h1] at cp
  generalize (superF x).1 = T at *
  unfold headSu encH at cs
  unfold encSu at *
  dsimp only at cs
  by_cases h2 : e2 ≠ 0
  · rw [if_pos h2]
    (first | refine FnD.go Tryz.call33 Tryz.func33 rfl rfl rfl ?_ | refine FnX.go Tryz.call33 Tryz.func33 rfl rfl rfl ?_)
    (repeat (first | refine g ?_))
    refine s_box fun r3 => ?_
    (repeat (first | refine g ?_))
    refine s_alloc fun r4 => ?_
    (repeat (first | refine g ?_))
    refine s_call cp ?_
    (repeat (first | refine g ?_))
    refine s_call cs ?_
    (repeat (first | refine g ?_))
    refine s_ceq r4 (encW noW) ?_ ?_
    · rfl
    refine run_ret2 (imp_RD ?_ shut) rfl (res_cell tabOk rfl rfl rfl (by repeat (first | (with_reducible exact At.head) | apply At.tail)) rfl) (res_tmp rfl)
    rfl
  · have h2 : e2 = 0 := Decidable.not_not.1 h2
    subst h2
    rw [if_neg (fun h => h rfl)]
    (first | refine FnD.go Tryz.call33 Tryz.func33 rfl rfl rfl ?_ | refine FnX.go Tryz.call33 Tryz.func33 rfl rfl rfl ?_)
    (repeat (first | refine g ?_))
    refine s_box fun r3 => ?_
    (repeat (first | refine g ?_))
    refine s_alloc fun r4 => ?_
    (repeat (first | refine g ?_))
    refine s_call cp ?_
    (repeat (first | refine g ?_))
    refine s_call cs ?_
    (repeat (first | refine g ?_))
    refine s_ceq r4 (encW ⟨x.epoch % 2, raw⟩) ?_ ?_
    · rfl
    refine run_ret2 (imp_RD ?_ shut) rfl (res_cell tabOk rfl rfl rfl (by repeat (first | (with_reducible exact At.head) | apply At.tail)) rfl) (res_tmp rfl)
    rfl
end Go.Proofs.YtaiocnpecaecdaaGreatDoor.V
namespace Go.Proofs.YtaiocnpecaecdaaGreatDoor.V
open Go.Proofs.YtaiocnpecaecdaaGreatDoor.VL Go.Proofs.YtaiocnpecaecdaaGreatDoor.VL.RD Go.Proofs.YtaiocnpecaecdaaGreatDoor.VL.Sha
attribute [local irreducible] Run numB
def encWs (l : List WriteT) : List Value := l.flatMap encW
theorem encWs_len (l : List WriteT) : (encWs l).length = l.length * 2 := by
  induction l with
  | nil => rfl
  | cons y l ih =>
    unfold encWs at *
    rw [List.flatMap_cons, List.length_append, ih, List.length_cons]; show 2 + _ = _; omega
theorem encWs_at (l : List WriteT) (i : Nat) (x : WriteT) (h : l[i]? = some x) : ((encWs l).drop (i * 2)).take 2 = encW x := by
  induction l generalizing i with
  | nil => cases h
  | cons y l ih =>
    have e : encWs (y :: l) = .int .i64 y.at_ :: .string y.raw :: encWs l := rfl
    rw [e]
    cases i with
    | zero => obtain rfl := Option.some.inj h; rfl
    | succ i =>
      have := ih i h
      rw [show (i + 1) * 2 = i * 2 + 1 + 1 from by omega]
      simpa using this
structure WOk (w : WriteT) : Prop where
  a0 : -9223372036854775808 ≤ w.at_
  a1 : w.at_ ≤ 9223372036854775807
  sz : w.raw.size ≤ 1000000
set_option maxHeartbeats 2000000 in
theorem may_spec (q : View) (k : Nat) (hk : k ≤ 1024) (wp : Option Addr) (wc : Nat) (l : List WriteT) (hw : ∀ w ∈ l, WOk w) (hl : l.length ≤ 1000) :
    FnD Tryz.prog q 54 [.agg ⟨encLay k⟩, .slice wp l.length wc] [sl wp l.length wc 54 2 (encWs l)] (.bool (mayF k l)) [sl wp l.length wc 54 2 (encWs l)] := by
  have hel := encWs_len l
  have ht : lTotal k ≤ 3000 := lTotal_le k hk
  unfold mayF encLay
  (first | refine FnD.go Tryz.call54 Tryz.func54 rfl rfl rfl ?_ | refine FnX.go Tryz.call54 Tryz.func54 rfl rfl rfl ?_)
  (repeat (first | refine g ?_))
  refine s_box fun r2 => ?_
  (repeat (first | refine g ?_))
  refine run_loopI (X := Nat × Int) (fun x => x.1 ≤ l.length ∧ mayG (k : Int) 26 l = mayG (k : Int) x.2 (l.drop x.1)) (fun x => [(2, .pointer (some ⟨r2, 0, none⟩)), (5, .int .i64 x.2), (13, .slice wp l.length wc), (14, .int .i64 (l.length : Int)), (15, .int .i64 (x.1 : Int))])
    (fun x => [cells r2 84 ⟨encLay k⟩, sl wp l.length wc 54 2 (encWs l)]) (fun x => l.length - x.1) (0, 26) ⟨Nat.zero_le _, by rw [List.drop_zero]⟩ fct ?_ ?_
  · unfold encLay; exact shut
  intro ⟨i, last⟩ ⟨hi, hm⟩
  dsimp only at hi hm ⊢
  rw [hm]
  unfold encLay
  by_cases h1 : i < l.length
  · obtain ⟨w, hx⟩ : ∃ x, l[i]? = some x := ⟨_, List.getElem?_eq_getElem h1⟩
    have hwo := hw w (List.mem_of_getElem? hx)
    have hxa := encWs_at l i w hx
    have ed : l.drop i = w :: l.drop (i + 1) := by
      rw [List.drop_eq_getElem_cons h1]
      rw [List.getElem?_eq_getElem h1] at hx
      rw [Option.some.inj hx]
    have em : mayG (k : Int) last (l.drop i) = if w.at_ ≤ last ∨ (k : Int) ≤ w.at_ ∨ w.raw.size ≠ 512 then false else if (headOfF (w.raw.extract 0 48)).2 ≠ 0 ∨ (headOfF (w.raw.extract 0 48)).1.addr ≠ w.at_ then false else mayG (k : Int) w.at_ (l.drop (i + 1)) := by rw [ed]; rfl
    unfold encW at hxa
    obtain ⟨a, raw⟩ := w
    obtain ⟨wa0, wa1, wsz⟩ := hwo
    dsimp only at em hxa wa0 wa1 wsz
    refine s_ptr wp (h0 := show 0 < l.length by omega) (fun bc ep _ hcap => ?_)
    subst ep
    by_cases g1 : a ≤ last
    · rw [em, if_pos (.inl g1)]
      (repeat (first | refine g ?_))
      refine s_idxk 2 ?_
      refine s_loadasl (i := i * 2) hxa (by rw [hel]; omega) ?_
      (repeat (first | refine g ?_))
      refine s_alloc fun r7 => ?_
      (repeat (first | refine g ?_))
      exact run_ret rfl (imp_RD rfl shut)
    by_cases g2 : (k : Int) ≤ a
    · rw [em, if_pos (.inr (.inl g2))]
      (repeat (first | refine g ?_))
      refine s_idxk 2 ?_
      refine s_loadasl (i := i * 2) hxa (by rw [hel]; omega) ?_
      (repeat (first | refine g ?_))
      refine s_alloc fun r7 => ?_
      (repeat (first | refine g ?_))
      exact run_ret rfl (imp_RD rfl shut)
    by_cases g3 : raw.size ≠ 512
    · rw [em, if_pos (.inr (.inr g3))]
      (repeat (first | refine g ?_))
      refine s_idxk 2 ?_
      refine s_loadasl (i := i * 2) hxa (by rw [hel]; omega) ?_
      (repeat (first | refine g ?_))
      refine s_alloc fun r7 => ?_
      (repeat (first | refine g ?_))
      exact run_ret rfl (imp_RD rfl shut)
    have g3 : raw.size = 512 := Decidable.not_not.1 g3
    rw [if_neg (by omega)] at em
    have ch := headOf_spec q (raw.extract (0 : Int).toNat (48 : Int).toNat) (by rw [ByteArray.size_extract]; show min 48 raw.size - 0 = 48; omega)
    rw [show raw.extract (0 : Int).toNat (48 : Int).toNat = raw.extract 0 48 from rfl] at ch
    generalize headOfF (raw.extract 0 48) = HH at *
    obtain ⟨⟨z1, z2, z3, z4, z5, z6, z7, z8⟩, er⟩ := HH
    dsimp only at ch em
    unfold encH at ch
    dsimp only at ch
    by_cases g4 : er ≠ 0
    · rw [em, if_pos (.inl g4)]
      (repeat (first | refine g ?_))
      refine s_idxk 2 ?_
      refine s_loadasl (i := i * 2) hxa (by rw [hel]; omega) ?_
      (repeat (first | refine g ?_))
      refine s_alloc fun r7 => ?_
      (repeat (first | refine g ?_))
      refine s_call ch ?_
      (repeat (first | refine g ?_))
      refine s_alloc fun r8 => ?_
      (repeat (first | refine g ?_))
      exact run_ret rfl (imp_RD rfl shut)
    by_cases g5 : z2 ≠ a
    · rw [em, if_pos (.inr g5)]
      (repeat (first | refine g ?_))
      refine s_idxk 2 ?_
      refine s_loadasl (i := i * 2) hxa (by rw [hel]; omega) ?_
      (repeat (first | refine g ?_))
      refine s_alloc fun r7 => ?_
      (repeat (first | refine g ?_))
      refine s_call ch ?_
      (repeat (first | refine g ?_))
      refine s_alloc fun r8 => ?_
      (repeat (first | refine g ?_))
      exact run_ret rfl (imp_RD rfl shut)
    rw [if_neg (fun h => h.elim g4 g5)] at em
    rw [em]
    (repeat (first | refine g ?_))
    refine s_idxk 2 ?_
    refine s_loadasl (i := i * 2) hxa (by rw [hel]; omega) ?_
    (repeat (first | refine g ?_))
    refine s_alloc fun r7 => ?_
    (repeat (first | refine g ?_))
    refine s_call ch ?_
    (repeat (first | refine g ?_))
    refine s_alloc fun r8 => ?_
    (repeat (first | refine g ?_))
    exact run_stop_loop (i + 1, a) ⟨⟨by dsimp only; omega, rfl⟩, by dsimp only; omega⟩ fct shut
  · have e : mayG (k : Int) last (l.drop i) = true := by rw [List.drop_of_length_le (by omega)]; rfl
    rw [e]
    (repeat (first | refine g ?_))
    exact run_ret rfl (imp_RD rfl shut)
end Go.Proofs.YtaiocnpecaecdaaGreatDoor.V
