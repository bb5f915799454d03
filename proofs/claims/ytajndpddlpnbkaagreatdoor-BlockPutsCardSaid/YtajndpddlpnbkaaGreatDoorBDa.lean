/- A block on a device: how many blocks there are, a sector, Get. -/
import Derived.Test.YtajndpddlpnbkaaGreatDoorPLa
import Derived.Test.YtajndpddlpnbkaaGreatDoorNAa
import Derived.Test.YtajndpddlpnbkaaGreatDoorVKa
import Derived.Test.YtajndpddlpnbkaaGreatDoorBKa
set_option maxRecDepth 10000
set_option linter.unusedVariables false
namespace Go.Proofs.YtajndpddlpnbkaaGreatDoor.V
open Go.Proofs.YtajndpddlpnbkaaGreatDoor.VL Go.Proofs.YtajndpddlpnbkaaGreatDoor.VL.RD Go.Proofs.YtajndpddlpnbkaaGreatDoor.VL.Sha
attribute [local irreducible] Run numB
/-- Sectors have 64 bytes, or none where nothing was ever written. -/
structure S64 (s : PSt) : Prop where
  cache : ∀ x ∈ s.cache, x.2.size = 64
  held : ∀ x ∈ s.held, x.size = 0 ∨ x.size = 64
/-- What a device tells of a sector that it has, the power being on. -/
def rdF (s : PSt) (a : Int) : ByteArray × Int := match s.cache.reverse.find? (fun x => decide (x.1 = a)) with | some x => (x.2, 0) | none => heldF s a
theorem blocks_spec (q : View) (b : Nat) (s : PSt) (hw : WF s) : FnD Tryz.prog q 36 [.pointer (some ⟨b, 0, none⟩)] [plateAt b s] (.int .i64 (s.sectors / 8)) [plateAt b s] := by
  have h0 := hw.held
  have h1 := hw.sec
  (first | refine FnD.go Tryz.call36 Tryz.func36 rfl rfl rfl ?_ | refine FnX.go Tryz.call36 Tryz.func36 rfl rfl rfl ?_)
  (repeat (first | refine g ?_))
  refine s_call (sectors_spec q b s) ?_
  (repeat (first | refine g ?_))
  exact run_ret rfl (imp_RD rfl shut)
end Go.Proofs.YtajndpddlpnbkaaGreatDoor.V
namespace Go.Proofs.YtajndpddlpnbkaaGreatDoor.V
open Go.Proofs.YtajndpddlpnbkaaGreatDoor.VL Go.Proofs.YtajndpddlpnbkaaGreatDoor.VL.RD Go.Proofs.YtajndpddlpnbkaaGreatDoor.VL.Sha
attribute [local irreducible] Run numB
def secL (s : PSt) (j : Int) : List UInt8 := if (rdF s j).2 = 0 then (rdF s j).1.data.toList else List.replicate 64 0
def getL (s : PSt) (a : Int) : Nat → List UInt8
  | 0 => []
  | i + 1 => getL s a i ++ secL s (a * 8 + i)
end Go.Proofs.YtajndpddlpnbkaaGreatDoor.V
namespace Go.Proofs.YtajndpddlpnbkaaGreatDoor.V
open Go.Proofs.YtajndpddlpnbkaaGreatDoor.VL Go.Proofs.YtajndpddlpnbkaaGreatDoor.VL.RD Go.Proofs.YtajndpddlpnbkaaGreatDoor.VL.Sha
attribute [local irreducible] Run numB
/-- A device that is as it should be; no more was done with it than n steps. -/
structure PW (n : Nat) (s : PSt) : Prop where
  wf : WF s
  s64 : S64 s
  nr : s.reads ≤ n
  nw : s.writes ≤ n
  nc : s.cache.length ≤ n
theorem PW.mono {n m : Nat} {s : PSt} (h : PW n s) (hm : n ≤ m) : PW m s := ⟨h.wf, h.s64, by have := h.nr; omega, by have := h.nw; omega, Nat.le_trans h.nc hm⟩
theorem PW.blank (n : Nat) (h : n ≤ 32768) : PW 0 (blank n) := by
  refine ⟨blank_wf n h, ⟨by simp [V.blank], ?_⟩, by simp [V.blank], by simp [V.blank], by simp [V.blank]⟩
  intro x hx
  have : x = ⟨#[]⟩ := (List.mem_replicate.1 hx).2
  subst this; exact .inl rfl
theorem PW.write {n : Nat} {s : PSt} (h : PW n s) (a : Int) (t : ByteArray) (hn : n < 1000000000) : PW (n + 1) (writeF s a t).2 := by
  unfold writeF
  have nr := h.nr
  have nw := h.nw
  have nc := h.nc
  have hw := h.wf.writes
  have hf := h.wf.fuse
  have hm := h.mono (Nat.le_succ n)
  by_cases h0 : (t.size : Int) ≠ 64
  · rw [if_pos h0]; exact hm
  rw [if_neg h0]
  by_cases h1 : s.down = true
  · rw [if_pos h1]; exact hm
  rw [if_neg h1]
  by_cases h2 : a < 0 ∨ s.sectors ≤ a
  · rw [if_pos h2]; exact hm
  rw [if_neg h2]
  by_cases h3 : s.fuse = 0
  · rw [if_pos h3]
    exact ⟨⟨h.wf.held, h.wf.dumb, h.wf.sec, h.wf.cache, h.wf.size, h.wf.reads, h.wf.writes, h.wf.fuse⟩, ⟨h.s64.cache, h.s64.held⟩, hm.nr, hm.nw, hm.nc⟩
  rw [if_neg h3]
  have hfu : -1 ≤ (if 0 < s.fuse then s.fuse - 1 else s.fuse) ∧ (if 0 < s.fuse then s.fuse - 1 else s.fuse) ≤ 9223372036854775807 := by split <;> omega
  generalize (if 0 < s.fuse then s.fuse - 1 else s.fuse) = fu at hfu
  refine ⟨⟨h.wf.held, h.wf.dumb, h.wf.sec, ?_, ?_, h.wf.reads, ⟨by show 0 ≤ s.writes + 1; omega, by show s.writes + 1 ≤ _; omega⟩, hfu⟩, ⟨?_, h.s64.held⟩, hm.nr, by show s.writes + 1 ≤ _; omega, ?_⟩
  · intro x hx
    rcases List.mem_append.1 hx with hx | hx
    · exact h.wf.cache x hx
    · obtain rfl : x = (a, t) := by simpa using hx
      show 0 ≤ a ∧ a < s.sectors
      omega
  · show (s.cache ++ [(a, t)]).length ≤ _
    rw [List.length_append, List.length_singleton]; omega
  · intro x hx
    rcases List.mem_append.1 hx with hx | hx
    · exact h.s64.cache x hx
    · obtain rfl : x = (a, t) := by simpa using hx
      show t.size = 64
      omega
  · show (s.cache ++ [(a, t)]).length ≤ _
    rw [List.length_append, List.length_singleton]; omega
theorem writeF_sectors (s : PSt) (a : Int) (t : ByteArray) : (writeF s a t).2.sectors = s.sectors := by
  unfold writeF
  repeat' split
  all_goals rfl
/-- A block's sector. -/
def secT (raw : ByteArray) (i : Nat) : ByteArray := raw.extract (64 * i) (64 * i + 64)
/-- So many sectors are written, up to the first that fails. -/
def wrN (s : PSt) (base : Int) (raw : ByteArray) : Nat → Int × PSt
  | 0 => (0, s)
  | i + 1 => if (wrN s base raw i).1 = 0 then writeF (wrN s base raw i).2 (base + i) (secT raw i) else wrN s base raw i
theorem wrN_pw {n : Nat} {s : PSt} (h : PW n s) (hn : n < 1000000) (base : Int) (raw : ByteArray) (i : Nat) (hi : i ≤ 8) : PW (n + i) (wrN s base raw i).2 ∧ (wrN s base raw i).2.sectors = s.sectors := by
  induction i with
  | zero => exact ⟨h, rfl⟩
  | succ i ih =>
    have ih := ih (by omega)
    show PW (n + (i + 1)) (if (wrN s base raw i).1 = 0 then writeF (wrN s base raw i).2 (base + i) (secT raw i) else wrN s base raw i).2 ∧ (if (wrN s base raw i).1 = 0 then writeF (wrN s base raw i).2 (base + i) (secT raw i) else wrN s base raw i).2.sectors = s.sectors
    split
    · exact ⟨ih.1.write _ _ (by omega), by rw [writeF_sectors]; exact ih.2⟩
    · exact ⟨ih.1.mono (by omega), ih.2⟩
theorem wrN_stop (s : PSt) (base : Int) (raw : ByteArray) (i j : Nat) (hij : i ≤ j) (h : (wrN s base raw i).1 ≠ 0) : wrN s base raw j = wrN s base raw i := by
  induction j with
  | zero => rw [show i = 0 by omega]
  | succ j ih =>
    by_cases e : i = j + 1
    · rw [e]
    · have := ih (by omega)
      show (if (wrN s base raw j).1 = 0 then _ else wrN s base raw j) = _
      rw [if_neg (by rw [this]; exact h), this]
def faultV (e : Int) (f : Nat) : Value := if e = 0 then .nilIface else .iface 115 (.pointer (some ⟨f, 0, none⟩))
def faultC (e a : Int) (f : Nat) : HProp := if e = 0 then star [] else cells f 117 ⟨[.int .i64 a, .int .i64 e]⟩
theorem blay_spec (q : View) (b : Nat) (s : PSt) (n : Nat) (hw : PW n s) (hn : n < 1000000) (a : Int) (h0 : 0 ≤ a) (h1 : a < s.sectors / 8) (raw : ByteArray) (hr : raw.size = 512) :
    FnX Tryz.prog q 38 [.pointer (some ⟨b, 0, none⟩), .int .i64 a, .string raw] [plateAt b s] (fun f : Nat => faultV (wrN s (a * 8) raw 8).1 f) fun f => [plateAt b (wrN s (a * 8) raw 8).2, faultC (wrN s (a * 8) raw 8).1 a f] := by
  have hsec := hw.wf.sec
  (first | refine FnD.go Tryz.call38 Tryz.func38 rfl rfl rfl ?_ | refine FnX.go Tryz.call38 Tryz.func38 rfl rfl rfl ?_)
  (repeat (first | refine g ?_))
  refine run_loopI (X := Nat) (fun i => i ≤ 8 ∧ (wrN s (a * 8) raw i).1 = 0) (fun i => [(0, .pointer (some ⟨b, 0, none⟩)), (1, .int .i64 a), (2, .string raw), (9, .int .i64 (i : Int))])
    (fun i => [plateAt b (wrN s (a * 8) raw i).2]) (fun i => 8 - i) 0 ⟨Nat.zero_le _, rfl⟩ fct shut ?_
  intro i ⟨hi, hz⟩
  have hp := wrN_pw hw hn (a * 8) raw i hi
  by_cases h8 : i < 8
  · have eF : raw.extract ((i : Int) * 64).toNat (((i : Int) + 1) * 64).toNat = secT raw i := by
      unfold secT
      rw [show ((i : Int) * 64).toNat = 64 * i by omega, show (((i : Int) + 1) * 64).toNat = 64 * i + 64 by omega]
    have eN : wrN s (a * 8) raw (i + 1) = writeF (wrN s (a * 8) raw i).2 (a * 8 + i) (secT raw i) := by show (if _ then _ else _) = _; rw [if_pos hz]
    have cw := write_spec q b (wrN s (a * 8) raw i).2 hp.1.wf (a * 8 + i) (raw.extract ((i : Int) * 64).toNat (((i : Int) + 1) * 64).toNat)
    rw [show writeF (wrN s (a * 8) raw i).2 (a * 8 + i) (raw.extract ((i : Int) * 64).toNat (((i : Int) + 1) * 64).toNat) = wrN s (a * 8) raw (i + 1) by rw [eF, eN]] at cw
    by_cases he : (wrN s (a * 8) raw (i + 1)).1 = 0
    · rw [he] at cw
      (repeat (first | refine g ?_))
      refine s_call cw ?_
      (repeat (first | refine g ?_))
      exact run_stop_loop (i + 1) ⟨⟨by omega, he⟩, by omega⟩ fct shut
    · have e8 := wrN_stop s (a * 8) raw (i + 1) 8 (by omega) he
      rw [e8]
      generalize hR : wrN s (a * 8) raw (i + 1) = R at *
      obtain ⟨e, s'⟩ := R
      dsimp only at he cw ⊢
      (repeat (first | refine g ?_))
      refine s_call cw ?_
      (repeat (first | refine g ?_))
      refine s_box fun f => ?_
      (repeat (first | refine g ?_))
      refine s_mki ?_
      (repeat (first | refine g ?_))
      refine run_ret rfl (imp_RX f ?_ ?_)
      · unfold faultV; rw [if_neg he]
      · unfold faultC; rw [if_neg he]; exact shut
  · obtain rfl : i = 8 := by omega
    rw [hz]
    (repeat (first | refine g ?_))
    refine run_ret rfl (imp_RX 0 ?_ ?_)
    · rfl
    · unfold faultC; rw [if_pos rfl]; apply imp_pick; (repeat (first | (with_reducible exact Pull.head) | apply Pull.tail)); exact imp_star (Imp.refl _)
def bputF (s : PSt) (a : Int) (raw : ByteArray) : Int × PSt := if raw.size ≠ 512 then (1, s) else if a < 0 ∨ s.sectors / 8 ≤ a then (2, s) else wrN s (a * 8) raw 8
theorem bput_spec (q : View) (hE : ErrQ q) (b : Nat) (s : PSt) (n : Nat) (hw : PW n s) (hn : n < 1000000) (a : Int) (raw : ByteArray) (hz : raw.size ≤ 140737488355328) :
    FnD Tryz.prog q 11 [.pointer (some ⟨b, 0, none⟩), .int .i64 a, .string raw] [plateAt b s] (.int .i64 (bputF s a raw).1) [plateAt b (bputF s a raw).2] := by
  have hsec := hw.wf.sec
  have hh := hw.wf.held
  have cb := blocks_spec q b s hw.wf
  by_cases h512 : raw.size ≠ 512
  · rw [show bputF s a raw = (1, s) from by unfold bputF; rw [if_pos h512]]
    (first | refine FnD.go Tryz.call11 Tryz.func11 rfl rfl rfl ?_ | refine FnX.go Tryz.call11 Tryz.func11 rfl rfl rfl ?_)
    (repeat (first | refine g ?_))
    exact run_ret rfl (imp_RD rfl shut)
  by_cases ha : a < 0
  · rw [show bputF s a raw = (2, s) from by unfold bputF; rw [if_neg h512, if_pos (.inl ha)]]
    (first | refine FnD.go Tryz.call11 Tryz.func11 rfl rfl rfl ?_ | refine FnX.go Tryz.call11 Tryz.func11 rfl rfl rfl ?_)
    (repeat (first | refine g ?_))
    exact run_ret rfl (imp_RD rfl shut)
  by_cases ha2 : s.sectors / 8 ≤ a
  · rw [show bputF s a raw = (2, s) from by unfold bputF; rw [if_neg h512, if_pos (.inr ha2)]]
    (first | refine FnD.go Tryz.call11 Tryz.func11 rfl rfl rfl ?_ | refine FnX.go Tryz.call11 Tryz.func11 rfl rfl rfl ?_)
    (repeat (first | refine g ?_))
    refine s_call cb ?_
    (repeat (first | refine g ?_))
    exact run_ret rfl (imp_RD rfl shut)
  have h512 : raw.size = 512 := Decidable.not_not.1 h512
  rw [show bputF s a raw = wrN s (a * 8) raw 8 from by unfold bputF; rw [if_neg (by omega), if_neg (by omega)]]
  have cl := blay_spec q b s n hw hn a (by omega) (by omega) raw h512
  generalize wrN s (a * 8) raw 8 = R at cl ⊢
  obtain ⟨e, s'⟩ := R
  dsimp only at cl ⊢
  by_cases he : e = 0
  · subst he
    have cn := number_nil q
    (first | refine FnD.go Tryz.call11 Tryz.func11 rfl rfl rfl ?_ | refine FnX.go Tryz.call11 Tryz.func11 rfl rfl rfl ?_)
    (repeat (first | refine g ?_))
    refine s_call cb ?_
    (repeat (first | refine g ?_))
    refine s_callx cl fun f => ?_
    unfold faultV faultC
    rw [if_pos rfl, if_pos rfl]
    (repeat (first | refine g ?_))
    refine s_call cn ?_
    (repeat (first | refine g ?_))
    exact run_ret rfl (imp_RD rfl shut)
  · have cn := fun f => number_spec q hE f a e
    (first | refine FnD.go Tryz.call11 Tryz.func11 rfl rfl rfl ?_ | refine FnX.go Tryz.call11 Tryz.func11 rfl rfl rfl ?_)
    (repeat (first | refine g ?_))
    refine s_call cb ?_
    (repeat (first | refine g ?_))
    refine s_callx cl fun f => ?_
    unfold faultV faultC
    rw [if_neg he, if_neg he]
    (repeat (first | refine g ?_))
    refine s_call (cn f) ?_
    (repeat (first | refine g ?_))
    exact run_ret rfl (imp_RD rfl shut)
end Go.Proofs.YtajndpddlpnbkaaGreatDoor.V
namespace Go.Proofs.YtajndpddlpnbkaaGreatDoor.V
open Go.Proofs.YtajndpddlpnbkaaGreatDoor.VL Go.Proofs.YtajndpddlpnbkaaGreatDoor.VL.RD Go.Proofs.YtajndpddlpnbkaaGreatDoor.VL.Sha
attribute [local irreducible] Run numB
end Go.Proofs.YtajndpddlpnbkaaGreatDoor.V
namespace Go.Proofs.YtajndpddlpnbkaaGreatDoor.V
open Go.Proofs.YtajndpddlpnbkaaGreatDoor.VL Go.Proofs.YtajndpddlpnbkaaGreatDoor.VL.RD Go.Proofs.YtajndpddlpnbkaaGreatDoor.VL.Sha
attribute [local irreducible] Run numB
def qwrN (s : QSt) (base : Int) (raw : ByteArray) : Nat → Int × QSt
  | 0 => (0, s)
  | i + 1 => if (qwrN s base raw i).1 = 0 then qWriteF (qwrN s base raw i).2 (base + i) (secT raw i) else qwrN s base raw i
theorem qwrN_stop (s : QSt) (base : Int) (raw : ByteArray) (i j : Nat) (hij : i ≤ j) (h : (qwrN s base raw i).1 ≠ 0) : qwrN s base raw j = qwrN s base raw i := by
  induction j with
  | zero => rw [show i = 0 by omega]
  | succ j ih =>
    by_cases e : i = j + 1
    · rw [e]
    · have := ih (by omega)
      show (if (qwrN s base raw j).1 = 0 then _ else qwrN s base raw j) = _
      rw [if_neg (by rw [this]; exact h), this]
/-- Both devices take a block alike. -/
theorem Both.wrN {n : Nat} {s : PSt} {t : QSt} (h : Both n s t) (hn : n < 100000) (base : Int) (raw : ByteArray) (i : Nat) (hi : i ≤ 8) :
    (qwrN t base raw i).1 = (V.wrN s base raw i).1 ∧ Both (n + i) (V.wrN s base raw i).2 (qwrN t base raw i).2 ∧ (V.wrN s base raw i).2.sectors = s.sectors := by
  induction i with
  | zero => exact ⟨rfl, h, rfl⟩
  | succ i ih =>
    obtain ⟨h1, h2, h3⟩ := ih (by omega)
    show (if (qwrN t base raw i).1 = 0 then qWriteF (qwrN t base raw i).2 (base + i) (secT raw i) else qwrN t base raw i).1 = (if (V.wrN s base raw i).1 = 0 then writeF (V.wrN s base raw i).2 (base + i) (secT raw i) else V.wrN s base raw i).1 ∧
      Both (n + (i + 1)) (if (V.wrN s base raw i).1 = 0 then writeF (V.wrN s base raw i).2 (base + i) (secT raw i) else V.wrN s base raw i).2 (if (qwrN t base raw i).1 = 0 then qWriteF (qwrN t base raw i).2 (base + i) (secT raw i) else qwrN t base raw i).2 ∧
      (if (V.wrN s base raw i).1 = 0 then writeF (V.wrN s base raw i).2 (base + i) (secT raw i) else V.wrN s base raw i).2.sectors = s.sectors
    rw [h1]
    by_cases hz : (V.wrN s base raw i).1 = 0
    · rw [if_pos hz, if_pos hz]
      have := h2.write (base + i) (secT raw i) (by omega)
      exact ⟨this.1, this.2, by rw [writeF_sectors]; exact h3⟩
    · rw [if_neg hz, if_neg hz]
      exact ⟨h1, h2.mono (by omega), h3⟩
def qbputF (s : QSt) (a : Int) (raw : ByteArray) : Int × QSt := if raw.size ≠ 512 then (1, s) else if a < 0 ∨ (s.kept.length : Int) / 8 ≤ a then (2, s) else qwrN s (8 * a) raw 8
theorem Both.bput {n : Nat} {s : PSt} {t : QSt} (h : Both n s t) (hn : n < 100000) (a : Int) (raw : ByteArray) : (qbputF t a raw).1 = (bputF s a raw).1 ∧ Both (n + 8) (bputF s a raw).2 (qbputF t a raw).2 := by
  unfold qbputF bputF
  rw [← h.sec]
  by_cases h0 : raw.size ≠ 512
  · rw [if_pos h0, if_pos h0]; exact ⟨rfl, h.mono (by omega)⟩
  rw [if_neg h0, if_neg h0]
  by_cases h2 : a < 0 ∨ s.sectors / 8 ≤ a
  · rw [if_pos h2, if_pos h2]; exact ⟨rfl, h.mono (by omega)⟩
  rw [if_neg h2, if_neg h2, Int.mul_comm 8 a]
  have := h.wrN hn (a * 8) raw 8 (by omega)
  exact ⟨this.1, this.2.1⟩
theorem qbput_spec (q : View) (b : Nat) (s : PSt) (t : QSt) (n : Nat) (h : Both n s t) (hn : n < 100000) (a : Int) (raw : ByteArray) (hz : raw.size ≤ 140737488355328) :
    FnD Tryz.prog q 12 [.pointer (some ⟨b, 0, none⟩), .int .i64 a, .string raw] [qAt b t] (.int .i64 (qbputF t a raw).1) [qAt b (qbputF t a raw).2] := by
  have hsec := h.qw.sec
  by_cases h512 : raw.size ≠ 512
  · rw [show qbputF t a raw = (1, t) from by unfold qbputF; rw [if_pos h512]]
    (first | refine FnD.go Tryz.call12 Tryz.func12 rfl rfl rfl ?_ | refine FnX.go Tryz.call12 Tryz.func12 rfl rfl rfl ?_)
    (repeat (first | refine g ?_))
    exact run_ret rfl (imp_RD rfl shut)
  by_cases ha : a < 0
  · rw [show qbputF t a raw = (2, t) from by unfold qbputF; rw [if_neg h512, if_pos (.inl ha)]]
    (first | refine FnD.go Tryz.call12 Tryz.func12 rfl rfl rfl ?_ | refine FnX.go Tryz.call12 Tryz.func12 rfl rfl rfl ?_)
    (repeat (first | refine g ?_))
    exact run_ret rfl (imp_RD rfl shut)
  by_cases ha2 : (t.kept.length : Int) / 8 ≤ a
  · rw [show qbputF t a raw = (2, t) from by unfold qbputF; rw [if_neg h512, if_pos (.inr ha2)]]
    (first | refine FnD.go Tryz.call12 Tryz.func12 rfl rfl rfl ?_ | refine FnX.go Tryz.call12 Tryz.func12 rfl rfl rfl ?_)
    (repeat (first | refine g ?_))
    refine run_q fun pk ck pd cd pw cw => ?_
    unfold qParts
    (repeat (first | refine g ?_))
    exact run_ret rfl (imp_RD rfl (imp_q shut))
  have h512 : raw.size = 512 := Decidable.not_not.1 h512
  rw [show qbputF t a raw = qwrN t (8 * a) raw 8 from by unfold qbputF; rw [if_neg (by omega), if_neg (by omega)]]
  (first | refine FnD.go Tryz.call12 Tryz.func12 rfl rfl rfl ?_ | refine FnX.go Tryz.call12 Tryz.func12 rfl rfl rfl ?_)
  (repeat (first | refine g ?_))
  refine run_q fun pk ck pd cd pw cw => ?_
  unfold qParts
  (repeat (first | refine g ?_))
  refine run_loopI (X := Nat) (fun i => i ≤ 8 ∧ (qwrN t (8 * a) raw i).1 = 0) (fun i => [(0, .pointer (some ⟨b, 0, none⟩)), (1, .int .i64 a), (2, .string raw), (7, .int .i64 (i : Int))])
    (fun i => [qAt b (qwrN t (8 * a) raw i).2]) (fun i => 8 - i) 0 ⟨Nat.zero_le _, rfl⟩ fct (imp_q shut) ?_
  intro i ⟨hi, hz⟩
  have hp := h.wrN hn (8 * a) raw i hi
  by_cases h8 : i < 8
  · have eF : raw.extract (64 * (i : Int)).toNat (64 * (i : Int) + 64).toNat = secT raw i := by
      unfold secT
      rw [show (64 * (i : Int)).toNat = 64 * i by omega, show (64 * (i : Int) + 64).toNat = 64 * i + 64 by omega]
    have eN : qwrN t (8 * a) raw (i + 1) = qWriteF (qwrN t (8 * a) raw i).2 (8 * a + i) (secT raw i) := by show (if _ then _ else _) = _; rw [if_pos hz]
    have cw := qwrite_spec q b (qwrN t (8 * a) raw i).2 hp.2.1.qw (8 * a + i) (raw.extract (64 * (i : Int)).toNat (64 * (i : Int) + 64).toNat)
    rw [show qWriteF (qwrN t (8 * a) raw i).2 (8 * a + i) (raw.extract (64 * (i : Int)).toNat (64 * (i : Int) + 64).toNat) = qwrN t (8 * a) raw (i + 1) by rw [eF, eN]] at cw
    by_cases he : (qwrN t (8 * a) raw (i + 1)).1 = 0
    · rw [he] at cw
      (repeat (first | refine g ?_))
      refine s_call cw ?_
      (repeat (first | refine g ?_))
      exact run_stop_loop (i + 1) ⟨⟨by omega, he⟩, by omega⟩ fct shut
    · have e8 := qwrN_stop t (8 * a) raw (i + 1) 8 (by omega) he
      rw [e8]
      generalize hR : qwrN t (8 * a) raw (i + 1) = R at *
      obtain ⟨e, s'⟩ := R
      dsimp only at he cw ⊢
      (repeat (first | refine g ?_))
      refine s_call cw ?_
      (repeat (first | refine g ?_))
      exact run_ret rfl (imp_RD rfl shut)
  · obtain rfl : i = 8 := by omega
    rw [hz]
    (repeat (first | refine g ?_))
    exact run_ret rfl (imp_RD rfl shut)
end Go.Proofs.YtajndpddlpnbkaaGreatDoor.V
namespace Go.Proofs.YtajndpddlpnbkaaGreatDoor.V
open Go.Proofs.YtajndpddlpnbkaaGreatDoor.VL Go.Proofs.YtajndpddlpnbkaaGreatDoor.VL.RD Go.Proofs.YtajndpddlpnbkaaGreatDoor.VL.Sha
attribute [local irreducible] Run numB
end Go.Proofs.YtajndpddlpnbkaaGreatDoor.V
namespace Go.Proofs.YtajndpddlpnbkaaGreatDoor.V
open Go.Proofs.YtajndpddlpnbkaaGreatDoor.VL Go.Proofs.YtajndpddlpnbkaaGreatDoor.VL.RD Go.Proofs.YtajndpddlpnbkaaGreatDoor.VL.Sha
attribute [local irreducible] Run numB
structure MarkT where
  kind : Int
  at_ : Int
  v : Int
def encM (x : MarkT) : List Value := [.int .i64 x.kind, .int .i64 x.at_, .int .u8 x.v]
structure MarkOk (x : MarkT) : Prop where
  k0 : -9223372036854775808 ≤ x.kind
  k1 : x.kind ≤ 9223372036854775807
  a0 : -9223372036854775808 ≤ x.at_
  a1 : x.at_ ≤ 9223372036854775807
  v0 : 0 ≤ x.v
  v1 : x.v ≤ 255
def MarksQ (q : View) (p : Option Addr) (l : List MarkT) : Prop := RowQ q p l.length 3 (l.flatMap encM) ∧ ∀ x ∈ l, MarkOk x
theorem enc3 (l : List MarkT) (i : Nat) (x : MarkT) (h : l[i]? = some x) (j : Nat) (hj : j < 3) : (l.flatMap encM)[i * 3 + j]? = (encM x)[j]? := by
  induction l generalizing i with
  | nil => cases h
  | cons y l ih =>
    rw [List.flatMap_cons]
    have e5 : (encM y).length = 3 := rfl
    cases i with
    | zero =>
      obtain rfl := Option.some.inj h
      rw [List.getElem?_append_left (by omega)]; congr 1; omega
    | succ i =>
      rw [List.getElem?_append_right (by omega), e5, show (i + 1) * 3 + j - 3 = i * 3 + j by omega]
      exact ih i h
theorem enc3_len (l : List MarkT) : (l.flatMap encM).length = l.length * 3 := by
  induction l with
  | nil => rfl
  | cons y l ih => rw [List.flatMap_cons, List.length_append, ih, List.length_cons]; show 3 + _ = _; omega
theorem enc3_all (l : List MarkT) (i : Nat) (x : MarkT) (h : l[i]? = some x) : ((l.flatMap encM).drop (i * 3)).take 3 = encM x := by
  apply List.ext_getElem?
  intro j
  have hl := (List.getElem?_eq_some_iff.1 h).1
  rw [List.getElem?_take, List.getElem?_drop]
  split
  · rename_i hj; exact enc3 l i x h j hj
  · rename_i hj; rw [List.getElem?_eq_none]; show 3 ≤ j; omega
theorem both_blank (n : Nat) (hn : n ≤ 32768) : Both 0 (blank n) (qBlank n) := by
  have l1 : (List.replicate n zeros64).length = n := List.length_replicate
  refine ⟨blank_wf n hn, by show (n : Int) = ((List.replicate n zeros64).length : Int); rw [l1], ?_, rfl, rfl, rfl, rfl, rfl, by simp [blank], Int.le_refl 0, Int.le_refl 0, Nat.le_refl 0⟩
  show Kin (List.replicate n zeros64).length (List.replicate n ⟨#[]⟩, List.replicate n false) (List.replicate n zeros64, List.replicate n false)
  rw [l1]
  refine ⟨List.length_replicate, l1, List.length_replicate, rfl, fun j hj _ => ?_⟩
  show eff (List.replicate n ⟨#[]⟩) j = (List.replicate n zeros64).getD j ⟨#[]⟩
  unfold eff
  rw [List.getD_eq_getElem?_getD, List.getD_eq_getElem?_getD, List.getElem?_replicate, List.getElem?_replicate, if_pos hj, if_pos hj]
  rfl
theorem mem_setX {α : Type} {l : List α} {i : Nat} {x y : α} (h : y ∈ l.set i x) : y = x ∨ y ∈ l := by
  rcases List.mem_or_eq_of_mem_set h with h | h
  · exact .inr h
  · exact .inl h
theorem PW.lay {n : Nat} {s : PSt} (h : PW n s) (a : Int) (t : ByteArray) : PW n (layF s a t).2 := by
  unfold layF
  by_cases h0 : (t.size : Int) ≠ 64
  · rw [if_pos h0]; exact h
  rw [if_neg h0]
  by_cases h2 : a < 0 ∨ s.sectors ≤ a
  · rw [if_pos h2]; exact h
  rw [if_neg h2]
  have hh := h.wf.held
  have hd := h.wf.dumb
  refine ⟨⟨by show ((s.held.set _ _).length : Int) = _; rw [List.length_set]; exact hh, by show ((s.dumb.set _ _).length : Int) = _; rw [List.length_set]; exact hd, h.wf.sec, h.wf.cache, h.wf.size, h.wf.reads, h.wf.writes, h.wf.fuse⟩, ⟨h.s64.cache, fun x hx => ?_⟩, h.nr, h.nw, h.nc⟩
  rcases mem_setX hx with e | hx
  · exact .inr (by rw [e]; show t.size = 64; omega)
  · exact h.s64.held x hx
theorem PW.spoil {n : Nat} {s : PSt} (h : PW n s) (a : Int) : PW n (spoilF s a).2 := by
  unfold spoilF
  by_cases h2 : a < 0 ∨ s.sectors ≤ a
  · rw [if_pos h2]; exact h
  rw [if_neg h2]
  have hh := h.wf.held
  have hd := h.wf.dumb
  refine ⟨⟨by show ((s.held.set _ _).length : Int) = _; rw [List.length_set]; exact hh, by show ((s.dumb.set _ _).length : Int) = _; rw [List.length_set]; exact hd, h.wf.sec, h.wf.cache, h.wf.size, h.wf.reads, h.wf.writes, h.wf.fuse⟩, ⟨h.s64.cache, fun x hx => ?_⟩, h.nr, h.nw, h.nc⟩
  rcases mem_setX hx with e | hx
  · exact .inl (by rw [e]; rfl)
  · exact h.s64.held x hx
theorem PW.arm {n : Nat} {s : PSt} (h : PW n s) (a : Int) (ha : a ≤ 9223372036854775807) : PW n (armF s a).2 := by
  unfold armF
  by_cases h0 : a < 0
  · rw [if_pos h0]; exact h
  rw [if_neg h0]
  by_cases h1 : s.down = true
  · rw [if_pos h1]; exact h
  rw [if_neg h1]
  exact ⟨⟨h.wf.held, h.wf.dumb, h.wf.sec, h.wf.cache, h.wf.size, h.wf.reads, h.wf.writes, ⟨by show -1 ≤ a; omega, ha⟩⟩, ⟨h.s64.cache, h.s64.held⟩, h.nr, h.nw, h.nc⟩
theorem layF_sectors (s : PSt) (a : Int) (t : ByteArray) : (layF s a t).2.sectors = s.sectors := by
  unfold layF
  repeat' split
  all_goals rfl
theorem spoilF_sectors (s : PSt) (a : Int) : (spoilF s a).2.sectors = s.sectors := by
  unfold spoilF
  repeat' split
  all_goals rfl
def markS (s : PSt) (m : MarkT) : PSt := if m.kind = 1 then (layF s m.at_ (bytesF m.v 64)).2 else if m.kind = 2 then (spoilF s m.at_).2 else if m.kind = 3 then (writeF s m.at_ (bytesF m.v 64)).2 else s
def markQ (t : QSt) (m : MarkT) : QSt := if m.kind = 1 then (qLayF t m.at_ (bytesF m.v 64)).2 else if m.kind = 2 then (qSpoilF t m.at_).2 else if m.kind = 3 then (qWriteF t m.at_ (bytesF m.v 64)).2 else t
theorem PW.mark {n : Nat} {s : PSt} (h : PW n s) (hn : n < 1000) (m : MarkT) : PW (n + 1) (markS s m) := by
  unfold markS
  repeat' split
  · exact (h.lay _ _).mono (Nat.le_succ _)
  · exact (h.spoil _).mono (Nat.le_succ _)
  · exact h.write _ _ (by omega)
  · exact h.mono (Nat.le_succ _)
theorem Both.mark {n : Nat} {s : PSt} {t : QSt} (h : Both n s t) (hn : n < 1000) (m : MarkT) : Both (n + 1) (markS s m) (markQ t m) := by
  unfold markS markQ
  repeat' split
  · exact (h.lay _ _).2.mono (Nat.le_succ _)
  · exact (h.spoil _).2.mono (Nat.le_succ _)
  · exact (h.write _ _ (by omega)).2
  · exact h.mono (Nat.le_succ _)
theorem markS_sectors (s : PSt) (m : MarkT) : (markS s m).sectors = s.sectors := by
  unfold markS
  repeat' split
  · exact layF_sectors _ _ _
  · exact spoilF_sectors _ _
  · exact writeF_sectors _ _ _
  · rfl
/-- Both devices, behind their marks. -/
structure Twin (n : Nat) (k : Nat) (s : PSt) (t : QSt) : Prop where
  both : Both n s t
  pw : PW n s
  sec : s.sectors = k
theorem both_bad (q : View) (n : Int) (h : n < 0 ∨ 32768 < n) (v : Value) : FnD Tryz.prog q 7 [.int .i64 n, v] [] (.tuple #[.pointer none, .pointer none]) [] := by
  (first | refine FnD.go Tryz.call7 Tryz.func7 rfl rfl rfl ?_ | refine FnX.go Tryz.call7 Tryz.func7 rfl rfl rfl ?_)
  (repeat (first | refine g ?_))
  refine s_call (new_bad q n h) ?_
  (repeat (first | refine g ?_))
  refine s_call (qnew_bad q n h) ?_
  (repeat (first | refine g ?_))
  exact run_ret rfl (imp_RD rfl shut)
theorem both_spec (q : View) (n : Nat) (hn : n ≤ 32768) (sp : Option Addr) (sc : Nat) (l : List MarkT) (hs : MarksQ q sp l) (hl : l.length ≤ 9223372036854775807) :
    FnX Tryz.prog q 7 [.int .i64 (n : Int), .slice sp l.length sc] [] (fun x : (Nat × Nat) × {y : PSt × QSt // Twin 40 n y.1 y.2} => .tuple #[.pointer (some ⟨x.1.1, 0, none⟩), .pointer (some ⟨x.1.2, 0, none⟩)]) fun x => [plateAt x.1.1 x.2.1.1, qAt x.1.2 x.2.1.2] := by
  (first | refine FnD.go Tryz.call7 Tryz.func7 rfl rfl rfl ?_ | refine FnX.go Tryz.call7 Tryz.func7 rfl rfl rfl ?_)
  (repeat (first | refine g ?_))
  refine s_callx (new_spec q n hn) fun b => ?_
  (repeat (first | refine g ?_))
  refine s_callx (qnew_spec q n hn) fun c => ?_
  (repeat (first | refine g ?_))
  refine run_cutI (X := PSt × QSt) (fun x => Twin 40 n x.1 x.2) (fun x => [(6, .pointer (some ⟨b, 0, none⟩)), (8, .pointer (some ⟨c, 0, none⟩))]) (fun x => [plateAt b x.1, qAt c x.2]) ?_ fun ⟨s, t⟩ hT => ?_
  · refine run_loopI (X := Nat × PSt × QSt) (fun x => (x.1 ≤ l.length ∧ x.1 ≤ 40) ∧ Twin x.1 n x.2.1 x.2.2) (fun x => [(1, .slice sp l.length sc), (6, .pointer (some ⟨b, 0, none⟩)), (8, .pointer (some ⟨c, 0, none⟩)), (10, .int .i64 (x.1 : Int))])
      (fun x => [plateAt b x.2.1, qAt c x.2.2]) (fun x => l.length - x.1) (0, blank n, qBlank n) ⟨⟨Nat.zero_le _, Nat.zero_le _⟩, both_blank n hn, PW.blank n hn, rfl⟩ fct shut ?_
    intro ⟨i, s, t⟩ ⟨⟨hi, hi40⟩, hT⟩
    dsimp only at *
    by_cases h1 : i < l.length
    · by_cases h2 : i < 40
      · obtain ⟨x, hx⟩ : ∃ x, l[i]? = some x := ⟨_, List.getElem?_eq_getElem h1⟩
        have hxo := hs.2 x (List.mem_of_getElem? hx)
        obtain ⟨bs, os, ep, ho⟩ := hs.1.old (by omega)
        subst ep
        have hxa := enc3_all l i x hx
        have hxl := enc3_len l
        have hT' : Twin (i + 1) n (markS s x) (markQ t x) := ⟨hT.both.mark (by omega) x, hT.pw.mark (by omega) x, by rw [markS_sectors]; exact hT.sec⟩
        (repeat (first | refine g ?_))
        refine s_idxo (kk := 3) (os + i * 3) ?_
        refine s_loadao (j := i * 3) ho hxa (by rw [hxl]; omega) (by omega) ?_
        (repeat (first | refine g ?_))
        refine s_alloc fun rm => ?_
        (repeat (first | refine g ?_))
        refine s_made 1 64 64 fun r => ?_
        rw [zeroL_one _ rfl]
        (repeat (first | refine g ?_))
        refine run_loopI (X := Nat) (fun k => k ≤ 64) (fun k => [(1, .slice (some ⟨bs, os, none⟩) l.length sc), (6, .pointer (some ⟨b, 0, none⟩)), (8, .pointer (some ⟨c, 0, none⟩)), (10, .int .i64 (i : Int)), (11, .pointer (some ⟨rm, 0, none⟩)), (12, .slice (some ⟨r, 0, none⟩) 64 64), (13, .int .i64 (k : Int))])
          (fun k => [plateAt b s, qAt c t, cells rm 71 ⟨[.int .i64 x.kind, .int .i64 x.at_, .int .u8 x.v]⟩, cells r 5 ⟨List.replicate k (.int .u8 x.v) ++ List.replicate (64 - k) (.int .u8 0)⟩]) (fun k => 64 - k) 0 (Nat.zero_le _) fct ?_ ?_
        · rw [List.replicate_zero, List.nil_append, Nat.sub_zero]
          exact shut
        intro k hk
        by_cases h3 : k < 64
        · (repeat (first | refine g ?_))
          refine s_storeset ?_
          (repeat (first | refine g ?_))
          refine run_stop_loop (k + 1) ⟨h3, by omega⟩ fct ?_
          rw [set_fill 64 k (.int .u8 x.v) (.int .u8 0) h3]
          exact shut
        · obtain rfl : k = 64 := by omega
          have c1 := lay_spec q b s hT.pw.wf x.at_ (bytesF x.v 64)
          have d1 := qlay_spec q c t hT.both.qw x.at_ (bytesF x.v 64)
          have c2 := spoil_spec q b s hT.pw.wf x.at_
          have d2 := qspoil_spec q c t hT.both.qw x.at_
          have c3 := write_spec q b s hT.pw.wf x.at_ (bytesF x.v 64)
          have d3 := qwrite_spec q c t hT.both.qw x.at_ (bytesF x.v 64)
          by_cases k1 : x.kind = 1
          · have eS : markS s x = (layF s x.at_ (bytesF x.v 64)).2 := by unfold markS; rw [if_pos k1]
            have eT : markQ t x = (qLayF t x.at_ (bytesF x.v 64)).2 := by unfold markQ; rw [if_pos k1]
            (repeat (first | refine g ?_))
            refine s_stringc (m := 64) (o := 0) (c := ⟨List.replicate 64 (.int .u8 x.v) ++ List.replicate (64 - 64) (.int .u8 0)⟩) (l := List.replicate 64 (UInt8.ofNat x.v.toNat)) (by simp) (by rw [bv_bytes x.v _ hxo.v0 hxo.v1]; simp) ?_
            (repeat (first | refine g ?_))
            refine s_call c1 ?_
            (repeat (first | refine g ?_))
            refine s_stringc (m := 64) (o := 0) (c := ⟨List.replicate 64 (.int .u8 x.v) ++ List.replicate (64 - 64) (.int .u8 0)⟩) (l := List.replicate 64 (UInt8.ofNat x.v.toNat)) (by simp) (by rw [bv_bytes x.v _ hxo.v0 hxo.v1]; simp) ?_
            (repeat (first | refine g ?_))
            refine s_call d1 ?_
            (repeat (first | refine g ?_))
            exact run_stop_loop (i + 1, markS s x, markQ t x) ⟨⟨⟨by omega, by omega⟩, hT'⟩, by dsimp only; omega⟩ fct (by rw [eS, eT]; exact shut)
          by_cases k2 : x.kind = 2
          · have eS : markS s x = (spoilF s x.at_).2 := by unfold markS; rw [if_neg k1, if_pos k2]
            have eT : markQ t x = (qSpoilF t x.at_).2 := by unfold markQ; rw [if_neg k1, if_pos k2]
            (repeat (first | refine g ?_))
            refine s_call c2 ?_
            (repeat (first | refine g ?_))
            refine s_call d2 ?_
            (repeat (first | refine g ?_))
            exact run_stop_loop (i + 1, markS s x, markQ t x) ⟨⟨⟨by omega, by omega⟩, hT'⟩, by dsimp only; omega⟩ fct (by rw [eS, eT]; exact shut)
          by_cases k3 : x.kind = 3
          · have eS : markS s x = (writeF s x.at_ (bytesF x.v 64)).2 := by unfold markS; rw [if_neg k1, if_neg k2, if_pos k3]
            have eT : markQ t x = (qWriteF t x.at_ (bytesF x.v 64)).2 := by unfold markQ; rw [if_neg k1, if_neg k2, if_pos k3]
            (repeat (first | refine g ?_))
            refine s_stringc (m := 64) (o := 0) (c := ⟨List.replicate 64 (.int .u8 x.v) ++ List.replicate (64 - 64) (.int .u8 0)⟩) (l := List.replicate 64 (UInt8.ofNat x.v.toNat)) (by simp) (by rw [bv_bytes x.v _ hxo.v0 hxo.v1]; simp) ?_
            (repeat (first | refine g ?_))
            refine s_call c3 ?_
            (repeat (first | refine g ?_))
            refine s_stringc (m := 64) (o := 0) (c := ⟨List.replicate 64 (.int .u8 x.v) ++ List.replicate (64 - 64) (.int .u8 0)⟩) (l := List.replicate 64 (UInt8.ofNat x.v.toNat)) (by simp) (by rw [bv_bytes x.v _ hxo.v0 hxo.v1]; simp) ?_
            (repeat (first | refine g ?_))
            refine s_call d3 ?_
            (repeat (first | refine g ?_))
            exact run_stop_loop (i + 1, markS s x, markQ t x) ⟨⟨⟨by omega, by omega⟩, hT'⟩, by dsimp only; omega⟩ fct (by rw [eS, eT]; exact shut)
          have eS : markS s x = s := by unfold markS; rw [if_neg k1, if_neg k2, if_neg k3]
          have eT : markQ t x = t := by unfold markQ; rw [if_neg k1, if_neg k2, if_neg k3]
          (repeat (first | refine g ?_))
          exact run_stop_loop (i + 1, markS s x, markQ t x) ⟨⟨⟨by omega, by omega⟩, hT'⟩, by dsimp only; omega⟩ fct (by rw [eS, eT]; exact shut)
      · (repeat (first | refine g ?_))
        exact run_stop_loop (s, t) ⟨hT.both.mono (by omega), hT.pw.mono (by omega), hT.sec⟩ fct shut
    · (repeat (first | refine g ?_))
      exact run_stop_loop (s, t) ⟨hT.both.mono (by omega), hT.pw.mono (by omega), hT.sec⟩ fct shut
  · dsimp only at *
    (repeat (first | refine g ?_))
    exact run_ret rfl (imp_RX ((b, c), ⟨(s, t), hT⟩) rfl shut)
end Go.Proofs.YtajndpddlpnbkaaGreatDoor.V
