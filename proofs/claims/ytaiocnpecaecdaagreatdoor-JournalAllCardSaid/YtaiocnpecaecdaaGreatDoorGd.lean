/- pack: numbers as bytes; texts filled up. -/
import Derived.Test.YtaiocnpecaecdaaGreatDoorVA
import Derived.Test.YtaiocnpecaecdaaGreatDoorGc
import Derived.Test.YtaiocnpecaecdaaGreatDoorGa
import Derived.Test.YtaiocnpecaecdaaGreatDoorVLc
import Derived.Test.YtaiocnpecaecdaaGreatDoorShelf
set_option maxRecDepth 10000
set_option linter.unusedVariables false
namespace Go.Proofs.YtaiocnpecaecdaaGreatDoor.V
open Go.Proofs.YtaiocnpecaecdaaGreatDoor.VL Go.Proofs.YtaiocnpecaecdaaGreatDoor.VL.RD
attribute [local irreducible] Run
def writerAt (b : Nat) (l : List UInt8) (bad : Bool) : HProp := hex fun x : Option Addr × Nat => star [cells b 203 ⟨[.slice x.1 l.length x.2, .bool bad]⟩, sl x.1 l.length x.2 5 1 (bv l)]
section
variable {P : Program} {q : View} {fn : Func} {R : Value → HProp} {k : List It} {σ : Facts} {A B : List HProp} {F : HProp} {b : Nat} {l : List UInt8} {bad : Bool}
theorem run_writer (hk : ∀ p c, Run P q fn R k σ (cells b 203 ⟨[.slice p l.length c, .bool bad]⟩ :: sl p l.length c 5 1 (bv l) :: A)) : Run P q fn R k σ (writerAt b l bad :: A) :=
  run_hex fun x => run_star (hk _ _)
theorem imp_writer {p : Option Addr} {c : Nat} (h : Imp F (star (cells b 203 ⟨[.slice p l.length c, .bool bad]⟩ :: sl p l.length c 5 1 (bv l) :: B))) : Imp F (star (writerAt b l bad :: B)) := by
  refine imp_ex (p, c) ?_
  exact imp_star h
end
def leb (n k : Nat) : List UInt8 := (List.range k).map fun j => UInt8.ofNat (n / 256 ^ j % 256)
theorem leb_length (n k : Nat) : (leb n k).length = k := by simp [leb]
theorem leb_succ (n k : Nat) : leb n (k + 1) = leb n k ++ [UInt8.ofNat (n / 256 ^ k % 256)] := by simp [leb, List.range_succ]
section
variable {P : Program} {q : View} {fn : Func} {R : Value → HProp} {k : List It} {σ : Facts} {A : List HProp} {b : Nat}
theorem run_to_writer {l : List UInt8} {bad : Bool} {p : Option Addr} {c : Nat} (h : Run P q fn R k σ (writerAt b l bad :: A)) : Run P q fn R k σ (cells b 203 ⟨[.slice p l.length c, .bool bad]⟩ :: sl p l.length c 5 1 (bv l) :: A) :=
  h.imp (imp_writer (p := p) (c := c) (Imp.refl _))
theorem run_intro_writer (h : Run P q fn R k σ (writerAt b [] false :: A)) : Run P q fn R k σ (cells b 203 ⟨[.slice none 0 0, .bool false]⟩ :: A) :=
  h.imp (imp_writer (p := none) (c := 0) (imp_pick Pull.head (imp_sl_nil (Imp.refl _))))
end
/-- A number is laid. -/
def wput (l : List UInt8) (bad : Bool) (n : Int) (w : Nat) : List UInt8 × Bool := if n < 0 ∨ n / 2 ^ (8 * w) ≠ 0 then (l, true) else (l ++ leb n.toNat w, bad)
theorem byte_at (n i : Nat) : ((n : Int) / 2 ^ (8 * i) % 256 : Int) = ((n / 256 ^ i % 256 : Nat) : Int) := by
  rw [Int.pow_mul]
  norm_cast
theorem wput_spec (q : View) (b : Nat) (l : List UInt8) (bad : Bool) (n : Int) (w : Nat) (hw : w ≤ 6) (hn : n ≤ 9223372036854775807) (hl : l.length ≤ 1000000) :
    FnD Tryz.prog q 122 [.pointer (some ⟨b, 0, none⟩), .int .i64 n, .int .i64 w] [writerAt b l bad] (.tuple #[]) [writerAt b (wput l bad n w).1 (wput l bad n w).2] := by
  unfold wput
  (first | refine FnD.go Tryz.call122 Tryz.func122 rfl rfl rfl ?_ | refine FnX.go Tryz.call122 Tryz.func122 rfl rfl rfl ?_)
  refine run_writer fun p c => ?_
  by_cases h0 : n < 0
  · rw [if_pos (.inl h0)]
    (repeat (first | refine g ?_))
    exact run_ret rfl (imp_RD rfl (imp_writer shut))
  obtain ⟨m, rfl⟩ : ∃ m : Nat, n = m := ⟨n.toNat, by omega⟩
  by_cases h1 : (m : Int) / 2 ^ (8 * w) ≠ 0
  · rw [if_pos (.inr h1)]
    (repeat (first | refine g ?_))
    exact run_ret rfl (imp_RD rfl (imp_writer shut))
  · rw [if_neg (by rintro (h | h); exact h0 h; exact h1 h)]
    (repeat (first | refine g ?_))
    refine run_loopI (X := Nat × Option Addr × Nat) (fun x => x.1 ≤ w) (fun x => [(0, .pointer (some ⟨b, 0, none⟩)), (1, .int .i64 (m : Int)), (19, .int .i64 (w : Int)), (20, .int .i64 (x.1 : Int))])
      (fun x => [cells b 203 ⟨[.slice x.2.1 (l ++ leb m x.1).length x.2.2, .bool bad]⟩, sl x.2.1 (l ++ leb m x.1).length x.2.2 5 1 (bv (l ++ leb m x.1))]) (fun x => w - x.1) (0, p, c) (Nat.zero_le _) fct (by rw [show leb m 0 = [] from rfl, List.append_nil]; exact shut) ?_
    intro ⟨i, p, c⟩ hi
    dsimp only at *
    (repeat (first | refine g ?_))
    refine run_cond_dec rfl ?_ ?_
    · intro h2
      have h2' : i < w := by omega
      have hll : (l ++ leb m i).length = l.length + i := by rw [List.length_append, leb_length]
      (repeat (first | refine g ?_))
      have eb : (((m : Int) / 2 ^ ((8 : Int) * i).toNat) % 256) = ((UInt8.ofNat (m / 256 ^ i % 256)).toNat : Int) := by
        rw [show ((8 : Int) * i).toNat = 8 * i by omega, byte_at, UInt8.toNat_ofNat']; omega
      have el : bv (l ++ leb m (i + 1)) = bv (l ++ leb m i) ++ [Value.int .u8 (((m : Int) / 2 ^ ((8 : Int) * i).toNat) % 256)] := by
        rw [leb_succ, ← List.append_assoc, bv_append _ [_], eb]; rfl
      have ell : (l ++ leb m (i + 1)).length = (l ++ leb m i).length + 1 := by
        rw [leb_succ, ← List.append_assoc]; exact List.length_append
      refine d_all ?_
      (refine d_pure 0 ?_)
      (refine d_pure 1 ?_)
      (refine d_pure 2 ?_)
      (refine d_fieldat 3 ?_)
      (refine d_pure 5 ?_)
      (refine d_pure 6 ?_)
      (refine d_arith 7 ?_)
      (refine d_shrv 8 ?_)
      (refine d_pure 9 ?_)
      refine d_two 4 10 ?_ ?_
      · refine d_ovia1 4 (h1 := by refine s_load ?_; exact run_fin1) (h := ?_)
        refine d_via 10 (X := Nat) (h1 := by refine s_built fun r => ?_; exact run_fin r) (h := fun r => ?_)
        refine d_via 11 (X := Option Addr × Nat) (h1 := by refine s_app 1 1 (reads_own At.head rfl) (hxl := by rw [bv_length, Nat.mul_one]) fun r2 => ?_; exact run_fin r2) (h := fun r2 => ?_)
        (refine d_pure 12 ?_)
        (refine d_fieldat 13 ?_)
        refine d_via1 14 (h1 := by refine s_store ?_; exact run_fin1) (h := ?_)
        refine d_done ?_
        (repeat (first | refine g ?_))
        refine run_stop_loop (i + 1, r2.1, r2.2) ⟨h2', by dsimp only; omega⟩ fct ?_
        dsimp only
        rw [el, ell]
        exact shut
      · refine d_ovia 10 (X := Nat) (h1 := by refine s_built fun r => ?_; exact run_fin r) (h := fun r => ?_)
        refine d_via1 4 (h1 := by refine s_load ?_; exact run_fin1) (h := ?_)
        refine d_via 11 (X := Option Addr × Nat) (h1 := by refine s_app 1 1 (reads_own At.head rfl) (hxl := by rw [bv_length, Nat.mul_one]) fun r2 => ?_; exact run_fin r2) (h := fun r2 => ?_)
        (refine d_pure 12 ?_)
        (refine d_fieldat 13 ?_)
        refine d_via1 14 (h1 := by refine s_store ?_; exact run_fin1) (h := ?_)
        refine d_done ?_
        (repeat (first | refine g ?_))
        refine run_stop_loop (i + 1, r2.1, r2.2) ⟨h2', by dsimp only; omega⟩ fct ?_
        dsimp only
        rw [el, ell]
        exact shut
    · intro h2
      obtain rfl : i = w := by omega
      (repeat (first | refine g ?_))
      exact run_end rfl (imp_RD rfl (imp_writer shut))
/-- A number as so many bytes. -/
def putF (n w : Int) : ByteArray × Int := if w < 1 ∨ 6 < w then (⟨#[]⟩, 1) else if n < 0 ∨ n / 2 ^ (8 * w.toNat) ≠ 0 then (⟨#[]⟩, 2) else (⟨(leb n.toNat w.toNat).toArray⟩, 0)
theorem put_spec (q : View) (n w : Int) (hn : n ≤ 9223372036854775807) : FnD Tryz.prog q 106 [.int .i64 n, .int .i64 w] [] (.tuple #[.string (V.putF n w).1, .int .i64 (V.putF n w).2]) [] := by
  unfold V.putF
  (first | refine FnD.go Tryz.call106 Tryz.func106 rfl rfl rfl ?_ | refine FnX.go Tryz.call106 Tryz.func106 rfl rfl rfl ?_)
  by_cases h0 : w < 1
  · rw [if_pos (.inl h0)]
    (repeat (first | refine g ?_))
    exact run_ret rfl (imp_RD rfl shut)
  by_cases h1 : 6 < w
  · rw [if_pos (.inr h1)]
    (repeat (first | refine g ?_))
    exact run_ret rfl (imp_RD rfl shut)
  rw [if_neg (by omega)]
  obtain ⟨k, rfl⟩ : ∃ k : Nat, w = k := ⟨w.toNat, by omega⟩
  rw [Int.toNat_natCast]
  (repeat (first | refine g ?_))
  refine s_alloc fun r => ?_
  (repeat (first | refine g ?_))
  have c := wput_spec q r [] false n k (by omega) hn (Nat.zero_le _)
  unfold wput at c
  refine run_pull (X := cells r 203 ⟨[.slice none 0 0, .bool false]⟩) (by (repeat (first | (with_reducible exact Pull.head) | apply Pull.tail))) ?_
  refine run_intro_writer ?_
  by_cases h2 : n < 0 ∨ n / 2 ^ (8 * k) ≠ 0
  · rw [if_pos h2] at c ⊢
    refine s_call c ?_
    refine run_writer fun p c => ?_
    (repeat (first | refine g ?_))
    exact run_ret rfl (imp_RD rfl shut)
  · rw [if_neg h2] at c ⊢
    refine s_call c ?_
    refine run_writer fun p c => ?_
    rw [List.nil_append]
    (repeat (first | refine g ?_))
    refine s_string ?_
    (repeat (first | refine g ?_))
    exact run_ret rfl (imp_RD rfl shut)
def pad0 (l : List UInt8) (n : Nat) : List UInt8 := l ++ List.replicate (n - l.length) 0
theorem full_spec (q : View) (b : Nat) (l : List UInt8) (bad : Bool) (n : Nat) (hn : n ≤ 1000000) (hl : l.length ≤ 1000000) :
    FnD Tryz.prog q 123 [.pointer (some ⟨b, 0, none⟩), .int .i64 n] [writerAt b l bad] (.string ⟨(pad0 l n).toArray⟩) [writerAt b (pad0 l n) bad] := by
  unfold pad0
  (first | refine FnD.go Tryz.call123 Tryz.func123 rfl rfl rfl ?_ | refine FnX.go Tryz.call123 Tryz.func123 rfl rfl rfl ?_)
  refine run_writer fun p c => ?_
  (repeat (first | refine g ?_))
  refine run_loopI (X := Nat × Option Addr × Nat) (fun x => x.1 ≤ n - l.length) (fun x => [(0, .pointer (some ⟨b, 0, none⟩)), (1, .int .i64 (n : Int))])
    (fun x => [cells b 203 ⟨[.slice x.2.1 (l ++ List.replicate x.1 0).length x.2.2, .bool bad]⟩, sl x.2.1 (l ++ List.replicate x.1 0).length x.2.2 5 1 (bv (l ++ List.replicate x.1 0))]) (fun x => n - l.length - x.1) (0, p, c) (Nat.zero_le _) fct (by rw [List.replicate_zero, List.append_nil]; exact shut) ?_
  intro ⟨i, p, c⟩ hi
  dsimp only at *
  have hll : (l ++ List.replicate i (0 : UInt8)).length = l.length + i := by rw [List.length_append, List.length_replicate]
  (repeat (first | refine g ?_))
  refine run_cond_dec rfl ?_ ?_
  · intro h2
    have h2' : i < n - l.length := by omega
    have el : bv (l ++ List.replicate (i + 1) 0) = bv (l ++ List.replicate i 0) ++ [Value.int .u8 0] := by
      rw [List.replicate_succ', ← List.append_assoc, bv_append _ [_]]; rfl
    have ell : (l ++ List.replicate (i + 1) (0 : UInt8)).length = (l ++ List.replicate i (0 : UInt8)).length + 1 := by
      rw [List.replicate_succ', ← List.append_assoc]; exact List.length_append
    (repeat (first | refine g ?_))
    refine s_built fun r => ?_
    (repeat (first | refine g ?_))
    refine s_app 1 1 (reads_own At.head rfl) (hxl := by rw [bv_length, Nat.mul_one]) fun r2 => ?_
    (repeat (first | refine g ?_))
    refine run_stop_loop (i + 1, r2.1, r2.2) ⟨h2', by dsimp only; omega⟩ fct ?_
    dsimp only
    rw [el, ell]
    exact shut
  · intro h2
    obtain rfl : i = n - l.length := by omega
    (repeat (first | refine g ?_))
    refine s_string ?_
    (repeat (first | refine g ?_))
    exact run_ret rfl (imp_RD rfl (imp_writer shut))
/-- A text, filled up. -/
def padF (s : ByteArray) (n : Int) : ByteArray × Int := if n < 0 ∨ 4096 < n then (⟨#[]⟩, 1) else if n < s.size then (⟨#[]⟩, 4) else (⟨(pad0 s.data.toList n.toNat).toArray⟩, 0)
theorem pad_spec (q : View) (s : ByteArray) (n : Int) (hs : s.size ≤ 140737488351232) : FnD Tryz.prog q 91 [.string s, .int .i64 n] [] (.tuple #[.string (padF s n).1, .int .i64 (padF s n).2]) [] := by
  unfold padF
  (first | refine FnD.go Tryz.call91 Tryz.func91 rfl rfl rfl ?_ | refine FnX.go Tryz.call91 Tryz.func91 rfl rfl rfl ?_)
  by_cases h0 : n < 0
  · rw [if_pos (.inl h0)]
    (repeat (first | refine g ?_))
    exact run_ret rfl (imp_RD rfl shut)
  by_cases h1 : 4096 < n
  · rw [if_pos (.inr h1)]
    (repeat (first | refine g ?_))
    exact run_ret rfl (imp_RD rfl shut)
  rw [if_neg (by omega)]
  obtain ⟨k, rfl⟩ : ∃ k : Nat, n = k := ⟨n.toNat, by omega⟩
  rw [Int.toNat_natCast]
  by_cases h2 : (k : Int) < s.size
  · rw [if_pos h2]
    (repeat (first | refine g ?_))
    exact run_ret rfl (imp_RD rfl shut)
  rw [if_neg h2]
  (repeat (first | refine g ?_))
  refine s_bytes fun r => ?_
  (repeat (first | refine g ?_))
  refine s_alloc fun b => ?_
  (repeat (first | refine g ?_))
  have hl : s.data.toList.length ≤ 1000000 := by
    have : s.data.toList.length = s.size := rfl
    omega
  refine run_to_writer (l := s.data.toList) ?_
  refine s_call (full_spec q b s.data.toList false k (by omega) hl) ?_
  (repeat (first | refine g ?_))
  exact run_ret rfl (imp_RD rfl shut)
/-- A number, and noughts behind it. -/
theorem leb_div (n k : Nat) (h : n < 256 ^ k) : (n : Int) / 2 ^ (8 * k) = 0 := by
  have e : (2 : Int) ^ (8 * k) = ((256 ^ k : Nat) : Int) := by rw [Int.pow_mul]; norm_cast
  rw [e]
  exact_mod_cast congrArg Nat.cast (Nat.div_eq_of_lt h)
def numB (n size : Nat) : ByteArray := ⟨(pad0 (leb n 6) size).toArray⟩
theorem numbered_spec (q : View) (n size : Nat) (hn : n < 281474976710656) (h6 : 6 ≤ size) (hs : size ≤ 4096) : FnD Tryz.prog q 170 [.int .i64 n, .int .i64 size] [] (.string (numB n size)) [] := by
  have c1 := put_spec q n 6 (by omega)
  have c2 := pad_spec q ⟨(leb n 6).toArray⟩ size (by show (leb n 6).toArray.size ≤ _; rw [List.size_toArray, leb_length]; decide)
  unfold V.putF at c1
  unfold padF at c2
  have e1 : (⟨(leb n 6).toArray⟩ : ByteArray).size = 6 := by show (leb n 6).toArray.size = 6; rw [List.size_toArray, leb_length]
  have ed := leb_div n 6 hn
  rw [if_neg (by decide), if_neg (by rintro (h | h); omega; exact h ed)] at c1
  rw [e1, if_neg (by omega), if_neg (by omega)] at c2
  dsimp only at c1 c2
  (first | refine FnD.go Tryz.call170 Tryz.func170 rfl rfl rfl ?_ | refine FnX.go Tryz.call170 Tryz.func170 rfl rfl rfl ?_)
  (repeat (first | refine g ?_))
  refine s_call c1 ?_
  (repeat (first | refine g ?_))
  refine s_call c2 ?_
  (repeat (first | refine g ?_))
  exact run_ret rfl (imp_RD rfl shut)
end Go.Proofs.YtaiocnpecaecdaaGreatDoor.V
namespace Go.Proofs.YtaiocnpecaecdaaGreatDoor.V
open Go.Proofs.YtaiocnpecaecdaaGreatDoor.VL
attribute [local irreducible] Run
/-- The number that so many bytes are, the lowest first. -/
def lev (s : List UInt8) (o : Nat) : Nat → Nat
  | 0 => 0
  | i + 1 => lev s o i + (s.getD (o + i) 0).toNat * 256 ^ i
theorem lev_lt (s : List UInt8) (o i : Nat) : lev s o i < 256 ^ i := by
  induction i with
  | zero => exact Nat.one_pos
  | succ i ih =>
    have h : (s.getD (o + i) 0).toNat ≤ 255 := by have := (s.getD (o + i) 0).toNat_lt; omega
    have h2 : (s.getD (o + i) 0).toNat * 256 ^ i ≤ 255 * 256 ^ i := Nat.mul_le_mul_right _ h
    rw [lev, Nat.pow_succ]; omega
theorem or_shift (n b i : Nat) (hn : n < 256 ^ i) : n ||| b * 256 ^ i = n + b * 256 ^ i := by
  rw [show 256 = 2 ^ 8 from rfl, ← Nat.pow_mul] at *
  rw [Nat.or_comm, Nat.mul_comm b, ← Nat.two_pow_add_eq_or_of_lt hn, Nat.add_comm]
theorem pow6 (i : Nat) (h : i ≤ 6) : 256 ^ i ≤ 281474976710656 := by
  have := Nat.pow_le_pow_right (n := 256) (by decide) h
  exact this
theorem take_spec (q : View) (b o w : Nat) (s : ByteArray) (hw : w ≤ 6) (h : o + w ≤ s.size) (hs : s.size ≤ 1000000) :
    FnD Tryz.prog q 137 [.pointer (some ⟨b, 0, none⟩), .int .i64 (w : Int)] [cells b 213 ⟨[.string s, .int .i64 (o : Int)]⟩] (.int .i64 (lev s.data.toList o w : Nat)) [cells b 213 ⟨[.string s, .int .i64 ((o + w : Nat) : Int)]⟩] := by
  (first | refine FnD.go Tryz.call137 Tryz.func137 rfl rfl rfl ?_ | refine FnX.go Tryz.call137 Tryz.func137 rfl rfl rfl ?_)
  (repeat (first | refine g ?_ | refine s_flat 1 [(.pure, [0, 1, 2, 3, 6, 7, 8]), (.mem true, [4]), (.pure, [5]), (.mem true, [9]), (.pure, [10, 11])] ?_ | refine s_flat 7 [(.pure, [0, 1, 2, 3, 5, 6, 7, 9, 13, 14]), (.mem true, [4, 8]), (.pure, [10, 11, 12, 15, 16, 17])] ?_))
  refine run_loopI (X := Nat) (fun i => i ≤ w) (fun i => [(0, .pointer (some ⟨b, 0, none⟩)), (1, .int .i64 (w : Int)), (21, .int .i64 (w : Int)), (22, .int .i64 (i : Int)), (5, .int .i64 ((lev s.data.toList o i : Nat) : Int))])
    (fun i => [cells b 213 ⟨[.string s, .int .i64 (o : Int)]⟩]) (fun i => w - i) 0 (Nat.zero_le _) fct shut ?_
  intro i hi
  try dsimp only at *
  have hp := pow6 i (by omega)
  have hl := lev_lt s.data.toList o i
  (repeat (first | refine g ?_ | refine s_flat 1 [(.pure, [0, 1, 2, 3, 6, 7, 8]), (.mem true, [4]), (.pure, [5]), (.mem true, [9]), (.pure, [10, 11])] ?_ | refine s_flat 7 [(.pure, [0, 1, 2, 3, 5, 6, 7, 9, 13, 14]), (.mem true, [4, 8]), (.pure, [10, 11, 12, 15, 16, 17])] ?_))
  refine run_cond_dec rfl ?_ ?_
  · intro h1
    have hb := bAt_lt s (o + i)
    (repeat (first | refine g ?_ | refine s_flat 1 [(.pure, [0, 1, 2, 3, 6, 7, 8]), (.mem true, [4]), (.pure, [5]), (.mem true, [9]), (.pure, [10, 11])] ?_ | refine s_flat 7 [(.pure, [0, 1, 2, 3, 5, 6, 7, 9, 13, 14]), (.mem true, [4, 8]), (.pure, [10, 11, 12, 15, 16, 17])] ?_))
    obtain ⟨u, hu⟩ : ∃ u, u = (s.data.toList.getD (o + i) 0).toNat := ⟨_, rfl⟩
    have hub : u < 256 := by rw [hu]; exact (s.data.toList.getD (o + i) 0).toNat_lt
    refine s_to 36 (v := .int .u8 (bAt s ((o : Int) + (i : Int)).toNat)) (w := .int .u8 (u : Int)) (by rw [show ((o : Int) + (i : Int)).toNat = o + i by omega, hu]; rfl) ?_
    refine s_conv64 ?_
    refine s_shl ?_
    have hm : u * 256 ^ i ≤ 255 * 281474976710656 := Nat.mul_le_mul (by omega) hp
    refine s_to 40 (v := .int .i64 (IntKind.i64.wrap ((u : Int) * 2 ^ min ((8 : Int) * (i : Int)).toNat IntKind.i64.bits))) (w := .int .i64 ((u * 256 ^ i : Nat) : Int)) ?_ ?_
    · have e1 : min ((8 : Int) * (i : Int)).toNat IntKind.i64.bits = 8 * i := by
        rw [show ((8 : Int) * (i : Int)).toNat = 8 * i by omega]
        exact Nat.min_eq_left (by show 8 * i ≤ 64; omega)
      have e2 : ((u : Int) * 2 ^ (8 * i) : Int) = ((u * 256 ^ i : Nat) : Int) := by
        rw [Int.pow_mul]; norm_cast
      rw [e1, e2, wrap_in]
      · omega
      · show _ ≤ (9223372036854775807 : Int); omega
    refine s_bitn ?_
    refine s_to 41 (v := .int .i64 ((((lev s.data.toList o i : Nat) : Int).toNat ||| ((u * 256 ^ i : Nat) : Int).toNat : Nat) : Int)) (w := .int .i64 ((lev s.data.toList o (i + 1) : Nat) : Int)) ?_ ?_
    · rw [lev, ← hu, Int.toNat_natCast, Int.toNat_natCast, or_shift _ _ _ hl]
    (repeat (first | refine g ?_ | refine s_flat 1 [(.pure, [0, 1, 2, 3, 6, 7, 8]), (.mem true, [4]), (.pure, [5]), (.mem true, [9]), (.pure, [10, 11])] ?_ | refine s_flat 7 [(.pure, [0, 1, 2, 3, 5, 6, 7, 9, 13, 14]), (.mem true, [4, 8]), (.pure, [10, 11, 12, 15, 16, 17])] ?_))
    exact run_stop_loop (i + 1) ⟨by omega, by omega⟩ fct shut
  · intro h1
    obtain rfl : i = w := by omega
    (repeat (first | refine g ?_ | refine s_flat 1 [(.pure, [0, 1, 2, 3, 6, 7, 8]), (.mem true, [4]), (.pure, [5]), (.mem true, [9]), (.pure, [10, 11])] ?_ | refine s_flat 7 [(.pure, [0, 1, 2, 3, 5, 6, 7, 9, 13, 14]), (.mem true, [4, 8]), (.pure, [10, 11, 12, 15, 16, 17])] ?_))
    exact run_ret rfl (imp_RD rfl shut)
theorem gave_nil (q : View) : FnD Tryz.prog q 136 [.nilIface] [] (.bool false) [] := by
  (first | refine FnD.go Tryz.call136 Tryz.func136 rfl rfl rfl ?_ | refine FnX.go Tryz.call136 Tryz.func136 rfl rfl rfl ?_)
  (repeat (first | refine g ?_))
  refine s_eqnil (ms := #[]) ?_
  (repeat (first | refine g ?_))
  exact run_ret rfl (imp_RD rfl shut)
theorem getD_spec (q : View) (x : Value) : DefT Tryz.prog q 135 #[x] hemp hemp := def_gave Tryz.func135 rfl rfl rfl (gave_nil q)
theorem get_spec (q : View) (s : ByteArray) (o w : Nat) (h1 : 1 ≤ w) (hw : w ≤ 6) (h : o + w ≤ s.size) (hs : s.size ≤ 1000000) :
    FnD Tryz.prog q 90 [.string s, .int .i64 (o : Int), .int .i64 (w : Int)] [] (.tuple #[.int .i64 (lev s.data.toList o w : Nat), .int .i64 0]) [] := by
  (first | refine FnD.go Tryz.call90 Tryz.func90 rfl rfl rfl ?_ | refine FnX.go Tryz.call90 Tryz.func90 rfl rfl rfl ?_)
  (repeat (first | refine g ?_))
  refine s_alloc fun r => ?_
  (repeat (first | refine g ?_))
  refine s_defer ?_
  (repeat (first | refine g ?_))
  refine s_alloc fun c => ?_
  (repeat (first | refine g ?_))
  refine s_call (take_spec q c o w s hw h hs) ?_
  (repeat (first | refine g ?_))
  refine run_retD2 (Bs := []) (Cs := []) (getD_spec q _) Tryz.call135 (imp_RD rfl shut) rfl (res_tmp rfl) (res_cell1 tabOk rfl rfl rfl (by repeat (first | (with_reducible exact At.head) | apply At.tail))) Pulls.nil (hM := rfl)
end Go.Proofs.YtaiocnpecaecdaaGreatDoor.V
namespace Go.Proofs.YtaiocnpecaecdaaGreatDoor.V
open Go.Proofs.YtaiocnpecaecdaaGreatDoor.VL Go.Proofs.YtaiocnpecaecdaaGreatDoor.VL.RD
attribute [local irreducible] Run
section
variable {α : Type} [DecidableEq α]
def numdF (l : List α) (i : Nat) : List (α × Value) := (l.zipIdx i).map fun x => (x.1, .int .i64 ((x.2 + 1 : Nat) : Int))
def pos (l : List α) (k : α) : Option Nat := match l with
  | [] => none
  | b :: l => if k = b then some 0 else (pos l k).map (· + 1)
theorem findK_numd (l : List α) (k : α) (i j : Nat) : findK (numdF l i) k j = (pos l k).map fun n => (j + n, Value.int .i64 ((i + n + 1 : Nat) : Int)) := by
  induction l generalizing i j with
  | nil => rfl
  | cons b l ih =>
    have e : numdF (b :: l) i = (b, .int .i64 ((i + 1 : Nat) : Int)) :: numdF l (i + 1) := by simp [numdF, List.zipIdx_cons]
    rw [e]
    unfold findK pos
    by_cases h : k = b
    · rw [if_pos h, if_pos h]; rfl
    · rw [if_neg h, if_neg h, ih]
      cases pos l k with
      | none => rfl
      | some n => simp; omega
omit [DecidableEq α] in
theorem numdF_snoc (l : List α) (k : α) : numdF (l ++ [k]) 0 = numdF l 0 ++ [(k, .int .i64 ((l.length + 1 : Nat) : Int))] := by
  simp [numdF, List.zipIdx_append]
omit [DecidableEq α] in
theorem numdF_length (l : List α) (i : Nat) : (numdF l i).length = l.length := by simp [numdF]
omit [DecidableEq α] in
theorem numdF_mem (l : List α) (i : Nat) (x : α × Value) (h : x ∈ numdF l i) : x.1 ∈ l := by
  unfold numdF at h
  obtain ⟨y, hy, rfl⟩ := List.mem_map.1 h
  exact (List.mem_zipIdx hy).2.2 ▸ List.getElem_mem _
theorem pos_lt (l : List α) (k : α) (n : Nat) (h : pos l k = some n) : n < l.length ∧ l[n]? = some k := by
  induction l generalizing n with
  | nil => cases h
  | cons b l ih =>
    unfold pos at h
    split at h
    · rename_i e; obtain rfl := Option.some.inj h; exact ⟨Nat.succ_pos _, by simp [e]⟩
    · cases hp : pos l k with
      | none => rw [hp] at h; cases h
      | some m =>
        rw [hp] at h
        obtain rfl := Option.some.inj h
        have := ih m hp
        exact ⟨by simp; omega, by simpa using this.2⟩
/-- The number of a thing: the next one, if it is new. -/
def cntN (l : List α) (k : α) : Nat := match pos l k with | some n => n + 1 | none => l.length + 1
def cntL (l : List α) (k : α) : List α := match pos l k with | some _ => l | none => l ++ [k]
end
def mapS (b : Nat) (l : List ByteArray) : HProp := mapc b ((numdF l 0).map fun x => (.string x.1, x.2))
def mapK (b : Nat) (l : List (List KV)) : HProp := mapc b ((numdF l 0).map fun x => (encK x.1, x.2))
theorem countS_spec (q : View) (b : Nat) (l : List ByteArray) (k : ByteArray) (hl : l.length ≤ 1000000) :
    FnD Tryz.prog q 171 [.map (some b), .string k] [mapS b l] (.int .i64 ((cntN l k : Nat) : Int)) [mapS b (cntL l k)] := by
  (first | refine FnD.go Tryz.call171 Tryz.func171 rfl rfl rfl ?_ | refine FnX.go Tryz.call171 Tryz.func171 rfl rfl rfl ?_)
  unfold mapS
  have hk := keyFind_str Tryz.underlying9 k (numdF l 0)
  rw [findK_numd] at hk
  unfold cntN cntL
  cases hp : pos l k with
  | some n =>
    rw [hp] at hk
    have hlt := (pos_lt l k n hp).1
    simp only [Option.map_some, Nat.zero_add] at hk
    (repeat (first | refine g ?_))
    refine s_look2s hk ?_
    (repeat (first | refine g ?_))
    exact run_ret rfl (imp_RD rfl shut)
  | none =>
    rw [hp] at hk
    simp only [Option.map_none] at hk
    (repeat (first | refine g ?_))
    refine s_look2n hk ?_
    (repeat (first | refine g ?_))
    refine s_lenMap ?_
    rw [List.length_map, numdF_length]
    (repeat (first | refine g ?_))
    refine s_mapNew hk ?_
    (repeat (first | refine g ?_))
    refine run_ret rfl (imp_RD rfl ?_)
    dsimp only
    rw [numdF_snoc, List.map_append]
    exact shut
/-- Keys of the maps of structs. -/
def markedK (l s : ByteArray) : List KV := [.s l, .s s]
def sealedK (n : Int) (a b c : ByteArray) : List KV := [.i .i64 n, .s a, .s b, .s c]
def MarkedOk (k : List KV) : Prop := ∃ a b, k = markedK a b
def SealedOk (k : List KV) : Prop := ∃ n a b c, k = sealedK n a b c
theorem sealed_fits (n : Int) (a b c : ByteArray) : RowFits Tryz.prog (Tryz.prog.fieldsOf 286).toList (sealedK n a b c) := by
  unfold Program.fieldsOf
  rw [Tryz.underlying286]
  refine ⟨rfl, fun j f x hf hx => ?_⟩
  match j, hf, hx with
  | 0, hf, hx => obtain rfl := Option.some.inj hf; obtain rfl := Option.some.inj hx; exact ⟨by decide, rfl, Tryz.underlying3⟩
  | 1, hf, hx => obtain rfl := Option.some.inj hf; obtain rfl := Option.some.inj hx; exact ⟨by decide, rfl, Tryz.underlying9⟩
  | 2, hf, hx => obtain rfl := Option.some.inj hf; obtain rfl := Option.some.inj hx; exact ⟨by decide, rfl, Tryz.underlying9⟩
  | 3, hf, hx => obtain rfl := Option.some.inj hf; obtain rfl := Option.some.inj hx; exact ⟨by decide, rfl, Tryz.underlying9⟩
  | j + 4, hf, hx => cases hx
theorem sealed_find (l : List (List KV)) (hl : ∀ k ∈ l, SealedOk k) (n : Int) (a b c : ByteArray) : KeyFind Tryz.prog 286 (encK (sealedK n a b c)) ((numdF l 0).map fun x => (encK x.1, x.2)) (findK (numdF l 0) (sealedK n a b c) 0) := by
  have e : Tryz.prog.underlying 286 = some (.struct (Tryz.prog.fieldsOf 286)) := by unfold Program.fieldsOf; rw [Tryz.underlying286]
  exact keyFind_agg e (by kernel_rfl) _ _ (sealed_fits n a b c) fun x hx => by
    obtain ⟨m, c, d, f, e⟩ := hl x.1 (numdF_mem _ _ _ hx)
    rw [e]; exact sealed_fits m c d f
theorem countE_spec (q : View) (b : Nat) (l : List (List KV)) (hlo : ∀ k ∈ l, SealedOk k) (n : Int) (a c d : ByteArray) (hl : l.length ≤ 1000000) :
    FnD Tryz.prog q 189 [.map (some b), encK (sealedK n a c d)] [mapK b l] (.int .i64 ((cntN l (sealedK n a c d) : Nat) : Int)) [mapK b (cntL l (sealedK n a c d))] := by
  (first | refine FnD.go Tryz.call189 Tryz.func189 rfl rfl rfl ?_ | refine FnX.go Tryz.call189 Tryz.func189 rfl rfl rfl ?_)
  (repeat (first | refine g ?_))
  refine s_box fun r => ?_
  unfold mapK
  have hk := sealed_find l hlo n a c d
  rw [findK_numd] at hk
  unfold cntN cntL
  cases hp : pos l (sealedK n a c d) with
  | some nn =>
    rw [hp] at hk
    have hlt := (pos_lt l (sealedK n a c d) nn hp).1
    simp only [Option.map_some, Nat.zero_add] at hk
    (repeat (first | refine g ?_))
    refine s_look2s hk ?_
    (repeat (first | refine g ?_))
    exact run_ret rfl (imp_RD rfl shut)
  | none =>
    rw [hp] at hk
    simp only [Option.map_none] at hk
    (repeat (first | refine g ?_))
    refine s_look2n hk ?_
    (repeat (first | refine g ?_))
    refine s_lenMap ?_
    rw [List.length_map, numdF_length]
    (repeat (first | refine g ?_))
    refine s_mapNew hk ?_
    (repeat (first | refine g ?_))
    refine run_ret rfl (imp_RD rfl ?_)
    dsimp only
    rw [numdF_snoc, List.map_append]
    exact shut
end Go.Proofs.YtaiocnpecaecdaaGreatDoor.V
namespace Go.Proofs.YtaiocnpecaecdaaGreatDoor.V
open Go.Proofs.YtaiocnpecaecdaaGreatDoor.VL Go.Proofs.YtaiocnpecaecdaaGreatDoor.VL.RD
attribute [local irreducible] Run
structure VSt where
  hs : List ByteArray
  ms : List (List KV)
  es : List (List KV)
structure VOk (n : Nat) (s : VSt) : Prop where
  hs : s.hs.length ≤ n
  ms : s.ms.length ≤ n
  es : s.es.length ≤ n
  mo : ∀ k ∈ s.ms, MarkedOk k
  eo : ∀ k ∈ s.es, SealedOk k
@[reducible] def iParts (i h m e : Nat) (s : VSt) (A : List HProp) : List HProp :=
  cells i 111 ⟨[.map (some h), .map (some m), .map (some e)]⟩ :: mapS h s.hs :: mapK m s.ms :: mapK e s.es :: A
@[reducible] def vParts (v i h m e : Nat) (s : VSt) (A : List HProp) : List HProp :=
  cells v 114 ⟨[.pointer none, .pointer (some ⟨i, 0, none⟩)]⟩ :: iParts i h m e s A
def vaultAt (v : Nat) (s : VSt) : HProp := hex fun x : Nat × Nat × Nat × Nat => star (vParts v x.1 x.2.1 x.2.2.1 x.2.2.2 s [])
section
variable {P : Program} {q : View} {fn : Func} {R : Value → HProp} {k : List It} {σ : Facts} {A B : List HProp} {F : HProp} {v : Nat} {s : VSt}
theorem run_vault (hk : ∀ i h m e, Run P q fn R k σ (vParts v i h m e s A)) : Run P q fn R k σ (vaultAt v s :: A) :=
  run_hex fun x => run_star (hk _ _ _ _)
theorem imp_vault {i h m e : Nat} (hh : Imp F (star (vParts v i h m e s B))) : Imp F (star (vaultAt v s :: B)) := by
  refine imp_ex (i, h, m, e) ?_
  exact imp_star hh
end
theorem ideal_new (q : View) : FnX Tryz.prog q 19 [] [] (fun v : Nat => .pointer (some ⟨v, 0, none⟩)) fun v => [vaultAt v ⟨[], [], []⟩] := by
  (first | refine FnD.go Tryz.call19 Tryz.func19 rfl rfl rfl ?_ | refine FnX.go Tryz.call19 Tryz.func19 rfl rfl rfl ?_)
  (repeat (first | refine g ?_))
  refine s_makeMap fun h => ?_
  (repeat (first | refine g ?_))
  refine s_makeMap fun m => ?_
  (repeat (first | refine g ?_))
  refine s_makeMap fun e => ?_
  (repeat (first | refine g ?_))
  refine s_box fun i => ?_
  (repeat (first | refine g ?_))
  refine s_box fun v => ?_
  (repeat (first | refine g ?_))
  refine run_ret rfl (imp_RX v rfl (imp_vault (i := i) (h := h) (m := m) (e := e) ?_))
  unfold vParts iParts mapS mapK
  exact shut
theorem vnone_spec (q : View) (v i : Nat) : FnD Tryz.prog q 141 [.pointer (some ⟨v, 0, none⟩)] [cells v 114 ⟨[.pointer none, .pointer (some ⟨i, 0, none⟩)]⟩] (.bool false) [cells v 114 ⟨[.pointer none, .pointer (some ⟨i, 0, none⟩)]⟩] := by
  (first | refine FnD.go Tryz.call141 Tryz.func141 rfl rfl rfl ?_ | refine FnX.go Tryz.call141 Tryz.func141 rfl rfl rfl ?_)
  (repeat (first | refine g ?_))
  exact run_ret rfl (imp_RD rfl shut)
theorem ihash_spec (q : View) (i h m e : Nat) (s : VSt) (hs : VOk 1000000 s) (t : ByteArray) :
    FnD Tryz.prog q 142 [.pointer (some ⟨i, 0, none⟩), .string t] (iParts i h m e s []) (.string (numB (cntN s.hs t) 32)) (iParts i h m e { s with hs := cntL s.hs t } []) := by
  have hc : cntN s.hs t ≤ s.hs.length + 1 := by
    unfold cntN; cases hp : pos s.hs t with
    | none => exact Nat.le_refl _
    | some n => have := (pos_lt _ _ _ hp).1; show n + 1 ≤ _; omega
  have hl := hs.hs
  (first | refine FnD.go Tryz.call142 Tryz.func142 rfl rfl rfl ?_ | refine FnX.go Tryz.call142 Tryz.func142 rfl rfl rfl ?_)
  unfold iParts
  (repeat (first | refine g ?_))
  refine s_call (countS_spec q h s.hs t (by omega)) ?_
  (repeat (first | refine g ?_))
  refine s_call (numbered_spec q (cntN s.hs t) 32 (by omega) (by omega) (by omega)) ?_
  (repeat (first | refine g ?_))
  exact run_ret rfl (imp_RD rfl shut)
theorem hash_spec (q : View) (v : Nat) (s : VSt) (hs : VOk 1000000 s) (t : ByteArray) :
    FnD Tryz.prog q 94 [.pointer (some ⟨v, 0, none⟩), .string t] [vaultAt v s] (.string (numB (cntN s.hs t) 32)) [vaultAt v { s with hs := cntL s.hs t }] := by
  (first | refine FnD.go Tryz.call94 Tryz.func94 rfl rfl rfl ?_ | refine FnX.go Tryz.call94 Tryz.func94 rfl rfl rfl ?_)
  refine run_vault fun i h m e => ?_
  unfold vParts iParts
  (repeat (first | refine g ?_))
  refine s_call (vnone_spec q v i) ?_
  (repeat (first | refine g ?_))
  refine s_call (ihash_spec q i h m e s hs t) ?_
  (repeat (first | refine g ?_))
  exact run_ret rfl (imp_RD rfl (imp_vault shut))
end Go.Proofs.YtaiocnpecaecdaaGreatDoor.V
namespace Go.Proofs.YtaiocnpecaecdaaGreatDoor.V
open Go.Proofs.YtaiocnpecaecdaaGreatDoor.VL Go.Proofs.YtaiocnpecaecdaaGreatDoor.VL.RD
attribute [local irreducible] Run
theorem numB_size (n k : Nat) (h : 6 ≤ k) : (numB n k).size = k := by
  show (pad0 (leb n 6) k).toArray.size = k
  rw [List.size_toArray]; unfold pad0
  rw [List.length_append, leb_length, List.length_replicate]; omega
theorem cnt_le {α : Type} [DecidableEq α] (l : List α) (k : α) : cntN l k ≤ l.length + 1 ∧ (cntL l k).length ≤ l.length + 1 := by
  unfold cntN cntL
  cases hp : pos l k with
  | none => simp
  | some n => have := (pos_lt _ _ _ hp).1; simp only; omega
/-- What the hashes number: of each text its number. -/
theorem pos_snoc {α : Type} [DecidableEq α] (l : List α) (k b : α) : pos (l ++ [b]) k = match pos l k with | some n => some n | none => if k = b then some l.length else none := by
  induction l with
  | nil => rfl
  | cons c l ih =>
    rw [List.cons_append]
    unfold pos
    by_cases h : k = c
    · rw [if_pos h, if_pos h]
    · rw [if_neg h, if_neg h, ih]
      cases pos l k with
      | some n => rfl
      | none => by_cases h2 : k = b <;> simp [h2]
/-- A number that was given stays. -/
theorem pos_cnt {α : Type} [DecidableEq α] (l : List α) (k b : α) (n : Nat) (h : pos l k = some n) : pos (cntL l b) k = some n := by
  unfold cntL
  cases hb : pos l b with
  | some m => exact h
  | none => rw [pos_snoc, h]
theorem pos_new {α : Type} [DecidableEq α] (l : List α) (k : α) : pos (cntL l k) k = some (cntN l k - 1) ∧ 1 ≤ cntN l k := by
  unfold cntL cntN
  cases hb : pos l k with
  | some m => exact ⟨hb, by simp⟩
  | none => exact ⟨by simp only; rw [pos_snoc, hb]; simp, by simp⟩
end Go.Proofs.YtaiocnpecaecdaaGreatDoor.V
namespace Go.Proofs.YtaiocnpecaecdaaGreatDoor.V
open Go.Proofs.YtaiocnpecaecdaaGreatDoor.VL Go.Proofs.YtaiocnpecaecdaaGreatDoor.VL.RD
attribute [local irreducible] Run
theorem pos_cnt_ne {α : Type} [DecidableEq α] (l : List α) (k b : α) (h : k ≠ b) : pos (cntL l b) k = pos l k := by
  unfold cntL
  cases hb : pos l b with
  | some m => rfl
  | none =>
    show pos (l ++ [b]) k = _
    rw [pos_snoc]
    cases pos l k with
    | some n => rfl
    | none => simp [h]
end Go.Proofs.YtaiocnpecaecdaaGreatDoor.V
namespace Go.Proofs.YtaiocnpecaecdaaGreatDoor.V
open Go.Proofs.YtaiocnpecaecdaaGreatDoor.VL Go.Proofs.YtaiocnpecaecdaaGreatDoor.VL.RD
attribute [local irreducible] Run
/-- A step of a script. -/
structure OpT where
  kind : Int
  salt : Int
  nonce : ByteArray
  label : ByteArray
  text : ByteArray
  tag : ByteArray
def encOp (x : OpT) : List Value := [.int .i64 x.kind, .int .i64 x.salt, .string x.nonce, .string x.label, .string x.text, .string x.tag]
structure OpOk (x : OpT) : Prop where
  k0 : -9223372036854775808 ≤ x.kind
  k1 : x.kind ≤ 9223372036854775807
  s0 : -9223372036854775808 ≤ x.salt
  s1 : x.salt ≤ 9223372036854775807
  n : x.nonce.size ≤ 9223372036854775807
  l : x.label.size ≤ 9223372036854775807
  t : x.text.size ≤ 9223372036854775807
  g : x.tag.size ≤ 9223372036854775807
def OpsQ (q : View) (p : Option Addr) (l : List OpT) : Prop := RowQ q p l.length 6 (l.flatMap encOp) ∧ ∀ x ∈ l, OpOk x
theorem enc6 (l : List OpT) (i : Nat) (x : OpT) (h : l[i]? = some x) (j : Nat) (hj : j < 6) : (l.flatMap encOp)[i * 6 + j]? = (encOp x)[j]? := by
  induction l generalizing i with
  | nil => cases h
  | cons y l ih =>
    rw [List.flatMap_cons]
    have e5 : (encOp y).length = 6 := rfl
    cases i with
    | zero =>
      obtain rfl := Option.some.inj h
      rw [List.getElem?_append_left (by omega)]; congr 1; omega
    | succ i =>
      rw [List.getElem?_append_right (by omega), e5, show (i + 1) * 6 + j - 6 = i * 6 + j by omega]
      exact ih i h
theorem enc6_len (l : List OpT) : (l.flatMap encOp).length = l.length * 6 := by
  induction l with
  | nil => rfl
  | cons y l ih => rw [List.flatMap_cons, List.length_append, ih, List.length_cons]; show 6 + _ = _; omega
theorem enc6_all (l : List OpT) (i : Nat) (x : OpT) (h : l[i]? = some x) : ((l.flatMap encOp).drop (i * 6)).take 6 = encOp x := by
  apply List.ext_getElem?
  intro j
  rw [List.getElem?_take, List.getElem?_drop]
  split
  · rename_i hj; exact enc6 l i x h j hj
  · rename_i hj; rw [List.getElem?_eq_none]; show 6 ≤ j; omega
theorem OpsQ.at {q : View} {p : Option Addr} {l : List OpT} (h : OpsQ q p l) (i : Nat) (hi : i < l.length) : ∃ x b o, l[i]? = some x ∧ OpOk x ∧ p = some ⟨b, o, none⟩ ∧ Old q b o (l.flatMap encOp) ∧ ((l.flatMap encOp).drop (i * 6)).take 6 = encOp x ∧ i * 6 + 6 ≤ (l.flatMap encOp).length := by
  obtain ⟨x, hx⟩ : ∃ x, l[i]? = some x := ⟨_, List.getElem?_eq_getElem hi⟩
  obtain ⟨b, o, ep, ho⟩ := h.1.old (by omega)
  exact ⟨x, b, o, hx, h.2 x (List.mem_of_getElem? hx), ep, ho, enc6_all l i x hx, by rw [enc6_len]; omega⟩
theorem VOk.mono {n m : Nat} {s : VSt} (h : VOk n s) (hm : n ≤ m) : VOk m s := ⟨Nat.le_trans h.hs hm, Nat.le_trans h.ms hm, Nat.le_trans h.es hm, h.mo, h.eo⟩
end Go.Proofs.YtaiocnpecaecdaaGreatDoor.V
namespace Go.Proofs.YtaiocnpecaecdaaGreatDoor.V
open Go.Proofs.YtaiocnpecaecdaaGreatDoor.VL Go.Proofs.YtaiocnpecaecdaaGreatDoor.VL.RD
attribute [local irreducible] Run numB
theorem iseal_spec (q : View) (i h m e : Nat) (s : VSt) (hs : VOk 1000000 s) (n : Int) (no ad t : ByteArray) (ht : t.size ≤ 1000000) :
    FnD Tryz.prog q 163 [.pointer (some ⟨i, 0, none⟩), .int .i64 n, .string no, .string ad, .string t] (iParts i h m e s []) (.string (t ++ numB (cntN s.es (sealedK n no ad t)) 16)) (iParts i h m e { s with es := cntL s.es (sealedK n no ad t) } []) := by
  have hc := (cnt_le s.es (sealedK n no ad t)).1
  have hl := hs.es
  have hz := numB_size (cntN s.es (sealedK n no ad t)) 16 (by decide)
  (first | refine FnD.go Tryz.call163 Tryz.func163 rfl rfl rfl ?_ | refine FnX.go Tryz.call163 Tryz.func163 rfl rfl rfl ?_)
  unfold iParts
  (repeat (first | refine g ?_))
  refine s_call (countE_spec q e s.es hs.eo n no ad t (by omega)) ?_
  (repeat (first | refine g ?_))
  refine s_call (numbered_spec q (cntN s.es (sealedK n no ad t)) 16 (by omega) (by omega) (by omega)) ?_
  (repeat (first | refine g ?_))
  exact run_ret rfl (imp_RD rfl shut)
def wrongF (n : Int) (no : ByteArray) : Bool := decide (n < 0 ∨ 281474976710656 ≤ n ∨ no.size ≠ 12)
theorem vwrong_spec (q : View) (n : Int) (no : ByteArray) : FnD Tryz.prog q 162 [.int .i64 n, .string no] [] (.bool (wrongF n no)) [] := by
  unfold wrongF
  (first | refine FnD.go Tryz.call162 Tryz.func162 rfl rfl rfl ?_ | refine FnX.go Tryz.call162 Tryz.func162 rfl rfl rfl ?_)
  by_cases h0 : n < 0
  · rw [decide_eq_true (.inl h0)]
    (repeat (first | refine g ?_))
    exact run_ret rfl (imp_RD rfl shut)
  by_cases h1 : 281474976710656 ≤ n
  · rw [decide_eq_true (.inr (.inl h1))]
    (repeat (first | refine g ?_))
    exact run_ret rfl (imp_RD rfl shut)
  · have e : decide (n < 0 ∨ 281474976710656 ≤ n ∨ no.size ≠ 12) = decide ((no.size : Int) ≠ 12) := by rw [decide_eq_decide]; omega
    rw [e]
    (repeat (first | refine g ?_))
    exact run_ret rfl (imp_RD rfl shut)
def sealF (s : VSt) (n : Int) (no ad t : ByteArray) : (ByteArray × Int) × VSt := if wrongF n no = true then ((⟨#[]⟩, 1), s) else ((t ++ numB (cntN s.es (sealedK n no ad t)) 16, 0), { s with es := cntL s.es (sealedK n no ad t) })
theorem seal_spec (q : View) (v : Nat) (s : VSt) (hs : VOk 1000000 s) (n : Int) (no ad t : ByteArray) (ht : t.size ≤ 1000000) :
    FnD Tryz.prog q 125 [.pointer (some ⟨v, 0, none⟩), .int .i64 n, .string no, .string ad, .string t] [vaultAt v s] (.tuple #[.string (sealF s n no ad t).1.1, .int .i64 (sealF s n no ad t).1.2]) [vaultAt v (sealF s n no ad t).2] := by
  unfold sealF
  (first | refine FnD.go Tryz.call125 Tryz.func125 rfl rfl rfl ?_ | refine FnX.go Tryz.call125 Tryz.func125 rfl rfl rfl ?_)
  refine run_vault fun i h m e => ?_
  unfold vParts iParts
  (repeat (first | refine g ?_))
  refine s_call (vnone_spec q v i) ?_
  (repeat (first | refine g ?_))
  have cw := vwrong_spec q n no
  cases hw : wrongF n no with
  | true =>
    rw [hw] at cw
    refine s_call cw ?_
    (repeat (first | refine g ?_))
    exact run_ret rfl (imp_RD rfl (imp_vault shut))
  | false =>
    rw [hw] at cw
    refine s_call cw ?_
    (repeat (first | refine g ?_))
    refine s_call (iseal_spec q i h m e s hs n no ad t ht) ?_
    (repeat (first | refine g ?_))
    exact run_ret rfl (imp_RD rfl (imp_vault shut))
def iopenF (s : VSt) (n : Int) (no ad t : ByteArray) : ByteArray × Int :=
  match pos s.es (sealedK n no ad (t.extract 0 (t.size - 16))) with
  | some m => if t.extract (t.size - 16) t.size = numB (m + 1) 16 then (t.extract 0 (t.size - 16), 0) else (⟨#[]⟩, 10)
  | none => (⟨#[]⟩, 10)
set_option maxHeartbeats 1000000 in
theorem iopen_spec (q : View) (i h m e : Nat) (s : VSt) (hs : VOk 1000000 s) (n : Int) (no ad t : ByteArray) (h16 : 16 ≤ t.size) (ht : t.size ≤ 1000000) :
    FnD Tryz.prog q 197 [.pointer (some ⟨i, 0, none⟩), .int .i64 n, .string no, .string ad, .string t] (iParts i h m e s []) (.tuple #[.string (iopenF s n no ad t).1, .int .i64 (iopenF s n no ad t).2]) (iParts i h m e s []) := by
  have hl := hs.es
  have hk := sealed_find s.es hs.eo n no ad (t.extract 0 (t.size - 16))
  rw [findK_numd] at hk
  unfold iopenF
  have e1 : t.extract (0 : Int).toNat ((t.size : Int) - 16).toNat = t.extract 0 (t.size - 16) := by rw [show (0 : Int).toNat = 0 from rfl, show ((t.size : Int) - 16).toNat = t.size - 16 by omega]
  have e2 : t.extract ((t.size : Int) - 16).toNat (t.size : Int).toNat = t.extract (t.size - 16) t.size := by rw [Int.toNat_natCast, show ((t.size : Int) - 16).toNat = t.size - 16 by omega]
  (first | refine FnD.go Tryz.call197 Tryz.func197 rfl rfl rfl ?_ | refine FnX.go Tryz.call197 Tryz.func197 rfl rfl rfl ?_)
  unfold iParts mapK
  (repeat (first | refine g ?_ | refine s_flat 2 [(.pure, [0, 1, 2, 4, 5, 6, 7, 8, 9, 10]), (.mem true, [3, 11]), (.pure, [12, 13, 14, 15, 16])] ?_ | refine s_flat 3 [(.pure, [0, 1, 2, 3, 4, 5, 6]), (.mem false, [7]), (.pure, [8, 9])] ?_))
  rw [e1]
  (repeat (first | refine g ?_ | refine s_flat 2 [(.pure, [0, 1, 2, 4, 5, 6, 7, 8, 9, 10]), (.mem true, [3, 11]), (.pure, [12, 13, 14, 15, 16])] ?_ | refine s_flat 3 [(.pure, [0, 1, 2, 3, 4, 5, 6]), (.mem false, [7]), (.pure, [8, 9])] ?_))
  cases hp : pos s.es (sealedK n no ad (t.extract 0 (t.size - 16))) with
  | some mm =>
    rw [hp] at hk
    have hlt := (pos_lt s.es _ mm hp).1
    simp only [Option.map_some, Nat.zero_add] at hk
    dsimp only
    refine s_look2s (k := encK (sealedK n no ad (t.extract 0 (t.size - 16)))) hk ?_
    by_cases hn : t.extract (t.size - 16) t.size = numB (mm + 1) 16
    · rw [if_pos hn]
      (repeat (first | refine g ?_ | refine s_flat 2 [(.pure, [0, 1, 2, 4, 5, 6, 7, 8, 9, 10]), (.mem true, [3, 11]), (.pure, [12, 13, 14, 15, 16])] ?_ | refine s_flat 3 [(.pure, [0, 1, 2, 3, 4, 5, 6]), (.mem false, [7]), (.pure, [8, 9])] ?_))
      rw [e2]
      (repeat (first | refine g ?_ | refine s_flat 2 [(.pure, [0, 1, 2, 4, 5, 6, 7, 8, 9, 10]), (.mem true, [3, 11]), (.pure, [12, 13, 14, 15, 16])] ?_ | refine s_flat 3 [(.pure, [0, 1, 2, 3, 4, 5, 6]), (.mem false, [7]), (.pure, [8, 9])] ?_))
      refine s_call (numbered_spec q (mm + 1) 16 (by omega) (by omega) (by omega)) ?_
      have hx : ¬ (t.extract (t.size - 16) t.size ≠ numB (mm + 1) 16) := fun h => h hn
      (repeat (first | refine g ?_ | refine s_flat 2 [(.pure, [0, 1, 2, 4, 5, 6, 7, 8, 9, 10]), (.mem true, [3, 11]), (.pure, [12, 13, 14, 15, 16])] ?_ | refine s_flat 3 [(.pure, [0, 1, 2, 3, 4, 5, 6]), (.mem false, [7]), (.pure, [8, 9])] ?_))
      rw [e1]
      (repeat (first | refine g ?_ | refine s_flat 2 [(.pure, [0, 1, 2, 4, 5, 6, 7, 8, 9, 10]), (.mem true, [3, 11]), (.pure, [12, 13, 14, 15, 16])] ?_ | refine s_flat 3 [(.pure, [0, 1, 2, 3, 4, 5, 6]), (.mem false, [7]), (.pure, [8, 9])] ?_))
      exact run_ret rfl (imp_RD rfl shut)
    · rw [if_neg hn]
      have hx : t.extract (t.size - 16) t.size ≠ numB (mm + 1) 16 := hn
      (repeat (first | refine g ?_ | refine s_flat 2 [(.pure, [0, 1, 2, 4, 5, 6, 7, 8, 9, 10]), (.mem true, [3, 11]), (.pure, [12, 13, 14, 15, 16])] ?_ | refine s_flat 3 [(.pure, [0, 1, 2, 3, 4, 5, 6]), (.mem false, [7]), (.pure, [8, 9])] ?_))
      rw [e2]
      (repeat (first | refine g ?_ | refine s_flat 2 [(.pure, [0, 1, 2, 4, 5, 6, 7, 8, 9, 10]), (.mem true, [3, 11]), (.pure, [12, 13, 14, 15, 16])] ?_ | refine s_flat 3 [(.pure, [0, 1, 2, 3, 4, 5, 6]), (.mem false, [7]), (.pure, [8, 9])] ?_))
      refine s_call (numbered_spec q (mm + 1) 16 (by omega) (by omega) (by omega)) ?_
      (repeat (first | refine g ?_ | refine s_flat 2 [(.pure, [0, 1, 2, 4, 5, 6, 7, 8, 9, 10]), (.mem true, [3, 11]), (.pure, [12, 13, 14, 15, 16])] ?_ | refine s_flat 3 [(.pure, [0, 1, 2, 3, 4, 5, 6]), (.mem false, [7]), (.pure, [8, 9])] ?_))
      exact run_ret rfl (imp_RD rfl shut)
  | none =>
    rw [hp] at hk
    simp only [Option.map_none] at hk
    dsimp only
    refine s_look2n (k := encK (sealedK n no ad (t.extract 0 (t.size - 16)))) hk ?_
    (repeat (first | refine g ?_ | refine s_flat 2 [(.pure, [0, 1, 2, 4, 5, 6, 7, 8, 9, 10]), (.mem true, [3, 11]), (.pure, [12, 13, 14, 15, 16])] ?_ | refine s_flat 3 [(.pure, [0, 1, 2, 3, 4, 5, 6]), (.mem false, [7]), (.pure, [8, 9])] ?_))
    exact run_ret rfl (imp_RD rfl shut)
end Go.Proofs.YtaiocnpecaecdaaGreatDoor.V
namespace Go.Proofs.YtaiocnpecaecdaaGreatDoor.V
open Go.Proofs.YtaiocnpecaecdaaGreatDoor.VL Go.Proofs.YtaiocnpecaecdaaGreatDoor.VL.RD
attribute [local irreducible] Run numB
def openF (s : VSt) (n : Int) (no ad t : ByteArray) : ByteArray × Int := if wrongF n no = true then (⟨#[]⟩, 1) else if t.size < 16 then (⟨#[]⟩, 3) else iopenF s n no ad t
theorem open_spec (q : View) (v : Nat) (s : VSt) (hs : VOk 1000000 s) (n : Int) (no ad t : ByteArray) (ht : t.size ≤ 1000000) :
    FnD Tryz.prog q 181 [.pointer (some ⟨v, 0, none⟩), .int .i64 n, .string no, .string ad, .string t] [vaultAt v s] (.tuple #[.string (openF s n no ad t).1, .int .i64 (openF s n no ad t).2]) [vaultAt v s] := by
  unfold openF
  (first | refine FnD.go Tryz.call181 Tryz.func181 rfl rfl rfl ?_ | refine FnX.go Tryz.call181 Tryz.func181 rfl rfl rfl ?_)
  refine run_vault fun i h m e => ?_
  unfold vParts iParts
  (repeat (first | refine g ?_))
  refine s_call (vnone_spec q v i) ?_
  (repeat (first | refine g ?_))
  have cw := vwrong_spec q n no
  cases hw : wrongF n no with
  | true =>
    rw [hw] at cw
    refine s_call cw ?_
    (repeat (first | refine g ?_))
    exact run_ret rfl (imp_RD rfl (imp_vault shut))
  | false =>
    rw [hw] at cw
    refine s_call cw ?_
    by_cases h16 : t.size < 16
    · rw [if_neg (by decide), if_pos h16]
      (repeat (first | refine g ?_))
      exact run_ret rfl (imp_RD rfl (imp_vault shut))
    · rw [if_neg (by decide), if_neg h16]
      have c := iopen_spec q i h m e s hs n no ad t (by omega) ht
      (repeat (first | refine g ?_))
      refine s_call c ?_
      (repeat (first | refine g ?_))
      exact run_ret rfl (imp_RD rfl (imp_vault shut))
end Go.Proofs.YtaiocnpecaecdaaGreatDoor.V
namespace Go.Proofs.YtaiocnpecaecdaaGreatDoor.V
open Go.Proofs.YtaiocnpecaecdaaGreatDoor.VL Go.Proofs.YtaiocnpecaecdaaGreatDoor.VL.RD
attribute [local irreducible] Run
theorem noughts_spec (q : View) (n : Nat) (hn : n ≤ 16777216) : FnD Tryz.prog q 73 [.int .i64 n] [] (.string ⟨(List.replicate n (0 : UInt8)).toArray⟩) [] := by
  (first | refine FnD.go Tryz.call73 Tryz.func73 rfl rfl rfl ?_ | refine FnX.go Tryz.call73 Tryz.func73 rfl rfl rfl ?_)
  (repeat (first | refine g ?_))
  refine s_made 1 n n fun r => ?_
  rw [zeroL_one _ rfl]
  (repeat (first | refine g ?_))
  refine s_stringc (m := n) (o := 0) (c := ⟨List.replicate n (.int .u8 0)⟩) (l := List.replicate n 0) (by simp) (by simp [bv]) ?_
  (repeat (first | refine g ?_))
  exact run_ret rfl (imp_RD rfl shut)
end Go.Proofs.YtaiocnpecaecdaaGreatDoor.V
namespace Go.Proofs.YtaiocnpecaecdaaGreatDoor.V
open Go.Proofs.YtaiocnpecaecdaaGreatDoor.VL Go.Proofs.YtaiocnpecaecdaaGreatDoor.VL.RD Go.Proofs.YtaiocnpecaecdaaGreatDoor.VL.Sha
attribute [local irreducible] Run
structure HeadT where
  vol : Int
  addr : Int
  kind : Int
  ino : Int
  gen : Int
  index : Int
  ver : Int
  salt : Int
  deriving DecidableEq
def encH (h : HeadT) : List Value := [.int .i64 h.vol, .int .i64 h.addr, .int .i64 h.kind, .int .i64 h.ino, .int .i64 h.gen, .int .i64 h.index, .int .i64 h.ver, .int .i64 h.salt]
structure HeadOk (h : HeadT) : Prop where
  v0 : -9223372036854775808 ≤ h.vol
  v1 : h.vol ≤ 9223372036854775807
  a0 : -9223372036854775808 ≤ h.addr
  a1 : h.addr ≤ 9223372036854775807
  k0 : -9223372036854775808 ≤ h.kind
  k1 : h.kind ≤ 9223372036854775807
  i0 : -9223372036854775808 ≤ h.ino
  i1 : h.ino ≤ 9223372036854775807
  g0 : -9223372036854775808 ≤ h.gen
  g1 : h.gen ≤ 9223372036854775807
  x0 : -9223372036854775808 ≤ h.index
  x1 : h.index ≤ 9223372036854775807
  r0 : -9223372036854775808 ≤ h.ver
  r1 : h.ver ≤ 9223372036854775807
  s0 : -9223372036854775808 ≤ h.salt
  s1 : h.salt ≤ 9223372036854775807
def fldH (h : HeadT) : List (Int × Nat) := [(h.vol, 6), (h.addr, 4), (h.kind, 2), (h.ino, 4), (h.gen, 4), (h.index, 4), (h.ver, 6), (h.salt, 6)]
def okN (x : Int × Nat) : Bool := decide (0 ≤ x.1 ∧ x.1 / 2 ^ (8 * x.2) = 0)
def numsL (l : List (Int × Nat)) : List UInt8 := l.flatMap fun x => leb x.1.toNat x.2
def magicL : List UInt8 := [71, 82, 80, 78]
def headL (h : HeadT) : List UInt8 := magicL ++ numsL (fldH h) ++ List.replicate 8 0
def headF (h : HeadT) : ByteArray × Int := if (fldH h).all okN = true then (bl (headL h), 0) else (⟨#[]⟩, 2)
def wputs (s : List UInt8 × Bool) (l : List (Int × Nat)) : List UInt8 × Bool := l.foldl (fun s x => wput s.1 s.2 x.1 x.2) s
theorem wput_ok (s : List UInt8 × Bool) (x : Int × Nat) (h : okN x = true) : wput s.1 s.2 x.1 x.2 = (s.1 ++ leb x.1.toNat x.2, s.2) := by
  have h := of_decide_eq_true h
  unfold wput
  rw [if_neg (by rintro (h1 | h1); omega; exact h1 h.2)]
theorem wput_no (s : List UInt8 × Bool) (x : Int × Nat) (h : okN x = false) : (wput s.1 s.2 x.1 x.2).2 = true := by
  have h := of_decide_eq_false h
  unfold wput
  rw [if_pos (by
    by_cases h1 : x.1 < 0
    · exact .inl h1
    · exact .inr (fun h2 => h ⟨by omega, h2⟩))]
theorem wput_keep (s : List UInt8 × Bool) (x : Int × Nat) (h : s.2 = true) : (wput s.1 s.2 x.1 x.2).2 = true := by
  unfold wput
  split
  · rfl
  · exact h
theorem wputs_keep (l : List (Int × Nat)) : ∀ s : List UInt8 × Bool, s.2 = true → (wputs s l).2 = true := by
  induction l with
  | nil => exact fun s h => h
  | cons x l ih => exact fun s h => ih _ (wput_keep s x h)
theorem wputs_ok (l : List (Int × Nat)) : ∀ s : List UInt8 × Bool, l.all okN = true → wputs s l = (s.1 ++ numsL l, s.2) := by
  induction l with
  | nil => intro s _; simp [wputs, numsL]
  | cons x l ih =>
    intro s h
    rw [List.all_cons, Bool.and_eq_true] at h
    show wputs (wput s.1 s.2 x.1 x.2) l = _
    rw [wput_ok s x h.1, ih _ h.2]
    simp [numsL, List.append_assoc]
theorem wputs_no (l : List (Int × Nat)) : ∀ s : List UInt8 × Bool, l.all okN = false → (wputs s l).2 = true := by
  induction l with
  | nil => intro s h; cases h
  | cons x l ih =>
    intro s h
    show (wputs (wput s.1 s.2 x.1 x.2) l).2 = true
    cases hx : okN x with
    | false => exact wputs_keep l _ (wput_no s x hx)
    | true =>
      rw [List.all_cons, hx, Bool.true_and] at h
      exact ih _ h
theorem wput_len (s : List UInt8 × Bool) (x : Int) (w : Nat) : (wput s.1 s.2 x w).1.length ≤ s.1.length + w := by
  unfold wput
  split
  · exact Nat.le_add_right _ _
  · show (s.1 ++ leb _ _).length ≤ _
    rw [List.length_append, leb_length]; exact Nat.le_refl _
theorem numsL_len (l : List (Int × Nat)) : (numsL l).length = (l.map (·.2)).sum := by
  unfold numsL
  rw [List.length_flatMap]
  congr 1
  exact List.map_congr_left fun x _ => leb_length _ _
theorem headL_len (h : HeadT) : (headL h).length = 48 := by
  unfold headL
  rw [List.length_append, List.length_append, numsL_len, List.length_replicate]; rfl
theorem head_spec (q : View) (h : HeadT) (hh : HeadOk h) : FnD Tryz.prog q 124 [.agg ⟨encH h⟩] [] (.tuple #[.string (headF h).1, .int .i64 (headF h).2]) [] := by
  obtain ⟨v0, v1, a0, a1, k0, k1, i0, i1, g0, g1, x0, x1, r0, r1, s0, s1⟩ := hh
  unfold encH
  (first | refine FnD.go Tryz.call124 Tryz.func124 rfl rfl rfl ?_ | refine FnX.go Tryz.call124 Tryz.func124 rfl rfl rfl ?_)
  (repeat (first | refine g ?_))
  refine s_box fun b => ?_
  (repeat (first | refine g ?_))
  refine s_built fun rb => ?_
  (repeat (first | refine g ?_))
  refine s_mark ?_
  refine s_ceq rb (bv magicL) ?_ ?_
  · rfl
  refine run_to_sl (n := 4) (kk := 1) rfl ?_
  (repeat (first | refine g ?_))
  refine s_alloc fun w => ?_
  (repeat (first | refine g ?_))
  refine run_to_writer (l := magicL) ?_
  have hm : magicL.length = 4 := rfl
  refine s_call (wput_spec q w magicL false h.vol 6 (by decide) v1 (by omega)) ?_
  obtain ⟨t1, e1⟩ : ∃ t, t = wput magicL false h.vol 6 := ⟨_, rfl⟩
  have z1 := wput_len (magicL, false) h.vol 6
  dsimp only at z1
  rw [← e1] at z1 ⊢
  (repeat (first | refine g ?_))
  refine s_call (wput_spec q w t1.1 t1.2 h.addr 4 (by decide) a1 (by omega)) ?_
  obtain ⟨t2, e2⟩ : ∃ t, t = wput t1.1 t1.2 h.addr 4 := ⟨_, rfl⟩
  have z2 := wput_len t1 h.addr 4
  rw [← e2] at z2 ⊢
  (repeat (first | refine g ?_))
  refine s_call (wput_spec q w t2.1 t2.2 h.kind 2 (by decide) k1 (by omega)) ?_
  obtain ⟨t3, e3⟩ : ∃ t, t = wput t2.1 t2.2 h.kind 2 := ⟨_, rfl⟩
  have z3 := wput_len t2 h.kind 2
  rw [← e3] at z3 ⊢
  (repeat (first | refine g ?_))
  refine s_call (wput_spec q w t3.1 t3.2 h.ino 4 (by decide) i1 (by omega)) ?_
  obtain ⟨t4, e4⟩ : ∃ t, t = wput t3.1 t3.2 h.ino 4 := ⟨_, rfl⟩
  have z4 := wput_len t3 h.ino 4
  rw [← e4] at z4 ⊢
  (repeat (first | refine g ?_))
  refine s_call (wput_spec q w t4.1 t4.2 h.gen 4 (by decide) g1 (by omega)) ?_
  obtain ⟨t5, e5⟩ : ∃ t, t = wput t4.1 t4.2 h.gen 4 := ⟨_, rfl⟩
  have z5 := wput_len t4 h.gen 4
  rw [← e5] at z5 ⊢
  (repeat (first | refine g ?_))
  refine s_call (wput_spec q w t5.1 t5.2 h.index 4 (by decide) x1 (by omega)) ?_
  obtain ⟨t6, e6⟩ : ∃ t, t = wput t5.1 t5.2 h.index 4 := ⟨_, rfl⟩
  have z6 := wput_len t5 h.index 4
  rw [← e6] at z6 ⊢
  (repeat (first | refine g ?_))
  refine s_call (wput_spec q w t6.1 t6.2 h.ver 6 (by decide) r1 (by omega)) ?_
  obtain ⟨t7, e7⟩ : ∃ t, t = wput t6.1 t6.2 h.ver 6 := ⟨_, rfl⟩
  have z7 := wput_len t6 h.ver 6
  rw [← e7] at z7 ⊢
  (repeat (first | refine g ?_))
  refine s_call (wput_spec q w t7.1 t7.2 h.salt 6 (by decide) s1 (by omega)) ?_
  obtain ⟨t8, e8⟩ : ∃ t, t = wput t7.1 t7.2 h.salt 6 := ⟨_, rfl⟩
  have z8 := wput_len t7 h.salt 6
  rw [← e8] at z8 ⊢
  have hw : t8 = wputs (magicL, false) (fldH h) := by rw [e8, e7, e6, e5, e4, e3, e2, e1]; rfl
  obtain ⟨L, bad⟩ := t8
  dsimp only at z8 ⊢
  refine run_writer fun p c => ?_
  cases hok : (fldH h).all okN with
  | false =>
    have hb : bad = true := by
      have := wputs_no (fldH h) (magicL, false) hok
      rw [← hw] at this; exact this
    subst hb
    unfold headF
    rw [hok, if_neg (by decide)]
    (repeat (first | refine g ?_))
    exact run_ret rfl (imp_RD rfl shut)
  | true =>
    have hb := wputs_ok (fldH h) (magicL, false) hok
    rw [← hw] at hb
    dsimp only at hb
    obtain ⟨rfl, rfl⟩ := Prod.mk.inj hb
    have hl : (magicL ++ numsL (fldH h)).length = 40 := by rw [List.length_append, numsL_len]; rfl
    have cf := full_spec q w (magicL ++ numsL (fldH h)) false 48 (by decide) (by omega)
    have he : pad0 (magicL ++ numsL (fldH h)) 48 = headL h := by unfold pad0 headL; rw [hl]
    unfold headF
    rw [hok, if_pos rfl]
    rw [he] at cf
    (repeat (first | refine g ?_))
    refine run_to_writer ?_
    refine s_call cf ?_
    (repeat (first | refine g ?_))
    exact run_ret rfl (imp_RD rfl shut)
end Go.Proofs.YtaiocnpecaecdaaGreatDoor.V
namespace Go.Proofs.YtaiocnpecaecdaaGreatDoor.V
open Go.Proofs.YtaiocnpecaecdaaGreatDoor.VL Go.Proofs.YtaiocnpecaecdaaGreatDoor.VL.RD Go.Proofs.YtaiocnpecaecdaaGreatDoor.VL.Sha
attribute [local irreducible] Run
theorem text_spec (q : View) (b o n : Nat) (s : ByteArray) (h : o + n ≤ s.size) (hs : s.size ≤ 1000000) :
    FnD Tryz.prog q 138 [.pointer (some ⟨b, 0, none⟩), .int .i64 (n : Int)] [cells b 213 ⟨[.string s, .int .i64 (o : Int)]⟩] (.string (s.extract o (o + n))) [cells b 213 ⟨[.string s, .int .i64 ((o + n : Nat) : Int)]⟩] := by
  (first | refine FnD.go Tryz.call138 Tryz.func138 rfl rfl rfl ?_ | refine FnX.go Tryz.call138 Tryz.func138 rfl rfl rfl ?_)
  (repeat (first | refine g ?_ | refine s_flat 1 [(.pure, [0, 1, 2, 3, 6, 7, 8]), (.mem true, [4]), (.pure, [5]), (.mem true, [9]), (.pure, [10, 11])] ?_ | refine s_flat 3 [(.pure, [0, 1, 2, 4, 5, 6, 8, 9, 10, 12]), (.mem true, [3, 7, 11]), (.pure, [13, 14, 15])] ?_))
  rw [show ((o : Int) + (n : Int)) = ((o + n : Nat) : Int) from (Int.natCast_add o n).symm, Int.toNat_natCast, Int.toNat_natCast]
  exact run_ret rfl (imp_RD rfl shut)
def headP (s : ByteArray) : HeadT := ⟨(lev s.data.toList 4 6 : Nat), (lev s.data.toList 10 4 : Nat), (lev s.data.toList 14 2 : Nat), (lev s.data.toList 16 4 : Nat), (lev s.data.toList 20 4 : Nat), (lev s.data.toList 24 4 : Nat), (lev s.data.toList 28 6 : Nat), (lev s.data.toList 34 6 : Nat)⟩
def zeroH : HeadT := ⟨0, 0, 0, 0, 0, 0, 0, 0⟩
def headOfF (s : ByteArray) : HeadT × Int := if s.extract 40 48 = bl (List.replicate 8 0) ∧ s.extract 0 4 = bl magicL then (headP s, 0) else (zeroH, 5)
theorem headOf_gave (q : View) (x : Value) : DefT Tryz.prog q 140 #[x] hemp hemp := def_gave Tryz.func140 rfl rfl rfl (gave_nil q)
theorem headOf_callable : Callable Tryz.prog 140 := Tryz.call140
theorem headOf_spec (q : View) (s : ByteArray) (hz : s.size = 48) : FnD Tryz.prog q 93 [.string s] [] (.tuple #[.agg ⟨encH (headOfF s).1⟩, .int .i64 (headOfF s).2]) [] := by
  unfold headOfF
  obtain ⟨U, hU⟩ : ∃ U, U = s.extract 40 48 := ⟨_, rfl⟩
  obtain ⟨M, hM⟩ : ∃ M, M = s.extract 0 4 := ⟨_, rfl⟩
  rw [← hU, ← hM, show bl (List.replicate 8 0) = ⟨#[0, 0, 0, 0, 0, 0, 0, 0]⟩ from rfl, show bl magicL = ⟨#[71, 82, 80, 78]⟩ from rfl]
  (first | refine FnD.go Tryz.call93 Tryz.func93 rfl rfl rfl ?_ | refine FnX.go Tryz.call93 Tryz.func93 rfl rfl rfl ?_)
  (repeat (first | refine g ?_))
  refine s_alloc fun r2 => ?_
  (repeat (first | refine g ?_))
  refine s_alloc fun r3 => ?_
  (repeat (first | refine g ?_))
  refine s_defer ?_
  (repeat (first | refine g ?_))
  refine s_alloc fun c => ?_
  have t0 : FnD Tryz.prog q 138 [.pointer (some ⟨c, 0, none⟩), .int .i64 4] [cells c 213 ⟨[.string s, .int .i64 0]⟩] (.string (s.extract 0 4)) [cells c 213 ⟨[.string s, .int .i64 4]⟩] := text_spec q c 0 4 s (by omega) (by omega)
  have k1 : FnD Tryz.prog q 137 [.pointer (some ⟨c, 0, none⟩), .int .i64 6] [cells c 213 ⟨[.string s, .int .i64 4]⟩] (.int .i64 (lev s.data.toList 4 6 : Nat)) [cells c 213 ⟨[.string s, .int .i64 10]⟩] := take_spec q c 4 6 s (by omega) (by omega) (by omega)
  have k2 : FnD Tryz.prog q 137 [.pointer (some ⟨c, 0, none⟩), .int .i64 4] [cells c 213 ⟨[.string s, .int .i64 10]⟩] (.int .i64 (lev s.data.toList 10 4 : Nat)) [cells c 213 ⟨[.string s, .int .i64 14]⟩] := take_spec q c 10 4 s (by omega) (by omega) (by omega)
  have k3 : FnD Tryz.prog q 137 [.pointer (some ⟨c, 0, none⟩), .int .i64 2] [cells c 213 ⟨[.string s, .int .i64 14]⟩] (.int .i64 (lev s.data.toList 14 2 : Nat)) [cells c 213 ⟨[.string s, .int .i64 16]⟩] := take_spec q c 14 2 s (by omega) (by omega) (by omega)
  have k4 : FnD Tryz.prog q 137 [.pointer (some ⟨c, 0, none⟩), .int .i64 4] [cells c 213 ⟨[.string s, .int .i64 16]⟩] (.int .i64 (lev s.data.toList 16 4 : Nat)) [cells c 213 ⟨[.string s, .int .i64 20]⟩] := take_spec q c 16 4 s (by omega) (by omega) (by omega)
  have k5 : FnD Tryz.prog q 137 [.pointer (some ⟨c, 0, none⟩), .int .i64 4] [cells c 213 ⟨[.string s, .int .i64 20]⟩] (.int .i64 (lev s.data.toList 20 4 : Nat)) [cells c 213 ⟨[.string s, .int .i64 24]⟩] := take_spec q c 20 4 s (by omega) (by omega) (by omega)
  have k6 : FnD Tryz.prog q 137 [.pointer (some ⟨c, 0, none⟩), .int .i64 4] [cells c 213 ⟨[.string s, .int .i64 24]⟩] (.int .i64 (lev s.data.toList 24 4 : Nat)) [cells c 213 ⟨[.string s, .int .i64 28]⟩] := take_spec q c 24 4 s (by omega) (by omega) (by omega)
  have k7 : FnD Tryz.prog q 137 [.pointer (some ⟨c, 0, none⟩), .int .i64 6] [cells c 213 ⟨[.string s, .int .i64 28]⟩] (.int .i64 (lev s.data.toList 28 6 : Nat)) [cells c 213 ⟨[.string s, .int .i64 34]⟩] := take_spec q c 28 6 s (by omega) (by omega) (by omega)
  have k8 : FnD Tryz.prog q 137 [.pointer (some ⟨c, 0, none⟩), .int .i64 6] [cells c 213 ⟨[.string s, .int .i64 34]⟩] (.int .i64 (lev s.data.toList 34 6 : Nat)) [cells c 213 ⟨[.string s, .int .i64 40]⟩] := take_spec q c 34 6 s (by omega) (by omega) (by omega)
  have t9 : FnD Tryz.prog q 138 [.pointer (some ⟨c, 0, none⟩), .int .i64 8] [cells c 213 ⟨[.string s, .int .i64 40]⟩] (.string (s.extract 40 48)) [cells c 213 ⟨[.string s, .int .i64 48]⟩] := text_spec q c 40 8 s (by omega) (by omega)
  rw [← hU] at t9
  rw [← hM] at t0
  have hP : headP s = ⟨(lev s.data.toList 4 6 : Nat), (lev s.data.toList 10 4 : Nat), (lev s.data.toList 14 2 : Nat), (lev s.data.toList 16 4 : Nat), (lev s.data.toList 20 4 : Nat), (lev s.data.toList 24 4 : Nat), (lev s.data.toList 28 6 : Nat), (lev s.data.toList 34 6 : Nat)⟩ := rfl
  (repeat (first | refine g ?_))
  refine s_call t0 ?_
  (repeat (first | refine g ?_))
  refine s_call k1 ?_
  (repeat (first | refine g ?_))
  refine s_call k2 ?_
  (repeat (first | refine g ?_))
  refine s_call k3 ?_
  (repeat (first | refine g ?_))
  refine s_call k4 ?_
  (repeat (first | refine g ?_))
  refine s_call k5 ?_
  (repeat (first | refine g ?_))
  refine s_call k6 ?_
  (repeat (first | refine g ?_))
  refine s_call k7 ?_
  (repeat (first | refine g ?_))
  refine s_call k8 ?_
  (repeat (first | refine g ?_))
  refine s_alloc fun rh => ?_
  (repeat (first | refine g ?_))
  refine s_call t9 ?_
  by_cases h1 : U ≠ ⟨#[0, 0, 0, 0, 0, 0, 0, 0]⟩
  · rw [if_neg (fun hh => h1 hh.1)]
    (repeat (first | refine g ?_))
    refine run_retD2 (Bs := []) (Cs := []) (headOf_gave q _) headOf_callable (imp_RD ?_ shut) rfl (res_cell tabOk rfl rfl rfl (by repeat (first | (with_reducible exact At.head) | apply At.tail)) rfl) (res_cell1 tabOk rfl rfl rfl (by repeat (first | (with_reducible exact At.head) | apply At.tail))) Pulls.nil (hM := rfl)
    rfl
  · by_cases h2 : M ≠ ⟨#[71, 82, 80, 78]⟩
    · rw [if_neg (fun hh => h2 hh.2)]
      (repeat (first | refine g ?_))
      refine run_retD2 (Bs := []) (Cs := []) (headOf_gave q _) headOf_callable (imp_RD ?_ shut) rfl (res_cell tabOk rfl rfl rfl (by repeat (first | (with_reducible exact At.head) | apply At.tail)) rfl) (res_cell1 tabOk rfl rfl rfl (by repeat (first | (with_reducible exact At.head) | apply At.tail))) Pulls.nil (hM := rfl)
      rfl
    · rw [if_pos ⟨Classical.not_not.1 h1, Classical.not_not.1 h2⟩]
      (repeat (first | refine g ?_))
      refine run_retD2 (Bs := []) (Cs := []) (headOf_gave q _) headOf_callable (imp_RD ?_ shut) rfl (res_cell tabOk rfl rfl rfl (by repeat (first | (with_reducible exact At.head) | apply At.tail)) rfl) (res_cell1 tabOk rfl rfl rfl (by repeat (first | (with_reducible exact At.head) | apply At.tail))) Pulls.nil (hM := rfl)
      rfl
end Go.Proofs.YtaiocnpecaecdaaGreatDoor.V
namespace Go.Proofs.YtaiocnpecaecdaaGreatDoor.V
open Go.Proofs.YtaiocnpecaecdaaGreatDoor.VL Go.Proofs.YtaiocnpecaecdaaGreatDoor.VL.RD Go.Proofs.YtaiocnpecaecdaaGreatDoor.VL.Sha
attribute [local irreducible] Run numB
def nonceB (h : HeadT) : ByteArray := bl (leb h.addr.toNat 4 ++ leb h.ver.toNat 6 ++ [0, 0])
theorem putF_ok (x : Int × Nat) (h : okN x = true) (h1 : 1 ≤ x.2) (h6 : x.2 ≤ 6) : V.putF x.1 x.2 = (bl (leb x.1.toNat x.2), 0) := by
  have h := of_decide_eq_true h
  unfold V.putF
  rw [if_neg (by omega), if_neg (by rw [Int.toNat_natCast]; rintro (h2 | h2); omega; exact h2 h.2), Int.toNat_natCast]
  rfl
theorem nonce_spec (q : View) (h : HeadT) (ha : okN (h.addr, 4) = true) (hv : okN (h.ver, 6) = true) (a1 : h.addr ≤ 9223372036854775807) (r1 : h.ver ≤ 9223372036854775807) :
    FnD Tryz.prog q 126 [.agg ⟨encH h⟩] [] (.string (nonceB h)) [] := by
  have c1 := put_spec q h.addr 4 a1
  have e1 := putF_ok (h.addr, 4) ha (by show 1 ≤ 4; decide) (by show 4 ≤ 6; decide)
  dsimp only at e1
  rw [show ((4 : Nat) : Int) = 4 from rfl] at e1
  rw [e1] at c1
  have c2 := put_spec q h.ver 6 r1
  have e2 := putF_ok (h.ver, 6) hv (by show 1 ≤ 6; decide) (by show 6 ≤ 6; decide)
  dsimp only at e2
  rw [show ((6 : Nat) : Int) = 6 from rfl] at e2
  rw [e2] at c2
  have e3 : (bl (leb h.addr.toNat 4) ++ bl (leb h.ver.toNat 6)) ++ (⟨#[0, 0]⟩ : ByteArray) = nonceB h := by
    unfold nonceB bl
    exact ByteArray.ext (by simp)
  have z1 : (bl (leb h.addr.toNat 4)).size = 4 := by show (leb h.addr.toNat 4).toArray.size = 4; rw [List.size_toArray, leb_length]
  have z2 : (bl (leb h.ver.toNat 6)).size = 6 := by show (leb h.ver.toNat 6).toArray.size = 6; rw [List.size_toArray, leb_length]
  have z3 : (⟨#[0, 0]⟩ : ByteArray).size = 2 := rfl
  obtain ⟨X, hX⟩ : ∃ X, X = bl (leb h.addr.toNat 4) := ⟨_, rfl⟩
  obtain ⟨Y, hY⟩ : ∃ Y, Y = bl (leb h.ver.toNat 6) := ⟨_, rfl⟩
  rw [← hX] at z1
  rw [← hY] at z2
  have z4 : (X ++ Y).size = 10 := by rw [ByteArray.size_append]; omega
  rw [← hX] at c1 e3
  rw [← hY] at c2 e3
  unfold encH
  dsimp only at c1 c2
  (first | refine FnD.go Tryz.call126 Tryz.func126 rfl rfl rfl ?_ | refine FnX.go Tryz.call126 Tryz.func126 rfl rfl rfl ?_)
  (repeat (first | refine g ?_))
  refine s_box fun b => ?_
  (repeat (first | refine g ?_))
  refine s_call c1 ?_
  (repeat (first | refine g ?_))
  refine s_call c2 ?_
  (repeat (first | refine g ?_))
  rw [e3]
  exact run_ret rfl (imp_RD rfl shut)
theorem ok_nonce {h : HeadT} (hok : (fldH h).all okN = true) : okN (h.addr, 4) = true ∧ okN (h.ver, 6) = true := by
  unfold fldH at hok
  simp only [List.all_cons, List.all_nil, Bool.and_eq_true] at hok
  exact ⟨hok.2.1, hok.2.2.2.2.2.2.1⟩
theorem bseal_len (q : View) (v : Value) (V : HProp) (h : HeadT) (body : ByteArray) (hz : body.size ≠ 448) :
    FnD Tryz.prog q 68 [v, .agg ⟨encH h⟩, .string body] [V] (.tuple #[.string ⟨#[]⟩, .int .i64 1]) [V] := by
  (first | refine FnD.go Tryz.call68 Tryz.func68 rfl rfl rfl ?_ | refine FnX.go Tryz.call68 Tryz.func68 rfl rfl rfl ?_)
  (repeat (first | refine g ?_))
  refine s_box fun b => ?_
  (repeat (first | refine g ?_))
  exact run_ret rfl (imp_RD rfl shut)
theorem bseal_no (q : View) (v : Value) (V : HProp) (h : HeadT) (hh : HeadOk h) (body : ByteArray) (hz : body.size = 448) (hok : (fldH h).all okN = false) :
    FnD Tryz.prog q 68 [v, .agg ⟨encH h⟩, .string body] [V] (.tuple #[.string ⟨#[]⟩, .int .i64 2]) [V] := by
  have ch := head_spec q h hh
  unfold headF at ch
  rw [if_neg (by rw [hok]; decide)] at ch
  (first | refine FnD.go Tryz.call68 Tryz.func68 rfl rfl rfl ?_ | refine FnX.go Tryz.call68 Tryz.func68 rfl rfl rfl ?_)
  (repeat (first | refine g ?_))
  refine s_box fun b => ?_
  (repeat (first | refine g ?_))
  refine s_call ch ?_
  (repeat (first | refine g ?_))
  exact run_ret rfl (imp_RD rfl shut)
theorem headL_size (h : HeadT) : (bl (headL h)).size = 48 := by show (headL h).toArray.size = 48; rw [List.size_toArray, headL_len]
theorem bseal_call (q : View) (v : Value) (V V' : HProp) (h : HeadT) (hh : HeadOk h) (body : ByteArray) (hz : body.size = 448) (hok : (fldH h).all okN = true) (F : ByteArray) (e : Int) (hF : F.size ≤ 1000000)
    (hc : FnD Tryz.prog q 125 [v, .int .i64 h.salt, .string (nonceB h), .string (bl (headL h)), .string body] [V] (.tuple #[.string F, .int .i64 e]) [V']) :
    FnD Tryz.prog q 68 [v, .agg ⟨encH h⟩, .string body] [V] (.tuple #[.string (if e = 0 then bl (headL h) ++ F else ⟨#[]⟩), .int .i64 e]) [V'] := by
  have ch := head_spec q h hh
  unfold headF at ch
  rw [if_pos hok] at ch
  have cn := nonce_spec q h (ok_nonce hok).1 (ok_nonce hok).2 hh.a1 hh.r1
  have zH := headL_size h
  obtain ⟨H, hH⟩ : ∃ H, H = bl (headL h) := ⟨_, rfl⟩
  rw [← hH] at ch hc zH ⊢
  dsimp only at ch
  (first | refine FnD.go Tryz.call68 Tryz.func68 rfl rfl rfl ?_ | refine FnX.go Tryz.call68 Tryz.func68 rfl rfl rfl ?_)
  (repeat (first | refine g ?_))
  refine s_box fun b => ?_
  (repeat (first | refine g ?_))
  refine s_call ch ?_
  (repeat (first | refine g ?_))
  refine d_start [V] ?_
  (first | refine d_pure 0 ?_ | refine d_load 0 ?_ | refine d_arith 0 ?_ | refine d_rem 0 ?_ | refine d_quo 0 ?_ | refine d_shrv 0 ?_ | refine d_fieldat 0 ?_ | refine d_idx1 0 ?_ | refine d_index 0 ?_ | refine d_conv64 0 ?_ | refine d_slices 0 ?_ | refine d_concat 0 ?_ | refine d_build 0 ?_)
  (first | refine d_pure 1 ?_ | refine d_load 1 ?_ | refine d_arith 1 ?_ | refine d_rem 1 ?_ | refine d_quo 1 ?_ | refine d_shrv 1 ?_ | refine d_fieldat 1 ?_ | refine d_idx1 1 ?_ | refine d_index 1 ?_ | refine d_conv64 1 ?_ | refine d_slices 1 ?_ | refine d_concat 1 ?_ | refine d_build 1 ?_)
  (first | refine d_pure 2 ?_ | refine d_load 2 ?_ | refine d_arith 2 ?_ | refine d_rem 2 ?_ | refine d_quo 2 ?_ | refine d_shrv 2 ?_ | refine d_fieldat 2 ?_ | refine d_idx1 2 ?_ | refine d_index 2 ?_ | refine d_conv64 2 ?_ | refine d_slices 2 ?_ | refine d_concat 2 ?_ | refine d_build 2 ?_)
  refine d_getall 3 rfl ?_
  (first | refine d_pure 5 ?_ | refine d_load 5 ?_ | refine d_arith 5 ?_ | refine d_rem 5 ?_ | refine d_quo 5 ?_ | refine d_shrv 5 ?_ | refine d_fieldat 5 ?_ | refine d_idx1 5 ?_ | refine d_index 5 ?_ | refine d_conv64 5 ?_ | refine d_slices 5 ?_ | refine d_concat 5 ?_ | refine d_build 5 ?_)
  (first | refine d_pure 6 ?_ | refine d_load 6 ?_ | refine d_arith 6 ?_ | refine d_rem 6 ?_ | refine d_quo 6 ?_ | refine d_shrv 6 ?_ | refine d_fieldat 6 ?_ | refine d_idx1 6 ?_ | refine d_index 6 ?_ | refine d_conv64 6 ?_ | refine d_slices 6 ?_ | refine d_concat 6 ?_ | refine d_build 6 ?_)
  refine d_call 4 cn ?_
  refine d_call 7 hc ?_
  (first | refine d_pure 8 ?_ | refine d_load 8 ?_ | refine d_arith 8 ?_ | refine d_rem 8 ?_ | refine d_quo 8 ?_ | refine d_shrv 8 ?_ | refine d_fieldat 8 ?_ | refine d_idx1 8 ?_ | refine d_index 8 ?_ | refine d_conv64 8 ?_ | refine d_slices 8 ?_ | refine d_concat 8 ?_ | refine d_build 8 ?_)
  (first | refine d_pure 9 ?_ | refine d_load 9 ?_ | refine d_arith 9 ?_ | refine d_rem 9 ?_ | refine d_quo 9 ?_ | refine d_shrv 9 ?_ | refine d_fieldat 9 ?_ | refine d_idx1 9 ?_ | refine d_index 9 ?_ | refine d_conv64 9 ?_ | refine d_slices 9 ?_ | refine d_concat 9 ?_ | refine d_build 9 ?_)
  (first | refine d_pure 10 ?_ | refine d_load 10 ?_ | refine d_arith 10 ?_ | refine d_rem 10 ?_ | refine d_quo 10 ?_ | refine d_shrv 10 ?_ | refine d_fieldat 10 ?_ | refine d_idx1 10 ?_ | refine d_index 10 ?_ | refine d_conv64 10 ?_ | refine d_slices 10 ?_ | refine d_concat 10 ?_ | refine d_build 10 ?_)
  (first | refine d_pure 11 ?_ | refine d_load 11 ?_ | refine d_arith 11 ?_ | refine d_rem 11 ?_ | refine d_quo 11 ?_ | refine d_shrv 11 ?_ | refine d_fieldat 11 ?_ | refine d_idx1 11 ?_ | refine d_index 11 ?_ | refine d_conv64 11 ?_ | refine d_slices 11 ?_ | refine d_concat 11 ?_ | refine d_build 11 ?_)
  (first | refine d_pure 12 ?_ | refine d_load 12 ?_ | refine d_arith 12 ?_ | refine d_rem 12 ?_ | refine d_quo 12 ?_ | refine d_shrv 12 ?_ | refine d_fieldat 12 ?_ | refine d_idx1 12 ?_ | refine d_index 12 ?_ | refine d_conv64 12 ?_ | refine d_slices 12 ?_ | refine d_concat 12 ?_ | refine d_build 12 ?_)
  refine d_done ?_
  by_cases he : e = 0
  · subst he
    rw [if_pos rfl]
    (repeat (first | refine g ?_))
    exact run_ret rfl (imp_RD rfl shut)
  · rw [if_neg he]
    (repeat (first | refine g ?_))
    exact run_ret rfl (imp_RD rfl shut)
theorem lev_ok (l : List UInt8) (o w : Nat) : okN ((lev l o w : Nat), w) = true := by
  have h := lev_lt l o w
  unfold okN
  apply decide_eq_true
  dsimp only
  refine ⟨by omega, ?_⟩
  have e : ((lev l o w : Nat) : Int) / 2 ^ (8 * w) = ((lev l o w / 2 ^ (8 * w) : Nat) : Int) := by
    rw [Int.natCast_ediv, Int.natCast_pow]; rfl
  rw [e, Nat.pow_mul]
  rw [show (2 ^ 8) = 256 from rfl, Nat.div_eq_of_lt h]; rfl
theorem headP_fld (s : ByteArray) : (fldH (headP s)).all okN = true := by
  unfold fldH headP
  simp only [List.all_cons, List.all_nil, Bool.and_eq_true]
  exact ⟨lev_ok _ _ _, lev_ok _ _ _, lev_ok _ _ _, lev_ok _ _ _, lev_ok _ _ _, lev_ok _ _ _, lev_ok _ _ _, lev_ok _ _ _, trivial⟩
theorem headP_ok (s : ByteArray) : HeadOk (headP s) := by
  have h := fun o w => lev_lt s.data.toList o w
  have h1 := h 4 6; have h2 := h 10 4; have h3 := h 14 2; have h4 := h 16 4; have h5 := h 20 4; have h6 := h 24 4; have h7 := h 28 6; have h8 := h 34 6
  rw [show 256 ^ 6 = 281474976710656 from rfl] at h1 h7 h8
  rw [show 256 ^ 4 = 4294967296 from rfl] at h2 h4 h5 h6
  rw [show 256 ^ 2 = 65536 from rfl] at h3
  unfold headP
  constructor <;> dsimp only <;> omega
/-- What the vault is asked of a block's bytes. -/
def openH (s : ByteArray) : HeadT := headP (s.extract 0 48)
def headGood (s : ByteArray) : Prop := (s.extract 0 48).extract 40 48 = bl (List.replicate 8 0) ∧ (s.extract 0 48).extract 0 4 = bl magicL
theorem headOf_good {s : ByteArray} (h : headGood s) : headOfF (s.extract 0 48) = (openH s, 0) := by
  unfold headOfF; unfold headGood at h; rw [if_pos h]; unfold openH; rfl
theorem headOf_bad {s : ByteArray} (h : ¬ headGood s) : headOfF (s.extract 0 48) = (zeroH, 5) := by
  unfold headOfF; unfold headGood at h; rw [if_neg h]
theorem bopen_len (q : View) (v : Value) (V : HProp) (s : ByteArray) (hz : s.size ≠ 512) :
    FnD Tryz.prog q 148 [v, .string s] [V] (.tuple #[.agg ⟨encH zeroH⟩, .string ⟨#[]⟩, .int .i64 1]) [V] := by
  (first | refine FnD.go Tryz.call148 Tryz.func148 rfl rfl rfl ?_ | refine FnX.go Tryz.call148 Tryz.func148 rfl rfl rfl ?_)
  (repeat (first | refine g ?_))
  refine s_alloc fun r => ?_
  (repeat (first | refine g ?_))
  refine s_ceq r (encH zeroH) ?_ ?_
  · rfl
  refine run_ret3 (imp_RD ?_ shut) rfl (res_cell tabOk rfl rfl rfl (by repeat (first | (with_reducible exact At.head) | apply At.tail)) rfl) (res_tmp rfl) (res_tmp rfl)
  rfl
theorem bopen_no (q : View) (v : Value) (V : HProp) (s : ByteArray) (hz : s.size = 512) (hg : ¬ headGood s) :
    FnD Tryz.prog q 148 [v, .string s] [V] (.tuple #[.agg ⟨encH zeroH⟩, .string ⟨#[]⟩, .int .i64 5]) [V] := by
  have ch := headOf_spec q (s.extract 0 48) (by rw [ByteArray.size_extract]; omega)
  rw [headOf_bad hg] at ch
  dsimp only at ch
  have e1 : s.extract (0 : Int).toNat (48 : Int).toNat = s.extract 0 48 := rfl
  obtain ⟨S1, h1⟩ : ∃ S, S = s.extract 0 48 := ⟨_, rfl⟩
  rw [← h1] at ch e1
  (first | refine FnD.go Tryz.call148 Tryz.func148 rfl rfl rfl ?_ | refine FnX.go Tryz.call148 Tryz.func148 rfl rfl rfl ?_)
  (repeat (first | refine g ?_))
  refine s_alloc fun r => ?_
  (repeat (first | refine g ?_))
  refine s_to 16 (v := .string (s.extract (0 : Int).toNat (48 : Int).toNat)) (w := .string S1) (by rw [e1]) ?_
  refine s_call ch ?_
  (repeat (first | refine g ?_))
  refine s_alloc fun r2 => ?_
  (repeat (first | refine g ?_))
  refine s_ceq r (encH zeroH) ?_ ?_
  · rfl
  refine run_ret3 (imp_RD ?_ shut) rfl (res_cell tabOk rfl rfl rfl (by repeat (first | (with_reducible exact At.head) | apply At.tail)) rfl) (res_tmp rfl) (res_tmp rfl)
  rfl
theorem bopen_call (q : View) (v : Value) (V V' : HProp) (s : ByteArray) (hz : s.size = 512) (hg : headGood s) (F : ByteArray) (e : Int)
    (hc : FnD Tryz.prog q 181 [v, .int .i64 (openH s).salt, .string (nonceB (openH s)), .string (s.extract 0 48), .string (s.extract 48 512)] [V] (.tuple #[.string F, .int .i64 e]) [V']) :
    FnD Tryz.prog q 148 [v, .string s] [V] (.tuple #[.agg ⟨encH (if e = 0 then openH s else zeroH)⟩, .string (if e = 0 then F else ⟨#[]⟩), .int .i64 e]) [V'] := by
  have ch := headOf_spec q (s.extract 0 48) (by rw [ByteArray.size_extract]; omega)
  rw [headOf_good hg] at ch
  dsimp only at ch
  have hok := headP_fld (s.extract 0 48)
  have cn := nonce_spec q (openH s) (ok_nonce hok).1 (ok_nonce hok).2 (headP_ok _).a1 (headP_ok _).r1
  have e1 : s.extract (0 : Int).toNat (48 : Int).toNat = s.extract 0 48 := rfl
  have e2 : s.extract (48 : Int).toNat (s.size : Int).toNat = s.extract 48 512 := by rw [hz]; rfl
  obtain ⟨S1, h1⟩ : ∃ S, S = s.extract 0 48 := ⟨_, rfl⟩
  obtain ⟨S2, h2⟩ : ∃ S, S = s.extract 48 512 := ⟨_, rfl⟩
  obtain ⟨H, hH⟩ : ∃ H, H = openH s := ⟨_, rfl⟩
  rw [← h1] at ch e1 hc
  rw [← h2] at e2 hc
  rw [← hH] at ch cn hc ⊢
  unfold encH at ch
  (first | refine FnD.go Tryz.call148 Tryz.func148 rfl rfl rfl ?_ | refine FnX.go Tryz.call148 Tryz.func148 rfl rfl rfl ?_)
  (repeat (first | refine g ?_))
  refine s_alloc fun r => ?_
  (repeat (first | refine g ?_))
  refine s_to 16 (v := .string (s.extract (0 : Int).toNat (48 : Int).toNat)) (w := .string S1) (by rw [e1]) ?_
  refine s_call ch ?_
  (repeat (first | refine g ?_))
  refine s_alloc fun r2 => ?_
  (repeat (first | refine g ?_))
  refine s_ceq r2 (encH H) ?_ ?_
  · rfl
  unfold encH at cn ⊢
  rw [← e1, ← e2] at hc
  refine d_start [V] ?_
  (first | refine d_pure 0 ?_ | refine d_load 0 ?_ | refine d_arith 0 ?_ | refine d_rem 0 ?_ | refine d_quo 0 ?_ | refine d_shrv 0 ?_ | refine d_fieldat 0 ?_ | refine d_idx1 0 ?_ | refine d_index 0 ?_ | refine d_conv64 0 ?_ | refine d_slices 0 ?_ | refine d_concat 0 ?_ | refine d_build 0 ?_)
  (first | refine d_pure 1 ?_ | refine d_load 1 ?_ | refine d_arith 1 ?_ | refine d_rem 1 ?_ | refine d_quo 1 ?_ | refine d_shrv 1 ?_ | refine d_fieldat 1 ?_ | refine d_idx1 1 ?_ | refine d_index 1 ?_ | refine d_conv64 1 ?_ | refine d_slices 1 ?_ | refine d_concat 1 ?_ | refine d_build 1 ?_)
  (first | refine d_pure 2 ?_ | refine d_load 2 ?_ | refine d_arith 2 ?_ | refine d_rem 2 ?_ | refine d_quo 2 ?_ | refine d_shrv 2 ?_ | refine d_fieldat 2 ?_ | refine d_idx1 2 ?_ | refine d_index 2 ?_ | refine d_conv64 2 ?_ | refine d_slices 2 ?_ | refine d_concat 2 ?_ | refine d_build 2 ?_)
  refine d_getall 3 rfl ?_
  (first | refine d_pure 5 ?_ | refine d_load 5 ?_ | refine d_arith 5 ?_ | refine d_rem 5 ?_ | refine d_quo 5 ?_ | refine d_shrv 5 ?_ | refine d_fieldat 5 ?_ | refine d_idx1 5 ?_ | refine d_index 5 ?_ | refine d_conv64 5 ?_ | refine d_slices 5 ?_ | refine d_concat 5 ?_ | refine d_build 5 ?_)
  (first | refine d_pure 6 ?_ | refine d_load 6 ?_ | refine d_arith 6 ?_ | refine d_rem 6 ?_ | refine d_quo 6 ?_ | refine d_shrv 6 ?_ | refine d_fieldat 6 ?_ | refine d_idx1 6 ?_ | refine d_index 6 ?_ | refine d_conv64 6 ?_ | refine d_slices 6 ?_ | refine d_concat 6 ?_ | refine d_build 6 ?_)
  (first | refine d_pure 7 ?_ | refine d_load 7 ?_ | refine d_arith 7 ?_ | refine d_rem 7 ?_ | refine d_quo 7 ?_ | refine d_shrv 7 ?_ | refine d_fieldat 7 ?_ | refine d_idx1 7 ?_ | refine d_index 7 ?_ | refine d_conv64 7 ?_ | refine d_slices 7 ?_ | refine d_concat 7 ?_ | refine d_build 7 ?_)
  (first | refine d_pure 8 ?_ | refine d_load 8 ?_ | refine d_arith 8 ?_ | refine d_rem 8 ?_ | refine d_quo 8 ?_ | refine d_shrv 8 ?_ | refine d_fieldat 8 ?_ | refine d_idx1 8 ?_ | refine d_index 8 ?_ | refine d_conv64 8 ?_ | refine d_slices 8 ?_ | refine d_concat 8 ?_ | refine d_build 8 ?_)
  refine d_call 4 cn ?_
  refine d_call 9 hc ?_
  (first | refine d_pure 10 ?_ | refine d_load 10 ?_ | refine d_arith 10 ?_ | refine d_rem 10 ?_ | refine d_quo 10 ?_ | refine d_shrv 10 ?_ | refine d_fieldat 10 ?_ | refine d_idx1 10 ?_ | refine d_index 10 ?_ | refine d_conv64 10 ?_ | refine d_slices 10 ?_ | refine d_concat 10 ?_ | refine d_build 10 ?_)
  (first | refine d_pure 11 ?_ | refine d_load 11 ?_ | refine d_arith 11 ?_ | refine d_rem 11 ?_ | refine d_quo 11 ?_ | refine d_shrv 11 ?_ | refine d_fieldat 11 ?_ | refine d_idx1 11 ?_ | refine d_index 11 ?_ | refine d_conv64 11 ?_ | refine d_slices 11 ?_ | refine d_concat 11 ?_ | refine d_build 11 ?_)
  (first | refine d_pure 12 ?_ | refine d_load 12 ?_ | refine d_arith 12 ?_ | refine d_rem 12 ?_ | refine d_quo 12 ?_ | refine d_shrv 12 ?_ | refine d_fieldat 12 ?_ | refine d_idx1 12 ?_ | refine d_index 12 ?_ | refine d_conv64 12 ?_ | refine d_slices 12 ?_ | refine d_concat 12 ?_ | refine d_build 12 ?_)
  (first | refine d_pure 13 ?_ | refine d_load 13 ?_ | refine d_arith 13 ?_ | refine d_rem 13 ?_ | refine d_quo 13 ?_ | refine d_shrv 13 ?_ | refine d_fieldat 13 ?_ | refine d_idx1 13 ?_ | refine d_index 13 ?_ | refine d_conv64 13 ?_ | refine d_slices 13 ?_ | refine d_concat 13 ?_ | refine d_build 13 ?_)
  (first | refine d_pure 14 ?_ | refine d_load 14 ?_ | refine d_arith 14 ?_ | refine d_rem 14 ?_ | refine d_quo 14 ?_ | refine d_shrv 14 ?_ | refine d_fieldat 14 ?_ | refine d_idx1 14 ?_ | refine d_index 14 ?_ | refine d_conv64 14 ?_ | refine d_slices 14 ?_ | refine d_concat 14 ?_ | refine d_build 14 ?_)
  refine d_done ?_
  by_cases he : e = 0
  · subst he
    rw [if_pos rfl, if_pos rfl]
    (repeat (first | refine g ?_))
    refine run_ret3 (imp_RD ?_ shut) rfl (res_cell tabOk rfl rfl rfl (by repeat (first | (with_reducible exact At.head) | apply At.tail)) rfl) (res_tmp rfl) (res_tmp rfl)
    rfl
  · rw [if_neg he, if_neg he]
    (repeat (first | refine g ?_))
    refine run_ret3 (imp_RD ?_ shut) rfl (res_cell tabOk rfl rfl rfl (by repeat (first | (with_reducible exact At.head) | apply At.tail)) rfl) (res_tmp rfl) (res_tmp rfl)
    rfl
end Go.Proofs.YtaiocnpecaecdaaGreatDoor.V
namespace Go.Proofs.YtaiocnpecaecdaaGreatDoor.V
open Go.Proofs.YtaiocnpecaecdaaGreatDoor.VL Go.Proofs.YtaiocnpecaecdaaGreatDoor.VL.RD Go.Proofs.YtaiocnpecaecdaaGreatDoor.VL.Sha
attribute [local irreducible] Run numB
structure ReadT where
  ok : Bool
  head : HeadT
  body : ByteArray
  deriving DecidableEq
def noR : ReadT := ⟨false, zeroH, ⟨#[]⟩⟩
def encR (r : ReadT) : List Value := .bool r.ok :: (encH r.head ++ [.string r.body])
def toldR (H : HeadT) (B : ByteArray) (e : Int) (at_ : Int) : ReadT := if e = 0 ∧ H.addr = at_ then ⟨true, H, B⟩ else noR
theorem btold_spec (q : View) (v : Value) (V V' : HProp) (s : ByteArray) (H : HeadT) (B : ByteArray) (e at_ : Int) 
    (hc : FnD Tryz.prog q 148 [v, .string s] [V] (.tuple #[.agg ⟨encH H⟩, .string B, .int .i64 e]) [V']) :
    FnD Tryz.prog q 104 [v, .string s, .int .i64 at_] [V] (.agg ⟨encR (toldR H B e at_)⟩) [V'] := by
  unfold encH at hc
  (first | refine FnD.go Tryz.call104 Tryz.func104 rfl rfl rfl ?_ | refine FnX.go Tryz.call104 Tryz.func104 rfl rfl rfl ?_)
  (repeat (first | refine g ?_))
  refine s_alloc fun r => ?_
  (repeat (first | refine g ?_))
  refine s_call hc ?_
  (repeat (first | refine g ?_))
  refine s_alloc fun r7 => ?_
  (repeat (first | refine g ?_))
  unfold toldR
  by_cases he : e = 0
  · by_cases ha : H.addr = at_
    · rw [if_pos ⟨he, ha⟩]
      (repeat (first | refine g ?_))
      refine s_ceq r (encR ⟨true, H, B⟩) ?_ ?_
      · rfl
      refine run_ret1 (imp_RD ?_ shut) rfl (res_cell tabOk rfl rfl rfl (by repeat (first | (with_reducible exact At.head) | apply At.tail)) rfl)
      rfl
    · rw [if_neg (fun h => ha h.2)]
      (repeat (first | refine g ?_))
      refine s_ceq r (encR noR) ?_ ?_
      · rfl
      refine run_ret1 (imp_RD ?_ shut) rfl (res_cell tabOk rfl rfl rfl (by repeat (first | (with_reducible exact At.head) | apply At.tail)) rfl)
      rfl
  · rw [if_neg (fun h => he h.1)]
    (repeat (first | refine g ?_))
    refine s_ceq r (encR noR) ?_ ?_
    · rfl
    refine run_ret1 (imp_RD ?_ shut) rfl (res_cell tabOk rfl rfl rfl (by repeat (first | (with_reducible exact At.head) | apply At.tail)) rfl)
    rfl
end Go.Proofs.YtaiocnpecaecdaaGreatDoor.V
namespace Go.Proofs.YtaiocnpecaecdaaGreatDoor.V
open Go.Proofs.YtaiocnpecaecdaaGreatDoor.VL Go.Proofs.YtaiocnpecaecdaaGreatDoor.VL.RD
attribute [local irreducible] Run numB
theorem open_ok (s : VSt) (n : Int) (no ad x : ByteArray) : (openF s n no ad x).2 = 0 ↔ wrongF n no = false ∧ 16 ≤ x.size ∧ ∃ m, pos s.es (sealedK n no ad (x.extract 0 (x.size - 16))) = some m ∧ x.extract (x.size - 16) x.size = numB (m + 1) 16 := by
  unfold openF
  by_cases hw : wrongF n no = true
  · rw [if_pos hw, hw]; simp
  have hw' : wrongF n no = false := by simpa using hw
  rw [if_neg hw, hw']
  by_cases h16 : x.size < 16
  · rw [if_pos h16]
    constructor
    · intro h; simp at h
    · intro ⟨_, h, _⟩; omega
  rw [if_neg h16]
  unfold iopenF
  cases hp : pos s.es (sealedK n no ad (x.extract 0 (x.size - 16))) with
  | none => simp
  | some m =>
    by_cases hn : x.extract (x.size - 16) x.size = numB (m + 1) 16
    · simp [hn]; omega
    · simp [hn]
theorem split16 (x : ByteArray) (h : 16 ≤ x.size) : x.extract 0 (x.size - 16) ++ x.extract (x.size - 16) x.size = x := by
  rw [ByteArray.extract_append_extract, show min 0 (x.size - 16) = 0 by omega, show max (x.size - 16) x.size = x.size by omega, ByteArray.extract_zero_size]
theorem sealed_inj {n m : Int} {a b c d e f : ByteArray} (h : sealedK n a b c = sealedK m d e f) : n = m ∧ a = d ∧ b = e ∧ c = f := by
  unfold sealedK at h
  simp at h
  exact h
theorem app16 (t w : ByteArray) (hw : w.size = 16) : (t ++ w).size = t.size + 16 ∧ (t ++ w).extract 0 ((t ++ w).size - 16) = t ∧ (t ++ w).extract ((t ++ w).size - 16) (t ++ w).size = w := by
  have hs : (t ++ w).size = t.size + 16 := by rw [ByteArray.size_append, hw]
  refine ⟨hs, ?_, ?_⟩
  · rw [hs, show t.size + 16 - 16 = t.size by omega, ByteArray.extract_append]
    rw [show 0 - t.size = 0 by omega, show t.size - t.size = 0 by omega]
    simp
  · rw [hs, show t.size + 16 - 16 = t.size by omega, ByteArray.extract_append]
    rw [show t.size - t.size = 0 by omega, show t.size + 16 - t.size = 16 by omega, ← hw]
    rw [show t.extract t.size (t.size + w.size) = ⟨#[]⟩ from ByteArray.extract_eq_empty_iff.2 (by omega)]
    simp only [ByteArray.extract_zero_size]
    exact ByteArray.empty_append
def okF (s : VSt) (n : Int) (no ad x : ByteArray) : Bool := decide ((openF s n no ad x).2 = 0)
theorem open_seal (s : VSt) (n : Int) (no ad t : ByteArray) (hw : wrongF n no = false) (n2 : Int) (no2 ad2 x : ByteArray) :
    okF { s with es := cntL s.es (sealedK n no ad t) } n2 no2 ad2 x = (okF s n2 no2 ad2 x || (decide (n = n2) && (decide (no = no2) && (decide (ad = ad2) && decide (t ++ numB (cntN s.es (sealedK n no ad t)) 16 = x))))) := by
  have hz := numB_size (cntN s.es (sealedK n no ad t)) 16 (by decide)
  unfold okF
  rw [Bool.eq_iff_iff]
  simp only [Bool.or_eq_true, Bool.and_eq_true, decide_eq_true_eq]
  rw [open_ok, open_ok]
  dsimp only
  by_cases hk : sealedK n2 no2 ad2 (x.extract 0 (x.size - 16)) = sealedK n no ad t
  · obtain ⟨rfl, rfl, rfl, e4⟩ := sealed_inj hk
    rw [e4]
    have hp := pos_new s.es (sealedK n2 no2 ad2 t)
    rw [hp.1]
    have e : cntN s.es (sealedK n2 no2 ad2 t) - 1 + 1 = cntN s.es (sealedK n2 no2 ad2 t) := by omega
    constructor
    · intro ⟨_, h16, m, hm, hx⟩
      obtain rfl := Option.some.inj hm
      rw [e] at hx
      refine .inr ⟨rfl, rfl, rfl, ?_⟩
      rw [← hx, ← e4, split16 x h16]
    · intro h
      rcases h with ⟨_, h16, m, hm, hx⟩ | ⟨_, _, _, hx⟩
      · refine ⟨hw, h16, _, rfl, ?_⟩
        have : cntN s.es (sealedK n2 no2 ad2 t) = m + 1 := by unfold cntN; rw [hm]
        rw [e, this, hx]
      · have ha := app16 t _ hz
        rw [hx] at ha
        exact ⟨hw, by omega, _, rfl, by rw [e, ha.2.2]⟩
  · rw [pos_cnt_ne _ _ _ hk]
    constructor
    · intro h; exact .inl h
    · intro h
      rcases h with h | ⟨rfl, rfl, rfl, hx⟩
      · exact h
      · have ha := app16 t _ hz
        rw [hx] at ha
        exact absurd (by rw [ha.2.1]) hk
end Go.Proofs.YtaiocnpecaecdaaGreatDoor.V
namespace Go.Proofs.YtaiocnpecaecdaaGreatDoor.V
open Go.Proofs.YtaiocnpecaecdaaGreatDoor.VL Go.Proofs.YtaiocnpecaecdaaGreatDoor.VL.RD Go.Proofs.YtaiocnpecaecdaaGreatDoor.VL.Sha
attribute [local irreducible] Run numB
theorem bl0_size (n : Nat) : (bl (List.replicate n 0)).size = n := by show (List.replicate n (0 : UInt8)).toArray.size = n; rw [List.size_toArray, List.length_replicate]
def bsealF (s : VSt) (h : HeadT) (body : ByteArray) : (ByteArray × Int) × VSt :=
  if body.size ≠ 448 then ((⟨#[]⟩, 1), s) else if (fldH h).all okN = true then ((bl (headL h) ++ (body ++ numB (cntN s.es (sealedK h.salt (nonceB h) (bl (headL h)) body)) 16), 0), { s with es := cntL s.es (sealedK h.salt (nonceB h) (bl (headL h)) body) }) else ((⟨#[]⟩, 2), s)
theorem nonceB_size (h : HeadT) : (nonceB h).size = 12 := by
  unfold nonceB
  show (leb h.addr.toNat 4 ++ leb h.ver.toNat 6 ++ [0, 0]).toArray.size = 12
  rw [List.size_toArray, List.length_append, List.length_append, leb_length, leb_length]; rfl
theorem ok_salt {h : HeadT} (hok : (fldH h).all okN = true) : okN (h.salt, 6) = true := by
  unfold fldH at hok
  simp only [List.all_cons, List.all_nil, Bool.and_eq_true] at hok
  exact hok.2.2.2.2.2.2.2.1
theorem bwrong_ok {h : HeadT} (hok : okN (h.salt, 6) = true) (hv : HeadT) : wrongF h.salt (nonceB hv) = false := by
  have h1 := of_decide_eq_true hok
  dsimp only at h1
  have h2 := nonceB_size hv
  unfold wrongF
  apply decide_eq_false
  omega
theorem bseal_ideal (q : View) (v : Nat) (s : VSt) (hs : VOk 1000000 s) (h : HeadT) (hh : HeadOk h) (body : ByteArray) :
    FnD Tryz.prog q 68 [.pointer (some ⟨v, 0, none⟩), .agg ⟨encH h⟩, .string body] [vaultAt v s] (.tuple #[.string (bsealF s h body).1.1, .int .i64 (bsealF s h body).1.2]) [vaultAt v (bsealF s h body).2] := by
  unfold bsealF
  by_cases hz : body.size ≠ 448
  · rw [if_pos hz]
    exact bseal_len q _ _ h body hz
  · rw [if_neg hz]
    have hz : body.size = 448 := by omega
    cases hok : (fldH h).all okN with
    | false =>
      rw [if_neg (by decide)]
      exact bseal_no q _ _ h hh body hz hok
    | true =>
      rw [if_pos rfl]
      have hw := bwrong_ok (ok_salt hok) h
      have hz16 := numB_size (cntN s.es (sealedK h.salt (nonceB h) (bl (headL h)) body)) 16 (by decide)
      have hc := seal_spec q v s hs h.salt (nonceB h) (bl (headL h)) body (by omega)
      unfold sealF at hc
      rw [if_neg (by rw [hw]; decide)] at hc
      have := bseal_call q (.pointer (some ⟨v, 0, none⟩)) _ _ h hh body hz hok _ _ (by dsimp only; rw [ByteArray.size_append]; omega) hc
      rw [if_pos rfl] at this
      exact this
def bopenR (s : VSt) (raw : ByteArray) : ByteArray × Int := openF s (openH raw).salt (nonceB (openH raw)) (raw.extract 0 48) (raw.extract 48 512)
open Classical in
noncomputable def bopenF (s : VSt) (raw : ByteArray) : HeadT × ByteArray × Int :=
  if raw.size ≠ 512 then (zeroH, ⟨#[]⟩, 1) else if headGood raw then (if (bopenR s raw).2 = 0 then openH raw else zeroH, if (bopenR s raw).2 = 0 then (bopenR s raw).1 else ⟨#[]⟩, (bopenR s raw).2)
  else (zeroH, ⟨#[]⟩, 5)
theorem bopenF_len (s : VSt) (raw : ByteArray) (hz : raw.size ≠ 512) : bopenF s raw = (zeroH, ⟨#[]⟩, 1) := by unfold bopenF; rw [if_pos hz]
theorem bopenF_no (s : VSt) (raw : ByteArray) (hz : raw.size = 512) (hg : ¬ headGood raw) : bopenF s raw = (zeroH, ⟨#[]⟩, 5) := by unfold bopenF; rw [if_neg (fun h => h hz), if_neg hg]
theorem bopenF_ok (s : VSt) (raw : ByteArray) (hz : raw.size = 512) (hg : headGood raw) : bopenF s raw = (if (bopenR s raw).2 = 0 then openH raw else zeroH, if (bopenR s raw).2 = 0 then (bopenR s raw).1 else ⟨#[]⟩, (bopenR s raw).2) := by unfold bopenF; rw [if_neg (fun h => h hz), if_pos hg]
theorem bopen_ideal (q : View) (v : Nat) (s : VSt) (hs : VOk 1000000 s) (raw : ByteArray) :
    FnD Tryz.prog q 148 [.pointer (some ⟨v, 0, none⟩), .string raw] [vaultAt v s] (.tuple #[.agg ⟨encH (bopenF s raw).1⟩, .string (bopenF s raw).2.1, .int .i64 (bopenF s raw).2.2]) [vaultAt v s] := by
  by_cases hz : raw.size ≠ 512
  · rw [bopenF_len s raw hz]
    exact bopen_len q _ _ raw hz
  · have hz : raw.size = 512 := by omega
    by_cases hg : headGood raw
    · rw [bopenF_ok s raw hz hg]
      have hc := open_spec q v s hs (openH raw).salt (nonceB (openH raw)) (raw.extract 0 48) (raw.extract 48 512) (by rw [ByteArray.size_extract]; omega)
      obtain ⟨R, hR⟩ : ∃ R, R = bopenR s raw := ⟨_, rfl⟩
      rw [← hR]
      unfold bopenR at hR
      rw [← hR] at hc
      exact bopen_call q _ _ _ raw hz hg _ _ hc
    · rw [bopenF_no s raw hz hg]
      exact bopen_no q _ _ raw hz hg
noncomputable def btoldF (s : VSt) (raw : ByteArray) (at_ : Int) : ReadT := toldR (bopenF s raw).1 (bopenF s raw).2.1 (bopenF s raw).2.2 at_
theorem btold_ideal (q : View) (v : Nat) (s : VSt) (hs : VOk 1000000 s) (raw : ByteArray) (at_ : Int) :
    FnD Tryz.prog q 104 [.pointer (some ⟨v, 0, none⟩), .string raw, .int .i64 at_] [vaultAt v s] (.agg ⟨encR (btoldF s raw at_)⟩) [vaultAt v s] :=
  btold_spec q _ _ _ raw _ _ _ at_ (bopen_ideal q v s hs raw)
end Go.Proofs.YtaiocnpecaecdaaGreatDoor.V
namespace Go.Proofs.YtaiocnpecaecdaaGreatDoor.V
open Go.Proofs.YtaiocnpecaecdaaGreatDoor.VL Go.Proofs.YtaiocnpecaecdaaGreatDoor.VL.RD Go.Proofs.YtaiocnpecaecdaaGreatDoor.VL.Sha
attribute [local irreducible] Run numB
theorem lev_lebs (s : List UInt8) (o : Nat) : ∀ (i n : Nat), (∀ j, j < i → s.getD (o + j) 0 = UInt8.ofNat (n / 256 ^ j % 256)) → lev s o i = n % 256 ^ i
  | 0, n, _ => by simp [lev, Nat.mod_one]
  | i + 1, n, h => by
    have e : (UInt8.ofNat (n / 256 ^ i % 256)).toNat = n / 256 ^ i % 256 := by rw [UInt8.toNat_ofNat']; exact Nat.mod_eq_of_lt (Nat.mod_lt _ (by decide))
    rw [lev, lev_lebs s o i n (fun j hj => h j (by omega)), h i (by omega), e, Nat.pow_succ 256 i, Nat.mod_mul, Nat.mul_comm (n / 256 ^ i % 256)]
theorem leb_at (n k j : Nat) (h : j < k) : (leb n k).getD j 0 = UInt8.ofNat (n / 256 ^ j % 256) := by
  unfold leb
  simp [List.getD_eq_getElem?_getD, h]
theorem lev_mid (A B : List UInt8) (x : Int) (o w : Nat) (ho : A.length = o) (h : okN (x, w) = true) : ((lev (A ++ (leb x.toNat w ++ B)) o w : Nat) : Int) = x := by
  have h := of_decide_eq_true h
  dsimp only at h
  subst ho
  have hx : x.toNat < 256 ^ w := by
    obtain ⟨n, rfl⟩ : ∃ n : Nat, x = n := ⟨x.toNat, by omega⟩
    have h2 := h.2
    have e : ((n : Nat) : Int) / 2 ^ (8 * w) = ((n / 2 ^ (8 * w) : Nat) : Int) := by rw [Int.natCast_ediv, Int.natCast_pow]; rfl
    rw [e, Nat.pow_mul] at h2
    have h3 : n / 256 ^ w = 0 := by rw [show (2 ^ 8) = 256 from rfl] at h2; omega
    rw [Int.toNat_natCast]
    exact (Nat.div_eq_zero_iff.1 h3).resolve_left (Nat.ne_of_gt (Nat.pow_pos (by decide)))
  rw [lev_lebs _ _ w x.toNat, Nat.mod_eq_of_lt hx]
  · omega
  · intro j hj
    rw [List.getD_eq_getElem?_getD, List.getElem?_append_right (by omega), Nat.add_sub_cancel_left, List.getElem?_append_left (by rw [leb_length]; exact hj), ← List.getD_eq_getElem?_getD, leb_at _ _ _ hj]
theorem headL_eq (h : HeadT) : headL h = magicL ++ (leb h.vol.toNat 6 ++ (leb h.addr.toNat 4 ++ (leb h.kind.toNat 2 ++ (leb h.ino.toNat 4 ++ (leb h.gen.toNat 4 ++ (leb h.index.toNat 4 ++ (leb h.ver.toNat 6 ++ (leb h.salt.toNat 6 ++ List.replicate 8 0)))))))) := by
  unfold headL numsL fldH
  simp [List.append_assoc]
theorem headP_back (h : HeadT) (hok : (fldH h).all okN = true) : headP (bl (headL h)) = h := by
  unfold fldH at hok
  simp only [List.all_cons, List.all_nil, Bool.and_eq_true] at hok
  obtain ⟨o1, o2, o3, o4, o5, o6, o7, o8, _⟩ := hok
  obtain ⟨vol, addr, kind, ino, gen, index, ver, salt⟩ := h
  dsimp only at o1 o2 o3 o4 o5 o6 o7 o8
  have e : (bl (headL ⟨vol, addr, kind, ino, gen, index, ver, salt⟩)).data.toList = headL ⟨vol, addr, kind, ino, gen, index, ver, salt⟩ := rfl
  have hL := headL_eq ⟨vol, addr, kind, ino, gen, index, ver, salt⟩
  dsimp only at hL
  unfold headP
  rw [e, hL]
  congr 1
  · exact lev_mid magicL _ vol 4 6 rfl o1
  · have := lev_mid (magicL ++ leb vol.toNat 6) (leb kind.toNat 2 ++ (leb ino.toNat 4 ++ (leb gen.toNat 4 ++ (leb index.toNat 4 ++ (leb ver.toNat 6 ++ (leb salt.toNat 6 ++ List.replicate 8 0)))))) addr 10 4 (by simp [leb_length, magicL]) o2
    simpa only [List.append_assoc] using this
  · have := lev_mid (magicL ++ leb vol.toNat 6 ++ leb addr.toNat 4) (leb ino.toNat 4 ++ (leb gen.toNat 4 ++ (leb index.toNat 4 ++ (leb ver.toNat 6 ++ (leb salt.toNat 6 ++ List.replicate 8 0))))) kind 14 2 (by simp [leb_length, magicL]) o3
    simpa only [List.append_assoc] using this
  · have := lev_mid (magicL ++ leb vol.toNat 6 ++ leb addr.toNat 4 ++ leb kind.toNat 2) (leb gen.toNat 4 ++ (leb index.toNat 4 ++ (leb ver.toNat 6 ++ (leb salt.toNat 6 ++ List.replicate 8 0)))) ino 16 4 (by simp [leb_length, magicL]) o4
    simpa only [List.append_assoc] using this
  · have := lev_mid (magicL ++ leb vol.toNat 6 ++ leb addr.toNat 4 ++ leb kind.toNat 2 ++ leb ino.toNat 4) (leb index.toNat 4 ++ (leb ver.toNat 6 ++ (leb salt.toNat 6 ++ List.replicate 8 0))) gen 20 4 (by simp [leb_length, magicL]) o5
    simpa only [List.append_assoc] using this
  · have := lev_mid (magicL ++ leb vol.toNat 6 ++ leb addr.toNat 4 ++ leb kind.toNat 2 ++ leb ino.toNat 4 ++ leb gen.toNat 4) (leb ver.toNat 6 ++ (leb salt.toNat 6 ++ List.replicate 8 0)) index 24 4 (by simp [leb_length, magicL]) o6
    simpa only [List.append_assoc] using this
  · have := lev_mid (magicL ++ leb vol.toNat 6 ++ leb addr.toNat 4 ++ leb kind.toNat 2 ++ leb ino.toNat 4 ++ leb gen.toNat 4 ++ leb index.toNat 4) (leb salt.toNat 6 ++ List.replicate 8 0) ver 28 6 (by simp [leb_length, magicL]) o7
    simpa only [List.append_assoc] using this
  · have := lev_mid (magicL ++ leb vol.toNat 6 ++ leb addr.toNat 4 ++ leb kind.toNat 2 ++ leb ino.toNat 4 ++ leb gen.toNat 4 ++ leb index.toNat 4 ++ leb ver.toNat 6) (List.replicate 8 0) salt 34 6 (by simp [leb_length, magicL]) o8
    simpa only [List.append_assoc] using this
theorem ext_l {a b : ByteArray} {n : Nat} (h : a.size = n) : (a ++ b).extract 0 n = a := by
  subst h
  rw [ByteArray.extract_append, Nat.sub_self]
  simp
theorem ext_r {a b : ByteArray} {n m : Nat} (h : a.size = n) (h2 : n + b.size = m) : (a ++ b).extract n m = b := by
  subst h h2
  rw [ByteArray.extract_append, Nat.sub_self, Nat.add_sub_cancel_left, ByteArray.extract_zero_size, ByteArray.extract_eq_empty_iff.2 (by omega)]
  exact ByteArray.empty_append
theorem join48 (s : ByteArray) (hz : s.size = 512) : s.extract 0 48 ++ s.extract 48 512 = s := by
  rw [ByteArray.extract_append_extract, show min 0 48 = 0 from rfl, show max 48 512 = 512 from rfl, ← hz, ByteArray.extract_zero_size]
theorem headGood_head (s : ByteArray) (h : HeadT) (e : s.extract 0 48 = bl (headL h)) : headGood s := by
  unfold headGood
  rw [e]
  have hA : (bl (magicL ++ numsL (fldH h))).size = 40 := by show (magicL ++ numsL (fldH h)).toArray.size = 40; rw [List.size_toArray, List.length_append, numsL_len]; rfl
  have hM : (bl magicL).size = 4 := rfl
  have e1 : bl (headL h) = bl (magicL ++ numsL (fldH h)) ++ bl (List.replicate 8 0) := by
    unfold headL bl
    exact ByteArray.ext (by simp)
  have e2 : bl (headL h) = bl magicL ++ bl (numsL (fldH h) ++ List.replicate 8 0) := by
    unfold headL bl
    exact ByteArray.ext (by simp)
  refine ⟨?_, ?_⟩
  · rw [e1]; exact ext_r hA rfl
  · rw [e2]; exact ext_l hM
theorem openH_head (s : ByteArray) (h : HeadT) (hok : (fldH h).all okN = true) (e : s.extract 0 48 = bl (headL h)) : openH s = h := by
  unfold openH
  rw [e, headP_back h hok]
/-- A block: its head's bytes, its body, its tag. -/
def blkB (h : HeadT) (body : ByteArray) (c : Nat) : ByteArray := bl (headL h) ++ (body ++ numB c 16)
theorem blkB_parts (h : HeadT) (body : ByteArray) (c : Nat) (hb : body.size = 448) : (blkB h body c).size = 512 ∧ (blkB h body c).extract 0 48 = bl (headL h) ∧ (blkB h body c).extract 48 512 = body ++ numB c 16 := by
  have h1 := headL_size h
  have h2 := numB_size c 16 (by decide)
  have h3 : (body ++ numB c 16).size = 464 := by rw [ByteArray.size_append]; omega
  unfold blkB
  exact ⟨by rw [ByteArray.size_append]; omega, ext_l h1, ext_r h1 (by omega)⟩
/-- That a block opens. -/
noncomputable def opensB (s : VSt) (raw : ByteArray) : Prop := (bopenF s raw).2.2 = 0
theorem opens_good (s : VSt) (raw : ByteArray) (hz : raw.size = 512) (hg : headGood raw) : (bopenF s raw).2.2 = (openF s (openH raw).salt (nonceB (openH raw)) (raw.extract 0 48) (raw.extract 48 512)).2 := by
  have key : ∀ (a : HeadT) (b : ByteArray) (r : ByteArray × Int), ((a, b, r.2) : HeadT × ByteArray × Int).2.2 = r.2 := fun _ _ _ => rfl
  rw [bopenF_ok s raw hz hg]
  exact key _ _ (bopenR s raw)
theorem opens_bad (s : VSt) (raw : ByteArray) (hz : raw.size = 512) (hg : ¬ headGood raw) : (bopenF s raw).2.2 = 5 := by
  rw [bopenF_no s raw hz hg]
theorem okF_iff (s : VSt) (n : Int) (no ad x : ByteArray) : okF s n no ad x = true ↔ (openF s n no ad x).2 = 0 := by
  unfold okF
  exact decide_eq_true_iff
theorem opens_iff (s : VSt) (raw : ByteArray) (hz : raw.size = 512) : opensB s raw ↔ headGood raw ∧ okF s (openH raw).salt (nonceB (openH raw)) (raw.extract 0 48) (raw.extract 48 512) = true := by
  rw [okF_iff]
  unfold opensB
  by_cases hg : headGood raw
  · rw [opens_good s raw hz hg]
    exact ⟨fun h => ⟨hg, h⟩, fun h => h.2⟩
  · rw [opens_bad s raw hz hg]
    exact ⟨fun h => absurd h (by decide), fun h => absurd h.1 hg⟩
theorem ok_none (n : Int) (no ad x : ByteArray) (a : List ByteArray) (b : List (List KV)) : okF ⟨a, b, []⟩ n no ad x = false := by
  unfold okF
  apply decide_eq_false
  rw [open_ok]
  rintro ⟨_, _, m, hm, _⟩
  cases hm
theorem opens_none (raw : ByteArray) (a : List ByteArray) (b : List (List KV)) : ¬ opensB ⟨a, b, []⟩ raw := by
  by_cases hz : raw.size = 512
  · rw [opens_iff _ _ hz, ok_none]
    exact fun h => absurd h.2 (by decide)
  · unfold opensB
    rw [bopenF_len _ _ hz]; decide
/-- Behind a seal a block opens just if it did, or is the one that was sealed. -/
theorem opens_seal (s : VSt) (h : HeadT) (body : ByteArray) (hok : (fldH h).all okN = true) (hb : body.size = 448) (raw : ByteArray) (hz : raw.size = 512) :
    opensB { s with es := cntL s.es (sealedK h.salt (nonceB h) (bl (headL h)) body) } raw ↔ opensB s raw ∨ raw = blkB h body (cntN s.es (sealedK h.salt (nonceB h) (bl (headL h)) body)) := by
  have hw := bwrong_ok (ok_salt hok) h
  obtain ⟨p1, p2, p3⟩ := blkB_parts h body (cntN s.es (sealedK h.salt (nonceB h) (bl (headL h)) body)) hb
  rw [opens_iff _ _ hz, opens_iff _ _ hz, open_seal s _ _ _ _ hw, Bool.or_eq_true]
  simp only [Bool.and_eq_true, decide_eq_true_eq]
  constructor
  · rintro ⟨hg, h1 | ⟨h1, h2, h3, h4⟩⟩
    · exact .inl ⟨hg, h1⟩
    · refine .inr ?_
      rw [← join48 raw hz, ← h3, ← h4]; rfl
  · rintro (⟨h1, h2⟩ | rfl)
    · exact ⟨h1, .inl h2⟩
    · have ho := openH_head _ h hok p2
      refine ⟨headGood_head _ h p2, .inr ?_⟩
      rw [ho, p2, p3]
      exact ⟨rfl, rfl, rfl, rfl⟩
end Go.Proofs.YtaiocnpecaecdaaGreatDoor.V
namespace Go.Proofs.YtaiocnpecaecdaaGreatDoor.V
open Go.Proofs.YtaiocnpecaecdaaGreatDoor.VL Go.Proofs.YtaiocnpecaecdaaGreatDoor.VL.RD Go.Proofs.YtaiocnpecaecdaaGreatDoor.VL.Sha
attribute [local irreducible] Run numB
structure SuperT where
  vol : Int
  epoch : Int
  next : Int
  live : Int
  root : ByteArray
def encSu (x : SuperT) : List Value := [.int .i64 x.vol, .int .i64 x.epoch, .int .i64 x.next, .int .i64 x.live, .string x.root]
structure SuperOk (x : SuperT) : Prop where
  v0 : -9223372036854775808 ≤ x.vol
  v1 : x.vol ≤ 9223372036854775807
  e0 : -9223372036854775808 ≤ x.epoch
  e1 : x.epoch ≤ 9223372036854775807
  n0 : -9223372036854775808 ≤ x.next
  n1 : x.next ≤ 9223372036854775807
  l0 : -9223372036854775808 ≤ x.live
  l1 : x.live ≤ 9223372036854775807
  r1 : x.root.size ≤ 9223372036854775807
def zeroSu : SuperT := ⟨0, 0, 0, 0, ⟨#[]⟩⟩
theorem zeroSu_ok : SuperOk zeroSu := by constructor <;> decide
def fldSu (x : SuperT) : List (Int × Nat) := [(x.vol, 6), (x.epoch, 6), (x.next, 6), (x.live, 4)]
def superL (x : SuperT) : List UInt8 := numsL (fldSu x) ++ x.root.data.toList ++ List.replicate 394 0
/-- A superblock as a block's body. -/
def superF (x : SuperT) : ByteArray × Int := if x.root.size ≠ 32 then (⟨#[]⟩, 1) else if (fldSu x).all okN = true then (bl (superL x), 0) else (⟨#[]⟩, 2)
theorem superL_len (x : SuperT) (hr : x.root.size = 32) : (superL x).length = 448 := by
  have : x.root.data.toList.length = 32 := by rw [Array.length_toList]; exact hr
  unfold superL
  rw [List.length_append, List.length_append, numsL_len, List.length_replicate, this]; rfl
/-- The superblock of bytes. -/
def superP (s : ByteArray) : SuperT := ⟨(lev s.data.toList 0 6 : Nat), (lev s.data.toList 6 6 : Nat), (lev s.data.toList 12 6 : Nat), (lev s.data.toList 18 4 : Nat), s.extract 22 54⟩
def restZ (s : ByteArray) (o : Nat) : Bool := (s.data.toList.drop o).all (· == 0)
def superOfF (s : ByteArray) : SuperT × Int := if 448 < s.size then (zeroSu, 4) else if s.size < 448 then (zeroSu, 3) else if restZ s 54 = true then (superP s, 0) else (zeroSu, 5)
theorem superL_eq (x : SuperT) : superL x = leb x.vol.toNat 6 ++ (leb x.epoch.toNat 6 ++ (leb x.next.toNat 6 ++ (leb x.live.toNat 4 ++ (x.root.data.toList ++ List.replicate 394 0)))) := by
  unfold superL numsL fldSu
  simp [List.append_assoc]
theorem lev_at (A B : List UInt8) (x : Int) (o w : Nat) (ho : A.length = o) (h : okN (x, w) = true) (L : List UInt8) (e : L = A ++ (leb x.toNat w ++ B)) : ((lev L o w : Nat) : Int) = x := by
  subst e; exact lev_mid A B x o w ho h
theorem ext_mid (A B C : List UInt8) (o m : Nat) (ho : A.length = o) (hm : o + B.length = m) (s : ByteArray) (e : s.data.toList = A ++ (B ++ C)) : (s.extract o m).data.toList = B := by
  subst ho hm
  rw [ByteArray.data_extract, Array.toList_extract, List.extract_eq_take_drop, e, List.drop_left, Nat.add_sub_cancel_left, List.take_left]
theorem superP_back (x : SuperT) (hr : x.root.size = 32) (hok : (fldSu x).all okN = true) : superP (bl (superL x)) = x := by
  unfold fldSu at hok
  simp only [List.all_cons, List.all_nil, Bool.and_eq_true] at hok
  obtain ⟨o1, o2, o3, o4, _⟩ := hok
  obtain ⟨vol, epoch, next, live, root⟩ := x
  dsimp only at o1 o2 o3 o4 hr
  have hrl : root.data.toList.length = 32 := by rw [Array.length_toList]; exact hr
  have e : (bl (superL ⟨vol, epoch, next, live, root⟩)).data.toList = superL ⟨vol, epoch, next, live, root⟩ := rfl
  have hL := superL_eq ⟨vol, epoch, next, live, root⟩
  dsimp only at hL
  unfold superP
  rw [e]
  congr 1
  · exact lev_at [] _ vol 0 6 rfl o1 _ hL
  · exact lev_at (leb vol.toNat 6) _ epoch 6 6 (by simp [leb_length]) o2 _ hL
  · exact lev_at (leb vol.toNat 6 ++ leb epoch.toNat 6) (leb live.toNat 4 ++ (root.data.toList ++ List.replicate 394 0)) next 12 6 (by simp [leb_length]) o3 _ (by rw [hL]; simp only [List.append_assoc])
  · exact lev_at (leb vol.toNat 6 ++ leb epoch.toNat 6 ++ leb next.toNat 6) (root.data.toList ++ List.replicate 394 0) live 18 4 (by simp [leb_length]) o4 _ (by rw [hL]; simp only [List.append_assoc])
  · apply ByteArray.ext
    apply Array.ext'
    exact ext_mid (leb vol.toNat 6 ++ leb epoch.toNat 6 ++ leb next.toNat 6 ++ leb live.toNat 4) root.data.toList (List.replicate 394 0) 22 54 (by simp [leb_length]) (by rw [hrl]) _ (by rw [e, hL]; simp only [List.append_assoc])
theorem superOf_back (x : SuperT) (hr : x.root.size = 32) (hok : (fldSu x).all okN = true) : superOfF (bl (superL x)) = (x, 0) := by
  have hl := superL_len x hr
  have hz : (bl (superL x)).size = 448 := by show (superL x).toArray.size = 448; simp [hl]
  have hn : (numsL (fldSu x)).length = 22 := by rw [numsL_len]; rfl
  have hrl : x.root.data.toList.length = 32 := by rw [Array.length_toList]; exact hr
  have hrest : restZ (bl (superL x)) 54 = true := by
    unfold restZ
    show ((superL x).drop 54).all (· == 0) = true
    unfold superL
    rw [show 54 = (numsL (fldSu x) ++ x.root.data.toList).length by rw [List.length_append, hn, hrl], List.drop_left]
    simp
  unfold superOfF
  rw [if_neg (by omega), if_neg (by omega), if_pos hrest, superP_back x hr hok]
def lInodes (l : Nat) : Nat := l / 8
def lLost (l : Nat) : Nat := (l / 8 + 15) / 16
def lList (l : Nat) : Nat := (l + 63) / 64
def lTotal (l : Nat) : Nat := 2 * l + 1 + lList l
def encLay (l : Nat) : List Value := [.int .i64 (l : Int), .int .i64 2, .int .i64 3, .int .i64 27, .int .i64 28, .int .i64 29, .int .i64 (lInodes l : Int), .int .i64 ((29 + lInodes l : Nat) : Int), .int .i64 (lLost l : Int), .int .i64 ((29 + lInodes l + lLost l : Nat) : Int), .int .i64 ((30 + lInodes l + lLost l : Nat) : Int), .int .i64 (l : Int), .int .i64 ((l + 1 : Nat) : Int), .int .i64 (lList l : Int), .int .i64 ((l + 1 + lList l : Nat) : Int), .int .i64 (lTotal l : Int)]
def encLay0 : List Value := List.replicate 16 (.int .i64 0)
theorem lTotal_lt {i j : Nat} (h : i < j) : lTotal i < lTotal j := by
  unfold lTotal lList
  have : (i + 63) / 64 ≤ (j + 63) / 64 := Nat.div_le_div_right (by omega)
  omega
/-- How many blocks the living part of a device of so many sectors has. -/
def liveF (sec : Int) : Int × Int := match (List.range 1025).find? (fun l => decide (48 ≤ l ∧ 8 * (lTotal l : Int) = sec)) with
  | some l => ((l : Int), 0)
  | none => (0, 30)
theorem live_some {sec : Int} {l : Nat} (h0 : 48 ≤ l) (h1 : l ≤ 1024) (h : 8 * (lTotal l : Int) = sec) : liveF sec = ((l : Int), 0) := by
  unfold liveF
  cases hf : (List.range 1025).find? (fun l => decide (48 ≤ l ∧ 8 * (lTotal l : Int) = sec)) with
  | none =>
    rw [List.find?_eq_none] at hf
    have := hf l (List.mem_range.2 (by omega))
    exact absurd (decide_eq_true (p := 48 ≤ l ∧ 8 * (lTotal l : Int) = sec) ⟨h0, h⟩) this
  | some k =>
    have hk : 48 ≤ k ∧ 8 * (lTotal k : Int) = sec := by
      have h9 := List.find?_some (p := fun l : Nat => decide (48 ≤ l ∧ 8 * (lTotal l : Int) = sec)) hf
      exact of_decide_eq_true h9
    have : k = l := by
      rcases Nat.lt_trichotomy k l with g | g | g
      · have := lTotal_lt g; omega
      · exact g
      · have := lTotal_lt g; omega
    subst this; rfl
theorem live_none {sec : Int} (h : ∀ l : Nat, 48 ≤ l → l ≤ 1024 → 8 * (lTotal l : Int) ≠ sec) : liveF sec = (0, 30) := by
  unfold liveF
  cases hf : (List.range 1025).find? (fun l => decide (48 ≤ l ∧ 8 * (lTotal l : Int) = sec)) with
  | none => rfl
  | some k =>
    have hk : 48 ≤ k ∧ 8 * (lTotal k : Int) = sec := by
      have h9 := List.find?_some (p := fun l : Nat => decide (48 ≤ l ∧ 8 * (lTotal l : Int) = sec)) hf
      exact of_decide_eq_true h9
    have hm := List.mem_range.1 (List.mem_of_find?_eq_some hf)
    exact absurd hk.2 (h k hk.1 (by omega))
theorem live_fits {sec : Int} {l : Int} (h : liveF sec = (l, 0)) : ∃ k : Nat, l = k ∧ 48 ≤ k ∧ k ≤ 1024 ∧ 8 * (lTotal k : Int) = sec := by
  unfold liveF at h
  cases hf : (List.range 1025).find? (fun l => decide (48 ≤ l ∧ 8 * (lTotal l : Int) = sec)) with
  | none => rw [hf] at h; exact absurd (Prod.mk.inj h).2 (by decide)
  | some k =>
    rw [hf] at h
    have hk : 48 ≤ k ∧ 8 * (lTotal k : Int) = sec := by
      have h9 := List.find?_some (p := fun l : Nat => decide (48 ≤ l ∧ 8 * (lTotal l : Int) = sec)) hf
      exact of_decide_eq_true h9
    have hm := List.mem_range.1 (List.mem_of_find?_eq_some hf)
    exact ⟨k, (Prod.mk.inj h).1.symm, hk.1, by omega, hk.2⟩
end Go.Proofs.YtaiocnpecaecdaaGreatDoor.V
namespace Go.Proofs.YtaiocnpecaecdaaGreatDoor.V
open Go.Proofs.YtaiocnpecaecdaaGreatDoor.VL Go.Proofs.YtaiocnpecaecdaaGreatDoor.VL.RD Go.Proofs.YtaiocnpecaecdaaGreatDoor.VL.Sha
attribute [local irreducible] Run numB
theorem super_spec (q : View) (x : SuperT) (hx : SuperOk x) : FnD Tryz.prog q 67 [.agg ⟨encSu x⟩] [] (.tuple #[.string (superF x).1, .int .i64 (superF x).2]) [] := by
  obtain ⟨v0, v1, e0', e1', n0, n1, l0, l1, r1⟩ := hx
  unfold superF encSu
  by_cases hr : x.root.size ≠ 32
  · rw [if_pos hr]
    (first | refine FnD.go Tryz.call67 Tryz.func67 rfl rfl rfl ?_ | refine FnX.go Tryz.call67 Tryz.func67 rfl rfl rfl ?_)
    (repeat (first | refine g ?_))
    refine s_box fun b => ?_
    (repeat (first | refine g ?_))
    exact run_ret rfl (imp_RD rfl shut)
  have hr : x.root.size = 32 := Decidable.not_not.1 hr
  rw [if_neg (by omega)]
  (first | refine FnD.go Tryz.call67 Tryz.func67 rfl rfl rfl ?_ | refine FnX.go Tryz.call67 Tryz.func67 rfl rfl rfl ?_)
  (repeat (first | refine g ?_))
  refine s_box fun b => ?_
  (repeat (first | refine g ?_))
  refine s_alloc fun w => ?_
  (repeat (first | refine g ?_))
  refine run_pull (X := cells w 203 ⟨[.slice none 0 0, .bool false]⟩) (by (repeat (first | (with_reducible exact Pull.head) | apply Pull.tail))) ?_
  refine run_intro_writer ?_
  refine s_call (wput_spec q w [] false x.vol 6 (by decide) v1 (by decide)) ?_
  obtain ⟨t1, e1⟩ : ∃ t, t = wput [] false x.vol 6 := ⟨_, rfl⟩
  have z1 := wput_len ([], false) x.vol 6
  dsimp only at z1
  rw [← e1] at z1 ⊢
  have z0 : ([] : List UInt8).length = 0 := rfl
  (repeat (first | refine g ?_))
  refine s_call (wput_spec q w t1.1 t1.2 x.epoch 6 (by decide) e1' (by omega)) ?_
  obtain ⟨t2, e2⟩ : ∃ t, t = wput t1.1 t1.2 x.epoch 6 := ⟨_, rfl⟩
  have z2 := wput_len t1 x.epoch 6
  rw [← e2] at z2 ⊢
  (repeat (first | refine g ?_))
  refine s_call (wput_spec q w t2.1 t2.2 x.next 6 (by decide) n1 (by omega)) ?_
  obtain ⟨t3, e3⟩ : ∃ t, t = wput t2.1 t2.2 x.next 6 := ⟨_, rfl⟩
  have z3 := wput_len t2 x.next 6
  rw [← e3] at z3 ⊢
  (repeat (first | refine g ?_))
  refine s_call (wput_spec q w t3.1 t3.2 x.live 4 (by decide) l1 (by omega)) ?_
  obtain ⟨t4, e4⟩ : ∃ t, t = wput t3.1 t3.2 x.live 4 := ⟨_, rfl⟩
  have z4 := wput_len t3 x.live 4
  rw [← e4] at z4 ⊢
  have hw : t4 = wputs ([], false) (fldSu x) := by rw [e4, e3, e2, e1]; rfl
  obtain ⟨L, bad⟩ := t4
  dsimp only at z4 ⊢
  refine run_writer fun p c => ?_
  cases hok : (fldSu x).all okN with
  | false =>
    have hb : bad = true := by
      have := wputs_no (fldSu x) ([], false) hok
      rw [← hw] at this; exact this
    subst hb
    rw [if_neg (by decide)]
    (repeat (first | refine g ?_))
    exact run_ret rfl (imp_RD rfl shut)
  | true =>
    have hb := wputs_ok (fldSu x) ([], false) hok
    rw [← hw] at hb
    dsimp only at hb
    obtain ⟨rfl, rfl⟩ := Prod.mk.inj hb
    rw [if_pos rfl]
    have hn : (numsL (fldSu x)).length = 22 := by rw [numsL_len]; rfl
    have hrl : x.root.data.toList.length = 32 := by rw [Array.length_toList]; exact hr
    rw [List.nil_append] at *
    generalize hN : numsL (fldSu x) = N at *
    (repeat (first | refine g ?_))
    refine s_app 1 1 (fun g w0 w _ _ => reads_string x.root) (hxl := by rw [bv_length, hn, Nat.mul_one]) (h1 := bv_one _) fun r => ?_
    refine s_eq (bv_append _ _).symm ?_
    (repeat (first | refine g ?_))
    have eln : N.length + x.root.size = (N ++ x.root.data.toList).length := by rw [List.length_append, Array.length_toList]; rfl
    rw [eln]
    refine run_pull (X := sl r.1 (N ++ x.root.data.toList).length r.2 5 1 (bv (N ++ x.root.data.toList))) (by (repeat (first | (with_reducible exact Pull.head) | apply Pull.tail))) ?_
    refine run_pull (X := cells w 203 ⟨[.slice r.1 (N ++ x.root.data.toList).length r.2, .bool false]⟩) (by (repeat (first | (with_reducible exact Pull.head) | apply Pull.tail))) ?_
    refine run_to_writer (l := N ++ x.root.data.toList) (p := r.1) (c := r.2) ?_
    have hf := full_spec q w (N ++ x.root.data.toList) false 448 (by decide) (by rw [List.length_append]; omega)
    refine s_call hf ?_
    (repeat (first | refine g ?_))
    refine run_ret rfl (imp_RD ?_ shut)
    have e : pad0 (N ++ x.root.data.toList) 448 = superL x := by
      unfold pad0 superL
      rw [List.length_append, hn, hrl, hN]
    rw [e]
    rfl
end Go.Proofs.YtaiocnpecaecdaaGreatDoor.V
namespace Go.Proofs.YtaiocnpecaecdaaGreatDoor.V
open Go.Proofs.YtaiocnpecaecdaaGreatDoor.VL Go.Proofs.YtaiocnpecaecdaaGreatDoor.VL.RD Go.Proofs.YtaiocnpecaecdaaGreatDoor.VL.Sha
attribute [local irreducible] Run numB
theorem all_take (L : List UInt8) (i : Nat) (u : UInt8) (h : L[i]? = some u) : ((L.take (i + 1)).all (· == 0)) = ((L.take i).all (· == 0) && u == 0) := by
  rw [List.take_add_one, h, List.all_append]
  simp
theorem rest_spec (q : View) (b o : Nat) (s : ByteArray) (ho : o ≤ s.size) (hs : s.size ≤ 1000000) :
    FnD Tryz.prog q 139 [.pointer (some ⟨b, 0, none⟩)] [cells b 213 ⟨[.string s, .int .i64 (o : Int)]⟩] (.bool (restZ s o)) [cells b 213 ⟨[.string s, .int .i64 (o : Int)]⟩] := by
  obtain ⟨T, hT⟩ : ∃ T, T = s.extract (o : Int).toNat (s.size : Int).toNat := ⟨_, rfl⟩
  have eT : T.data.toList = s.data.toList.drop o := by
    rw [hT]
    show (s.extract o s.size).data.toList = _
    rw [ByteArray.data_extract, Array.toList_extract, List.extract_eq_take_drop, List.take_of_length_le]
    rw [List.length_drop, Array.length_toList]
    show s.size - o ≤ s.size - o
    omega
  have hlen : T.data.toList.length = T.size := Array.length_toList
  have hsl : s.data.toList.length = s.size := Array.length_toList
  have hTz : T.size = s.size - o := by
    have := congrArg List.length eT
    rw [List.length_drop] at this
    omega
  have hr : restZ s o = T.data.toList.all (· == 0) := by unfold restZ; rw [eT]
  rw [hr]
  (first | refine FnD.go Tryz.call139 Tryz.func139 rfl rfl rfl ?_ | refine FnX.go Tryz.call139 Tryz.func139 rfl rfl rfl ?_)
  (repeat (first | refine g ?_ | refine s_flat 1 [(.pure, [0, 1, 2, 4, 5, 6, 11]), (.mem true, [3, 7]), (.pure, [8]), (.mem false, [9]), (.pure, [10])] ?_))
  refine s_to 13 (v := .string (s.extract (o : Int).toNat (s.size : Int).toNat)) (w := .string T) (by rw [hT]) ?_
  refine s_bytes fun r => ?_
  (repeat (first | refine g ?_ | refine s_flat 1 [(.pure, [0, 1, 2, 4, 5, 6, 11]), (.mem true, [3, 7]), (.pure, [8]), (.mem false, [9]), (.pure, [10])] ?_))
  refine run_loopI (X := Nat) (fun i => i ≤ T.size ∧ (T.data.toList.take i).all (· == 0) = true) (fun i => [(14, .slice r.1 T.size r.2), (15, .int .i64 (T.size : Int)), (16, .int .i64 (i : Int))])
    (fun i => [cells b 213 ⟨[.string s, .int .i64 (o : Int)]⟩, sl r.1 T.size r.2 5 1 (bv T.data.toList)]) (fun i => T.size - i) 0 ⟨Nat.zero_le _, rfl⟩ fct shut ?_
  intro i ⟨hi, ha⟩
  by_cases h1 : i < T.size
  · obtain ⟨u, hu⟩ : ∃ u, T.data.toList[i]? = some u := ⟨_, List.getElem?_eq_getElem (by omega)⟩
    have hbv : (bv T.data.toList)[i]? = some (.int .u8 (u.toNat : Int)) := by unfold bv; rw [List.getElem?_map, hu]; rfl
    refine s_ptr r.1 (h0 := by omega) (fun br er _ _ => ?_)
    rw [er]
    by_cases h2 : (u.toNat : Int) ≠ 0
    · have hf : T.data.toList.all (· == 0) = false := by
        rw [List.all_eq_false]
        refine ⟨u, List.mem_of_getElem? hu, ?_⟩
        simp only [beq_iff_eq]
        intro e; subst e; exact h2 rfl
      rw [hf]
      (repeat (first | refine g ?_ | refine s_flat 1 [(.pure, [0, 1, 2, 4, 5, 6, 11]), (.mem true, [3, 7]), (.pure, [8]), (.mem false, [9]), (.pure, [10])] ?_))
      refine s_loadsl hbv ?_
      (repeat (first | refine g ?_ | refine s_flat 1 [(.pure, [0, 1, 2, 4, 5, 6, 11]), (.mem true, [3, 7]), (.pure, [8]), (.mem false, [9]), (.pure, [10])] ?_))
      exact run_ret rfl (imp_RD rfl shut)
    · have h0 : u = 0 := by
        have h3 : (u.toNat : Int) = 0 := Decidable.not_not.1 h2
        have : u.toNat = 0 := by omega
        exact UInt8.toNat_inj.1 this
      (repeat (first | refine g ?_ | refine s_flat 1 [(.pure, [0, 1, 2, 4, 5, 6, 11]), (.mem true, [3, 7]), (.pure, [8]), (.mem false, [9]), (.pure, [10])] ?_))
      refine s_loadsl hbv ?_
      (repeat (first | refine g ?_ | refine s_flat 1 [(.pure, [0, 1, 2, 4, 5, 6, 11]), (.mem true, [3, 7]), (.pure, [8]), (.mem false, [9]), (.pure, [10])] ?_))
      exact run_stop_loop (i + 1) ⟨⟨h1, by rw [all_take _ _ _ hu, ha, h0]; rfl⟩, by omega⟩ fct shut
  · have e : T.data.toList.all (· == 0) = true := by
      rw [List.take_of_length_le (by omega)] at ha
      exact ha
    rw [e]
    (repeat (first | refine g ?_ | refine s_flat 1 [(.pure, [0, 1, 2, 4, 5, 6, 11]), (.mem true, [3, 7]), (.pure, [8]), (.mem false, [9]), (.pure, [10])] ?_))
    exact run_ret rfl (imp_RD rfl shut)
theorem superOf_spec (q : View) (s : ByteArray) (hs : s.size ≤ 9223372036854775807) : FnD Tryz.prog q 92 [.string s] [] (.tuple #[.agg ⟨encSu (superOfF s).1⟩, .int .i64 (superOfF s).2]) [] := by
  by_cases h1 : 448 < s.size
  · rw [show superOfF s = (zeroSu, 4) from by unfold superOfF; rw [if_pos h1]]
    (first | refine FnD.go Tryz.call92 Tryz.func92 rfl rfl rfl ?_ | refine FnX.go Tryz.call92 Tryz.func92 rfl rfl rfl ?_)
    (repeat (first | refine g ?_))
    refine s_alloc fun r2 => ?_
    (repeat (first | refine g ?_))
    refine s_ceq r2 (encSu zeroSu) ?_ ?_
    · rfl
    refine run_ret2 (imp_RD ?_ shut) rfl (res_cell tabOk rfl rfl rfl (by repeat (first | (with_reducible exact At.head) | apply At.tail)) rfl) (res_tmp rfl)
    rfl
  by_cases h2 : s.size < 448
  · rw [show superOfF s = (zeroSu, 3) from by unfold superOfF; rw [if_neg h1, if_pos h2]]
    (first | refine FnD.go Tryz.call92 Tryz.func92 rfl rfl rfl ?_ | refine FnX.go Tryz.call92 Tryz.func92 rfl rfl rfl ?_)
    (repeat (first | refine g ?_))
    refine s_alloc fun r2 => ?_
    (repeat (first | refine g ?_))
    refine s_ceq r2 (encSu zeroSu) ?_ ?_
    · rfl
    refine run_ret2 (imp_RD ?_ shut) rfl (res_cell tabOk rfl rfl rfl (by repeat (first | (with_reducible exact At.head) | apply At.tail)) rfl) (res_tmp rfl)
    rfl
  have hz : s.size = 448 := by omega
  have k1 : ∀ c : Nat, FnD Tryz.prog q 137 [.pointer (some ⟨c, 0, none⟩), .int .i64 6] [cells c 213 ⟨[.string s, .int .i64 0]⟩] (.int .i64 (lev s.data.toList 0 6 : Nat)) [cells c 213 ⟨[.string s, .int .i64 6]⟩] := fun c => take_spec q c 0 6 s (by omega) (by omega) (by omega)
  have k2 : ∀ c : Nat, FnD Tryz.prog q 137 [.pointer (some ⟨c, 0, none⟩), .int .i64 6] [cells c 213 ⟨[.string s, .int .i64 6]⟩] (.int .i64 (lev s.data.toList 6 6 : Nat)) [cells c 213 ⟨[.string s, .int .i64 12]⟩] := fun c => take_spec q c 6 6 s (by omega) (by omega) (by omega)
  have k3 : ∀ c : Nat, FnD Tryz.prog q 137 [.pointer (some ⟨c, 0, none⟩), .int .i64 6] [cells c 213 ⟨[.string s, .int .i64 12]⟩] (.int .i64 (lev s.data.toList 12 6 : Nat)) [cells c 213 ⟨[.string s, .int .i64 18]⟩] := fun c => take_spec q c 12 6 s (by omega) (by omega) (by omega)
  have k4 : ∀ c : Nat, FnD Tryz.prog q 137 [.pointer (some ⟨c, 0, none⟩), .int .i64 4] [cells c 213 ⟨[.string s, .int .i64 18]⟩] (.int .i64 (lev s.data.toList 18 4 : Nat)) [cells c 213 ⟨[.string s, .int .i64 22]⟩] := fun c => take_spec q c 18 4 s (by omega) (by omega) (by omega)
  have k5 : ∀ c : Nat, FnD Tryz.prog q 138 [.pointer (some ⟨c, 0, none⟩), .int .i64 32] [cells c 213 ⟨[.string s, .int .i64 22]⟩] (.string (s.extract 22 54)) [cells c 213 ⟨[.string s, .int .i64 54]⟩] := fun c => text_spec q c 22 32 s (by omega) (by omega)
  have k6 : ∀ c : Nat, FnD Tryz.prog q 139 [.pointer (some ⟨c, 0, none⟩)] [cells c 213 ⟨[.string s, .int .i64 54]⟩] (.bool (restZ s 54)) [cells c 213 ⟨[.string s, .int .i64 54]⟩] := fun c => rest_spec q c 54 s (by omega) (by omega)
  have hP : superP s = ⟨(lev s.data.toList 0 6 : Nat), (lev s.data.toList 6 6 : Nat), (lev s.data.toList 12 6 : Nat), (lev s.data.toList 18 4 : Nat), s.extract 22 54⟩ := rfl
  cases hr : restZ s 54 with
  | false =>
    rw [show superOfF s = (zeroSu, 5) from by unfold superOfF; rw [if_neg h1, if_neg h2, hr, if_neg (by decide)]]
    rw [hr] at k6
    (first | refine FnD.go Tryz.call92 Tryz.func92 rfl rfl rfl ?_ | refine FnX.go Tryz.call92 Tryz.func92 rfl rfl rfl ?_)
    (repeat (first | refine g ?_))
    refine s_alloc fun r2 => ?_
    (repeat (first | refine g ?_))
    refine s_alloc fun c => ?_
    (repeat (first | refine g ?_))
    refine s_call (k1 c) ?_
    (repeat (first | refine g ?_))
    refine s_call (k2 c) ?_
    (repeat (first | refine g ?_))
    refine s_call (k3 c) ?_
    (repeat (first | refine g ?_))
    refine s_call (k4 c) ?_
    (repeat (first | refine g ?_))
    refine s_call (k5 c) ?_
    (repeat (first | refine g ?_))
    refine s_alloc fun r5 => ?_
    (repeat (first | refine g ?_))
    refine s_call (k6 c) ?_
    (repeat (first | refine g ?_))
    refine s_ceq r2 (encSu zeroSu) ?_ ?_
    · rfl
    refine run_ret2 (imp_RD ?_ shut) rfl (res_cell tabOk rfl rfl rfl (by repeat (first | (with_reducible exact At.head) | apply At.tail)) rfl) (res_tmp rfl)
    rfl
  | true =>
    rw [show superOfF s = (superP s, 0) from by unfold superOfF; rw [if_neg h1, if_neg h2, hr, if_pos rfl], hP]
    rw [hr] at k6
    generalize s.extract 22 54 = X at *
    (first | refine FnD.go Tryz.call92 Tryz.func92 rfl rfl rfl ?_ | refine FnX.go Tryz.call92 Tryz.func92 rfl rfl rfl ?_)
    (repeat (first | refine g ?_))
    refine s_alloc fun r2 => ?_
    (repeat (first | refine g ?_))
    refine s_alloc fun c => ?_
    (repeat (first | refine g ?_))
    refine s_call (k1 c) ?_
    (repeat (first | refine g ?_))
    refine s_call (k2 c) ?_
    (repeat (first | refine g ?_))
    refine s_call (k3 c) ?_
    (repeat (first | refine g ?_))
    refine s_call (k4 c) ?_
    (repeat (first | refine g ?_))
    refine s_call (k5 c) ?_
    (repeat (first | refine g ?_))
    refine s_alloc fun r5 => ?_
    (repeat (first | refine g ?_))
    refine s_call (k6 c) ?_
    (repeat (first | refine g ?_))
    refine s_ceq r2 (encSu ⟨(lev s.data.toList 0 6 : Nat), (lev s.data.toList 6 6 : Nat), (lev s.data.toList 12 6 : Nat), (lev s.data.toList 18 4 : Nat), X⟩) ?_ ?_
    · rfl
    refine run_ret2 (imp_RD ?_ shut) rfl (res_cell tabOk rfl rfl rfl (by repeat (first | (with_reducible exact At.head) | apply At.tail)) rfl) (res_tmp rfl)
    rfl
end Go.Proofs.YtaiocnpecaecdaaGreatDoor.V
namespace Go.Proofs.YtaiocnpecaecdaaGreatDoor.V
open Go.Proofs.YtaiocnpecaecdaaGreatDoor.VL
attribute [local irreducible] Run
structure PSt where
  sectors : Int
  held : List ByteArray
  dumb : List Bool
  cache : List (Int × ByteArray)
  fuse : Int
  down : Bool
  reads : Int
  writes : Int
def cacheV (l : List (Int × ByteArray)) : List Value := l.flatMap fun x => [.int .i64 x.1, .string x.2]
theorem cacheV_length (l : List (Int × ByteArray)) : (cacheV l).length = l.length * 2 := by
  induction l with
  | nil => rfl
  | cons x l ih => simp only [cacheV, List.flatMap_cons, List.length_append, List.length_cons, List.length_nil] at *; omega
theorem cacheV_append (l m : List (Int × ByteArray)) : cacheV (l ++ m) = cacheV l ++ cacheV m := by simp [cacheV]
theorem cacheV_at (l : List (Int × ByteArray)) (i : Nat) (x : Int × ByteArray) (h : l[i]? = some x) :
    (cacheV l)[i * 2]? = some (.int .i64 x.1) ∧ (cacheV l)[i * 2 + 1]? = some (.string x.2) ∧ ((cacheV l).drop (i * 2)).take 2 = [.int .i64 x.1, .string x.2] := by
  induction l generalizing i with
  | nil => cases h
  | cons y l ih =>
    have e : cacheV (y :: l) = .int .i64 y.1 :: .string y.2 :: cacheV l := rfl
    rw [e]
    cases i with
    | zero => obtain rfl := Option.some.inj h; exact ⟨rfl, rfl, rfl⟩
    | succ i =>
      have := ih i h
      rw [show (i + 1) * 2 = i * 2 + 1 + 1 from by omega]
      simpa using this
@[reducible] def plate3 (b : Nat) (s : PSt) (bh bd : Nat) (pc : Option Addr) (cc : Nat) (A : List HProp) : List HProp :=
  cells b 95 ⟨[.int .i64 s.sectors, .slice (some ⟨bh, 0, none⟩) s.held.length s.held.length, .slice (some ⟨bd, 0, none⟩) s.dumb.length s.dumb.length, .slice pc s.cache.length cc, .int .i64 s.fuse, .bool s.down, .int .i64 s.reads, .int .i64 s.writes]⟩ ::
   cells bh 9 ⟨s.held.map Value.string⟩ :: cells bd 4 ⟨s.dumb.map Value.bool⟩ :: A
@[reducible] def plateParts (b : Nat) (s : PSt) (bh bd : Nat) (pc : Option Addr) (cc : Nat) (A : List HProp) : List HProp :=
  plate3 b s bh bd pc cc (sl pc s.cache.length cc 131 2 (cacheV s.cache) :: A)
def plateAt (b : Nat) (s : PSt) : HProp := hex fun x : Nat × Nat × Option Addr × Nat => star (plateParts b s x.1 x.2.1 x.2.2.1 x.2.2.2 [])
section
variable {P : Program} {q : View} {fn : Func} {R : Value → HProp} {k : List It} {σ : Facts} {A B : List HProp} {F : HProp} {b : Nat} {s : PSt}
theorem run_plate (hk : ∀ bh bd pc cc, Run P q fn R k σ (plateParts b s bh bd pc cc A)) : Run P q fn R k σ (plateAt b s :: A) :=
  run_hex fun x => run_star (hk _ _ _ _)
theorem imp_plate {bh bd : Nat} {pc : Option Addr} {cc : Nat} (h : Imp F (star (plateParts b s bh bd pc cc B))) : Imp F (star (plateAt b s :: B)) := by
  refine imp_ex (bh, bd, pc, cc) ?_
  exact imp_star h
end
theorem wrong_spec (q : View) (b : Nat) (l : List Value) (n : Int) (at_ : Int) :
    FnD Tryz.prog q 131 [.pointer (some ⟨b, 0, none⟩), .int .i64 at_] [cells b 95 ⟨.int .i64 n :: l⟩] (.bool (decide (at_ < 0 ∨ n ≤ at_))) [cells b 95 ⟨.int .i64 n :: l⟩] := by
  (first | refine FnD.go Tryz.call131 Tryz.func131 rfl rfl rfl ?_ | refine FnX.go Tryz.call131 Tryz.func131 rfl rfl rfl ?_)
  (repeat (first | refine g ?_))
  refine run_split_dec rfl rfl rfl rfl rfl ?_ ?_
  · intro h
    (repeat (first | refine g ?_))
    exact run_ret rfl (imp_RD (by rw [decide_eq_true (.inl h)]) shut)
  · intro h
    (repeat (first | refine g ?_))
    exact run_ret rfl (imp_RD (by congr 1; exact decide_eq_decide.2 ⟨.inr, fun h2 => h2.resolve_left h⟩) shut)
theorem up_spec (q : View) (b : Nat) (s : PSt) : FnD Tryz.prog q 50 [.pointer (some ⟨b, 0, none⟩)] [plateAt b s] (.bool !s.down) [plateAt b s] := by
  (first | refine FnD.go Tryz.call50 Tryz.func50 rfl rfl rfl ?_ | refine FnX.go Tryz.call50 Tryz.func50 rfl rfl rfl ?_)
  refine run_plate fun bh bd pc cc => ?_
  unfold plateParts
  (repeat (first | refine g ?_))
  exact run_ret rfl (imp_RD rfl (imp_plate shut))
theorem sectors_spec (q : View) (b : Nat) (s : PSt) : FnD Tryz.prog q 46 [.pointer (some ⟨b, 0, none⟩)] [plateAt b s] (.int .i64 s.sectors) [plateAt b s] := by
  (first | refine FnD.go Tryz.call46 Tryz.func46 rfl rfl rfl ?_ | refine FnX.go Tryz.call46 Tryz.func46 rfl rfl rfl ?_)
  refine run_plate fun bh bd pc cc => ?_
  unfold plateParts
  (repeat (first | refine g ?_))
  exact run_ret rfl (imp_RD rfl (imp_plate shut))
def zeros64 : ByteArray := ⟨(List.replicate 64 (0 : UInt8)).toArray⟩
theorem repeat64 (q : View) : FnD Tryz.prog q 58 [.string ⟨#[0]⟩, .int .i64 64] [] (.string zeros64) [] :=
  FnD.of_below Tryz.call58 fun w => by
    have := Tryz.strings_Repeat ⟨#[0]⟩ 64 w (by omega) (by decide)
    refine this.mono ?_
    rintro e w' ⟨rfl, hb⟩
    exact ⟨rfl, hb⟩
/-- What is kept of a sector. -/
def heldF (s : PSt) (at_ : Int) : ByteArray × Int :=
  if at_ < 0 ∨ s.sectors ≤ at_ then (⟨#[]⟩, 2) else
  if s.dumb.getD at_.toNat false = true then (⟨#[]⟩, 21) else
  if s.held.getD at_.toNat ⟨#[]⟩ = ⟨#[]⟩ then (zeros64, 0) else (s.held.getD at_.toNat ⟨#[]⟩, 0)
structure WF (s : PSt) : Prop where
  held : (s.held.length : Int) = s.sectors
  dumb : (s.dumb.length : Int) = s.sectors
  sec : s.sectors ≤ 32768
  cache : ∀ x ∈ s.cache, 0 ≤ x.1 ∧ x.1 < s.sectors
  size : s.cache.length ≤ 1099511627776
  reads : 0 ≤ s.reads ∧ s.reads ≤ 1099511627776
  writes : 0 ≤ s.writes ∧ s.writes ≤ 1099511627776
  fuse : -1 ≤ s.fuse ∧ s.fuse ≤ 9223372036854775807
theorem map_at {α : Type} (f : α → Value) (l : List α) (d : α) (i : Nat) (h : i < l.length) : (l.map f)[i]? = some (f (l.getD i d)) := by
  rw [List.getElem?_map, List.getElem?_eq_getElem h, List.getD_eq_getElem?_getD, List.getElem?_eq_getElem h]; rfl
theorem held_parts (q : View) (b : Nat) (s : PSt) (hh : (s.held.length : Int) = s.sectors) (hd : (s.dumb.length : Int) = s.sectors) (hs : s.sectors ≤ 32768) (bh bd : Nat) (pc : Option Addr) (cc : Nat) (at_ : Int) :
    FnD Tryz.prog q 78 [.pointer (some ⟨b, 0, none⟩), .int .i64 at_] (plate3 b s bh bd pc cc []) (.tuple #[.string (heldF s at_).1, .int .i64 (heldF s at_).2]) (plate3 b s bh bd pc cc []) := by
  unfold heldF
  (first | refine FnD.go Tryz.call78 Tryz.func78 rfl rfl rfl ?_ | refine FnX.go Tryz.call78 Tryz.func78 rfl rfl rfl ?_)
  unfold plate3
  (repeat (first | refine g ?_))
  refine s_call (wrong_spec q b _ s.sectors at_) ?_
  (repeat (first | refine g ?_))
  refine run_cond_dec rfl ?_ ?_
  · intro h
    rw [if_pos h]
    (repeat (first | refine g ?_))
    exact run_ret rfl (imp_RD rfl shut)
  · intro h
    rw [if_neg h]
    have h0 : 0 ≤ at_ := by omega
    (repeat (first | refine g ?_))
    refine s_loadat (map_at Value.bool s.dumb false at_.toNat (by omega)) ?_
    (repeat (first | refine g ?_))
    refine run_cond rfl ?_ ?_
    · intro h2
      rw [if_pos h2]
      (repeat (first | refine g ?_))
      exact run_ret rfl (imp_RD rfl shut)
    · intro h2
      rw [if_neg (by rw [h2]; decide)]
      (repeat (first | refine g ?_))
      refine s_loadat (map_at Value.string s.held ⟨#[]⟩ at_.toNat (by omega)) ?_
      (repeat (first | refine g ?_))
      refine run_cond_dec rfl ?_ ?_
      · intro h4
        rw [if_neg h4]
        (repeat (first | refine g ?_))
        exact run_ret rfl (imp_RD rfl shut)
      · intro h4
        rw [if_pos (Decidable.not_not.1 h4)]
        (repeat (first | refine g ?_))
        refine s_call (repeat64 q) ?_
        (repeat (first | refine g ?_))
        exact run_ret rfl (imp_RD rfl shut)
end Go.Proofs.YtaiocnpecaecdaaGreatDoor.V
namespace Go.Proofs.YtaiocnpecaecdaaGreatDoor.V
open Go.Proofs.YtaiocnpecaecdaaGreatDoor.VL
attribute [local irreducible] Run
@[reducible] def keepH (h : List ByteArray × List Bool) (x : Int × ByteArray) : List ByteArray × List Bool := (h.1.set x.1.toNat x.2, h.2.set x.1.toNat false)
@[reducible] def withH (s : PSt) (h : List ByteArray × List Bool) : PSt := { s with held := h.1, dumb := h.2 }
@[reducible] def keepF (s : PSt) (x : Int × ByteArray) : PSt := withH s (keepH (s.held, s.dumb) x)
theorem keep_held (s : PSt) (x : Int × ByteArray) : (keepF s x).held.length = s.held.length := List.length_set
theorem keep_dumb (s : PSt) (x : Int × ByteArray) : (keepF s x).dumb.length = s.dumb.length := List.length_set
theorem keep_heldV (s : PSt) (x : Int × ByteArray) : (keepF s x).held.map Value.string = (s.held.map Value.string).set x.1.toNat (.string x.2) := List.map_set
theorem keep_dumbV (s : PSt) (x : Int × ByteArray) : (keepF s x).dumb.map Value.bool = (s.dumb.map Value.bool).set x.1.toNat (.bool false) := List.map_set
theorem keep_parts (q : View) (b : Nat) (s : PSt) (hh : (s.held.length : Int) = s.sectors) (hd : (s.dumb.length : Int) = s.sectors) (hs : s.sectors ≤ 32768) (x : Int × ByteArray) (h0 : 0 ≤ x.1) (h1 : x.1 < s.sectors) (bh bd : Nat) (pc : Option Addr) (cc : Nat) :
    FnD Tryz.prog q 60 [.pointer (some ⟨b, 0, none⟩), .agg ⟨[.int .i64 x.1, .string x.2]⟩] (plate3 b s bh bd pc cc []) (.tuple #[]) (plate3 b (keepF s x) bh bd pc cc []) := by
  obtain ⟨a, t⟩ := x
  dsimp only at h0 h1
  (first | refine FnD.go Tryz.call60 Tryz.func60 rfl rfl rfl ?_ | refine FnX.go Tryz.call60 Tryz.func60 rfl rfl rfl ?_)
  unfold plate3
  (repeat (first | refine g ?_ | refine s_flat 1 [(.pure, [0, 1, 2, 4, 6]), (.mem true, [3, 5, 7]), (.pure, [8]), (.mem false, [9])] ?_ | refine s_flat 2 [(.pure, [0, 1, 2, 4]), (.mem true, [3, 5]), (.pure, [6]), (.mem false, [7])] ?_))
  refine s_box ?_
  intro r
  (repeat (first | refine g ?_ | refine s_flat 1 [(.pure, [0, 1, 2, 4, 6]), (.mem true, [3, 5, 7]), (.pure, [8]), (.mem false, [9])] ?_ | refine s_flat 2 [(.pure, [0, 1, 2, 4]), (.mem true, [3, 5]), (.pure, [6]), (.mem false, [7])] ?_))
  refine s_storeset ?_
  (repeat (first | refine g ?_ | refine s_flat 1 [(.pure, [0, 1, 2, 4, 6]), (.mem true, [3, 5, 7]), (.pure, [8]), (.mem false, [9])] ?_ | refine s_flat 2 [(.pure, [0, 1, 2, 4]), (.mem true, [3, 5]), (.pure, [6]), (.mem false, [7])] ?_))
  refine s_storeset ?_
  (repeat (first | refine g ?_ | refine s_flat 1 [(.pure, [0, 1, 2, 4, 6]), (.mem true, [3, 5, 7]), (.pure, [8]), (.mem false, [9])] ?_ | refine s_flat 2 [(.pure, [0, 1, 2, 4]), (.mem true, [3, 5]), (.pure, [6]), (.mem false, [7])] ?_))
  refine run_end rfl (imp_RD rfl ?_)
  rw [keep_held, keep_dumb, keep_heldV, keep_dumbV]
  exact shut
theorem foldH_len (l : List (Int × ByteArray)) (h : List ByteArray × List Bool) : (l.foldl keepH h).1.length = h.1.length ∧ (l.foldl keepH h).2.length = h.2.length := by
  induction l generalizing h with
  | nil => exact ⟨rfl, rfl⟩
  | cons x l ih => have := ih (keepH h x); simpa [keepH] using this
def flushF (s : PSt) : PSt := if s.down then s else { s with held := (s.cache.foldl keepH (s.held, s.dumb)).1, dumb := (s.cache.foldl keepH (s.held, s.dumb)).2, cache := [] }
theorem flush_spec (q : View) (b : Nat) (s : PSt) (hw : WF s) :
    FnD Tryz.prog q 108 [.pointer (some ⟨b, 0, none⟩)] [plateAt b s] (.int .i64 (if s.down then 20 else 0)) [plateAt b (flushF s)] := by
  have hh := hw.held
  have hd := hw.dumb
  have hn := hw.size
  (first | refine FnD.go Tryz.call108 Tryz.func108 rfl rfl rfl ?_ | refine FnX.go Tryz.call108 Tryz.func108 rfl rfl rfl ?_)
  refine run_plate fun bh bd pc cc => ?_
  unfold plateParts plate3
  (repeat (first | refine g ?_))
  refine run_cond rfl ?_ ?_
  · intro h
    (repeat (first | refine g ?_))
    refine run_ret rfl (imp_RD (by rw [if_pos h]) ?_)
    unfold flushF; rw [if_pos h]; exact imp_plate shut
  · intro h
    have h' : ¬ (s.down = true) := by rw [h]; decide
    (repeat (first | refine g ?_))
    refine run_loopI (X := Nat) (fun i => i ≤ s.cache.length) (fun i => [(0, .pointer (some ⟨b, 0, none⟩)), (14, .slice pc s.cache.length cc), (15, .int .i64 s.cache.length), (16, .int .i64 (i : Int))])
      (fun i => plateParts b (withH s ((s.cache.take i).foldl keepH (s.held, s.dumb))) bh bd pc cc []) (fun i => s.cache.length - i) 0 (Nat.zero_le _) fct ?_ ?_
    · simp only [List.take_zero, List.foldl_nil]; unfold plateParts plate3; exact shut
    · intro i hi
      have hl : ((s.cache.take i).foldl keepH (s.held, s.dumb)).1.length = s.held.length ∧ ((s.cache.take i).foldl keepH (s.held, s.dumb)).2.length = s.dumb.length := foldH_len _ _
      generalize eS : (s.cache.take i).foldl keepH (s.held, s.dumb) = hS at *
      unfold plateParts plate3
      (repeat (first | refine g ?_))
      refine run_cond_dec rfl ?_ ?_
      · intro h1
        have h1' : i < s.cache.length := Int.ofNat_lt.1 h1
        obtain ⟨x, hx⟩ : ∃ x, s.cache[i]? = some x := ⟨_, List.getElem?_eq_getElem h1'⟩
        have hxm := hw.cache x (List.mem_of_getElem? hx)
        have e1 := cacheV_length s.cache
        refine s_ptr pc (h0 := show 0 < s.cache.length by omega) (fun bc ep _ hcap => ?_)
        subst ep
        (repeat (first | refine g ?_))
        refine s_idxk 2 ?_
        refine s_loadasl (i := i * 2) (cacheV_at s.cache i x hx).2.2 (by omega) ?_
        (repeat (first | refine g ?_))
        refine s_alloc fun r => ?_
        (repeat (first | refine g ?_))
        refine s_call (keep_parts q b (withH s hS) (show (hS.1.length : Int) = s.sectors by omega) (show (hS.2.length : Int) = s.sectors by omega) hw.sec x hxm.1 hxm.2 bh bd _ cc) ?_
        (repeat (first | refine g ?_))
        have et : (s.cache.take (i + 1)).foldl keepH (s.held, s.dumb) = keepH hS x := by rw [List.take_add_one, hx, List.foldl_append, eS]; rfl
        refine run_stop_loop (i + 1) ⟨h1', by omega⟩ fct ?_
        dsimp only
        rw [et]
        exact shut
      · intro h1
        have h1' : i = s.cache.length := Nat.le_antisymm hi (Nat.le_of_not_lt fun h => h1 (Int.ofNat_lt.2 h))
        (repeat (first | refine g ?_))
        refine run_ret rfl (imp_RD ?_ ?_)
        · rw [if_neg h']
        · subst h1'
          rw [List.take_length] at eS
          unfold flushF; rw [if_neg h', eS]
          refine imp_plate (bh := bh) (bd := bd) (pc := none) (cc := 0) ?_
          unfold plateParts plate3; dsimp only [List.length_nil]
          exact shut
end Go.Proofs.YtaiocnpecaecdaaGreatDoor.V
namespace Go.Proofs.YtaiocnpecaecdaaGreatDoor.V
open Go.Proofs.YtaiocnpecaecdaaGreatDoor.VL
attribute [local irreducible] Run
def armF (s : PSt) (n : Int) : Int × PSt := if n < 0 then (1, s) else if s.down = true then (20, s) else (0, { s with fuse := n })
theorem arm_spec (q : View) (b : Nat) (s : PSt) (n : Int) :
    FnD Tryz.prog q 28 [.pointer (some ⟨b, 0, none⟩), .int .i64 n] [plateAt b s] (.int .i64 (armF s n).1) [plateAt b (armF s n).2] := by
  (first | refine FnD.go Tryz.call28 Tryz.func28 rfl rfl rfl ?_ | refine FnX.go Tryz.call28 Tryz.func28 rfl rfl rfl ?_)
  refine run_plate fun bh bd pc cc => ?_
  unfold plateParts plate3
  (repeat (first | refine g ?_))
  refine run_cond_dec rfl ?_ ?_
  · intro h
    have e : armF s n = (1, s) := by unfold armF; rw [if_pos h]
    rw [e]
    (repeat (first | refine g ?_))
    exact run_ret rfl (imp_RD rfl (imp_plate shut))
  · intro h
    (repeat (first | refine g ?_))
    refine run_cond rfl ?_ ?_
    · intro h2
      have e : armF s n = (20, s) := by unfold armF; rw [if_neg h, if_pos h2]
      rw [e]
      (repeat (first | refine g ?_))
      exact run_ret rfl (imp_RD rfl (imp_plate shut))
    · intro h2
      have e : armF s n = (0, { s with fuse := n }) := by unfold armF; rw [if_neg h, if_neg (by rw [h2]; decide)]
      rw [e]
      (repeat (first | refine g ?_))
      exact run_ret rfl (imp_RD rfl (imp_plate shut))
def writeF (s : PSt) (at_ : Int) (t : ByteArray) : Int × PSt := if (t.size : Int) ≠ 64 then (1, s) else if s.down = true then (20, s) else if at_ < 0 ∨ s.sectors ≤ at_ then (2, s) else
  if s.fuse = 0 then (20, { s with down := true }) else
  (0, { s with fuse := if 0 < s.fuse then s.fuse - 1 else s.fuse, writes := s.writes + 1, cache := s.cache ++ [(at_, t)] })
theorem write_spec (q : View) (b : Nat) (s : PSt) (hw : WF s) (at_ : Int) (t : ByteArray) :
    FnD Tryz.prog q 182 [.pointer (some ⟨b, 0, none⟩), .int .i64 at_, .string t] [plateAt b s] (.int .i64 (writeF s at_ t).1) [plateAt b (writeF s at_ t).2] := by
  have hf := hw.fuse
  have hwr := hw.writes
  have hn := hw.size
  (first | refine FnD.go Tryz.call182 Tryz.func182 rfl rfl rfl ?_ | refine FnX.go Tryz.call182 Tryz.func182 rfl rfl rfl ?_)
  refine run_plate fun bh bd pc cc => ?_
  unfold plateParts plate3
  (repeat (first | refine g ?_))
  refine run_cond_dec rfl ?_ ?_
  · intro h
    have e : writeF s at_ t = (1, s) := by unfold writeF; rw [if_pos h]
    rw [e]
    (repeat (first | refine g ?_))
    exact run_ret rfl (imp_RD rfl (imp_plate shut))
  · intro h
    (repeat (first | refine g ?_))
    refine run_cond rfl ?_ ?_
    · intro h2
      have e : writeF s at_ t = (20, s) := by unfold writeF; rw [if_neg h, if_pos h2]
      rw [e]
      (repeat (first | refine g ?_))
      exact run_ret rfl (imp_RD rfl (imp_plate shut))
    · intro h2
      have h2' : ¬ (s.down = true) := by rw [h2]; decide
      (repeat (first | refine g ?_))
      refine s_call (wrong_spec q b _ s.sectors at_) ?_
      (repeat (first | refine g ?_))
      refine run_cond_dec rfl ?_ ?_
      · intro h3
        have e : writeF s at_ t = (2, s) := by unfold writeF; rw [if_neg h, if_neg h2', if_pos h3]
        rw [e]
        (repeat (first | refine g ?_))
        exact run_ret rfl (imp_RD rfl (imp_plate shut))
      · intro h3
        (repeat (first | refine g ?_))
        refine run_cond_dec rfl ?_ ?_
        · intro h4
          have e : writeF s at_ t = (20, { s with down := true }) := by unfold writeF; rw [if_neg h, if_neg h2', if_neg h3, if_pos h4]
          rw [e]
          (repeat (first | refine g ?_))
          exact run_ret rfl (imp_RD rfl (imp_plate shut))
        · intro h4
          have e : writeF s at_ t = (0, { s with fuse := if 0 < s.fuse then s.fuse - 1 else s.fuse, writes := s.writes + 1, cache := s.cache ++ [(at_, t)] }) := by unfold writeF; rw [if_neg h, if_neg h2', if_neg h3, if_neg h4]
          rw [e]
          generalize hfu : (if 0 < s.fuse then s.fuse - 1 else s.fuse) = fu
          (repeat (first | refine g ?_))
          refine run_cut (X := Unit) (fun _ => [(0, .pointer (some ⟨b, 0, none⟩)), (1, .int .i64 at_), (2, .string t)]) (fun _ => plateParts b { s with fuse := fu } bh bd pc cc []) ?_ fun _ => ?_
          · refine run_cond_dec rfl ?_ ?_
            · intro h5
              rw [if_pos h5] at hfu
              (repeat (first | refine g ?_))
              rw [hfu]
              exact run_stop_loop () trivial fct shut
            · intro h5
              rw [if_neg h5] at hfu
              rw [hfu]
              (repeat (first | refine g ?_))
              exact run_stop_loop () trivial fct shut
          · unfold plateParts plate3; dsimp only
            have ec := cacheV_length s.cache
            (repeat (first | refine g ?_))
            refine s_built fun r => ?_
            refine s_app 2 24 (reads_own At.head rfl) fun r2 => ?_
            (repeat (first | refine g ?_))
            refine run_ret rfl (imp_RD rfl ?_)
            apply imp_plate (pc := r2.1) (cc := r2.2); unfold plateParts plate3; dsimp only
            rw [List.length_append, cacheV_append, List.length_singleton, show cacheV [(at_, t)] = [.int .i64 at_, .string t] from rfl]
            exact shut
end Go.Proofs.YtaiocnpecaecdaaGreatDoor.V
namespace Go.Proofs.YtaiocnpecaecdaaGreatDoor.V
open Go.Proofs.YtaiocnpecaecdaaGreatDoor.VL
attribute [local irreducible] Run
def readF (s : PSt) (at_ : Int) : (ByteArray × Int) × PSt := if s.down = true then ((⟨#[]⟩, 20), s) else if at_ < 0 ∨ s.sectors ≤ at_ then ((⟨#[]⟩, 2), s) else
  (match s.cache.reverse.find? (fun x => decide (x.1 = at_)) with | some x => (x.2, 0) | none => heldF s at_, { s with reads := s.reads + 1 })
theorem last_at (l : List (Int × ByteArray)) (at_ : Int) (i : Nat) (x : Int × ByteArray) (hx : l[i]? = some x) (hxa : x.1 = at_) (hno : ∀ j, i + 1 ≤ j → ∀ y, l[j]? = some y → y.1 ≠ at_) : l.reverse.find? (fun x => decide (x.1 = at_)) = some x := by
  have hi : i < l.length := (List.getElem?_eq_some_iff.1 hx).1
  have hxe : l[i] = x := (List.getElem?_eq_some_iff.1 hx).2
  have e : l = l.take i ++ x :: l.drop (i + 1) := by
    rw [← hxe, List.getElem_cons_drop, List.take_append_drop]
  rw [e, List.reverse_append, List.reverse_cons, List.append_assoc, List.find?_append]
  have h0 : (l.drop (i + 1)).reverse.find? (fun x => decide (x.1 = at_)) = none := by
    rw [List.find?_eq_none]
    intro y hy
    rw [List.mem_reverse] at hy
    obtain ⟨j, hj⟩ := List.mem_iff_getElem?.1 hy
    rw [List.getElem?_drop] at hj
    simpa using hno _ (by omega) y hj
  rw [h0]
  simp [hxa]
theorem none_at (l : List (Int × ByteArray)) (at_ : Int) (hno : ∀ j, 0 ≤ j → ∀ y, l[j]? = some y → y.1 ≠ at_) : l.reverse.find? (fun x => decide (x.1 = at_)) = none := by
  rw [List.find?_eq_none]
  intro y hy
  rw [List.mem_reverse] at hy
  obtain ⟨j, hj⟩ := List.mem_iff_getElem?.1 hy
  simpa using hno _ (Nat.zero_le _) y hj
theorem read_spec (q : View) (b : Nat) (s : PSt) (hw : WF s) (at_ : Int) :
    FnD Tryz.prog q 157 [.pointer (some ⟨b, 0, none⟩), .int .i64 at_] [plateAt b s] (.tuple #[.string (readF s at_).1.1, .int .i64 (readF s at_).1.2]) [plateAt b (readF s at_).2] := by
  have hr := hw.reads
  have hn := hw.size
  (first | refine FnD.go Tryz.call157 Tryz.func157 rfl rfl rfl ?_ | refine FnX.go Tryz.call157 Tryz.func157 rfl rfl rfl ?_)
  refine run_plate fun bh bd pc cc => ?_
  unfold plateParts plate3
  (repeat (first | refine g ?_))
  refine run_cond rfl ?_ ?_
  · intro h2
    have e : readF s at_ = ((⟨#[]⟩, 20), s) := by unfold readF; rw [if_pos h2]
    rw [e]
    (repeat (first | refine g ?_))
    exact run_ret rfl (imp_RD rfl (imp_plate shut))
  · intro h2
    have h2' : ¬ (s.down = true) := by rw [h2]; decide
    (repeat (first | refine g ?_))
    refine s_call (wrong_spec q b _ s.sectors at_) ?_
    (repeat (first | refine g ?_))
    refine run_cond_dec rfl ?_ ?_
    · intro h3
      have e : readF s at_ = ((⟨#[]⟩, 2), s) := by unfold readF; rw [if_neg h2', if_pos h3]
      rw [e]
      (repeat (first | refine g ?_))
      exact run_ret rfl (imp_RD rfl (imp_plate shut))
    · intro h3
      have e : readF s at_ = (match s.cache.reverse.find? (fun x => decide (x.1 = at_)) with | some x => (x.2, 0) | none => heldF s at_, { s with reads := s.reads + 1 }) := by unfold readF; rw [if_neg h2', if_neg h3]
      rw [e]
      (repeat (first | refine g ?_))
      refine run_loopI (X := Nat) (fun i => i ≤ s.cache.length ∧ ∀ j, i ≤ j → ∀ x, s.cache[j]? = some x → x.1 ≠ at_) (fun i => [(0, .pointer (some ⟨b, 0, none⟩)), (1, .int .i64 at_), (6, .int .i64 ((i : Int) - 1))])
        (fun i => plateParts b { s with reads := s.reads + 1 } bh bd pc cc []) (fun i => i) s.cache.length ⟨Nat.le_refl _, fun j hj x hx => by rw [List.getElem?_eq_none hj] at hx; cases hx⟩ fct shut ?_
      intro i ⟨hi, hno⟩
      unfold plateParts plate3; dsimp only
      have e1 := cacheV_length s.cache
      (repeat (first | refine g ?_))
      refine run_cond_dec rfl ?_ ?_
      · intro h4
        have h1' : i - 1 < s.cache.length := by omega
        obtain ⟨x, hx⟩ : ∃ x, s.cache[i - 1]? = some x := ⟨_, List.getElem?_eq_getElem h1'⟩
        refine s_ptr pc (h0 := by omega) (fun bc ep _ hcap => ?_)
        subst ep
        have hcv := cacheV_at s.cache (i - 1) x hx
        have hti : ((i : Int) - 1).toNat = i - 1 := by omega
        rw [← hti] at hcv
        (repeat (first | refine g ?_))
        refine s_idxk 2 ?_
        (repeat (first | refine g ?_))
        refine s_loadsl hcv.1 ?_
        (repeat (first | refine g ?_))
        refine run_cond_dec rfl ?_ ?_
        · intro h5
          have ef := last_at s.cache at_ (i - 1) x hx h5 fun j hj => hno j (by omega)
          rw [ef]
          (repeat (first | refine g ?_))
          refine s_idxk 2 ?_
          (repeat (first | refine g ?_))
          refine s_loadsl hcv.2.1 ?_
          (repeat (first | refine g ?_))
          exact run_ret rfl (imp_RD rfl (imp_plate shut))
        · intro h5
          (repeat (first | refine g ?_))
          refine run_stop_loop (i - 1) ⟨⟨by omega, fun j hj y hy => ?_⟩, by omega⟩ fct shut
          rcases Nat.lt_or_ge j i with h | h
          · obtain rfl : j = i - 1 := by omega
            rw [hx] at hy; cases hy; exact h5
          · exact hno j h y hy
      · intro h4
        have ef := none_at s.cache at_ fun j hj => hno j (by omega)
        rw [ef]
        (repeat (first | refine g ?_))
        refine s_call (held_parts q b { s with reads := s.reads + 1 } hw.held hw.dumb hw.sec bh bd pc cc at_) ?_
        (repeat (first | refine g ?_))
        exact run_ret rfl (imp_RD rfl (imp_plate shut))
@[reducible] def keepB (h : List ByteArray × List Bool) (y : (Int × ByteArray) × Bool) : List ByteArray × List Bool := if y.2 = true then keepH h y.1 else h
def startH (s : PSt) (ks : List Bool) : List ByteArray × List Bool := (s.cache.zip ks).foldl keepB (s.held, s.dumb)
def startF (s : PSt) (ks : List Bool) : PSt := { s with held := (startH s ks).1, dumb := (startH s ks).2, cache := [], down := false, fuse := -1 }
theorem foldB_len (l : List ((Int × ByteArray) × Bool)) (h : List ByteArray × List Bool) : (l.foldl keepB h).1.length = h.1.length ∧ (l.foldl keepB h).2.length = h.2.length := by
  induction l generalizing h with
  | nil => exact ⟨rfl, rfl⟩
  | cons x l ih =>
    have := ih (keepB h x)
    rw [List.foldl_cons, this.1, this.2]
    unfold keepB; split <;> simp
theorem start_spec (q : View) (b : Nat) (s : PSt) (hw : WF s) (kp : Option Addr) (kc : Nat) (ks : List Bool) (hk : RowQ q kp ks.length 1 (ks.map Value.bool)) :
    FnD Tryz.prog q 29 [.pointer (some ⟨b, 0, none⟩), .slice kp ks.length kc] [plateAt b s] (.tuple #[]) [plateAt b (startF s ks)] := by
  have hh := hw.held
  have hd := hw.dumb
  have hn := hw.size
  (first | refine FnD.go Tryz.call29 Tryz.func29 rfl rfl rfl ?_ | refine FnX.go Tryz.call29 Tryz.func29 rfl rfl rfl ?_)
  refine run_plate fun bh bd pc cc => ?_
  unfold plateParts plate3
  (repeat (first | refine g ?_))
  refine run_loopI (X := Nat) (fun i => i ≤ s.cache.length) (fun i => [(0, .pointer (some ⟨b, 0, none⟩)), (1, .slice kp ks.length kc), (11, .slice pc s.cache.length cc), (12, .int .i64 s.cache.length), (13, .int .i64 (i : Int))])
    (fun i => plateParts b (withH s (((s.cache.zip ks).take i).foldl keepB (s.held, s.dumb))) bh bd pc cc []) (fun i => s.cache.length - i) 0 (Nat.zero_le _) fct ?_ ?_
  · simp only [List.take_zero, List.foldl_nil]; unfold plateParts plate3; exact shut
  · intro i hi
    have hl : (((s.cache.zip ks).take i).foldl keepB (s.held, s.dumb)).1.length = s.held.length ∧ (((s.cache.zip ks).take i).foldl keepB (s.held, s.dumb)).2.length = s.dumb.length := foldB_len _ _
    generalize eS : ((s.cache.zip ks).take i).foldl keepB (s.held, s.dumb) = hS at *
    unfold plateParts plate3
    (repeat (first | refine g ?_))
    refine run_cond_dec rfl ?_ ?_
    · intro h1
      have h1' : i < s.cache.length := Int.ofNat_lt.1 h1
      obtain ⟨x, hx⟩ : ∃ x, s.cache[i]? = some x := ⟨_, List.getElem?_eq_getElem h1'⟩
      have hxm := hw.cache x (List.mem_of_getElem? hx)
      have e1 := cacheV_length s.cache
      refine s_ptr pc (h0 := show 0 < s.cache.length by omega) (fun bc ep _ hcap => ?_)
      subst ep
      (repeat (first | refine g ?_))
      refine s_idxk 2 ?_
      refine s_loadasl (i := i * 2) (cacheV_at s.cache i x hx).2.2 (by omega) ?_
      (repeat (first | refine g ?_))
      refine s_alloc fun r => ?_
      (repeat (first | refine g ?_))
      refine run_split_dec rfl rfl rfl rfl rfl ?_ ?_
      · intro h2
        have h2' : i < ks.length := Int.ofNat_lt.1 h2
        obtain ⟨bk, ok, ep, ho⟩ := hk.old (by omega)
        subst ep
        obtain ⟨z, hz⟩ : ∃ z, ks[i]? = some z := ⟨_, List.getElem?_eq_getElem h2'⟩
        have hzip : (s.cache.zip ks)[i]? = some (x, z) := by rw [List.getElem?_zip_eq_some]; exact ⟨hx, hz⟩
        have et : ((s.cache.zip ks).take (i + 1)).foldl keepB (s.held, s.dumb) = keepB hS (x, z) := by rw [List.take_add_one, hzip, List.foldl_append, eS]; rfl
        (repeat (first | refine g ?_))
        refine s_idxo (kk := 1) (ok + i) ?_
        refine s_loado (j := i) ho (v := .bool z) (by rw [List.getElem?_map, hz]; rfl) ?_
        (repeat (first | refine g ?_))
        refine run_cond rfl ?_ ?_
        · intro h3
          have et : ((s.cache.zip ks).take (i + 1)).foldl keepB (s.held, s.dumb) = keepH hS x := by rw [et]; unfold keepB; rw [if_pos h3]
          (repeat (first | refine g ?_))
          refine s_call (keep_parts q b (withH s hS) (show (hS.1.length : Int) = s.sectors by omega) (show (hS.2.length : Int) = s.sectors by omega) hw.sec x hxm.1 hxm.2 bh bd _ cc) ?_
          (repeat (first | refine g ?_))
          refine run_stop_loop (i + 1) ⟨h1', by omega⟩ fct ?_
          dsimp only
          rw [et]
          exact shut
        · intro h3
          have et : ((s.cache.zip ks).take (i + 1)).foldl keepB (s.held, s.dumb) = hS := by rw [et]; unfold keepB; rw [if_neg (by rw [h3]; exact Bool.false_ne_true)]
          (repeat (first | refine g ?_))
          refine run_stop_loop (i + 1) ⟨h1', by omega⟩ fct ?_
          dsimp only
          rw [et]
          exact shut
      · intro h2
        have h2' : ks.length ≤ i := Nat.le_of_not_lt fun h => h2 (Int.ofNat_lt.2 h)
        have et : ((s.cache.zip ks).take (i + 1)).foldl keepB (s.held, s.dumb) = hS := by
          rw [← eS, List.take_of_length_le, List.take_of_length_le]
          · rw [List.length_zip]; omega
          · rw [List.length_zip]; omega
        (repeat (first | refine g ?_))
        refine run_stop_loop (i + 1) ⟨h1', by omega⟩ fct ?_
        dsimp only
        rw [et]
        exact shut
    · intro h1
      have h1' : i = s.cache.length := Nat.le_antisymm hi (Nat.le_of_not_lt fun h => h1 (Int.ofNat_lt.2 h))
      (repeat (first | refine g ?_))
      have es : startH s ks = hS := by
        rw [← eS, h1', List.take_of_length_le]; rfl
        rw [List.length_zip]; omega
      refine run_end rfl (imp_RD rfl ?_)
      unfold startF; rw [es]
      refine imp_plate (bh := bh) (bd := bd) (pc := none) (cc := 0) ?_
      unfold plateParts plate3; dsimp only [List.length_nil]
      exact shut
def blank (n : Nat) : PSt := ⟨n, List.replicate n ⟨#[]⟩, List.replicate n false, [], -1, false, 0, 0⟩
theorem blank_wf (n : Nat) (h : n ≤ 32768) : WF (blank n) := ⟨by simp [blank], by simp [blank], by simp [blank]; omega, by simp [blank], by simp [blank], by simp [blank], by simp [blank], by simp [blank]⟩
theorem new_spec (q : View) (n : Nat) (h : n ≤ 32768) : FnX Tryz.prog q 13 [.int .i64 n] [] (fun b => .tuple #[.pointer (some ⟨b, 0, none⟩), .int .i64 0]) fun b => [plateAt b (blank n)] := by
  (first | refine FnD.go Tryz.call13 Tryz.func13 rfl rfl rfl ?_ | refine FnX.go Tryz.call13 Tryz.func13 rfl rfl rfl ?_)
  (repeat (first | refine g ?_))
  apply a_start (M := []) mixed
  (repeat (first | exact Pulls.nil | (apply Pulls.cons; (repeat (first | (with_reducible exact Pull.head) | apply Pull.tail)))))
  (apply a_pure 0 tabOk; rfl; kernel_rfl; kernel_rfl; kernel_rfl; rfl)
  (apply a_pure 1 tabOk; rfl; kernel_rfl; kernel_rfl; kernel_rfl; rfl)
  (apply a_pure 3 tabOk; rfl; kernel_rfl; kernel_rfl; kernel_rfl; rfl)
  refine any_two (i := 2) (j := 4) (by kernel_rfl) ?_ ?_
  · apply o_made (kb := 16) (lm := n) (lc := n) 2 tabOk; rfl; rfl; rfl; rfl; rfl; rfl; rfl; rfl; rfl; omega; omega; rfl; rfl; rfl; omega; omega; exact fun _ => rfl
    intro r1
    apply a_made (kb := 1) (lm := n) (lc := n) 4 tabOk; rfl; kernel_rfl; rfl; rfl; rfl; rfl; rfl; rfl; rfl; rfl; omega; omega; rfl; rfl; rfl; omega; omega; exact fun _ => rfl
    intro r2
    (apply a_build 5 tabOk; rfl; kernel_rfl; kernel_rfl; kernel_rfl; rfl; rfl; rfl)
    (apply a_box 6; rfl; kernel_rfl; rfl; rfl; rfl; exact fun _ => rfl)
    intro r
    (apply a_pure 7 tabOk; rfl; kernel_rfl; kernel_rfl; kernel_rfl; rfl)
    (apply a_pure 8 tabOk; rfl; kernel_rfl; kernel_rfl; kernel_rfl; rfl)
    (apply a_done; kernel_rfl; rfl)
    (repeat (first | refine g ?_))
    refine run_ret rfl (imp_RX r rfl ?_)
    apply imp_plate (pc := none) (cc := 0); unfold plateParts plate3 blank; dsimp only [List.length_nil]
    rw [List.length_replicate, List.length_replicate, List.map_replicate, List.map_replicate, ← zeroL_one (.string ⟨#[]⟩) rfl n, ← zeroL_one (.bool false) rfl n]
    exact shut
  · apply o_made (kb := 1) (lm := n) (lc := n) 4 tabOk; rfl; rfl; rfl; rfl; rfl; rfl; rfl; rfl; rfl; omega; omega; rfl; rfl; rfl; omega; omega; exact fun _ => rfl
    intro r1
    apply a_made (kb := 16) (lm := n) (lc := n) 2 tabOk; rfl; kernel_rfl; rfl; rfl; rfl; rfl; rfl; rfl; rfl; rfl; omega; omega; rfl; rfl; rfl; omega; omega; exact fun _ => rfl
    intro r2
    (apply a_build 5 tabOk; rfl; kernel_rfl; kernel_rfl; kernel_rfl; rfl; rfl; rfl)
    (apply a_box 6; rfl; kernel_rfl; rfl; rfl; rfl; exact fun _ => rfl)
    intro r
    (apply a_pure 7 tabOk; rfl; kernel_rfl; kernel_rfl; kernel_rfl; rfl)
    (apply a_pure 8 tabOk; rfl; kernel_rfl; kernel_rfl; kernel_rfl; rfl)
    (apply a_done; kernel_rfl; rfl)
    (repeat (first | refine g ?_))
    refine run_ret rfl (imp_RX r rfl ?_)
    apply imp_plate (pc := none) (cc := 0); unfold plateParts plate3 blank; dsimp only [List.length_nil]
    rw [List.length_replicate, List.length_replicate, List.map_replicate, List.map_replicate, ← zeroL_one (.string ⟨#[]⟩) rfl n, ← zeroL_one (.bool false) rfl n]
    exact shut
end Go.Proofs.YtaiocnpecaecdaaGreatDoor.V
namespace Go.Proofs.YtaiocnpecaecdaaGreatDoor.V
open Go.Proofs.YtaiocnpecaecdaaGreatDoor.VL
attribute [local irreducible] Run
end Go.Proofs.YtaiocnpecaecdaaGreatDoor.V
namespace Go.Proofs.YtaiocnpecaecdaaGreatDoor.V
open Go.Proofs.YtaiocnpecaecdaaGreatDoor.VL
attribute [local irreducible] Run
def bytesF (v : Int) (n : Nat) : ByteArray := ⟨(List.replicate n (UInt8.ofNat v.toNat)).toArray⟩
theorem bytesF_size (v : Int) (n : Nat) : (bytesF v n).size = n := by
  show (List.replicate n (UInt8.ofNat v.toNat)).toArray.size = n
  simp
theorem bv_bytes (v : Int) (n : Nat) (h0 : 0 ≤ v) (h1 : v ≤ 255) : bv (List.replicate n (UInt8.ofNat v.toNat)) = List.replicate n (Value.int .u8 v) := by
  unfold bv
  rw [List.map_replicate]
  congr 2
  rw [UInt8.toNat_ofNat']
  omega
theorem set_fill (n i : Nat) (a z : Value) (h : i < n) : (List.replicate i a ++ List.replicate (n - i) z).set i a = List.replicate (i + 1) a ++ List.replicate (n - (i + 1)) z := by
  rw [List.set_append_right _ _ (by simp), List.length_replicate, Nat.sub_self]
  obtain ⟨m, hm⟩ : ∃ m, n - i = m + 1 := ⟨n - i - 1, by omega⟩
  rw [hm, show n - (i + 1) = m by omega, List.replicate_succ, List.set_cons_zero, List.replicate_succ', List.append_assoc]
  rfl
end Go.Proofs.YtaiocnpecaecdaaGreatDoor.V
namespace Go.Proofs.YtaiocnpecaecdaaGreatDoor.V
open Go.Proofs.YtaiocnpecaecdaaGreatDoor.VL Go.Proofs.YtaiocnpecaecdaaGreatDoor.VL.RD Go.Proofs.YtaiocnpecaecdaaGreatDoor.VL.Sha
attribute [local irreducible] Run numB
abbrev s00 : VSt := ⟨[], [], []⟩
theorem s00_ok : VOk 0 s00 := ⟨Nat.zero_le _, Nat.zero_le _, Nat.zero_le _, by simp, by simp⟩
/-- What the vault knows behind a seal. -/
def sealS (s : VSt) (h : HeadT) (body : ByteArray) : VSt := { s with es := cntL s.es (sealedK h.salt (nonceB h) (bl (headL h)) body) }
def sealC (s : VSt) (h : HeadT) (body : ByteArray) : Nat := cntN s.es (sealedK h.salt (nonceB h) (bl (headL h)) body)
theorem bsealF_ok (s : VSt) (h : HeadT) (body : ByteArray) (hb : body.size = 448) (hok : (fldH h).all okN = true) : bsealF s h body = ((blkB h body (sealC s h body), 0), sealS s h body) := by
  unfold bsealF
  rw [if_neg (fun h => h hb), if_pos hok]
  rfl
theorem bsealF_no (s : VSt) (h : HeadT) (body : ByteArray) (hb : body.size = 448) (hok : (fldH h).all okN = false) : bsealF s h body = ((⟨#[]⟩, 2), s) := by
  unfold bsealF
  rw [if_neg (fun h => h hb), if_neg (by rw [hok]; decide)]
/-- A block that was made is empty or has all its bytes. -/
theorem bsealF_size (s : VSt) (h : HeadT) (body : ByteArray) : (bsealF s h body).1.1.size = 0 ∨ (bsealF s h body).1.1.size = 512 := by
  by_cases hz : body.size = 448
  · cases hok : (fldH h).all okN with
    | false => rw [bsealF_no s h body hz hok]; exact .inl rfl
    | true => rw [bsealF_ok s h body hz hok]; exact .inr (blkB_parts h body _ hz).1
  · unfold bsealF
    rw [if_pos hz]; exact .inl rfl
theorem sealS_ok {n : Nat} {s : VSt} (hs : VOk n s) (h : HeadT) (body : ByteArray) : VOk (n + 1) (sealS s h body) := by
  have hc := (cnt_le s.es (sealedK h.salt (nonceB h) (bl (headL h)) body)).2
  have hm := hs.es
  refine ⟨Nat.le_succ_of_le hs.hs, Nat.le_succ_of_le hs.ms, by show (cntL s.es _).length ≤ _; omega, hs.mo, ?_⟩
  intro k hk
  have hk : k ∈ cntL s.es (sealedK h.salt (nonceB h) (bl (headL h)) body) := hk
  unfold cntL at hk
  split at hk
  · exact hs.eo k hk
  · rcases List.mem_append.1 hk with hk | hk
    · exact hs.eo k hk
    · obtain rfl : k = sealedK h.salt (nonceB h) (bl (headL h)) body := by simpa using hk
      exact ⟨_, _, _, _, rfl⟩
theorem opens_iffS (s : VSt) (h : HeadT) (body : ByteArray) (hok : (fldH h).all okN = true) (hb : body.size = 448) (raw : ByteArray) (hz : raw.size = 512) :
    opensB (sealS s h body) raw ↔ opensB s raw ∨ raw = blkB h body (sealC s h body) := opens_seal s h body hok hb raw hz
theorem bopenF_head (s : VSt) (raw : ByteArray) (hz : raw.size = 512) (ho : opensB s raw) : (bopenF s raw).1 = openH raw := by
  by_cases hg : headGood raw
  · have h0 : (bopenR s raw).2 = 0 := by
      have := opens_good s raw hz hg
      unfold opensB at ho
      rw [ho] at this
      exact this.symm
    rw [bopenF_ok s raw hz hg, if_pos h0]
  · unfold opensB at ho
    rw [opens_bad s raw hz hg] at ho
    exact absurd ho (by decide)
theorem toldR_ok (H : HeadT) (B : ByteArray) (e a : Int) : (toldR H B e a).ok = true ↔ e = 0 ∧ H.addr = a := by
  unfold toldR
  split
  · rename_i h; exact ⟨fun _ => h, fun _ => rfl⟩
  · rename_i h; exact ⟨fun h2 => (by cases h2), fun h2 => absurd h2 h⟩
theorem told_ok (s : VSt) (raw : ByteArray) (a : Int) (hz : raw.size = 512) : (btoldF s raw a).ok = true ↔ opensB s raw ∧ (openH raw).addr = a := by
  unfold btoldF
  rw [toldR_ok]
  constructor
  · rintro ⟨h1, h2⟩
    rw [bopenF_head s raw hz h1] at h2
    exact ⟨h1, h2⟩
  · rintro ⟨h1, h2⟩
    refine ⟨h1, ?_⟩
    rw [bopenF_head s raw hz h1, h2]
theorem openH_block (h : HeadT) (body : ByteArray) (c : Nat) (hb : body.size = 448) (hok : (fldH h).all okN = true) : openH (blkB h body c) = h := openH_head _ h hok (blkB_parts h body c hb).2.1
end Go.Proofs.YtaiocnpecaecdaaGreatDoor.V
namespace Go.Proofs.YtaiocnpecaecdaaGreatDoor.V
open Go.Proofs.YtaiocnpecaecdaaGreatDoor.VL Go.Proofs.YtaiocnpecaecdaaGreatDoor.VL.RD Go.Proofs.YtaiocnpecaecdaaGreatDoor.VL.Sha
attribute [local irreducible] Run numB
theorem repeatL_one (n : Nat) : Lib.repeatL [(0 : UInt8)] n = List.replicate n 0 := by
  induction n with
  | zero => rfl
  | succ n ih => rw [List.replicate_succ, ← ih]; rfl
theorem repeat_spec (q : View) (n : Nat) (h : n ≤ 1000000) : FnD Tryz.prog q 58 [.string ⟨#[0]⟩, .int .i64 (n : Int)] [] (.string (bl (List.replicate n 0))) [] :=
  FnD.of_below Tryz.call58 fun w => by
    have := Tryz.strings_Repeat ⟨#[0]⟩ n w (by omega) (by show 1 * n ≤ _; omega)
    refine this.mono ?_
    rintro e' w' ⟨rfl, hb⟩
    exact ⟨by rw [show (⟨#[0]⟩ : ByteArray).data.toList = [0] from rfl, repeatL_one]; rfl, hb⟩
def blankB : ByteArray := bl (List.replicate 512 0)
theorem bblank_spec (q : View) : FnD Tryz.prog q 63 [] [] (.tuple #[.string blankB, .int .i64 255]) [] := by
  have c : FnD Tryz.prog q 58 [.string ⟨#[0]⟩, .int .i64 512] [] (.string blankB) [] := repeat_spec q 512 (by decide)
  obtain ⟨X, hX⟩ : ∃ X, X = blankB := ⟨_, rfl⟩
  rw [← hX] at c ⊢
  (first | refine FnD.go Tryz.call63 Tryz.func63 rfl rfl rfl ?_ | refine FnX.go Tryz.call63 Tryz.func63 rfl rfl rfl ?_)
  (repeat (first | refine g ?_))
  refine s_call c ?_
  (repeat (first | refine g ?_))
  exact run_ret rfl (imp_RD rfl shut)
theorem at_blank (q : View) (pr pm : Option Addr) (cr cm : Nat) (raws : List ByteArray) (masks : List Int) (hlr : raws.length ≤ 1000000) (hlm : masks.length ≤ 9223372036854775807) (a : Int)
    (hbad : a < 0 ∨ (raws.length : Int) ≤ a ∨ (masks.length : Int) ≤ a ∨ ∃ (i : Nat) (raw : ByteArray), a = i ∧ raws[i]? = some raw ∧ raw.size ≠ 512) :
    FnD Tryz.prog q 31 [.agg ⟨[.slice pr raws.length cr, .slice pm masks.length cm]⟩, .int .i64 a] [sl pr raws.length cr 9 1 (raws.map Value.string)] (.tuple #[.string blankB, .int .i64 255]) [sl pr raws.length cr 9 1 (raws.map Value.string)] := by
  have cb := bblank_spec q
  obtain ⟨X, hX⟩ : ∃ X, X = blankB := ⟨_, rfl⟩
  rw [← hX] at cb ⊢
  by_cases h0 : a < 0
  · (first | refine FnD.go Tryz.call31 Tryz.func31 rfl rfl rfl ?_ | refine FnX.go Tryz.call31 Tryz.func31 rfl rfl rfl ?_)
    (repeat (first | refine g ?_ | refine s_flat 3 [(.pure, [0, 2, 5, 7]), (.mem true, [1]), (.pure, [3]), (.mem true, [4]), (.pure, [10]), (.mem true, [6]), (.pure, [8]), (.mem true, [9]), (.pure, [11])] ?_))
    refine s_box fun b2 => ?_
    (repeat (first | refine g ?_ | refine s_flat 3 [(.pure, [0, 2, 5, 7]), (.mem true, [1]), (.pure, [3]), (.mem true, [4]), (.pure, [10]), (.mem true, [6]), (.pure, [8]), (.mem true, [9]), (.pure, [11])] ?_))
    refine s_call cb ?_
    (repeat (first | refine g ?_ | refine s_flat 3 [(.pure, [0, 2, 5, 7]), (.mem true, [1]), (.pure, [3]), (.mem true, [4]), (.pure, [10]), (.mem true, [6]), (.pure, [8]), (.mem true, [9]), (.pure, [11])] ?_))
    exact run_ret rfl (imp_RD rfl shut)
  by_cases h1 : (raws.length : Int) ≤ a
  · (first | refine FnD.go Tryz.call31 Tryz.func31 rfl rfl rfl ?_ | refine FnX.go Tryz.call31 Tryz.func31 rfl rfl rfl ?_)
    (repeat (first | refine g ?_ | refine s_flat 3 [(.pure, [0, 2, 5, 7]), (.mem true, [1]), (.pure, [3]), (.mem true, [4]), (.pure, [10]), (.mem true, [6]), (.pure, [8]), (.mem true, [9]), (.pure, [11])] ?_))
    refine s_box fun b2 => ?_
    (repeat (first | refine g ?_ | refine s_flat 3 [(.pure, [0, 2, 5, 7]), (.mem true, [1]), (.pure, [3]), (.mem true, [4]), (.pure, [10]), (.mem true, [6]), (.pure, [8]), (.mem true, [9]), (.pure, [11])] ?_))
    refine s_call cb ?_
    (repeat (first | refine g ?_ | refine s_flat 3 [(.pure, [0, 2, 5, 7]), (.mem true, [1]), (.pure, [3]), (.mem true, [4]), (.pure, [10]), (.mem true, [6]), (.pure, [8]), (.mem true, [9]), (.pure, [11])] ?_))
    exact run_ret rfl (imp_RD rfl shut)
  by_cases h2 : (masks.length : Int) ≤ a
  · (first | refine FnD.go Tryz.call31 Tryz.func31 rfl rfl rfl ?_ | refine FnX.go Tryz.call31 Tryz.func31 rfl rfl rfl ?_)
    (repeat (first | refine g ?_ | refine s_flat 3 [(.pure, [0, 2, 5, 7]), (.mem true, [1]), (.pure, [3]), (.mem true, [4]), (.pure, [10]), (.mem true, [6]), (.pure, [8]), (.mem true, [9]), (.pure, [11])] ?_))
    refine s_box fun b2 => ?_
    (repeat (first | refine g ?_ | refine s_flat 3 [(.pure, [0, 2, 5, 7]), (.mem true, [1]), (.pure, [3]), (.mem true, [4]), (.pure, [10]), (.mem true, [6]), (.pure, [8]), (.mem true, [9]), (.pure, [11])] ?_))
    refine s_call cb ?_
    (repeat (first | refine g ?_ | refine s_flat 3 [(.pure, [0, 2, 5, 7]), (.mem true, [1]), (.pure, [3]), (.mem true, [4]), (.pure, [10]), (.mem true, [6]), (.pure, [8]), (.mem true, [9]), (.pure, [11])] ?_))
    exact run_ret rfl (imp_RD rfl shut)
  obtain ⟨i, raw, rfl, hi, hz⟩ : ∃ (i : Nat) (raw : ByteArray), a = i ∧ raws[i]? = some raw ∧ raw.size ≠ 512 := by
    rcases hbad with h | h | h | h
    · exact absurd h h0
    · exact absurd h h1
    · exact absurd h h2
    · exact h
  have h1 : i < raws.length := (List.getElem?_eq_some_iff.1 hi).1
  have hx : (raws.map Value.string)[i]? = some (.string raw) := by rw [List.getElem?_map, hi]; rfl
  (first | refine FnD.go Tryz.call31 Tryz.func31 rfl rfl rfl ?_ | refine FnX.go Tryz.call31 Tryz.func31 rfl rfl rfl ?_)
  (repeat (first | refine g ?_ | refine s_flat 3 [(.pure, [0, 2, 5, 7]), (.mem true, [1]), (.pure, [3]), (.mem true, [4]), (.pure, [10]), (.mem true, [6]), (.pure, [8]), (.mem true, [9]), (.pure, [11])] ?_))
  refine s_box fun b2 => ?_
  refine s_ptr pr (h0 := by omega) (fun br er _ _ => ?_)
  subst er
  (repeat (first | refine g ?_ | refine s_flat 3 [(.pure, [0, 2, 5, 7]), (.mem true, [1]), (.pure, [3]), (.mem true, [4]), (.pure, [10]), (.mem true, [6]), (.pure, [8]), (.mem true, [9]), (.pure, [11])] ?_))
  refine s_loadsl hx ?_
  (repeat (first | refine g ?_ | refine s_flat 3 [(.pure, [0, 2, 5, 7]), (.mem true, [1]), (.pure, [3]), (.mem true, [4]), (.pure, [10]), (.mem true, [6]), (.pure, [8]), (.mem true, [9]), (.pure, [11])] ?_))
  refine s_call cb ?_
  (repeat (first | refine g ?_ | refine s_flat 3 [(.pure, [0, 2, 5, 7]), (.mem true, [1]), (.pure, [3]), (.mem true, [4]), (.pure, [10]), (.mem true, [6]), (.pure, [8]), (.mem true, [9]), (.pure, [11])] ?_))
  exact run_ret rfl (imp_RD rfl shut)
end Go.Proofs.YtaiocnpecaecdaaGreatDoor.V
