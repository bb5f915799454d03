/- pack: numbers as bytes; texts filled up. -/
import Derived.Test.YteengkkbedijdaaVA
import Derived.Test.YteengkkbedijdaaRD
set_option maxRecDepth 10000
set_option linter.unusedVariables false
namespace Go.Proofs.Yteengkkbedijdaa.V
open Go.Proofs.Yteengkkbedijdaa.VL Go.Proofs.Yteengkkbedijdaa.VL.RD
attribute [local irreducible] Run
def writerAt (b : Nat) (l : List UInt8) (bad : Bool) : HProp := hex fun x : Option Addr × Nat => star [cells b 110 ⟨[.slice x.1 l.length x.2, .bool bad]⟩, sl x.1 l.length x.2 5 1 (bv l)]
section
variable {P : Program} {q : View} {fn : Func} {R : Value → HProp} {k : List It} {σ : Facts} {A B : List HProp} {F : HProp} {b : Nat} {l : List UInt8} {bad : Bool}
theorem run_writer (hk : ∀ p c, Run P q fn R k σ (cells b 110 ⟨[.slice p l.length c, .bool bad]⟩ :: sl p l.length c 5 1 (bv l) :: A)) : Run P q fn R k σ (writerAt b l bad :: A) :=
  run_hex fun x => run_star (hk _ _)
theorem imp_writer {p : Option Addr} {c : Nat} (h : Imp F (star (cells b 110 ⟨[.slice p l.length c, .bool bad]⟩ :: sl p l.length c 5 1 (bv l) :: B))) : Imp F (star (writerAt b l bad :: B)) := by
  refine imp_ex (p, c) ?_
  exact imp_star h
end
def leb (n k : Nat) : List UInt8 := (List.range k).map fun j => UInt8.ofNat (n / 256 ^ j % 256)
theorem leb_length (n k : Nat) : (leb n k).length = k := by simp [leb]
theorem leb_succ (n k : Nat) : leb n (k + 1) = leb n k ++ [UInt8.ofNat (n / 256 ^ k % 256)] := by simp [leb, List.range_succ]
section
variable {P : Program} {q : View} {fn : Func} {R : Value → HProp} {k : List It} {σ : Facts} {A : List HProp} {b : Nat}
theorem run_to_writer {l : List UInt8} {bad : Bool} {p : Option Addr} {c : Nat} (h : Run P q fn R k σ (writerAt b l bad :: A)) : Run P q fn R k σ (cells b 110 ⟨[.slice p l.length c, .bool bad]⟩ :: sl p l.length c 5 1 (bv l) :: A) :=
  h.imp (imp_writer (p := p) (c := c) (Imp.refl _))
theorem run_intro_writer (h : Run P q fn R k σ (writerAt b [] false :: A)) : Run P q fn R k σ (cells b 110 ⟨[.slice none 0 0, .bool false]⟩ :: A) :=
  h.imp (imp_writer (p := none) (c := 0) (imp_pick Pull.head (imp_sl_nil (Imp.refl _))))
end
/-- A number is laid. -/
def wput (l : List UInt8) (bad : Bool) (n : Int) (w : Nat) : List UInt8 × Bool := if n < 0 ∨ n / 2 ^ (8 * w) ≠ 0 then (l, true) else (l ++ leb n.toNat w, bad)
theorem byte_at (n i : Nat) : ((n : Int) / 2 ^ (8 * i) % 256 : Int) = ((n / 256 ^ i % 256 : Nat) : Int) := by
  rw [Int.pow_mul]
  norm_cast
theorem wput_spec (q : View) (b : Nat) (l : List UInt8) (bad : Bool) (n : Int) (w : Nat) (hw : w ≤ 6) (hn : n ≤ 9223372036854775807) (hl : l.length ≤ 1000000) :
    FnD Try.prog q 73 [.pointer (some ⟨b, 0, none⟩), .int .i64 n, .int .i64 w] [writerAt b l bad] (.tuple #[]) [writerAt b (wput l bad n w).1 (wput l bad n w).2] := by
  unfold wput
  (first | refine FnD.go Try.call73 Try.func73 rfl rfl rfl ?_ | refine FnX.go Try.call73 Try.func73 rfl rfl rfl ?_)
  refine run_writer fun p c => ?_
  by_cases h0 : n < 0
  · rw [if_pos (.inl h0)]
    (repeat (first | refine g ?_))
    exact run_ret rfl (imp_RD rfl (imp_writer shut))
  obtain ⟨m, rfl⟩ : ∃ m : Nat, n = m := ⟨n.toNat, by omega⟩
  by_cases h1 : (m : Int) / 2 ^ (8 * w) ≠ 0
  · rw [if_pos (.inr h1)]
    (repeat (first | refine g ?_))
    exact run_ret rfl (imp_RD rfl (imp_writer shut))
  · rw [if_neg (by rintro (h | h); exact h0 h; exact h1 h)]
    (repeat (first | refine g ?_))
    refine run_loopI (X := Nat × Option Addr × Nat) (fun x => x.1 ≤ w) (fun x => [(0, .pointer (some ⟨b, 0, none⟩)), (1, .int .i64 (m : Int)), (19, .int .i64 (w : Int)), (20, .int .i64 (x.1 : Int))])
      (fun x => [cells b 110 ⟨[.slice x.2.1 (l ++ leb m x.1).length x.2.2, .bool bad]⟩, sl x.2.1 (l ++ leb m x.1).length x.2.2 5 1 (bv (l ++ leb m x.1))]) (fun x => w - x.1) (0, p, c) (Nat.zero_le _) fct (by rw [show leb m 0 = [] from rfl, List.append_nil]; exact shut) ?_
    intro ⟨i, p, c⟩ hi
    dsimp only at *
    (repeat (first | refine g ?_))
    refine run_cond_dec rfl ?_ ?_
    · intro h2
      have h2' : i < w := by omega
      have hll : (l ++ leb m i).length = l.length + i := by rw [List.length_append, leb_length]
      (repeat (first | refine g ?_))
      have eb : (((m : Int) / 2 ^ ((8 : Int) * i).toNat) % 256) = ((UInt8.ofNat (m / 256 ^ i % 256)).toNat : Int) := by
        rw [show ((8 : Int) * i).toNat = 8 * i by omega, byte_at, UInt8.toNat_ofNat']; omega
      have el : bv (l ++ leb m (i + 1)) = bv (l ++ leb m i) ++ [Value.int .u8 (((m : Int) / 2 ^ ((8 : Int) * i).toNat) % 256)] := by
        rw [leb_succ, ← List.append_assoc, bv_append _ [_], eb]; rfl
      have ell : (l ++ leb m (i + 1)).length = (l ++ leb m i).length + 1 := by
        rw [leb_succ, ← List.append_assoc]; exact List.length_append
      refine d_all ?_
      (refine d_pure 0 ?_)
      (refine d_pure 1 ?_)
      (refine d_pure 2 ?_)
      (refine d_fieldat 3 ?_)
      (refine d_pure 5 ?_)
      (refine d_pure 6 ?_)
      (refine d_arith 7 ?_)
      (refine d_shrv 8 ?_)
      (refine d_pure 9 ?_)
      refine d_two 4 10 ?_ ?_
      · refine d_ovia1 4 (h1 := by refine s_load ?_; exact run_fin1) (h := ?_)
        refine d_via 10 (X := Nat) (h1 := by refine s_built fun r => ?_; exact run_fin r) (h := fun r => ?_)
        refine d_via 11 (X := Option Addr × Nat) (h1 := by refine s_app 1 1 (reads_own At.head rfl) (hxl := by rw [bv_length, Nat.mul_one]) fun r2 => ?_; exact run_fin r2) (h := fun r2 => ?_)
        (refine d_pure 12 ?_)
        (refine d_fieldat 13 ?_)
        refine d_via1 14 (h1 := by refine s_store ?_; exact run_fin1) (h := ?_)
        refine d_done ?_
        (repeat (first | refine g ?_))
        refine run_stop_loop (i + 1, r2.1, r2.2) ⟨h2', by dsimp only; omega⟩ fct ?_
        dsimp only
        rw [el, ell]
        exact shut
      · refine d_ovia 10 (X := Nat) (h1 := by refine s_built fun r => ?_; exact run_fin r) (h := fun r => ?_)
        refine d_via1 4 (h1 := by refine s_load ?_; exact run_fin1) (h := ?_)
        refine d_via 11 (X := Option Addr × Nat) (h1 := by refine s_app 1 1 (reads_own At.head rfl) (hxl := by rw [bv_length, Nat.mul_one]) fun r2 => ?_; exact run_fin r2) (h := fun r2 => ?_)
        (refine d_pure 12 ?_)
        (refine d_fieldat 13 ?_)
        refine d_via1 14 (h1 := by refine s_store ?_; exact run_fin1) (h := ?_)
        refine d_done ?_
        (repeat (first | refine g ?_))
        refine run_stop_loop (i + 1, r2.1, r2.2) ⟨h2', by dsimp only; omega⟩ fct ?_
        dsimp only
        rw [el, ell]
        exact shut
    · intro h2
      obtain rfl : i = w := by omega
      (repeat (first | refine g ?_))
      exact run_end rfl (imp_RD rfl (imp_writer shut))
/-- A number as so many bytes. -/
def putF (n w : Int) : ByteArray × Int := if w < 1 ∨ 6 < w then (⟨#[]⟩, 1) else if n < 0 ∨ n / 2 ^ (8 * w.toNat) ≠ 0 then (⟨#[]⟩, 2) else (⟨(leb n.toNat w.toNat).toArray⟩, 0)
theorem put_spec (q : View) (n w : Int) (hn : n ≤ 9223372036854775807) : FnD Try.prog q 55 [.int .i64 n, .int .i64 w] [] (.tuple #[.string (V.putF n w).1, .int .i64 (V.putF n w).2]) [] := by
  unfold V.putF
  (first | refine FnD.go Try.call55 Try.func55 rfl rfl rfl ?_ | refine FnX.go Try.call55 Try.func55 rfl rfl rfl ?_)
  by_cases h0 : w < 1
  · rw [if_pos (.inl h0)]
    (repeat (first | refine g ?_))
    exact run_ret rfl (imp_RD rfl shut)
  by_cases h1 : 6 < w
  · rw [if_pos (.inr h1)]
    (repeat (first | refine g ?_))
    exact run_ret rfl (imp_RD rfl shut)
  rw [if_neg (by omega)]
  obtain ⟨k, rfl⟩ : ∃ k : Nat, w = k := ⟨w.toNat, by omega⟩
  rw [Int.toNat_natCast]
  (repeat (first | refine g ?_))
  refine s_alloc fun r => ?_
  (repeat (first | refine g ?_))
  have c := wput_spec q r [] false n k (by omega) hn (Nat.zero_le _)
  unfold wput at c
  refine run_pull (X := cells r 110 ⟨[.slice none 0 0, .bool false]⟩) (by (repeat (first | (with_reducible exact Pull.head) | apply Pull.tail))) ?_
  refine run_intro_writer ?_
  by_cases h2 : n < 0 ∨ n / 2 ^ (8 * k) ≠ 0
  · rw [if_pos h2] at c ⊢
    refine s_call c ?_
    refine run_writer fun p c => ?_
    (repeat (first | refine g ?_))
    exact run_ret rfl (imp_RD rfl shut)
  · rw [if_neg h2] at c ⊢
    refine s_call c ?_
    refine run_writer fun p c => ?_
    rw [List.nil_append]
    (repeat (first | refine g ?_))
    refine s_string ?_
    (repeat (first | refine g ?_))
    exact run_ret rfl (imp_RD rfl shut)
def pad0 (l : List UInt8) (n : Nat) : List UInt8 := l ++ List.replicate (n - l.length) 0
theorem full_spec (q : View) (b : Nat) (l : List UInt8) (bad : Bool) (n : Nat) (hn : n ≤ 1000000) (hl : l.length ≤ 1000000) :
    FnD Try.prog q 84 [.pointer (some ⟨b, 0, none⟩), .int .i64 n] [writerAt b l bad] (.string ⟨(pad0 l n).toArray⟩) [writerAt b (pad0 l n) bad] := by
  unfold pad0
  (first | refine FnD.go Try.call84 Try.func84 rfl rfl rfl ?_ | refine FnX.go Try.call84 Try.func84 rfl rfl rfl ?_)
  refine run_writer fun p c => ?_
  (repeat (first | refine g ?_))
  refine run_loopI (X := Nat × Option Addr × Nat) (fun x => x.1 ≤ n - l.length) (fun x => [(0, .pointer (some ⟨b, 0, none⟩)), (1, .int .i64 (n : Int))])
    (fun x => [cells b 110 ⟨[.slice x.2.1 (l ++ List.replicate x.1 0).length x.2.2, .bool bad]⟩, sl x.2.1 (l ++ List.replicate x.1 0).length x.2.2 5 1 (bv (l ++ List.replicate x.1 0))]) (fun x => n - l.length - x.1) (0, p, c) (Nat.zero_le _) fct (by rw [List.replicate_zero, List.append_nil]; exact shut) ?_
  intro ⟨i, p, c⟩ hi
  dsimp only at *
  have hll : (l ++ List.replicate i (0 : UInt8)).length = l.length + i := by rw [List.length_append, List.length_replicate]
  (repeat (first | refine g ?_))
  refine run_cond_dec rfl ?_ ?_
  · intro h2
    have h2' : i < n - l.length := by omega
    have el : bv (l ++ List.replicate (i + 1) 0) = bv (l ++ List.replicate i 0) ++ [Value.int .u8 0] := by
      rw [List.replicate_succ', ← List.append_assoc, bv_append _ [_]]; rfl
    have ell : (l ++ List.replicate (i + 1) (0 : UInt8)).length = (l ++ List.replicate i (0 : UInt8)).length + 1 := by
      rw [List.replicate_succ', ← List.append_assoc]; exact List.length_append
    (repeat (first | refine g ?_))
    refine s_built fun r => ?_
    (repeat (first | refine g ?_))
    refine s_app 1 1 (reads_own At.head rfl) (hxl := by rw [bv_length, Nat.mul_one]) fun r2 => ?_
    (repeat (first | refine g ?_))
    refine run_stop_loop (i + 1, r2.1, r2.2) ⟨h2', by dsimp only; omega⟩ fct ?_
    dsimp only
    rw [el, ell]
    exact shut
  · intro h2
    obtain rfl : i = n - l.length := by omega
    (repeat (first | refine g ?_))
    refine s_string ?_
    (repeat (first | refine g ?_))
    exact run_ret rfl (imp_RD rfl (imp_writer shut))
/-- A text, filled up. -/
def padF (s : ByteArray) (n : Int) : ByteArray × Int := if n < 0 ∨ 4096 < n then (⟨#[]⟩, 1) else if n < s.size then (⟨#[]⟩, 4) else (⟨(pad0 s.data.toList n.toNat).toArray⟩, 0)
theorem pad_spec (q : View) (s : ByteArray) (n : Int) (hs : s.size ≤ 140737488351232) : FnD Try.prog q 67 [.string s, .int .i64 n] [] (.tuple #[.string (padF s n).1, .int .i64 (padF s n).2]) [] := by
  unfold padF
  (first | refine FnD.go Try.call67 Try.func67 rfl rfl rfl ?_ | refine FnX.go Try.call67 Try.func67 rfl rfl rfl ?_)
  by_cases h0 : n < 0
  · rw [if_pos (.inl h0)]
    (repeat (first | refine g ?_))
    exact run_ret rfl (imp_RD rfl shut)
  by_cases h1 : 4096 < n
  · rw [if_pos (.inr h1)]
    (repeat (first | refine g ?_))
    exact run_ret rfl (imp_RD rfl shut)
  rw [if_neg (by omega)]
  obtain ⟨k, rfl⟩ : ∃ k : Nat, n = k := ⟨n.toNat, by omega⟩
  rw [Int.toNat_natCast]
  by_cases h2 : (k : Int) < s.size
  · rw [if_pos h2]
    (repeat (first | refine g ?_))
    exact run_ret rfl (imp_RD rfl shut)
  rw [if_neg h2]
  (repeat (first | refine g ?_))
  refine s_bytes fun r => ?_
  (repeat (first | refine g ?_))
  refine s_alloc fun b => ?_
  (repeat (first | refine g ?_))
  have hl : s.data.toList.length ≤ 1000000 := by
    have : s.data.toList.length = s.size := rfl
    omega
  refine run_to_writer (l := s.data.toList) ?_
  refine s_call (full_spec q b s.data.toList false k (by omega) hl) ?_
  (repeat (first | refine g ?_))
  exact run_ret rfl (imp_RD rfl shut)
/-- A number, and noughts behind it. -/
theorem leb_div (n k : Nat) (h : n < 256 ^ k) : (n : Int) / 2 ^ (8 * k) = 0 := by
  have e : (2 : Int) ^ (8 * k) = ((256 ^ k : Nat) : Int) := by rw [Int.pow_mul]; norm_cast
  rw [e]
  exact_mod_cast congrArg Nat.cast (Nat.div_eq_of_lt h)
def numB (n size : Nat) : ByteArray := ⟨(pad0 (leb n 6) size).toArray⟩
theorem numbered_spec (q : View) (n size : Nat) (hn : n < 281474976710656) (h6 : 6 ≤ size) (hs : size ≤ 4096) : FnD Try.prog q 42 [.int .i64 n, .int .i64 size] [] (.string (numB n size)) [] := by
  have c1 := put_spec q n 6 (by omega)
  have c2 := pad_spec q ⟨(leb n 6).toArray⟩ size (by show (leb n 6).toArray.size ≤ _; rw [List.size_toArray, leb_length]; decide)
  unfold V.putF at c1
  unfold padF at c2
  have e1 : (⟨(leb n 6).toArray⟩ : ByteArray).size = 6 := by show (leb n 6).toArray.size = 6; rw [List.size_toArray, leb_length]
  have ed := leb_div n 6 hn
  rw [if_neg (by decide), if_neg (by rintro (h | h); omega; exact h ed)] at c1
  rw [e1, if_neg (by omega), if_neg (by omega)] at c2
  dsimp only at c1 c2
  (first | refine FnD.go Try.call42 Try.func42 rfl rfl rfl ?_ | refine FnX.go Try.call42 Try.func42 rfl rfl rfl ?_)
  (repeat (first | refine g ?_))
  refine s_call c1 ?_
  (repeat (first | refine g ?_))
  refine s_call c2 ?_
  (repeat (first | refine g ?_))
  exact run_ret rfl (imp_RD rfl shut)
end Go.Proofs.Yteengkkbedijdaa.V
