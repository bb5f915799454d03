/- pack: numbers as bytes; texts filled up. -/
import Derived.Test.YteengkkbedijdaaVA
import Derived.Test.YteengkkbedijdaaRD
set_option maxRecDepth 10000
set_option linter.unusedVariables false
namespace Go.Proofs.Yteengkkbedijdaa.V
open Go.Proofs.Yteengkkbedijdaa.VL Go.Proofs.Yteengkkbedijdaa.VL.RD
attribute [local irreducible] Run
def writerAt (b : Nat) (l : List UInt8) (bad : Bool) : HProp := hex fun x : Option Addr × Nat => star [cells b 110 ⟨[.slice x.1 l.length x.2, .bool bad]⟩, sl x.1 l.length x.2 5 1 (bv l)]
section
variable {P : Program} {q : View} {fn : Func} {R : Value → HProp} {k : List It} {σ : Facts} {A B : List HProp} {F : HProp} {b : Nat} {l : List UInt8} {bad : Bool}
theorem run_writer (hk : ∀ p c, Run P q fn R k σ (cells b 110 ⟨[.slice p l.length c, .bool bad]⟩ :: sl p l.length c 5 1 (bv l) :: A)) : Run P q fn R k σ (writerAt b l bad :: A) :=
  run_hex fun x => run_star (hk _ _)
theorem imp_writer {p : Option Addr} {c : Nat} (h : Imp F (star (cells b 110 ⟨[.slice p l.length c, .bool bad]⟩ :: sl p l.length c 5 1 (bv l) :: B))) : Imp F (star (writerAt b l bad :: B)) := by
  refine imp_ex (p, c) ?_
  exact imp_star h
end
def leb (n k : Nat) : List UInt8 := (List.range k).map fun j => UInt8.ofNat (n / 256 ^ j % 256)
theorem leb_length (n k : Nat) : (leb n k).length = k := by simp [leb]
theorem leb_succ (n k : Nat) : leb n (k + 1) = leb n k ++ [UInt8.ofNat (n / 256 ^ k % 256)] := by simp [leb, List.range_succ]
section
variable {P : Program} {q : View} {fn : Func} {R : Value → HProp} {k : List It} {σ : Facts} {A : List HProp} {b : Nat}
theorem run_to_writer {l : List UInt8} {bad : Bool} {p : Option Addr} {c : Nat} (h : Run P q fn R k σ (writerAt b l bad :: A)) : Run P q fn R k σ (cells b 110 ⟨[.slice p l.length c, .bool bad]⟩ :: sl p l.length c 5 1 (bv l) :: A) :=
  h.imp (imp_writer (p := p) (c := c) (Imp.refl _))
theorem run_intro_writer (h : Run P q fn R k σ (writerAt b [] false :: A)) : Run P q fn R k σ (cells b 110 ⟨[.slice none 0 0, .bool false]⟩ :: A) :=
  h.imp (imp_writer (p := none) (c := 0) (imp_pick Pull.head (imp_sl_nil (Imp.refl _))))
end
/-- A number is laid. -/
def wput (l : List UInt8) (bad : Bool) (n : Int) (w : Nat) : List UInt8 × Bool := if n < 0 ∨ n / 2 ^ (8 * w) ≠ 0 then (l, true) else (l ++ leb n.toNat w, bad)
theorem byte_at (n i : Nat) : ((n : Int) / 2 ^ (8 * i) % 256 : Int) = ((n / 256 ^ i % 256 : Nat) : Int) := by
  rw [Int.pow_mul]
  norm_cast
theorem wput_spec (q : View) (b : Nat) (l : List UInt8) (bad : Bool) (n : Int) (w : Nat) (hw : w ≤ 6) (hn : n ≤ 9223372036854775807) (hl : l.length ≤ 1000000) :
    FnD Try.prog q 73 [.pointer (some ⟨b, 0, none⟩), .int .i64 n, .int .i64 w] [writerAt b l bad] (.tuple #[]) [writerAt b (wput l bad n w).1 (wput l bad n w).2] := by
  unfold wput
  (first | refine FnD.go Try.call73 Try.func73 rfl rfl rfl ?_ | refine FnX.go Try.call73 Try.func73 rfl rfl rfl ?_)
  refine run_writer fun p c => ?_
  by_cases h0 : n < 0
  · rw [if_pos (.inl h0)]
    (repeat (first | refine g ?_))
    exact run_ret rfl (imp_RD rfl (imp_writer shut))
  obtain ⟨m, rfl⟩ : ∃ m : Nat, n = m := ⟨n.toNat, by omega⟩
  by_cases h1 : (m : Int) / 2 ^ (8 * w) ≠ 0
  · rw [if_pos (.inr h1)]
    (repeat (first | refine g ?_))
    exact run_ret rfl (imp_RD rfl (imp_writer shut))
  · rw [if_neg (by rintro (h | h); exact h0 h; exact h1 h)]
    (repeat (first | refine g ?_))
    refine run_loopI (X := Nat × Option Addr × Nat) (fun x => x.1 ≤ w) (fun x => [(0, .pointer (some ⟨b, 0, none⟩)), (1, .int .i64 (m : Int)), (19, .int .i64 (w : Int)), (20, .int .i64 (x.1 : Int))])
      (fun x => [cells b 110 ⟨[.slice x.2.1 (l ++ leb m x.1).length x.2.2, .bool bad]⟩, sl x.2.1 (l ++ leb m x.1).length x.2.2 5 1 (bv (l ++ leb m x.1))]) (fun x => w - x.1) (0, p, c) (Nat.zero_le _) fct (by rw [show leb m 0 = [] from rfl, List.append_nil]; exact shut) ?_
    intro ⟨i, p, c⟩ hi
    dsimp only at *
    (repeat (first | refine g ?_))
    refine run_cond_dec rfl ?_ ?_
    · intro h2
      have h2' : i < w := by omega
      have hll : (l ++ leb m i).length = l.length + i := by rw [List.length_append, leb_length]
      (repeat (first | refine g ?_))
      have eb : (((m : Int) / 2 ^ ((8 : Int) * i).toNat) % 256) = ((UInt8.ofNat (m / 256 ^ i % 256)).toNat : Int) := by
        rw [show ((8 : Int) * i).toNat = 8 * i by omega, byte_at, UInt8.toNat_ofNat']; omega
      have el : bv (l ++ leb m (i + 1)) = bv (l ++ leb m i) ++ [Value.int .u8 (((m : Int) / 2 ^ ((8 : Int) * i).toNat) % 256)] := by
        rw [leb_succ, ← List.append_assoc, bv_append _ [_], eb]; rfl
      have ell : (l ++ leb m (i + 1)).length = (l ++ leb m i).length + 1 := by
        rw [leb_succ, ← List.append_assoc]; exact List.length_append
      refine d_all ?_
      (refine d_pure 0 ?_)
      (refine d_pure 1 ?_)
      (refine d_pure 2 ?_)
      (refine d_fieldat 3 ?_)
      (refine d_pure 5 ?_)
      (refine d_pure 6 ?_)
      (refine d_arith 7 ?_)
      (refine d_shrv 8 ?_)
      (refine d_pure 9 ?_)
      refine d_two 4 10 ?_ ?_
      · refine d_ovia1 4 (h1 := by refine s_load ?_; exact run_fin1) (h := ?_)
        refine d_via 10 (X := Nat) (h1 := by refine s_built fun r => ?_; exact run_fin r) (h := fun r => ?_)
        refine d_via 11 (X := Option Addr × Nat) (h1 := by refine s_app 1 1 (reads_own At.head rfl) (hxl := by rw [bv_length, Nat.mul_one]) fun r2 => ?_; exact run_fin r2) (h := fun r2 => ?_)
        (refine d_pure 12 ?_)
        (refine d_fieldat 13 ?_)
        refine d_via1 14 (h1 := by refine s_store ?_; exact run_fin1) (h := ?_)
        refine d_done ?_
        (repeat (first | refine g ?_))
        refine run_stop_loop (i + 1, r2.1, r2.2) ⟨h2', by dsimp only; omega⟩ fct ?_
        dsimp only
        rw [el, ell]
        exact shut
      · refine d_ovia 10 (X := Nat) (h1 := by refine s_built fun r => ?_; exact run_fin r) (h := fun r => ?_)
        refine d_via1 4 (h1 := by refine s_load ?_; exact run_fin1) (h := ?_)
        refine d_via 11 (X := Option Addr × Nat) (h1 := by refine s_app 1 1 (reads_own At.head rfl) (hxl := by rw [bv_length, Nat.mul_one]) fun r2 => ?_; exact run_fin r2) (h := fun r2 => ?_)
        (refine d_pure 12 ?_)
        (refine d_fieldat 13 ?_)
        refine d_via1 14 (h1 := by refine s_store ?_; exact run_fin1) (h := ?_)
        refine d_done ?_
        (repeat (first | refine g ?_))
        refine run_stop_loop (i + 1, r2.1, r2.2) ⟨h2', by dsimp only; omega⟩ fct ?_
        dsimp only
        rw [el, ell]
        exact shut
    · intro h2
      obtain rfl : i = w := by omega
      (repeat (first | refine g ?_))
      exact run_end rfl (imp_RD rfl (imp_writer shut))
/-- A number as so many bytes. -/
def putF (n w : Int) : ByteArray × Int := if w < 1 ∨ 6 < w then (⟨#[]⟩, 1) else if n < 0 ∨ n / 2 ^ (8 * w.toNat) ≠ 0 then (⟨#[]⟩, 2) else (⟨(leb n.toNat w.toNat).toArray⟩, 0)
theorem put_spec (q : View) (n w : Int) (hn : n ≤ 9223372036854775807) : FnD Try.prog q 55 [.int .i64 n, .int .i64 w] [] (.tuple #[.string (V.putF n w).1, .int .i64 (V.putF n w).2]) [] := by
  unfold V.putF
  (first | refine FnD.go Try.call55 Try.func55 rfl rfl rfl ?_ | refine FnX.go Try.call55 Try.func55 rfl rfl rfl ?_)
  by_cases h0 : w < 1
  · rw [if_pos (.inl h0)]
    (repeat (first | refine g ?_))
    exact run_ret rfl (imp_RD rfl shut)
  by_cases h1 : 6 < w
  · rw [if_pos (.inr h1)]
    (repeat (first | refine g ?_))
    exact run_ret rfl (imp_RD rfl shut)
  rw [if_neg (by omega)]
  obtain ⟨k, rfl⟩ : ∃ k : Nat, w = k := ⟨w.toNat, by omega⟩
  rw [Int.toNat_natCast]
  (repeat (first | refine g ?_))
  refine s_alloc fun r => ?_
  (repeat (first | refine g ?_))
  have c := wput_spec q r [] false n k (by omega) hn (Nat.zero_le _)
  unfold wput at c
  refine run_pull (X := cells r 110 ⟨[.slice none 0 0, .bool false]⟩) (by (repeat (first | (with_reducible exact Pull.head) | apply Pull.tail))) ?_
  refine run_intro_writer ?_
  by_cases h2 : n < 0 ∨ n / 2 ^ (8 * k) ≠ 0
  · rw [if_pos h2] at c ⊢
    refine s_call c ?_
    refine run_writer fun p c => ?_
    (repeat (first | refine g ?_))
    exact run_ret rfl (imp_RD rfl shut)
  · rw [if_neg h2] at c ⊢
    refine s_call c ?_
    refine run_writer fun p c => ?_
    rw [List.nil_append]
    (repeat (first | refine g ?_))
    refine s_string ?_
    (repeat (first | refine g ?_))
    exact run_ret rfl (imp_RD rfl shut)
def pad0 (l : List UInt8) (n : Nat) : List UInt8 := l ++ List.replicate (n - l.length) 0
theorem full_spec (q : View) (b : Nat) (l : List UInt8) (bad : Bool) (n : Nat) (hn : n ≤ 1000000) (hl : l.length ≤ 1000000) :
    FnD Try.prog q 84 [.pointer (some ⟨b, 0, none⟩), .int .i64 n] [writerAt b l bad] (.string ⟨(pad0 l n).toArray⟩) [writerAt b (pad0 l n) bad] := by
  unfold pad0
  (first | refine FnD.go Try.call84 Try.func84 rfl rfl rfl ?_ | refine FnX.go Try.call84 Try.func84 rfl rfl rfl ?_)
  refine run_writer fun p c => ?_
  (repeat (first | refine g ?_))
  refine run_loopI (X := Nat × Option Addr × Nat) (fun x => x.1 ≤ n - l.length) (fun x => [(0, .pointer (some ⟨b, 0, none⟩)), (1, .int .i64 (n : Int))])
    (fun x => [cells b 110 ⟨[.slice x.2.1 (l ++ List.replicate x.1 0).length x.2.2, .bool bad]⟩, sl x.2.1 (l ++ List.replicate x.1 0).length x.2.2 5 1 (bv (l ++ List.replicate x.1 0))]) (fun x => n - l.length - x.1) (0, p, c) (Nat.zero_le _) fct (by rw [List.replicate_zero, List.append_nil]; exact shut) ?_
  intro ⟨i, p, c⟩ hi
  dsimp only at *
  have hll : (l ++ List.replicate i (0 : UInt8)).length = l.length + i := by rw [List.length_append, List.length_replicate]
  (repeat (first | refine g ?_))
  refine run_cond_dec rfl ?_ ?_
  · intro h2
    have h2' : i < n - l.length := by omega
    have el : bv (l ++ List.replicate (i + 1) 0) = bv (l ++ List.replicate i 0) ++ [Value.int .u8 0] := by
      rw [List.replicate_succ', ← List.append_assoc, bv_append _ [_]]; rfl
    have ell : (l ++ List.replicate (i + 1) (0 : UInt8)).length = (l ++ List.replicate i (0 : UInt8)).length + 1 := by
      rw [List.replicate_succ', ← List.append_assoc]; exact List.length_append
    (repeat (first | refine g ?_))
    refine s_built fun r => ?_
    (repeat (first | refine g ?_))
    refine s_app 1 1 (reads_own At.head rfl) (hxl := by rw [bv_length, Nat.mul_one]) fun r2 => ?_
    (repeat (first | refine g ?_))
    refine run_stop_loop (i + 1, r2.1, r2.2) ⟨h2', by dsimp only; omega⟩ fct ?_
    dsimp only
    rw [el, ell]
    exact shut
  · intro h2
    obtain rfl : i = n - l.length := by omega
    (repeat (first | refine g ?_))
    refine s_string ?_
    (repeat (first | refine g ?_))
    exact run_ret rfl (imp_RD rfl (imp_writer shut))
/-- A text, filled up. -/
def padF (s : ByteArray) (n : Int) : ByteArray × Int := if n < 0 ∨ 4096 < n then (⟨#[]⟩, 1) else if n < s.size then (⟨#[]⟩, 4) else (⟨(pad0 s.data.toList n.toNat).toArray⟩, 0)
theorem pad_spec (q : View) (s : ByteArray) (n : Int) (hs : s.size ≤ 140737488351232) : FnD Try.prog q 67 [.string s, .int .i64 n] [] (.tuple #[.string (padF s n).1, .int .i64 (padF s n).2]) [] := by
  unfold padF
  (first | refine FnD.go Try.call67 Try.func67 rfl rfl rfl ?_ | refine FnX.go Try.call67 Try.func67 rfl rfl rfl ?_)
  by_cases h0 : n < 0
  · rw [if_pos (.inl h0)]
    (repeat (first | refine g ?_))
    exact run_ret rfl (imp_RD rfl shut)
  by_cases h1 : 4096 < n
  · rw [if_pos (.inr h1)]
    (repeat (first | refine g ?_))
    exact run_ret rfl (imp_RD rfl shut)
  rw [if_neg (by omega)]
  obtain ⟨k, rfl⟩ : ∃ k : Nat, n = k := ⟨n.toNat, by omega⟩
  rw [Int.toNat_natCast]
  by_cases h2 : (k : Int) < s.size
  · rw [if_pos h2]
    (repeat (first | refine g ?_))
    exact run_ret rfl (imp_RD rfl shut)
  rw [if_neg h2]
  (repeat (first | refine g ?_))
  refine s_bytes fun r => ?_
  (repeat (first | refine g ?_))
  refine s_alloc fun b => ?_
  (repeat (first | refine g ?_))
  have hl : s.data.toList.length ≤ 1000000 := by
    have : s.data.toList.length = s.size := rfl
    omega
  refine run_to_writer (l := s.data.toList) ?_
  refine s_call (full_spec q b s.data.toList false k (by omega) hl) ?_
  (repeat (first | refine g ?_))
  exact run_ret rfl (imp_RD rfl shut)
/-- A number, and noughts behind it. -/
theorem leb_div (n k : Nat) (h : n < 256 ^ k) : (n : Int) / 2 ^ (8 * k) = 0 := by
  have e : (2 : Int) ^ (8 * k) = ((256 ^ k : Nat) : Int) := by rw [Int.pow_mul]; norm_cast
  rw [e]
  exact_mod_cast congrArg Nat.cast (Nat.div_eq_of_lt h)
def numB (n size : Nat) : ByteArray := ⟨(pad0 (leb n 6) size).toArray⟩
theorem numbered_spec (q : View) (n size : Nat) (hn : n < 281474976710656) (h6 : 6 ≤ size) (hs : size ≤ 4096) : FnD Try.prog q 42 [.int .i64 n, .int .i64 size] [] (.string (numB n size)) [] := by
  have c1 := put_spec q n 6 (by omega)
  have c2 := pad_spec q ⟨(leb n 6).toArray⟩ size (by show (leb n 6).toArray.size ≤ _; rw [List.size_toArray, leb_length]; decide)
  unfold V.putF at c1
  unfold padF at c2
  have e1 : (⟨(leb n 6).toArray⟩ : ByteArray).size = 6 := by show (leb n 6).toArray.size = 6; rw [List.size_toArray, leb_length]
  have ed := leb_div n 6 hn
  rw [if_neg (by decide), if_neg (by rintro (h | h); omega; exact h ed)] at c1
  rw [e1, if_neg (by omega), if_neg (by omega)] at c2
  dsimp only at c1 c2
  (first | refine FnD.go Try.call42 Try.func42 rfl rfl rfl ?_ | refine FnX.go Try.call42 Try.func42 rfl rfl rfl ?_)
  (repeat (first | refine g ?_))
  refine s_call c1 ?_
  (repeat (first | refine g ?_))
  refine s_call c2 ?_
  (repeat (first | refine g ?_))
  exact run_ret rfl (imp_RD rfl shut)
end Go.Proofs.Yteengkkbedijdaa.V
namespace Go.Proofs.Yteengkkbedijdaa.V
open Go.Proofs.Yteengkkbedijdaa.VL Go.Proofs.Yteengkkbedijdaa.VL.RD
attribute [local irreducible] Run
section
variable {α : Type} [DecidableEq α]
def numdF (l : List α) (i : Nat) : List (α × Value) := (l.zipIdx i).map fun x => (x.1, .int .i64 ((x.2 + 1 : Nat) : Int))
def pos (l : List α) (k : α) : Option Nat := match l with
  | [] => none
  | b :: l => if k = b then some 0 else (pos l k).map (· + 1)
theorem findK_numd (l : List α) (k : α) (i j : Nat) : findK (numdF l i) k j = (pos l k).map fun n => (j + n, Value.int .i64 ((i + n + 1 : Nat) : Int)) := by
  induction l generalizing i j with
  | nil => rfl
  | cons b l ih =>
    have e : numdF (b :: l) i = (b, .int .i64 ((i + 1 : Nat) : Int)) :: numdF l (i + 1) := by simp [numdF, List.zipIdx_cons]
    rw [e]
    unfold findK pos
    by_cases h : k = b
    · rw [if_pos h, if_pos h]; rfl
    · rw [if_neg h, if_neg h, ih]
      cases pos l k with
      | none => rfl
      | some n => simp; omega
omit [DecidableEq α] in
theorem numdF_snoc (l : List α) (k : α) : numdF (l ++ [k]) 0 = numdF l 0 ++ [(k, .int .i64 ((l.length + 1 : Nat) : Int))] := by
  simp [numdF, List.zipIdx_append]
omit [DecidableEq α] in
theorem numdF_length (l : List α) (i : Nat) : (numdF l i).length = l.length := by simp [numdF]
theorem pos_lt (l : List α) (k : α) (n : Nat) (h : pos l k = some n) : n < l.length ∧ l[n]? = some k := by
  induction l generalizing n with
  | nil => cases h
  | cons b l ih =>
    unfold pos at h
    split at h
    · rename_i e; obtain rfl := Option.some.inj h; exact ⟨Nat.succ_pos _, by simp [e]⟩
    · cases hp : pos l k with
      | none => rw [hp] at h; cases h
      | some m =>
        rw [hp] at h
        obtain rfl := Option.some.inj h
        have := ih m hp
        exact ⟨by simp; omega, by simpa using this.2⟩
/-- The number of a thing: the next one, if it is new. -/
def cntN (l : List α) (k : α) : Nat := match pos l k with | some n => n + 1 | none => l.length + 1
def cntL (l : List α) (k : α) : List α := match pos l k with | some _ => l | none => l ++ [k]
end
def mapS (b : Nat) (l : List ByteArray) : HProp := mapc b ((numdF l 0).map fun x => (.string x.1, x.2))
def mapK (b : Nat) (l : List (List KV)) : HProp := mapc b ((numdF l 0).map fun x => (encK x.1, x.2))
theorem countS_spec (q : View) (b : Nat) (l : List ByteArray) (k : ByteArray) (hl : l.length ≤ 1000000) :
    FnD Try.prog q 43 [.map (some b), .string k] [mapS b l] (.int .i64 ((cntN l k : Nat) : Int)) [mapS b (cntL l k)] := by
  (first | refine FnD.go Try.call43 Try.func43 rfl rfl rfl ?_ | refine FnX.go Try.call43 Try.func43 rfl rfl rfl ?_)
  unfold mapS
  have hk := keyFind_str Try.underlying9 k (numdF l 0)
  rw [findK_numd] at hk
  unfold cntN cntL
  cases hp : pos l k with
  | some n =>
    rw [hp] at hk
    have hlt := (pos_lt l k n hp).1
    simp only [Option.map_some, Nat.zero_add] at hk
    (repeat (first | refine g ?_))
    refine s_look2s hk ?_
    (repeat (first | refine g ?_))
    exact run_ret rfl (imp_RD rfl shut)
  | none =>
    rw [hp] at hk
    simp only [Option.map_none] at hk
    (repeat (first | refine g ?_))
    refine s_look2n hk ?_
    (repeat (first | refine g ?_))
    refine s_lenMap ?_
    rw [List.length_map, numdF_length]
    (repeat (first | refine g ?_))
    refine s_mapNew hk ?_
    (repeat (first | refine g ?_))
    refine run_ret rfl (imp_RD rfl ?_)
    dsimp only
    rw [numdF_snoc, List.map_append]
    exact shut
/-- Keys of the maps of structs. -/
def markedK (l s : ByteArray) : List KV := [.s l, .s s]
def sealedK (n : Int) (a b c : ByteArray) : List KV := [.i .i64 n, .s a, .s b, .s c]
def MarkedOk (k : List KV) : Prop := ∃ a b, k = markedK a b
def SealedOk (k : List KV) : Prop := ∃ n a b c, k = sealedK n a b c
end Go.Proofs.Yteengkkbedijdaa.V
namespace Go.Proofs.Yteengkkbedijdaa.V
open Go.Proofs.Yteengkkbedijdaa.VL Go.Proofs.Yteengkkbedijdaa.VL.RD
attribute [local irreducible] Run
structure VSt where
  hs : List ByteArray
  ms : List (List KV)
  es : List (List KV)
structure VOk (n : Nat) (s : VSt) : Prop where
  hs : s.hs.length ≤ n
  ms : s.ms.length ≤ n
  es : s.es.length ≤ n
  mo : ∀ k ∈ s.ms, MarkedOk k
  eo : ∀ k ∈ s.es, SealedOk k
@[reducible] def iParts (i h m e : Nat) (s : VSt) (A : List HProp) : List HProp :=
  cells i 61 ⟨[.map (some h), .map (some m), .map (some e)]⟩ :: mapS h s.hs :: mapK m s.ms :: mapK e s.es :: A
@[reducible] def vParts (v i h m e : Nat) (s : VSt) (A : List HProp) : List HProp :=
  cells v 49 ⟨[.pointer none, .pointer (some ⟨i, 0, none⟩)]⟩ :: iParts i h m e s A
def vaultAt (v : Nat) (s : VSt) : HProp := hex fun x : Nat × Nat × Nat × Nat => star (vParts v x.1 x.2.1 x.2.2.1 x.2.2.2 s [])
section
variable {P : Program} {q : View} {fn : Func} {R : Value → HProp} {k : List It} {σ : Facts} {A B : List HProp} {F : HProp} {v : Nat} {s : VSt}
theorem run_vault (hk : ∀ i h m e, Run P q fn R k σ (vParts v i h m e s A)) : Run P q fn R k σ (vaultAt v s :: A) :=
  run_hex fun x => run_star (hk _ _ _ _)
theorem imp_vault {i h m e : Nat} (hh : Imp F (star (vParts v i h m e s B))) : Imp F (star (vaultAt v s :: B)) := by
  refine imp_ex (i, h, m, e) ?_
  exact imp_star hh
end
theorem ideal_new (q : View) : FnX Try.prog q 11 [] [] (fun v : Nat => .pointer (some ⟨v, 0, none⟩)) fun v => [vaultAt v ⟨[], [], []⟩] := by
  (first | refine FnD.go Try.call11 Try.func11 rfl rfl rfl ?_ | refine FnX.go Try.call11 Try.func11 rfl rfl rfl ?_)
  (repeat (first | refine g ?_))
  refine s_makeMap fun h => ?_
  (repeat (first | refine g ?_))
  refine s_makeMap fun m => ?_
  (repeat (first | refine g ?_))
  refine s_makeMap fun e => ?_
  (repeat (first | refine g ?_))
  refine s_box fun i => ?_
  (repeat (first | refine g ?_))
  refine s_box fun v => ?_
  (repeat (first | refine g ?_))
  refine run_ret rfl (imp_RX v rfl (imp_vault (i := i) (h := h) (m := m) (e := e) ?_))
  unfold vParts iParts mapS mapK
  exact shut
theorem none_spec (q : View) (v i : Nat) : FnD Try.prog q 22 [.pointer (some ⟨v, 0, none⟩)] [cells v 49 ⟨[.pointer none, .pointer (some ⟨i, 0, none⟩)]⟩] (.bool false) [cells v 49 ⟨[.pointer none, .pointer (some ⟨i, 0, none⟩)]⟩] := by
  (first | refine FnD.go Try.call22 Try.func22 rfl rfl rfl ?_ | refine FnX.go Try.call22 Try.func22 rfl rfl rfl ?_)
  (repeat (first | refine g ?_))
  exact run_ret rfl (imp_RD rfl shut)
theorem ihash_spec (q : View) (i h m e : Nat) (s : VSt) (hs : VOk 1000000 s) (t : ByteArray) :
    FnD Try.prog q 23 [.pointer (some ⟨i, 0, none⟩), .string t] (iParts i h m e s []) (.string (numB (cntN s.hs t) 32)) (iParts i h m e { s with hs := cntL s.hs t } []) := by
  have hc : cntN s.hs t ≤ s.hs.length + 1 := by
    unfold cntN; cases hp : pos s.hs t with
    | none => exact Nat.le_refl _
    | some n => have := (pos_lt _ _ _ hp).1; show n + 1 ≤ _; omega
  have hl := hs.hs
  (first | refine FnD.go Try.call23 Try.func23 rfl rfl rfl ?_ | refine FnX.go Try.call23 Try.func23 rfl rfl rfl ?_)
  unfold iParts
  (repeat (first | refine g ?_))
  refine s_call (countS_spec q h s.hs t (by omega)) ?_
  (repeat (first | refine g ?_))
  refine s_call (numbered_spec q (cntN s.hs t) 32 (by omega) (by omega) (by omega)) ?_
  (repeat (first | refine g ?_))
  exact run_ret rfl (imp_RD rfl shut)
theorem hash_spec (q : View) (v : Nat) (s : VSt) (hs : VOk 1000000 s) (t : ByteArray) :
    FnD Try.prog q 12 [.pointer (some ⟨v, 0, none⟩), .string t] [vaultAt v s] (.string (numB (cntN s.hs t) 32)) [vaultAt v { s with hs := cntL s.hs t }] := by
  (first | refine FnD.go Try.call12 Try.func12 rfl rfl rfl ?_ | refine FnX.go Try.call12 Try.func12 rfl rfl rfl ?_)
  refine run_vault fun i h m e => ?_
  unfold vParts iParts
  (repeat (first | refine g ?_))
  refine s_call (none_spec q v i) ?_
  (repeat (first | refine g ?_))
  refine s_call (ihash_spec q i h m e s hs t) ?_
  (repeat (first | refine g ?_))
  exact run_ret rfl (imp_RD rfl (imp_vault shut))
end Go.Proofs.Yteengkkbedijdaa.V
namespace Go.Proofs.Yteengkkbedijdaa.V
open Go.Proofs.Yteengkkbedijdaa.VL Go.Proofs.Yteengkkbedijdaa.VL.RD
attribute [local irreducible] Run
def cutB (s : ByteArray) (n : Nat) : ByteArray := if n < s.size then s.extract 0 n else s
theorem cutB_size (s : ByteArray) (n : Nat) : (cutB s n).size ≤ n := by
  unfold cutB; split
  · rw [ByteArray.size_extract]; omega
  · omega
theorem cut_spec (q : View) (s : ByteArray) (n : Nat) : FnD Try.prog q 16 [.string s, .int .i64 n] [] (.string (cutB s n)) [] := by
  unfold cutB
  (first | refine FnD.go Try.call16 Try.func16 rfl rfl rfl ?_ | refine FnX.go Try.call16 Try.func16 rfl rfl rfl ?_)
  (repeat (first | refine g ?_))
  refine run_cond_dec rfl ?_ ?_
  · intro h
    rw [if_pos (by omega)]
    (repeat (first | refine g ?_))
    exact run_ret rfl (imp_RD rfl shut)
  · intro h
    rw [if_neg (by omega)]
    (repeat (first | refine g ?_))
    exact run_ret rfl (imp_RD rfl shut)
theorem numB_size (n k : Nat) (h : 6 ≤ k) : (numB n k).size = k := by
  show (pad0 (leb n 6) k).toArray.size = k
  rw [List.size_toArray]; unfold pad0
  rw [List.length_append, leb_length, List.length_replicate]; omega
theorem awake_spec (q : View) : FnD Try.prog q 13 [] [] (.bool true) [] := by
  have k0 : VOk 1000000 ⟨[], [], []⟩ := ⟨Nat.zero_le _, Nat.zero_le _, Nat.zero_le _, by simp, by simp⟩
  (first | refine FnD.go Try.call13 Try.func13 rfl rfl rfl ?_ | refine FnX.go Try.call13 Try.func13 rfl rfl rfl ?_)
  (repeat (first | refine g ?_))
  refine s_callx (ideal_new q) fun v => ?_
  (repeat (first | refine g ?_))
  have c1 := hash_spec q v ⟨[], [], []⟩ k0 ⟨#[120]⟩
  rw [show cntN (⟨[], [], []⟩ : VSt).hs ⟨#[120]⟩ = 1 from rfl, show cntL (⟨[], [], []⟩ : VSt).hs ⟨#[120]⟩ = [⟨#[120]⟩] from rfl] at c1
  have c2 := hash_spec q v ⟨[⟨#[120]⟩], [], []⟩ ⟨by decide, Nat.zero_le _, Nat.zero_le _, by simp, by simp⟩ ⟨#[121]⟩
  rw [show cntN (⟨[⟨#[120]⟩], [], []⟩ : VSt).hs ⟨#[121]⟩ = 2 from rfl, show cntL (⟨[⟨#[120]⟩], [], []⟩ : VSt).hs ⟨#[121]⟩ = [⟨#[120]⟩, ⟨#[121]⟩] from rfl] at c2
  have c3 := hash_spec q v ⟨[⟨#[120]⟩, ⟨#[121]⟩], [], []⟩ ⟨by decide, Nat.zero_le _, Nat.zero_le _, by simp, by simp⟩ ⟨#[120]⟩
  rw [show cntN (⟨[⟨#[120]⟩, ⟨#[121]⟩], [], []⟩ : VSt).hs ⟨#[120]⟩ = 1 from rfl, show cntL (⟨[⟨#[120]⟩, ⟨#[121]⟩], [], []⟩ : VSt).hs ⟨#[120]⟩ = [⟨#[120]⟩, ⟨#[121]⟩] from rfl] at c3
  refine s_call c1 ?_
  (repeat (first | refine g ?_))
  refine s_call c2 ?_
  (repeat (first | refine g ?_))
  refine s_call c3 ?_
  have z1 : (numB 1 32).size = 32 := numB_size 1 32 (by decide)
  have z2 : (numB 2 32).size = 32 := numB_size 2 32 (by decide)
  have b1 : bAt (numB 1 32) (0 : Int).toNat = 1 := by decide
  have b2 : bAt (numB 2 32) (0 : Int).toNat = 2 := by decide
  (repeat (first | refine g ?_))
  exact run_ret rfl (imp_RD rfl shut)
theorem cnt_le {α : Type} [DecidableEq α] (l : List α) (k : α) : cntN l k ≤ l.length + 1 ∧ (cntL l k).length ≤ l.length + 1 := by
  unfold cntN cntL
  cases hp : pos l k with
  | none => simp
  | some n => have := (pos_lt _ _ _ hp).1; simp only; omega
end Go.Proofs.Yteengkkbedijdaa.V
namespace Go.Proofs.Yteengkkbedijdaa.V
open Go.Proofs.Yteengkkbedijdaa.VL Go.Proofs.Yteengkkbedijdaa.VL.RD
attribute [local irreducible] Run
end Go.Proofs.Yteengkkbedijdaa.V
namespace Go.Proofs.Yteengkkbedijdaa.V
open Go.Proofs.Yteengkkbedijdaa.VL Go.Proofs.Yteengkkbedijdaa.VL.RD
attribute [local irreducible] Run
/-- A step of a script. -/
structure OpT where
  kind : Int
  salt : Int
  nonce : ByteArray
  label : ByteArray
  text : ByteArray
  tag : ByteArray
def encOp (x : OpT) : List Value := [.int .i64 x.kind, .int .i64 x.salt, .string x.nonce, .string x.label, .string x.text, .string x.tag]
structure OpOk (x : OpT) : Prop where
  k0 : -9223372036854775808 ≤ x.kind
  k1 : x.kind ≤ 9223372036854775807
  s0 : -9223372036854775808 ≤ x.salt
  s1 : x.salt ≤ 9223372036854775807
  n : x.nonce.size ≤ 9223372036854775807
  l : x.label.size ≤ 9223372036854775807
  t : x.text.size ≤ 9223372036854775807
  g : x.tag.size ≤ 9223372036854775807
def OpsQ (q : View) (p : Option Addr) (l : List OpT) : Prop := RowQ q p l.length 6 (l.flatMap encOp) ∧ ∀ x ∈ l, OpOk x
theorem enc6 (l : List OpT) (i : Nat) (x : OpT) (h : l[i]? = some x) (j : Nat) (hj : j < 6) : (l.flatMap encOp)[i * 6 + j]? = (encOp x)[j]? := by
  induction l generalizing i with
  | nil => cases h
  | cons y l ih =>
    rw [List.flatMap_cons]
    have e5 : (encOp y).length = 6 := rfl
    cases i with
    | zero =>
      obtain rfl := Option.some.inj h
      rw [List.getElem?_append_left (by omega)]; congr 1; omega
    | succ i =>
      rw [List.getElem?_append_right (by omega), e5, show (i + 1) * 6 + j - 6 = i * 6 + j by omega]
      exact ih i h
theorem enc6_len (l : List OpT) : (l.flatMap encOp).length = l.length * 6 := by
  induction l with
  | nil => rfl
  | cons y l ih => rw [List.flatMap_cons, List.length_append, ih, List.length_cons]; show 6 + _ = _; omega
theorem enc6_all (l : List OpT) (i : Nat) (x : OpT) (h : l[i]? = some x) : ((l.flatMap encOp).drop (i * 6)).take 6 = encOp x := by
  apply List.ext_getElem?
  intro j
  rw [List.getElem?_take, List.getElem?_drop]
  split
  · rename_i hj; exact enc6 l i x h j hj
  · rename_i hj; rw [List.getElem?_eq_none]; show 6 ≤ j; omega
theorem OpsQ.at {q : View} {p : Option Addr} {l : List OpT} (h : OpsQ q p l) (i : Nat) (hi : i < l.length) : ∃ x b o, l[i]? = some x ∧ OpOk x ∧ p = some ⟨b, o, none⟩ ∧ Old q b o (l.flatMap encOp) ∧ ((l.flatMap encOp).drop (i * 6)).take 6 = encOp x ∧ i * 6 + 6 ≤ (l.flatMap encOp).length := by
  obtain ⟨x, hx⟩ : ∃ x, l[i]? = some x := ⟨_, List.getElem?_eq_getElem hi⟩
  obtain ⟨b, o, ep, ho⟩ := h.1.old (by omega)
  exact ⟨x, b, o, hx, h.2 x (List.mem_of_getElem? hx), ep, ho, enc6_all l i x hx, by rw [enc6_len]; omega⟩
theorem VOk.mac {n : Nat} {s : VSt} (h : VOk n s) (l t : ByteArray) : VOk (n + 1) { s with ms := cntL s.ms (markedK l t) } := by
  have hc := (cnt_le s.ms (markedK l t)).2
  have hm := h.ms
  refine ⟨Nat.le_succ_of_le h.hs, by show (cntL s.ms (markedK l t)).length ≤ _; omega, Nat.le_succ_of_le h.es, ?_, h.eo⟩
  intro k hk
  have hk : k ∈ cntL s.ms (markedK l t) := hk
  unfold cntL at hk
  split at hk
  · exact h.mo k hk
  · rcases List.mem_append.1 hk with hk | hk
    · exact h.mo k hk
    · obtain rfl : k = markedK l t := by simpa using hk
      exact ⟨l, t, rfl⟩
end Go.Proofs.Yteengkkbedijdaa.V
namespace Go.Proofs.Yteengkkbedijdaa.V
open Go.Proofs.Yteengkkbedijdaa.VL Go.Proofs.Yteengkkbedijdaa.VL.RD
attribute [local irreducible] Run numB
def wrongF (n : Int) (no : ByteArray) : Bool := decide (n < 0 ∨ 281474976710656 ≤ n ∨ no.size ≠ 12)
theorem wrong_spec (q : View) (n : Int) (no : ByteArray) : FnD Try.prog q 29 [.int .i64 n, .string no] [] (.bool (wrongF n no)) [] := by
  unfold wrongF
  (first | refine FnD.go Try.call29 Try.func29 rfl rfl rfl ?_ | refine FnX.go Try.call29 Try.func29 rfl rfl rfl ?_)
  by_cases h0 : n < 0
  · rw [decide_eq_true (.inl h0)]
    (repeat (first | refine g ?_))
    exact run_ret rfl (imp_RD rfl shut)
  by_cases h1 : 281474976710656 ≤ n
  · rw [decide_eq_true (.inr (.inl h1))]
    (repeat (first | refine g ?_))
    exact run_ret rfl (imp_RD rfl shut)
  · have e : decide (n < 0 ∨ 281474976710656 ≤ n ∨ no.size ≠ 12) = decide ((no.size : Int) ≠ 12) := by rw [decide_eq_decide]; omega
    rw [e]
    (repeat (first | refine g ?_))
    exact run_ret rfl (imp_RD rfl shut)
end Go.Proofs.Yteengkkbedijdaa.V
namespace Go.Proofs.Yteengkkbedijdaa.V
open Go.Proofs.Yteengkkbedijdaa.VL Go.Proofs.Yteengkkbedijdaa.VL.RD
attribute [local irreducible] Run numB
end Go.Proofs.Yteengkkbedijdaa.V
namespace Go.Proofs.Yteengkkbedijdaa.V
open Go.Proofs.Yteengkkbedijdaa.VL Go.Proofs.Yteengkkbedijdaa.VL.RD
attribute [local irreducible] Run
end Go.Proofs.Yteengkkbedijdaa.V
namespace Go.Proofs.Yteengkkbedijdaa.V
open Go.Proofs.Yteengkkbedijdaa.VL Go.Proofs.Yteengkkbedijdaa.VL.RD
attribute [local irreducible] Run numB
section
variable {P : Program} {q : View} {fn : Func} {R : Value → HProp} {k : List It} {σ : Facts} {A B : List HProp} {F : HProp} {b : Nat} {s : VSt}
end
end Go.Proofs.Yteengkkbedijdaa.V
namespace Go.Proofs.Yteengkkbedijdaa.V
open Go.Proofs.Yteengkkbedijdaa.VL Go.Proofs.Yteengkkbedijdaa.VL.RD
attribute [local irreducible] Run numB
end Go.Proofs.Yteengkkbedijdaa.V
namespace Go.Proofs.Yteengkkbedijdaa.V
open Go.Proofs.Yteengkkbedijdaa.VL Go.Proofs.Yteengkkbedijdaa.VL.RD
attribute [local irreducible] Run numB
end Go.Proofs.Yteengkkbedijdaa.V
namespace Go.Proofs.Yteengkkbedijdaa.V
open Go.Proofs.Yteengkkbedijdaa.VL Go.Proofs.Yteengkkbedijdaa.VL.RD
attribute [local irreducible] Run numB
end Go.Proofs.Yteengkkbedijdaa.V
namespace Go.Proofs.Yteengkkbedijdaa.V
open Go.Proofs.Yteengkkbedijdaa.VL Go.Proofs.Yteengkkbedijdaa.VL.RD
attribute [local irreducible] Run numB
end Go.Proofs.Yteengkkbedijdaa.V
namespace Go.Proofs.Yteengkkbedijdaa.V
open Go.Proofs.Yteengkkbedijdaa.VL Go.Proofs.Yteengkkbedijdaa.VL.RD
attribute [local irreducible] Run numB
end Go.Proofs.Yteengkkbedijdaa.V
namespace Go.Proofs.Yteengkkbedijdaa.V
open Go.Proofs.Yteengkkbedijdaa.VL Go.Proofs.Yteengkkbedijdaa.VL.RD
attribute [local irreducible] Run numB
theorem k0 (n : Nat) : VOk n ⟨[], [], []⟩ := ⟨Nat.zero_le _, Nat.zero_le _, Nat.zero_le _, by simp, by simp⟩
end Go.Proofs.Yteengkkbedijdaa.V
namespace Go.Proofs.Yteengkkbedijdaa.V
open Go.Proofs.Yteengkkbedijdaa.VL Go.Proofs.Yteengkkbedijdaa.VL.RD
attribute [local irreducible] Run numB
end Go.Proofs.Yteengkkbedijdaa.V
namespace Go.Proofs.Yteengkkbedijdaa.V
open Go.Proofs.Yteengkkbedijdaa.VL Go.Proofs.Yteengkkbedijdaa.VL.RD
attribute [local irreducible] Run numB
theorem app16 (t w : ByteArray) (hw : w.size = 16) : (t ++ w).size = t.size + 16 ∧ (t ++ w).extract 0 ((t ++ w).size - 16) = t ∧ (t ++ w).extract ((t ++ w).size - 16) (t ++ w).size = w := by
  have hs : (t ++ w).size = t.size + 16 := by rw [ByteArray.size_append, hw]
  refine ⟨hs, ?_, ?_⟩
  · rw [hs, show t.size + 16 - 16 = t.size by omega, ByteArray.extract_append]
    rw [show 0 - t.size = 0 by omega, show t.size - t.size = 0 by omega]
    simp
  · rw [hs, show t.size + 16 - 16 = t.size by omega, ByteArray.extract_append]
    rw [show t.size - t.size = 0 by omega, show t.size + 16 - t.size = 16 by omega, ← hw]
    rw [show t.extract t.size (t.size + w.size) = ⟨#[]⟩ from ByteArray.extract_eq_empty_iff.2 (by omega)]
    simp only [ByteArray.extract_zero_size]
    exact ByteArray.empty_append
end Go.Proofs.Yteengkkbedijdaa.V
