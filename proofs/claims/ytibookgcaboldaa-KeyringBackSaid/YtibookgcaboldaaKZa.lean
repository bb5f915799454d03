/- strings.Builder: copyCheck, WriteString, String. -/
import Derived.Test.YtibookgcaboldaaKYa
import Derived.Test.YtibookgcaboldaaVLc
import Derived.Test.YtibookgcaboldaaKYb
import Derived.Test.YtibookgcaboldaaShelf
import Derived.Test.YtibookgcaboldaaKYc
set_option maxRecDepth 10000
set_option linter.unusedVariables false
namespace Go.Proofs.Ytibookgcaboldaa.V
open Go.Proofs.Ytibookgcaboldaa.VL
attribute [local irreducible] Run
/-- Where a builder says it lies: nowhere yet, or here. -/
def selfP (own : Bool) (b : Nat) : Option Addr := if own then some ⟨b, 0, none⟩ else none
theorem copyCheck_spec (q : View) (b : Nat) (own : Bool) (v : Value) : FnD Try.prog q 78 [.pointer (some ⟨b, 0, none⟩)] [cells b 67 ⟨[.pointer (selfP own b), v]⟩] (.tuple #[]) [cells b 67 ⟨[.pointer (some ⟨b, 0, none⟩), v]⟩] := by
  cases own
  · show FnD _ _ _ _ [cells b 67 ⟨[.pointer none, v]⟩] _ _
    (first | refine FnD.go Try.call78 Try.func78 rfl rfl rfl ?_ | refine FnX.go Try.call78 Try.func78 rfl rfl rfl ?_)
    (repeat (first | refine g ?_))
    refine s_tounsafe ?_
    (repeat (first | refine g ?_))
    refine s_extern (e := Extern.AbiNoEscape.same) (vs := [.pointer (some ⟨b, 0, none⟩)]) (v := .pointer (some ⟨b, 0, none⟩)) (fun _ => rfl) Try.func98 ?_
    (repeat (first | refine g ?_))
    refine s_fromunsafe ?_
    (repeat (first | refine g ?_))
    refine run_end rfl (imp_RD rfl shut)
  · show FnD _ _ _ _ [cells b 67 ⟨[.pointer (some ⟨b, 0, none⟩), v]⟩] _ _
    (first | refine FnD.go Try.call78 Try.func78 rfl rfl rfl ?_ | refine FnX.go Try.call78 Try.func78 rfl rfl rfl ?_)
    (repeat (first | refine g ?_))
    refine s_neqp ?_
    (repeat (first | refine g ?_))
    refine run_end rfl (imp_RD rfl shut)
theorem writeString_spec (q : View) (b : Nat) (own : Bool) (p : Option Addr) (n cap : Nat) (l : List UInt8) (s : ByteArray) (hn : l.length = n) (hs : n + s.size ≤ 140737488355328) :
    FnX Try.prog q 51 [.pointer (some ⟨b, 0, none⟩), .string s] [cells b 67 ⟨[.pointer (selfP own b), .slice p n cap]⟩, sl p n cap 5 1 (bv l)]
      (fun _ : Option Addr × Nat => .tuple #[.int .i64 (s.size : Int), .nilIface]) fun r => [cells b 67 ⟨[.pointer (some ⟨b, 0, none⟩), .slice r.1 (n + s.size) r.2]⟩, sl r.1 (n + s.size) r.2 5 1 (bv (l ++ s.data.toList))] := by
  (first | refine FnD.go Try.call51 Try.func51 rfl rfl rfl ?_ | refine FnX.go Try.call51 Try.func51 rfl rfl rfl ?_)
  (repeat (first | refine g ?_))
  refine s_call (copyCheck_spec q b own (.slice p n cap)) ?_
  (repeat (first | refine g ?_))
  refine s_app 1 1 (fun g w0 w _ _ => reads_string s) (hxl := by rw [bv_length, hn, Nat.mul_one]) (h1 := bv_one _) fun r => ?_
  refine s_eq (bv_append _ _).symm ?_
  (repeat (first | refine g ?_))
  refine run_ret rfl (imp_RX r rfl shut)
theorem string_spec (q : View) (b : Nat) (pp : Option Addr) (p : Option Addr) (n cap : Nat) (l : List UInt8) (hn : l.length = n) (h0 : n ≠ 0) (h63 : n ≤ 9223372036854775807) :
    FnD Try.prog q 53 [.pointer (some ⟨b, 0, none⟩)] [cells b 67 ⟨[.pointer pp, .slice p n cap]⟩, sl p n cap 5 1 (bv l)]
      (.string ⟨l.toArray⟩) [cells b 67 ⟨[.pointer pp, .slice p n cap]⟩] := by
  (first | refine FnD.go Try.call53 Try.func53 rfl rfl rfl ?_ | refine FnX.go Try.call53 Try.func53 rfl rfl rfl ?_)
  (repeat (first | refine g ?_))
  refine d_start [sl p n cap 5 1 (bv l)] ?_
  (first | refine d_pure 0 ?_ | refine d_load 0 ?_ | refine d_arith 0 ?_ | refine d_rem 0 ?_ | refine d_quo 0 ?_ | refine d_shrv 0 ?_ | refine d_fieldat 0 ?_ | refine d_idx1 0 ?_ | refine d_index 0 ?_ | refine d_conv64 0 ?_ | refine d_slices 0 ?_ | refine d_concat 0 ?_ | refine d_build 0 ?_)
  (first | refine d_pure 1 ?_ | refine d_load 1 ?_ | refine d_arith 1 ?_ | refine d_rem 1 ?_ | refine d_quo 1 ?_ | refine d_shrv 1 ?_ | refine d_fieldat 1 ?_ | refine d_idx1 1 ?_ | refine d_index 1 ?_ | refine d_conv64 1 ?_ | refine d_slices 1 ?_ | refine d_concat 1 ?_ | refine d_build 1 ?_)
  (first | refine d_pure 2 ?_ | refine d_load 2 ?_ | refine d_arith 2 ?_ | refine d_rem 2 ?_ | refine d_quo 2 ?_ | refine d_shrv 2 ?_ | refine d_fieldat 2 ?_ | refine d_idx1 2 ?_ | refine d_index 2 ?_ | refine d_conv64 2 ?_ | refine d_slices 2 ?_ | refine d_concat 2 ?_ | refine d_build 2 ?_)
  (first | refine d_pure 3 ?_ | refine d_load 3 ?_ | refine d_arith 3 ?_ | refine d_rem 3 ?_ | refine d_quo 3 ?_ | refine d_shrv 3 ?_ | refine d_fieldat 3 ?_ | refine d_idx1 3 ?_ | refine d_index 3 ?_ | refine d_conv64 3 ?_ | refine d_slices 3 ?_ | refine d_concat 3 ?_ | refine d_build 3 ?_)
  (first | refine d_pure 5 ?_ | refine d_load 5 ?_ | refine d_arith 5 ?_ | refine d_rem 5 ?_ | refine d_quo 5 ?_ | refine d_shrv 5 ?_ | refine d_fieldat 5 ?_ | refine d_idx1 5 ?_ | refine d_index 5 ?_ | refine d_conv64 5 ?_ | refine d_slices 5 ?_ | refine d_concat 5 ?_ | refine d_build 5 ?_)
  (first | refine d_pure 6 ?_ | refine d_load 6 ?_ | refine d_arith 6 ?_ | refine d_rem 6 ?_ | refine d_quo 6 ?_ | refine d_shrv 6 ?_ | refine d_fieldat 6 ?_ | refine d_idx1 6 ?_ | refine d_index 6 ?_ | refine d_conv64 6 ?_ | refine d_slices 6 ?_ | refine d_concat 6 ?_ | refine d_build 6 ?_)
  (first | refine d_pure 7 ?_ | refine d_load 7 ?_ | refine d_arith 7 ?_ | refine d_rem 7 ?_ | refine d_quo 7 ?_ | refine d_shrv 7 ?_ | refine d_fieldat 7 ?_ | refine d_idx1 7 ?_ | refine d_index 7 ?_ | refine d_conv64 7 ?_ | refine d_slices 7 ?_ | refine d_concat 7 ?_ | refine d_build 7 ?_)
  (first | refine d_pure 8 ?_ | refine d_load 8 ?_ | refine d_arith 8 ?_ | refine d_rem 8 ?_ | refine d_quo 8 ?_ | refine d_shrv 8 ?_ | refine d_fieldat 8 ?_ | refine d_idx1 8 ?_ | refine d_index 8 ?_ | refine d_conv64 8 ?_ | refine d_slices 8 ?_ | refine d_concat 8 ?_ | refine d_build 8 ?_)
  (first | refine d_pure 9 ?_ | refine d_load 9 ?_ | refine d_arith 9 ?_ | refine d_rem 9 ?_ | refine d_quo 9 ?_ | refine d_shrv 9 ?_ | refine d_fieldat 9 ?_ | refine d_idx1 9 ?_ | refine d_index 9 ?_ | refine d_conv64 9 ?_ | refine d_slices 9 ?_ | refine d_concat 9 ?_ | refine d_build 9 ?_)
  refine d_via1 4 (h1 := by refine s_sdata (hz := h0) ?_; exact run_fin1) (h := ?_)
  refine d_via1 10 (h1 := by refine s_ustr (l := l) (h63 := by omega) ?_; exact run_fin1) (h := ?_)
  (first | refine d_pure 11 ?_ | refine d_load 11 ?_ | refine d_arith 11 ?_ | refine d_rem 11 ?_ | refine d_quo 11 ?_ | refine d_shrv 11 ?_ | refine d_fieldat 11 ?_ | refine d_idx1 11 ?_ | refine d_index 11 ?_ | refine d_conv64 11 ?_ | refine d_slices 11 ?_ | refine d_concat 11 ?_ | refine d_build 11 ?_)
  refine d_done ?_
  (repeat (first | refine g ?_))
  refine run_ret rfl (imp_RD rfl shut)
end Go.Proofs.Ytibookgcaboldaa.V
namespace Go.Proofs.Ytibookgcaboldaa.V
open Go.Proofs.Ytibookgcaboldaa.VL
attribute [local irreducible] Run
/-- The number that so many bytes are, the lowest first. -/
def lev (s : List UInt8) (o : Nat) : Nat → Nat
  | 0 => 0
  | i + 1 => lev s o i + (s.getD (o + i) 0).toNat * 256 ^ i
theorem lev_lt (s : List UInt8) (o i : Nat) : lev s o i < 256 ^ i := by
  induction i with
  | zero => exact Nat.one_pos
  | succ i ih =>
    have h : (s.getD (o + i) 0).toNat ≤ 255 := by have := (s.getD (o + i) 0).toNat_lt; omega
    have h2 : (s.getD (o + i) 0).toNat * 256 ^ i ≤ 255 * 256 ^ i := Nat.mul_le_mul_right _ h
    rw [lev, Nat.pow_succ]; omega
theorem or_shift (n b i : Nat) (hn : n < 256 ^ i) : n ||| b * 256 ^ i = n + b * 256 ^ i := by
  rw [show 256 = 2 ^ 8 from rfl, ← Nat.pow_mul] at *
  rw [Nat.or_comm, Nat.mul_comm b, ← Nat.two_pow_add_eq_or_of_lt hn, Nat.add_comm]
theorem pow6 (i : Nat) (h : i ≤ 6) : 256 ^ i ≤ 281474976710656 := by
  have := Nat.pow_le_pow_right (n := 256) (by decide) h
  exact this
theorem take_spec (q : View) (b o w : Nat) (s : ByteArray) (hw : w ≤ 6) (h : o + w ≤ s.size) (hs : s.size ≤ 1000000) :
    FnD Try.prog q 85 [.pointer (some ⟨b, 0, none⟩), .int .i64 (w : Int)] [cells b 109 ⟨[.string s, .int .i64 (o : Int)]⟩] (.int .i64 (lev s.data.toList o w : Nat)) [cells b 109 ⟨[.string s, .int .i64 ((o + w : Nat) : Int)]⟩] := by
  (first | refine FnD.go Try.call85 Try.func85 rfl rfl rfl ?_ | refine FnX.go Try.call85 Try.func85 rfl rfl rfl ?_)
  (repeat (first | refine g ?_ | refine s_flat 1 [(.pure, [0, 1, 2, 3, 6, 7, 8]), (.mem true, [4]), (.pure, [5]), (.mem true, [9]), (.pure, [10, 11])] ?_ | refine s_flat 7 [(.pure, [0, 1, 2, 3, 5, 6, 7, 9, 13, 14]), (.mem true, [4, 8]), (.pure, [10, 11, 12, 15, 16, 17])] ?_))
  refine run_loopI (X := Nat) (fun i => i ≤ w) (fun i => [(0, .pointer (some ⟨b, 0, none⟩)), (1, .int .i64 (w : Int)), (21, .int .i64 (w : Int)), (22, .int .i64 (i : Int)), (5, .int .i64 ((lev s.data.toList o i : Nat) : Int))])
    (fun i => [cells b 109 ⟨[.string s, .int .i64 (o : Int)]⟩]) (fun i => w - i) 0 (Nat.zero_le _) fct shut ?_
  intro i hi
  try dsimp only at *
  have hp := pow6 i (by omega)
  have hl := lev_lt s.data.toList o i
  (repeat (first | refine g ?_ | refine s_flat 1 [(.pure, [0, 1, 2, 3, 6, 7, 8]), (.mem true, [4]), (.pure, [5]), (.mem true, [9]), (.pure, [10, 11])] ?_ | refine s_flat 7 [(.pure, [0, 1, 2, 3, 5, 6, 7, 9, 13, 14]), (.mem true, [4, 8]), (.pure, [10, 11, 12, 15, 16, 17])] ?_))
  refine run_cond_dec rfl ?_ ?_
  · intro h1
    have hb := bAt_lt s (o + i)
    (repeat (first | refine g ?_ | refine s_flat 1 [(.pure, [0, 1, 2, 3, 6, 7, 8]), (.mem true, [4]), (.pure, [5]), (.mem true, [9]), (.pure, [10, 11])] ?_ | refine s_flat 7 [(.pure, [0, 1, 2, 3, 5, 6, 7, 9, 13, 14]), (.mem true, [4, 8]), (.pure, [10, 11, 12, 15, 16, 17])] ?_))
    obtain ⟨u, hu⟩ : ∃ u, u = (s.data.toList.getD (o + i) 0).toNat := ⟨_, rfl⟩
    have hub : u < 256 := by rw [hu]; exact (s.data.toList.getD (o + i) 0).toNat_lt
    refine s_to 36 (v := .int .u8 (bAt s ((o : Int) + (i : Int)).toNat)) (w := .int .u8 (u : Int)) (by rw [show ((o : Int) + (i : Int)).toNat = o + i by omega, hu]; rfl) ?_
    refine s_conv64 ?_
    refine s_shl ?_
    have hm : u * 256 ^ i ≤ 255 * 281474976710656 := Nat.mul_le_mul (by omega) hp
    refine s_to 40 (v := .int .i64 (IntKind.i64.wrap ((u : Int) * 2 ^ min ((8 : Int) * (i : Int)).toNat IntKind.i64.bits))) (w := .int .i64 ((u * 256 ^ i : Nat) : Int)) ?_ ?_
    · have e1 : min ((8 : Int) * (i : Int)).toNat IntKind.i64.bits = 8 * i := by
        rw [show ((8 : Int) * (i : Int)).toNat = 8 * i by omega]
        exact Nat.min_eq_left (by show 8 * i ≤ 64; omega)
      have e2 : ((u : Int) * 2 ^ (8 * i) : Int) = ((u * 256 ^ i : Nat) : Int) := by
        rw [Int.pow_mul]; norm_cast
      rw [e1, e2, wrap_in]
      · omega
      · show _ ≤ (9223372036854775807 : Int); omega
    refine s_bitn ?_
    refine s_to 41 (v := .int .i64 ((((lev s.data.toList o i : Nat) : Int).toNat ||| ((u * 256 ^ i : Nat) : Int).toNat : Nat) : Int)) (w := .int .i64 ((lev s.data.toList o (i + 1) : Nat) : Int)) ?_ ?_
    · rw [lev, ← hu, Int.toNat_natCast, Int.toNat_natCast, or_shift _ _ _ hl]
    (repeat (first | refine g ?_ | refine s_flat 1 [(.pure, [0, 1, 2, 3, 6, 7, 8]), (.mem true, [4]), (.pure, [5]), (.mem true, [9]), (.pure, [10, 11])] ?_ | refine s_flat 7 [(.pure, [0, 1, 2, 3, 5, 6, 7, 9, 13, 14]), (.mem true, [4, 8]), (.pure, [10, 11, 12, 15, 16, 17])] ?_))
    exact run_stop_loop (i + 1) ⟨by omega, by omega⟩ fct shut
  · intro h1
    obtain rfl : i = w := by omega
    (repeat (first | refine g ?_ | refine s_flat 1 [(.pure, [0, 1, 2, 3, 6, 7, 8]), (.mem true, [4]), (.pure, [5]), (.mem true, [9]), (.pure, [10, 11])] ?_ | refine s_flat 7 [(.pure, [0, 1, 2, 3, 5, 6, 7, 9, 13, 14]), (.mem true, [4, 8]), (.pure, [10, 11, 12, 15, 16, 17])] ?_))
    exact run_ret rfl (imp_RD rfl shut)
theorem gave_nil (q : View) : FnD Try.prog q 84 [.nilIface] [] (.bool false) [] := by
  (first | refine FnD.go Try.call84 Try.func84 rfl rfl rfl ?_ | refine FnX.go Try.call84 Try.func84 rfl rfl rfl ?_)
  (repeat (first | refine g ?_))
  refine s_eqnil (ms := #[]) ?_
  (repeat (first | refine g ?_))
  exact run_ret rfl (imp_RD rfl shut)
theorem getD_spec (q : View) (x : Value) : DefT Try.prog q 83 #[x] hemp hemp := def_gave Try.func83 rfl rfl rfl (gave_nil q)
theorem get_spec (q : View) (s : ByteArray) (o w : Nat) (h1 : 1 ≤ w) (hw : w ≤ 6) (h : o + w ≤ s.size) (hs : s.size ≤ 1000000) :
    FnD Try.prog q 58 [.string s, .int .i64 (o : Int), .int .i64 (w : Int)] [] (.tuple #[.int .i64 (lev s.data.toList o w : Nat), .int .i64 0]) [] := by
  (first | refine FnD.go Try.call58 Try.func58 rfl rfl rfl ?_ | refine FnX.go Try.call58 Try.func58 rfl rfl rfl ?_)
  (repeat (first | refine g ?_))
  refine s_alloc fun r => ?_
  (repeat (first | refine g ?_))
  refine s_defer ?_
  (repeat (first | refine g ?_))
  refine s_alloc fun c => ?_
  (repeat (first | refine g ?_))
  refine s_call (take_spec q c o w s hw h hs) ?_
  (repeat (first | refine g ?_))
  refine run_retD2 (Bs := []) (Cs := []) (getD_spec q _) Try.call83 (imp_RD rfl shut) rfl (res_tmp rfl) (res_cell1 tabOk rfl rfl rfl (by repeat (first | (with_reducible exact At.head) | apply At.tail))) Pulls.nil (hM := rfl)
end Go.Proofs.Ytibookgcaboldaa.V
namespace Go.Proofs.Ytibookgcaboldaa.V
open Go.Proofs.Ytibookgcaboldaa.VL Go.Proofs.Ytibookgcaboldaa.VL.Sha
attribute [local irreducible] Run
theorem repeat_noughts (q : View) (n : Nat) (h : n ≤ 1000000) (e : Lib.repeatL [0] n = List.replicate n 0) : FnD Try.prog q 60 [.string ⟨#[0]⟩, .int .i64 (n : Int)] [] (.string (bl (List.replicate n 0))) [] :=
  FnD.of_below Try.call60 fun w => by
    have := Try.strings_Repeat ⟨#[0]⟩ n w (by omega) (by show 1 * n ≤ _; omega)
    refine this.mono ?_
    rintro e' w' ⟨rfl, hb⟩
    exact ⟨by rw [show (⟨#[0]⟩ : ByteArray).data.toList = [0] from rfl, e]; rfl, hb⟩
theorem repeat96 (q : View) : FnD Try.prog q 60 [.string ⟨#[0]⟩, .int .i64 96] [] (.string (bl (List.replicate 96 0))) [] := repeat_noughts q 96 (by decide) (by decide)
theorem repeat24 (q : View) : FnD Try.prog q 60 [.string ⟨#[0]⟩, .int .i64 24] [] (.string (bl (List.replicate 24 0))) [] := repeat_noughts q 24 (by decide) (by decide)
/-- A slot's bytes. -/
def slotL (s : SlotT) : List UInt8 :=
  if s.used = true then [1] ++ leb s.rounds.toNat 4 ++ s.salt.data.toList ++ s.nonce.data.toList ++ s.sealed.data.toList ++ List.replicate 15 0 else List.replicate 96 0
theorem right_used {s : SlotT} (h : rightF s = true) (hu : s.used = true) : goodS s := by
  unfold rightF at h
  rw [if_pos hu] at h
  exact of_decide_eq_true h
theorem right_unused {s : SlotT} (h : rightF s = true) (hu : s.used = false) : s = zeroS := by
  unfold rightF at h
  rw [if_neg (by rw [hu]; decide)] at h
  exact of_decide_eq_true h
theorem list_size (s : ByteArray) : s.data.toList.length = s.size := Array.length_toList
theorem slotL_len {s : SlotT} (h : rightF s = true) : (slotL s).length = 96 := by
  unfold slotL
  split
  · rename_i hu
    obtain ⟨_, _, h1, h2, h3⟩ := right_used h hu
    simp only [List.length_append, leb_length, list_size, List.length_replicate, List.length_singleton]
    omega
  · rfl
theorem put4 (q : View) (r : Nat) (hr : r < 4294967296) : FnD Try.prog q 50 [.int .i64 (r : Int), .int .i64 4] [] (.tuple #[.string ⟨(leb r 4).toArray⟩, .int .i64 0]) [] := by
  have cp := put_spec q (r : Int) 4 (by omega)
  have ep : V.putF (r : Int) 4 = (⟨(leb r 4).toArray⟩, 0) := by
    unfold V.putF
    rw [if_neg (by omega), if_neg (by
      intro h
      rcases h with h | h
      · omega
      · apply h
        show (r : Int) / 4294967296 = 0
        omega)]
    rfl
  rw [ep] at cp
  exact cp
theorem laid_spec (q : View) (s : SlotT) (h : rightF s = true) : FnD Try.prog q 52 [.agg ⟨encS s⟩] [] (.string (bl (slotL s))) [] := by
  cases hu : s.used with
  | false =>
    obtain rfl := right_unused h hu
    unfold encS
    have c := repeat96 q
    (first | refine FnD.go Try.call52 Try.func52 rfl rfl rfl ?_ | refine FnX.go Try.call52 Try.func52 rfl rfl rfl ?_)
    (repeat (first | refine g ?_))
    refine s_box fun b => ?_
    (repeat (first | refine g ?_))
    refine s_call c ?_
    (repeat (first | refine g ?_))
    exact run_ret rfl (imp_RD rfl shut)
  | true =>
    have hg := right_used h hu
    obtain ⟨u, r, sa, no, se⟩ := s
    obtain rfl : u = true := hu
    obtain ⟨h1, h2, h3, h4, h5⟩ := hg
    dsimp only at h1 h2 h3 h4 h5
    obtain ⟨m, rfl⟩ : ∃ m : Nat, r = m := ⟨r.toNat, by omega⟩
    have c := put4 q m (by omega)
    obtain ⟨t, ht⟩ : ∃ t : ByteArray, t = (⟨#[1]⟩ : ByteArray) ++ ⟨(leb m 4).toArray⟩ ++ sa ++ no ++ se := ⟨_, rfl⟩
    have hts : t.data.toList = [1] ++ leb m 4 ++ sa.data.toList ++ no.data.toList ++ se.data.toList := by
      rw [ht, app_list, app_list, app_list, app_list]
    have htz : t.size = 81 := by
      rw [← list_size, hts]
      simp only [List.length_append, leb_length, list_size, List.length_singleton]
      omega
    have cp := pad_spec q t 96 (by omega)
    have ep : padF t 96 = (bl (slotL ⟨true, (m : Int), sa, no, se⟩), 0) := by
      unfold padF
      rw [if_neg (by omega), if_neg (by omega)]
      unfold slotL pad0 bl
      rw [if_pos rfl, hts]
      have e : ([1] ++ leb m 4 ++ sa.data.toList ++ no.data.toList ++ se.data.toList).length = 81 := by rw [← hts, list_size, htz]
      rw [e]
      rfl
    rw [ep] at cp
    dsimp only at cp
    have z0 : (⟨#[1]⟩ : ByteArray).size = 1 := rfl
    have z1 : (⟨(leb m 4).toArray⟩ : ByteArray).size = 4 := by rw [← list_size]; exact leb_length m 4
    have z2 : ((⟨#[1]⟩ : ByteArray) ++ ⟨(leb m 4).toArray⟩).size = 5 := by rw [ByteArray.size_append, z0, z1]
    have z3 : ((⟨#[1]⟩ : ByteArray) ++ ⟨(leb m 4).toArray⟩ ++ sa).size = 21 := by rw [ByteArray.size_append, z2, h3]
    have z4 : ((⟨#[1]⟩ : ByteArray) ++ ⟨(leb m 4).toArray⟩ ++ sa ++ no).size = 33 := by rw [ByteArray.size_append, z3, h4]
    unfold encS
    dsimp only
    (first | refine FnD.go Try.call52 Try.func52 rfl rfl rfl ?_ | refine FnX.go Try.call52 Try.func52 rfl rfl rfl ?_)
    (repeat (first | refine g ?_))
    refine s_box fun b => ?_
    (repeat (first | refine g ?_))
    refine s_call c ?_
    (repeat (first | refine g ?_))
    subst ht
    refine s_call cp ?_
    (repeat (first | refine g ?_))
    exact run_ret rfl (imp_RD rfl shut)
end Go.Proofs.Ytibookgcaboldaa.V
namespace Go.Proofs.Ytibookgcaboldaa.V
open Go.Proofs.Ytibookgcaboldaa.VL Go.Proofs.Ytibookgcaboldaa.VL.Sha
attribute [local irreducible] Run
theorem run_sl_nil {P : Program} {q : View} {fn : Func} {R : Value → HProp} {k : List It} {σ : Facts} {A : List HProp} {t : TypeId} {kk : Nat} (h : Run P q fn R k σ (sl none 0 0 t kk [] :: A)) : Run P q fn R k σ A := h.imp (imp_sl_nil (Imp.refl _))
theorem writeFirst_spec (q : View) (b : Nat) (s : ByteArray) (hs : s.size ≤ 1000000) :
    FnX Try.prog q 51 [.pointer (some ⟨b, 0, none⟩), .string s] [cells b 67 ⟨[.pointer none, .slice none 0 0]⟩]
      (fun _ : Option Addr × Nat => .tuple #[.int .i64 (s.size : Int), .nilIface]) fun r => [cells b 67 ⟨[.pointer (some ⟨b, 0, none⟩), .slice r.1 s.size r.2]⟩, sl r.1 s.size r.2 5 1 (bv s.data.toList)] := by
  have c : FnD Try.prog q 78 [.pointer (some ⟨b, 0, none⟩)] [cells b 67 ⟨[.pointer none, .slice none 0 0]⟩] (.tuple #[]) [cells b 67 ⟨[.pointer (some ⟨b, 0, none⟩), .slice none 0 0]⟩] := copyCheck_spec q b false (.slice none 0 0)
  (first | refine FnD.go Try.call51 Try.func51 rfl rfl rfl ?_ | refine FnX.go Try.call51 Try.func51 rfl rfl rfl ?_)
  (repeat (first | refine g ?_))
  refine s_call c ?_
  (repeat (first | refine g ?_))
  refine run_sl_nil (t := 5) (kk := 1) ?_
  refine s_app 1 1 (fun g w0 w _ _ => reads_string s) (hxl := rfl) (h1 := bv_one _) fun r => ?_
  rw [Nat.zero_add]
  (repeat (first | refine g ?_))
  refine run_ret rfl (imp_RX r rfl shut)
theorem writeMore_spec (q : View) (b : Nat) (p : Option Addr) (n cap : Nat) (l : List UInt8) (s : ByteArray) (hn : l.length = n) (hs : n + s.size ≤ 1000000) :
    FnX Try.prog q 51 [.pointer (some ⟨b, 0, none⟩), .string s] [cells b 67 ⟨[.pointer (some ⟨b, 0, none⟩), .slice p n cap]⟩, sl p n cap 5 1 (bv l)]
      (fun _ : Option Addr × Nat => .tuple #[.int .i64 (s.size : Int), .nilIface]) fun r => [cells b 67 ⟨[.pointer (some ⟨b, 0, none⟩), .slice r.1 (n + s.size) r.2]⟩, sl r.1 (n + s.size) r.2 5 1 (bv (l ++ s.data.toList))] := writeString_spec q b true p n cap l s hn (by omega)
/-- What stands ahead of the sum. -/
def bodyL (k : KeysT) (i : Nat) : List UInt8 := [82, 73, 78, 71] ++ leb k.gen.toNat 4 ++ (k.sl.take i).flatMap slotL
def ringL (k : KeysT) : List UInt8 := bodyL k 4 ++ sha (bodyL k 4) ++ List.replicate 24 0
def bytesK (k : KeysT) : ByteArray × Int := if rightK k = true then (bl (ringL k), 0) else (⟨#[]⟩, 1)
theorem right_all {k : KeysT} (h : rightK k = true) : ∀ s ∈ k.sl, rightF s = true := by
  unfold rightK at h
  simp only [Bool.and_eq_true] at h
  exact List.all_eq_true.1 h.1
theorem bodyL_succ (k : KeysT) (i : Nat) (s : SlotT) (h : k.sl[i]? = some s) : bodyL k (i + 1) = bodyL k i ++ slotL s := by
  unfold bodyL
  rw [List.take_add_one, h]
  simp
theorem bodyL_len (k : KeysT) (h : rightK k = true) (i : Nat) (hi : i ≤ k.sl.length) : (bodyL k i).length = 8 + 96 * i := by
  induction i with
  | zero => simp [bodyL, leb_length]
  | succ i ih =>
    obtain ⟨s, hs⟩ : ∃ s, k.sl[i]? = some s := ⟨_, List.getElem?_eq_getElem (by omega)⟩
    rw [bodyL_succ k i s hs, List.length_append, ih (by omega), slotL_len (right_all h s (List.mem_of_getElem? hs))]
    omega
theorem ring_pad (k : KeysT) (h : rightK k = true) (hk : k.sl.length = 4) : padF (bl (bodyL k 4) ++ shaB (bl (bodyL k 4))) 448 = (bl (ringL k), 0) := by
  have hb := bodyL_len k h 4 (by omega)
  have e : (bl (bodyL k 4) ++ shaB (bl (bodyL k 4))).data.toList = bodyL k 4 ++ sha (bodyL k 4) := by
    rw [app_list]; rfl
  have hz : (bodyL k 4 ++ sha (bodyL k 4)).length = 424 := by rw [List.length_append, hb, sha_len]
  have hs : (bl (bodyL k 4) ++ shaB (bl (bodyL k 4))).size = 424 := by rw [← list_size, e, hz]
  unfold padF
  rw [if_neg (by omega), if_neg (by omega)]
  unfold pad0 ringL bl
  have e' : ((⟨(bodyL k 4).toArray⟩ : ByteArray) ++ shaB ⟨(bodyL k 4).toArray⟩).data.toList = bodyL k 4 ++ sha (bodyL k 4) := e
  rw [e', hz]
  rfl
theorem bytes_spec (q : View) (k : KeysT) (hk : KeysOk k) : FnD Try.prog q 30 [.agg ⟨encKeys k⟩] [] (.tuple #[.string (bytesK k).1, .int .i64 (bytesK k).2]) [] := by
  have hkl := encKs_len k.sl
  rw [hk.len] at hkl
  have hl := encKeys_len hk.len
  have cr := rightK_spec q k hk
  unfold bytesK
  (first | refine FnD.go Try.call30 Try.func30 rfl rfl rfl ?_ | refine FnX.go Try.call30 Try.func30 rfl rfl rfl ?_)
  (repeat (first | refine g ?_))
  refine s_box fun b => ?_
  (repeat (first | refine g ?_))
  refine s_getall (hz := hl) ?_
  (repeat (first | refine g ?_))
  refine s_call cr ?_
  refine s_ceq b (.int .i64 k.gen :: encKs k.sl) ?_ ?_
  · rfl
  cases hr : rightK k with
  | false =>
    rw [if_neg (by decide)]
    (repeat (first | refine g ?_))
    exact run_ret rfl (imp_RD rfl shut)
  | true =>
    rw [if_pos rfl]
    have hg := rightK_gen hr
    obtain ⟨gn, hgn⟩ : ∃ gn : Nat, k.gen = gn := ⟨k.gen.toNat, by omega⟩
    have cp := put4 q gn (by omega)
    rw [← hgn] at cp
    (repeat (first | refine g ?_))
    refine s_alloc fun bd => ?_
    (repeat (first | refine g ?_))
    refine s_call cp ?_
    (repeat (first | refine g ?_))
    have z0 : (⟨#[82, 73, 78, 71]⟩ : ByteArray).size = 4 := rfl
    have z1 : (⟨(leb gn 4).toArray⟩ : ByteArray).size = 4 := by rw [← list_size]; exact leb_length gn 4
    have z2 : ((⟨#[82, 73, 78, 71]⟩ : ByteArray) ++ ⟨(leb gn 4).toArray⟩).size = 8 := by rw [ByteArray.size_append, z0, z1]
    have e0 : ((⟨#[82, 73, 78, 71]⟩ : ByteArray) ++ ⟨(leb gn 4).toArray⟩).data.toList = bodyL k 0 := by
      rw [app_list]; unfold bodyL; rw [hgn]; simp
    (repeat (first | refine g ?_))
    refine s_callx (writeFirst_spec q bd ((⟨#[82, 73, 78, 71]⟩ : ByteArray) ++ ⟨(leb gn 4).toArray⟩) (by omega)) fun r0 => ?_
    rw [z2, e0]
    (repeat (first | refine g ?_))
    refine s_getat (vs := encKs k.sl) (m := 20) ?_ ?_
    · show (encKs k.sl).take 20 = _
      rw [List.take_of_length_le (by omega)]
    (repeat (first | refine g ?_))
    refine run_loopI (X := Nat × Option Addr × Nat) (fun x => x.1 ≤ 4) (fun x => [(4, .pointer (some ⟨bd, 0, none⟩)), (25, .agg ⟨encKs k.sl⟩), (26, .int .i64 (x.1 : Int))])
      (fun x => [cells bd 67 ⟨[.pointer (some ⟨bd, 0, none⟩), .slice x.2.1 (8 + 96 * x.1) x.2.2]⟩, sl x.2.1 (8 + 96 * x.1) x.2.2 5 1 (bv (bodyL k x.1))]) (fun x => 4 - x.1) (0, r0.1, r0.2) (Nat.zero_le _) fct shut ?_
    intro ⟨i, p, cp'⟩ hi
    dsimp only at *
    (repeat (first | refine g ?_))
    refine run_cond_dec rfl ?_ ?_
    · intro h1
      obtain ⟨s, hs⟩ : ∃ s, k.sl[i]? = some s := ⟨_, List.getElem?_eq_getElem (by rw [hk.len]; omega)⟩
      have hsr := right_all hr s (List.mem_of_getElem? hs)
      have cl := laid_spec q s hsr
      have hlz := slotL_len hsr
      have hsz : (bl (slotL s)).size = 96 := by rw [bl_size, hlz]
      have hbz := bodyL_len k hr i (by rw [hk.len]; omega)
      (repeat (first | refine g ?_))
      refine s_ixs (kk := 5) (vs := encS s) (by rw [Int.toNat_natCast]; exact encKs_all k.sl i s hs) ?_
      (repeat (first | refine g ?_))
      refine s_alloc fun r => ?_
      unfold encS at cl ⊢
      (repeat (first | refine g ?_))
      refine s_call cl ?_
      (repeat (first | refine g ?_))
      refine s_callx (writeMore_spec q bd p (8 + 96 * i) cp' (bodyL k i) (bl (slotL s)) hbz (by omega)) fun r1 => ?_
      rw [hsz, bl_list, ← bodyL_succ k i s hs, show 8 + 96 * i + 96 = 8 + 96 * (i + 1) by omega]
      (repeat (first | refine g ?_))
      exact run_stop_loop (i + 1, r1.1, r1.2) ⟨by dsimp only; omega, by dsimp only; omega⟩ fct shut
    · intro h1
      obtain rfl : i = 4 := by omega
      have hbz := bodyL_len k hr 4 (by rw [hk.len]; omega)
      have cs := string_spec q bd (some ⟨bd, 0, none⟩) p 392 cp' (bodyL k 4) hbz (by decide) (by decide)
      rw [show (⟨(bodyL k 4).toArray⟩ : ByteArray) = bl (bodyL k 4) from rfl] at cs
      have cm := sum_spec q (bl (bodyL k 4)) (by rw [bl_size, hbz]; decide)
      have hs1 : (bl (bodyL k 4)).size = 392 := by rw [bl_size, hbz]
      have hs2 : (shaB (bl (bodyL k 4))).size = 32 := by rw [← list_size]; exact sha_len _
      have hs3 : (bl (bodyL k 4) ++ shaB (bl (bodyL k 4))).size = 424 := by rw [ByteArray.size_append, hs1, hs2]
      have ct := pad_spec q (bl (bodyL k 4) ++ shaB (bl (bodyL k 4))) 448 (by omega)
      rw [ring_pad k hr hk.len] at ct
      dsimp only at ct
      (repeat (first | refine g ?_))
      refine s_call cs ?_
      (repeat (first | refine g ?_))
      refine s_call cm ?_
      (repeat (first | refine g ?_))
      refine s_call ct ?_
      (repeat (first | refine g ?_))
      exact run_ret rfl (imp_RD rfl shut)
end Go.Proofs.Ytibookgcaboldaa.V
namespace Go.Proofs.Ytibookgcaboldaa.V
open Go.Proofs.Ytibookgcaboldaa.VL Go.Proofs.Ytibookgcaboldaa.VL.Sha
attribute [local irreducible] Run
theorem bl_back (s : ByteArray) : bl s.data.toList = s := bytes_ext rfl
end Go.Proofs.Ytibookgcaboldaa.V
namespace Go.Proofs.Ytibookgcaboldaa.V
open Go.Proofs.Ytibookgcaboldaa.VL Go.Proofs.Ytibookgcaboldaa.VL.Sha
attribute [local irreducible] Run
end Go.Proofs.Ytibookgcaboldaa.V
