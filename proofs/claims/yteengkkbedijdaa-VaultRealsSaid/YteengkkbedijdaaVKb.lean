/- The real vault, the program's and the document's. -/
import Derived.Test.YteengkkbedijdaaVKa
import Derived.Test.YteengkkbedijdaaSHc
import Derived.Test.YteengkkbedijdaaBXB
set_option maxRecDepth 10000
set_option linter.unusedVariables false
namespace Go.Proofs.Yteengkkbedijdaa.V
open Go.Proofs.Yteengkkbedijdaa.VL Go.Proofs.Yteengkkbedijdaa.VL.RD Go.Proofs.Yteengkkbedijdaa.VL.Sha
attribute [local irreducible] Run numB
def mkKey (key l : ByteArray) : ByteArray := expandB key (⟨#[109, 97, 114, 107, 32]⟩ ++ l)
def seKey (key : ByteArray) (n : Nat) : ByteArray := expandB key (⟨#[115, 101, 97, 108, 32]⟩ ++ numB n 6)
def macR (key l s : ByteArray) : ByteArray := (macB (mkKey key l) s).extract 0 16
theorem mkKey_eq (key l : ByteArray) : expandB key (⟨#[109, 97, 114, 107, 32]⟩ ++ l) = mkKey key l := rfl
theorem seKey_eq (key : ByteArray) (n : Nat) : expandB key (⟨#[115, 101, 97, 108, 32]⟩ ++ numB n 6) = seKey key n := rfl
theorem macR_size (key l s : ByteArray) : (macR key l s).size = 16 := by unfold macR; rw [ByteArray.size_extract, macB_size]; rfl
def sealR (key : ByteArray) (n : Int) (no ad t : ByteArray) : ByteArray × Int := if wrongF n no = true then (⟨#[]⟩, 1) else sealB (seKey key n.toNat) no ad t
def openR (key : ByteArray) (n : Int) (no ad t : ByteArray) : ByteArray × Int := if wrongF n no = true then (⟨#[]⟩, 1) else if t.size < 16 then (⟨#[]⟩, 3) else openB (seKey key n.toNat) no ad t
@[reducible]
def pReal (v r : Nat) (key : ByteArray) (A : List HProp) : List HProp := cells v 49 ⟨[.pointer (some ⟨r, 0, none⟩), .pointer none]⟩ :: cells r 68 ⟨[.string key]⟩ :: A
def realAt (v : Nat) (key : ByteArray) : HProp := hex fun r : Nat => star (pReal v r key [])
@[reducible]
def docAt (b : Nat) (key : ByteArray) : HProp := cells b 42 ⟨[.bool false, .string key, .slice none 0 0, .slice none 0 0, .slice none 0 0]⟩
section
variable {P : Program} {q : View} {fn : Func} {R : Value → HProp} {k : List It} {σ : Facts} {A B : List HProp} {F : HProp} {v : Nat} {key : ByteArray}
theorem run_real (hk : ∀ r, Run P q fn R k σ (pReal v r key A)) : Run P q fn R k σ (realAt v key :: A) := run_hex fun x => run_star (hk _)
theorem imp_real {r : Nat} (hh : Imp F (star (pReal v r key B))) : Imp F (star (realAt v key :: B)) := by
  refine imp_ex r ?_
  exact imp_star hh
end
section
variable (q : View) (v r : Nat) (key : ByteArray) (hk : key.size ≤ 1000)
include hk
theorem under_spec (p : ByteArray) (hp : p.size ≤ 1000000) : FnD Try.prog q 49 [.pointer (some ⟨r, 0, none⟩), .string p] [cells r 68 ⟨[.string key]⟩] (.string (expandB key p)) [cells r 68 ⟨[.string key]⟩] := by
  (first | refine FnD.go Try.call49 Try.func49 rfl rfl rfl ?_ | refine FnX.go Try.call49 Try.func49 rfl rfl rfl ?_)
  (repeat (first | refine g ?_))
  refine s_call (sumExpand_spec q key p (by omega) (by omega)) ?_
  (repeat (first | refine g ?_))
  exact run_ret rfl (imp_RD rfl shut)
theorem rmac2_spec (l s : ByteArray) (hl : l.size ≤ 100000) (hs : s.size ≤ 1000000) : FnD Try.prog q 26 [.pointer (some ⟨r, 0, none⟩), .string l, .string s] [cells r 68 ⟨[.string key]⟩] (.string (macR key l s)) [cells r 68 ⟨[.string key]⟩] := by
  have z0 : (⟨#[109, 97, 114, 107, 32]⟩ : ByteArray).size = 5 := rfl
  have z1 : ((⟨#[109, 97, 114, 107, 32]⟩ : ByteArray) ++ l).size = 5 + l.size := by rw [ByteArray.size_append, z0]
  have z2 := expandB_size key (⟨#[109, 97, 114, 107, 32]⟩ ++ l)
  have z3 := macB_size (mkKey key l) s
  (first | refine FnD.go Try.call26 Try.func26 rfl rfl rfl ?_ | refine FnX.go Try.call26 Try.func26 rfl rfl rfl ?_)
  (repeat (first | refine g ?_))
  refine s_call (under_spec q r key hk (⟨#[109, 97, 114, 107, 32]⟩ ++ l) (by omega)) ?_
  rw [show expandB key (⟨#[109, 97, 114, 107, 32]⟩ ++ l) = mkKey key l from rfl] at z2 ⊢
  (repeat (first | refine g ?_))
  refine s_call (sumMac_spec q (mkKey key l) s (by omega) (by omega)) ?_
  (repeat (first | refine g ?_))
  exact run_ret rfl (imp_RD rfl shut)
theorem session_spec (n : Nat) (hn : n < 281474976710656) : FnD Try.prog q 34 [.pointer (some ⟨r, 0, none⟩), .int .i64 n] [cells r 68 ⟨[.string key]⟩] (.string (seKey key n)) [cells r 68 ⟨[.string key]⟩] := by
  have zn := numB_size n 6 (by decide)
  have z0 : (⟨#[115, 101, 97, 108, 32]⟩ : ByteArray).size = 5 := rfl
  have z1 : ((⟨#[115, 101, 97, 108, 32]⟩ : ByteArray) ++ numB n 6).size = 5 + (numB n 6).size := by rw [ByteArray.size_append, z0]
  have cp := put_spec q n 6 (by omega)
  have ep : V.putF n 6 = (numB n 6, 0) := by
    unfold V.putF
    rw [if_neg (by omega), if_neg (by
      intro h
      rcases h with h | h
      · omega
      · apply h
        show (n : Int) / 281474976710656 = 0
        omega)]
    unfold numB pad0
    rw [leb_length, Nat.sub_self, List.replicate_zero, List.append_nil]; rfl
  rw [ep] at cp
  dsimp only at cp
  (first | refine FnD.go Try.call34 Try.func34 rfl rfl rfl ?_ | refine FnX.go Try.call34 Try.func34 rfl rfl rfl ?_)
  (repeat (first | refine g ?_))
  refine s_call cp ?_
  (repeat (first | refine g ?_))
  refine s_call (under_spec q r key hk (⟨#[115, 101, 97, 108, 32]⟩ ++ numB n 6) (by omega)) ?_
  (repeat (first | refine g ?_))
  exact run_ret rfl (imp_RD rfl shut)
end
end Go.Proofs.Yteengkkbedijdaa.V
namespace Go.Proofs.Yteengkkbedijdaa.V
open Go.Proofs.Yteengkkbedijdaa.VL Go.Proofs.Yteengkkbedijdaa.VL.RD Go.Proofs.Yteengkkbedijdaa.VL.Sha
attribute [local irreducible] Run numB
theorem seKey_size (key : ByteArray) (n : Nat) : (seKey key n).size = 32 := expandB_size _ _
theorem sealB_ok (key no ad t : ByteArray) (hk : key.size = 32) (hn : no.size = 12) : (sealB key no ad t).2 = 0 := by
  unfold sealB
  rw [if_pos ⟨hk, hn⟩]
theorem wrong_ok {n : Int} {no : ByteArray} (h : wrongF n no = false) : 0 ≤ n ∧ n < 281474976710656 ∧ no.size = 12 := by
  unfold wrongF at h
  have := of_decide_eq_false h
  omega
section
variable (q : View) (v : Nat) (key : ByteArray) (hk : key.size ≤ 1000)
theorem none_real (r : Nat) : FnD Try.prog q 22 [.pointer (some ⟨v, 0, none⟩)] [cells v 49 ⟨[.pointer (some ⟨r, 0, none⟩), .pointer none]⟩] (.bool false) [cells v 49 ⟨[.pointer (some ⟨r, 0, none⟩), .pointer none]⟩] := by
  (first | refine FnD.go Try.call22 Try.func22 rfl rfl rfl ?_ | refine FnX.go Try.call22 Try.func22 rfl rfl rfl ?_)
  (repeat (first | refine g ?_))
  exact run_ret rfl (imp_RD rfl shut)
theorem hashR_spec (t : ByteArray) (ht : t.size ≤ 1000000) : FnD Try.prog q 12 [.pointer (some ⟨v, 0, none⟩), .string t] [realAt v key] (.string (shaB t)) [realAt v key] := by
  (first | refine FnD.go Try.call12 Try.func12 rfl rfl rfl ?_ | refine FnX.go Try.call12 Try.func12 rfl rfl rfl ?_)
  refine run_real fun r => ?_
  unfold pReal
  (repeat (first | refine g ?_))
  refine s_call (none_real q v r) ?_
  (repeat (first | refine g ?_))
  refine s_call (sum_spec q t (by omega)) ?_
  (repeat (first | refine g ?_))
  exact run_ret rfl (imp_RD rfl (imp_real shut))
include hk
theorem macV_spec (l s : ByteArray) (hl : l.size ≤ 100000) (hs : s.size ≤ 1000000) : FnD Try.prog q 14 [.pointer (some ⟨v, 0, none⟩), .string l, .string s] [realAt v key] (.string (macR key l s)) [realAt v key] := by
  (first | refine FnD.go Try.call14 Try.func14 rfl rfl rfl ?_ | refine FnX.go Try.call14 Try.func14 rfl rfl rfl ?_)
  refine run_real fun r => ?_
  unfold pReal
  (repeat (first | refine g ?_))
  refine s_call (none_real q v r) ?_
  (repeat (first | refine g ?_))
  refine s_call (rmac2_spec q r key hk l s hl hs) ?_
  (repeat (first | refine g ?_))
  exact run_ret rfl (imp_RD rfl (imp_real shut))
theorem sealr_spec (r m : Nat) (hm : m < 281474976710656) (no ad t : ByteArray) (ha : ad.size ≤ 1000000) (ht : t.size ≤ 1000000) : FnD Try.prog q 31 [.pointer (some ⟨r, 0, none⟩), .int .i64 (m : Int), .string no, .string ad, .string t] [cells r 68 ⟨[.string key]⟩] (.string (sealB (seKey key m) no ad t).1) [cells r 68 ⟨[.string key]⟩] := by
  (first | refine FnD.go Try.call31 Try.func31 rfl rfl rfl ?_ | refine FnX.go Try.call31 Try.func31 rfl rfl rfl ?_)
  (repeat (first | refine g ?_))
  refine s_call (session_spec q r key hk m hm) ?_
  (repeat (first | refine g ?_))
  refine s_call (boxSeal_spec q (seKey key m) no ad t (by omega) (by omega)) ?_
  (repeat (first | refine g ?_))
  exact run_ret rfl (imp_RD rfl shut)
theorem sealV_spec (n : Int) (no ad t : ByteArray) (ha : ad.size ≤ 1000000) (ht : t.size ≤ 1000000) : FnD Try.prog q 17 [.pointer (some ⟨v, 0, none⟩), .int .i64 n, .string no, .string ad, .string t] [realAt v key] (.tuple #[.string (sealR key n no ad t).1, .int .i64 (sealR key n no ad t).2]) [realAt v key] := by
  have cw := wrong_spec q n no
  unfold sealR
  (first | refine FnD.go Try.call17 Try.func17 rfl rfl rfl ?_ | refine FnX.go Try.call17 Try.func17 rfl rfl rfl ?_)
  refine run_real fun r => ?_
  unfold pReal
  (repeat (first | refine g ?_))
  refine s_call (none_real q v r) ?_
  (repeat (first | refine g ?_))
  cases hw : wrongF n no with
  | true =>
    rw [hw] at cw
    refine s_call cw ?_
    (repeat (first | refine g ?_))
    exact run_ret rfl (imp_RD rfl (imp_real shut))
  | false =>
    rw [hw] at cw
    obtain ⟨h0, h1, h2⟩ := wrong_ok hw
    obtain ⟨m, rfl⟩ : ∃ m : Nat, n = m := ⟨n.toNat, by omega⟩
    rw [if_neg (by decide), Int.toNat_natCast]
    have z := sealB_ok (seKey key m) no ad t (seKey_size _ _) h2
    refine s_call cw ?_
    have cs := sealr_spec q key hk r m (by omega) no ad t ha ht
    (repeat (first | refine g ?_))
    refine s_call cs ?_
    (repeat (first | refine g ?_))
    rw [z]
    exact run_ret rfl (imp_RD rfl (imp_real shut))
theorem openV_spec (n : Int) (no ad t : ByteArray) (ha : ad.size ≤ 1000000) (ht : t.size ≤ 1000000) : FnD Try.prog q 18 [.pointer (some ⟨v, 0, none⟩), .int .i64 n, .string no, .string ad, .string t] [realAt v key] (.tuple #[.string (openR key n no ad t).1, .int .i64 (openR key n no ad t).2]) [realAt v key] := by
  have cw := wrong_spec q n no
  unfold openR
  (first | refine FnD.go Try.call18 Try.func18 rfl rfl rfl ?_ | refine FnX.go Try.call18 Try.func18 rfl rfl rfl ?_)
  refine run_real fun r => ?_
  unfold pReal
  (repeat (first | refine g ?_))
  refine s_call (none_real q v r) ?_
  (repeat (first | refine g ?_))
  cases hw : wrongF n no with
  | true =>
    rw [hw] at cw
    refine s_call cw ?_
    (repeat (first | refine g ?_))
    exact run_ret rfl (imp_RD rfl (imp_real shut))
  | false =>
    rw [hw] at cw
    obtain ⟨h0, h1, h2⟩ := wrong_ok hw
    obtain ⟨m, rfl⟩ : ∃ m : Nat, n = m := ⟨n.toNat, by omega⟩
    rw [if_neg (by decide), Int.toNat_natCast]
    have cs : ∀ r, _ := fun r => session_spec q r key hk m (by omega)
    clear h0 h1 h2 hw
    refine s_call cw ?_
    by_cases h16 : t.size < 16
    · rw [if_pos h16]
      (repeat (first | refine g ?_))
      exact run_ret rfl (imp_RD rfl (imp_real shut))
    · rw [if_neg h16]
      (repeat (first | refine g ?_))
      refine s_call (cs r) ?_
      (repeat (first | refine g ?_))
      refine s_call (boxOpen_spec q (seKey key m) no ad t (by omega) (by omega)) ?_
      (repeat (first | refine g ?_))
      exact run_ret rfl (imp_RD rfl (imp_real shut))
end
end Go.Proofs.Yteengkkbedijdaa.V
namespace Go.Proofs.Yteengkkbedijdaa.V
open Go.Proofs.Yteengkkbedijdaa.VL Go.Proofs.Yteengkkbedijdaa.VL.RD Go.Proofs.Yteengkkbedijdaa.VL.Sha
attribute [local irreducible] Run numB macR expandB macB seKey mkKey sealB openB shaB stretchB
section
variable (q : View) (b : Nat) (key : ByteArray)
theorem dhash_spec (t : ByteArray) (ht : t.size ≤ 1000000) : FnD Try.prog q 35 [.pointer (some ⟨b, 0, none⟩), .string t] [docAt b key] (.string (shaB t)) [docAt b key] := by
  (first | refine FnD.go Try.call35 Try.func35 rfl rfl rfl ?_ | refine FnX.go Try.call35 Try.func35 rfl rfl rfl ?_)
  unfold docAt
  (repeat (first | refine g ?_))
  refine s_call (refSum_spec q t (by omega)) ?_
  (repeat (first | refine g ?_))
  exact run_ret rfl (imp_RD rfl shut)
variable (hk : key.size ≤ 1000)
include hk
theorem dunder_spec (p : ByteArray) (hp : p.size ≤ 1000000) : FnD Try.prog q 59 [.pointer (some ⟨b, 0, none⟩), .string p] [docAt b key] (.string (expandB key p)) [docAt b key] := by
  (first | refine FnD.go Try.call59 Try.func59 rfl rfl rfl ?_ | refine FnX.go Try.call59 Try.func59 rfl rfl rfl ?_)
  unfold docAt
  (repeat (first | refine g ?_))
  refine s_call (refExpand_spec q key p (by omega) (by omega)) ?_
  (repeat (first | refine g ?_))
  exact run_ret rfl (imp_RD rfl shut)
theorem dmac_spec (l s : ByteArray) (hl : l.size ≤ 100000) (hs : s.size ≤ 1000000) : FnD Try.prog q 36 [.pointer (some ⟨b, 0, none⟩), .string l, .string s] [docAt b key] (.string (macR key l s)) [docAt b key] := by
  have z0 : (⟨#[109, 97, 114, 107, 32]⟩ : ByteArray).size = 5 := rfl
  have z1 : ((⟨#[109, 97, 114, 107, 32]⟩ : ByteArray) ++ l).size = 5 + l.size := by rw [ByteArray.size_append, z0]
  have z2 := expandB_size key (⟨#[109, 97, 114, 107, 32]⟩ ++ l)
  have z3 := macB_size (mkKey key l) s
  have cu := dunder_spec q b key hk (⟨#[109, 97, 114, 107, 32]⟩ ++ l) (by omega)
  rw [mkKey_eq] at z2 cu
  unfold docAt at cu ⊢
  (first | refine FnD.go Try.call36 Try.func36 rfl rfl rfl ?_ | refine FnX.go Try.call36 Try.func36 rfl rfl rfl ?_)
  (repeat (first | refine g ?_))
  refine s_call cu ?_
  (repeat (first | refine g ?_))
  refine s_call (refMac_spec q (mkKey key l) s (by omega) (by omega)) ?_
  (repeat (first | refine g ?_))
  exact run_ret rfl (imp_RD (by unfold macR; rfl) shut)
theorem dmade_spec (l s tg : ByteArray) (hl : l.size ≤ 100000) (hs : s.size ≤ 1000000) : FnD Try.prog q 37 [.pointer (some ⟨b, 0, none⟩), .string l, .string s, .string tg] [docAt b key] (.bool (decide (macR key l s = tg))) [docAt b key] := by
  have cu := dmac_spec q b key hk l s hl hs
  unfold docAt at cu ⊢
  (first | refine FnD.go Try.call37 Try.func37 rfl rfl rfl ?_ | refine FnX.go Try.call37 Try.func37 rfl rfl rfl ?_)
  (repeat (first | refine g ?_))
  refine s_call cu ?_
  (repeat (first | refine g ?_))
  exact run_ret rfl (imp_RD rfl shut)
theorem dkey_spec (n : Nat) (hn : n < 281474976710656) : FnD Try.prog q 59 [.pointer (some ⟨b, 0, none⟩), .string (⟨#[115, 101, 97, 108, 32]⟩ ++ numB n 6)] [docAt b key] (.string (seKey key n)) [docAt b key] := by
  have zn := numB_size n 6 (by decide)
  have z0 : (⟨#[115, 101, 97, 108, 32]⟩ : ByteArray).size = 5 := rfl
  have z1 : ((⟨#[115, 101, 97, 108, 32]⟩ : ByteArray) ++ numB n 6).size = 5 + (numB n 6).size := by rw [ByteArray.size_append, z0]
  rw [← seKey_eq]
  exact dunder_spec q b key hk (⟨#[115, 101, 97, 108, 32]⟩ ++ numB n 6) (by omega)
theorem dseal_spec (n : Int) (no ad t : ByteArray) (ha : ad.size ≤ 1000000) (ht : t.size ≤ 1000000) : FnD Try.prog q 38 [.pointer (some ⟨b, 0, none⟩), .int .i64 n, .string no, .string ad, .string t] [docAt b key] (.tuple #[.string (sealR key n no ad t).1, .int .i64 (sealR key n no ad t).2]) [docAt b key] := by
  have cw := rwrong_spec q n no
  unfold sealR
  cases hw : wrongF n no with
  | true =>
    rw [hw] at cw
    unfold docAt
    (first | refine FnD.go Try.call38 Try.func38 rfl rfl rfl ?_ | refine FnX.go Try.call38 Try.func38 rfl rfl rfl ?_)
    (repeat (first | refine g ?_))
    refine s_call cw ?_
    (repeat (first | refine g ?_))
    exact run_ret rfl (imp_RD rfl shut)
  | false =>
    rw [hw] at cw
    obtain ⟨h0, h1, h2⟩ := wrong_ok hw
    obtain ⟨m, rfl⟩ : ∃ m : Nat, n = m := ⟨n.toNat, by omega⟩
    rw [if_neg (by decide), Int.toNat_natCast]
    have cn := refNumbered_spec q m 6 (by omega) (by decide) (by decide)
    have ck := dkey_spec q b key hk m (by omega)
    have cs := refSeal_spec q (seKey key m) no ad t (by omega) (by omega)
    have zn := numB_size m 6 (by decide)
    have z0 : (⟨#[115, 101, 97, 108, 32]⟩ : ByteArray).size = 5 := rfl
    clear h0 h1 h2 hw
    unfold docAt at ck ⊢
    (first | refine FnD.go Try.call38 Try.func38 rfl rfl rfl ?_ | refine FnX.go Try.call38 Try.func38 rfl rfl rfl ?_)
    (repeat (first | refine g ?_))
    refine s_call cw ?_
    (repeat (first | refine g ?_))
    refine s_call cn ?_
    (repeat (first | refine g ?_))
    refine s_call ck ?_
    (repeat (first | refine g ?_))
    refine s_call cs ?_
    (repeat (first | refine g ?_))
    exact run_ret rfl (imp_RD rfl shut)
theorem dopen_spec (n : Int) (no ad t : ByteArray) (ha : ad.size ≤ 1000000) (ht : t.size ≤ 1000000) : FnD Try.prog q 39 [.pointer (some ⟨b, 0, none⟩), .int .i64 n, .string no, .string ad, .string t] [docAt b key] (.tuple #[.string (openR key n no ad t).1, .int .i64 (openR key n no ad t).2]) [docAt b key] := by
  have cw := rwrong_spec q n no
  unfold openR
  cases hw : wrongF n no with
  | true =>
    rw [hw] at cw
    unfold docAt
    (first | refine FnD.go Try.call39 Try.func39 rfl rfl rfl ?_ | refine FnX.go Try.call39 Try.func39 rfl rfl rfl ?_)
    (repeat (first | refine g ?_ | refine s_flat 9 [(.pure, [0, 1, 2, 3, 4, 5, 6, 7, 8]), (.mem false, [9]), (.pure, [10, 11])] ?_))
    refine s_call cw ?_
    (repeat (first | refine g ?_ | refine s_flat 9 [(.pure, [0, 1, 2, 3, 4, 5, 6, 7, 8]), (.mem false, [9]), (.pure, [10, 11])] ?_))
    exact run_ret rfl (imp_RD rfl shut)
  | false =>
    rw [hw] at cw
    obtain ⟨h0, h1, h2⟩ := wrong_ok hw
    obtain ⟨m, rfl⟩ : ∃ m : Nat, n = m := ⟨n.toNat, by omega⟩
    rw [if_neg (by decide), Int.toNat_natCast]
    have cn := refNumbered_spec q m 6 (by omega) (by decide) (by decide)
    have ck := dkey_spec q b key hk m (by omega)
    have cs := refOpen_spec q (seKey key m) no ad t (by omega) (by omega)
    have zn := numB_size m 6 (by decide)
    have z0 : (⟨#[115, 101, 97, 108, 32]⟩ : ByteArray).size = 5 := rfl
    clear h0 h1 h2 hw
    unfold docAt at ck ⊢
    (first | refine FnD.go Try.call39 Try.func39 rfl rfl rfl ?_ | refine FnX.go Try.call39 Try.func39 rfl rfl rfl ?_)
    (repeat (first | refine g ?_ | refine s_flat 9 [(.pure, [0, 1, 2, 3, 4, 5, 6, 7, 8]), (.mem false, [9]), (.pure, [10, 11])] ?_))
    refine s_call cw ?_
    by_cases h16 : t.size < 16
    · rw [if_pos h16]
      (repeat (first | refine g ?_ | refine s_flat 9 [(.pure, [0, 1, 2, 3, 4, 5, 6, 7, 8]), (.mem false, [9]), (.pure, [10, 11])] ?_))
      exact run_ret rfl (imp_RD rfl shut)
    · rw [if_neg h16]
      (repeat (first | refine g ?_ | refine s_flat 9 [(.pure, [0, 1, 2, 3, 4, 5, 6, 7, 8]), (.mem false, [9]), (.pure, [10, 11])] ?_))
      refine s_call cn ?_
      (repeat (first | refine g ?_ | refine s_flat 9 [(.pure, [0, 1, 2, 3, 4, 5, 6, 7, 8]), (.mem false, [9]), (.pure, [10, 11])] ?_))
      refine s_call ck ?_
      (repeat (first | refine g ?_ | refine s_flat 9 [(.pure, [0, 1, 2, 3, 4, 5, 6, 7, 8]), (.mem false, [9]), (.pure, [10, 11])] ?_))
      refine s_call cs ?_
      (repeat (first | refine g ?_ | refine s_flat 9 [(.pure, [0, 1, 2, 3, 4, 5, 6, 7, 8]), (.mem false, [9]), (.pure, [10, 11])] ?_))
      exact run_ret rfl (imp_RD rfl shut)
end
theorem real_spec (q : View) (p s : ByteArray) (rounds : Nat) (hp : p.size ≤ 1000000) (hs : s.size ≤ 1000000) (hr : okR rounds) : FnX Try.prog q 20 [.string p, .string s, .int .i64 (rounds : Int)] [] (fun v : Nat => .tuple #[.pointer (some ⟨v, 0, none⟩), .int .i64 0]) fun v => [realAt v (stretchB p s rounds)] := by
  (first | refine FnD.go Try.call20 Try.func20 rfl rfl rfl ?_ | refine FnX.go Try.call20 Try.func20 rfl rfl rfl ?_)
  (repeat (first | refine g ?_))
  refine s_call (sumStretch_spec q p s rounds (by omega) (by omega) hr) ?_
  (repeat (first | refine g ?_))
  refine s_box fun r => ?_
  (repeat (first | refine g ?_))
  refine s_box fun v => ?_
  (repeat (first | refine g ?_))
  refine run_ret rfl (imp_RX v rfl (imp_real (r := r) ?_))
  unfold pReal
  exact shut
theorem real_no (q : View) (p s : ByteArray) (rounds : Int) (hr : ¬ okR rounds) : FnD Try.prog q 20 [.string p, .string s, .int .i64 rounds] [] (.tuple #[.pointer none, .int .i64 1]) [] := by
  (first | refine FnD.go Try.call20 Try.func20 rfl rfl rfl ?_ | refine FnX.go Try.call20 Try.func20 rfl rfl rfl ?_)
  (repeat (first | refine g ?_))
  refine s_call (sumStretch_no q p s rounds hr) ?_
  (repeat (first | refine g ?_))
  exact run_ret rfl (imp_RD rfl shut)
theorem doc_spec (q : View) (p s : ByteArray) (rounds : Nat) (hp : p.size ≤ 1000000) (hs : s.size ≤ 1000000) (hr : okR rounds) : FnX Try.prog q 21 [.string p, .string s, .int .i64 (rounds : Int)] [] (fun v : Nat => .tuple #[.pointer (some ⟨v, 0, none⟩), .int .i64 0]) fun v => [docAt v (stretchB p s rounds)] := by
  (first | refine FnD.go Try.call21 Try.func21 rfl rfl rfl ?_ | refine FnX.go Try.call21 Try.func21 rfl rfl rfl ?_)
  (repeat (first | refine g ?_))
  refine s_call (refStretch_spec q p s rounds (by omega) (by omega) hr) ?_
  (repeat (first | refine g ?_))
  refine s_box fun v => ?_
  (repeat (first | refine g ?_))
  refine run_ret rfl (imp_RX v rfl ?_)
  unfold docAt
  exact shut
theorem doc_no (q : View) (p s : ByteArray) (rounds : Int) (hr : ¬ okR rounds) : FnD Try.prog q 21 [.string p, .string s, .int .i64 rounds] [] (.tuple #[.pointer none, .int .i64 1]) [] := by
  (first | refine FnD.go Try.call21 Try.func21 rfl rfl rfl ?_ | refine FnX.go Try.call21 Try.func21 rfl rfl rfl ?_)
  (repeat (first | refine g ?_))
  refine s_call (refStretch_no q p s rounds hr) ?_
  (repeat (first | refine g ?_))
  exact run_ret rfl (imp_RD rfl shut)
end Go.Proofs.Yteengkkbedijdaa.V
namespace Go.Proofs.Yteengkkbedijdaa.V
open Go.Proofs.Yteengkkbedijdaa.VL Go.Proofs.Yteengkkbedijdaa.VL.RD Go.Proofs.Yteengkkbedijdaa.VL.Sha
attribute [local irreducible] Run numB macR expandB macB seKey mkKey sealB openB shaB stretchB sealR openR
theorem same_any (q : View) (a b : ByteArray) (ha : a.size ≤ 1000) (hb : b.size ≤ 9223372036854775807) : FnD Try.prog q 50 [.string a, .string b] [] (.bool (decide (a = b))) [] := by
  by_cases h : a.size = b.size
  · exact same_spec q a b (by omega) (by omega)
  · have e : decide (a = b) = false := decide_eq_false fun h2 => h (by rw [h2])
    rw [e]
    have hne : (a.size : Int) ≠ (b.size : Int) := by omega
    (first | refine FnD.go Try.call50 Try.func50 rfl rfl rfl ?_ | refine FnX.go Try.call50 Try.func50 rfl rfl rfl ?_)
    (repeat (first | refine g ?_ | refine s_flat 7 [(.pure, [0, 1, 2, 3, 4, 5, 6, 7, 8, 9])] ?_))
    exact run_ret rfl (imp_RD rfl shut)
theorem rmade3_spec (q : View) (r : Nat) (key : ByteArray) (hk : key.size ≤ 1000) (l s tg : ByteArray) (hl : l.size ≤ 100000) (hs : s.size ≤ 1000000) (ht : tg.size ≤ 9223372036854775807) : FnD Try.prog q 28 [.pointer (some ⟨r, 0, none⟩), .string l, .string s, .string tg] [cells r 68 ⟨[.string key]⟩] (.bool (decide (macR key l s = tg))) [cells r 68 ⟨[.string key]⟩] := by
  have z := macR_size key l s
  (first | refine FnD.go Try.call28 Try.func28 rfl rfl rfl ?_ | refine FnX.go Try.call28 Try.func28 rfl rfl rfl ?_)
  (repeat (first | refine g ?_))
  refine s_call (rmac2_spec q r key hk l s hl hs) ?_
  (repeat (first | refine g ?_))
  refine s_call (same_any q (macR key l s) tg (by omega) ht) ?_
  (repeat (first | refine g ?_))
  exact run_ret rfl (imp_RD rfl shut)
theorem madeW_spec (q : View) (v : Nat) (key : ByteArray) (hk : key.size ≤ 1000) (l s tg : ByteArray) (hl : l.size ≤ 100000) (hs : s.size ≤ 1000000) (ht : tg.size ≤ 9223372036854775807) : FnD Try.prog q 15 [.pointer (some ⟨v, 0, none⟩), .string l, .string s, .string tg] [realAt v key] (.bool (decide (macR key l s = tg))) [realAt v key] := by
  (first | refine FnD.go Try.call15 Try.func15 rfl rfl rfl ?_ | refine FnX.go Try.call15 Try.func15 rfl rfl rfl ?_)
  refine run_real fun r => ?_
  unfold pReal
  (repeat (first | refine g ?_))
  refine s_call (none_real q v r) ?_
  (repeat (first | refine g ?_))
  refine s_call (rmade3_spec q r key hk l s tg hl hs ht) ?_
  (repeat (first | refine g ?_))
  exact run_ret rfl (imp_RD rfl (imp_real shut))
set_option maxHeartbeats 2000000 in
theorem stepR_spec (q : View) (v w : Nat) (key : ByteArray) (hk : key.size ≤ 1000) (o : OpT) (ho : OpOk o) :
    FnD Try.prog q 19 [.pointer (some ⟨v, 0, none⟩), .pointer (some ⟨w, 0, none⟩), .agg ⟨encOp o⟩] [realAt v key, docAt w key] (.bool true) [realAt v key, docAt w key] := by
  have zt : (txt o).size ≤ 600 := cutB_size _ _
  have zl : (lab o).size ≤ 100 := cutB_size _ _
  have zg : (cutB o.tag 40).size ≤ 40 := cutB_size _ _
  have ct := cut_spec q o.text 600
  have cl := cut_spec q o.label 100
  have hk0 := ho.k0
  have hk1 := ho.k1
  unfold encOp
  (first | refine FnD.go Try.call19 Try.func19 rfl rfl rfl ?_ | refine FnX.go Try.call19 Try.func19 rfl rfl rfl ?_)
  (repeat (first | refine g ?_))
  refine s_box fun r => ?_
  (repeat (first | refine g ?_))
  refine s_call ct ?_
  (repeat (first | refine g ?_))
  refine s_call cl ?_
  rw [show cutB o.text 600 = txt o from rfl, show cutB o.label 100 = lab o from rfl]
  (repeat (first | refine g ?_))
  by_cases k1 : o.kind = 1
  · have c1 := hashR_spec q v key (txt o) (by omega)
    have c2 := dhash_spec q w key (txt o) (by omega)
    (repeat (first | refine g ?_))
    refine s_call c1 ?_
    (repeat (first | refine g ?_))
    refine s_call c2 ?_
    (repeat (first | refine g ?_))
    exact run_ret rfl (imp_RD (by simp) shut)
  by_cases k2 : o.kind = 2
  · have c1 := macV_spec q v key hk (lab o) (txt o) (by omega) (by omega)
    have c2 := dmac_spec q w key hk (lab o) (txt o) (by omega) (by omega)
    (repeat (first | refine g ?_))
    refine s_call c1 ?_
    (repeat (first | refine g ?_))
    refine s_call c2 ?_
    (repeat (first | refine g ?_))
    exact run_ret rfl (imp_RD (by simp) shut)
  by_cases k3 : o.kind = 3
  · have c1 := madeW_spec q v key hk (lab o) (txt o) o.tag (by omega) (by omega) ho.g
    have c2 := dmade_spec q w key hk (lab o) (txt o) o.tag (by omega) (by omega)
    (repeat (first | refine g ?_))
    refine d_start [realAt v key, docAt w key] ?_
    (first | refine d_pure 0 ?_ | refine d_load 0 ?_ | refine d_arith 0 ?_ | refine d_rem 0 ?_ | refine d_quo 0 ?_ | refine d_shrv 0 ?_ | refine d_fieldat 0 ?_ | refine d_idx1 0 ?_ | refine d_index 0 ?_ | refine d_conv64 0 ?_ | refine d_slices 0 ?_ | refine d_concat 0 ?_ | refine d_build 0 ?_)
    (first | refine d_pure 1 ?_ | refine d_load 1 ?_ | refine d_arith 1 ?_ | refine d_rem 1 ?_ | refine d_quo 1 ?_ | refine d_shrv 1 ?_ | refine d_fieldat 1 ?_ | refine d_idx1 1 ?_ | refine d_index 1 ?_ | refine d_conv64 1 ?_ | refine d_slices 1 ?_ | refine d_concat 1 ?_ | refine d_build 1 ?_)
    (first | refine d_pure 2 ?_ | refine d_load 2 ?_ | refine d_arith 2 ?_ | refine d_rem 2 ?_ | refine d_quo 2 ?_ | refine d_shrv 2 ?_ | refine d_fieldat 2 ?_ | refine d_idx1 2 ?_ | refine d_index 2 ?_ | refine d_conv64 2 ?_ | refine d_slices 2 ?_ | refine d_concat 2 ?_ | refine d_build 2 ?_)
    (first | refine d_pure 3 ?_ | refine d_load 3 ?_ | refine d_arith 3 ?_ | refine d_rem 3 ?_ | refine d_quo 3 ?_ | refine d_shrv 3 ?_ | refine d_fieldat 3 ?_ | refine d_idx1 3 ?_ | refine d_index 3 ?_ | refine d_conv64 3 ?_ | refine d_slices 3 ?_ | refine d_concat 3 ?_ | refine d_build 3 ?_)
    (first | refine d_pure 4 ?_ | refine d_load 4 ?_ | refine d_arith 4 ?_ | refine d_rem 4 ?_ | refine d_quo 4 ?_ | refine d_shrv 4 ?_ | refine d_fieldat 4 ?_ | refine d_idx1 4 ?_ | refine d_index 4 ?_ | refine d_conv64 4 ?_ | refine d_slices 4 ?_ | refine d_concat 4 ?_ | refine d_build 4 ?_)
    (first | refine d_pure 6 ?_ | refine d_load 6 ?_ | refine d_arith 6 ?_ | refine d_rem 6 ?_ | refine d_quo 6 ?_ | refine d_shrv 6 ?_ | refine d_fieldat 6 ?_ | refine d_idx1 6 ?_ | refine d_index 6 ?_ | refine d_conv64 6 ?_ | refine d_slices 6 ?_ | refine d_concat 6 ?_ | refine d_build 6 ?_)
    (first | refine d_pure 7 ?_ | refine d_load 7 ?_ | refine d_arith 7 ?_ | refine d_rem 7 ?_ | refine d_quo 7 ?_ | refine d_shrv 7 ?_ | refine d_fieldat 7 ?_ | refine d_idx1 7 ?_ | refine d_index 7 ?_ | refine d_conv64 7 ?_ | refine d_slices 7 ?_ | refine d_concat 7 ?_ | refine d_build 7 ?_)
    (first | refine d_pure 8 ?_ | refine d_load 8 ?_ | refine d_arith 8 ?_ | refine d_rem 8 ?_ | refine d_quo 8 ?_ | refine d_shrv 8 ?_ | refine d_fieldat 8 ?_ | refine d_idx1 8 ?_ | refine d_index 8 ?_ | refine d_conv64 8 ?_ | refine d_slices 8 ?_ | refine d_concat 8 ?_ | refine d_build 8 ?_)
    (first | refine d_pure 9 ?_ | refine d_load 9 ?_ | refine d_arith 9 ?_ | refine d_rem 9 ?_ | refine d_quo 9 ?_ | refine d_shrv 9 ?_ | refine d_fieldat 9 ?_ | refine d_idx1 9 ?_ | refine d_index 9 ?_ | refine d_conv64 9 ?_ | refine d_slices 9 ?_ | refine d_concat 9 ?_ | refine d_build 9 ?_)
    (first | refine d_pure 10 ?_ | refine d_load 10 ?_ | refine d_arith 10 ?_ | refine d_rem 10 ?_ | refine d_quo 10 ?_ | refine d_shrv 10 ?_ | refine d_fieldat 10 ?_ | refine d_idx1 10 ?_ | refine d_index 10 ?_ | refine d_conv64 10 ?_ | refine d_slices 10 ?_ | refine d_concat 10 ?_ | refine d_build 10 ?_)
    refine d_call 5 c1 ?_
    refine d_call 11 c2 ?_
    (first | refine d_pure 12 ?_ | refine d_load 12 ?_ | refine d_arith 12 ?_ | refine d_rem 12 ?_ | refine d_quo 12 ?_ | refine d_shrv 12 ?_ | refine d_fieldat 12 ?_ | refine d_idx1 12 ?_ | refine d_index 12 ?_ | refine d_conv64 12 ?_ | refine d_slices 12 ?_ | refine d_concat 12 ?_ | refine d_build 12 ?_)
    (first | refine d_pure 13 ?_ | refine d_load 13 ?_ | refine d_arith 13 ?_ | refine d_rem 13 ?_ | refine d_quo 13 ?_ | refine d_shrv 13 ?_ | refine d_fieldat 13 ?_ | refine d_idx1 13 ?_ | refine d_index 13 ?_ | refine d_conv64 13 ?_ | refine d_slices 13 ?_ | refine d_concat 13 ?_ | refine d_build 13 ?_)
    refine d_done ?_
    (repeat (first | refine g ?_))
    exact run_ret rfl (imp_RD (by simp) shut)
  by_cases k4 : o.kind = 4
  · have c1 := sealV_spec q v key hk o.salt o.nonce (lab o) (txt o) (by omega) (by omega)
    have c2 := dseal_spec q w key hk o.salt o.nonce (lab o) (txt o) (by omega) (by omega)
    (repeat (first | refine g ?_))
    refine s_call c1 ?_
    (repeat (first | refine g ?_))
    refine s_call c2 ?_
    (repeat (first | refine g ?_))
    exact run_ret rfl (imp_RD (by simp) shut)
  by_cases k5 : o.kind = 5
  · have cg := cut_spec q o.tag 40
    have za : (txt o ++ cutB o.tag 40).size = (txt o).size + (cutB o.tag 40).size := ByteArray.size_append
    have c1 := openV_spec q v key hk o.salt o.nonce (lab o) (txt o ++ cutB o.tag 40) (by omega) (by omega)
    have c2 := dopen_spec q w key hk o.salt o.nonce (lab o) (txt o ++ cutB o.tag 40) (by omega) (by omega)
    (repeat (first | refine g ?_))
    refine s_call cg ?_
    (repeat (first | refine g ?_))
    refine s_call c1 ?_
    (repeat (first | refine g ?_))
    refine s_call c2 ?_
    (repeat (first | refine g ?_))
    exact run_ret rfl (imp_RD (by simp) shut)
  · (repeat (first | refine g ?_))
    exact run_ret rfl (imp_RD rfl shut)
set_option maxHeartbeats 4000000 in
theorem reals_spec (q : View) (pass salt : ByteArray) (n : Int) (n0 : -9223372036854775808 ≤ n) (n1 : n ≤ 9223372036854775807) (p : Option Addr) (c : Nat) (l : List OpT) (hq : OpsQ q p l) (hl : l.length ≤ 9223372036854775807) :
    FnD Try.prog q 9 [.string pass, .string salt, .int .i64 n, .slice p l.length c] [] (.bool true) [] := by
  have zp : (cutB pass 100).size ≤ 100 := cutB_size _ _
  have zs : (cutB salt 100).size ≤ 100 := cutB_size _ _
  (first | refine FnD.go Try.call9 Try.func9 rfl rfl rfl ?_ | refine FnX.go Try.call9 Try.func9 rfl rfl rfl ?_)
  (repeat (first | refine g ?_))
  refine s_call (cut_spec q pass 100) ?_
  (repeat (first | refine g ?_))
  refine s_call (cut_spec q salt 100) ?_
  obtain ⟨ps, hps⟩ : ∃ ps, ps = cutB pass 100 := ⟨_, rfl⟩
  obtain ⟨ss, hss⟩ : ∃ ss, ss = cutB salt 100 := ⟨_, rfl⟩
  rw [← hps] at zp ⊢
  rw [← hss] at zs ⊢
  clear hps hss
  by_cases h3 : 3 < n
  · by_cases h4 : n ≤ 1000
    · clear n0 n1
      have okr : okR ((3 : Nat) : Int) := by unfold okR; omega
      (repeat (first | refine g ?_))
      refine s_callx (real_spec q ps ss 3 (by omega) (by omega) okr) fun v => ?_
      (repeat (first | refine g ?_))
      refine s_callx (doc_spec q ps ss 3 (by omega) (by omega) okr) fun w => ?_
      have zk : (stretchB ps ss 3).size ≤ 1000 := by rw [stretchB_size]; decide
      obtain ⟨key, hkey⟩ : ∃ key, key = stretchB ps ss 3 := ⟨_, rfl⟩
      rw [← hkey] at zk ⊢
      (repeat (first | refine g ?_))
      refine run_cutI (X := Unit) (fun _ => True) (fun _ => []) (fun _ => []) ?_ fun _ _ => ?_
      · refine run_loopI (X := Nat) (fun i => i ≤ l.length ∧ i ≤ 6) (fun i => [(3, .slice p l.length c), (9, .pointer (some ⟨v, 0, none⟩)), (11, .pointer (some ⟨w, 0, none⟩)), (13, .int .i64 (i : Int))])
          (fun _ => [realAt v key, docAt w key]) (fun i => l.length - i) 0 ⟨Nat.zero_le _, Nat.zero_le _⟩ fct shut ?_
        intro i ⟨hi, hi6⟩
        (repeat (first | refine g ?_))
        refine run_split_dec rfl rfl rfl rfl rfl ?_ ?_
        · intro h1
          (repeat (first | refine g ?_))
          refine run_cond_dec rfl ?_ ?_
          · intro h2
            obtain ⟨ox, obs, oos, ohx, ohxo, oep, oho, ohxa, ohxl⟩ := hq.at i (by omega)
            subst oep
            (repeat (first | refine g ?_))
            refine s_idxo (kk := 6) (oos + i * 6) ?_
            refine s_loadao (j := i * 6) oho ohxa ohxl (by omega) ?_
            (repeat (first | refine g ?_))
            refine s_call (stepR_spec q v w key zk ox ohxo) ?_
            (repeat (first | refine g ?_))
            exact run_stop_loop (i + 1) ⟨⟨by omega, by omega⟩, by omega⟩ fct shut
          · intro h2
            (repeat (first | refine g ?_))
            exact run_stop_loop () trivial fct shut
        · intro h1
          (repeat (first | refine g ?_))
          exact run_stop_loop () trivial fct shut
      · (repeat (first | refine g ?_))
        refine s_call (awake_spec q) ?_
        (repeat (first | refine g ?_))
        exact run_ret rfl (imp_RD rfl shut)
    · skip
      have okr : ¬ okR n := by unfold okR; omega
      (repeat (first | refine g ?_))
      refine s_call (real_no q ps ss n okr) ?_
      (repeat (first | refine g ?_))
      refine s_call (doc_no q ps ss n okr) ?_
      (repeat (first | refine g ?_))
      refine s_call (awake_spec q) ?_
      (repeat (first | refine g ?_))
      exact run_ret rfl (imp_RD rfl shut)
  · by_cases h1 : 1 ≤ n
    · obtain ⟨m, rfl⟩ : ∃ m : Nat, n = m := ⟨n.toNat, by omega⟩
      have okr : okR ((m : Nat) : Int) := by unfold okR; omega
      (repeat (first | refine g ?_))
      refine s_callx (real_spec q ps ss m (by omega) (by omega) okr) fun v => ?_
      (repeat (first | refine g ?_))
      refine s_callx (doc_spec q ps ss m (by omega) (by omega) okr) fun w => ?_
      have zk : (stretchB ps ss m).size ≤ 1000 := by rw [stretchB_size]; decide
      obtain ⟨key, hkey⟩ : ∃ key, key = stretchB ps ss m := ⟨_, rfl⟩
      rw [← hkey] at zk ⊢
      (repeat (first | refine g ?_))
      refine run_cutI (X := Unit) (fun _ => True) (fun _ => []) (fun _ => []) ?_ fun _ _ => ?_
      · refine run_loopI (X := Nat) (fun i => i ≤ l.length ∧ i ≤ 6) (fun i => [(3, .slice p l.length c), (9, .pointer (some ⟨v, 0, none⟩)), (11, .pointer (some ⟨w, 0, none⟩)), (13, .int .i64 (i : Int))])
          (fun _ => [realAt v key, docAt w key]) (fun i => l.length - i) 0 ⟨Nat.zero_le _, Nat.zero_le _⟩ fct shut ?_
        intro i ⟨hi, hi6⟩
        (repeat (first | refine g ?_))
        refine run_split_dec rfl rfl rfl rfl rfl ?_ ?_
        · intro h1
          (repeat (first | refine g ?_))
          refine run_cond_dec rfl ?_ ?_
          · intro h2
            obtain ⟨ox, obs, oos, ohx, ohxo, oep, oho, ohxa, ohxl⟩ := hq.at i (by omega)
            subst oep
            (repeat (first | refine g ?_))
            refine s_idxo (kk := 6) (oos + i * 6) ?_
            refine s_loadao (j := i * 6) oho ohxa ohxl (by omega) ?_
            (repeat (first | refine g ?_))
            refine s_call (stepR_spec q v w key zk ox ohxo) ?_
            (repeat (first | refine g ?_))
            exact run_stop_loop (i + 1) ⟨⟨by omega, by omega⟩, by omega⟩ fct shut
          · intro h2
            (repeat (first | refine g ?_))
            exact run_stop_loop () trivial fct shut
        · intro h1
          (repeat (first | refine g ?_))
          exact run_stop_loop () trivial fct shut
      · (repeat (first | refine g ?_))
        refine s_call (awake_spec q) ?_
        (repeat (first | refine g ?_))
        exact run_ret rfl (imp_RD rfl shut)
    · skip
      have okr : ¬ okR n := by unfold okR; omega
      (repeat (first | refine g ?_))
      refine s_call (real_no q ps ss n okr) ?_
      (repeat (first | refine g ?_))
      refine s_call (doc_no q ps ss n okr) ?_
      (repeat (first | refine g ?_))
      refine s_call (awake_spec q) ?_
      (repeat (first | refine g ?_))
      exact run_ret rfl (imp_RD rfl shut)
end Go.Proofs.Yteengkkbedijdaa.V
namespace Go.Proofs.Yteengkkbedijdaa.V
open Go.Proofs.Yteengkkbedijdaa.VL Go.Proofs.Yteengkkbedijdaa.VL.RD Go.Proofs.Yteengkkbedijdaa.VL.Sha
attribute [local irreducible] Run numB macR expandB macB seKey mkKey shaB stretchB
end Go.Proofs.Yteengkkbedijdaa.V
