/- The real vault, the program's and the document's. -/
import Derived.Test.YtajndpddlpnbkaaVKa
import Derived.Test.YtajndpddlpnbkaaSHc
import Derived.Test.YtajndpddlpnbkaaBXB
set_option maxRecDepth 10000
set_option linter.unusedVariables false
namespace Go.Proofs.Ytajndpddlpnbkaa.V
open Go.Proofs.Ytajndpddlpnbkaa.VL Go.Proofs.Ytajndpddlpnbkaa.VL.RD Go.Proofs.Ytajndpddlpnbkaa.VL.Sha
attribute [local irreducible] Run numB
def mkKey (key l : ByteArray) : ByteArray := expandB key (⟨#[109, 97, 114, 107, 32]⟩ ++ l)
def seKey (key : ByteArray) (n : Nat) : ByteArray := expandB key (⟨#[115, 101, 97, 108, 32]⟩ ++ numB n 6)
def macR (key l s : ByteArray) : ByteArray := (macB (mkKey key l) s).extract 0 16
theorem seKey_eq (key : ByteArray) (n : Nat) : expandB key (⟨#[115, 101, 97, 108, 32]⟩ ++ numB n 6) = seKey key n := rfl
def sealR (key : ByteArray) (n : Int) (no ad t : ByteArray) : ByteArray × Int := if wrongF n no = true then (⟨#[]⟩, 1) else sealB (seKey key n.toNat) no ad t
def openR (key : ByteArray) (n : Int) (no ad t : ByteArray) : ByteArray × Int := if wrongF n no = true then (⟨#[]⟩, 1) else if t.size < 16 then (⟨#[]⟩, 3) else openB (seKey key n.toNat) no ad t
@[reducible]
def pReal (v r : Nat) (key : ByteArray) (A : List HProp) : List HProp := cells v 66 ⟨[.pointer (some ⟨r, 0, none⟩), .pointer none]⟩ :: cells r 75 ⟨[.string key]⟩ :: A
def realAt (v : Nat) (key : ByteArray) : HProp := hex fun r : Nat => star (pReal v r key [])
@[reducible]
def docAt (b : Nat) (key : ByteArray) : HProp := cells b 45 ⟨[.bool false, .string key, .slice none 0 0, .slice none 0 0, .slice none 0 0]⟩
section
variable {P : Program} {q : View} {fn : Func} {R : Value → HProp} {k : List It} {σ : Facts} {A B : List HProp} {F : HProp} {v : Nat} {key : ByteArray}
theorem run_real (hk : ∀ r, Run P q fn R k σ (pReal v r key A)) : Run P q fn R k σ (realAt v key :: A) := run_hex fun x => run_star (hk _)
theorem imp_real {r : Nat} (hh : Imp F (star (pReal v r key B))) : Imp F (star (realAt v key :: B)) := by
  refine imp_ex r ?_
  exact imp_star hh
end
section
variable (q : View) (v r : Nat) (key : ByteArray) (hk : key.size ≤ 1000)
include hk
theorem under_spec (p : ByteArray) (hp : p.size ≤ 1000000) : FnD Try.prog q 63 [.pointer (some ⟨r, 0, none⟩), .string p] [cells r 75 ⟨[.string key]⟩] (.string (expandB key p)) [cells r 75 ⟨[.string key]⟩] := by
  (first | refine FnD.go Try.call63 Try.func63 rfl rfl rfl ?_ | refine FnX.go Try.call63 Try.func63 rfl rfl rfl ?_)
  (repeat (first | refine g ?_))
  refine s_call (sumExpand_spec q key p (by omega) (by omega)) ?_
  (repeat (first | refine g ?_))
  exact run_ret rfl (imp_RD rfl shut)
theorem session_spec (n : Nat) (hn : n < 281474976710656) : FnD Try.prog q 43 [.pointer (some ⟨r, 0, none⟩), .int .i64 n] [cells r 75 ⟨[.string key]⟩] (.string (seKey key n)) [cells r 75 ⟨[.string key]⟩] := by
  have zn := numB_size n 6 (by decide)
  have z0 : (⟨#[115, 101, 97, 108, 32]⟩ : ByteArray).size = 5 := rfl
  have z1 : ((⟨#[115, 101, 97, 108, 32]⟩ : ByteArray) ++ numB n 6).size = 5 + (numB n 6).size := by rw [ByteArray.size_append, z0]
  have cp := put_spec q n 6 (by omega)
  have ep : V.putF n 6 = (numB n 6, 0) := by
    unfold V.putF
    rw [if_neg (by omega), if_neg (by
      intro h
      rcases h with h | h
      · omega
      · apply h
        show (n : Int) / 281474976710656 = 0
        omega)]
    unfold numB pad0
    rw [leb_length, Nat.sub_self, List.replicate_zero, List.append_nil]; rfl
  rw [ep] at cp
  dsimp only at cp
  (first | refine FnD.go Try.call43 Try.func43 rfl rfl rfl ?_ | refine FnX.go Try.call43 Try.func43 rfl rfl rfl ?_)
  (repeat (first | refine g ?_))
  refine s_call cp ?_
  (repeat (first | refine g ?_))
  refine s_call (under_spec q r key hk (⟨#[115, 101, 97, 108, 32]⟩ ++ numB n 6) (by omega)) ?_
  (repeat (first | refine g ?_))
  exact run_ret rfl (imp_RD rfl shut)
end
end Go.Proofs.Ytajndpddlpnbkaa.V
namespace Go.Proofs.Ytajndpddlpnbkaa.V
open Go.Proofs.Ytajndpddlpnbkaa.VL Go.Proofs.Ytajndpddlpnbkaa.VL.RD Go.Proofs.Ytajndpddlpnbkaa.VL.Sha
attribute [local irreducible] Run numB
theorem seKey_size (key : ByteArray) (n : Nat) : (seKey key n).size = 32 := expandB_size _ _
theorem sealB_ok (key no ad t : ByteArray) (hk : key.size = 32) (hn : no.size = 12) : (sealB key no ad t).2 = 0 := by
  unfold sealB
  rw [if_pos ⟨hk, hn⟩]
theorem wrong_ok {n : Int} {no : ByteArray} (h : wrongF n no = false) : 0 ≤ n ∧ n < 281474976710656 ∧ no.size = 12 := by
  unfold wrongF at h
  have := of_decide_eq_false h
  omega
section
variable (q : View) (v : Nat) (key : ByteArray) (hk : key.size ≤ 1000)
theorem none_real (r : Nat) : FnD Try.prog q 32 [.pointer (some ⟨v, 0, none⟩)] [cells v 66 ⟨[.pointer (some ⟨r, 0, none⟩), .pointer none]⟩] (.bool false) [cells v 66 ⟨[.pointer (some ⟨r, 0, none⟩), .pointer none]⟩] := by
  (first | refine FnD.go Try.call32 Try.func32 rfl rfl rfl ?_ | refine FnX.go Try.call32 Try.func32 rfl rfl rfl ?_)
  (repeat (first | refine g ?_))
  exact run_ret rfl (imp_RD rfl shut)
include hk
theorem sealr_spec (r m : Nat) (hm : m < 281474976710656) (no ad t : ByteArray) (ha : ad.size ≤ 1000000) (ht : t.size ≤ 1000000) : FnD Try.prog q 35 [.pointer (some ⟨r, 0, none⟩), .int .i64 (m : Int), .string no, .string ad, .string t] [cells r 75 ⟨[.string key]⟩] (.string (sealB (seKey key m) no ad t).1) [cells r 75 ⟨[.string key]⟩] := by
  (first | refine FnD.go Try.call35 Try.func35 rfl rfl rfl ?_ | refine FnX.go Try.call35 Try.func35 rfl rfl rfl ?_)
  (repeat (first | refine g ?_))
  refine s_call (session_spec q r key hk m hm) ?_
  (repeat (first | refine g ?_))
  refine s_call (boxSeal_spec q (seKey key m) no ad t (by omega) (by omega)) ?_
  (repeat (first | refine g ?_))
  exact run_ret rfl (imp_RD rfl shut)
theorem sealV_spec (n : Int) (no ad t : ByteArray) (ha : ad.size ≤ 1000000) (ht : t.size ≤ 1000000) : FnD Try.prog q 20 [.pointer (some ⟨v, 0, none⟩), .int .i64 n, .string no, .string ad, .string t] [realAt v key] (.tuple #[.string (sealR key n no ad t).1, .int .i64 (sealR key n no ad t).2]) [realAt v key] := by
  have cw := vwrong_spec q n no
  unfold sealR
  (first | refine FnD.go Try.call20 Try.func20 rfl rfl rfl ?_ | refine FnX.go Try.call20 Try.func20 rfl rfl rfl ?_)
  refine run_real fun r => ?_
  unfold pReal
  (repeat (first | refine g ?_))
  refine s_call (none_real q v r) ?_
  (repeat (first | refine g ?_))
  cases hw : wrongF n no with
  | true =>
    rw [hw] at cw
    refine s_call cw ?_
    (repeat (first | refine g ?_))
    exact run_ret rfl (imp_RD rfl (imp_real shut))
  | false =>
    rw [hw] at cw
    obtain ⟨h0, h1, h2⟩ := wrong_ok hw
    obtain ⟨m, rfl⟩ : ∃ m : Nat, n = m := ⟨n.toNat, by omega⟩
    rw [if_neg (by decide), Int.toNat_natCast]
    have z := sealB_ok (seKey key m) no ad t (seKey_size _ _) h2
    refine s_call cw ?_
    have cs := sealr_spec q key hk r m (by omega) no ad t ha ht
    (repeat (first | refine g ?_))
    refine s_call cs ?_
    (repeat (first | refine g ?_))
    rw [z]
    exact run_ret rfl (imp_RD rfl (imp_real shut))
theorem openV_spec (n : Int) (no ad t : ByteArray) (ha : ad.size ≤ 1000000) (ht : t.size ≤ 1000000) : FnD Try.prog q 23 [.pointer (some ⟨v, 0, none⟩), .int .i64 n, .string no, .string ad, .string t] [realAt v key] (.tuple #[.string (openR key n no ad t).1, .int .i64 (openR key n no ad t).2]) [realAt v key] := by
  have cw := vwrong_spec q n no
  unfold openR
  (first | refine FnD.go Try.call23 Try.func23 rfl rfl rfl ?_ | refine FnX.go Try.call23 Try.func23 rfl rfl rfl ?_)
  refine run_real fun r => ?_
  unfold pReal
  (repeat (first | refine g ?_))
  refine s_call (none_real q v r) ?_
  (repeat (first | refine g ?_))
  cases hw : wrongF n no with
  | true =>
    rw [hw] at cw
    refine s_call cw ?_
    (repeat (first | refine g ?_))
    exact run_ret rfl (imp_RD rfl (imp_real shut))
  | false =>
    rw [hw] at cw
    obtain ⟨h0, h1, h2⟩ := wrong_ok hw
    obtain ⟨m, rfl⟩ : ∃ m : Nat, n = m := ⟨n.toNat, by omega⟩
    rw [if_neg (by decide), Int.toNat_natCast]
    have cs : ∀ r, _ := fun r => session_spec q r key hk m (by omega)
    clear h0 h1 h2 hw
    refine s_call cw ?_
    by_cases h16 : t.size < 16
    · rw [if_pos h16]
      (repeat (first | refine g ?_))
      exact run_ret rfl (imp_RD rfl (imp_real shut))
    · rw [if_neg h16]
      (repeat (first | refine g ?_))
      refine s_call (cs r) ?_
      (repeat (first | refine g ?_))
      refine s_call (boxOpen_spec q (seKey key m) no ad t (by omega) (by omega)) ?_
      (repeat (first | refine g ?_))
      exact run_ret rfl (imp_RD rfl (imp_real shut))
end
end Go.Proofs.Ytajndpddlpnbkaa.V
namespace Go.Proofs.Ytajndpddlpnbkaa.V
open Go.Proofs.Ytajndpddlpnbkaa.VL Go.Proofs.Ytajndpddlpnbkaa.VL.RD Go.Proofs.Ytajndpddlpnbkaa.VL.Sha
attribute [local irreducible] Run numB macR expandB macB seKey mkKey sealB openB shaB stretchB
section
variable (q : View) (b : Nat) (key : ByteArray)
variable (hk : key.size ≤ 1000)
include hk
theorem dunder_spec (p : ByteArray) (hp : p.size ≤ 1000000) : FnD Try.prog q 49 [.pointer (some ⟨b, 0, none⟩), .string p] [docAt b key] (.string (expandB key p)) [docAt b key] := by
  (first | refine FnD.go Try.call49 Try.func49 rfl rfl rfl ?_ | refine FnX.go Try.call49 Try.func49 rfl rfl rfl ?_)
  unfold docAt
  (repeat (first | refine g ?_))
  refine s_call (refExpand_spec q key p (by omega) (by omega)) ?_
  (repeat (first | refine g ?_))
  exact run_ret rfl (imp_RD rfl shut)
theorem dkey_spec (n : Nat) (hn : n < 281474976710656) : FnD Try.prog q 49 [.pointer (some ⟨b, 0, none⟩), .string (⟨#[115, 101, 97, 108, 32]⟩ ++ numB n 6)] [docAt b key] (.string (seKey key n)) [docAt b key] := by
  have zn := numB_size n 6 (by decide)
  have z0 : (⟨#[115, 101, 97, 108, 32]⟩ : ByteArray).size = 5 := rfl
  have z1 : ((⟨#[115, 101, 97, 108, 32]⟩ : ByteArray) ++ numB n 6).size = 5 + (numB n 6).size := by rw [ByteArray.size_append, z0]
  rw [← seKey_eq]
  exact dunder_spec q b key hk (⟨#[115, 101, 97, 108, 32]⟩ ++ numB n 6) (by omega)
theorem dseal_spec (n : Int) (no ad t : ByteArray) (ha : ad.size ≤ 1000000) (ht : t.size ≤ 1000000) : FnD Try.prog q 25 [.pointer (some ⟨b, 0, none⟩), .int .i64 n, .string no, .string ad, .string t] [docAt b key] (.tuple #[.string (sealR key n no ad t).1, .int .i64 (sealR key n no ad t).2]) [docAt b key] := by
  have cw := rwrong_spec q n no
  unfold sealR
  cases hw : wrongF n no with
  | true =>
    rw [hw] at cw
    unfold docAt
    (first | refine FnD.go Try.call25 Try.func25 rfl rfl rfl ?_ | refine FnX.go Try.call25 Try.func25 rfl rfl rfl ?_)
    (repeat (first | refine g ?_))
    refine s_call cw ?_
    (repeat (first | refine g ?_))
    exact run_ret rfl (imp_RD rfl shut)
  | false =>
    rw [hw] at cw
    obtain ⟨h0, h1, h2⟩ := wrong_ok hw
    obtain ⟨m, rfl⟩ : ∃ m : Nat, n = m := ⟨n.toNat, by omega⟩
    rw [if_neg (by decide), Int.toNat_natCast]
    have cn := refNumbered_spec q m 6 (by omega) (by decide) (by decide)
    have ck := dkey_spec q b key hk m (by omega)
    have cs := refSeal_spec q (seKey key m) no ad t (by omega) (by omega)
    have zn := numB_size m 6 (by decide)
    have z0 : (⟨#[115, 101, 97, 108, 32]⟩ : ByteArray).size = 5 := rfl
    clear h0 h1 h2 hw
    unfold docAt at ck ⊢
    (first | refine FnD.go Try.call25 Try.func25 rfl rfl rfl ?_ | refine FnX.go Try.call25 Try.func25 rfl rfl rfl ?_)
    (repeat (first | refine g ?_))
    refine s_call cw ?_
    (repeat (first | refine g ?_))
    refine s_call cn ?_
    (repeat (first | refine g ?_))
    refine s_call ck ?_
    (repeat (first | refine g ?_))
    refine s_call cs ?_
    (repeat (first | refine g ?_))
    exact run_ret rfl (imp_RD rfl shut)
end
theorem real_spec (q : View) (p s : ByteArray) (rounds : Nat) (hp : p.size ≤ 1000000) (hs : s.size ≤ 1000000) (hr : okR rounds) : FnX Try.prog q 16 [.string p, .string s, .int .i64 (rounds : Int)] [] (fun v : Nat => .tuple #[.pointer (some ⟨v, 0, none⟩), .int .i64 0]) fun v => [realAt v (stretchB p s rounds)] := by
  (first | refine FnD.go Try.call16 Try.func16 rfl rfl rfl ?_ | refine FnX.go Try.call16 Try.func16 rfl rfl rfl ?_)
  (repeat (first | refine g ?_))
  refine s_call (sumStretch_spec q p s rounds (by omega) (by omega) hr) ?_
  (repeat (first | refine g ?_))
  refine s_box fun r => ?_
  (repeat (first | refine g ?_))
  refine s_box fun v => ?_
  (repeat (first | refine g ?_))
  refine run_ret rfl (imp_RX v rfl (imp_real (r := r) ?_))
  unfold pReal
  exact shut
theorem doc_spec (q : View) (p s : ByteArray) (rounds : Nat) (hp : p.size ≤ 1000000) (hs : s.size ≤ 1000000) (hr : okR rounds) : FnX Try.prog q 17 [.string p, .string s, .int .i64 (rounds : Int)] [] (fun v : Nat => .tuple #[.pointer (some ⟨v, 0, none⟩), .int .i64 0]) fun v => [docAt v (stretchB p s rounds)] := by
  (first | refine FnD.go Try.call17 Try.func17 rfl rfl rfl ?_ | refine FnX.go Try.call17 Try.func17 rfl rfl rfl ?_)
  (repeat (first | refine g ?_))
  refine s_call (refStretch_spec q p s rounds (by omega) (by omega) hr) ?_
  (repeat (first | refine g ?_))
  refine s_box fun v => ?_
  (repeat (first | refine g ?_))
  refine run_ret rfl (imp_RX v rfl ?_)
  unfold docAt
  exact shut
end Go.Proofs.Ytajndpddlpnbkaa.V
namespace Go.Proofs.Ytajndpddlpnbkaa.V
open Go.Proofs.Ytajndpddlpnbkaa.VL Go.Proofs.Ytajndpddlpnbkaa.VL.RD Go.Proofs.Ytajndpddlpnbkaa.VL.Sha
attribute [local irreducible] Run numB macR expandB macB seKey mkKey sealB openB shaB stretchB sealR openR
end Go.Proofs.Ytajndpddlpnbkaa.V
namespace Go.Proofs.Ytajndpddlpnbkaa.V
open Go.Proofs.Ytajndpddlpnbkaa.VL Go.Proofs.Ytajndpddlpnbkaa.VL.RD Go.Proofs.Ytajndpddlpnbkaa.VL.Sha
attribute [local irreducible] Run numB macR expandB macB seKey mkKey shaB stretchB
theorem byteAt_bl (l : List UInt8) (i : Nat) : Spec.byteAt ⟨l.toArray⟩ i = (l.getD i 0).toNat := by
  unfold Spec.byteAt Spec.at_ Spec.nats
  simp only [List.getD_eq_getElem?_getD, List.getElem?_map]
  cases l[i]? <;> rfl
theorem byteAt_str (key nonce : ByteArray) (n : Nat) (s : ByteArray) (i : Nat) (h : i < s.size) : Spec.byteAt (Spec.streamed key nonce n s) i = Spec.byteAt s i ^^^ Spec.at_ (Spec.block key nonce (n + i / 64)) (i % 64) := by
  unfold Spec.streamed
  rw [byteAt_bl]
  have l1 := word_lt s i
  have l2 := at_block_lt key nonce (n + i / 64) (i % 64)
  have l3 : Spec.byteAt s i ^^^ Spec.at_ (Spec.block key nonce (n + i / 64)) (i % 64) < 256 := Nat.xor_lt_two_pow (n := 8) l1 l2
  rw [List.getD_eq_getElem?_getD, List.getElem?_map, List.getElem?_range h]
  simp only [Option.map_some, Option.getD_some]
  rw [UInt8.toNat_ofNat']
  exact Nat.mod_eq_of_lt l3
theorem stream_twice (key nonce : ByteArray) (n : Nat) (s : ByteArray) : Spec.streamed key nonce n (Spec.streamed key nonce n s) = s := by
  have hz := streamed_len key nonce n s
  apply bytes_ext
  have e : (Spec.streamed key nonce n (Spec.streamed key nonce n s)).data.toList = (List.range (Spec.streamed key nonce n s).size).map fun i => UInt8.ofNat (Spec.byteAt (Spec.streamed key nonce n s) i ^^^ Spec.at_ (Spec.block key nonce (n + i / 64)) (i % 64)) := rfl
  rw [e, hz]
  apply List.ext_getElem?
  intro i
  rw [List.getElem?_map]
  rcases Nat.lt_or_ge i s.size with h | h
  · rw [List.getElem?_range h, Option.map_some, byteAt_str _ _ _ _ _ h, Nat.xor_assoc, Nat.xor_self, Nat.xor_zero]
    have hl : i < s.data.toList.length := by rw [size_toList]; exact h
    rw [List.getElem?_eq_getElem hl]
    congr 1
    unfold Spec.byteAt Spec.at_ Spec.nats
    rw [List.getD_eq_getElem?_getD, List.getElem?_map, List.getElem?_eq_getElem hl]
    simp only [Option.map_some, Option.getD_some]
    exact UInt8.ofNat_toNat
  · rw [List.getElem?_eq_none (by rw [List.length_range]; exact h), List.getElem?_eq_none (by rw [size_toList]; exact h)]; rfl
theorem openB_sealB (key no ad t : ByteArray) (hk : key.size = 32) (hn : no.size = 12) : openB key no ad (sealB key no ad t).1 = (t, 0) := by
  have hs : sealB key no ad t = (Spec.streamed key no 1 t ++ Spec.taggedF key no ad (Spec.streamed key no 1 t), 0) := by unfold sealB; rw [if_pos ⟨hk, hn⟩]
  rw [hs]
  unfold openB
  rw [if_pos ⟨hk, hn⟩]
  dsimp only
  obtain ⟨h1, h2, h3⟩ := app16 (Spec.streamed key no 1 t) (Spec.taggedF key no ad (Spec.streamed key no 1 t)) (taggedF_len _ _ _ _)
  rw [if_neg (by omega), h2, h3, if_pos rfl, stream_twice]
theorem openR_sealR (key : ByteArray) (n : Int) (no ad t : ByteArray) (h : wrongF n no = false) : openR key n no ad (sealR key n no ad t).1 = (t, 0) ∧ (sealR key n no ad t).2 = 0 ∧ (sealR key n no ad t).1.size = t.size + 16 := by
  obtain ⟨h0, h1, h2⟩ := wrong_ok h
  have hs : sealR key n no ad t = sealB (seKey key n.toNat) no ad t := by unfold sealR; rw [h, if_neg (by decide)]
  have hz : (sealB (seKey key n.toNat) no ad t).1.size = t.size + 16 := by
    unfold sealB
    rw [if_pos ⟨seKey_size _ _, h2⟩]
    dsimp only
    rw [ByteArray.size_append, streamed_len, taggedF_len]
  rw [hs]
  refine ⟨?_, sealB_ok _ _ _ _ (seKey_size _ _) h2, hz⟩
  unfold openR
  rw [h, if_neg (by decide), if_neg (by omega)]
  exact openB_sealB _ _ _ _ (seKey_size _ _) h2
end Go.Proofs.Ytajndpddlpnbkaa.V
