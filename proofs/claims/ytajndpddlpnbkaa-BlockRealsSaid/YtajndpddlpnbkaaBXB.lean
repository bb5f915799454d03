/- The program's box: Tag, Stream, tagged, Seal, Same, Open, out of the contracts of the kit's kind. -/
import Derived.Test.YtajndpddlpnbkaaRDa
import Derived.Test.YtajndpddlpnbkaaVLc
import Derived.Test.YtajndpddlpnbkaaHTagged
set_option maxRecDepth 10000
set_option linter.unusedVariables false
namespace Go.Proofs.Ytajndpddlpnbkaa.V
open Go.Proofs.Ytajndpddlpnbkaa.VL Go.Proofs.Ytajndpddlpnbkaa.VL.RD
attribute [local irreducible] Run
theorem boxStream_all (q : View) (key nonce : ByteArray) (n : Int) (s : ByteArray) (hs : s.size ≤ 140737488351232) (n1 : -9223372036854775808 ≤ n) (n2 : n ≤ 9223372036854775807) :
    FnD Try.prog q 62 [.string key, .string nonce, .int .i64 n, .string s] [] (.tuple #[.string (Spec.streamF key nonce n s).1, .int .i64 (Spec.streamF key nonce n s).2]) [] := by
  unfold Spec.streamF
  by_cases hk : key.size = 32 ∧ nonce.size = 12
  · rw [if_pos hk]
    obtain ⟨h32, h12⟩ := hk
    by_cases hn : 0 ≤ n ∧ n < 4294967296 ∧ ((s.size : Int) + 63) / 64 ≤ 4294967296 - n
    · rw [if_pos hn]
      obtain ⟨m, rfl⟩ : ∃ m : Nat, n = m := ⟨n.toNat, by omega⟩
      exact FnD.of_below Try.call62 fun w => B.stream_walk key nonce m s w h32 h12 (by unfold Spec.M32; omega) hs (by unfold Spec.M32; omega)
    · rw [if_neg hn]
      exact FnD.of_below Try.call62 fun w => B.stream_bad2 key nonce n s w h32 h12 hs n1 n2 hn
  · rw [if_neg hk]
    exact FnD.of_below Try.call62 fun w => B.stream_bad1 key nonce n s w hk
theorem boxTagged_spec (q : View) (key nonce ad s : ByteArray) (hk : key.size = 32) (hc : nonce.size = 12) (hs : ad.size + s.size ≤ 140737488351232) :
    FnD Try.prog q 61 [.string key, .string nonce, .string ad, .string s] [] (.string (Spec.taggedF key nonce ad s)) [] :=
  FnD.of_below Try.call61 fun w => B.tagged_walk key nonce ad s w hk hc hs
theorem boxSeal_spec (q : View) (key nonce ad s : ByteArray) (h1 : ad.size ≤ 35184372088832) (h2 : s.size ≤ 137438953472) : FnD Try.prog q 59 [.string key, .string nonce, .string ad, .string s] [] (.tuple #[.string (sealB key nonce ad s).1, .int .i64 (sealB key nonce ad s).2]) [] := by
  unfold sealB
  have c := boxStream_all q key nonce 1 s (by omega) (by decide) (by decide)
  unfold Spec.streamF at c
  by_cases hk : key.size = 32 ∧ nonce.size = 12
  · rw [if_pos hk, if_pos (by omega)] at c
    dsimp only at c
    rw [show (1 : Int).toNat = 1 from rfl] at c
    rw [if_pos hk]
    have zs := streamed_len key nonce 1 s
    have zt := taggedF_len key nonce ad (Spec.streamed key nonce 1 s)
    (first | refine FnD.go Try.call59 Try.func59 rfl rfl rfl ?_ | refine FnX.go Try.call59 Try.func59 rfl rfl rfl ?_)
    (repeat (first | refine g ?_))
    refine s_call c ?_
    (repeat (first | refine g ?_))
    refine s_call (boxTagged_spec q key nonce ad (Spec.streamed key nonce 1 s) hk.1 hk.2 (by omega)) ?_
    (repeat (first | refine g ?_))
    exact run_ret rfl (imp_RD rfl shut)
  · rw [if_neg hk] at c
    dsimp only at c
    rw [if_neg hk]
    (first | refine FnD.go Try.call59 Try.func59 rfl rfl rfl ?_ | refine FnX.go Try.call59 Try.func59 rfl rfl rfl ?_)
    (repeat (first | refine g ?_))
    refine s_call c ?_
    (repeat (first | refine g ?_))
    exact run_ret rfl (imp_RD rfl shut)
/-- The bytes of two texts, or'd as they differ. -/
def diffs (a b : ByteArray) : Nat → Nat
  | 0 => 0
  | i + 1 => diffs a b i ||| (Spec.byteAt a i ^^^ Spec.byteAt b i)
theorem diffs_lt (a b : ByteArray) (n : Nat) : diffs a b n < 256 := by
  induction n with
  | zero => exact (by decide : (0 : Nat) < 256)
  | succ n ih => exact Nat.or_lt_two_pow (n := 8) ih (Nat.xor_lt_two_pow (n := 8) (word_lt a n) (word_lt b n))
theorem diffs_zero (a b : ByteArray) (n : Nat) : diffs a b n = 0 ↔ ∀ i, i < n → Spec.byteAt a i = Spec.byteAt b i := by
  induction n with
  | zero => exact ⟨fun _ i h => absurd h (Nat.not_lt_zero i), fun _ => rfl⟩
  | succ n ih =>
    show diffs a b n ||| (Spec.byteAt a n ^^^ Spec.byteAt b n) = 0 ↔ _
    rw [Nat.or_eq_zero_iff, ih, show (Spec.byteAt a n ^^^ Spec.byteAt b n = 0 ↔ Spec.byteAt a n = Spec.byteAt b n) from ⟨fun h => by have := congrArg (· ^^^ Spec.byteAt b n) h; simpa [Nat.xor_assoc] using this, fun h => by rw [h, Nat.xor_self]⟩]
    constructor
    · rintro ⟨h1, h2⟩ i hi
      by_cases e : i = n
      · subst e; exact h2
      · exact h1 i (by omega)
    · intro h
      exact ⟨fun i hi => h i (by omega), h n (by omega)⟩
theorem diffs_eq (a b : ByteArray) (h : a.size = b.size) : diffs a b a.size = 0 ↔ a = b := by
  rw [diffs_zero]
  constructor
  · intro hd
    refine ba_ext (List.ext_getElem (by simp only [Array.length_toList]; exact h) fun i h1 h2 => ?_)
    have hi : i < a.size := h1
    have hj : i < b.size := h2
    have := hd i hi
    unfold Spec.byteAt Spec.at_ Spec.nats at this
    rw [List.getD_eq_getElem?_getD, List.getD_eq_getElem?_getD, List.getElem?_map, List.getElem?_map, List.getElem?_eq_getElem h1, List.getElem?_eq_getElem h2] at this
    exact UInt8.toNat_inj.1 this
  · intro e; subst e; intros; rfl
theorem same_spec (q : View) (a b : ByteArray) (ha : a.size ≤ 140737488351232) (hb : b.size ≤ 140737488351232) : FnD Try.prog q 60 [.string a, .string b] [] (.bool (decide (a = b))) [] := by
  by_cases hs : a.size = b.size
  · (first | refine FnD.go Try.call60 Try.func60 rfl rfl rfl ?_ | refine FnX.go Try.call60 Try.func60 rfl rfl rfl ?_)
    (repeat (first | refine g ?_ | refine s_flat 7 [(.pure, [0, 1, 2, 3, 4, 5, 6, 7, 8, 9])] ?_))
    refine run_loopI (X := Nat) (fun k => k ≤ a.size) (F := fun k => [(0, .string a), (1, .string b), (13, .int .i64 (a.size : Int)), (5, .int .u8 ((diffs a b k : Nat) : Int)), (14, .int .i64 (k : Int))]) (B := fun _ => []) (μ := fun k => a.size - k) 0 (Nat.zero_le _) fct shut ?_
    intro k hk
    have hd := diffs_lt a b k
    have hx := word_lt a k
    have hy := word_lt b k
    have ex := bAt_byteAt a k
    have ey := bAt_byteAt b k
    have hxy : ((Spec.byteAt a k : Nat) : Int).toNat ^^^ ((Spec.byteAt b k : Nat) : Int).toNat < 256 := Nat.xor_lt_two_pow (n := 8) hx hy
    rw [← ex, ← ey] at hxy
    have hxy : (bAt a (k : Int).toNat).toNat ^^^ (bAt b (k : Int).toNat).toNat < 256 := hxy
    have hd2 : ((diffs a b k : Nat) : Int).toNat ||| (((bAt a (k : Int).toNat).toNat ^^^ (bAt b (k : Int).toNat).toNat : Nat) : Int).toNat < 256 := Nat.or_lt_two_pow (n := 8) hd hxy
    have bx := bAt_lt a (k : Int).toNat
    have by_ := bAt_lt b (k : Int).toNat
    have ez : ((bAt a (k : Int).toNat).toNat ^^^ (bAt b (k : Int).toNat).toNat) = Spec.byteAt a k ^^^ Spec.byteAt b k := by
      show (bAt a k).toNat ^^^ (bAt b k).toNat = _
      rw [ex, ey]; rfl
    (repeat (first | refine g ?_ | refine s_flat 7 [(.pure, [0, 1, 2, 3, 4, 5, 6, 7, 8, 9])] ?_))
    refine run_cond_dec rfl ?_ ?_
    · intro h
      (repeat (first | refine g ?_ | refine s_flat 7 [(.pure, [0, 1, 2, 3, 4, 5, 6, 7, 8, 9])] ?_))
      have e : ((((diffs a b k : Nat) : Int).toNat ||| (((bAt a (k : Int).toNat).toNat ^^^ (bAt b (k : Int).toNat).toNat : Nat) : Int).toNat : Nat) : Int) = ((diffs a b (k + 1) : Nat) : Int) := by
        rw [ez]; rfl
      rw [e]
      exact run_stop_loop (k + 1) ⟨by omega, by omega⟩ fct shut
    · intro h
      obtain rfl : k = a.size := by omega
      have hq : decide (((diffs a b a.size : Nat) : Int) = 0) = decide (a = b) := by
        rw [decide_eq_decide, ← diffs_eq a b hs]; omega
      (repeat (first | refine g ?_ | refine s_flat 7 [(.pure, [0, 1, 2, 3, 4, 5, 6, 7, 8, 9])] ?_))
      exact run_ret rfl (imp_RD (by rw [hq]) shut)
  · rw [decide_eq_false (fun e => hs (by rw [e]))]
    (first | refine FnD.go Try.call60 Try.func60 rfl rfl rfl ?_ | refine FnX.go Try.call60 Try.func60 rfl rfl rfl ?_)
    (repeat (first | refine g ?_ | refine s_flat 7 [(.pure, [0, 1, 2, 3, 4, 5, 6, 7, 8, 9])] ?_))
    exact run_ret rfl (imp_RD rfl shut)
theorem boxOpen_spec (q : View) (key nonce ad s : ByteArray) (h1 : ad.size ≤ 35184372088832) (h2 : s.size ≤ 137438953472) : FnD Try.prog q 42 [.string key, .string nonce, .string ad, .string s] [] (.tuple #[.string (openB key nonce ad s).1, .int .i64 (openB key nonce ad s).2]) [] := by
  unfold openB
  by_cases hk : key.size = 32 ∧ nonce.size = 12
  · rw [if_pos hk]
    obtain ⟨h32, h12⟩ := hk
    by_cases h16 : s.size < 16
    · rw [if_pos h16]
      (first | refine FnD.go Try.call42 Try.func42 rfl rfl rfl ?_ | refine FnX.go Try.call42 Try.func42 rfl rfl rfl ?_)
      (repeat (first | refine g ?_ | refine s_flat 6 [(.pure, [0, 1, 2, 3, 5, 6, 7, 8]), (.mem false, [4, 9]), (.pure, [10])] ?_))
      exact run_ret rfl (imp_RD rfl shut)
    · rw [if_neg h16]
      have zc : (s.extract 0 (s.size - 16)).size = s.size - 16 := by rw [ByteArray.size_extract]; omega
      have zd : (s.extract (s.size - 16) s.size).size = 16 := by rw [ByteArray.size_extract]; omega
      have zt := taggedF_len key nonce ad (s.extract 0 (s.size - 16))
      have ec : s.extract (0 : Int).toNat ((s.size : Int) - 16).toNat = s.extract 0 (s.size - 16) := by
        rw [show (0 : Int).toNat = 0 from rfl, show ((s.size : Int) - 16).toNat = s.size - 16 by omega]
      have c := boxStream_all q key nonce 1 (s.extract 0 (s.size - 16)) (by omega) (by decide) (by decide)
      unfold Spec.streamF at c
      rw [if_pos ⟨h32, h12⟩, if_pos (by omega)] at c
      dsimp only at c
      rw [show (1 : Int).toNat = 1 from rfl] at c
      (first | refine FnD.go Try.call42 Try.func42 rfl rfl rfl ?_ | refine FnX.go Try.call42 Try.func42 rfl rfl rfl ?_)
      (repeat (first | refine g ?_ | refine s_flat 6 [(.pure, [0, 1, 2, 3, 5, 6, 7, 8]), (.mem false, [4, 9]), (.pure, [10])] ?_))
      rw [ec]
      (repeat (first | refine g ?_ | refine s_flat 6 [(.pure, [0, 1, 2, 3, 5, 6, 7, 8]), (.mem false, [4, 9]), (.pure, [10])] ?_))
      refine s_call (boxTagged_spec q key nonce ad (s.extract 0 (s.size - 16)) h32 h12 (by omega)) ?_
      (repeat (first | refine g ?_ | refine s_flat 6 [(.pure, [0, 1, 2, 3, 5, 6, 7, 8]), (.mem false, [4, 9]), (.pure, [10])] ?_))
      rw [zc, show ((s.size - 16 : Nat) : Int).toNat = s.size - 16 from rfl, show ((s.size : Nat) : Int).toNat = s.size from rfl]
      refine s_call (same_spec q (Spec.taggedF key nonce ad (s.extract 0 (s.size - 16))) (s.extract (s.size - 16) s.size) (by omega) (by omega)) ?_
      by_cases ht : Spec.taggedF key nonce ad (s.extract 0 (s.size - 16)) = s.extract (s.size - 16) s.size
      · rw [if_pos ht, decide_eq_true ht]
        (repeat (first | refine g ?_ | refine s_flat 6 [(.pure, [0, 1, 2, 3, 5, 6, 7, 8]), (.mem false, [4, 9]), (.pure, [10])] ?_))
        refine s_call c ?_
        (repeat (first | refine g ?_ | refine s_flat 6 [(.pure, [0, 1, 2, 3, 5, 6, 7, 8]), (.mem false, [4, 9]), (.pure, [10])] ?_))
        exact run_ret rfl (imp_RD rfl shut)
      · rw [if_neg ht, decide_eq_false ht]
        (repeat (first | refine g ?_ | refine s_flat 6 [(.pure, [0, 1, 2, 3, 5, 6, 7, 8]), (.mem false, [4, 9]), (.pure, [10])] ?_))
        exact run_ret rfl (imp_RD rfl shut)
  · rw [if_neg hk]
    (first | refine FnD.go Try.call42 Try.func42 rfl rfl rfl ?_ | refine FnX.go Try.call42 Try.func42 rfl rfl rfl ?_)
    by_cases h32 : key.size = 32
    · have h12 : ¬ nonce.size = 12 := fun h => hk ⟨h32, h⟩
      (repeat (first | refine g ?_ | refine s_flat 6 [(.pure, [0, 1, 2, 3, 5, 6, 7, 8]), (.mem false, [4, 9]), (.pure, [10])] ?_))
      exact run_ret rfl (imp_RD rfl shut)
    · (repeat (first | refine g ?_ | refine s_flat 6 [(.pure, [0, 1, 2, 3, 5, 6, 7, 8]), (.mem false, [4, 9]), (.pure, [10])] ?_))
      exact run_ret rfl (imp_RD rfl shut)
attribute [local irreducible] sealB openB
end Go.Proofs.Ytajndpddlpnbkaa.V
