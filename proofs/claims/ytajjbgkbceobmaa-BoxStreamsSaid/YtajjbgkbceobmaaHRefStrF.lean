/- The reference's stream function is the specification's. -/
import Derived.Test.YtajjbgkbceobmaaHRefStr
namespace Go.Proofs.Ytajjbgkbceobmaa.Pure
open Go.RowKit Go.Proofs.Ytajjbgkbceobmaa.B Go.Proofs.Ytajjbgkbceobmaa.Spec Go.Proofs.YtajjbgkbceobmaaW.PrintWords Go.Proofs.YtajjbgkbceobmaaW.PrintLast Go.Proofs.YtajjbgkbceobmaaW.PrintMore
set_option linter.unusedVariables false
theorem refStream_f (key nonce : ByteArray) (n : Int) (s : ByteArray) (hs : s.size ≤ 140737488351232) (h1 : -9223372036854775808 ≤ n) (h2 : n ≤ 9223372036854775807) (k : Nat) (h : s.size + 40 ≤ k) :
    grapnelref03_Stream.f k key nonce n s = some (streamF key nonce n s) := by
  obtain ⟨k, rfl⟩ : ∃ m, k = m + 1 + 1 := ⟨k - 2, by omega⟩
  have bad : ∀ m, grapnelref03_Stream.j0 (m + 1) key nonce n s true = some (none_, 1) := fun m => by rw [grapnelref03_Stream.j0, if_pos rfl]; rfl
  have out : ∀ m, grapnelref03_Stream.j1 (m + 1) key nonce n s true = some (none_, 2) := fun m => by rw [grapnelref03_Stream.j1, if_pos rfl]; rfl
  unfold grapnelref03_Stream.f streamF
  by_cases hk : key.size = 32
  · rw [if_pos (by omega)]
    by_cases hc : nonce.size = 12
    · have hb : ((nonce.size : Int) != 12) = false := by rw [hc]; rfl
      rw [hb, if_pos ⟨hk, hc⟩, grapnelref03_Stream.j0, if_neg (by decide)]
      have t1 : wrap64 ((s.size : Int) + 63) = ((s.size + 63 : Nat) : Int) := by unfold wrap64; omega
      have t2 : Int.tdiv ((s.size + 63 : Nat) : Int) 64 = (((s.size + 63) / 64 : Nat) : Int) := by rw [show (64 : Int) = ((64 : Nat) : Int) from rfl, Int.ofNat_tdiv]
      by_cases hn : 0 ≤ n ∧ n < 4294967296 ∧ ((s.size : Int) + 63) / 64 ≤ 4294967296 - n
      · obtain ⟨N, rfl⟩ : ∃ N : Nat, n = N := ⟨n.toNat, by omega⟩
        have t3 : wrap64 (4294967296 - (N : Int)) = 4294967296 - (N : Int) := by unfold wrap64; omega
        rw [if_pos hn, if_neg (by omega), if_neg (by omega), t1, t2, wrap64_nat _ (by omega), t3, decide_eq_false (by omega), grapnelref03_Stream.j1, if_neg (by decide)]
        exact stream_l0 key nonce N s hk hc hs (by unfold M32; omega) s.size 0 k _ (by omega) (by omega) (fun h => absurd rfl h)
      · rw [if_neg hn]
        by_cases n1 : n < 0
        · rw [if_pos n1, out]
        · rw [if_neg n1]
          by_cases n2 : n > 4294967295
          · rw [if_pos n2, out]
          · have t3 : wrap64 (4294967296 - n) = 4294967296 - n := by unfold wrap64; omega
            rw [if_neg n2, t1, t2, wrap64_nat _ (by omega), t3, decide_eq_true (by omega), out]
    · have hb : ((nonce.size : Int) != 12) = true := by rw [bne_iff_ne]; omega
      rw [hb, bad, if_neg (by omega)]
  · rw [if_neg (by omega), bad, if_neg (by omega)]
end Go.Proofs.Ytajjbgkbceobmaa.Pure
