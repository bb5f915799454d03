/- Keys and nonces of other lengths are refused everywhere, and tell nothing. -/
import Derived.Test.YtajjbgkbceobmaaBx12
import Derived.Test.YtajjbgkbceobmaaHBoxLaw
namespace Go.Proofs.Ytajjbgkbceobmaa.Pure
open Go.RowKit Go.Proofs.Ytajjbgkbceobmaa.B Go.Proofs.Ytajjbgkbceobmaa.Spec Go.Proofs.YtajjbgkbceobmaaW.PrintWords Go.Proofs.YtajjbgkbceobmaaW.PrintLast
theorem stream_bad (key nonce s : ByteArray) (n : Int) (h : ¬ (key.size = 32 ∧ nonce.size = 12)) (hs : s.size ≤ 140737488351232) (h1 : 0 ≤ n) (h2 : n ≤ 1) : box_Stream.f key nonce n s = some (none_, 1) := by
  rw [stream_f key nonce n s hs (by omega) (by omega)]
  unfold streamF
  rw [if_neg h]
theorem seal_bad (key nonce ad s : ByteArray) (h : ¬ (key.size = 32 ∧ nonce.size = 12)) (hs : s.size ≤ 140737488351232) : box_Seal.f key nonce ad s = some (none_, 1) := by
  unfold box_Seal.f
  rw [stream_bad key nonce s 1 h hs (by omega) (by omega), Option.bind_some]
  dsimp only
  rw [if_neg (by decide)]
  rfl
theorem open_bad (key nonce ad s : ByteArray) (h : ¬ (key.size = 32 ∧ nonce.size = 12)) : box_Open.f 1 key nonce ad s = some (none_, 1) := by
  have e : box_Open.j0 1 key nonce ad s true = some (none_, 1) := by
    rw [show box_Open.j0 1 = box_Open.j0 (0 + 1) from rfl, box_Open.j0, if_pos rfl]; rfl
  unfold box_Open.f
  by_cases hk : (key.size : Int) = 32
  · rw [if_pos hk]
    have hn : ((nonce.size : Int) != 12) = true := by
      rw [bne_iff_ne]
      intro hn
      exact h ⟨by omega, by omega⟩
    rw [hn, e]
  · rw [if_neg hk, e]
theorem BoxRefuses : grapnellaw03_BoxRefuses.Pure := by
  intro a0 a1 a2 h0 h1 h2
  refine ⟨2, ?_⟩
  unfold grapnellaw03_BoxRefuses.f
  by_cases h : a0.size = 32 ∧ a1.size = 12
  · rw [if_pos (by omega), show ((a1.size : Int) == 12) = true by rw [h.2]; rfl]
    rw [show grapnellaw03_BoxRefuses.j0 2 = grapnellaw03_BoxRefuses.j0 (1 + 1) from rfl, grapnellaw03_BoxRefuses.j0, if_pos rfl, awake_some, Option.bind_some]
  · have e : grapnellaw03_BoxRefuses.j0 2 a0 a1 a2 false = some true := by
      rw [show grapnellaw03_BoxRefuses.j0 2 = grapnellaw03_BoxRefuses.j0 (1 + 1) from rfl, grapnellaw03_BoxRefuses.j0, if_neg (by decide)]
      rw [stream_bad a0 a1 a2 0 h h2 (by omega) (by omega), Option.bind_some, seal_bad a0 a1 _ a2 h h2, Option.bind_some, open_bad a0 a1 _ a2 h, Option.bind_some]
      dsimp only
      have ee : none_.toList = [] := by rw [toList_eq_data]; rfl
      rw [if_pos ee, if_pos ee, if_pos ee, if_pos rfl, if_pos rfl, if_pos rfl, awake_some, Option.bind_some]
    by_cases hk : (a0.size : Int) = 32
    · have hn : ((a1.size : Int) == 12) = false := by
        rw [beq_eq_false_iff_ne]
        intro hn
        exact h ⟨by omega, by omega⟩
      rw [if_pos hk, hn, e]
    · rw [if_neg hk, e]
end Go.Proofs.Ytajjbgkbceobmaa.Pure
