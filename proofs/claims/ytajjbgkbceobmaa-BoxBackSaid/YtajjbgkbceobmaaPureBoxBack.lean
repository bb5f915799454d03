/- What is sealed is opened again. -/
import Derived.Test.YtajjbgkbceobmaaBx12
import Derived.Test.YtajjbgkbceobmaaHBoxLaw
import Derived.Test.YtajjbgkbceobmaaPureBoxSames
namespace Go.Proofs.Ytajjbgkbceobmaa.Pure
open Go.RowKit Go.Proofs.Ytajjbgkbceobmaa.B Go.Proofs.Ytajjbgkbceobmaa.Spec Go.Proofs.YtajjbgkbceobmaaW.PrintWords Go.Proofs.YtajjbgkbceobmaaW.PrintLast
theorem tagged_size (key nonce ad s : ByteArray) : (taggedF key nonce ad s).size = 16 := polyTag_size _ _
/-- Sealed, with a key and a nonce of the right lengths. -/
theorem seal_f (key nonce ad s : ByteArray) (hk : key.size = 32) (hn : nonce.size = 12) (ha : ad.size ≤ 2048) (hs : s.size ≤ 2048) :
    box_Seal.f key nonce ad s = some (streamed key nonce 1 s ++ taggedF key nonce ad (streamed key nonce 1 s), 0) := by
  have hz := streamed_size key nonce 1 s
  unfold box_Seal.f
  rw [stream_f key nonce 1 s (by omega) (by omega) (by omega), Option.bind_some]
  have e : streamF key nonce 1 s = (streamed key nonce 1 s, 0) := by
    unfold streamF
    rw [if_pos ⟨hk, hn⟩, if_pos (by omega)]; rfl
  rw [e]
  dsimp only
  rw [if_pos rfl]
  unfold box_tagged.f
  rw [if_pos ⟨hk, hn, by omega⟩, Option.bind_some, if_pos (by rw [tagged_size]; omega)]
theorem extract_left (a b : ByteArray) (n : Nat) (h : a.size = n) : (a ++ b).extract 0 n = a := by
  apply bytes_ext
  subst h
  rw [ByteArray.data_extract, ByteArray.data_append]
  simp
  exact List.take_of_length_le (Nat.le_refl _)
theorem extract_right (a b : ByteArray) (n m : Nat) (h : a.size = n) (hm : m = a.size + b.size) : (a ++ b).extract n m = b := by
  apply bytes_ext
  subst h hm
  rw [ByteArray.data_extract, ByteArray.data_append]
  simp
  rw [show List.drop a.size a.data.toList = [] from List.drop_of_length_le (Nat.le_refl _), List.take_nil, List.nil_append]
  exact List.take_of_length_le (Nat.le_refl _)
theorem open_f (key nonce ad s : ByteArray) (hk : key.size = 32) (hn : nonce.size = 12) (ha : ad.size ≤ 2048) (hs : s.size ≤ 2048) :
    box_Open.f 100 key nonce ad (streamed key nonce 1 s ++ taggedF key nonce ad (streamed key nonce 1 s)) = some (s, 0) := by
  have hz := streamed_size key nonce 1 s
  have hw := streamed_twice key nonce 1 s
  generalize streamed key nonce 1 s = t at hz hw ⊢
  have hg := tagged_size key nonce ad t
  generalize eg : taggedF key nonce ad t = g at hg ⊢
  have hsz : (t ++ g).size = s.size + 16 := by rw [ByteArray.size_append]; omega
  have e1 : wrap64 (((t ++ g).size : Int) - 16) = (s.size : Int) := by rw [hsz]; unfold wrap64; omega
  unfold box_Open.f
  rw [if_pos (by omega), show ((nonce.size : Int) != 12) = false by rw [hn]; rfl]
  rw [show box_Open.j0 100 = box_Open.j0 (99 + 1) from rfl, box_Open.j0]
  rw [if_neg (by decide), if_neg (by omega), e1, if_pos (by omega), if_pos (by omega), Int.toNat_natCast, extract_left t g _ hz, extract_right t g _ _ hz (by omega)]
  unfold box_tagged.f
  rw [if_pos ⟨hk, hn, by omega⟩, Option.bind_some, eg, same_f g g (by omega) 99 (by omega), Option.bind_some, decide_eq_true rfl, if_pos rfl]
  rw [stream_f key nonce 1 t (by omega) (by omega) (by omega), Option.bind_some]
  have e : streamF key nonce 1 t = (s, 0) := by
    unfold streamF
    rw [if_pos ⟨hk, hn⟩, if_pos (by omega)]
    show (streamed key nonce 1 t, (0 : Int)) = _
    rw [hw]
  rw [e]
theorem BoxBack : grapnellaw03_BoxBack.Pure := by
  intro a0 a1 a2 a3 h0 h1 h2 h3
  obtain ⟨t0, e0, z0⟩ := whole32 a0
  obtain ⟨t1, e1, z1⟩ := whole12 a1
  refine ⟨100, ?_⟩
  have hc := cut_f a2 2048
  have hs := cutS_size a2 2048
  have hc3 := cut_f a3 2048
  have hs3 := cutS_size a3 2048
  unfold grapnellaw03_BoxBack.f
  rw [e0, Option.bind_some, e1, Option.bind_some, show (2048 : Int) = ((2048 : Nat) : Int) from rfl, hc, Option.bind_some, hc3, Option.bind_some]
  generalize cutS a2 2048 = ad at hs ⊢
  generalize cutS a3 2048 = s at hs3 ⊢
  rw [seal_f t0 t1 ad s z0 z1 (by omega) (by omega), Option.bind_some]
  dsimp only
  rw [open_f t0 t1 ad s z0 z1 (by omega) (by omega), Option.bind_some]
  dsimp only
  rw [if_pos rfl, if_pos rfl, if_pos rfl, awake_some, if_pos, Option.bind_some]
  rw [ByteArray.size_append, streamed_size, tagged_size]
  unfold wrap64
  omega
end Go.Proofs.Ytajjbgkbceobmaa.Pure
