/- A text goes through box.Stream as its parts do, if the first has whole blocks. -/
import Derived.Test.YtajjbgkbceobmaaBx9
import Derived.Test.YtajjbgkbceobmaaHBoxLaw
namespace Go.Proofs.Ytajjbgkbceobmaa.Pure
open Go.RowKit Go.Proofs.Ytajjbgkbceobmaa.B Go.Proofs.Ytajjbgkbceobmaa.Spec Go.Proofs.YtajjbgkbceobmaaW.PrintWords Go.Proofs.YtajjbgkbceobmaaW.PrintLast
theorem parts_in (t0 t1 s : ByteArray) (z0 : t0.size = 32) (z1 : t1.size = 12) (hs : s.size ≤ 4096) (m : Nat) (hm : 64 * m ≤ s.size) : grapnellaw03_BoxParts.j0 1 t0 t1 (m : Int) s false = some true := by
  have w64 : wrap64 (64 * (m : Int)) = ((64 * m : Nat) : Int) := by unfold wrap64; omega
  have w1 : wrap64 (1 + (m : Int)) = ((1 + m : Nat) : Int) := by unfold wrap64; omega
  have hz : (s.extract 0 (64 * m)).size = 64 * m := by rw [ByteArray.size_extract]; omega
  have hy : (s.extract (64 * m) s.size).size = s.size - 64 * m := by rw [ByteArray.size_extract]; omega
  have fl : ∀ (n : Nat) (x : ByteArray), n ≤ 100 → x.size ≤ 4096 → box_Stream.f t0 t1 (n : Int) x = some (streamed t0 t1 n x, 0) := fun n x hn hx => by
    rw [stream_f t0 t1 n x (by omega) (by omega) (by omega)]
    unfold streamF
    rw [if_pos ⟨z0, z1⟩, if_pos (by omega), Int.toNat_natCast]
  have f1 := fl 1 (s.extract 0 (64 * m)) (by omega) (by omega)
  have f2 := fl (1 + m) (s.extract (64 * m) s.size) (by omega) (by omega)
  have f3 := fl 1 s (by omega) hs
  rw [show ((1 : Nat) : Int) = 1 from rfl] at f1 f3
  rw [show (1 : Nat) = 0 + 1 from rfl, grapnellaw03_BoxParts.j0, if_neg (by decide), w64, w1, if_pos (by omega), if_pos (by omega), Int.toNat_natCast, f1, Option.bind_some, f2, Option.bind_some, f3, Option.bind_some]
  simp only [if_true, streamed_parts t0 t1 1 m s hm, awake_some, Option.bind_some]
  rw [if_pos (by rw [streamed_size, streamed_size, hz, hy]; omega)]
theorem BoxParts : grapnellaw03_BoxParts.Pure := by
  intro a0 a1 a2 a3 h0 h1 h2 h3
  obtain ⟨t0, e0, z0⟩ := whole32 a0
  obtain ⟨t1, e1, z1⟩ := whole12 a1
  have hc := cut_f a3 4096
  have hs := cutS_size a3 4096
  refine ⟨1, ?_⟩
  unfold grapnellaw03_BoxParts.f
  rw [e0, Option.bind_some, e1, Option.bind_some, show (4096 : Int) = ((4096 : Nat) : Int) from rfl, hc, Option.bind_some]
  generalize cutS a3 4096 = s at hs ⊢
  have hw : wrap64 ((s.size : Int) / 64) = (s.size : Int) / 64 := by unfold wrap64; omega
  have hj : grapnellaw03_BoxParts.j0 1 t0 t1 a2 s true = some true := by
    rw [show (1 : Nat) = 0 + 1 from rfl, grapnellaw03_BoxParts.j0, if_pos rfl, awake_some, Option.bind_some]
  by_cases hn : a2 < 0
  · rw [if_pos hn, hj]
  · rw [if_neg hn, hw]
    by_cases hg : a2 > (s.size : Int) / 64
    · rw [decide_eq_true hg, hj]
    · rw [decide_eq_false hg]
      obtain ⟨m, rfl⟩ := Int.eq_ofNat_of_zero_le (Int.not_lt.1 hn)
      exact parts_in t0 t1 s z0 z1 (by omega) m (by omega)
end Go.Proofs.Ytajjbgkbceobmaa.Pure
