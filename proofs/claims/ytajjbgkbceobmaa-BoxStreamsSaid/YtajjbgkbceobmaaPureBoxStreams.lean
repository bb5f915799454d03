/- Any text goes through box.Stream as through the reference's. -/
import Derived.Test.YtajjbgkbceobmaaHRefStrF
import Derived.Test.YtajjbgkbceobmaaPureBoxTwice
namespace Go.Proofs.Ytajjbgkbceobmaa.Pure
open Go.RowKit Go.Proofs.Ytajjbgkbceobmaa.B Go.Proofs.Ytajjbgkbceobmaa.Spec Go.Proofs.YtajjbgkbceobmaaW.PrintWords Go.Proofs.YtajjbgkbceobmaaW.PrintLast
theorem BoxStreams : grapnellaw03_BoxStreams.Pure := by
  intro a0 a1 a2 a3 h0 h1 h2 h3
  obtain ⟨l2, u2⟩ := i64_in h2
  have hc := cut_f a3 4096
  have hs := cutS_size a3 4096
  refine ⟨5000, ?_⟩
  unfold grapnellaw03_BoxStreams.f
  rw [show (4096 : Int) = ((4096 : Nat) : Int) from rfl, hc, Option.bind_some]
  generalize cutS a3 4096 = s at hs ⊢
  have hz : s.size ≤ 140737488351232 := by omega
  have hf : s.size + 40 ≤ 5000 := by omega
  rw [stream_f a0 a1 a2 s hz l2 u2, Option.bind_some, refStream_f a0 a1 a2 s hz l2 u2 5000 hf, Option.bind_some, if_pos rfl, if_pos rfl, awake_some, Option.bind_some]
end Go.Proofs.Ytajjbgkbceobmaa.Pure
