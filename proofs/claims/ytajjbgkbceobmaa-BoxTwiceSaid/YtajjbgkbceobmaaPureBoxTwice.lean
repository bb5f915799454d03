/- A text that goes through box.Stream twice is what it was. -/
import Derived.Test.YtajjbgkbceobmaaBx9
import Derived.Test.YtajjbgkbceobmaaHBoxLaw
namespace Go.Proofs.Ytajjbgkbceobmaa.Pure
open Go.RowKit Go.Proofs.Ytajjbgkbceobmaa.B Go.Proofs.Ytajjbgkbceobmaa.Spec Go.Proofs.YtajjbgkbceobmaaW.PrintWords Go.Proofs.YtajjbgkbceobmaaW.PrintLast
theorem i64_in {a : Int} (h : (Lit.int .i64 a).wf = true) : -9223372036854775808 ≤ a ∧ a ≤ 9223372036854775807 := by
  have h1 := of_decide_eq_true (Bool.and_eq_true _ _ ▸ h : decide (IntKind.i64.min ≤ a) = true ∧ decide (a ≤ IntKind.i64.max) = true).1
  have h2 := of_decide_eq_true (Bool.and_eq_true _ _ ▸ h : decide (IntKind.i64.min ≤ a) = true ∧ decide (a ≤ IntKind.i64.max) = true).2
  exact ⟨h1, h2⟩
theorem BoxTwice : grapnellaw03_BoxTwice.Pure := by
  intro a0 a1 a2 a3 h0 h1 h2 h3
  obtain ⟨l2, u2⟩ := i64_in h2
  obtain ⟨t0, e0, z0⟩ := whole32 a0
  obtain ⟨t1, e1, z1⟩ := whole12 a1
  have hc := cut_f a3 4096
  have hs := cutS_size a3 4096
  unfold grapnellaw03_BoxTwice.f
  rw [e0, Option.bind_some, e1, Option.bind_some, show (4096 : Int) = ((4096 : Nat) : Int) from rfl, hc, Option.bind_some]
  generalize cutS a3 4096 = s at hs ⊢
  rw [stream_f t0 t1 a2 s (by omega) l2 u2, Option.bind_some, awake_some, Option.bind_some]
  unfold streamF
  rw [if_pos ⟨z0, z1⟩]
  by_cases hn : 0 ≤ a2 ∧ a2 < 4294967296 ∧ ((s.size : Int) + 63) / 64 ≤ 4294967296 - a2
  · rw [if_pos hn]
    have hsz := streamed_size t0 t1 a2.toNat s
    have e3 : streamF t0 t1 a2 (streamed t0 t1 a2.toNat s) = (s, 0) := by
      unfold streamF
      rw [if_pos ⟨z0, z1⟩, if_pos (by rw [hsz]; exact hn), streamed_twice]
    rw [stream_f t0 t1 a2 _ (by show (streamed t0 t1 a2.toNat s).size ≤ _; omega) l2 u2, Option.bind_some]
    show (if (0 : Int) = 0 then (if (streamF t0 t1 a2 (streamed t0 t1 a2.toNat s)).2 = 0 then (if (streamF t0 t1 a2 (streamed t0 t1 a2.toNat s)).1.toList = s.toList then some true else some false) else some false) else _) = some true
    rw [e3, if_pos rfl, if_pos rfl, if_pos rfl]
  · rw [if_neg hn, stream_f t0 t1 a2 _ (by show (none_).size ≤ _; decide) l2 u2, Option.bind_some, if_neg (by decide), if_pos rfl, if_pos]
    rw [toList_eq_data]; rfl
end Go.Proofs.Ytajjbgkbceobmaa.Pure
