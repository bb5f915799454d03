/- What the statements of this layer ask at their end: the tag of the empty text is the key's second half. -/
import Derived.Test.YtajjbgkbceobmaaBx5
namespace Go.Proofs.Ytajjbgkbceobmaa.B
open Go.RowKit Go.Proofs.YtajjbgkbceobmaaW.PrintWords Go.Proofs.Ytajjbgkbceobmaa.Spec
theorem toList_eq_data (s : ByteArray) : s.toList = s.data.toList := by
  exact ByteArray.toList_eq s
theorem awake_some : grapnellaw03_awake.f = some true := by
  unfold grapnellaw03_awake.f
  have h : box_Tag.f (⟨#[97, 98, 99, 100, 101, 102, 103, 104, 105, 106, 107, 108, 109, 110, 111, 112, 113, 114, 115, 116, 117, 118, 119, 120, 121, 122, 48, 49, 50, 51, 52, 53]⟩ : ByteArray) (⟨#[]⟩ : ByteArray)
      = some ((⟨#[113, 114, 115, 116, 117, 118, 119, 120, 121, 122, 48, 49, 50, 51, 52, 53]⟩ : ByteArray), 0) := by
    unfold box_Tag.f
    rw [if_pos (by decide)]
    unfold tagF
    rw [if_pos (by decide)]
    unfold polyTag
    have e : nats (⟨#[]⟩ : ByteArray) = [] := rfl
    rw [e, polyH, if_pos rfl]
    rfl
  rw [h, Option.bind_some, toList_eq_data, if_pos rfl]
  rfl
end Go.Proofs.Ytajjbgkbceobmaa.B
