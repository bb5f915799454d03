/- The law BoxTags. -/
import Derived.Test.YtajjbgkbceobmaaRD5
import Derived.Test.YtajjbgkbceobmaaVLc
import Derived.Test.YtajjbgkbceobmaaHTag
set_option maxRecDepth 10000
set_option linter.unusedVariables false
namespace Go.Proofs.Ytajjbgkbceobmaa.V
open Go.Proofs.Ytajjbgkbceobmaa.VL Go.Proofs.Ytajjbgkbceobmaa.VL.RD
attribute [local irreducible] Run
def cutB (s : ByteArray) (n : Nat) : ByteArray := if n < s.size then s.extract 0 n else s
theorem cutB_size (s : ByteArray) (n : Nat) : (cutB s n).size ≤ n := by
  unfold cutB; split
  · rw [ByteArray.size_extract]; omega
  · omega
theorem cut_spec (q : View) (s : ByteArray) (n : Nat) : FnD Try.prog q 12 [.string s, .int .i64 n] [] (.string (cutB s n)) [] := by
  unfold cutB
  (first | refine FnD.go Try.call12 Try.func12 rfl rfl rfl ?_ | refine FnX.go Try.call12 Try.func12 rfl rfl rfl ?_)
  (repeat (first | refine g ?_))
  refine run_cond_dec rfl ?_ ?_
  · intro h
    rw [if_pos (by omega)]
    (repeat (first | refine g ?_))
    exact run_ret rfl (imp_RD rfl shut)
  · intro h
    rw [if_neg (by omega)]
    (repeat (first | refine g ?_))
    exact run_ret rfl (imp_RD rfl shut)
def tagB (key s : ByteArray) : ByteArray × Int := if key.size = 32 then (Spec.polyTag key s, 0) else (⟨#[]⟩, 1)
theorem boxTag_spec (q : View) (key s : ByteArray) (hs : s.size ≤ 140737488351232) : FnD Try.prog q 13 [.string key, .string s] [] (.tuple #[.string (tagB key s).1, .int .i64 (tagB key s).2]) [] := by
  unfold tagB
  by_cases hk : key.size = 32
  · rw [if_pos hk]
    exact FnD.of_below Try.call13 fun w => (B.tag_walk key s w hk (by omega)).mono fun e w' h => h
  · rw [if_neg hk]
    exact FnD.of_below Try.call13 fun w => B.tag_no key s w hk
theorem refTag_all (q : View) (key s : ByteArray) (hs : s.size ≤ 140737488351232) : FnD Try.prog q 14 [.string key, .string s] [] (.tuple #[.string (tagB key s).1, .int .i64 (tagB key s).2]) [] := by
  unfold tagB
  by_cases hk : key.size = 32
  · rw [if_pos hk]; exact refTag_spec q key s hk hs
  · rw [if_neg hk]; exact refTag_no q key s hk
theorem awake_tag : tagB ⟨#[97, 98, 99, 100, 101, 102, 103, 104, 105, 106, 107, 108, 109, 110, 111, 112, 113, 114, 115, 116, 117, 118, 119, 120, 121, 122, 48, 49, 50, 51, 52, 53]⟩ ⟨#[]⟩ = (⟨#[113, 114, 115, 116, 117, 118, 119, 120, 121, 122, 48, 49, 50, 51, 52, 53]⟩, 0) := by
  unfold tagB
  rw [if_pos (by decide)]
  unfold Spec.polyTag
  rw [show Spec.nats (⟨#[]⟩ : ByteArray) = [] from rfl, Spec.polyH, if_pos rfl]
  rfl
theorem awake_spec (q : View) : FnD Try.prog q 15 [] [] (.bool true) [] := by
  (first | refine FnD.go Try.call15 Try.func15 rfl rfl rfl ?_ | refine FnX.go Try.call15 Try.func15 rfl rfl rfl ?_)
  (repeat (first | refine g ?_))
  have c := boxTag_spec q ⟨#[97, 98, 99, 100, 101, 102, 103, 104, 105, 106, 107, 108, 109, 110, 111, 112, 113, 114, 115, 116, 117, 118, 119, 120, 121, 122, 48, 49, 50, 51, 52, 53]⟩ ⟨#[]⟩ (by decide)
  rw [awake_tag] at c
  refine s_call c ?_
  (repeat (first | refine g ?_))
  exact run_ret rfl (imp_RD rfl shut)
theorem tags_spec (q : View) (key s : ByteArray) : FnD Try.prog q 3 [.string key, .string s] [] (.bool true) [] := by
  (first | refine FnD.go Try.call3 Try.func3 rfl rfl rfl ?_ | refine FnX.go Try.call3 Try.func3 rfl rfl rfl ?_)
  (repeat (first | refine g ?_))
  have hz := cutB_size s 2048
  refine s_call (cut_spec q s 2048) ?_
  (repeat (first | refine g ?_))
  refine s_call (boxTag_spec q key (cutB s 2048) (by omega)) ?_
  (repeat (first | refine g ?_))
  refine s_call (refTag_all q key (cutB s 2048) (by omega)) ?_
  (repeat (first | refine g ?_))
  refine s_call (awake_spec q) ?_
  (repeat (first | refine g ?_))
  exact run_ret rfl (imp_RD rfl shut)
end Go.Proofs.Ytajjbgkbceobmaa.V
