/- The reference's numbers of digits: digits, less, prime. -/
import Derived.Test.YtibookgcaboldaaVA
import Derived.Test.YtibookgcaboldaaRD
import Derived.Test.YtibookgcaboldaaHClamped
import Derived.Test.YtibookgcaboldaaHTagLaw
import Derived.Test.YtibookgcaboldaaSpec
set_option maxRecDepth 10000
set_option linter.unusedVariables false
namespace Go.Proofs.Ytibookgcaboldaa.V
open Go.Proofs.Ytibookgcaboldaa.VL Go.Proofs.Ytibookgcaboldaa.VL.RD
attribute [local irreducible] Run
end Go.Proofs.Ytibookgcaboldaa.V
namespace Go.Proofs.Ytibookgcaboldaa.V
open Go.Proofs.Ytibookgcaboldaa.VL Go.Proofs.Ytibookgcaboldaa.VL.RD
attribute [local irreducible] Run
end Go.Proofs.Ytibookgcaboldaa.V
namespace Go.Proofs.Ytibookgcaboldaa.V
open Go.Proofs.Ytibookgcaboldaa.VL Go.Proofs.Ytibookgcaboldaa.VL.RD
attribute [local irreducible] Run
end Go.Proofs.Ytibookgcaboldaa.V
namespace Go.Proofs.Ytibookgcaboldaa.V
open Go.Proofs.Ytibookgcaboldaa.VL Go.Proofs.Ytibookgcaboldaa.VL.RD
attribute [local irreducible] Run
def bytesOf (N n : Nat) : List UInt8 := (List.range n).map fun k => UInt8.ofNat (N / 256 ^ k % 256)
theorem bytesOf_length (N n : Nat) : (bytesOf N n).length = n := by simp [bytesOf]
theorem leB_length (n k : Nat) : (Spec.leB n k).length = k := by
  induction k generalizing n with
  | zero => rfl
  | succ k ih => simp [Spec.leB, ih]
end Go.Proofs.Ytibookgcaboldaa.V
namespace Go.Proofs.Ytibookgcaboldaa.V
open Go.Proofs.Ytibookgcaboldaa.VL Go.Proofs.Ytibookgcaboldaa.VL.RD
attribute [local irreducible] Run
end Go.Proofs.Ytibookgcaboldaa.V
namespace Go.Proofs.Ytibookgcaboldaa.V
open Go.Proofs.Ytibookgcaboldaa.VL
attribute [local irreducible] Run
theorem word_lt (s : ByteArray) (i : Nat) : Spec.byteAt s i < 256 := by
  unfold Spec.byteAt Spec.at_ Spec.nats
  rw [List.getD_eq_getElem?_getD, List.getElem?_map]
  cases h : s.data.toList[i]? with
  | none => decide
  | some u => exact u.toNat_lt
theorem bAt_byteAt (s : ByteArray) (i : Nat) : bAt s i = (Spec.byteAt s i : Int) := by
  unfold bAt Spec.byteAt Spec.at_ Spec.nats
  rw [List.getD_eq_getElem?_getD, List.getD_eq_getElem?_getD, List.getElem?_map]
  cases s.data.toList[i]? <;> rfl
end Go.Proofs.Ytibookgcaboldaa.V
namespace Go.Proofs.Ytibookgcaboldaa.V
open Go.Proofs.Ytibookgcaboldaa.VL
attribute [local irreducible] Run
end Go.Proofs.Ytibookgcaboldaa.V
namespace Go.Proofs.Ytibookgcaboldaa.V
open Go.Proofs.Ytibookgcaboldaa.VL
attribute [local irreducible] Run
end Go.Proofs.Ytibookgcaboldaa.V
namespace Go.Proofs.Ytibookgcaboldaa.V
open Go.Proofs.Ytibookgcaboldaa.VL Go.Proofs.Ytibookgcaboldaa.VL.RD
attribute [local irreducible] Run
theorem block_lt (key nonce : ByteArray) (n : Nat) : ∀ x ∈ Spec.block key nonce n, x < 256 := by
  intro x hx
  unfold Spec.block Spec.wordBytes at hx
  simp only [List.mem_flatMap, List.mem_cons, List.not_mem_nil, or_false] at hx
  obtain ⟨w, _, hx⟩ := hx
  omega
theorem at_block_lt (key nonce : ByteArray) (n j : Nat) : Spec.at_ (Spec.block key nonce n) j < 256 := by
  unfold Spec.at_
  rw [List.getD_eq_getElem?_getD]
  cases h : (Spec.block key nonce n)[j]? with
  | none => decide
  | some x => exact block_lt key nonce n x (List.mem_of_getElem? h)
end Go.Proofs.Ytibookgcaboldaa.V
namespace Go.Proofs.Ytibookgcaboldaa.V
open Go.Proofs.Ytibookgcaboldaa.VL Go.Proofs.Ytibookgcaboldaa.VL.RD
attribute [local irreducible] Run
theorem ba_ext {a b : ByteArray} (h : a.data.toList = b.data.toList) : a = b := by
  cases a; cases b; congr; exact Array.toList_inj.1 h
theorem leB_size (n k : Nat) : (⟨(Spec.leB n k).toArray⟩ : ByteArray).size = k := by
  show (Spec.leB n k).toArray.size = k
  rw [List.size_toArray, leB_length]
theorem polyTag_len (key s : ByteArray) : (Spec.polyTag key s).size = 16 := leB_size _ 16
theorem taggedF_len (key nonce ad s : ByteArray) : (Spec.taggedF key nonce ad s).size = 16 := polyTag_len _ _
theorem streamed_len (key nonce : ByteArray) (n : Nat) (s : ByteArray) : (Spec.streamed key nonce n s).size = s.size := by
  show ((List.range s.size).map _).toArray.size = _
  rw [List.size_toArray, List.length_map, List.length_range]
attribute [local irreducible] Spec.taggedF Spec.streamed Spec.polyTag
/-- What is sealed: the document's answer. -/
def sealB (key nonce ad s : ByteArray) : ByteArray × Int :=
  if key.size = 32 ∧ nonce.size = 12 then (Spec.streamed key nonce 1 s ++ Spec.taggedF key nonce ad (Spec.streamed key nonce 1 s), 0) else (⟨#[]⟩, 1)
def openB (key nonce ad s : ByteArray) : ByteArray × Int :=
  if key.size = 32 ∧ nonce.size = 12 then
    if s.size < 16 then (⟨#[]⟩, 3) else
    if Spec.taggedF key nonce ad (s.extract 0 (s.size - 16)) = s.extract (s.size - 16) s.size then (Spec.streamed key nonce 1 (s.extract 0 (s.size - 16)), 0) else (⟨#[]⟩, 10)
  else (⟨#[]⟩, 1)
end Go.Proofs.Ytibookgcaboldaa.V
