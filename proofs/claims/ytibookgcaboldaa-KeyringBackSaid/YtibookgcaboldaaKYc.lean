/- A pass phrase is changed, by the program and by the document. -/
import Derived.Test.YtibookgcaboldaaKYb
set_option maxRecDepth 10000
set_option linter.unusedVariables false
namespace Go.Proofs.Ytibookgcaboldaa.V
open Go.Proofs.Ytibookgcaboldaa.VL Go.Proofs.Ytibookgcaboldaa.VL.RD Go.Proofs.Ytibookgcaboldaa.VL.Sha
attribute [local irreducible] Run sealB openB stretchB bndB
theorem rightK_gen {k : KeysT} (h : rightK k = true) : 0 ≤ k.gen ∧ k.gen < 4294967296 := by
  unfold rightK at h
  simp only [Bool.and_eq_true, decide_eq_true_eq] at h
  exact h.2.2
end Go.Proofs.Ytibookgcaboldaa.V
namespace Go.Proofs.Ytibookgcaboldaa.V
open Go.Proofs.Ytibookgcaboldaa.VL Go.Proofs.Ytibookgcaboldaa.VL.RD Go.Proofs.Ytibookgcaboldaa.VL.Sha
attribute [local irreducible] Run sealB openB stretchB bndB
end Go.Proofs.Ytibookgcaboldaa.V
namespace Go.Proofs.Ytibookgcaboldaa.V
open Go.Proofs.Ytibookgcaboldaa.VL Go.Proofs.Ytibookgcaboldaa.VL.RD Go.Proofs.Ytibookgcaboldaa.VL.Sha
attribute [local irreducible] Run sealB openB stretchB bndB
end Go.Proofs.Ytibookgcaboldaa.V
namespace Go.Proofs.Ytibookgcaboldaa.V
open Go.Proofs.Ytibookgcaboldaa.VL Go.Proofs.Ytibookgcaboldaa.VL.RD Go.Proofs.Ytibookgcaboldaa.VL.Sha
attribute [local irreducible] Run sealB openB stretchB bndB
end Go.Proofs.Ytibookgcaboldaa.V
