/- Heads compared; BlockMoved. -/
import Derived.Test.YtajndpddlpnbkaaBKa
import Derived.Test.YtajndpddlpnbkaaVKa
set_option maxRecDepth 10000
set_option linter.unusedVariables false
namespace Go.Proofs.Ytajndpddlpnbkaa.V
open Go.Proofs.Ytajndpddlpnbkaa.VL Go.Proofs.Ytajndpddlpnbkaa.VL.Sha
attribute [local irreducible] Run numB
theorem uH : Try.prog.underlying 23 = some ty23.und := by kernel_rfl
theorem uI : Try.prog.underlying 3 = some (.int .i64) := by kernel_rfl
theorem cH : Try.prog.cellsOf 23 = 8 := by kernel_rfl
theorem cI : Try.prog.cellsOf 3 = 1 := by kernel_rfl
def litsH (h : HeadT) : List Lit := [.int .i64 h.vol, .int .i64 h.addr, .int .i64 h.kind, .int .i64 h.ino, .int .i64 h.gen, .int .i64 h.index, .int .i64 h.ver, .int .i64 h.salt]
theorem int_litI (d : Nat) (r : Int) (r0 : -9223372036854775808 ≤ r) (r1 : r ≤ 9223372036854775807) : Try.prog.keyLits (d + 1) 3 [.int .i64 r] = some [.int .i64 r] := by
  unfold Program.keyLits; rw [uI]
  show (if _ then _ else _) = _
  rw [if_pos ⟨rfl, by simp [Lit.wf, IntKind.min, IntKind.max, IntKind.signed, IntKind.bits]; omega⟩]
theorem head_lits (d : Nat) (h : HeadT) (hh : HeadOk h) : Try.prog.keyLits (d + 2) 23 (encH h) = some (litsH h) := by
  obtain ⟨v0, v1, a0, a1, k0, k1, i0, i1, g0, g1, x0, x1, r0, r1, s0, s1⟩ := hh
  have e1 := int_litI d h.vol v0 v1
  have e2 := int_litI d h.addr a0 a1
  have e3 := int_litI d h.kind k0 k1
  have e4 := int_litI d h.ino i0 i1
  have e5 := int_litI d h.gen g0 g1
  have e6 := int_litI d h.index x0 x1
  have e7 := int_litI d h.ver r0 r1
  have e8 := int_litI d h.salt s0 s1
  unfold Program.keyLits
  rw [uH]
  show (if _ then _ else _) = _
  rw [if_pos ⟨by rw [cH]; rfl, by kernel_rfl⟩]
  unfold encH litsH
  simp [List.mapM_cons, cI, e1, e2, e3, e4, e5, e6, e7, e8]
end Go.Proofs.Ytajndpddlpnbkaa.V
namespace Go.Proofs.Ytajndpddlpnbkaa.V
open Go.Proofs.Ytajndpddlpnbkaa.VL Go.Proofs.Ytajndpddlpnbkaa.VL.Sha
attribute [local irreducible] Run numB
end Go.Proofs.Ytajndpddlpnbkaa.V
