/- SHA-256, HMAC, HKDF's second step and PBKDF2 as plain functions. -/
set_option maxRecDepth 10000
set_option linter.unusedVariables false
namespace Go.Proofs.YtajndpddlpnbkaaGreat.VL.Sha
/-- A word of a block. -/
def word (b : List UInt8) (i : Nat) : UInt32 :=
  (b.getD (4 * i) 0).toUInt32 <<< 24 ||| (b.getD (4 * i + 1) 0).toUInt32 <<< 16 ||| (b.getD (4 * i + 2) 0).toUInt32 <<< 8 ||| (b.getD (4 * i + 3) 0).toUInt32
def first (b : List UInt8) (i : Nat) : List UInt32 := (List.range i).map (word b)
end Go.Proofs.YtajndpddlpnbkaaGreat.VL.Sha
namespace Go.Proofs.YtajndpddlpnbkaaGreat.VL.Sha
def bl (l : List UInt8) : ByteArray := ⟨l.toArray⟩
end Go.Proofs.YtajndpddlpnbkaaGreat.VL.Sha
