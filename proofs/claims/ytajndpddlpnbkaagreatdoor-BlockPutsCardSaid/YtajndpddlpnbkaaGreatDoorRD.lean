/- Numbers as rows of digits of ten bits, the lowest first; what is left of them modulo 2^130 - 5: plain laws. -/
set_option linter.unusedVariables false
namespace Go.Proofs.YtajndpddlpnbkaaGreatDoor.VL.RD
def val : List Nat → Nat
  | [] => 0
  | d :: l => d + 1024 * val l
def spread (l : List Nat) : Nat := val (l.take 13) + 5 * val (l.drop 13)
/-- What has been spread of the first i digits. -/
def part (l : List Nat) (i : Nat) : Nat := spread (l.take i)
end Go.Proofs.YtajndpddlpnbkaaGreatDoor.VL.RD
