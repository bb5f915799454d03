/- Numbers as rows of digits of ten bits, the lowest first; what is left of them modulo 2^130 - 5: plain laws. -/
set_option linter.unusedVariables false
namespace Go.Proofs.Ytibookgcaboldaa.VL.RD
def val : List Nat → Nat
  | [] => 0
  | d :: l => d + 1024 * val l
def dgs (v : Nat) : Nat → List Nat
  | 0 => []
  | n + 1 => v % 1024 :: dgs (v / 1024) n
def P130 : Nat := 1361129467683753853853498429727072845819
def B130 : Nat := 1361129467683753853853498429727072845824
def top3 (c : Nat) : List Nat := [c % 1024, c / 1024 % 1024, c / 1048576]
def turned (V : Nat) : List Nat := dgs V 13 ++ top3 (V / B130)
def spread (l : List Nat) : Nat := val (l.take 13) + 5 * val (l.drop 13)
/-- What has been spread of the first i digits. -/
def part (l : List Nat) (i : Nat) : Nat := spread (l.take i)
end Go.Proofs.Ytibookgcaboldaa.VL.RD
