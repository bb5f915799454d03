/- Numbers as rows of digits of ten bits, the lowest first; what is left of them modulo 2^130 - 5: plain laws. -/
set_option maxRecDepth 10000
set_option linter.unusedVariables false
namespace Go.Proofs.YtaiocnpecaecdaaGreatDoor.VL.RD
def val : List Nat → Nat
  | [] => 0
  | d :: l => d + 1024 * val l
def spread (l : List Nat) : Nat := val (l.take 13) + 5 * val (l.drop 13)
/-- What has been spread of the first i digits. -/
def part (l : List Nat) (i : Nat) : Nat := spread (l.take i)
end Go.Proofs.YtaiocnpecaecdaaGreatDoor.VL.RD
namespace Go.Proofs.YtaiocnpecaecdaaGreatDoor.VL.Sha
def rotr (u : UInt32) (n : Nat) : UInt32 := (u >>> UInt32.ofNat n) ||| (u <<< UInt32.ofNat (32 - n))
def K : List UInt32 := [
  0x428a2f98, 0x71374491, 0xb5c0fbcf, 0xe9b5dba5, 0x3956c25b, 0x59f111f1, 0x923f82a4, 0xab1c5ed5,
  0xd807aa98, 0x12835b01, 0x243185be, 0x550c7dc3, 0x72be5d74, 0x80deb1fe, 0x9bdc06a7, 0xc19bf174,
  0xe49b69c1, 0xefbe4786, 0x0fc19dc6, 0x240ca1cc, 0x2de92c6f, 0x4a7484aa, 0x5cb0a9dc, 0x76f988da,
  0x983e5152, 0xa831c66d, 0xb00327c8, 0xbf597fc7, 0xc6e00bf3, 0xd5a79147, 0x06ca6351, 0x14292967,
  0x27b70a85, 0x2e1b2138, 0x4d2c6dfc, 0x53380d13, 0x650a7354, 0x766a0abb, 0x81c2c92e, 0x92722c85,
  0xa2bfe8a1, 0xa81a664b, 0xc24b8b70, 0xc76c51a3, 0xd192e819, 0xd6990624, 0xf40e3585, 0x106aa070,
  0x19a4c116, 0x1e376c08, 0x2748774c, 0x34b0bcb5, 0x391c0cb3, 0x4ed8aa4a, 0x5b9cca4f, 0x682e6ff3,
  0x748f82ee, 0x78a5636f, 0x84c87814, 0x8cc70208, 0x90befffa, 0xa4506ceb, 0xbef9a3f7, 0xc67178f2]
def H0 : List UInt32 := [0x6a09e667, 0xbb67ae85, 0x3c6ef372, 0xa54ff53a, 0x510e527f, 0x9b05688c, 0x1f83d9ab, 0x5be0cd19]
/-- A word of a block. -/
def word (b : List UInt8) (i : Nat) : UInt32 :=
  (b.getD (4 * i) 0).toUInt32 <<< 24 ||| (b.getD (4 * i + 1) 0).toUInt32 <<< 16 ||| (b.getD (4 * i + 2) 0).toUInt32 <<< 8 ||| (b.getD (4 * i + 3) 0).toUInt32
def sigA (x : UInt32) : UInt32 := rotr x 7 ^^^ rotr x 18 ^^^ x >>> 3
def sigB (x : UInt32) : UInt32 := rotr x 17 ^^^ rotr x 19 ^^^ x >>> 10
def nextW (w : List UInt32) (i : Nat) : UInt32 := w.getD (i - 16) 0 + sigA (w.getD (i - 15) 0) + w.getD (i - 7) 0 + sigB (w.getD (i - 2) 0)
def first (b : List UInt8) (i : Nat) : List UInt32 := (List.range i).map (word b)
def sched (b : List UInt8) : Nat → List UInt32
  | 0 => first b 16
  | k + 1 => sched b k ++ [nextW (sched b k) (16 + k)]
def bigT (s w : List UInt32) (i : Nat) : UInt32 :=
  s.getD 7 0 + (rotr (s.getD 4 0) 6 ^^^ rotr (s.getD 4 0) 11 ^^^ rotr (s.getD 4 0) 25) + (s.getD 4 0 &&& s.getD 5 0 ^^^ ~~~(s.getD 4 0) &&& s.getD 6 0) + K.getD i 0 + w.getD i 0
def bigU (s : List UInt32) : UInt32 :=
  (rotr (s.getD 0 0) 2 ^^^ rotr (s.getD 0 0) 13 ^^^ rotr (s.getD 0 0) 22) + (s.getD 0 0 &&& s.getD 1 0 ^^^ s.getD 0 0 &&& s.getD 2 0 ^^^ s.getD 1 0 &&& s.getD 2 0)
def round (s w : List UInt32) (i : Nat) : List UInt32 :=
  [bigT s w i + bigU s, s.getD 0 0, s.getD 1 0, s.getD 2 0, s.getD 3 0 + bigT s w i, s.getD 4 0, s.getD 5 0, s.getD 6 0]
def rounds (h w : List UInt32) : Nat → List UInt32
  | 0 => h
  | i + 1 => round (rounds h w i) w i
/-- The first sums of two states. -/
def sums (h s : List UInt32) (i : Nat) : List UInt32 := (List.range i).map fun j => h.getD j 0 + s.getD j 0
def compress (h : List UInt32) (b : List UInt8) : List UInt32 := sums h (rounds h (sched b 48) 64) 8
def blockAt (b : List UInt8) (n : Nat) : List UInt8 := (b.drop (64 * n)).take 64
def stateN (b : List UInt8) : Nat → List UInt32
  | 0 => H0
  | n + 1 => compress (stateN b n) (blockAt b n)
theorem blockAt_app (b c : List UInt8) (n : Nat) (h : 64 * n + 64 ≤ b.length) : blockAt (b ++ c) n = blockAt b n := by
  unfold blockAt
  rw [List.drop_append_of_le_length (by omega), List.take_append_of_le_length (by rw [List.length_drop]; omega)]
theorem stateN_app (b c : List UInt8) (n : Nat) (h : 64 * n ≤ b.length) : stateN (b ++ c) n = stateN b n := by
  induction n with
  | zero => rfl
  | succ n ih => rw [stateN, stateN, ih (by omega), blockAt_app _ _ _ (by omega)]
/-- What a mix holds that has taken a text. -/
structure MixOf (t : List UInt8) (st : List UInt32) (part : List UInt8) : Prop where
  st : st = stateN t (t.length / 64)
  pl : part.length = 64
  pt : part.take (t.length % 64) = t.drop (64 * (t.length / 64))
theorem MixOf.nil : MixOf [] H0 (List.replicate 64 0) := ⟨rfl, rfl, rfl⟩
def lay (part : List UInt8) (o : Nat) (u : List UInt8) : List UInt8 := part.take o ++ u ++ part.drop (o + u.length)
theorem MixOf.lay_len {t : List UInt8} {st : List UInt32} {part : List UInt8} (h : MixOf t st part) (u : List UInt8) (hu : t.length % 64 + u.length ≤ 64) : (lay part (t.length % 64) u).length = 64 := by
  unfold lay
  have := h.pl
  simp; omega
theorem MixOf.more {t : List UInt8} {st : List UInt32} {part : List UInt8} (h : MixOf t st part) (u : List UInt8) (hu : t.length % 64 + u.length < 64) : MixOf (t ++ u) st (lay part (t.length % 64) u) := by
  have hl : (t ++ u).length = t.length + u.length := List.length_append
  have hd : (t ++ u).length / 64 = t.length / 64 := by omega
  have hm : (t ++ u).length % 64 = t.length % 64 + u.length := by omega
  have hp := h.pl
  refine ⟨?_, h.lay_len u (by omega), ?_⟩
  · rw [hd, stateN_app _ _ _ (by omega)]; exact h.st
  · rw [hd, hm, List.drop_append_of_le_length (by omega), ← h.pt]
    unfold lay
    have e : (part.take (t.length % 64) ++ u).length = t.length % 64 + u.length := by rw [List.length_append, List.length_take]; omega
    rw [List.take_append_of_le_length (by omega), ← e, List.take_length]
end Go.Proofs.YtaiocnpecaecdaaGreatDoor.VL.Sha
namespace Go.Proofs.YtaiocnpecaecdaaGreatDoor.VL.Sha
def bl (l : List UInt8) : ByteArray := ⟨l.toArray⟩
theorem app_list (a b : ByteArray) : (a ++ b).data.toList = a.data.toList ++ b.data.toList := by rw [ByteArray.data_append, Array.toList_append]
end Go.Proofs.YtaiocnpecaecdaaGreatDoor.VL.Sha
