/- What ChaCha20 and Poly1305 are, in plain numbers and lists: no program in sight. -/
import Derived.Laws.BitsLemmas
namespace Go.Proofs.Ytajndpddlpnbkaa.Spec
/-- A number of digits of eight bits, the lowest first. -/
def le : List Nat → Nat
  | [] => 0
  | b :: l => b + 256 * le l
def nats (s : ByteArray) : List Nat := s.data.toList.map UInt8.toNat
def leB (n : Nat) : Nat → List UInt8
  | 0 => []
  | k + 1 => UInt8.ofNat (n % 256) :: leB (n / 256) k
/-- 2^130 - 5. -/
def P130 : Nat := 1361129467683753853853498429727072845819
def P128 : Nat := 340282366920938463463374607431768211456
/-- The clamp of byte i of a key. -/
def clampAt (i b : Nat) : Nat := if i % 4 = 3 then b % 16 else if i % 4 = 0 ∧ 0 < i then b - b % 4 else b
def clamps : Nat → List Nat → List Nat
  | _, [] => []
  | i, b :: l => clampAt i b :: clamps (i + 1) l
def polyR (key : ByteArray) : Nat := le (clamps 0 ((nats key).take 16))
def polyH (r h : Nat) (s : List Nat) : Nat := if s = [] then h else polyH r (((h + le (s.take 16 ++ [1])) * r) % P130) (s.drop 16)
termination_by s.length
decreasing_by
  cases s with
  | nil => contradiction
  | cons a l => simp; omega
def polyTag (key s : ByteArray) : ByteArray := ⟨(leB ((polyH (polyR key) 0 (nats s) + le ((nats key).drop 16)) % P128) 16).toArray⟩
def M32 : Nat := 4294967296
def rotl (x n : Nat) : Nat := ((x * 2 ^ n) % M32) ||| (x / 2 ^ (32 - n))
def at_ (x : List Nat) (i : Nat) : Nat := x.getD i 0
def qr (x : List Nat) (a b c d : Nat) : List Nat :=
  let x := x.set a ((at_ x a + at_ x b) % M32)
  let x := x.set d (rotl (at_ x d ^^^ at_ x a) 16)
  let x := x.set c ((at_ x c + at_ x d) % M32)
  let x := x.set b (rotl (at_ x b ^^^ at_ x c) 12)
  let x := x.set a ((at_ x a + at_ x b) % M32)
  let x := x.set d (rotl (at_ x d ^^^ at_ x a) 8)
  let x := x.set c ((at_ x c + at_ x d) % M32)
  x.set b (rotl (at_ x b ^^^ at_ x c) 7)
def dround (x : List Nat) : List Nat :=
  let x := qr x 0 4 8 12
  let x := qr x 1 5 9 13
  let x := qr x 2 6 10 14
  let x := qr x 3 7 11 15
  let x := qr x 0 5 10 15
  let x := qr x 1 6 11 12
  let x := qr x 2 7 8 13
  qr x 3 4 9 14
def rounds : Nat → List Nat → List Nat
  | 0, x => x
  | k + 1, x => rounds k (dround x)
def word (s : List Nat) (i : Nat) : Nat := at_ s i + 256 * at_ s (i + 1) + 65536 * at_ s (i + 2) + 16777216 * at_ s (i + 3)
def state (key nonce : ByteArray) (n : Nat) : List Nat :=
  [0x61707865, 0x3320646e, 0x79622d32, 0x6b206574] ++ (List.range 8).map (fun i => word (nats key) (4 * i)) ++ [n % M32] ++ (List.range 3).map (fun i => word (nats nonce) (4 * i))
def outWords (s : List Nat) : List Nat := (List.range 16).map fun i => (at_ (rounds 10 s) i + at_ s i) % M32
def wordBytes (n : Nat) : List Nat := [n % 256, n / 256 % 256, n / 65536 % 256, n / 16777216 % 256]
/-- The 64 bytes of ChaCha20's block n. -/
def block (key nonce : ByteArray) (n : Nat) : List Nat := (outWords (state key nonce n)).flatMap wordBytes
def byteAt (s : ByteArray) (i : Nat) : Nat := at_ (nats s) i
def streamed (key nonce : ByteArray) (n : Nat) (s : ByteArray) : ByteArray :=
  ⟨((List.range s.size).map fun i => UInt8.ofNat (byteAt s i ^^^ at_ (block key nonce (n + i / 64)) (i % 64))).toArray⟩
def none_ : ByteArray := ⟨#[]⟩
def streamF (key nonce : ByteArray) (n : Int) (s : ByteArray) : ByteArray × Int :=
  if key.size = 32 ∧ nonce.size = 12 then
    if 0 ≤ n ∧ n < 4294967296 ∧ ((s.size : Int) + 63) / 64 ≤ 4294967296 - n then (streamed key nonce n.toNat s, 0) else (none_, 2)
  else (none_, 1)
def tagF (key s : ByteArray) : ByteArray × Int := if key.size = 32 then (polyTag key s, 0) else (none_, 1)
def zeros (n : Nat) : List UInt8 := List.replicate n 0
def framed (ad s : ByteArray) : ByteArray :=
  ⟨(ad.data.toList ++ zeros ((16 - ad.size % 16) % 16) ++ s.data.toList ++ zeros ((16 - s.size % 16) % 16) ++ leB ad.size 8 ++ leB s.size 8).toArray⟩
def key0 (key nonce : ByteArray) : ByteArray := ⟨(((block key nonce 0).take 32).map UInt8.ofNat).toArray⟩
def taggedF (key nonce ad s : ByteArray) : ByteArray := polyTag (key0 key nonce) (framed ad s)
def clampedF (key : ByteArray) : ByteArray := ⟨((clamps 0 ((nats key).take 16)).map UInt8.ofNat).toArray⟩
end Go.Proofs.Ytajndpddlpnbkaa.Spec
