/- SHA-256, HMAC, HKDF's second step and PBKDF2 as plain functions. -/
set_option maxRecDepth 10000
set_option linter.unusedVariables false
namespace Go.Proofs.YtajndpddlpnbkaaGreatDoor.VL.Sha
def rotr (u : UInt32) (n : Nat) : UInt32 := (u >>> UInt32.ofNat n) ||| (u <<< UInt32.ofNat (32 - n))
def K : List UInt32 := [
  0x428a2f98, 0x71374491, 0xb5c0fbcf, 0xe9b5dba5, 0x3956c25b, 0x59f111f1, 0x923f82a4, 0xab1c5ed5,
  0xd807aa98, 0x12835b01, 0x243185be, 0x550c7dc3, 0x72be5d74, 0x80deb1fe, 0x9bdc06a7, 0xc19bf174,
  0xe49b69c1, 0xefbe4786, 0x0fc19dc6, 0x240ca1cc, 0x2de92c6f, 0x4a7484aa, 0x5cb0a9dc, 0x76f988da,
  0x983e5152, 0xa831c66d, 0xb00327c8, 0xbf597fc7, 0xc6e00bf3, 0xd5a79147, 0x06ca6351, 0x14292967,
  0x27b70a85, 0x2e1b2138, 0x4d2c6dfc, 0x53380d13, 0x650a7354, 0x766a0abb, 0x81c2c92e, 0x92722c85,
  0xa2bfe8a1, 0xa81a664b, 0xc24b8b70, 0xc76c51a3, 0xd192e819, 0xd6990624, 0xf40e3585, 0x106aa070,
  0x19a4c116, 0x1e376c08, 0x2748774c, 0x34b0bcb5, 0x391c0cb3, 0x4ed8aa4a, 0x5b9cca4f, 0x682e6ff3,
  0x748f82ee, 0x78a5636f, 0x84c87814, 0x8cc70208, 0x90befffa, 0xa4506ceb, 0xbef9a3f7, 0xc67178f2]
def H0 : List UInt32 := [0x6a09e667, 0xbb67ae85, 0x3c6ef372, 0xa54ff53a, 0x510e527f, 0x9b05688c, 0x1f83d9ab, 0x5be0cd19]
/-- A word of a block. -/
def word (b : List UInt8) (i : Nat) : UInt32 :=
  (b.getD (4 * i) 0).toUInt32 <<< 24 ||| (b.getD (4 * i + 1) 0).toUInt32 <<< 16 ||| (b.getD (4 * i + 2) 0).toUInt32 <<< 8 ||| (b.getD (4 * i + 3) 0).toUInt32
def sigA (x : UInt32) : UInt32 := rotr x 7 ^^^ rotr x 18 ^^^ x >>> 3
def sigB (x : UInt32) : UInt32 := rotr x 17 ^^^ rotr x 19 ^^^ x >>> 10
def nextW (w : List UInt32) (i : Nat) : UInt32 := w.getD (i - 16) 0 + sigA (w.getD (i - 15) 0) + w.getD (i - 7) 0 + sigB (w.getD (i - 2) 0)
def first (b : List UInt8) (i : Nat) : List UInt32 := (List.range i).map (word b)
def sched (b : List UInt8) : Nat → List UInt32
  | 0 => first b 16
  | k + 1 => sched b k ++ [nextW (sched b k) (16 + k)]
theorem first_len (b : List UInt8) (i : Nat) : (first b i).length = i := by simp [first]
theorem first_snoc (b : List UInt8) (i : Nat) : first b (i + 1) = first b i ++ [word b i] := by simp [first, List.range_succ]
theorem sched_len (b : List UInt8) (k : Nat) : (sched b k).length = 16 + k := by
  induction k with
  | zero => exact first_len b 16
  | succ k ih => simp [sched, ih]; omega
def bigT (s w : List UInt32) (i : Nat) : UInt32 :=
  s.getD 7 0 + (rotr (s.getD 4 0) 6 ^^^ rotr (s.getD 4 0) 11 ^^^ rotr (s.getD 4 0) 25) + (s.getD 4 0 &&& s.getD 5 0 ^^^ ~~~(s.getD 4 0) &&& s.getD 6 0) + K.getD i 0 + w.getD i 0
def bigU (s : List UInt32) : UInt32 :=
  (rotr (s.getD 0 0) 2 ^^^ rotr (s.getD 0 0) 13 ^^^ rotr (s.getD 0 0) 22) + (s.getD 0 0 &&& s.getD 1 0 ^^^ s.getD 0 0 &&& s.getD 2 0 ^^^ s.getD 1 0 &&& s.getD 2 0)
def round (s w : List UInt32) (i : Nat) : List UInt32 :=
  [bigT s w i + bigU s, s.getD 0 0, s.getD 1 0, s.getD 2 0, s.getD 3 0 + bigT s w i, s.getD 4 0, s.getD 5 0, s.getD 6 0]
def rounds (h w : List UInt32) : Nat → List UInt32
  | 0 => h
  | i + 1 => round (rounds h w i) w i
theorem rounds_len (h w : List UInt32) (i : Nat) (hh : h.length = 8) : (rounds h w i).length = 8 := by
  cases i with
  | zero => exact hh
  | succ i => rfl
/-- The first sums of two states. -/
def sums (h s : List UInt32) (i : Nat) : List UInt32 := (List.range i).map fun j => h.getD j 0 + s.getD j 0
theorem sums_len (h s : List UInt32) (i : Nat) : (sums h s i).length = i := by simp [sums]
theorem sums_snoc (h s : List UInt32) (i : Nat) : sums h s (i + 1) = sums h s i ++ [h.getD i 0 + s.getD i 0] := by simp [sums, List.range_succ]
def compress (h : List UInt32) (b : List UInt8) : List UInt32 := sums h (rounds h (sched b 48) 64) 8
theorem compress_len (h : List UInt32) (b : List UInt8) : (compress h b).length = 8 := sums_len _ _ _
def blockAt (b : List UInt8) (n : Nat) : List UInt8 := (b.drop (64 * n)).take 64
def stateN (b : List UInt8) : Nat → List UInt32
  | 0 => H0
  | n + 1 => compress (stateN b n) (blockAt b n)
theorem stateN_len (b : List UInt8) (n : Nat) : (stateN b n).length = 8 := by
  cases n with
  | zero => rfl
  | succ n => exact compress_len _ _
theorem blockAt_app (b c : List UInt8) (n : Nat) (h : 64 * n + 64 ≤ b.length) : blockAt (b ++ c) n = blockAt b n := by
  unfold blockAt
  rw [List.drop_append_of_le_length (by omega), List.take_append_of_le_length (by rw [List.length_drop]; omega)]
theorem stateN_app (b c : List UInt8) (n : Nat) (h : 64 * n ≤ b.length) : stateN (b ++ c) n = stateN b n := by
  induction n with
  | zero => rfl
  | succ n ih => rw [stateN, stateN, ih (by omega), blockAt_app _ _ _ (by omega)]
/-- The number of noughts behind the mark. -/
def noughts (n : Nat) : Nat := (119 - n % 64) % 64
def lenBytes (n : Nat) (i : Nat) : List UInt8 := (List.range i).map fun j => UInt8.ofNat (8 * n / 2 ^ (56 - 8 * j))
theorem lenBytes_len (n i : Nat) : (lenBytes n i).length = i := by simp [lenBytes]
theorem lenBytes_snoc (n i : Nat) : lenBytes n (i + 1) = lenBytes n i ++ [UInt8.ofNat (8 * n / 2 ^ (56 - 8 * i))] := by simp [lenBytes, List.range_succ]
def marked (s : List UInt8) (z : Nat) : List UInt8 := s ++ [128] ++ List.replicate z 0
theorem marked_len (s : List UInt8) (z : Nat) : (marked s z).length = s.length + 1 + z := by simp [marked]; omega
theorem marked_snoc (s : List UInt8) (z : Nat) : marked s (z + 1) = marked s z ++ [0] := by simp [marked, List.replicate_succ']
def pad (s : List UInt8) : List UInt8 := marked s (noughts s.length) ++ lenBytes s.length 8
theorem pad_len (s : List UInt8) : (pad s).length = s.length + 9 + noughts s.length ∧ (pad s).length % 64 = 0 := by
  have : (pad s).length = s.length + 9 + noughts s.length := by unfold pad; rw [List.length_append, marked_len, lenBytes_len]; omega
  refine ⟨this, ?_⟩
  rw [this]; unfold noughts; omega
def outW (w : UInt32) : List UInt8 := [(w >>> 24).toUInt8, (w >>> 16).toUInt8, (w >>> 8).toUInt8, w.toUInt8]
def outN (st : List UInt32) (i : Nat) : List UInt8 := (List.range i).flatMap fun j => outW (st.getD j 0)
theorem outN_snoc (st : List UInt32) (i : Nat) : outN st (i + 1) = outN st i ++ outW (st.getD i 0) := by simp [outN, List.range_succ]
theorem outN_len (st : List UInt32) (i : Nat) : (outN st i).length = 4 * i := by
  induction i with
  | zero => rfl
  | succ i ih => rw [outN_snoc, List.length_append, ih]; show _ + 4 = _; omega
def sha (s : List UInt8) : List UInt8 := outN (stateN (pad s) ((pad s).length / 64)) 8
theorem sha_len (s : List UInt8) : (sha s).length = 32 := outN_len _ _
def shaB (s : ByteArray) : ByteArray := ⟨(sha s.data.toList).toArray⟩
/-- What a mix holds that has taken a text. -/
structure MixOf (t : List UInt8) (st : List UInt32) (part : List UInt8) : Prop where
  st : st = stateN t (t.length / 64)
  pl : part.length = 64
  pt : part.take (t.length % 64) = t.drop (64 * (t.length / 64))
theorem MixOf.nil : MixOf [] H0 (List.replicate 64 0) := ⟨rfl, rfl, rfl⟩
def lay (part : List UInt8) (o : Nat) (u : List UInt8) : List UInt8 := part.take o ++ u ++ part.drop (o + u.length)
theorem MixOf.lay_len {t : List UInt8} {st : List UInt32} {part : List UInt8} (h : MixOf t st part) (u : List UInt8) (hu : t.length % 64 + u.length ≤ 64) : (lay part (t.length % 64) u).length = 64 := by
  unfold lay
  have := h.pl
  simp; omega
theorem MixOf.more {t : List UInt8} {st : List UInt32} {part : List UInt8} (h : MixOf t st part) (u : List UInt8) (hu : t.length % 64 + u.length < 64) : MixOf (t ++ u) st (lay part (t.length % 64) u) := by
  have hl : (t ++ u).length = t.length + u.length := List.length_append
  have hd : (t ++ u).length / 64 = t.length / 64 := by omega
  have hm : (t ++ u).length % 64 = t.length % 64 + u.length := by omega
  have hp := h.pl
  refine ⟨?_, h.lay_len u (by omega), ?_⟩
  · rw [hd, stateN_app _ _ _ (by omega)]; exact h.st
  · rw [hd, hm, List.drop_append_of_le_length (by omega), ← h.pt]
    unfold lay
    have e : (part.take (t.length % 64) ++ u).length = t.length % 64 + u.length := by rw [List.length_append, List.length_take]; omega
    rw [List.take_append_of_le_length (by omega), ← e, List.take_length]
theorem MixOf.full {t : List UInt8} {st : List UInt32} {part : List UInt8} (h : MixOf t st part) (u : List UInt8) (hu : t.length % 64 + u.length = 64) : MixOf (t ++ u) (compress st (lay part (t.length % 64) u)) (lay part (t.length % 64) u) := by
  have hl : (t ++ u).length = t.length + u.length := List.length_append
  have hd : (t ++ u).length / 64 = t.length / 64 + 1 := by omega
  have hm : (t ++ u).length % 64 = 0 := by omega
  have hp := h.pl
  refine ⟨?_, h.lay_len u (by omega), ?_⟩
  · rw [hd, stateN, stateN_app _ _ _ (by omega), ← h.st]
    congr 1
    unfold blockAt lay
    have e2 : part.drop (t.length % 64 + u.length) = [] := List.drop_eq_nil_of_le (by omega)
    rw [List.drop_append_of_le_length (by omega), ← h.pt, e2, List.append_nil]
    exact (List.take_of_length_le (by rw [List.length_append, List.length_take]; omega)).symm
  · rw [hm, List.take_zero, hd, List.drop_eq_nil_of_le (by omega)]
/-- What the whole of a text is filled up to. -/
theorem MixOf.sha {t : List UInt8} {st : List UInt32} {part : List UInt8} (h : MixOf (pad t) st part) : outN st 8 = sha t := by
  unfold Sha.sha
  rw [h.st]
end Go.Proofs.YtajndpddlpnbkaaGreatDoor.VL.Sha
/- HMAC, HKDF and PBKDF2 as plain functions. -/
namespace Go.Proofs.YtajndpddlpnbkaaGreatDoor.VL.Sha
def hkey (k : List UInt8) : List UInt8 := if 64 < k.length then sha k else k
theorem hkey_len (k : List UInt8) : (hkey k).length ≤ 64 := by
  unfold hkey; split
  · rw [sha_len]; decide
  · omega
def pk (l : List UInt8) (c : UInt8) (i : Nat) : List UInt8 := (List.range i).map fun j => l.getD j 0 ^^^ c
theorem pk_len (l : List UInt8) (c : UInt8) (i : Nat) : (pk l c i).length = i := by simp [pk]
theorem pk_snoc (l : List UInt8) (c : UInt8) (i : Nat) : pk l c (i + 1) = pk l c i ++ [l.getD i 0 ^^^ c] := by simp [pk, List.range_succ]
theorem pk_zeros (l : List UInt8) (c : UInt8) (m i : Nat) : pk (l ++ List.replicate m 0) c i = pk l c i := by
  unfold pk
  apply List.map_congr_left
  intro j _
  congr 1
  rw [List.getD_eq_getElem?_getD, List.getD_eq_getElem?_getD]
  rcases Nat.lt_or_ge j l.length with h | h
  · rw [List.getElem?_append_left h]
  · rw [List.getElem?_append_right h, List.getElem?_eq_none h, List.getElem?_replicate]
    split <;> rfl
def mac (k s : List UInt8) : List UInt8 := sha (pk (hkey k) 0x5c 64 ++ sha (pk (hkey k) 0x36 64 ++ s))
theorem mac_len (k s : List UInt8) : (mac k s).length = 32 := sha_len _
def expand (k info : List UInt8) : List UInt8 := mac k (info ++ [1])
def uN (p s : List UInt8) : Nat → List UInt8
  | 0 => mac p (s ++ [0, 0, 0, 1])
  | j + 1 => mac p (uN p s j)
theorem uN_len (p s : List UInt8) (j : Nat) : (uN p s j).length = 32 := by cases j <;> exact mac_len _ _
def xorL (a b : List UInt8) (i : Nat) : List UInt8 := (List.range i).map fun j => a.getD j 0 ^^^ b.getD j 0
theorem xorL_len (a b : List UInt8) (i : Nat) : (xorL a b i).length = i := by simp [xorL]
theorem xorL_snoc (a b : List UInt8) (i : Nat) : xorL a b (i + 1) = xorL a b i ++ [a.getD i 0 ^^^ b.getD i 0] := by simp [xorL, List.range_succ]
def tN (p s : List UInt8) : Nat → List UInt8
  | 0 => uN p s 0
  | j + 1 => xorL (tN p s j) (uN p s (j + 1)) 32
theorem tN_len (p s : List UInt8) (j : Nat) : (tN p s j).length = 32 := by
  cases j with
  | zero => exact uN_len _ _ _
  | succ j => exact xorL_len _ _ _
def bl (l : List UInt8) : ByteArray := ⟨l.toArray⟩
theorem bl_list (l : List UInt8) : (bl l).data.toList = l := rfl
theorem bl_size (l : List UInt8) : (bl l).size = l.length := by show l.toArray.size = _; simp
theorem app_list (a b : ByteArray) : (a ++ b).data.toList = a.data.toList ++ b.data.toList := by rw [ByteArray.data_append, Array.toList_append]
def macB (k s : ByteArray) : ByteArray := bl (mac k.data.toList s.data.toList)
def expandB (k info : ByteArray) : ByteArray := bl (expand k.data.toList info.data.toList)
def stretchB (p s : ByteArray) (rounds : Nat) : ByteArray := bl (tN p.data.toList s.data.toList (rounds - 1))
theorem macB_size (k s : ByteArray) : (macB k s).size = 32 := by unfold macB; rw [bl_size, mac_len]
theorem expandB_size (k s : ByteArray) : (expandB k s).size = 32 := by unfold expandB; rw [bl_size]; exact mac_len _ _
theorem stretchB_size (k s : ByteArray) (r : Nat) : (stretchB k s r).size = 32 := by unfold stretchB; rw [bl_size, tN_len]
theorem bytes_ext {x y : ByteArray} (h : x.data.toList = y.data.toList) : x = y := by cases x; cases y; congr; exact Array.toList_inj.1 h
end Go.Proofs.YtajndpddlpnbkaaGreatDoor.VL.Sha
