/- box.framed in plain lists: both texts padded, and their sizes. -/
import Derived.Test.YtajndpddlpnbkaaFx1
import Derived.Test.YtajndpddlpnbkaaHBytes
namespace Go.Proofs.Ytajndpddlpnbkaa.B
open Go.RowKit Go.Proofs.YtajndpddlpnbkaaW.PrintWords Go.Proofs.Ytajndpddlpnbkaa.Spec
/-- The bytes of a size, from byte i on. -/
def sizeB (n : Nat) : Nat → Nat → List Int
  | 0, _ => []
  | c + 1, i => (((n / 2 ^ (8 * i) % 256 : Nat) : Int)) :: sizeB n c (i + 1)
theorem sizeB_length (n c i : Nat) : (sizeB n c i).length = c := by
  induction c generalizing i with
  | zero => rfl
  | succ c ih => simp [sizeB, ih]
theorem framed_l1 (c : Nat) : ∀ (k i : Nat) (x5 : List Int) (n : Nat) (x33 : List Int) (x34 x35 : Int), i + c = 8 → x5.length + c < 140737488355328 →
    F.box_framed.l1 (k + c + 1) x5 (n : Int) x33 x34 x35 (i : Int) = F.box_framed.l0 k (x5 ++ sizeB n c i) x33 x34 (wrap64 (x35 + 1)) := by
  induction c with
  | zero =>
    intro k i x5 n x33 x34 x35 hi hl
    unfold F.box_framed.l1
    rw [if_neg (by omega), sizeB, List.append_nil]
  | succ c ih =>
    intro k i x5 n x33 x34 x35 hi hl
    have h8 : wrap64 (8 * (i : Int)) = ((8 * i : Nat) : Int) := by unfold wrap64; omega
    have h1 : wrap64 ((i : Int) + 1) = ((i + 1 : Nat) : Int) := by unfold wrap64; omega
    rw [show k + (c + 1) + 1 = (k + c + 1) + 1 from by omega, F.box_framed.l1, if_pos (by omega), h8, if_pos (by omega), if_pos (by omega), h1]
    have hs : shr .i64 (n : Int) ((8 * i : Nat) : Int) % 256 = ((n / 2 ^ (8 * i) % 256 : Nat) : Int) := by
      unfold shr
      rw [Int.toNat_natCast, Nat.min_eq_left (by show 8 * i ≤ 64; omega)]
      rw [show ((2 : Int) ^ (8 * i)) = ((2 ^ (8 * i) : Nat) : Int) from by simp]
      rw [← Int.natCast_ediv]
      omega
    rw [hs, ih k (i + 1) _ n x33 x34 x35 (by omega) (by rw [List.length_append, List.length_singleton]; omega), List.append_assoc]
    rfl
theorem framed_plain (a s : ByteArray) (h : a.size + s.size ≤ 140737488351232) : F.box_framed.f 30 a s =
    some (strOfNums (((((bytesOf a ++ List.replicate ((16 - a.size % 16) % 16) 0) ++ bytesOf s) ++ List.replicate ((16 - s.size % 16) % 16) 0) ++ sizeB a.size 8 0) ++ sizeB s.size 8 0)) := by
  have ea : ((16 - ((a.size : Int) % 16)) % 16) = (((16 - a.size % 16) % 16 : Nat) : Int) := by omega
  have es : ((16 - ((s.size : Int) % 16)) % 16) = (((16 - s.size % 16) % 16 : Nat) : Int) := by omega
  unfold F.box_framed.f
  simp only [Option.bind_some, List.nil_append, List.length_nil, ea, es, Int.toNat_natCast]
  generalize hp : (16 - a.size % 16) % 16 = p
  generalize hq : (16 - s.size % 16) % 16 = q
  have hp16 : p < 16 := by omega
  have hq16 : q < 16 := by omega
  rw [if_pos (by omega), if_pos (by omega), if_pos (by rw [bytesOf_length]; omega),
    if_pos (by simp only [List.length_append, bytesOf_length, List.length_replicate]; omega), if_pos (by omega),
    if_pos (by simp only [List.length_append, bytesOf_length, List.length_replicate]; omega)]
  generalize hx : bytesOf a ++ List.replicate p 0 ++ bytesOf s ++ List.replicate q 0 = x
  have hxl : x.length ≤ 140737488351300 := by rw [← hx]; simp only [List.length_append, bytesOf_length, List.length_replicate]; omega
  rw [show (30 : Nat) = (20 + 8 + 1) + 1 from rfl, F.box_framed.l0, if_pos (by simp), if_pos (by omega), if_pos (by simp)]
  have r0 : rd [(a.size : Int), (s.size : Int)] 0 = (a.size : Int) := rfl
  have r1 : rd [(a.size : Int), (s.size : Int)] 1 = (s.size : Int) := rfl
  have w1 : wrap64 (0 + 1) = 1 := by unfold wrap64; omega
  have w2 : wrap64 (1 + 1) = 2 := by unfold wrap64; omega
  rw [r0, show (0 : Int) = ((0 : Nat) : Int) from rfl, framed_l1 8 20 0 x a.size _ _ _ rfl (by omega)]
  rw [show ((0 : Nat) : Int) = 0 from rfl, w1, show (20 : Nat) = (10 + 8 + 1) + 1 from rfl, F.box_framed.l0, if_pos (by simp), if_pos (by omega), if_pos (by simp)]
  rw [r1, show (0 : Int) = ((0 : Nat) : Int) from rfl, framed_l1 8 10 0 _ s.size _ _ _ rfl (by rw [List.length_append, sizeB_length]; omega)]
  rw [w2, show (10 : Nat) = 9 + 1 from rfl, F.box_framed.l0, if_neg (by simp)]
theorem leB_nums (n : Nat) : ∀ c i, (sizeB n c i).map (fun n => UInt8.ofNat n.toNat) = leB (n / 256 ^ i) c := by
  intro c
  induction c with
  | zero => intro i; rfl
  | succ c ih =>
    intro i
    have h2 : (2 : Nat) ^ (8 * i) = 256 ^ i := by rw [Nat.pow_mul]
    rw [sizeB, List.map_cons, ih, leB, Int.toNat_natCast, h2, Nat.pow_succ, Nat.div_div_eq_div_mul]
theorem bytesOf_back (s : ByteArray) : (bytesOf s).map (fun n => UInt8.ofNat n.toNat) = s.data.toList := by
  rw [bytesOf, List.map_map]
  conv => rhs; rw [← List.map_id s.data.toList]
  apply List.map_congr_left
  intro b _
  show UInt8.ofNat ((b.toNat : Int).toNat) = b
  rw [Int.toNat_natCast]
  exact UInt8.ofNat_toNat
theorem framed_spec (a s : ByteArray) (h : a.size + s.size ≤ 140737488351232) : F.box_framed.f 30 a s = some (Spec.framed a s) := by
  rw [framed_plain a s h, strOfNums, Spec.framed]
  simp only [List.map_append, leB_nums, bytesOf_back, List.map_replicate, Int.toNat_zero, Nat.pow_zero, Nat.div_one, zeros]
  rfl
theorem leB_length (n c : Nat) : (leB n c).length = c := by
  induction c generalizing n with
  | zero => rfl
  | succ c ih => simp [leB, ih]
theorem framed_size (a s : ByteArray) : (Spec.framed a s).size ≤ a.size + s.size + 46 := by
  have : (Spec.framed a s).size = (Spec.framed a s).data.toList.length := (data_length _).symm
  rw [this, Spec.framed]
  simp only [List.length_append, data_length, zeros, List.length_replicate, leB_length]
  omega
end Go.Proofs.Ytajndpddlpnbkaa.B
