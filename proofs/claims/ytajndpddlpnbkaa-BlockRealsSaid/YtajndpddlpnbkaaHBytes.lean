/- []byte(s): the block that it lies in, read and written; back to a string. -/
import Derived.Test.YtajndpddlpnbkaaHCopy
import Derived.Lib.ConvBytes
namespace Go.Proofs.Ytajndpddlpnbkaa.B
open Go.RowKit Go.Proofs.YtajndpddlpnbkaaW.PrintWords Go.Proofs.Ytajndpddlpnbkaa.Spec
/-- Block g begins with the bytes xs; it bears a conversion's mark. -/
def Bts (w : World) (g : Nat) (e : TypeId) (xs : List Int) : Prop :=
  ∃ cs : Array Value, w.heap[g]? = some (.cells cs e (cs.size, cs.size + 1)) ∧ xs.length ≤ cs.size ∧ ∀ i, i < xs.length → cs[i]? = some (.int .u8 (el xs i))
section
variable {w w' : World} {g : Nat} {e : TypeId} {xs : List Int}
theorem Bts.lt (h : Bts w g e xs) : g < w.heap.size := by
  obtain ⟨cs, h, _⟩ := h
  exact (Array.getElem?_eq_some_iff.1 h).1
theorem Bts.at_ (h : Bts w g e xs) (i : Nat) (hi : i < xs.length) : w.cell? ⟨g, i, none⟩ = some (.int .u8 (el xs i)) := by
  obtain ⟨cs, h, _, hc⟩ := h
  simp [World.cell?, h, hc i hi]
theorem Bts.free (h : Bts w g e xs) (i : Nat) (hi : i < xs.length) : w.frozen? ⟨g, i, none⟩ = false := by
  obtain ⟨cs, h, hl, _⟩ := h
  simp [World.frozen?, h]
  omega
theorem Bts.same (h : Bts w g e xs) (hs : w'.heap[g]? = w.heap[g]?) : Bts w' g e xs := by
  obtain ⟨cs, h, hl, hc⟩ := h
  exact ⟨cs, hs.trans h, hl, hc⟩
theorem Bts.drew (h : Bts w g e xs) : Bts w.drew g e xs := h
theorem Bts.drewN (h : Bts w g e xs) (n : Nat) : Bts (w.drewN n) g e xs := h
theorem Bts.alloc (h : Bts w g e xs) (o : Obj) : Bts (w.alloc o) g e xs := h.same (Below.heap_alloc w o g h.lt)
theorem Bts.far (h : Bts w g e xs) {p : Addr} (hp : g ≠ p.block) (u : Value) : Bts (w.setCell p u) g e xs := h.same (heap_setCell_other w p g u hp)
theorem Bts.below {B : Nat} (h : Bts w g e xs) (hb : Below B w w') (hg : g < B) : Bts w' g e xs := h.same (hb.block g hg)
theorem Bts.grown {row : Option Nat} (h : Bts w g e xs) (hb : w.grownBy w' row) (hg : some g ≠ row) : Bts w' g e xs := h.same (hb.block g h.lt hg)
theorem Bts.store (h : Bts w g e xs) (i : Nat) (v : Int) : Bts (w.setCell ⟨g, i, none⟩ (.int .u8 v)) g e (xs.set i v) := by
  obtain ⟨cs, h, hl, hc⟩ := h
  refine ⟨cs.setIfInBounds i (.int .u8 v), ?_, by simpa using hl, fun j hj => ?_⟩
  · simp [World.setCell, Array.getElem?_modify, h]
  · have hj' : j < xs.length := by simpa using hj
    by_cases hij : i = j
    · subst hij
      rw [el_set_same _ _ _ hj']
      simp [show i < cs.size from by omega]
    · rw [el_set_other _ _ _ _ hij, Array.getElem?_setIfInBounds_ne hij]
      exact hc j hj'
theorem Bts.new (w : World) (e : TypeId) (s : ByteArray) : Bts (Lib.bytesWorld w e s) w.heap.size e (cast (nats s)) := by
  refine ⟨_, Lib.bytesWorld_at_new w e s, ?_, fun i hi => ?_⟩
  · rw [cast_length, nats_length]
    simp [Lib.bytesCells]
  · rw [cast_length, nats_length] at hi
    have h1 := Lib.bytesWorld_cell w e s i hi
    simp only [World.cell?, Lib.bytesWorld_at_new] at h1
    have h2 : (Lib.bytesCells w e s)[i]? = some (.int .u8 (s.data.toList.getD i 0).toNat) := by simpa using h1
    rw [h2, el_cast]
    have h' : i < s.data.toList.length := by rw [data_length]; exact hi
    simp [nats, List.getD_eq_getElem?_getD, List.getElem?_eq_getElem h']
theorem Bts.string {P : Program} (h : Bts w g e xs) {src dst : TypeId} (hs : P.underlying src = some (.slice e)) (he : P.underlying e = some (.int .u8)) (hd : P.underlying dst = some .string) (n cap : Nat) (hn : xs.length = n) :
    (convert src dst (.slice (some ⟨g, 0, none⟩) n cap)).run P w = .ok (.string (strOfNums xs)) w := by
  refine run_convert_bytes_arg w src e hs he g 0 n cap xs hn (fun i hi => ?_) dst hd
  rw [Nat.zero_add]
  exact h.at_ i (by omega)
end
theorem bytesWorld_below {B : Nat} {w0 w : World} (h : Below B w0 w) (hB : B ≤ w.heap.size) (e : TypeId) (s : ByteArray) : Below B w0 (Lib.bytesWorld w e s) := bytes_below h hB e s
theorem byteAt_lt (s : ByteArray) (i : Nat) : byteAt s i < 256 := by
  unfold byteAt at_
  rw [List.getD_eq_getElem?_getD]
  cases h : (nats s)[i]? with
  | none => simp
  | some b => exact nats_lt s b (List.mem_of_getElem? h)
theorem nat_at (s : ByteArray) (n : Nat) (h : n < s.size) : ((s[n]'h).toNat : Int) = (byteAt s n : Int) := by
  have h' : n < s.data.toList.length := by rw [data_length]; exact h
  unfold byteAt at_ nats
  rw [List.getD_eq_getElem?_getD, List.getElem?_map, List.getElem?_eq_getElem h']
  rfl
theorem strOfNums_cast (l : List Nat) : strOfNums (cast l) = ⟨(l.map UInt8.ofNat).toArray⟩ := by
  simp [strOfNums, cast]
end Go.Proofs.Ytajndpddlpnbkaa.B
