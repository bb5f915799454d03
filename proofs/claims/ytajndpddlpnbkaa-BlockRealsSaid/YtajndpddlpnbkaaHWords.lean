/- Words for arrays of whole numbers that lie in a block of their own. -/
import Derived.Test.YtajndpddlpnbkaaBx0
import Derived.Handy
import Derived.Lib.Hide
import Derived.StillTailTactics
import Derived.Laws.BitsAllLaws
import Derived.Deep.RegionWith
import Derived.Deep.DrawnRows
namespace Go.Proofs.Ytajndpddlpnbkaa.B
open Go.RowKit Go.Proofs.YtajndpddlpnbkaaW.PrintWords
def Blk (w : World) (g : Nat) (t : TypeId) (cs : Array Value) : Prop := w.heap[g]? = some (.cells cs t (0, 0))
section
variable {w w' : World} {g : Nat} {t : TypeId} {cs : Array Value}
theorem Blk.lt (h : Blk w g t cs) : g < w.heap.size := by
  rcases Nat.lt_or_ge g w.heap.size with hlt | hge
  · exact hlt
  · unfold Blk at h; rw [Array.getElem?_eq_none hge] at h; cases h
theorem Blk.cell (h : Blk w g t cs) (i : Nat) : w.cell? ⟨g, i, none⟩ = cs[i]? := cell_of_row w g i cs t (0, 0) h
theorem Blk.frozen (h : Blk w g t cs) (i : Nat) : w.frozen? ⟨g, i, none⟩ = false := frozen_of_row w g i cs t h
theorem Blk.new (w : World) (t : TypeId) (cs : Array Value) : Blk (w.alloc (.cells cs t)) w.heap.size t cs := heap_alloc_new w _
theorem Blk.at_new {w : World} {g : Nat} {t : TypeId} {cs : Array Value} (hg : g = w.heap.size) : Blk (w.alloc (.cells cs t)) g t cs := by subst hg; exact Blk.new w t _
theorem Blk.lit {cs' : Array Value} (h : Blk w g t cs) (e : cs = cs') : Blk w g t cs' := e ▸ h
theorem Blk.drew (h : Blk w g t cs) : Blk w.drew g t cs := h
theorem Blk.drewN (h : Blk w g t cs) (n : Nat) : Blk (w.drewN n) g t cs := h
theorem Blk.alloc (h : Blk w g t cs) (o : Obj) : Blk (w.alloc o) g t cs := (Below.heap_alloc w o g h.lt).trans h
theorem Blk.set_ (h : Blk w g t cs) (i : Nat) (u : Value) : Blk (w.setCell ⟨g, i, none⟩ u) g t (cs.setIfInBounds i u) := heap_setCell_same w g i cs t u h
theorem Blk.far (h : Blk w g t cs) {p : Addr} (hp : g ≠ p.block) (u : Value) : Blk (w.setCell p u) g t cs := (heap_setCell_other w p g u hp).trans h
theorem Blk.below {B : Nat} (h : Blk w g t cs) (hb : Below B w w') (hg : g < B) : Blk w' g t cs := (hb.block g hg).trans h
theorem Blk.grown {row : Option Nat} (h : Blk w g t cs) (hb : w.grownBy w' row) (hg : some g ≠ row) : Blk w' g t cs := (hb.block g h.lt hg).trans h
end
theorem set5 {cs : Array Value} (h : cs.size = 5) (a b c d e : Value) : ((((cs.setIfInBounds 0 a).setIfInBounds 1 b).setIfInBounds 2 c).setIfInBounds 3 d).setIfInBounds 4 e = #[a, b, c, d, e] := by
  obtain ⟨l⟩ := cs
  match l, h with
  | [_, _, _, _, _], _ => simp
/-- Element i. -/
def el (xs : List Int) (i : Nat) : Int := xs.getD i 0
theorem el_set_same (xs : List Int) (i : Nat) (v : Int) (h : i < xs.length) : el (xs.set i v) i = v := by simp [el, h]
theorem el_set_other (xs : List Int) (i j : Nat) (v : Int) (h : i ≠ j) : el (xs.set i v) j = el xs j := by simp [el, h]
/-- Block g is the array xs, of elements of kind k. -/
def Arr (w : World) (g : Nat) (t : TypeId) (k : IntKind) (xs : List Int) : Prop := Blk w g t (nums k xs).toArray
section
variable {w w' : World} {g : Nat} {t : TypeId} {k : IntKind} {xs : List Int}
theorem Arr.lt (h : Arr w g t k xs) : g < w.heap.size := Blk.lt h
theorem Arr.at_ (h : Arr w g t k xs) (i : Nat) (hi : i < xs.length) : w.cell? ⟨g, i, none⟩ = some (.int k (el xs i)) := by
  rw [Blk.cell h i]
  simp [el, nums, List.getElem?_eq_getElem hi, List.getD_eq_getElem?_getD]
theorem Arr.free (h : Arr w g t k xs) (i : Nat) : w.frozen? ⟨g, i, none⟩ = false := Blk.frozen h i
theorem Arr.store (h : Arr w g t k xs) (i : Nat) (v : Int) : Arr (w.setCell ⟨g, i, none⟩ (.int k v)) g t k (xs.set i v) := by
  have h1 := Blk.set_ h i (.int k v)
  unfold Arr
  rw [show (nums k (xs.set i v)).toArray = (nums k xs).toArray.setIfInBounds i (.int k v) from by simp [nums, List.map_set]]
  exact h1
theorem Arr.new (w : World) (t : TypeId) (k : IntKind) (xs : List Int) : Arr (w.alloc (.cells (nums k xs).toArray t)) w.heap.size t k xs := Blk.new w t _
theorem Arr.at_new {w : World} {g : Nat} {t : TypeId} {k : IntKind} {xs : List Int} {cs : Array Value} (hg : g = w.heap.size) (h : cs = (nums k xs).toArray) : Arr (w.alloc (.cells cs t)) g t k xs := by subst h; subst hg; exact Blk.new w t _
theorem Arr.alloc (h : Arr w g t k xs) (o : Obj) : Arr (w.alloc o) g t k xs := Blk.alloc h o
theorem Arr.drew (h : Arr w g t k xs) : Arr w.drew g t k xs := h
theorem Arr.drewN (h : Arr w g t k xs) (n : Nat) : Arr (w.drewN n) g t k xs := h
theorem Arr.far (h : Arr w g t k xs) {p : Addr} (hp : g ≠ p.block) (u : Value) : Arr (w.setCell p u) g t k xs := Blk.far h hp u
theorem Arr.below {B : Nat} (h : Arr w g t k xs) (hb : Below B w w') (hg : g < B) : Arr w' g t k xs := Blk.below h hb hg
theorem Arr.grown {row : Option Nat} (h : Arr w g t k xs) (hb : w.grownBy w' row) (hg : some g ≠ row) : Arr w' g t k xs := Blk.grown h hb hg
end
theorem infoU8 : (Try.prog.info? 5).map (fun i => (i.zero, i.size, i.bytes)) = some (some (.int .u8 0), 1, 1) := by kernel_rfl
theorem below_drewN {B : Nat} {a w : World} (h : Below B a w) (n : Nat) : Below B a (w.drewN n) := ⟨h.os, h.tape, h.output, h.size, h.block⟩
end Go.Proofs.Ytajndpddlpnbkaa.B
