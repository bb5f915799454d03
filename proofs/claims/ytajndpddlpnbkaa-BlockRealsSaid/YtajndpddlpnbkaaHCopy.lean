/- copy(dst, s) out of a string, as much as fits, into an array that lies in a block of its own. -/
import Derived.Test.YtajndpddlpnbkaaHWords
import Derived.Test.YtajndpddlpnbkaaSpec
import Derived.Laws.CopyRow
import Derived.Lib.BufferWrite
import Derived.Lib.SlBuf
namespace Go.Proofs.Ytajndpddlpnbkaa.B
open Go.RowKit Go.Proofs.YtajndpddlpnbkaaW.PrintWords Go.Proofs.Ytajndpddlpnbkaa.Spec
def cast (ns : List Nat) : List Int := ns.map Int.ofNat
theorem cast_length (ns : List Nat) : (cast ns).length = ns.length := by simp [cast]
theorem el_cast (ns : List Nat) (i : Nat) : el (cast ns) i = (ns.getD i 0 : Nat) := by
  simp only [el, cast, List.getD_eq_getElem?_getD, List.getElem?_map]
  cases ns[i]? <;> simp
theorem nats_length (s : ByteArray) : (nats s).length = s.size := by rw [nats, List.length_map, data_length]
theorem nats_lt (s : ByteArray) : ∀ b ∈ nats s, b < 256 := by
  intro b hb
  simp only [nats, List.mem_map] at hb
  obtain ⟨x, _, rfl⟩ := hb
  exact x.toNat_lt
theorem byteCells_nums (l : List UInt8) : Lib.byteCells l = nums .u8 (cast (l.map UInt8.toNat)) := by
  simp [Lib.byteCells, nums, cast]
theorem run_copy_cut {P : Program} (w : World) (dT sT ty elem : TypeId) (g dLen dCap n : Nat) (s : ByteArray) (cur : Array Value) (t : TypeId)
    (hu : P.underlying dT = some (.slice elem)) (hs : (P.info? elem).map (·.size) = some 1) (hg : w.heap[g]? = some (.cells cur t (0, 0))) (hn : n = Nat.min s.size dLen) (hfit : n ≤ cur.size) :
    (Builtin.copy_ #[dT, sT] ty #[.slice (some ⟨g, 0, none⟩) dLen dCap, .string s]).run P w =
      .ok (goInt n) (w.setRow g (Lib.byteCells (s.data.toList.take n) ++ cur.toList.drop n).toArray) := by
  have hlen : (Lib.byteCells (s.data.toList.take n)).length = n := by
    rw [Lib.byteCells_length, List.length_take, data_length, hn]
    exact Nat.min_eq_left (Nat.min_le_left _ _)
  have hst := run_storeCells_at P g 0 t (Lib.byteCells (s.data.toList.take n)) 0 cur w hg (by rw [hlen]; simpa using hfit) (Lib.byteCells_one _)
  have htk : List.take n (List.map (fun b : UInt8 => Value.int IntKind.u8 (b.toNat : Int)) s.data.toList) = Lib.byteCells (s.data.toList.take n) := by
    rw [← List.map_take]
    rfl
  rw [hlen] at hst
  simp only [Nat.add_zero, List.take_zero, List.nil_append, Nat.zero_add] at hst
  cases hq : P.info? elem with
  | none => simp [hq] at hs
  | some i =>
    subst hn
    simp [Builtin.copy_, run_underlying hu, Builtin.lenOf, Builtin.firstCells, sizeOf, typeInfo, hq]
    rw [htk, hst]
    simp [Result.andThen]
theorem arr_copy {P : Program} {w : World} {g : Nat} {t : TypeId} {xs : List Int} (h : Arr w g t .u8 xs) (dT sT ty elem : TypeId) (dLen dCap n : Nat) (s : ByteArray)
    (hu : P.underlying dT = some (.slice elem)) (hs : (P.info? elem).map (·.size) = some 1) (hn : n = Nat.min s.size dLen) (hfit : n ≤ xs.length) :
    ∃ w1, (Builtin.copy_ #[dT, sT] ty #[.slice (some ⟨g, 0, none⟩) dLen dCap, .string s]).run P w = .ok (.int .i64 n) w1 ∧ Arr w1 g t .u8 (cast ((nats s).take n) ++ xs.drop n) ∧ w.grownBy w1 (some g) ∧ w1.heap.size = w.heap.size := by
  have hr := run_copy_cut w dT sT ty elem g dLen dCap n s (nums .u8 xs).toArray t hu hs h hn (by simpa [nums] using hfit)
  refine ⟨_, hr, ?_, ⟨rfl, rfl, rfl, ?_, ?_⟩, ?_⟩
  · unfold Arr Blk
    have e : (nums .u8 (cast ((nats s).take n) ++ xs.drop n)).toArray = (Lib.byteCells (s.data.toList.take n) ++ (nums .u8 xs).toArray.toList.drop n).toArray := by
      rw [nums_append, byteCells_nums]
      simp [nums, nats, List.map_take, List.map_drop]
    rw [e]
    exact setRow_heap w g _ _ t _ h
  · simp [World.setRow]
  · intro i _ hne
    exact setRow_other w g i _ (fun e => hne (by rw [e]))
  · simp [World.setRow]
end Go.Proofs.Ytajndpddlpnbkaa.B
