/- box.word, box.block: a block of ChaCha20. -/
import Derived.Test.YtajndpddlpnbkaaHQuarter
import Derived.Laws.CopyOwn
namespace Go.Proofs.Ytajndpddlpnbkaa.B
open Go.RowKit Go.Proofs.YtajndpddlpnbkaaW.PrintWords Go.Proofs.Ytajndpddlpnbkaa.Spec
theorem or_mul_ (a b i m : Nat) (hm : m = 2 ^ i) (h : a < m) : a ||| (b * m) = b * m + a := by
  subst hm
  rw [Nat.or_comm, ← Nat.shiftLeft_eq, Nat.shiftLeft_add_eq_or_of_lt h]
theorem word_bits (a b c d : Nat) (ha : a < 256) (hb : b < 256) (hc : c < 256) (hd : d < 256) :
    bits .or .u32 (bits .or .u32 (bits .or .u32 (a : Int) ((b : Int) * 256)) ((c : Int) * 65536)) ((d : Int) * 16777216) = ((a + 256 * b + 65536 * c + 16777216 * d : Nat) : Int) := by
  have e2 : ((b : Int) * 256) = ((b * 256 : Nat) : Int) := by omega
  have e1 : ((c : Int) * 65536) = ((c * 65536 : Nat) : Int) := by omega
  have e0 : ((d : Int) * 16777216) = ((d * 16777216 : Nat) : Int) := by omega
  rw [e2, e1, e0, u32_or_nat a (b * 256) (by omega) (by omega), or_mul_ a b 8 256 (by decide) (by omega), u32_or_nat _ (c * 65536) (by omega) (by omega), or_mul_ _ c 16 65536 (by decide) (by omega), u32_or_nat _ (d * 16777216) (by omega) (by omega), or_mul_ _ d 24 16777216 (by decide) (by omega)]
  omega
theorem word_lt (s : ByteArray) (i : Nat) : Spec.word (nats s) i < M32 := by
  have h0 := byteAt_lt s i
  have h1 := byteAt_lt s (i + 1)
  have h2 := byteAt_lt s (i + 2)
  have h3 := byteAt_lt s (i + 3)
  unfold byteAt at h0 h1 h2 h3
  unfold Spec.word M32
  omega
theorem bt_byteAt (s : ByteArray) (i : Nat) (h : i < s.size) : ∀ h : ((i : Int)).toNat < s.size, ((s[((i : Int)).toNat]'h).toNat : Int) = (byteAt s i : Int) := fun _ => nat_at s i h
theorem bt_byteAt_of (s : ByteArray) (i : Nat) (j : Int) (hj : j = (i : Int)) (h : i < s.size) : ∀ h : j.toNat < s.size, ((s[j.toNat]'h).toNat : Int) = (byteAt s i : Int) := by subst hj; exact bt_byteAt s i h
set_option maxHeartbeats 1000000 in
theorem word_any (s : ByteArray) (i : Nat) (w : World) (hs : i + 3 < s.size) (hi : i < 1000) :
    Calls Try.prog 94 #[.string s, .int .i64 (i : Int)] w fun e w' => e = .returned (.int .u32 (Spec.word (nats s) i : Nat)) ∧ ∃ m, w' = w.drewN m := by
  obtain ⟨j0, hj0⟩ : ∃ j : Int, (i : Int) = j := ⟨_, rfl⟩
  rw [hj0]
  obtain ⟨j1, hj1⟩ : ∃ j : Int, j0 + 1 = j := ⟨_, rfl⟩
  obtain ⟨j2, hj2⟩ : ∃ j : Int, j0 + 2 = j := ⟨_, rfl⟩
  obtain ⟨j3, hj3⟩ : ∃ j : Int, j0 + 3 = j := ⟨_, rfl⟩
  have w1 : IntKind.i64.wrap (j0 + 1) = j1 := by rw [IntKind.wrap_i64]; omega
  have w2 : IntKind.i64.wrap (j0 + 2) = j2 := by rw [IntKind.wrap_i64]; omega
  have w3 : IntKind.i64.wrap (j0 + 3) = j3 := by rw [IntKind.wrap_i64]; omega
  have e0 := bt_byteAt_of s i j0 (by omega) (by omega)
  have e1 := bt_byteAt_of s (i + 1) j1 (by omega) (by omega)
  have e2 := bt_byteAt_of s (i + 2) j2 (by omega) (by omega)
  have e3 := bt_byteAt_of s (i + 3) j3 (by omega) (by omega)
  have l0 := byteAt_lt s i
  have l1 := byteAt_lt s (i + 1)
  have l2 := byteAt_lt s (i + 2)
  have l3 := byteAt_lt s (i + 3)
  have hw : Spec.word (nats s) i = byteAt s i + 256 * byteAt s (i + 1) + 65536 * byteAt s (i + 2) + 16777216 * byteAt s (i + 3) := rfl
  have hb := word_bits _ _ _ _ l0 l1 l2 l3
  rw [← hw] at hb
  generalize byteAt s i = b0 at *
  generalize byteAt s (i + 1) = b1 at *
  generalize byteAt s (i + 2) = b2 at *
  generalize byteAt s (i + 3) = b3 at *
  have HW := Aside0.mk hb
  clear hw hb
  have p0 : (0 ≤ j0) = True := eq_true (by omega)
  have p1 : (0 ≤ j1) = True := eq_true (by omega)
  have p2 : (0 ≤ j2) = True := eq_true (by omega)
  have p3 : (0 ≤ j3) = True := eq_true (by omega)
  have q0 : (j0 < (s.size : Int)) = True := eq_true (by omega)
  have q1 : (j1 < (s.size : Int)) = True := eq_true (by omega)
  have q2 : (j2 < (s.size : Int)) = True := eq_true (by omega)
  have q3 : (j3 < (s.size : Int)) = True := eq_true (by omega)
  clear hj0 hj1 hj2 hj3 hs hi
  go_enter Try.func94, Try.ntmps94
  go_wp2
  repeat (go_quiet (fail); try go_wp2)
  go_ret
  exact ⟨congrArg (fun z => Ending.returned (.int .u32 z)) HW.out, _, rfl⟩
def sA (key : ByteArray) : Nat → List Nat
  | 0 => [0x61707865, 0x3320646e, 0x79622d32, 0x6b206574, 0, 0, 0, 0, 0, 0, 0, 0, 0, 0, 0, 0]
  | i + 1 => (sA key i).set (4 + i) (Spec.word (nats key) (4 * i))
def sB (key nonce : ByteArray) (n : Nat) : Nat → List Nat
  | 0 => (sA key 8).set 12 n
  | i + 1 => (sB key nonce n i).set (13 + i) (Spec.word (nats nonce) (4 * i))
theorem sB_state (key nonce : ByteArray) (n : Nat) (hn : n < M32) : sB key nonce n 3 = state key nonce n := by
  unfold state
  rw [Nat.mod_eq_of_lt hn]
  rfl
def qA (x : List Nat) : Nat → List Nat
  | 0 => x
  | i + 1 => qr (qA x i) i (4 + i) (8 + i) (12 + i)
def qB (x : List Nat) : Nat → List Nat
  | 0 => x
  | i + 1 => qr (qB x i) i (4 + (i + 1) % 4) (8 + (i + 2) % 4) (12 + (i + 3) % 4)
theorem dround_eq (x : List Nat) : qB (qA x 4) 4 = dround x := rfl
theorem rounds_snoc (k : Nat) : ∀ x, Spec.rounds (k + 1) x = dround (Spec.rounds k x) := by
  induction k with
  | zero => intro x; rfl
  | succ k ih => intro x; rw [Spec.rounds, ih]; rfl
def oA (f : Nat → Nat) : Nat → List Nat
  | 0 => List.replicate 64 0
  | i + 1 => ((((oA f i).set (4 * i) (f i % 256)).set (4 * i + 1) (f i / 256 % 256)).set (4 * i + 2) (f i / 65536 % 256)).set (4 * i + 3) (f i / 16777216 % 256)
theorem oA_all (f : Nat → Nat) : oA f 16 = ((List.range 16).map f).flatMap wordBytes := by kernel_rfl
theorem sA_ok (key : ByteArray) (i : Nat) : (sA key i).length = 16 ∧ ∀ x ∈ sA key i, x < M32 := by
  induction i with
  | zero => exact ⟨rfl, by intro x hx; simp [sA] at hx; unfold M32; omega⟩
  | succ i ih => exact ⟨by simp [sA, ih.1], set_lt ih.2 _ _ (word_lt _ _)⟩
theorem oA_length (f : Nat → Nat) (i : Nat) : (oA f i).length = 64 := by
  induction i with
  | zero => rfl
  | succ i ih => simp [oA, ih]
/-- What lies in memory while the block is made: the result's cells, the first state. -/
structure BS (w wr : World) (ns : List Nat) : Prop where
  res : Blk wr w.heap.size 99 (nums .u8 (List.replicate 64 0)).toArray
  s : Arr wr (w.heap.size + 1) 147 .u32 (cast ns)
  len : ns.length = 16
  lt : ∀ x ∈ ns, x < M32
  below : Below w.heap.size w wr
theorem BS.put {w wr : World} {ns : List Nat} (h : BS w wr ns) (i v : Nat) (hv : v < M32) (m : Nat) : BS w ((wr.drewN m).setCell ⟨w.heap.size + 1, i, none⟩ (.int .u32 (v : Int))) (ns.set i v) := by
  refine ⟨Blk.far (h.res.drewN m) (by dsimp only; omega) _, ?_, by simp [h.len], set_lt h.lt i v hv, (below_drewN h.below m).setCell (by dsimp only; omega) _⟩
  rw [cast_set]; exact (h.s.drewN m).store i _
theorem BS.put0 {w wr : World} {ns : List Nat} (h : BS w wr ns) (i v : Nat) (hv : v < M32) : BS w (wr.setCell ⟨w.heap.size + 1, i, none⟩ (.int .u32 (v : Int))) (ns.set i v) := h.put i v hv 0
/-- .. and the second state, in block G. -/
structure BX (w wr : World) (G : Nat) (ns xs : List Nat) : Prop where
  s : BS w wr ns
  x : Arr wr G 147 .u32 (cast xs)
  len : xs.length = 16
  lt : ∀ x ∈ xs, x < M32
  far : w.heap.size + 1 < G
theorem BS.copied {w wr : World} {ns : List Nat} (h : BS w wr ns) (cs : Array Value) :
    BX w ((wr.alloc (.cells cs 147)).setRow wr.heap.size (nums .u32 (cast ns)).toArray) wr.heap.size ns ns := by
  have hl := h.s.lt
  have ho : ∀ k, k ≠ wr.heap.size → ((wr.alloc (.cells cs 147)).setRow wr.heap.size (nums .u32 (cast ns)).toArray).heap[k]? = (wr.alloc (.cells cs 147)).heap[k]? := fun k hk => setRow_other _ _ _ _ hk
  refine ⟨⟨?_, ?_, h.len, h.lt, ?_⟩, ?_, h.len, h.lt, by omega⟩
  · exact (ho _ (by omega)).trans (h.res.alloc _)
  · exact (ho _ (by omega)).trans (h.s.alloc _)
  · exact below_setRow (h.below.alloc (by omega) _) (by omega) _
  · exact setRow_heap _ _ _ _ _ _ (heap_alloc_new _ _)
theorem BX.turned {w wr w' : World} {G : Nat} {ns xs ys : List Nat} (h : BX w wr G ns xs) (hw : Words wr w' G 147 ys) : BX w w' G ns ys := by
  have hf := h.far
  refine ⟨⟨h.s.res.grown hw.grown (by simp; omega), Blk.grown h.s.s hw.grown (by simp; omega), h.s.len, h.s.lt, h.s.below.grown hw.grown ?_ ?_⟩, hw.arr, hw.len, hw.lt, hf⟩
  · have := h.s.s.lt; omega
  · intro k hk; cases hk; omega
theorem BX.words {w wr : World} {G : Nat} {ns xs : List Nat} (h : BX w wr G ns xs) : Words wr wr G 147 xs := ⟨h.x, h.len, h.lt, ⟨rfl, rfl, rfl, Nat.le_refl _, fun _ _ _ => rfl⟩⟩
/-- .. and the bytes that go out, in block H. -/
structure BO (w wr : World) (G H : Nat) (ns xs os : List Nat) : Prop where
  x : BX w wr G ns xs
  o : Arr wr H 99 .u8 (cast os)
  olen : os.length = 64
  ofar : G < H
theorem BX.out {w wr : World} {G : Nat} {ns xs : List Nat} (h : BX w wr G ns xs) (cs : Array Value) (hc : cs = (nums .u8 (cast (oA (fun _ => 0) 0))).toArray) (f : Nat → Nat) :
    BO w (wr.alloc (.cells cs 99)) G wr.heap.size ns xs (oA f 0) := by
  have hl := h.s.s.lt
  refine ⟨⟨⟨h.s.res.alloc _, Blk.alloc h.s.s _, h.s.len, h.s.lt, h.s.below.alloc (by omega) _⟩, Blk.alloc h.x _, h.len, h.lt, h.far⟩, Arr.at_new rfl hc, rfl, h.x.lt⟩
theorem BO.put {w wr : World} {G H : Nat} {ns xs : List Nat} {f : Nat → Nat} {i : Nat} (h : BO w wr G H ns xs (oA f i)) (u v : Nat) (hz : f i = (u + v) % M32) (m : Nat) :
    BO w (((((wr.drewN m).setCell ⟨H, 4 * i, none⟩ (.int .u8 (((u : Int) + (v : Int)) % 256))).setCell ⟨H, 4 * i + 1, none⟩ (.int .u8 (((u : Int) + (v : Int)) % 4294967296 / 256 % 256))).setCell ⟨H, 4 * i + 2, none⟩ (.int .u8 (((u : Int) + (v : Int)) % 4294967296 / 65536 % 256))).setCell ⟨H, 4 * i + 3, none⟩ (.int .u8 (((u : Int) + (v : Int)) % 4294967296 / 16777216))) G H ns xs (oA f (i + 1)) := by
  have e0 : ((u : Int) + (v : Int)) % 256 = ((f i % 256 : Nat) : Int) := by rw [hz]; unfold M32; omega
  have e1 : ((u : Int) + (v : Int)) % 4294967296 / 256 % 256 = ((f i / 256 % 256 : Nat) : Int) := by rw [hz]; unfold M32; omega
  have e2 : ((u : Int) + (v : Int)) % 4294967296 / 65536 % 256 = ((f i / 65536 % 256 : Nat) : Int) := by rw [hz]; unfold M32; omega
  have e3 : ((u : Int) + (v : Int)) % 4294967296 / 16777216 = ((f i / 16777216 % 256 : Nat) : Int) := by rw [hz]; unfold M32; omega
  rw [e0, e1, e2, e3]
  have hf := h.x.far
  have hg := h.ofar
  refine ⟨⟨⟨?_, ?_, h.x.s.len, h.x.s.lt, ?_⟩, ?_, h.x.len, h.x.lt, hf⟩, ?_, oA_length f (i + 1), hg⟩
  · repeat (refine Blk.far ?_ (by dsimp only; omega) _)
    exact h.x.s.res
  · repeat (refine Blk.far ?_ (by dsimp only; omega) _)
    exact h.x.s.s
  · repeat (refine Below.setCell ?_ (by dsimp only; omega) _)
    exact below_drewN h.x.s.below m
  · repeat (refine Blk.far ?_ (by dsimp only; omega) _)
    exact h.x.x
  · have := ((((h.o.drewN m).store (4 * i) ((f i % 256 : Nat) : Int)).store (4 * i + 1) ((f i / 256 % 256 : Nat) : Int)).store (4 * i + 2) ((f i / 65536 % 256 : Nat) : Int)).store (4 * i + 3) ((f i / 16777216 % 256 : Nat) : Int)
    rw [← cast_set, ← cast_set, ← cast_set, ← cast_set] at this
    exact this
set_option maxRecDepth 100000 in
set_option maxHeartbeats 4000000 in
theorem block_any (key nonce : ByteArray) (n : Nat) (w : World) (hk : key.size = 32) (hc : nonce.size = 12) (hn : n < M32) :
    Calls Try.prog 74 #[.string key, .string nonce, .int .u32 (n : Int)] w fun e w' => e = .returned (.agg (nums .u8 (cast (Spec.block key nonce n))).toArray) ∧ Below w.heap.size w w' := by
  have HN := Aside0.mk hn
  have n1 : (n : Int) < 4294967296 := by unfold M32 at hn; omega
  clear hn
  go_enter Try.func74, Try.ntmps74
  go_wp2
  go_loopw [17] (fun v wr => ∃ i : Nat, v = .int .i64 i ∧ Aside0 (i ≤ 8 ∧ BS w wr (sA key i))) (fun v _ => 8 - (intOf v).toNat)
  case atStart =>
    refine ⟨0, rfl, ⟨by omega, ⟨?_, ?_, (sA_ok key 0).1, (sA_ok key 0).2, ?_⟩⟩⟩
    · exact Blk.alloc (Blk.lit (Blk.new w _ _) (by rfl)) _
    · exact Arr.at_new (by simp) (by rfl)
    · go_grown
  case round =>
    obtain ⟨i, rfl, HW⟩ := hrel
    have hi8 : i ≤ 8 := HW.out.1
    by_cases hlt : i < 8
    · have hi0 : (0 : Int) ≤ (i : Int) := by omega
      have hi1 : (i : Int) < 8 := by omega
      have cs := HW.out.2.s.at_ (4 + i) (by rw [cast_length, HW.out.2.len]; omega)
      have fs := HW.out.2.s.free (4 + i)
      go_wp2_with fail
      rw [show (4 : Int) * (i : Int) = ((4 * i : Nat) : Int) from by omega]
      refine (word_any key (4 * i) _ (by omega) (by omega)).mono ?_
      rintro e w' ⟨rfl, m, rfl⟩
      go_wp2_with fail
      go_roundw
      case rel => exact ⟨i + 1, by go_num, ⟨by omega, HW.out.2.put _ _ (word_lt _ _) _⟩⟩
      case measure => simp [intOf]; omega
    · have h8 : i = 8 := by omega
      have H0 := HW.out.2
      rw [h8] at H0
      have nlt : ¬ (i : Int) < 8 := by omega
      have nltb : decide ((i : Int) < 8) = false := by simpa using nlt
      clear h8
      have cs := H0.s.at_ 12 (by rw [cast_length, H0.len]; omega)
      have fs := H0.s.free 12
      have H1 := Aside0.mk (H0.put0 12 n HN.out)
      clear H0 HW hlt hi8
      go_wp2_with fail
      clear cs fs
      go_loopw [30] (fun v wr => ∃ i : Nat, v = .int .i64 i ∧ Aside0 (i ≤ 3 ∧ BS w wr (sB key nonce n i))) (fun v _ => 3 - (intOf v).toNat)
      case atStart => exact ⟨0, rfl, ⟨by omega, H1.out⟩⟩
      case round =>
        obtain ⟨i, rfl, HW⟩ := hrel
        have hi3 : i ≤ 3 := HW.out.1
        by_cases hlt : i < 3
        · have hi0 : (0 : Int) ≤ (i : Int) := by omega
          have hi1 : (i : Int) < 3 := by omega
          have cs := HW.out.2.s.at_ (13 + i) (by rw [cast_length, HW.out.2.len]; omega)
          have fs := HW.out.2.s.free (13 + i)
          go_wp2_with fail
          rw [show (4 : Int) * (i : Int) = ((4 * i : Nat) : Int) from by omega]
          refine (word_any nonce (4 * i) _ (by omega) (by omega)).mono ?_
          rintro e w' ⟨rfl, m, rfl⟩
          go_wp2_with fail
          go_roundw
          case rel => exact ⟨i + 1, by go_num, ⟨by omega, HW.out.2.put _ _ (word_lt _ _) _⟩⟩
          case measure => simp [intOf]; omega
        · have h3 : i = 3 := by omega
          have nlt : ¬ (i : Int) < 3 := by omega
          have nltb : decide ((i : Int) < 3) = false := by simpa using nlt
          have H0 := HW.out.2
          rw [h3, sB_state key nonce n HN.out] at H0
          have HS := Aside0.mk H0
          have HI : Aside0 ((Try.prog.info? 147).map (·.size) = some (nums .u32 (cast (state key nonce n))).toArray.size) := ⟨by
            rw [show (nums .u32 (cast (state key nonce n))).toArray.size = 16 from by simp [nums, cast_length, H0.len]]
            kernel_rfl⟩
          have HO : Aside0 ((nums .u32 (cast (state key nonce n))).toArray.size = 16 ∧ (nums .u32 (cast (state key nonce n))).toArray.all (·.oneCell') = true) := ⟨⟨by simp [nums, cast_length, H0.len], by simp [nums, Value.oneCell']⟩⟩
          clear H0 HW
          clear hlt hi3 h3
          first | go_skip | go_guarded | go_step | skip
          first | go_skip | go_guarded | go_step | skip
          first | go_skip | go_guarded | go_step | skip
          first | go_skip | go_guarded | go_step | skip
          first | go_skip | go_guarded | go_step | skip
          first | go_skip | go_guarded | go_step | skip
          first | go_skip | go_guarded | go_step | skip
          first | go_skip | go_guarded | go_step | skip
          first | go_skip | go_guarded | go_step | skip
          first | go_skip | go_guarded | go_step | skip
          first | go_skip | go_guarded | go_step | skip
          first | go_skip | go_guarded | go_step | skip
          first | go_skip | go_guarded | go_step | skip
          first | refine wpList_load_row rfl 147 (.tmp 7) rfl (w.heap.size + 1) rfl 147 _ (0, 0) _ HS.out.s Try.underlying147 rfl HI.out ?_ | go_skip | go_step | go_guarded
          first | refine wpList_load_row rfl 147 (.tmp 7) rfl (w.heap.size + 1) rfl 147 _ (0, 0) _ HS.out.s Try.underlying147 rfl HI.out ?_ | go_skip | go_step | go_guarded
          first | refine wpList_load_row rfl 147 (.tmp 7) rfl (w.heap.size + 1) rfl 147 _ (0, 0) _ HS.out.s Try.underlying147 rfl HI.out ?_ | go_skip | go_step | go_guarded
          first | refine wpList_load_row rfl 147 (.tmp 7) rfl (w.heap.size + 1) rfl 147 _ (0, 0) _ HS.out.s Try.underlying147 rfl HI.out ?_ | go_skip | go_step | go_guarded
          first | refine wpList_load_row rfl 147 (.tmp 7) rfl (w.heap.size + 1) rfl 147 _ (0, 0) _ HS.out.s Try.underlying147 rfl HI.out ?_ | go_skip | go_step | go_guarded
          first | refine wpList_load_row rfl 147 (.tmp 7) rfl (w.heap.size + 1) rfl 147 _ (0, 0) _ HS.out.s Try.underlying147 rfl HI.out ?_ | go_skip | go_step | go_guarded
          first | refine wpList_store_row rfl 147 (.tmp 10) (.tmp 41) rfl wr.heap.size (nums .u32 (cast (state key nonce n))).toArray rfl rfl 147 _ (heap_alloc_new _ _) HI.out (by rw [HO.out.1]; rfl) HO.out.2 ?_ | go_guarded | go_step | go_upon
          first | refine wpList_store_row rfl 147 (.tmp 10) (.tmp 41) rfl wr.heap.size (nums .u32 (cast (state key nonce n))).toArray rfl rfl 147 _ (heap_alloc_new _ _) HI.out (by rw [HO.out.1]; rfl) HO.out.2 ?_ | go_guarded | go_step | go_upon
          first | refine wpList_store_row rfl 147 (.tmp 10) (.tmp 41) rfl wr.heap.size (nums .u32 (cast (state key nonce n))).toArray rfl rfl 147 _ (heap_alloc_new _ _) HI.out (by rw [HO.out.1]; rfl) HO.out.2 ?_ | go_guarded | go_step | go_upon
          first | refine wpList_store_row rfl 147 (.tmp 10) (.tmp 41) rfl wr.heap.size (nums .u32 (cast (state key nonce n))).toArray rfl rfl 147 _ (heap_alloc_new _ _) HI.out (by rw [HO.out.1]; rfl) HO.out.2 ?_ | go_guarded | go_step | go_upon
          have HX := Aside0.mk (HS.out.copied #[Value.int .u32 0, Value.int .u32 0, Value.int .u32 0, Value.int .u32 0, Value.int .u32 0, Value.int .u32 0, Value.int .u32 0, Value.int .u32 0, Value.int .u32 0, Value.int .u32 0, Value.int .u32 0, Value.int .u32 0, Value.int .u32 0, Value.int .u32 0, Value.int .u32 0, Value.int .u32 0])
          generalize (World.setRow _ _ _ : World) = W1 at HX ⊢
          generalize wr.heap.size = G at HX ⊢
          clear HS HI HO
          clear nltb nlt
          go_wp2_with fail
          go_loopw [42] (fun v wr => ∃ k : Nat, v = .int .i64 k ∧ Aside0 (k ≤ 10 ∧ BX w wr G (state key nonce n) (Spec.rounds k (state key nonce n)))) (fun v _ => 10 - (intOf v).toNat)
          case atStart => exact ⟨0, rfl, ⟨by omega, HX.out⟩⟩
          case round =>
            obtain ⟨k, rfl, HW⟩ := hrel
            have hk10 : k ≤ 10 := HW.out.1
            clear HX
            by_cases hlt : k < 10
            · have hk0 : (0 : Int) ≤ (k : Int) := by omega
              have hk1 : (k : Int) < 10 := by omega
              go_wp2_with fail
              go_loopw [44] (fun v wr => ∃ j : Nat, v = .int .i64 j ∧ Aside0 (j ≤ 4 ∧ BX w wr G (state key nonce n) (qA (Spec.rounds k (state key nonce n)) j))) (fun v _ => 4 - (intOf v).toNat)
              case atStart => exact ⟨0, rfl, ⟨by omega, HW.out.2⟩⟩
              case round =>
                obtain ⟨j, rfl, HW⟩ := hrel
                have hj4 : j ≤ 4 := HW.out.1
                by_cases hjt : j < 4
                · have hj0 : (0 : Int) ≤ (j : Int) := by omega
                  have hj1 : (j : Int) < 4 := by omega
                  go_wp2_with fail
                  rw [show (4 : Int) + (j : Int) = ((4 + j : Nat) : Int) from by omega, show (8 : Int) + (j : Int) = ((8 + j : Nat) : Int) from by omega, show (12 : Int) + (j : Int) = ((12 + j : Nat) : Int) from by omega]
                  refine (quarter_any G j (4 + j) (8 + j) (12 + j) _ _ HW.out.2.words (by omega) (by omega) (by omega) (by omega)).mono ?_
                  rintro e w' ⟨rfl, hq⟩
                  have HQ := Aside0.mk (HW.out.2.turned hq)
                  clear hq
                  go_wp2_with fail
                  go_roundw
                  case rel => exact ⟨j + 1, by go_num, ⟨by omega, HQ.out⟩⟩
                  case measure => simp [intOf]; omega
                · have h4 : j = 4 := by omega
                  have H0 := HW.out.2
                  rw [h4] at H0
                  have nlt : ¬ (j : Int) < 4 := by omega
                  have nltb : decide ((j : Int) < 4) = false := by simpa using nlt
                  have HY := Aside0.mk H0
                  clear H0 HW h4 hjt hj4
                  go_wp2_with fail
                  clear nlt nltb
                  go_loopw [56] (fun v wr => ∃ j : Nat, v = .int .i64 j ∧ Aside0 (j ≤ 4 ∧ BX w wr G (state key nonce n) (qB (qA (Spec.rounds k (state key nonce n)) 4) j))) (fun v _ => 4 - (intOf v).toNat)
                  case atStart => exact ⟨0, rfl, ⟨by omega, HY.out⟩⟩
                  case round =>
                    obtain ⟨j, rfl, HW⟩ := hrel
                    have hj4 : j ≤ 4 := HW.out.1
                    by_cases hjt : j < 4
                    · have hj0 : (0 : Int) ≤ (j : Int) := by omega
                      have hj1 : (j : Int) < 4 := by omega
                      go_wp2_with fail
                      rw [show (4 : Int) + ((j : Int) + 1) % 4 = ((4 + (j + 1) % 4 : Nat) : Int) from by omega, show (8 : Int) + ((j : Int) + 2) % 4 = ((8 + (j + 2) % 4 : Nat) : Int) from by omega, show (12 : Int) + ((j : Int) + 3) % 4 = ((12 + (j + 3) % 4 : Nat) : Int) from by omega]
                      refine (quarter_any G j (4 + (j + 1) % 4) (8 + (j + 2) % 4) (12 + (j + 3) % 4) _ _ HW.out.2.words (by omega) (by omega) (by omega) (by omega)).mono ?_
                      rintro e w' ⟨rfl, hq⟩
                      have HQ := Aside0.mk (HW.out.2.turned hq)
                      clear hq
                      go_wp2_with fail
                      go_roundw
                      case rel => exact ⟨j + 1, by go_num, ⟨by omega, HQ.out⟩⟩
                      case measure => simp [intOf]; omega
                    · have h4 : j = 4 := by omega
                      have H0 := HW.out.2
                      rw [h4, dround_eq, ← rounds_snoc] at H0
                      have nlt : ¬ (j : Int) < 4 := by omega
                      have nltb : decide ((j : Int) < 4) = false := by simpa using nlt
                      have HZ := Aside0.mk H0
                      clear H0 HW h4 hjt hj4
                      go_wp2_with fail
                      go_roundw
                      case rel => exact ⟨k + 1, by go_num, ⟨by omega, HZ.out⟩⟩
                      case measure => simp [intOf]; omega
            · have h10 : k = 10 := by omega
              have H0 := HW.out.2
              rw [h10] at H0
              have nlt : ¬ (k : Int) < 10 := by omega
              have nltb : decide ((k : Int) < 10) = false := by simpa using nlt
              have HR := Aside0.mk H0
              clear H0 HW h10 hlt hk10
              go_wp2_with fail
              clear nlt nltb
              have HX := Aside0.mk (HR.out.out #[Value.int .u8 0, Value.int .u8 0, Value.int .u8 0, Value.int .u8 0, Value.int .u8 0, Value.int .u8 0, Value.int .u8 0, Value.int .u8 0, Value.int .u8 0, Value.int .u8 0, Value.int .u8 0, Value.int .u8 0, Value.int .u8 0, Value.int .u8 0, Value.int .u8 0, Value.int .u8 0, Value.int .u8 0, Value.int .u8 0, Value.int .u8 0, Value.int .u8 0, Value.int .u8 0, Value.int .u8 0, Value.int .u8 0, Value.int .u8 0, Value.int .u8 0, Value.int .u8 0, Value.int .u8 0, Value.int .u8 0, Value.int .u8 0, Value.int .u8 0, Value.int .u8 0, Value.int .u8 0, Value.int .u8 0, Value.int .u8 0, Value.int .u8 0, Value.int .u8 0, Value.int .u8 0, Value.int .u8 0, Value.int .u8 0, Value.int .u8 0, Value.int .u8 0, Value.int .u8 0, Value.int .u8 0, Value.int .u8 0, Value.int .u8 0, Value.int .u8 0, Value.int .u8 0, Value.int .u8 0, Value.int .u8 0, Value.int .u8 0, Value.int .u8 0, Value.int .u8 0, Value.int .u8 0, Value.int .u8 0, Value.int .u8 0, Value.int .u8 0, Value.int .u8 0, Value.int .u8 0, Value.int .u8 0, Value.int .u8 0, Value.int .u8 0, Value.int .u8 0, Value.int .u8 0, Value.int .u8 0] rfl)
              generalize (World.alloc _ _ : World) = W2 at HX ⊢
              generalize wr.heap.size = H at HX ⊢
              clear HR
              go_loopw [75] (fun v wr => ∃ i : Nat, v = .int .i64 i ∧ Aside0 (i ≤ 16 ∧ BO w wr G H (state key nonce n) (Spec.rounds 10 (state key nonce n)) (oA (fun i => (at_ (Spec.rounds 10 (state key nonce n)) i + at_ (state key nonce n) i) % M32) i))) (fun v _ => 16 - (intOf v).toNat)
              case atStart => exact ⟨0, rfl, ⟨by omega, HX.out _⟩⟩
              case round =>
                obtain ⟨i, rfl, HW⟩ := hrel
                have hi16 : i ≤ 16 := HW.out.1
                clear HX
                by_cases hlt : i < 16
                · have hi0 : (0 : Int) ≤ (i : Int) := by omega
                  have hi1 : (i : Int) < 16 := by omega
                  have hX := HW.out.2.x.words.cell i hlt
                  have hS := HW.out.2.x.s.s.at_ i (by rw [cast_length, HW.out.2.x.s.len]; exact hlt)
                  rw [el_cast] at hS
                  have lu := at_lt HW.out.2.x.lt i
                  have lv := at_lt HW.out.2.x.s.lt i
                  obtain ⟨u, hu⟩ : ∃ u, at_ (Spec.rounds 10 (state key nonce n)) i = u := ⟨_, rfl⟩
                  obtain ⟨v, hv⟩ : ∃ v, at_ (state key nonce n) i = v := ⟨_, rfl⟩
                  have hv' : (state key nonce n).getD i 0 = v := hv
                  rw [hu] at hX lu
                  rw [hv'] at hS
                  rw [hv] at lv
                  have HU := Aside0.mk hu
                  have HV := Aside0.mk hv
                  clear hu hv hv'
                  clear lu lv
                  have lo : (cast (oA (fun i => (at_ (Spec.rounds 10 (state key nonce n)) i + at_ (state key nonce n) i) % M32) i)).length = 64 := by rw [cast_length, oA_length]
                  have c0 := HW.out.2.o.at_ (4 * i) (by rw [lo]; omega)
                  have c1 := HW.out.2.o.at_ (4 * i + 1) (by rw [lo]; omega)
                  have c2 := HW.out.2.o.at_ (4 * i + 2) (by rw [lo]; omega)
                  have c3 := HW.out.2.o.at_ (4 * i + 3) (by rw [lo]; omega)
                  have f0 := HW.out.2.o.free (4 * i)
                  have f1 := HW.out.2.o.free (4 * i + 1)
                  have f2 := HW.out.2.o.free (4 * i + 2)
                  have f3 := HW.out.2.o.free (4 * i + 3)
                  clear lo
                  go_wp2_with fail
                  go_quiet (fail)
                  clear hX hS
                  go_wp2_with fail
                  go_roundw
                  case rel =>
                    exact ⟨i + 1, by go_num, ⟨by omega, HW.out.2.put u v (by rw [HU.out, HV.out]) _⟩⟩
                  case measure => simp [intOf]; omega
                · have h16 : i = 16 := by omega
                  have H0 := HW.out.2
                  rw [h16, oA_all] at H0
                  have nlt : ¬ (i : Int) < 16 := by omega
                  have nltb : decide ((i : Int) < 16) = false := by simpa using nlt
                  have HR := Aside0.mk H0
                  clear H0 HW h16 hlt hi16
                  first | go_skip | go_guarded | go_step | skip
                  first | go_skip | go_guarded | go_step | skip
                  first | go_skip | go_guarded | go_step | skip
                  first | go_skip | go_guarded | go_step | skip
                  first | go_skip | go_guarded | go_step | skip
                  first | go_skip | go_guarded | go_step | skip
                  first | go_skip | go_guarded | go_step | skip
                  first | go_skip | go_guarded | go_step | skip
                  first | go_skip | go_guarded | go_step | skip
                  first | go_skip | go_guarded | go_step | skip
                  first | go_skip | go_guarded | go_step | skip
                  first | go_skip | go_guarded | go_step | skip
                  first | go_skip | go_guarded | go_step | skip
                  first | go_skip | go_guarded | go_step | skip
                  first | go_skip | go_guarded | go_step | skip
                  first | go_skip | go_guarded | go_step | skip
                  have HO : Aside0 ((nums .u8 (cast (Spec.block key nonce n))).toArray.size = 64 ∧ (nums .u8 (cast (Spec.block key nonce n))).toArray.all (·.oneCell') = true) := ⟨⟨by
                    have := HR.out.olen
                    simp only [nums, List.size_toArray, List.length_map, cast_length]
                    exact this, by simp [nums, Value.oneCell']⟩⟩
                  have HI : Aside0 ((Try.prog.info? 99).map (·.size) = some (nums .u8 (cast (Spec.block key nonce n))).toArray.size) := ⟨by
                    rw [HO.out.1]
                    kernel_rfl⟩
                  have HB : Aside0 (Arr wr H 99 .u8 (cast (Spec.block key nonce n))) := ⟨HR.out.o⟩
                  have HRs : Aside0 (Blk wr w.heap.size 99 (nums .u8 (List.replicate 64 0)).toArray ∧ Below w.heap.size w wr) := ⟨HR.out.x.s.res, HR.out.x.s.below⟩
                  clear HR nlt nltb
                  first | refine wpList_load_row rfl 99 (.tmp 13) rfl H rfl 99 _ (0, 0) _ HB.out Try.underlying99 rfl HI.out ?_ | go_skip | go_guarded | go_step
                  first | refine wpList_load_row rfl 99 (.tmp 13) rfl H rfl 99 _ (0, 0) _ HB.out Try.underlying99 rfl HI.out ?_ | go_skip | go_guarded | go_step
                  first | refine wpList_load_row rfl 99 (.tmp 13) rfl H rfl 99 _ (0, 0) _ HB.out Try.underlying99 rfl HI.out ?_ | go_skip | go_guarded | go_step
                  refine wpList_store_row rfl 99 (.tmp 6) (.tmp 112) rfl w.heap.size (nums .u8 (cast (Spec.block key nonce n))).toArray rfl rfl 99 _ HRs.out.1 HI.out (by rw [HO.out.1]; simp only [nums, List.size_toArray, List.length_map, List.length_replicate]) HO.out.2 ?_
                  have HE : Aside0 (Blk (wr.setRow w.heap.size (nums .u8 (cast (Spec.block key nonce n))).toArray) w.heap.size 99 (nums .u8 (cast (Spec.block key nonce n))).toArray ∧ Below w.heap.size w (wr.setRow w.heap.size (nums .u8 (cast (Spec.block key nonce n))).toArray)) := ⟨setRow_heap _ _ _ _ _ _ HRs.out.1, below_setRow HRs.out.2 (Nat.le_refl _) _⟩
                  generalize (World.setRow _ _ _ : World) = W3 at HE ⊢
                  go_wp2_with fail
                  refine bodyPost_ret (results_cell_row rfl _ _ w.heap.size 99 (nums .u8 (cast (Spec.block key nonce n))).toArray (0, 0) _ rfl HE.out.1 Try.underlying99 rfl HI.out) rfl ?_
                  exact ⟨rfl, HE.out.2⟩
end Go.Proofs.Ytajndpddlpnbkaa.B
