/- box.tagged: the tag of what is sealed. -/
import Derived.Test.YtajndpddlpnbkaaHStream
import Derived.Test.YtajndpddlpnbkaaHTag
import Derived.Test.YtajndpddlpnbkaaHFramedLaw
namespace Go.Proofs.Ytajndpddlpnbkaa.B
open Go.RowKit Go.Proofs.YtajndpddlpnbkaaW.PrintWords Go.Proofs.Ytajndpddlpnbkaa.Spec
theorem strOfNums_take (l : List Nat) (n : Nat) : strOfNums ((cast l).take n) = ⟨((l.take n).map UInt8.ofNat).toArray⟩ := by
  rw [← strOfNums_cast]; simp [cast, List.map_take]
theorem Arr.string {P : Program} {w : World} {g : Nat} {t : TypeId} {xs : List Int} (h : Arr w g t .u8 xs) {src dst e : TypeId} (hs : P.underlying src = some (.slice e)) (he : P.underlying e = some (.int .u8)) (hd : P.underlying dst = some .string) (n cap : Nat) (hn : n ≤ xs.length) :
    (convert src dst (.slice (some ⟨g, 0, none⟩) n cap)).run P w = .ok (.string (strOfNums (xs.take n))) w := by
  refine run_convert_bytes_arg w src e hs he g 0 n cap (xs.take n) (by rw [List.length_take]; omega) (fun i hi => ?_) dst hd
  rw [Nat.zero_add, h.at_ i (by omega)]
  simp [el, List.getD_eq_getElem?_getD, List.getElem?_take_of_lt hi]
set_option maxRecDepth 100000 in
set_option maxHeartbeats 1000000 in
theorem tagged_walk (key nonce ad s : ByteArray) (w : World) (hk : key.size = 32) (hc : nonce.size = 12) (hs : ad.size + s.size ≤ 140737488351232) :
    Calls Try.prog 61 #[.string key, .string nonce, .string ad, .string s] w fun e w' => e = .returned (.string (taggedF key nonce ad s)) ∧ Below w.heap.size w w' := by
  go_enter Try.func61, Try.ntmps61
  go_wp2_with fail
  rw [show (0 : Int) = ((0 : Nat) : Int) from rfl]
  refine (block_any key nonce 0 _ hk hc (by unfold M32; omega)).mono ?_
  rintro e w1 ⟨rfl, hb1⟩
  have ho := block_length key nonce 0
  have hk0 : key0 key nonce = ⟨(((Spec.block key nonce 0).take 32).map UInt8.ofNat).toArray⟩ := rfl
  generalize hbk : Spec.block key nonce 0 = bk at ho hk0 ⊢
  have HO : Aside0 ((nums .u8 (cast bk)).toArray.size = 64 ∧ (nums .u8 (cast bk)).toArray.all (·.oneCell') = true) := ⟨⟨by simp [nums, cast_length, ho], by simp [nums, Value.oneCell']⟩⟩
  have HI : Aside0 ((Try.prog.info? 99).map (·.size) = some (nums .u8 (cast bk)).toArray.size) := ⟨by
    rw [HO.out.1]
    kernel_rfl⟩
  have HK0 := Aside0.mk hk0
  have HOL := Aside0.mk ho
  have HB1 := Aside0.mk hb1
  clear hbk hb1 ho hk0
  dsimp only
  first | go_skip | go_guarded | go_step
  first | go_skip | go_guarded | go_step
  first | go_skip | go_guarded | go_step
  first | go_skip | go_guarded | go_step
  refine wpList_store_row rfl 99 (.tmp 9) (.tmp 14) rfl w1.heap.size (nums .u8 (cast bk)).toArray rfl rfl 99 _ (heap_alloc_new _ _) HI.out (by first | (rw [HO.out.1]; done) | (rw [HO.out.1]; rfl)) HO.out.2 ?_
  have HX : Aside0 (Arr ((w1.alloc (.cells #[Value.int .u8 0, Value.int .u8 0, Value.int .u8 0, Value.int .u8 0, Value.int .u8 0, Value.int .u8 0, Value.int .u8 0, Value.int .u8 0, Value.int .u8 0, Value.int .u8 0, Value.int .u8 0, Value.int .u8 0, Value.int .u8 0, Value.int .u8 0, Value.int .u8 0, Value.int .u8 0, Value.int .u8 0, Value.int .u8 0, Value.int .u8 0, Value.int .u8 0, Value.int .u8 0, Value.int .u8 0, Value.int .u8 0, Value.int .u8 0, Value.int .u8 0, Value.int .u8 0, Value.int .u8 0, Value.int .u8 0, Value.int .u8 0, Value.int .u8 0, Value.int .u8 0, Value.int .u8 0, Value.int .u8 0, Value.int .u8 0, Value.int .u8 0, Value.int .u8 0, Value.int .u8 0, Value.int .u8 0, Value.int .u8 0, Value.int .u8 0, Value.int .u8 0, Value.int .u8 0, Value.int .u8 0, Value.int .u8 0, Value.int .u8 0, Value.int .u8 0, Value.int .u8 0, Value.int .u8 0, Value.int .u8 0, Value.int .u8 0, Value.int .u8 0, Value.int .u8 0, Value.int .u8 0, Value.int .u8 0, Value.int .u8 0, Value.int .u8 0, Value.int .u8 0, Value.int .u8 0, Value.int .u8 0, Value.int .u8 0, Value.int .u8 0, Value.int .u8 0, Value.int .u8 0, Value.int .u8 0] 99)).setRow w1.heap.size (nums .u8 (cast bk)).toArray) w1.heap.size 99 .u8 (cast bk) ∧ Below w.heap.size w ((w1.alloc (.cells #[Value.int .u8 0, Value.int .u8 0, Value.int .u8 0, Value.int .u8 0, Value.int .u8 0, Value.int .u8 0, Value.int .u8 0, Value.int .u8 0, Value.int .u8 0, Value.int .u8 0, Value.int .u8 0, Value.int .u8 0, Value.int .u8 0, Value.int .u8 0, Value.int .u8 0, Value.int .u8 0, Value.int .u8 0, Value.int .u8 0, Value.int .u8 0, Value.int .u8 0, Value.int .u8 0, Value.int .u8 0, Value.int .u8 0, Value.int .u8 0, Value.int .u8 0, Value.int .u8 0, Value.int .u8 0, Value.int .u8 0, Value.int .u8 0, Value.int .u8 0, Value.int .u8 0, Value.int .u8 0, Value.int .u8 0, Value.int .u8 0, Value.int .u8 0, Value.int .u8 0, Value.int .u8 0, Value.int .u8 0, Value.int .u8 0, Value.int .u8 0, Value.int .u8 0, Value.int .u8 0, Value.int .u8 0, Value.int .u8 0, Value.int .u8 0, Value.int .u8 0, Value.int .u8 0, Value.int .u8 0, Value.int .u8 0, Value.int .u8 0, Value.int .u8 0, Value.int .u8 0, Value.int .u8 0, Value.int .u8 0, Value.int .u8 0, Value.int .u8 0, Value.int .u8 0, Value.int .u8 0, Value.int .u8 0, Value.int .u8 0, Value.int .u8 0, Value.int .u8 0, Value.int .u8 0, Value.int .u8 0] 99)).setRow w1.heap.size (nums .u8 (cast bk)).toArray)) := by
    have h2 := HB1.out.size
    exact ⟨setRow_heap _ _ _ _ _ _ (heap_alloc_new _ _), below_setRow (HB1.out.alloc (by omega) _) (by omega) _⟩
  generalize (World.setRow _ _ _ : World) = W2 at HX ⊢
  generalize w1.heap.size = K at HX ⊢
  clear HI HO HB1
  have kc : ∀ W : World, Arr W K 99 .u8 (cast bk) → ∀ cap, (convert 70 9 (.slice (some ⟨K, 0, none⟩) 32 cap)).run Try.prog W = .ok (.string (key0 key nonce)) W := fun W hW cap => by
    have h := Arr.string (P := Try.prog) hW Try.underlying70 Try.underlying5 Try.underlying9 32 cap (by rw [cast_length, HOL.out]; omega)
    rwa [strOfNums_take, ← HK0.out] at h
  have kc2 := kc _ HX.out.1
  have kc2d := kc _ HX.out.1.drew
  have kc2n := fun n => kc _ (HX.out.1.drewN n)
  have hT : Aside0 (box_Tag.f (key0 key nonce) (Spec.framed ad s) = some (polyTag (key0 key nonce) (Spec.framed ad s), 0)) := ⟨by
    have h1 := framed_size ad s
    unfold box_Tag.f tagF
    rw [if_pos (by omega), if_pos]
    rw [HK0.out]
    show List.length _ = 32
    rw [List.length_map, List.length_take, HOL.out]; rfl⟩
  have hF := Aside0.mk (framed_spec ad s hs)
  have KC := Aside0.mk kc
  clear kc hs hk hc
  go_wp2_with fail
  go_region_with (first
    | (go_at_call 76; refine (F.box_framed.calls 30 ad s _ _ hF.out).mono ?_; rintro e w3 ⟨rfl, hb3⟩; have HB3 := Aside0.mk hb3; clear hb3; have hA3 := Aside0.mk (Blk.below (Blk.drew HX.out.1) HB3.out (Blk.lt HX.out.1)); have kc3 := KC.out w3 hA3.out; have kc3d := KC.out w3.drew (Blk.drew hA3.out))
    | (go_at_call 75; refine (box_Tag.calls _ _ _ _ _ hT.out).mono ?_; rintro e w4 ⟨rfl, hb4⟩; have HB4 := Aside0.mk hb4; clear hb4))
  all_goals
    go_wp2_with fail
    go_ret
    have q1 : Below w.heap.size w W2.drew := HX.out.2.drew
    have q2 := q1.trans (HB3.out.mono q1.size)
    have q3 := q2.trans (HB4.out.mono q2.size)
    exact ⟨rfl, by first | exact q3 | exact q3.drew⟩
end Go.Proofs.Ytajndpddlpnbkaa.B
