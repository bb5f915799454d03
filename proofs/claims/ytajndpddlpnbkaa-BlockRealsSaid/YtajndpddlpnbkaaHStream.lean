/- box.Stream: a text, each byte xor the key stream's. -/
import Derived.Test.YtajndpddlpnbkaaHBlock
namespace Go.Proofs.Ytajndpddlpnbkaa.B
open Go.RowKit Go.Proofs.YtajndpddlpnbkaaW.PrintWords Go.Proofs.Ytajndpddlpnbkaa.Spec
/-- The first m bytes are turned. -/
def strUp (key nonce : ByteArray) (n : Nat) (s : ByteArray) (m : Nat) : List Nat :=
  (List.range s.size).map fun k => if k < m then byteAt s k ^^^ at_ (Spec.block key nonce (n + k / 64)) (k % 64) else byteAt s k
theorem strUp_length (key nonce : ByteArray) (n : Nat) (s : ByteArray) (m : Nat) : (strUp key nonce n s m).length = s.size := by simp [strUp]
theorem strUp_el (key nonce : ByteArray) (n : Nat) (s : ByteArray) (m : Nat) (h : m < s.size) : el (cast (strUp key nonce n s m)) m = (byteAt s m : Int) := by
  rw [el_cast]; simp [strUp, h]
theorem strUp_step (key nonce : ByteArray) (n : Nat) (s : ByteArray) (m : Nat) (_h : m < s.size) :
    cast (strUp key nonce n s (m + 1)) = (cast (strUp key nonce n s m)).set m ((byteAt s m ^^^ at_ (Spec.block key nonce (n + m / 64)) (m % 64) : Nat) : Int) := by
  apply List.ext_getElem
  · simp [cast, strUp]
  · intro k h1 h2
    simp only [cast, strUp, List.getElem_map, List.getElem_range, List.getElem_set]
    by_cases h : m = k
    · subst h; simp
    · rw [if_neg h]
      by_cases h3 : k < m
      · rw [if_pos h3, if_pos (by omega)]
      · rw [if_neg h3, if_neg (by omega)]
theorem strUp_past (key nonce : ByteArray) (n : Nat) (s : ByteArray) (m m' : Nat) (h : s.size ≤ m) (h' : s.size ≤ m') : strUp key nonce n s m = strUp key nonce n s m' := by
  unfold strUp
  apply List.map_congr_left
  intro k hk
  have hk : k < s.size := by simpa using hk
  rw [if_pos (by omega), if_pos (by omega)]
theorem nats_eq (s : ByteArray) : nats s = (List.range s.size).map fun k => byteAt s k := by
  apply List.ext_getElem
  · rw [nats_length]; simp
  · intro n h1 h2
    simp only [List.getElem_map, List.getElem_range]
    unfold byteAt at_
    rw [List.getD_eq_getElem?_getD, List.getElem?_eq_getElem h1]
    rfl
theorem strUp_zero (key nonce : ByteArray) (n : Nat) (s : ByteArray) : strUp key nonce n s 0 = nats s := by
  rw [nats_eq]; unfold strUp
  apply List.map_congr_left
  intro k _
  rw [if_neg (by omega)]
theorem strUp_all (key nonce : ByteArray) (n : Nat) (s : ByteArray) (m : Nat) (h : s.size ≤ m) : strOfNums (cast (strUp key nonce n s m)) = streamed key nonce n s := by
  rw [strOfNums_cast, streamed, strUp, List.map_map]
  congr 2
  apply List.map_congr_left
  intro k hk
  have hk : k < s.size := by simpa using hk
  simp only [Function.comp]
  rw [if_pos (by omega)]
theorem wordBytes_lt (n : Nat) : ∀ x ∈ wordBytes n, x < 256 := by
  intro x hx
  simp only [wordBytes, List.mem_cons, List.not_mem_nil, or_false] at hx
  omega
theorem block_lt (key nonce : ByteArray) (n : Nat) : ∀ x ∈ Spec.block key nonce n, x < 256 := by
  intro x hx
  unfold Spec.block at hx
  obtain ⟨y, _, hy⟩ := List.mem_flatMap.1 hx
  exact wordBytes_lt y x hy
theorem block_length (key nonce : ByteArray) (n : Nat) : (Spec.block key nonce n).length = 64 := by
  unfold Spec.block outWords
  rw [← oA_all]; exact oA_length _ _
theorem at_lt_of {l : List Nat} {m : Nat} (h : ∀ x ∈ l, x < m) (hm : 0 < m) (i : Nat) : at_ l i < m := by
  unfold at_
  rw [List.getD_eq_getElem?_getD]
  cases e : l[i]? with
  | none => exact hm
  | some b => exact h b (List.mem_of_getElem? e)
set_option maxRecDepth 100000 in
set_option maxHeartbeats 1000000 in
theorem stream_walk (key nonce : ByteArray) (n : Nat) (s : ByteArray) (w : World) (hk : key.size = 32) (hc : nonce.size = 12) (hn : n < M32) (hs : s.size ≤ 140737488351232) (hfit : (s.size + 63) / 64 + n ≤ M32) :
    Calls Try.prog 62 #[.string key, .string nonce, .int .i64 (n : Int), .string s] w fun e w' => e = .returned (.tuple #[.string (streamed key nonce n s), .int .i64 0]) ∧ Below w.heap.size w w' := by
  unfold M32 at hn hfit
  have b1 : ((key.size : Int) != 32) = false := by rw [hk]; rfl
  have b2 : ((nonce.size : Int) != 12) = false := by rw [hc]; rfl
  have b3 : decide ((n : Int) < 0) = false := decide_eq_false (by omega)
  have b4 : decide ((4294967296 : Int) ≤ (n : Int)) = false := decide_eq_false (by omega)
  have b5 : decide (4294967296 - (n : Int) < ((s.size : Int) + 63) / 64) = false := decide_eq_false (by omega)
  have kb : ∀ W : World, (convert 9 70 (.string s)).run Try.prog W = .ok (.slice (some ⟨W.heap.size, 0, none⟩) s.size (grownCap W s.size 0 5)) (Lib.bytesWorld W 5 s) := fun W =>
    Lib.run_convert_string_bytes W 9 70 5 s Try.underlying9 Try.underlying70 Try.underlying5
  go_enter Try.func62, Try.ntmps62
  go_wp2_with fail
  have HX : Aside0 (Bts (Lib.bytesWorld w 5 s) w.heap.size 5 (cast (strUp key nonce n s 0)) ∧ Below w.heap.size w (Lib.bytesWorld w 5 s)) := ⟨strUp_zero key nonce n s ▸ Bts.new w _ _, bytesWorld_below (Below.refl _ _) (Nat.le_refl _) _ _⟩
  generalize Lib.bytesWorld w 5 s = W1 at HX ⊢
  generalize grownCap w s.size 0 5 = cap at HX ⊢
  obtain ⟨g, hg⟩ : ∃ g, w.heap.size = g := ⟨_, rfl⟩
  rw [hg] at HX ⊢
  have HG := Aside0.mk hg
  clear hg
  clear kb b1 b2 b3 b4 b5
  go_loopw [11] (fun v wr => ∃ i : Nat, v = .int .i64 i ∧ Aside0 (i % 64 = 0 ∧ i < s.size + 64 ∧ Bts wr g 5 (cast (strUp key nonce n s i)) ∧ Below g w wr)) (fun v _ => s.size + 64 - (intOf v).toNat)
  case atStart => exact ⟨0, rfl, ⟨rfl, by omega, HX.out.1, HX.out.2⟩⟩
  case round =>
    obtain ⟨i, rfl, HW⟩ := hrel
    clear HX
    have hi64 : i % 64 = 0 := HW.out.1
    by_cases hlt : i < s.size
    · have hi0 : (0 : Int) ≤ (i : Int) := by omega
      have hi1 : (i : Int) < (s.size : Int) := by omega
      have hum : ((n : Int) + (i : Int) / 64) % 4294967296 = (n : Int) + (i : Int) / 64 := by omega
      go_wp2_with fail
      rw [show (n : Int) + (i : Int) / 64 = ((n + i / 64 : Nat) : Int) from by omega]
      refine (block_any key nonce (n + i / 64) _ hk hc (by unfold M32; omega)).mono ?_
      rintro e w1 ⟨rfl, hb1⟩
      have ho := block_length key nonce (n + i / 64)
      have hl := block_lt key nonce (n + i / 64)
      generalize hbk : Spec.block key nonce (n + i / 64) = bk at ho hl ⊢
      have HO : Aside0 ((nums .u8 (cast bk)).toArray.size = 64 ∧ (nums .u8 (cast bk)).toArray.all (·.oneCell') = true) := ⟨⟨by simp [nums, cast_length, ho], by simp [nums, Value.oneCell']⟩⟩
      have HI : Aside0 ((Try.prog.info? 99).map (·.size) = some (nums .u8 (cast bk)).toArray.size) := ⟨by
        rw [HO.out.1]
        kernel_rfl⟩
      have HBK := Aside0.mk hbk
      have HL := Aside0.mk hl
      have HOL := Aside0.mk ho
      have HB1 := Aside0.mk hb1
      clear hbk hum hb1 hl ho
      dsimp only
      first | go_skip | go_guarded | go_step
      first | go_skip | go_guarded | go_step
      first | go_skip | go_guarded | go_step
      first | go_skip | go_guarded | go_step
      refine wpList_store_row rfl 99 (.tmp 12) (.tmp 52) rfl w1.heap.size (nums .u8 (cast bk)).toArray rfl rfl 99 _ (heap_alloc_new _ _) HI.out (by first | (rw [HO.out.1]; done) | (rw [HO.out.1]; rfl)) HO.out.2 ?_
      have HX : Aside0 (Arr ((w1.alloc (.cells #[Value.int .u8 0, Value.int .u8 0, Value.int .u8 0, Value.int .u8 0, Value.int .u8 0, Value.int .u8 0, Value.int .u8 0, Value.int .u8 0, Value.int .u8 0, Value.int .u8 0, Value.int .u8 0, Value.int .u8 0, Value.int .u8 0, Value.int .u8 0, Value.int .u8 0, Value.int .u8 0, Value.int .u8 0, Value.int .u8 0, Value.int .u8 0, Value.int .u8 0, Value.int .u8 0, Value.int .u8 0, Value.int .u8 0, Value.int .u8 0, Value.int .u8 0, Value.int .u8 0, Value.int .u8 0, Value.int .u8 0, Value.int .u8 0, Value.int .u8 0, Value.int .u8 0, Value.int .u8 0, Value.int .u8 0, Value.int .u8 0, Value.int .u8 0, Value.int .u8 0, Value.int .u8 0, Value.int .u8 0, Value.int .u8 0, Value.int .u8 0, Value.int .u8 0, Value.int .u8 0, Value.int .u8 0, Value.int .u8 0, Value.int .u8 0, Value.int .u8 0, Value.int .u8 0, Value.int .u8 0, Value.int .u8 0, Value.int .u8 0, Value.int .u8 0, Value.int .u8 0, Value.int .u8 0, Value.int .u8 0, Value.int .u8 0, Value.int .u8 0, Value.int .u8 0, Value.int .u8 0, Value.int .u8 0, Value.int .u8 0, Value.int .u8 0, Value.int .u8 0, Value.int .u8 0, Value.int .u8 0] 99)).setRow w1.heap.size (nums .u8 (cast bk)).toArray) w1.heap.size 99 .u8 (cast bk) ∧ w1.heap.size ≠ g ∧ Bts ((w1.alloc (.cells #[Value.int .u8 0, Value.int .u8 0, Value.int .u8 0, Value.int .u8 0, Value.int .u8 0, Value.int .u8 0, Value.int .u8 0, Value.int .u8 0, Value.int .u8 0, Value.int .u8 0, Value.int .u8 0, Value.int .u8 0, Value.int .u8 0, Value.int .u8 0, Value.int .u8 0, Value.int .u8 0, Value.int .u8 0, Value.int .u8 0, Value.int .u8 0, Value.int .u8 0, Value.int .u8 0, Value.int .u8 0, Value.int .u8 0, Value.int .u8 0, Value.int .u8 0, Value.int .u8 0, Value.int .u8 0, Value.int .u8 0, Value.int .u8 0, Value.int .u8 0, Value.int .u8 0, Value.int .u8 0, Value.int .u8 0, Value.int .u8 0, Value.int .u8 0, Value.int .u8 0, Value.int .u8 0, Value.int .u8 0, Value.int .u8 0, Value.int .u8 0, Value.int .u8 0, Value.int .u8 0, Value.int .u8 0, Value.int .u8 0, Value.int .u8 0, Value.int .u8 0, Value.int .u8 0, Value.int .u8 0, Value.int .u8 0, Value.int .u8 0, Value.int .u8 0, Value.int .u8 0, Value.int .u8 0, Value.int .u8 0, Value.int .u8 0, Value.int .u8 0, Value.int .u8 0, Value.int .u8 0, Value.int .u8 0, Value.int .u8 0, Value.int .u8 0, Value.int .u8 0, Value.int .u8 0, Value.int .u8 0] 99)).setRow w1.heap.size (nums .u8 (cast bk)).toArray) g 5 (cast (strUp key nonce n s i)) ∧ Below g w ((w1.alloc (.cells #[Value.int .u8 0, Value.int .u8 0, Value.int .u8 0, Value.int .u8 0, Value.int .u8 0, Value.int .u8 0, Value.int .u8 0, Value.int .u8 0, Value.int .u8 0, Value.int .u8 0, Value.int .u8 0, Value.int .u8 0, Value.int .u8 0, Value.int .u8 0, Value.int .u8 0, Value.int .u8 0, Value.int .u8 0, Value.int .u8 0, Value.int .u8 0, Value.int .u8 0, Value.int .u8 0, Value.int .u8 0, Value.int .u8 0, Value.int .u8 0, Value.int .u8 0, Value.int .u8 0, Value.int .u8 0, Value.int .u8 0, Value.int .u8 0, Value.int .u8 0, Value.int .u8 0, Value.int .u8 0, Value.int .u8 0, Value.int .u8 0, Value.int .u8 0, Value.int .u8 0, Value.int .u8 0, Value.int .u8 0, Value.int .u8 0, Value.int .u8 0, Value.int .u8 0, Value.int .u8 0, Value.int .u8 0, Value.int .u8 0, Value.int .u8 0, Value.int .u8 0, Value.int .u8 0, Value.int .u8 0, Value.int .u8 0, Value.int .u8 0, Value.int .u8 0, Value.int .u8 0, Value.int .u8 0, Value.int .u8 0, Value.int .u8 0, Value.int .u8 0, Value.int .u8 0, Value.int .u8 0, Value.int .u8 0, Value.int .u8 0, Value.int .u8 0, Value.int .u8 0, Value.int .u8 0, Value.int .u8 0] 99)).setRow w1.heap.size (nums .u8 (cast bk)).toArray)) := by
        obtain ⟨h1, h2, h3, h4⟩ := HW.out
        have l1 := h3.lt
        have h5 := h3.below HB1.out l1
        have l2 := h5.lt
        have h6 : Below g w w1 := h4.trans (HB1.out.mono (by omega))
        exact ⟨setRow_heap _ _ _ _ _ _ (heap_alloc_new _ _), by omega, (h5.alloc _).same (setRow_other _ _ _ _ (by omega)), below_setRow (h6.alloc (by omega) _) (by omega) _⟩
      generalize (World.setRow _ _ _ : World) = W2 at HX ⊢
      generalize w1.heap.size = K at HX ⊢
      clear HI HO HB1 HW
      go_wp2_with fail
      go_loopw [13] (fun v wr => ∃ j : Nat, v = .int .i64 j ∧ Aside0 (j ≤ 64 ∧ Arr wr K 99 .u8 (cast bk) ∧ K ≠ g ∧ Bts wr g 5 (cast (strUp key nonce n s (i + j))) ∧ Below g w wr)) (fun v _ => 64 - (intOf v).toNat)
      case atStart => exact ⟨0, rfl, ⟨by omega, HX.out⟩⟩
      case round =>
        obtain ⟨j, rfl, HW⟩ := hrel
        have hj64 : j ≤ 64 := HW.out.1
        clear HX
        by_cases hjt : j < 64
        · have hj0 : (0 : Int) ≤ (j : Int) := by omega
          have hj1 : (j : Int) < 64 := by omega
          by_cases hin : i + j < s.size
          · have hin1 : (i : Int) + (j : Int) < (s.size : Int) := by omega
            have ca := HW.out.2.2.2.1.at_ (i + j) (by rw [cast_length, strUp_length]; exact hin)
            rw [strUp_el key nonce n s (i + j) hin] at ca
            have fa := HW.out.2.2.2.1.free (i + j) (by rw [cast_length, strUp_length]; exact hin)
            have ck := HW.out.2.1.at_ j (by rw [cast_length, HOL.out]; exact hjt)
            rw [el_cast] at ck
            have lb := byteAt_lt s (i + j)
            have lk := at_lt_of HL.out (by decide) j
            obtain ⟨u, hu⟩ : ∃ u, byteAt s (i + j) = u := ⟨_, rfl⟩
            obtain ⟨v, hv⟩ : ∃ v, at_ bk j = v := ⟨_, rfl⟩
            have hv' : bk.getD j 0 = v := hv
            rw [hu] at ca lb
            rw [hv'] at ck
            rw [hv] at lk
            have HU := Aside0.mk hu
            have HV := Aside0.mk hv
            clear hu hv hv'
            have hx := u8_xor_nat u v lb lk
            clear lb lk
            go_wp2_with fail
            go_region
            go_wp2_with fail
            go_roundw
            case rel =>
              refine ⟨j + 1, by go_num, ⟨by omega, Blk.drewN (Blk.far HW.out.2.1 (by have := HW.out.2.2.1; dsimp only; omega) _) _, HW.out.2.2.1, ?_, below_drewN (HW.out.2.2.2.2.setCell (by dsimp only; omega) _) _⟩⟩
              rw [show i + (j + 1) = (i + j) + 1 from by omega, strUp_step key nonce n s (i + j) hin, HU.out, show (i + j) / 64 = i / 64 from by omega, show (i + j) % 64 = j from by omega, HBK.out, HV.out]
              exact (HW.out.2.2.2.1.store _ _).drewN _
            case measure => simp [intOf]; omega
          · have hin1 : ¬ (i : Int) + (j : Int) < (s.size : Int) := by omega
            have hin2 : decide ((i : Int) + (j : Int) < (s.size : Int)) = false := decide_eq_false hin1
            go_wp2_with fail
            go_roundw
            case rel =>
              refine ⟨i + 64, by go_num, ⟨by omega, by omega, ?_, HW.out.2.2.2.2⟩⟩
              rw [strUp_past key nonce n s (i + 64) (i + j) (by omega) (by omega)]
              exact HW.out.2.2.2.1
            case measure => simp [intOf]; omega
        · have hj2 : j = 64 := by omega
          have hjn : ¬ (j : Int) < 64 := by omega
          have hjd : decide ((j : Int) < 64) = false := decide_eq_false hjn
          go_wp2_with fail
          go_roundw
          case rel => exact ⟨i + 64, by go_num, ⟨by omega, by omega, hj2 ▸ HW.out.2.2.2.1, HW.out.2.2.2.2⟩⟩
          case measure => simp [intOf]; omega
    · have hn1 : ¬ (i : Int) < (s.size : Int) := by omega
      have hn2 : decide ((i : Int) < (s.size : Int)) = false := decide_eq_false hn1
      have kc := fun cap => Bts.string (P := Try.prog) HW.out.2.2.1 Try.underlying70 Try.underlying5 Try.underlying9 s.size cap (by rw [cast_length, strUp_length])
      rw [strUp_all key nonce n s i (by omega)] at kc
      go_wp2_with fail
      go_ret2
      exact ⟨rfl, HG.out ▸ HW.out.2.2.2⟩
set_option maxHeartbeats 1000000 in
theorem stream_bad1 (key nonce : ByteArray) (n : Int) (s : ByteArray) (w : World) (h : ¬ (key.size = 32 ∧ nonce.size = 12)) :
    Calls Try.prog 62 #[.string key, .string nonce, .int .i64 n, .string s] w fun e w' => e = .returned (.tuple #[.string none_, .int .i64 1]) ∧ Below w.heap.size w w' := by
  by_cases hk : key.size = 32
  · have b1 : ((key.size : Int) != 32) = false := by rw [hk]; rfl
    have b2 : ((nonce.size : Int) != 12) = true := by rw [bne_iff_ne]; omega
    clear hk h
    go_enter Try.func62, Try.ntmps62
    go_wp2_with fail
    go_ret2
    exact ⟨rfl, Below.refl _ _⟩
  · have b1 : ((key.size : Int) != 32) = true := by rw [bne_iff_ne]; omega
    clear hk h
    go_enter Try.func62, Try.ntmps62
    go_wp2_with fail
    go_ret2
    exact ⟨rfl, Below.refl _ _⟩
set_option maxHeartbeats 1000000 in
theorem stream_bad2 (key nonce : ByteArray) (n : Int) (s : ByteArray) (w : World) (hk : key.size = 32) (hc : nonce.size = 12) (hs : s.size ≤ 140737488351232) (hn : -9223372036854775808 ≤ n) (hn2 : n ≤ 9223372036854775807)
    (h : ¬ (0 ≤ n ∧ n < 4294967296 ∧ ((s.size : Int) + 63) / 64 ≤ 4294967296 - n)) :
    Calls Try.prog 62 #[.string key, .string nonce, .int .i64 n, .string s] w fun e w' => e = .returned (.tuple #[.string none_, .int .i64 2]) ∧ Below w.heap.size w w' := by
  have b1 : ((key.size : Int) != 32) = false := by rw [hk]; rfl
  have b2 : ((nonce.size : Int) != 12) = false := by rw [hc]; rfl
  by_cases h3 : n < 0
  · have b3 : decide (n < 0) = true := decide_eq_true h3
    clear hk hc h h3
    go_enter Try.func62, Try.ntmps62
    go_wp2_with fail
    go_ret2
    exact ⟨rfl, Below.refl _ _⟩
  · have b3 : decide (n < 0) = false := decide_eq_false h3
    by_cases h4 : (4294967296 : Int) ≤ n
    · have b4 : decide ((4294967296 : Int) ≤ n) = true := decide_eq_true h4
      clear hk hc h h3 h4
      go_enter Try.func62, Try.ntmps62
      go_wp2_with fail
      go_ret2
      exact ⟨rfl, Below.refl _ _⟩
    · have b4 : decide ((4294967296 : Int) ≤ n) = false := decide_eq_false h4
      have b5 : decide (4294967296 - n < ((s.size : Int) + 63) / 64) = true := decide_eq_true (by omega)
      have e0 : 0 ≤ n := by omega
      have e1 : n < 4294967296 := by omega
      clear hk hc h h3 h4
      go_enter Try.func62, Try.ntmps62
      go_wp2_with fail
      go_ret2
      exact ⟨rfl, Below.refl _ _⟩
def box_Stream.f (a0 a1 : ByteArray) (a2 : Int) (a3 : ByteArray) : Option (ByteArray × Int) := if a3.size ≤ 140737488351232 ∧ -9223372036854775808 ≤ a2 ∧ a2 ≤ 9223372036854775807 then some (Spec.streamF a0 a1 a2 a3) else none
end Go.Proofs.Ytajndpddlpnbkaa.B
