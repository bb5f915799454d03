/- box.left, box.quarter: ChaCha20's quarter round on an array. -/
import Derived.Test.YtajndpddlpnbkaaHBytes
import Derived.Deep.CutBlock
import Derived.Deep.DeepCutAuto
namespace Go.Proofs.Ytajndpddlpnbkaa.B
open Go.RowKit Go.Proofs.YtajndpddlpnbkaaW.PrintWords Go.Proofs.Ytajndpddlpnbkaa.Spec
theorem rotl_of (x n : Nat) (hx : x < M32) : bits .or .u32 ((x : Int) * 2 ^ n % 4294967296) ((x : Int) / 2 ^ (32 - n)) = ((rotl x n : Nat) : Int) := by
  unfold M32 at hx
  have e1 : (x : Int) * 2 ^ n % 4294967296 = ((x * 2 ^ n % 4294967296 : Nat) : Int) := by simp
  have e2 : (x : Int) / 2 ^ (32 - n) = ((x / 2 ^ (32 - n) : Nat) : Int) := by rw [Int.natCast_ediv]; simp
  rw [e1, e2, u32_or_nat _ _ (by omega) (Nat.lt_of_le_of_lt (Nat.div_le_self _ _) hx)]
  rfl
theorem rotl_lt (x n : Nat) (hx : x < M32) : rotl x n < M32 := by
  unfold rotl M32 at *
  exact Nat.or_lt_two_pow (n := 32) (Nat.mod_lt _ (by decide)) (Nat.lt_of_le_of_lt (Nat.div_le_self _ _) hx)
set_option maxHeartbeats 400000 in
theorem left_any (x n : Nat) (w : World) (hx : x < M32) (hn : 0 < n) (hn2 : n < 32) :
    Calls Try.prog 113 #[.int .u32 (x : Int), .int .i64 (n : Int)] w fun e w' => e = .returned (.int .u32 (rotl x n : Nat)) ∧ ∃ m, w' = w.drewN m := by
  have hr := Aside0.mk (rotl_of x n hx)
  have h0 : (0 : Int) ≤ (n : Int) := by omega
  have h1 : (n : Int) < 32 := by omega
  have h2 : (0 : Int) ≤ 32 - (n : Int) := by omega
  have h3 : (32 : Int) - (n : Int) = ((32 - n : Nat) : Int) := by omega
  have h4 : ((32 : Int) - (n : Int)).toNat = 32 - n := by omega
  clear h3
  go_enter Try.func113, Try.ntmps113
  go_wp2
  go_quiet (fail)
  go_wp2
  go_ret
  exact ⟨congrArg (fun z => Ending.returned (.int .u32 z)) hr.out, _, rfl⟩
theorem at_lt {ns : List Nat} (h : ∀ x ∈ ns, x < M32) (i : Nat) : at_ ns i < M32 := by
  unfold at_
  rw [List.getD_eq_getElem?_getD]
  cases e : ns[i]? with
  | none => simp [M32]
  | some b => exact h b (List.mem_of_getElem? e)
theorem set_lt {ns : List Nat} (h : ∀ x ∈ ns, x < M32) (i v : Nat) (hv : v < M32) : ∀ x ∈ ns.set i v, x < M32 := by
  intro x hx
  rcases List.mem_or_eq_of_mem_set hx with h1 | h1
  · exact h x h1
  · subst h1; exact hv
theorem cast_set (ns : List Nat) (i v : Nat) : cast (ns.set i v) = (cast ns).set i (v : Int) := by simp [cast, List.map_set]
/-- The array, all words small, what else is there untouched. -/
structure Words (w wc : World) (g : Nat) (t : TypeId) (ns : List Nat) : Prop where
  arr : Arr wc g t .u32 (cast ns)
  len : ns.length = 16
  lt : ∀ x ∈ ns, x < M32
  grown : w.grownBy wc (some g)
theorem Words.cell {w wc : World} {g : Nat} {t : TypeId} {ns : List Nat} (h : Words w wc g t ns) (i : Nat) (hi : i < 16) : wc.cell? ⟨g, i, none⟩ = some (.int .u32 ((at_ ns i : Nat) : Int)) := by
  have := h.arr.at_ i (by rw [cast_length, h.len]; exact hi)
  rw [el_cast] at this
  exact this
theorem Words.put {w wc : World} {g : Nat} {t : TypeId} {ns : List Nat} (h : Words w wc g t ns) (i v : Nat) (hv : v < M32) (n : Nat) : Words w ((wc.setCell ⟨g, i, none⟩ (.int .u32 (v : Int))).drewN n) g t (ns.set i v) := by
  refine ⟨?_, by simp [h.len], set_lt h.lt i v hv, ?_⟩
  · rw [cast_set]; exact (h.arr.store i _).drewN n
  · have h1 : w.grownBy (wc.setCell ⟨g, i, none⟩ (.int .u32 (v : Int))) (some g) := h.grown.trans (by exact Lib.grownBy_setCell wc g i _)
    exact ⟨h1.os, h1.tape, h1.output, h1.size, h1.block⟩
theorem mod32_lt (a b : Nat) : (a + b) % M32 < M32 := Nat.mod_lt _ (by decide)
theorem xor32_lt {a b : Nat} (ha : a < M32) (hb : b < M32) : a ^^^ b < M32 := Nat.xor_lt_two_pow (n := 32) ha hb
set_option maxRecDepth 100000 in
set_option maxHeartbeats 4000000 in
theorem quarter_any (g a b c d : Nat) (ns : List Nat) (w : World) (h : Words w w g 147 ns) (ha : a < 16) (hb : b < 16) (hc : c < 16) (hd : d < 16) :
    Calls Try.prog 95 #[.pointer (some ⟨g, 0, none⟩), .int .i64 (a : Int), .int .i64 (b : Int), .int .i64 (c : Int), .int .i64 (d : Int)] w fun e w' => e = .returned (.tuple #[]) ∧ Words w w' g 147 (qr ns a b c d) := by
  have H0 := Aside0.mk h
  clear h
  have a0 : (0 : Int) ≤ (a : Int) := by omega
  have a1 : (a : Int) < 16 := by omega
  have b0 : (0 : Int) ≤ (b : Int) := by omega
  have b1 : (b : Int) < 16 := by omega
  have c0 : (0 : Int) ≤ (c : Int) := by omega
  have c1 : (c : Int) < 16 := by omega
  have d0 : (0 : Int) ≤ (d : Int) := by omega
  have d1 : (d : Int) < 16 := by omega
  go_enter Try.func95, Try.ntmps95
  obtain ⟨ns1, N1⟩ : ∃ l : List Nat, Aside0 (l = ns.set a ((at_ ns a + at_ ns b) % M32)) := ⟨_, ⟨rfl⟩⟩
  go_upto_region 0 with (fail)
  go_cut [] (fun wc => Aside0 (Words w wc g 147 ns1))
  case first =>
    have hp := H0.out.cell a ha
    have hq := H0.out.cell b hb
    have fp := H0.out.arr.free a
    have lp := at_lt H0.out.lt a
    have lq := at_lt H0.out.lt b
    obtain ⟨u, hu⟩ : ∃ u, u = at_ ns a := ⟨_, rfl⟩
    obtain ⟨v, hv⟩ : ∃ v, v = at_ ns b := ⟨_, rfl⟩
    rw [← hu] at hp lp
    rw [← hv] at hq lq
    have HP := Aside0.mk lp
    have HQ := Aside0.mk lq
    have HU := Aside0.mk hu
    have HV := Aside0.mk hv
    unfold M32 at lp lq
    clear hu hv
    go_region
    go_wp2_with fail
    go_meet
    case rel =>
      refine ⟨?_⟩
      rw [N1.out, ← HU.out, ← HV.out]
      have z := H0.out.put a ((u + v) % M32) (mod32_lt _ _) 1
      rw [show (((u + v) % M32 : Nat) : Int) = ((u : Int) + (v : Int)) % 4294967296 from by simp [M32]] at z
      exact z
  case rest =>
  have H1 := hcut
  clear hcut H0
  obtain ⟨ns2, N2⟩ : ∃ l : List Nat, Aside0 (l = ns1.set d (rotl (at_ ns1 d ^^^ at_ ns1 a) 16)) := ⟨_, ⟨rfl⟩⟩
  go_upto_region 1 with (fail)
  go_cut [] (fun wc => Aside0 (Words w wc g 147 ns2))
  case first =>
    have hp := H1.out.cell d hd
    have hq := H1.out.cell a ha
    have fp := H1.out.arr.free d
    have lp := at_lt H1.out.lt d
    have lq := at_lt H1.out.lt a
    obtain ⟨u, hu⟩ : ∃ u, u = at_ ns1 d := ⟨_, rfl⟩
    obtain ⟨v, hv⟩ : ∃ v, v = at_ ns1 a := ⟨_, rfl⟩
    rw [← hu] at hp lp
    rw [← hv] at hq lq
    have HP := Aside0.mk lp
    have HQ := Aside0.mk lq
    have HU := Aside0.mk hu
    have HV := Aside0.mk hv
    unfold M32 at lp lq
    clear hu hv
    obtain ⟨z, hz, lz, HZ⟩ : ∃ z : Nat, bits .xor .u32 (u : Int) (v : Int) = (z : Int) ∧ z < M32 ∧ Aside0 (z = u ^^^ v) := ⟨_, u32_xor_nat u v lp lq, xor32_lt HP.out HQ.out, ⟨rfl⟩⟩
    have lr := rotl_lt z 16 lz
    go_region_with (go_at_call 113; refine (left_any z 16 _ lz (by omega) (by omega)).mono ?_; rintro e w' ⟨rfl, m, rfl⟩)
    all_goals
      go_wp2_with fail
      go_meet
      case rel =>
        refine ⟨?_⟩
        rw [N2.out, ← HU.out, ← HV.out, ← HZ.out]
        exact H1.out.put d (rotl z 16) lr _
  case rest =>
  have H2 := hcut
  clear hcut H1
  obtain ⟨ns3, N3⟩ : ∃ l : List Nat, Aside0 (l = ns2.set c ((at_ ns2 c + at_ ns2 d) % M32)) := ⟨_, ⟨rfl⟩⟩
  go_upto_region 2 with (fail)
  go_cut [] (fun wc => Aside0 (Words w wc g 147 ns3))
  case first =>
    have hp := H2.out.cell c hc
    have hq := H2.out.cell d hd
    have fp := H2.out.arr.free c
    have lp := at_lt H2.out.lt c
    have lq := at_lt H2.out.lt d
    obtain ⟨u, hu⟩ : ∃ u, u = at_ ns2 c := ⟨_, rfl⟩
    obtain ⟨v, hv⟩ : ∃ v, v = at_ ns2 d := ⟨_, rfl⟩
    rw [← hu] at hp lp
    rw [← hv] at hq lq
    have HP := Aside0.mk lp
    have HQ := Aside0.mk lq
    have HU := Aside0.mk hu
    have HV := Aside0.mk hv
    unfold M32 at lp lq
    clear hu hv
    go_region
    go_wp2_with fail
    go_meet
    case rel =>
      refine ⟨?_⟩
      rw [N3.out, ← HU.out, ← HV.out]
      have z := H2.out.put c ((u + v) % M32) (mod32_lt _ _) 1
      rw [show (((u + v) % M32 : Nat) : Int) = ((u : Int) + (v : Int)) % 4294967296 from by simp [M32]] at z
      exact z
  case rest =>
  have H3 := hcut
  clear hcut H2
  obtain ⟨ns4, N4⟩ : ∃ l : List Nat, Aside0 (l = ns3.set b (rotl (at_ ns3 b ^^^ at_ ns3 c) 12)) := ⟨_, ⟨rfl⟩⟩
  go_upto_region 3 with (fail)
  go_cut [] (fun wc => Aside0 (Words w wc g 147 ns4))
  case first =>
    have hp := H3.out.cell b hb
    have hq := H3.out.cell c hc
    have fp := H3.out.arr.free b
    have lp := at_lt H3.out.lt b
    have lq := at_lt H3.out.lt c
    obtain ⟨u, hu⟩ : ∃ u, u = at_ ns3 b := ⟨_, rfl⟩
    obtain ⟨v, hv⟩ : ∃ v, v = at_ ns3 c := ⟨_, rfl⟩
    rw [← hu] at hp lp
    rw [← hv] at hq lq
    have HP := Aside0.mk lp
    have HQ := Aside0.mk lq
    have HU := Aside0.mk hu
    have HV := Aside0.mk hv
    unfold M32 at lp lq
    clear hu hv
    obtain ⟨z, hz, lz, HZ⟩ : ∃ z : Nat, bits .xor .u32 (u : Int) (v : Int) = (z : Int) ∧ z < M32 ∧ Aside0 (z = u ^^^ v) := ⟨_, u32_xor_nat u v lp lq, xor32_lt HP.out HQ.out, ⟨rfl⟩⟩
    have lr := rotl_lt z 12 lz
    go_region_with (go_at_call 113; refine (left_any z 12 _ lz (by omega) (by omega)).mono ?_; rintro e w' ⟨rfl, m, rfl⟩)
    all_goals
      go_wp2_with fail
      go_meet
      case rel =>
        refine ⟨?_⟩
        rw [N4.out, ← HU.out, ← HV.out, ← HZ.out]
        exact H3.out.put b (rotl z 12) lr _
  case rest =>
  have H4 := hcut
  clear hcut H3
  obtain ⟨ns5, N5⟩ : ∃ l : List Nat, Aside0 (l = ns4.set a ((at_ ns4 a + at_ ns4 b) % M32)) := ⟨_, ⟨rfl⟩⟩
  go_upto_region 4 with (fail)
  go_cut [] (fun wc => Aside0 (Words w wc g 147 ns5))
  case first =>
    have hp := H4.out.cell a ha
    have hq := H4.out.cell b hb
    have fp := H4.out.arr.free a
    have lp := at_lt H4.out.lt a
    have lq := at_lt H4.out.lt b
    obtain ⟨u, hu⟩ : ∃ u, u = at_ ns4 a := ⟨_, rfl⟩
    obtain ⟨v, hv⟩ : ∃ v, v = at_ ns4 b := ⟨_, rfl⟩
    rw [← hu] at hp lp
    rw [← hv] at hq lq
    have HP := Aside0.mk lp
    have HQ := Aside0.mk lq
    have HU := Aside0.mk hu
    have HV := Aside0.mk hv
    unfold M32 at lp lq
    clear hu hv
    go_region
    go_wp2_with fail
    go_meet
    case rel =>
      refine ⟨?_⟩
      rw [N5.out, ← HU.out, ← HV.out]
      have z := H4.out.put a ((u + v) % M32) (mod32_lt _ _) 1
      rw [show (((u + v) % M32 : Nat) : Int) = ((u : Int) + (v : Int)) % 4294967296 from by simp [M32]] at z
      exact z
  case rest =>
  have H5 := hcut
  clear hcut H4
  obtain ⟨ns6, N6⟩ : ∃ l : List Nat, Aside0 (l = ns5.set d (rotl (at_ ns5 d ^^^ at_ ns5 a) 8)) := ⟨_, ⟨rfl⟩⟩
  go_upto_region 5 with (fail)
  go_cut [] (fun wc => Aside0 (Words w wc g 147 ns6))
  case first =>
    have hp := H5.out.cell d hd
    have hq := H5.out.cell a ha
    have fp := H5.out.arr.free d
    have lp := at_lt H5.out.lt d
    have lq := at_lt H5.out.lt a
    obtain ⟨u, hu⟩ : ∃ u, u = at_ ns5 d := ⟨_, rfl⟩
    obtain ⟨v, hv⟩ : ∃ v, v = at_ ns5 a := ⟨_, rfl⟩
    rw [← hu] at hp lp
    rw [← hv] at hq lq
    have HP := Aside0.mk lp
    have HQ := Aside0.mk lq
    have HU := Aside0.mk hu
    have HV := Aside0.mk hv
    unfold M32 at lp lq
    clear hu hv
    obtain ⟨z, hz, lz, HZ⟩ : ∃ z : Nat, bits .xor .u32 (u : Int) (v : Int) = (z : Int) ∧ z < M32 ∧ Aside0 (z = u ^^^ v) := ⟨_, u32_xor_nat u v lp lq, xor32_lt HP.out HQ.out, ⟨rfl⟩⟩
    have lr := rotl_lt z 8 lz
    go_region_with (go_at_call 113; refine (left_any z 8 _ lz (by omega) (by omega)).mono ?_; rintro e w' ⟨rfl, m, rfl⟩)
    all_goals
      go_wp2_with fail
      go_meet
      case rel =>
        refine ⟨?_⟩
        rw [N6.out, ← HU.out, ← HV.out, ← HZ.out]
        exact H5.out.put d (rotl z 8) lr _
  case rest =>
  have H6 := hcut
  clear hcut H5
  obtain ⟨ns7, N7⟩ : ∃ l : List Nat, Aside0 (l = ns6.set c ((at_ ns6 c + at_ ns6 d) % M32)) := ⟨_, ⟨rfl⟩⟩
  go_upto_region 6 with (fail)
  go_cut [] (fun wc => Aside0 (Words w wc g 147 ns7))
  case first =>
    have hp := H6.out.cell c hc
    have hq := H6.out.cell d hd
    have fp := H6.out.arr.free c
    have lp := at_lt H6.out.lt c
    have lq := at_lt H6.out.lt d
    obtain ⟨u, hu⟩ : ∃ u, u = at_ ns6 c := ⟨_, rfl⟩
    obtain ⟨v, hv⟩ : ∃ v, v = at_ ns6 d := ⟨_, rfl⟩
    rw [← hu] at hp lp
    rw [← hv] at hq lq
    have HP := Aside0.mk lp
    have HQ := Aside0.mk lq
    have HU := Aside0.mk hu
    have HV := Aside0.mk hv
    unfold M32 at lp lq
    clear hu hv
    go_region
    go_wp2_with fail
    go_meet
    case rel =>
      refine ⟨?_⟩
      rw [N7.out, ← HU.out, ← HV.out]
      have z := H6.out.put c ((u + v) % M32) (mod32_lt _ _) 1
      rw [show (((u + v) % M32 : Nat) : Int) = ((u : Int) + (v : Int)) % 4294967296 from by simp [M32]] at z
      exact z
  case rest =>
  have H7 := hcut
  clear hcut H6
  obtain ⟨ns8, N8⟩ : ∃ l : List Nat, Aside0 (l = ns7.set b (rotl (at_ ns7 b ^^^ at_ ns7 c) 7)) := ⟨_, ⟨rfl⟩⟩
  go_upto_region 7 with (fail)
  focus
    have hp := H7.out.cell b hb
    have hq := H7.out.cell c hc
    have fp := H7.out.arr.free b
    have lp := at_lt H7.out.lt b
    have lq := at_lt H7.out.lt c
    obtain ⟨u, hu⟩ : ∃ u, u = at_ ns7 b := ⟨_, rfl⟩
    obtain ⟨v, hv⟩ : ∃ v, v = at_ ns7 c := ⟨_, rfl⟩
    rw [← hu] at hp lp
    rw [← hv] at hq lq
    have HP := Aside0.mk lp
    have HQ := Aside0.mk lq
    have HU := Aside0.mk hu
    have HV := Aside0.mk hv
    unfold M32 at lp lq
    clear hu hv
    obtain ⟨z, hz, lz, HZ⟩ : ∃ z : Nat, bits .xor .u32 (u : Int) (v : Int) = (z : Int) ∧ z < M32 ∧ Aside0 (z = u ^^^ v) := ⟨_, u32_xor_nat u v lp lq, xor32_lt HP.out HQ.out, ⟨rfl⟩⟩
    have lr := rotl_lt z 7 lz
    go_region_with (go_at_call 113; refine (left_any z 7 _ lz (by omega) (by omega)).mono ?_; rintro e w' ⟨rfl, m, rfl⟩)
    all_goals
      go_wp2_with fail
      have e8 : Aside0 (ns8 = qr ns a b c d) := ⟨by rw [N8.out, N7.out, N6.out, N5.out, N4.out, N3.out, N2.out, N1.out]; rfl⟩
      have w8 : ∀ m, Words w ((_ : World).drewN m) g 147 ns8 := fun m => by
        rw [N8.out, ← HU.out, ← HV.out, ← HZ.out]
        exact H7.out.put b (rotl z 7) lr m
      rw [e8.out] at w8
      go_end0
      exact ⟨rfl, w8 _⟩
end Go.Proofs.Ytajndpddlpnbkaa.B
