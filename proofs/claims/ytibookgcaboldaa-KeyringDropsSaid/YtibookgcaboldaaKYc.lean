/- A pass phrase is changed, by the program and by the document. -/
import Derived.Test.YtibookgcaboldaaKYb
set_option maxRecDepth 10000
set_option linter.unusedVariables false
namespace Go.Proofs.Ytibookgcaboldaa.V
open Go.Proofs.Ytibookgcaboldaa.VL Go.Proofs.Ytibookgcaboldaa.VL.RD Go.Proofs.Ytibookgcaboldaa.VL.Sha
attribute [local irreducible] Run sealB openB stretchB bndB
def grownK (k : KeysT) : KeysT × Int := if 4294967295 ≤ k.gen then (zeroK, 2) else (⟨k.gen + 1, k.sl⟩, 0)
set_option maxHeartbeats 1000000 in
theorem grown_spec (q : View) (k : KeysT) (hk : k.sl.length = 4) (g1 : k.gen ≤ 9223372036854775807) (g0 : 0 ≤ k.gen) : FnD Try.prog q 49 [.agg ⟨encKeys k⟩] [] (.tuple #[.agg ⟨encKeys (grownK k).1⟩, .int .i64 (grownK k).2]) [] := by
  have hz := encKs_len k.sl
  rw [hk] at hz
  have hl := encKeys_len hk
  unfold grownK
  (first | refine FnD.go Try.call49 Try.func49 rfl rfl rfl ?_ | refine FnX.go Try.call49 Try.func49 rfl rfl rfl ?_)
  (repeat (first | refine g ?_))
  refine s_box fun b => ?_
  refine s_ceq b (.int .i64 k.gen :: encKs k.sl) ?_ ?_
  · rfl
  (repeat (first | refine g ?_))
  refine s_alloc fun rk => ?_
  (repeat (first | refine g ?_))
  by_cases h1 : 4294967295 ≤ k.gen
  · rw [if_pos h1]
    (repeat (first | refine g ?_))
    refine s_ret2 (imp_RD ?_ shut)
    rfl
  · rw [if_neg h1]
    have hl2 := encKeys_len (k := ⟨k.gen + 1, k.sl⟩) hk
    have ho2 := encKeys_one ⟨k.gen + 1, k.sl⟩
    (repeat (first | refine g ?_))
    refine s_storeset ?_
    refine s_ceq b (encKeys ⟨k.gen + 1, k.sl⟩) ?_ ?_
    · rfl
    obtain ⟨E, hE⟩ : ∃ E, E = encKeys ⟨k.gen + 1, k.sl⟩ := ⟨_, rfl⟩
    rw [← hE] at hl2 ho2 ⊢
    (repeat (first | refine g ?_))
    refine s_getall (hz := hl2) ?_
    (repeat (first | refine g ?_))
    refine s_putall (h1 := ho2) (hz := hl2) (hi := by rw [hl2]; rfl) ?_
    (repeat (first | refine g ?_))
    refine run_ret2 (imp_RD ?_ shut) rfl (res_cell tabOk rfl rfl rfl (by repeat (first | (with_reducible exact At.head) | apply At.tail)) hl2) (res_tmp rfl)
    rfl
theorem rightK_gen {k : KeysT} (h : rightK k = true) : 0 ≤ k.gen ∧ k.gen < 4294967296 := by
  unfold rightK at h
  simp only [Bool.and_eq_true, decide_eq_true_eq] at h
  exact h.2.2
end Go.Proofs.Ytibookgcaboldaa.V
namespace Go.Proofs.Ytibookgcaboldaa.V
open Go.Proofs.Ytibookgcaboldaa.VL Go.Proofs.Ytibookgcaboldaa.VL.RD Go.Proofs.Ytibookgcaboldaa.VL.Sha
attribute [local irreducible] Run sealB openB stretchB bndB
def usedAt (l : List SlotT) (w : Int) : Bool := if 0 ≤ w ∧ w ≤ 3 then (match l[w.toNat]? with | some s => s.used | none => false) else false
def dropped (k : KeysT) (w : Int) : KeysT := ⟨k.gen, k.sl.set w.toNat zeroS⟩
def dropK (k : KeysT) (pa : ByteArray) (w : Int) : KeysT × Int :=
  if (openK k pa).2.2 = 0 then
    if usedAt k.sl w = true then
      if rightK (dropped k w) = true then grownK (dropped k w) else (zeroK, 52)
    else (zeroK, 41)
  else (zeroK, (openK k pa).2.2)
theorem dropped_ok {k : KeysT} (hk : KeysOk k) (w : Int) : KeysOk (dropped k w) := ⟨hk.g0, hk.g1, by unfold dropped; dsimp only; rw [List.length_set]; exact hk.len, fun s hs => by
  unfold dropped at hs
  dsimp only at hs
  rcases List.mem_or_eq_of_mem_set hs with h | h
  · exact hk.ok s h
  · rw [h]; exact zeroOk⟩
set_option maxHeartbeats 2000000 in
theorem dropK_spec (q : View) (k : KeysT) (hk : KeysOk k) (pa : ByteArray) (w : Int) (w0 : -9223372036854775808 ≤ w) (w1 : w ≤ 9223372036854775807) (hp : pa.size ≤ 1000000) :
    FnD Try.prog q 26 [.agg ⟨encKeys k⟩, .string pa, .int .i64 w] [] (.tuple #[.agg ⟨encKeys (dropK k pa w).1⟩, .int .i64 (dropK k pa w).2]) [] := by
  have co := openK_spec q k hk pa hp
  have hl := encKeys_len hk.len
  have hop := openK_place k pa
  unfold dropK
  obtain ⟨⟨m, i, e⟩, hO⟩ : ∃ O, O = openK k pa := ⟨_, rfl⟩
  rw [← hO] at co hop ⊢
  dsimp only at co hop ⊢
  (first | refine FnD.go Try.call26 Try.func26 rfl rfl rfl ?_ | refine FnX.go Try.call26 Try.func26 rfl rfl rfl ?_)
  (repeat (first | refine g ?_))
  refine s_box fun b => ?_
  refine s_ceq b (encKeys k) ?_ ?_
  · rfl
  (repeat (first | refine g ?_))
  refine s_alloc fun rk => ?_
  (repeat (first | refine g ?_))
  refine s_getall (hz := hl) ?_
  (repeat (first | refine g ?_))
  refine s_call co ?_
  (repeat (first | refine g ?_))
  by_cases he : e ≠ 0
  · rw [if_neg he]
    (repeat (first | refine g ?_))
    refine s_ret2 (imp_RD ?_ shut)
    rfl
  obtain rfl : e = 0 := by omega
  rw [if_pos rfl]
  obtain ⟨hr, _, _, _, _, _, _⟩ := hop rfl
  obtain ⟨g0, g1⟩ := rightK_gen hr
  clear hop
  (repeat (first | refine g ?_))
  by_cases hw0 : w < 0
  · have hu : usedAt k.sl w = false := by unfold usedAt; rw [if_neg (by omega)]
    rw [hu, if_neg (by decide)]
    (repeat (first | refine g ?_))
    refine s_ret2 (imp_RD ?_ shut)
    rfl
  by_cases hw3 : 4 ≤ w
  · have hu : usedAt k.sl w = false := by unfold usedAt; rw [if_neg (by omega)]
    rw [hu, if_neg (by decide)]
    (repeat (first | refine g ?_))
    refine s_ret2 (imp_RD ?_ shut)
    rfl
  obtain ⟨i, rfl⟩ : ∃ i : Nat, w = i := ⟨w.toNat, by omega⟩
  obtain ⟨s, hs⟩ : ∃ s, k.sl[i]? = some s := ⟨_, List.getElem?_eq_getElem (by rw [hk.len]; omega)⟩
  obtain ⟨hi, _⟩ := List.getElem?_eq_some_iff.1 hs
  have hu : usedAt k.sl i = s.used := by unfold usedAt; rw [if_pos (by omega), Int.toNat_natCast, hs]
  have hx := encKeys_at k i s hs 0 (by decide)
  have hx : (encKeys k)[1 + i * 5]? = some (.bool s.used) := hx
  have hput := encKeys_put k i zeroS hi
  have hd : dropped k i = ⟨k.gen, k.sl.set i zeroS⟩ := by unfold dropped; rw [Int.toNat_natCast]
  have hdk := dropped_ok hk i
  rw [hd] at hdk
  have cr := rightK_spec q ⟨k.gen, k.sl.set i zeroS⟩ hdk
  have hl2 := encKeys_len hdk.len
  rw [hu, hd]
  (repeat (first | refine g ?_))
  refine s_idr (kk := 5) (1 + i * 5) ?_
  (repeat (first | refine g ?_))
  refine s_loadat hx ?_
  (repeat (first | refine g ?_))
  cases hsu : s.used with
  | false =>
    rw [if_neg (by decide)]
    (repeat (first | refine g ?_))
    refine s_ret2 (imp_RD ?_ shut)
    rfl
  | true =>
    rw [if_pos rfl]
    (repeat (first | refine g ?_))
    refine s_idr (kk := 5) (1 + i * 5) ?_
    (repeat (first | refine g ?_))
    refine s_put (vs := encS zeroS) (h1 := rfl) (hi := by rw [hl]; show 1 + i * 5 + 5 ≤ 21; omega) ?_
    rw [hput]
    (repeat (first | refine g ?_))
    refine s_getall (hz := hl2) ?_
    (repeat (first | refine g ?_))
    cases hrr : rightK ⟨k.gen, k.sl.set i zeroS⟩ with
    | false =>
      rw [hrr] at cr
      rw [if_neg (by decide)]
      refine s_call cr ?_
      (repeat (first | refine g ?_))
      refine s_ret2 (imp_RD ?_ shut)
      rfl
    | true =>
      rw [hrr] at cr
      rw [if_pos rfl]
      refine s_call cr ?_
      (repeat (first | refine g ?_))
      have cg := grown_spec q ⟨k.gen, k.sl.set i zeroS⟩ hdk.len (by show k.gen ≤ _; omega) g0
      obtain ⟨G, hG⟩ : ∃ G, G = grownK ⟨k.gen, k.sl.set i zeroS⟩ := ⟨_, rfl⟩
      have hlG : G.1.sl.length = 4 := by
        rw [hG]; unfold grownK; split
        · rfl
        · exact hdk.len
      rw [← hG] at cg ⊢
      obtain ⟨GK, ge⟩ := G
      dsimp only at cg hlG ⊢
      have hl3 := encKeys_len hlG
      have h13 := encKeys_one GK
      obtain ⟨E, hE⟩ : ∃ E, E = encKeys GK := ⟨_, rfl⟩
      rw [← hE] at hl3 h13 cg ⊢
      refine s_getall (hz := hl2) ?_
      (repeat (first | refine g ?_))
      refine s_call cg ?_
      (repeat (first | refine g ?_))
      refine s_putall (h1 := h13) (hz := hl3) (hi := by rw [hl3]; rfl) ?_
      (repeat (first | refine g ?_))
      refine run_ret2 (imp_RD ?_ shut) rfl (res_cell tabOk rfl rfl rfl (by repeat (first | (with_reducible exact At.head) | apply At.tail)) hl3) (res_tmp rfl)
      rfl
set_option maxHeartbeats 2000000 in
theorem refDropK_spec (q : View) (k : KeysT) (hk : KeysOk k) (pa : ByteArray) (w : Int) (w0 : -9223372036854775808 ≤ w) (w1 : w ≤ 9223372036854775807) (hp : pa.size ≤ 1000000) :
    FnD Try.prog q 27 [.agg ⟨encKeys k⟩, .string pa, .int .i64 w] [] (.tuple #[.agg ⟨encKeys (dropK k pa w).1⟩, .int .i64 (dropK k pa w).2]) [] := by
  have co := refOpenK_spec q k hk pa hp
  have hl := encKeys_len hk.len
  have hop := openK_place k pa
  unfold dropK
  obtain ⟨⟨m, i, e⟩, hO⟩ : ∃ O, O = openK k pa := ⟨_, rfl⟩
  rw [← hO] at co hop ⊢
  dsimp only at co hop ⊢
  (first | refine FnD.go Try.call27 Try.func27 rfl rfl rfl ?_ | refine FnX.go Try.call27 Try.func27 rfl rfl rfl ?_)
  (repeat (first | refine g ?_))
  refine s_box fun b => ?_
  refine s_ceq b (encKeys k) ?_ ?_
  · rfl
  (repeat (first | refine g ?_))
  refine s_alloc fun rk => ?_
  (repeat (first | refine g ?_))
  refine s_getall (hz := hl) ?_
  (repeat (first | refine g ?_))
  refine s_call co ?_
  (repeat (first | refine g ?_))
  by_cases he : e ≠ 0
  · rw [if_neg he]
    (repeat (first | refine g ?_))
    refine s_ret2 (imp_RD ?_ shut)
    rfl
  obtain rfl : e = 0 := by omega
  rw [if_pos rfl]
  obtain ⟨hr, _, _, _, _, _, _⟩ := hop rfl
  obtain ⟨g0, g1⟩ := rightK_gen hr
  clear hop
  (repeat (first | refine g ?_))
  by_cases hw0 : w < 0
  · have hu : usedAt k.sl w = false := by unfold usedAt; rw [if_neg (by omega)]
    rw [hu, if_neg (by decide)]
    (repeat (first | refine g ?_))
    refine s_ret2 (imp_RD ?_ shut)
    rfl
  by_cases hw3 : 4 ≤ w
  · have hu : usedAt k.sl w = false := by unfold usedAt; rw [if_neg (by omega)]
    rw [hu, if_neg (by decide)]
    (repeat (first | refine g ?_))
    refine s_ret2 (imp_RD ?_ shut)
    rfl
  obtain ⟨i, rfl⟩ : ∃ i : Nat, w = i := ⟨w.toNat, by omega⟩
  obtain ⟨s, hs⟩ : ∃ s, k.sl[i]? = some s := ⟨_, List.getElem?_eq_getElem (by rw [hk.len]; omega)⟩
  obtain ⟨hi, _⟩ := List.getElem?_eq_some_iff.1 hs
  have hu : usedAt k.sl i = s.used := by unfold usedAt; rw [if_pos (by omega), Int.toNat_natCast, hs]
  have hx := encKeys_at k i s hs 0 (by decide)
  have hx : (encKeys k)[1 + i * 5]? = some (.bool s.used) := hx
  have hput := encKeys_put k i zeroS hi
  have hd : dropped k i = ⟨k.gen, k.sl.set i zeroS⟩ := by unfold dropped; rw [Int.toNat_natCast]
  have hdk := dropped_ok hk i
  rw [hd] at hdk
  have cr := refRightK_spec q ⟨k.gen, k.sl.set i zeroS⟩ hdk
  have hl2 := encKeys_len hdk.len
  rw [hu, hd]
  (repeat (first | refine g ?_))
  refine s_idr (kk := 5) (1 + i * 5) ?_
  (repeat (first | refine g ?_))
  refine s_loadat hx ?_
  (repeat (first | refine g ?_))
  cases hsu : s.used with
  | false =>
    rw [if_neg (by decide)]
    (repeat (first | refine g ?_))
    refine s_ret2 (imp_RD ?_ shut)
    rfl
  | true =>
    rw [if_pos rfl]
    (repeat (first | refine g ?_))
    refine s_idr (kk := 5) (1 + i * 5) ?_
    (repeat (first | refine g ?_))
    refine s_put (vs := encS zeroS) (h1 := rfl) (hi := by rw [hl]; show 1 + i * 5 + 5 ≤ 21; omega) ?_
    rw [hput]
    (repeat (first | refine g ?_))
    refine s_getall (hz := hl2) ?_
    (repeat (first | refine g ?_))
    cases hrr : rightK ⟨k.gen, k.sl.set i zeroS⟩ with
    | false =>
      rw [hrr] at cr
      rw [if_neg (by decide)]
      refine s_call cr ?_
      (repeat (first | refine g ?_))
      refine s_ret2 (imp_RD ?_ shut)
      rfl
    | true =>
      rw [hrr] at cr
      rw [if_pos rfl]
      refine s_call cr ?_
      (repeat (first | refine g ?_))
      refine s_ceq b (.int .i64 k.gen :: encKs (k.sl.set i zeroS)) ?_ ?_
      · rfl
      unfold grownK
      by_cases hg : k.gen = 4294967295
      · rw [if_pos (by show 4294967295 ≤ k.gen; omega)]
        (repeat (first | refine g ?_))
        refine s_ret2 (imp_RD ?_ shut)
        rfl
      rw [if_neg (by show ¬ 4294967295 ≤ k.gen; omega)]
      (repeat (first | refine g ?_))
      refine s_storeset ?_
      refine s_ceq b (encKeys ⟨k.gen + 1, k.sl.set i zeroS⟩) ?_ ?_
      · rfl
      have hl3 := encKeys_len (k := ⟨k.gen + 1, k.sl.set i zeroS⟩) hdk.len
      have h13 := encKeys_one ⟨k.gen + 1, k.sl.set i zeroS⟩
      obtain ⟨E, hE⟩ : ∃ E, E = encKeys ⟨k.gen + 1, k.sl.set i zeroS⟩ := ⟨_, rfl⟩
      rw [← hE] at hl3 h13 ⊢
      (repeat (first | refine g ?_))
      refine s_getall (hz := hl3) ?_
      (repeat (first | refine g ?_))
      refine s_putall (h1 := h13) (hz := hl3) (hi := by rw [hl3]; rfl) ?_
      (repeat (first | refine g ?_))
      refine run_ret2 (imp_RD ?_ shut) rfl (res_cell tabOk rfl rfl rfl (by repeat (first | (with_reducible exact At.head) | apply At.tail)) hl3) (res_tmp rfl)
      rfl
end Go.Proofs.Ytibookgcaboldaa.V
namespace Go.Proofs.Ytibookgcaboldaa.V
open Go.Proofs.Ytibookgcaboldaa.VL Go.Proofs.Ytibookgcaboldaa.VL.RD Go.Proofs.Ytibookgcaboldaa.VL.Sha
attribute [local irreducible] Run sealB openB stretchB bndB
end Go.Proofs.Ytibookgcaboldaa.V
namespace Go.Proofs.Ytibookgcaboldaa.V
open Go.Proofs.Ytibookgcaboldaa.VL Go.Proofs.Ytibookgcaboldaa.VL.RD Go.Proofs.Ytibookgcaboldaa.VL.Sha
attribute [local irreducible] Run sealB openB stretchB bndB
theorem grownK_ok {k : KeysT} (hk : KeysOk k) : KeysOk (grownK k).1 := by
  unfold grownK
  split
  · exact zeroK_ok
  · have := hk.g0
    exact ⟨by show _ ≤ k.gen + 1; omega, by show k.gen + 1 ≤ _; omega, hk.len, hk.ok⟩
theorem dropK_ok {k : KeysT} (hk : KeysOk k) (pa : ByteArray) (w : Int) : KeysOk (dropK k pa w).1 := by
  unfold dropK
  split
  · split
    · split
      · exact grownK_ok (dropped_ok hk w)
      · exact zeroK_ok
    · exact zeroK_ok
  · exact zeroK_ok
set_option maxHeartbeats 1000000 in
theorem drops_spec (q : View) (k : KeysT) (hk : KeysOk k) (pa : ByteArray) (w : Int) (w0 : -9223372036854775808 ≤ w) (w1 : w ≤ 9223372036854775807) : FnD Try.prog q 7 [.agg ⟨encKeys k⟩, .string pa, .int .i64 w] [] (.bool true) [] := by
  have hf := fewK_ok hk
  have cc := cut_spec q pa
  have hz := cutB_size pa
  have c1 := dropK_spec q (fewK k) hf (cutB pa) w w0 w1 (by omega)
  have c2 := refDropK_spec q (fewK k) hf (cutB pa) w w0 w1 (by omega)
  have hK := dropK_ok hf (cutB pa) w
  have hf := fewK_ok hk
  have c0 := few_spec q k hk
  have c9 := awake_spec q
  have hl := encKeys_len hk.len
  have hlf := encKeys_len hf.len
  have h1f := encKeys_one (fewK k)
  obtain ⟨E, hE⟩ : ∃ E, E = encKeys k := ⟨_, rfl⟩
  rw [← hE] at hl c0 ⊢
  obtain ⟨F, hF⟩ : ∃ F, F = encKeys (fewK k) := ⟨_, rfl⟩
  rw [← hF] at hlf h1f c0 c1 c2
  obtain ⟨⟨K, e⟩, hO⟩ : ∃ O, O = dropK (fewK k) (cutB pa) w := ⟨_, rfl⟩
  rw [← hO] at c1 c2 hK
  dsimp only at c1 c2 hK
  have hl3 := encKeys_len hK.len
  have h13 := encKeys_one K
  have kl := keys_lits K hK
  have hfm := keys_formed (encKeys K) hl3
  obtain ⟨G, hG⟩ : ∃ G, G = encKeys K := ⟨_, rfl⟩
  rw [← hG] at hl3 h13 kl c1 c2 hfm
  (first | refine FnD.go Try.call7 Try.func7 rfl rfl rfl ?_ | refine FnX.go Try.call7 Try.func7 rfl rfl rfl ?_)
  (repeat (first | refine g ?_))
  refine s_box fun b => ?_
  refine s_ceq b E ?_ ?_
  · rfl
  (repeat (first | refine g ?_))
  refine s_getall (hz := hl) ?_
  (repeat (first | refine g ?_))
  refine s_call c0 ?_
  (repeat (first | refine g ?_))
  refine s_putall (h1 := h1f) (hz := hlf) (hi := by rw [hl]; exact hlf) ?_
  (repeat (first | refine g ?_))
  refine d_start [] ?_
  refine d_getall 0 hlf ?_
  (first | refine d_pure 1 ?_ | refine d_load 1 ?_ | refine d_arith 1 ?_ | refine d_rem 1 ?_ | refine d_quo 1 ?_ | refine d_shrv 1 ?_ | refine d_fieldat 1 ?_ | refine d_idx1 1 ?_ | refine d_index 1 ?_ | refine d_conv64 1 ?_ | refine d_slices 1 ?_ | refine d_concat 1 ?_ | refine d_build 1 ?_)
  (first | refine d_pure 3 ?_ | refine d_load 3 ?_ | refine d_arith 3 ?_ | refine d_rem 3 ?_ | refine d_quo 3 ?_ | refine d_shrv 3 ?_ | refine d_fieldat 3 ?_ | refine d_idx1 3 ?_ | refine d_index 3 ?_ | refine d_conv64 3 ?_ | refine d_slices 3 ?_ | refine d_concat 3 ?_ | refine d_build 3 ?_)
  refine d_two 2 8 ?_ ?_
  · refine d_ovia1 2 (h1 := by refine s_call cc ?_; exact run_fin1) (h := ?_)
    refine d_two 4 8 ?_ ?_
    · refine d_ovia1 4 (h1 := by refine s_call c1 ?_; exact run_fin1) (h := ?_)
      (first | refine d_pure 5 ?_ | refine d_load 5 ?_ | refine d_arith 5 ?_ | refine d_rem 5 ?_ | refine d_quo 5 ?_ | refine d_shrv 5 ?_ | refine d_fieldat 5 ?_ | refine d_idx1 5 ?_ | refine d_index 5 ?_ | refine d_conv64 5 ?_ | refine d_slices 5 ?_ | refine d_concat 5 ?_ | refine d_build 5 ?_)
      (first | refine d_pure 6 ?_ | refine d_load 6 ?_ | refine d_arith 6 ?_ | refine d_rem 6 ?_ | refine d_quo 6 ?_ | refine d_shrv 6 ?_ | refine d_fieldat 6 ?_ | refine d_idx1 6 ?_ | refine d_index 6 ?_ | refine d_conv64 6 ?_ | refine d_slices 6 ?_ | refine d_concat 6 ?_ | refine d_build 6 ?_)
      (first | refine d_pure 7 ?_ | refine d_load 7 ?_ | refine d_arith 7 ?_ | refine d_rem 7 ?_ | refine d_quo 7 ?_ | refine d_shrv 7 ?_ | refine d_fieldat 7 ?_ | refine d_idx1 7 ?_ | refine d_index 7 ?_ | refine d_conv64 7 ?_ | refine d_slices 7 ?_ | refine d_concat 7 ?_ | refine d_build 7 ?_)
      refine d_via 8 (X := Nat) (h1 := by refine s_alloc fun r => ?_; exact run_fin r) (h := fun b1 => ?_)
      refine d_via1 9 (h1 := by refine s_putall (h1 := h13) (hz := hl3) (hi := by rw [hl3]; rfl) ?_; exact run_fin1) (h := ?_)
      (first | refine d_pure 10 ?_ | refine d_load 10 ?_ | refine d_arith 10 ?_ | refine d_rem 10 ?_ | refine d_quo 10 ?_ | refine d_shrv 10 ?_ | refine d_fieldat 10 ?_ | refine d_idx1 10 ?_ | refine d_index 10 ?_ | refine d_conv64 10 ?_ | refine d_slices 10 ?_ | refine d_concat 10 ?_ | refine d_build 10 ?_)
      refine d_done ?_
      (repeat (first | refine g ?_))
      refine d_start [] ?_
      refine d_getall 0 hlf ?_
      (first | refine d_pure 1 ?_ | refine d_load 1 ?_ | refine d_arith 1 ?_ | refine d_rem 1 ?_ | refine d_quo 1 ?_ | refine d_shrv 1 ?_ | refine d_fieldat 1 ?_ | refine d_idx1 1 ?_ | refine d_index 1 ?_ | refine d_conv64 1 ?_ | refine d_slices 1 ?_ | refine d_concat 1 ?_ | refine d_build 1 ?_)
      (first | refine d_pure 3 ?_ | refine d_load 3 ?_ | refine d_arith 3 ?_ | refine d_rem 3 ?_ | refine d_quo 3 ?_ | refine d_shrv 3 ?_ | refine d_fieldat 3 ?_ | refine d_idx1 3 ?_ | refine d_index 3 ?_ | refine d_conv64 3 ?_ | refine d_slices 3 ?_ | refine d_concat 3 ?_ | refine d_build 3 ?_)
      refine d_two 2 8 ?_ ?_
      · refine d_ovia1 2 (h1 := by refine s_call cc ?_; exact run_fin1) (h := ?_)
        refine d_two 4 8 ?_ ?_
        · refine d_ovia1 4 (h1 := by refine s_call c2 ?_; exact run_fin1) (h := ?_)
          (first | refine d_pure 5 ?_ | refine d_load 5 ?_ | refine d_arith 5 ?_ | refine d_rem 5 ?_ | refine d_quo 5 ?_ | refine d_shrv 5 ?_ | refine d_fieldat 5 ?_ | refine d_idx1 5 ?_ | refine d_index 5 ?_ | refine d_conv64 5 ?_ | refine d_slices 5 ?_ | refine d_concat 5 ?_ | refine d_build 5 ?_)
          (first | refine d_pure 6 ?_ | refine d_load 6 ?_ | refine d_arith 6 ?_ | refine d_rem 6 ?_ | refine d_quo 6 ?_ | refine d_shrv 6 ?_ | refine d_fieldat 6 ?_ | refine d_idx1 6 ?_ | refine d_index 6 ?_ | refine d_conv64 6 ?_ | refine d_slices 6 ?_ | refine d_concat 6 ?_ | refine d_build 6 ?_)
          (first | refine d_pure 7 ?_ | refine d_load 7 ?_ | refine d_arith 7 ?_ | refine d_rem 7 ?_ | refine d_quo 7 ?_ | refine d_shrv 7 ?_ | refine d_fieldat 7 ?_ | refine d_idx1 7 ?_ | refine d_index 7 ?_ | refine d_conv64 7 ?_ | refine d_slices 7 ?_ | refine d_concat 7 ?_ | refine d_build 7 ?_)
          refine d_via 8 (X := Nat) (h1 := by refine s_alloc fun r => ?_; exact run_fin r) (h := fun b2 => ?_)
          refine d_via1 9 (h1 := by refine s_putall (h1 := h13) (hz := hl3) (hi := by rw [hl3]; rfl) ?_; exact run_fin1) (h := ?_)
          (first | refine d_pure 10 ?_ | refine d_load 10 ?_ | refine d_arith 10 ?_ | refine d_rem 10 ?_ | refine d_quo 10 ?_ | refine d_shrv 10 ?_ | refine d_fieldat 10 ?_ | refine d_idx1 10 ?_ | refine d_index 10 ?_ | refine d_conv64 10 ?_ | refine d_slices 10 ?_ | refine d_concat 10 ?_ | refine d_build 10 ?_)
          refine d_done ?_
          (repeat (first | refine g ?_))
          refine s_getall (hz := hl3) ?_
          (repeat (first | refine g ?_))
          refine s_getall (hz := hl3) ?_
          (repeat (first | refine g ?_))
          refine s_eqk 6 4 true (la := litsK K) (lb := litsK K) ?_ ?_ (fa := hfm) (fb := hfm) (ka := kl) (kb := kl)
          · simp
          (repeat (first | refine g ?_))
          refine s_call c9 ?_
          (repeat (first | refine g ?_))
          exact run_ret rfl (imp_RD rfl shut)
        · refine d_ovia 8 (X := Nat) (h1 := by refine s_alloc fun r => ?_; exact run_fin r) (h := fun b2 => ?_)
          refine d_via1 4 (h1 := by refine s_call c2 ?_; exact run_fin1) (h := ?_)
          (first | refine d_pure 5 ?_ | refine d_load 5 ?_ | refine d_arith 5 ?_ | refine d_rem 5 ?_ | refine d_quo 5 ?_ | refine d_shrv 5 ?_ | refine d_fieldat 5 ?_ | refine d_idx1 5 ?_ | refine d_index 5 ?_ | refine d_conv64 5 ?_ | refine d_slices 5 ?_ | refine d_concat 5 ?_ | refine d_build 5 ?_)
          (first | refine d_pure 6 ?_ | refine d_load 6 ?_ | refine d_arith 6 ?_ | refine d_rem 6 ?_ | refine d_quo 6 ?_ | refine d_shrv 6 ?_ | refine d_fieldat 6 ?_ | refine d_idx1 6 ?_ | refine d_index 6 ?_ | refine d_conv64 6 ?_ | refine d_slices 6 ?_ | refine d_concat 6 ?_ | refine d_build 6 ?_)
          (first | refine d_pure 7 ?_ | refine d_load 7 ?_ | refine d_arith 7 ?_ | refine d_rem 7 ?_ | refine d_quo 7 ?_ | refine d_shrv 7 ?_ | refine d_fieldat 7 ?_ | refine d_idx1 7 ?_ | refine d_index 7 ?_ | refine d_conv64 7 ?_ | refine d_slices 7 ?_ | refine d_concat 7 ?_ | refine d_build 7 ?_)
          refine d_via1 9 (h1 := by refine s_putall (h1 := h13) (hz := hl3) (hi := by rw [hl3]; rfl) ?_; exact run_fin1) (h := ?_)
          (first | refine d_pure 10 ?_ | refine d_load 10 ?_ | refine d_arith 10 ?_ | refine d_rem 10 ?_ | refine d_quo 10 ?_ | refine d_shrv 10 ?_ | refine d_fieldat 10 ?_ | refine d_idx1 10 ?_ | refine d_index 10 ?_ | refine d_conv64 10 ?_ | refine d_slices 10 ?_ | refine d_concat 10 ?_ | refine d_build 10 ?_)
          refine d_done ?_
          (repeat (first | refine g ?_))
          refine s_getall (hz := hl3) ?_
          (repeat (first | refine g ?_))
          refine s_getall (hz := hl3) ?_
          (repeat (first | refine g ?_))
          refine s_eqk 6 4 true (la := litsK K) (lb := litsK K) ?_ ?_ (fa := hfm) (fb := hfm) (ka := kl) (kb := kl)
          · simp
          (repeat (first | refine g ?_))
          refine s_call c9 ?_
          (repeat (first | refine g ?_))
          exact run_ret rfl (imp_RD rfl shut)
      · refine d_ovia 8 (X := Nat) (h1 := by refine s_alloc fun r => ?_; exact run_fin r) (h := fun b2 => ?_)
        refine d_via1 2 (h1 := by refine s_call cc ?_; exact run_fin1) (h := ?_)
        refine d_via1 4 (h1 := by refine s_call c2 ?_; exact run_fin1) (h := ?_)
        (first | refine d_pure 5 ?_ | refine d_load 5 ?_ | refine d_arith 5 ?_ | refine d_rem 5 ?_ | refine d_quo 5 ?_ | refine d_shrv 5 ?_ | refine d_fieldat 5 ?_ | refine d_idx1 5 ?_ | refine d_index 5 ?_ | refine d_conv64 5 ?_ | refine d_slices 5 ?_ | refine d_concat 5 ?_ | refine d_build 5 ?_)
        (first | refine d_pure 6 ?_ | refine d_load 6 ?_ | refine d_arith 6 ?_ | refine d_rem 6 ?_ | refine d_quo 6 ?_ | refine d_shrv 6 ?_ | refine d_fieldat 6 ?_ | refine d_idx1 6 ?_ | refine d_index 6 ?_ | refine d_conv64 6 ?_ | refine d_slices 6 ?_ | refine d_concat 6 ?_ | refine d_build 6 ?_)
        (first | refine d_pure 7 ?_ | refine d_load 7 ?_ | refine d_arith 7 ?_ | refine d_rem 7 ?_ | refine d_quo 7 ?_ | refine d_shrv 7 ?_ | refine d_fieldat 7 ?_ | refine d_idx1 7 ?_ | refine d_index 7 ?_ | refine d_conv64 7 ?_ | refine d_slices 7 ?_ | refine d_concat 7 ?_ | refine d_build 7 ?_)
        refine d_via1 9 (h1 := by refine s_putall (h1 := h13) (hz := hl3) (hi := by rw [hl3]; rfl) ?_; exact run_fin1) (h := ?_)
        (first | refine d_pure 10 ?_ | refine d_load 10 ?_ | refine d_arith 10 ?_ | refine d_rem 10 ?_ | refine d_quo 10 ?_ | refine d_shrv 10 ?_ | refine d_fieldat 10 ?_ | refine d_idx1 10 ?_ | refine d_index 10 ?_ | refine d_conv64 10 ?_ | refine d_slices 10 ?_ | refine d_concat 10 ?_ | refine d_build 10 ?_)
        refine d_done ?_
        (repeat (first | refine g ?_))
        refine s_getall (hz := hl3) ?_
        (repeat (first | refine g ?_))
        refine s_getall (hz := hl3) ?_
        (repeat (first | refine g ?_))
        refine s_eqk 6 4 true (la := litsK K) (lb := litsK K) ?_ ?_ (fa := hfm) (fb := hfm) (ka := kl) (kb := kl)
        · simp
        (repeat (first | refine g ?_))
        refine s_call c9 ?_
        (repeat (first | refine g ?_))
        exact run_ret rfl (imp_RD rfl shut)
    · refine d_ovia 8 (X := Nat) (h1 := by refine s_alloc fun r => ?_; exact run_fin r) (h := fun b1 => ?_)
      refine d_via1 4 (h1 := by refine s_call c1 ?_; exact run_fin1) (h := ?_)
      (first | refine d_pure 5 ?_ | refine d_load 5 ?_ | refine d_arith 5 ?_ | refine d_rem 5 ?_ | refine d_quo 5 ?_ | refine d_shrv 5 ?_ | refine d_fieldat 5 ?_ | refine d_idx1 5 ?_ | refine d_index 5 ?_ | refine d_conv64 5 ?_ | refine d_slices 5 ?_ | refine d_concat 5 ?_ | refine d_build 5 ?_)
      (first | refine d_pure 6 ?_ | refine d_load 6 ?_ | refine d_arith 6 ?_ | refine d_rem 6 ?_ | refine d_quo 6 ?_ | refine d_shrv 6 ?_ | refine d_fieldat 6 ?_ | refine d_idx1 6 ?_ | refine d_index 6 ?_ | refine d_conv64 6 ?_ | refine d_slices 6 ?_ | refine d_concat 6 ?_ | refine d_build 6 ?_)
      (first | refine d_pure 7 ?_ | refine d_load 7 ?_ | refine d_arith 7 ?_ | refine d_rem 7 ?_ | refine d_quo 7 ?_ | refine d_shrv 7 ?_ | refine d_fieldat 7 ?_ | refine d_idx1 7 ?_ | refine d_index 7 ?_ | refine d_conv64 7 ?_ | refine d_slices 7 ?_ | refine d_concat 7 ?_ | refine d_build 7 ?_)
      refine d_via1 9 (h1 := by refine s_putall (h1 := h13) (hz := hl3) (hi := by rw [hl3]; rfl) ?_; exact run_fin1) (h := ?_)
      (first | refine d_pure 10 ?_ | refine d_load 10 ?_ | refine d_arith 10 ?_ | refine d_rem 10 ?_ | refine d_quo 10 ?_ | refine d_shrv 10 ?_ | refine d_fieldat 10 ?_ | refine d_idx1 10 ?_ | refine d_index 10 ?_ | refine d_conv64 10 ?_ | refine d_slices 10 ?_ | refine d_concat 10 ?_ | refine d_build 10 ?_)
      refine d_done ?_
      (repeat (first | refine g ?_))
      refine d_start [] ?_
      refine d_getall 0 hlf ?_
      (first | refine d_pure 1 ?_ | refine d_load 1 ?_ | refine d_arith 1 ?_ | refine d_rem 1 ?_ | refine d_quo 1 ?_ | refine d_shrv 1 ?_ | refine d_fieldat 1 ?_ | refine d_idx1 1 ?_ | refine d_index 1 ?_ | refine d_conv64 1 ?_ | refine d_slices 1 ?_ | refine d_concat 1 ?_ | refine d_build 1 ?_)
      (first | refine d_pure 3 ?_ | refine d_load 3 ?_ | refine d_arith 3 ?_ | refine d_rem 3 ?_ | refine d_quo 3 ?_ | refine d_shrv 3 ?_ | refine d_fieldat 3 ?_ | refine d_idx1 3 ?_ | refine d_index 3 ?_ | refine d_conv64 3 ?_ | refine d_slices 3 ?_ | refine d_concat 3 ?_ | refine d_build 3 ?_)
      refine d_two 2 8 ?_ ?_
      · refine d_ovia1 2 (h1 := by refine s_call cc ?_; exact run_fin1) (h := ?_)
        refine d_two 4 8 ?_ ?_
        · refine d_ovia1 4 (h1 := by refine s_call c2 ?_; exact run_fin1) (h := ?_)
          (first | refine d_pure 5 ?_ | refine d_load 5 ?_ | refine d_arith 5 ?_ | refine d_rem 5 ?_ | refine d_quo 5 ?_ | refine d_shrv 5 ?_ | refine d_fieldat 5 ?_ | refine d_idx1 5 ?_ | refine d_index 5 ?_ | refine d_conv64 5 ?_ | refine d_slices 5 ?_ | refine d_concat 5 ?_ | refine d_build 5 ?_)
          (first | refine d_pure 6 ?_ | refine d_load 6 ?_ | refine d_arith 6 ?_ | refine d_rem 6 ?_ | refine d_quo 6 ?_ | refine d_shrv 6 ?_ | refine d_fieldat 6 ?_ | refine d_idx1 6 ?_ | refine d_index 6 ?_ | refine d_conv64 6 ?_ | refine d_slices 6 ?_ | refine d_concat 6 ?_ | refine d_build 6 ?_)
          (first | refine d_pure 7 ?_ | refine d_load 7 ?_ | refine d_arith 7 ?_ | refine d_rem 7 ?_ | refine d_quo 7 ?_ | refine d_shrv 7 ?_ | refine d_fieldat 7 ?_ | refine d_idx1 7 ?_ | refine d_index 7 ?_ | refine d_conv64 7 ?_ | refine d_slices 7 ?_ | refine d_concat 7 ?_ | refine d_build 7 ?_)
          refine d_via 8 (X := Nat) (h1 := by refine s_alloc fun r => ?_; exact run_fin r) (h := fun b2 => ?_)
          refine d_via1 9 (h1 := by refine s_putall (h1 := h13) (hz := hl3) (hi := by rw [hl3]; rfl) ?_; exact run_fin1) (h := ?_)
          (first | refine d_pure 10 ?_ | refine d_load 10 ?_ | refine d_arith 10 ?_ | refine d_rem 10 ?_ | refine d_quo 10 ?_ | refine d_shrv 10 ?_ | refine d_fieldat 10 ?_ | refine d_idx1 10 ?_ | refine d_index 10 ?_ | refine d_conv64 10 ?_ | refine d_slices 10 ?_ | refine d_concat 10 ?_ | refine d_build 10 ?_)
          refine d_done ?_
          (repeat (first | refine g ?_))
          refine s_getall (hz := hl3) ?_
          (repeat (first | refine g ?_))
          refine s_getall (hz := hl3) ?_
          (repeat (first | refine g ?_))
          refine s_eqk 6 4 true (la := litsK K) (lb := litsK K) ?_ ?_ (fa := hfm) (fb := hfm) (ka := kl) (kb := kl)
          · simp
          (repeat (first | refine g ?_))
          refine s_call c9 ?_
          (repeat (first | refine g ?_))
          exact run_ret rfl (imp_RD rfl shut)
        · refine d_ovia 8 (X := Nat) (h1 := by refine s_alloc fun r => ?_; exact run_fin r) (h := fun b2 => ?_)
          refine d_via1 4 (h1 := by refine s_call c2 ?_; exact run_fin1) (h := ?_)
          (first | refine d_pure 5 ?_ | refine d_load 5 ?_ | refine d_arith 5 ?_ | refine d_rem 5 ?_ | refine d_quo 5 ?_ | refine d_shrv 5 ?_ | refine d_fieldat 5 ?_ | refine d_idx1 5 ?_ | refine d_index 5 ?_ | refine d_conv64 5 ?_ | refine d_slices 5 ?_ | refine d_concat 5 ?_ | refine d_build 5 ?_)
          (first | refine d_pure 6 ?_ | refine d_load 6 ?_ | refine d_arith 6 ?_ | refine d_rem 6 ?_ | refine d_quo 6 ?_ | refine d_shrv 6 ?_ | refine d_fieldat 6 ?_ | refine d_idx1 6 ?_ | refine d_index 6 ?_ | refine d_conv64 6 ?_ | refine d_slices 6 ?_ | refine d_concat 6 ?_ | refine d_build 6 ?_)
          (first | refine d_pure 7 ?_ | refine d_load 7 ?_ | refine d_arith 7 ?_ | refine d_rem 7 ?_ | refine d_quo 7 ?_ | refine d_shrv 7 ?_ | refine d_fieldat 7 ?_ | refine d_idx1 7 ?_ | refine d_index 7 ?_ | refine d_conv64 7 ?_ | refine d_slices 7 ?_ | refine d_concat 7 ?_ | refine d_build 7 ?_)
          refine d_via1 9 (h1 := by refine s_putall (h1 := h13) (hz := hl3) (hi := by rw [hl3]; rfl) ?_; exact run_fin1) (h := ?_)
          (first | refine d_pure 10 ?_ | refine d_load 10 ?_ | refine d_arith 10 ?_ | refine d_rem 10 ?_ | refine d_quo 10 ?_ | refine d_shrv 10 ?_ | refine d_fieldat 10 ?_ | refine d_idx1 10 ?_ | refine d_index 10 ?_ | refine d_conv64 10 ?_ | refine d_slices 10 ?_ | refine d_concat 10 ?_ | refine d_build 10 ?_)
          refine d_done ?_
          (repeat (first | refine g ?_))
          refine s_getall (hz := hl3) ?_
          (repeat (first | refine g ?_))
          refine s_getall (hz := hl3) ?_
          (repeat (first | refine g ?_))
          refine s_eqk 6 4 true (la := litsK K) (lb := litsK K) ?_ ?_ (fa := hfm) (fb := hfm) (ka := kl) (kb := kl)
          · simp
          (repeat (first | refine g ?_))
          refine s_call c9 ?_
          (repeat (first | refine g ?_))
          exact run_ret rfl (imp_RD rfl shut)
      · refine d_ovia 8 (X := Nat) (h1 := by refine s_alloc fun r => ?_; exact run_fin r) (h := fun b2 => ?_)
        refine d_via1 2 (h1 := by refine s_call cc ?_; exact run_fin1) (h := ?_)
        refine d_via1 4 (h1 := by refine s_call c2 ?_; exact run_fin1) (h := ?_)
        (first | refine d_pure 5 ?_ | refine d_load 5 ?_ | refine d_arith 5 ?_ | refine d_rem 5 ?_ | refine d_quo 5 ?_ | refine d_shrv 5 ?_ | refine d_fieldat 5 ?_ | refine d_idx1 5 ?_ | refine d_index 5 ?_ | refine d_conv64 5 ?_ | refine d_slices 5 ?_ | refine d_concat 5 ?_ | refine d_build 5 ?_)
        (first | refine d_pure 6 ?_ | refine d_load 6 ?_ | refine d_arith 6 ?_ | refine d_rem 6 ?_ | refine d_quo 6 ?_ | refine d_shrv 6 ?_ | refine d_fieldat 6 ?_ | refine d_idx1 6 ?_ | refine d_index 6 ?_ | refine d_conv64 6 ?_ | refine d_slices 6 ?_ | refine d_concat 6 ?_ | refine d_build 6 ?_)
        (first | refine d_pure 7 ?_ | refine d_load 7 ?_ | refine d_arith 7 ?_ | refine d_rem 7 ?_ | refine d_quo 7 ?_ | refine d_shrv 7 ?_ | refine d_fieldat 7 ?_ | refine d_idx1 7 ?_ | refine d_index 7 ?_ | refine d_conv64 7 ?_ | refine d_slices 7 ?_ | refine d_concat 7 ?_ | refine d_build 7 ?_)
        refine d_via1 9 (h1 := by refine s_putall (h1 := h13) (hz := hl3) (hi := by rw [hl3]; rfl) ?_; exact run_fin1) (h := ?_)
        (first | refine d_pure 10 ?_ | refine d_load 10 ?_ | refine d_arith 10 ?_ | refine d_rem 10 ?_ | refine d_quo 10 ?_ | refine d_shrv 10 ?_ | refine d_fieldat 10 ?_ | refine d_idx1 10 ?_ | refine d_index 10 ?_ | refine d_conv64 10 ?_ | refine d_slices 10 ?_ | refine d_concat 10 ?_ | refine d_build 10 ?_)
        refine d_done ?_
        (repeat (first | refine g ?_))
        refine s_getall (hz := hl3) ?_
        (repeat (first | refine g ?_))
        refine s_getall (hz := hl3) ?_
        (repeat (first | refine g ?_))
        refine s_eqk 6 4 true (la := litsK K) (lb := litsK K) ?_ ?_ (fa := hfm) (fb := hfm) (ka := kl) (kb := kl)
        · simp
        (repeat (first | refine g ?_))
        refine s_call c9 ?_
        (repeat (first | refine g ?_))
        exact run_ret rfl (imp_RD rfl shut)
  · refine d_ovia 8 (X := Nat) (h1 := by refine s_alloc fun r => ?_; exact run_fin r) (h := fun b1 => ?_)
    refine d_via1 2 (h1 := by refine s_call cc ?_; exact run_fin1) (h := ?_)
    refine d_via1 4 (h1 := by refine s_call c1 ?_; exact run_fin1) (h := ?_)
    (first | refine d_pure 5 ?_ | refine d_load 5 ?_ | refine d_arith 5 ?_ | refine d_rem 5 ?_ | refine d_quo 5 ?_ | refine d_shrv 5 ?_ | refine d_fieldat 5 ?_ | refine d_idx1 5 ?_ | refine d_index 5 ?_ | refine d_conv64 5 ?_ | refine d_slices 5 ?_ | refine d_concat 5 ?_ | refine d_build 5 ?_)
    (first | refine d_pure 6 ?_ | refine d_load 6 ?_ | refine d_arith 6 ?_ | refine d_rem 6 ?_ | refine d_quo 6 ?_ | refine d_shrv 6 ?_ | refine d_fieldat 6 ?_ | refine d_idx1 6 ?_ | refine d_index 6 ?_ | refine d_conv64 6 ?_ | refine d_slices 6 ?_ | refine d_concat 6 ?_ | refine d_build 6 ?_)
    (first | refine d_pure 7 ?_ | refine d_load 7 ?_ | refine d_arith 7 ?_ | refine d_rem 7 ?_ | refine d_quo 7 ?_ | refine d_shrv 7 ?_ | refine d_fieldat 7 ?_ | refine d_idx1 7 ?_ | refine d_index 7 ?_ | refine d_conv64 7 ?_ | refine d_slices 7 ?_ | refine d_concat 7 ?_ | refine d_build 7 ?_)
    refine d_via1 9 (h1 := by refine s_putall (h1 := h13) (hz := hl3) (hi := by rw [hl3]; rfl) ?_; exact run_fin1) (h := ?_)
    (first | refine d_pure 10 ?_ | refine d_load 10 ?_ | refine d_arith 10 ?_ | refine d_rem 10 ?_ | refine d_quo 10 ?_ | refine d_shrv 10 ?_ | refine d_fieldat 10 ?_ | refine d_idx1 10 ?_ | refine d_index 10 ?_ | refine d_conv64 10 ?_ | refine d_slices 10 ?_ | refine d_concat 10 ?_ | refine d_build 10 ?_)
    refine d_done ?_
    (repeat (first | refine g ?_))
    refine d_start [] ?_
    refine d_getall 0 hlf ?_
    (first | refine d_pure 1 ?_ | refine d_load 1 ?_ | refine d_arith 1 ?_ | refine d_rem 1 ?_ | refine d_quo 1 ?_ | refine d_shrv 1 ?_ | refine d_fieldat 1 ?_ | refine d_idx1 1 ?_ | refine d_index 1 ?_ | refine d_conv64 1 ?_ | refine d_slices 1 ?_ | refine d_concat 1 ?_ | refine d_build 1 ?_)
    (first | refine d_pure 3 ?_ | refine d_load 3 ?_ | refine d_arith 3 ?_ | refine d_rem 3 ?_ | refine d_quo 3 ?_ | refine d_shrv 3 ?_ | refine d_fieldat 3 ?_ | refine d_idx1 3 ?_ | refine d_index 3 ?_ | refine d_conv64 3 ?_ | refine d_slices 3 ?_ | refine d_concat 3 ?_ | refine d_build 3 ?_)
    refine d_two 2 8 ?_ ?_
    · refine d_ovia1 2 (h1 := by refine s_call cc ?_; exact run_fin1) (h := ?_)
      refine d_two 4 8 ?_ ?_
      · refine d_ovia1 4 (h1 := by refine s_call c2 ?_; exact run_fin1) (h := ?_)
        (first | refine d_pure 5 ?_ | refine d_load 5 ?_ | refine d_arith 5 ?_ | refine d_rem 5 ?_ | refine d_quo 5 ?_ | refine d_shrv 5 ?_ | refine d_fieldat 5 ?_ | refine d_idx1 5 ?_ | refine d_index 5 ?_ | refine d_conv64 5 ?_ | refine d_slices 5 ?_ | refine d_concat 5 ?_ | refine d_build 5 ?_)
        (first | refine d_pure 6 ?_ | refine d_load 6 ?_ | refine d_arith 6 ?_ | refine d_rem 6 ?_ | refine d_quo 6 ?_ | refine d_shrv 6 ?_ | refine d_fieldat 6 ?_ | refine d_idx1 6 ?_ | refine d_index 6 ?_ | refine d_conv64 6 ?_ | refine d_slices 6 ?_ | refine d_concat 6 ?_ | refine d_build 6 ?_)
        (first | refine d_pure 7 ?_ | refine d_load 7 ?_ | refine d_arith 7 ?_ | refine d_rem 7 ?_ | refine d_quo 7 ?_ | refine d_shrv 7 ?_ | refine d_fieldat 7 ?_ | refine d_idx1 7 ?_ | refine d_index 7 ?_ | refine d_conv64 7 ?_ | refine d_slices 7 ?_ | refine d_concat 7 ?_ | refine d_build 7 ?_)
        refine d_via 8 (X := Nat) (h1 := by refine s_alloc fun r => ?_; exact run_fin r) (h := fun b2 => ?_)
        refine d_via1 9 (h1 := by refine s_putall (h1 := h13) (hz := hl3) (hi := by rw [hl3]; rfl) ?_; exact run_fin1) (h := ?_)
        (first | refine d_pure 10 ?_ | refine d_load 10 ?_ | refine d_arith 10 ?_ | refine d_rem 10 ?_ | refine d_quo 10 ?_ | refine d_shrv 10 ?_ | refine d_fieldat 10 ?_ | refine d_idx1 10 ?_ | refine d_index 10 ?_ | refine d_conv64 10 ?_ | refine d_slices 10 ?_ | refine d_concat 10 ?_ | refine d_build 10 ?_)
        refine d_done ?_
        (repeat (first | refine g ?_))
        refine s_getall (hz := hl3) ?_
        (repeat (first | refine g ?_))
        refine s_getall (hz := hl3) ?_
        (repeat (first | refine g ?_))
        refine s_eqk 6 4 true (la := litsK K) (lb := litsK K) ?_ ?_ (fa := hfm) (fb := hfm) (ka := kl) (kb := kl)
        · simp
        (repeat (first | refine g ?_))
        refine s_call c9 ?_
        (repeat (first | refine g ?_))
        exact run_ret rfl (imp_RD rfl shut)
      · refine d_ovia 8 (X := Nat) (h1 := by refine s_alloc fun r => ?_; exact run_fin r) (h := fun b2 => ?_)
        refine d_via1 4 (h1 := by refine s_call c2 ?_; exact run_fin1) (h := ?_)
        (first | refine d_pure 5 ?_ | refine d_load 5 ?_ | refine d_arith 5 ?_ | refine d_rem 5 ?_ | refine d_quo 5 ?_ | refine d_shrv 5 ?_ | refine d_fieldat 5 ?_ | refine d_idx1 5 ?_ | refine d_index 5 ?_ | refine d_conv64 5 ?_ | refine d_slices 5 ?_ | refine d_concat 5 ?_ | refine d_build 5 ?_)
        (first | refine d_pure 6 ?_ | refine d_load 6 ?_ | refine d_arith 6 ?_ | refine d_rem 6 ?_ | refine d_quo 6 ?_ | refine d_shrv 6 ?_ | refine d_fieldat 6 ?_ | refine d_idx1 6 ?_ | refine d_index 6 ?_ | refine d_conv64 6 ?_ | refine d_slices 6 ?_ | refine d_concat 6 ?_ | refine d_build 6 ?_)
        (first | refine d_pure 7 ?_ | refine d_load 7 ?_ | refine d_arith 7 ?_ | refine d_rem 7 ?_ | refine d_quo 7 ?_ | refine d_shrv 7 ?_ | refine d_fieldat 7 ?_ | refine d_idx1 7 ?_ | refine d_index 7 ?_ | refine d_conv64 7 ?_ | refine d_slices 7 ?_ | refine d_concat 7 ?_ | refine d_build 7 ?_)
        refine d_via1 9 (h1 := by refine s_putall (h1 := h13) (hz := hl3) (hi := by rw [hl3]; rfl) ?_; exact run_fin1) (h := ?_)
        (first | refine d_pure 10 ?_ | refine d_load 10 ?_ | refine d_arith 10 ?_ | refine d_rem 10 ?_ | refine d_quo 10 ?_ | refine d_shrv 10 ?_ | refine d_fieldat 10 ?_ | refine d_idx1 10 ?_ | refine d_index 10 ?_ | refine d_conv64 10 ?_ | refine d_slices 10 ?_ | refine d_concat 10 ?_ | refine d_build 10 ?_)
        refine d_done ?_
        (repeat (first | refine g ?_))
        refine s_getall (hz := hl3) ?_
        (repeat (first | refine g ?_))
        refine s_getall (hz := hl3) ?_
        (repeat (first | refine g ?_))
        refine s_eqk 6 4 true (la := litsK K) (lb := litsK K) ?_ ?_ (fa := hfm) (fb := hfm) (ka := kl) (kb := kl)
        · simp
        (repeat (first | refine g ?_))
        refine s_call c9 ?_
        (repeat (first | refine g ?_))
        exact run_ret rfl (imp_RD rfl shut)
    · refine d_ovia 8 (X := Nat) (h1 := by refine s_alloc fun r => ?_; exact run_fin r) (h := fun b2 => ?_)
      refine d_via1 2 (h1 := by refine s_call cc ?_; exact run_fin1) (h := ?_)
      refine d_via1 4 (h1 := by refine s_call c2 ?_; exact run_fin1) (h := ?_)
      (first | refine d_pure 5 ?_ | refine d_load 5 ?_ | refine d_arith 5 ?_ | refine d_rem 5 ?_ | refine d_quo 5 ?_ | refine d_shrv 5 ?_ | refine d_fieldat 5 ?_ | refine d_idx1 5 ?_ | refine d_index 5 ?_ | refine d_conv64 5 ?_ | refine d_slices 5 ?_ | refine d_concat 5 ?_ | refine d_build 5 ?_)
      (first | refine d_pure 6 ?_ | refine d_load 6 ?_ | refine d_arith 6 ?_ | refine d_rem 6 ?_ | refine d_quo 6 ?_ | refine d_shrv 6 ?_ | refine d_fieldat 6 ?_ | refine d_idx1 6 ?_ | refine d_index 6 ?_ | refine d_conv64 6 ?_ | refine d_slices 6 ?_ | refine d_concat 6 ?_ | refine d_build 6 ?_)
      (first | refine d_pure 7 ?_ | refine d_load 7 ?_ | refine d_arith 7 ?_ | refine d_rem 7 ?_ | refine d_quo 7 ?_ | refine d_shrv 7 ?_ | refine d_fieldat 7 ?_ | refine d_idx1 7 ?_ | refine d_index 7 ?_ | refine d_conv64 7 ?_ | refine d_slices 7 ?_ | refine d_concat 7 ?_ | refine d_build 7 ?_)
      refine d_via1 9 (h1 := by refine s_putall (h1 := h13) (hz := hl3) (hi := by rw [hl3]; rfl) ?_; exact run_fin1) (h := ?_)
      (first | refine d_pure 10 ?_ | refine d_load 10 ?_ | refine d_arith 10 ?_ | refine d_rem 10 ?_ | refine d_quo 10 ?_ | refine d_shrv 10 ?_ | refine d_fieldat 10 ?_ | refine d_idx1 10 ?_ | refine d_index 10 ?_ | refine d_conv64 10 ?_ | refine d_slices 10 ?_ | refine d_concat 10 ?_ | refine d_build 10 ?_)
      refine d_done ?_
      (repeat (first | refine g ?_))
      refine s_getall (hz := hl3) ?_
      (repeat (first | refine g ?_))
      refine s_getall (hz := hl3) ?_
      (repeat (first | refine g ?_))
      refine s_eqk 6 4 true (la := litsK K) (lb := litsK K) ?_ ?_ (fa := hfm) (fb := hfm) (ka := kl) (kb := kl)
      · simp
      (repeat (first | refine g ?_))
      refine s_call c9 ?_
      (repeat (first | refine g ?_))
      exact run_ret rfl (imp_RD rfl shut)
end Go.Proofs.Ytibookgcaboldaa.V
