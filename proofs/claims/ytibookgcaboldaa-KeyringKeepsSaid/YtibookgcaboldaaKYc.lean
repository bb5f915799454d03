/- A pass phrase is changed, by the program and by the document. -/
import Derived.Test.YtibookgcaboldaaKYb
set_option maxRecDepth 10000
set_option linter.unusedVariables false
namespace Go.Proofs.Ytibookgcaboldaa.V
open Go.Proofs.Ytibookgcaboldaa.VL Go.Proofs.Ytibookgcaboldaa.VL.RD Go.Proofs.Ytibookgcaboldaa.VL.Sha
attribute [local irreducible] Run sealB openB stretchB bndB
def grownK (k : KeysT) : KeysT × Int := if 4294967295 ≤ k.gen then (zeroK, 2) else (⟨k.gen + 1, k.sl⟩, 0)
set_option maxHeartbeats 1000000 in
theorem grown_spec (q : View) (k : KeysT) (hk : k.sl.length = 4) (g1 : k.gen ≤ 9223372036854775807) (g0 : 0 ≤ k.gen) : FnD Try.prog q 49 [.agg ⟨encKeys k⟩] [] (.tuple #[.agg ⟨encKeys (grownK k).1⟩, .int .i64 (grownK k).2]) [] := by
  have hz := encKs_len k.sl
  rw [hk] at hz
  have hl := encKeys_len hk
  unfold grownK
  (first | refine FnD.go Try.call49 Try.func49 rfl rfl rfl ?_ | refine FnX.go Try.call49 Try.func49 rfl rfl rfl ?_)
  (repeat (first | refine g ?_))
  refine s_box fun b => ?_
  refine s_ceq b (.int .i64 k.gen :: encKs k.sl) ?_ ?_
  · rfl
  (repeat (first | refine g ?_))
  refine s_alloc fun rk => ?_
  (repeat (first | refine g ?_))
  by_cases h1 : 4294967295 ≤ k.gen
  · rw [if_pos h1]
    (repeat (first | refine g ?_))
    refine s_ret2 (imp_RD ?_ shut)
    rfl
  · rw [if_neg h1]
    have hl2 := encKeys_len (k := ⟨k.gen + 1, k.sl⟩) hk
    have ho2 := encKeys_one ⟨k.gen + 1, k.sl⟩
    (repeat (first | refine g ?_))
    refine s_storeset ?_
    refine s_ceq b (encKeys ⟨k.gen + 1, k.sl⟩) ?_ ?_
    · rfl
    obtain ⟨E, hE⟩ : ∃ E, E = encKeys ⟨k.gen + 1, k.sl⟩ := ⟨_, rfl⟩
    rw [← hE] at hl2 ho2 ⊢
    (repeat (first | refine g ?_))
    refine s_getall (hz := hl2) ?_
    (repeat (first | refine g ?_))
    refine s_putall (h1 := ho2) (hz := hl2) (hi := by rw [hl2]; rfl) ?_
    (repeat (first | refine g ?_))
    refine run_ret2 (imp_RD ?_ shut) rfl (res_cell tabOk rfl rfl rfl (by repeat (first | (with_reducible exact At.head) | apply At.tail)) hl2) (res_tmp rfl)
    rfl
def changeK (k : KeysT) (pa ot sa no : ByteArray) (r : Int) : KeysT × Int :=
  if fitsF sa no r = true then
    if (openK k pa).2.2 = 0 then grownK ⟨k.gen, k.sl.set (openK k pa).2.1.toNat (sealedK (openK k pa).2.1.toNat (openK k pa).1 ot sa no r.toNat)⟩ else (zeroK, (openK k pa).2.2)
  else (zeroK, 1)
theorem rightK_gen {k : KeysT} (h : rightK k = true) : 0 ≤ k.gen ∧ k.gen < 4294967296 := by
  unfold rightK at h
  simp only [Bool.and_eq_true, decide_eq_true_eq] at h
  exact h.2.2
set_option maxHeartbeats 2000000 in
theorem changeK_spec (q : View) (k : KeysT) (hk : KeysOk k) (pa ot sa no : ByteArray) (r : Int) (r0 : -9223372036854775808 ≤ r) (r1 : r ≤ 9223372036854775807) (hp : pa.size ≤ 1000000) (ho : ot.size ≤ 1000000) :
    FnD Try.prog q 24 [.agg ⟨encKeys k⟩, .string pa, .string ot, .string sa, .string no, .int .i64 r] [] (.tuple #[.agg ⟨encKeys (changeK k pa ot sa no r).1⟩, .int .i64 (changeK k pa ot sa no r).2]) [] := by
  have cf := fits_spec q sa no r r0 r1
  have co := openK_spec q k hk pa hp
  have hl := encKeys_len hk.len
  have hop := openK_place k pa
  have hoz := openK_size k pa
  unfold changeK
  obtain ⟨⟨m, i, e⟩, hO⟩ : ∃ O, O = openK k pa := ⟨_, rfl⟩
  rw [← hO] at co hop hoz ⊢
  dsimp only at co hop hoz ⊢
  (first | refine FnD.go Try.call24 Try.func24 rfl rfl rfl ?_ | refine FnX.go Try.call24 Try.func24 rfl rfl rfl ?_)
  (repeat (first | refine g ?_))
  refine s_box fun b => ?_
  refine s_ceq b (encKeys k) ?_ ?_
  · rfl
  (repeat (first | refine g ?_))
  refine s_alloc fun rk => ?_
  (repeat (first | refine g ?_))
  cases hf : fitsF sa no r with
  | false =>
    rw [hf] at cf
    rw [if_neg (by decide)]
    refine s_call cf ?_
    (repeat (first | refine g ?_))
    refine s_ret2 (imp_RD ?_ shut)
    rfl
  | true =>
    rw [hf] at cf
    rw [if_pos rfl]
    refine s_call cf ?_
    (repeat (first | refine g ?_))
    refine s_getall (hz := hl) ?_
    (repeat (first | refine g ?_))
    refine s_call co ?_
    (repeat (first | refine g ?_))
    by_cases he : e ≠ 0
    · rw [if_neg he]
      (repeat (first | refine g ?_))
      refine s_ret2 (imp_RD ?_ shut)
      rfl
    obtain rfl : e = 0 := by omega
    rw [if_pos rfl]
    obtain ⟨hr, i, s, rfl, hs, hu, ht⟩ := hop rfl
    obtain ⟨g0, g1⟩ := rightK_gen hr
    obtain ⟨hi, _⟩ := List.getElem?_eq_some_iff.1 hs
    have hi4 := hi
    rw [hk.len] at hi4
    obtain ⟨f1, f2, f3, f4⟩ := fits_ok hf
    obtain ⟨n, rfl⟩ : ∃ n : Nat, r = n := ⟨r.toNat, by omega⟩
    have cs := sealed_spec q i n hi4 (by omega) (by omega) m ot sa no (by omega) ho (by omega)
    rw [Int.toNat_natCast, Int.toNat_natCast]
    obtain ⟨S, hS⟩ : ∃ S, S = sealedK i m ot sa no n := ⟨_, rfl⟩
    rw [← hS] at cs ⊢
    have hput := encKeys_put k i S hi
    have hS1 := encS_one S
    have hlen : (k.sl.set i S).length = 4 := by rw [List.length_set]; exact hk.len
    have hl2 := encKeys_len (k := ⟨k.gen, k.sl.set i S⟩) hlen
    clear f1 f2 f3 f4 hf
    (repeat (first | refine g ?_))
    have cg := grown_spec q ⟨k.gen, k.sl.set i S⟩ hlen (by show k.gen ≤ _; omega) g0
    refine s_call cs ?_
    (repeat (first | refine g ?_))
    refine s_idr (kk := 5) (1 + i * 5) ?_
    (repeat (first | refine g ?_))
    refine s_put (vs := encS S) (h1 := hS1) (hi := by rw [hl]; show 1 + i * 5 + 5 ≤ 21; omega) ?_
    rw [hput]
    (repeat (first | refine g ?_))
    obtain ⟨G, hG⟩ : ∃ G, G = grownK ⟨k.gen, k.sl.set i S⟩ := ⟨_, rfl⟩
    have hlG : G.1.sl.length = 4 := by
      rw [hG]; unfold grownK; split
      · rfl
      · exact hlen
    rw [← hG] at cg ⊢
    obtain ⟨GK, ge⟩ := G
    dsimp only at cg hlG ⊢
    have hl3 := encKeys_len hlG
    have h13 := encKeys_one GK
    obtain ⟨E, hE⟩ : ∃ E, E = encKeys GK := ⟨_, rfl⟩
    rw [← hE] at hl3 h13 cg ⊢
    refine s_getall (hz := hl2) ?_
    (repeat (first | refine g ?_))
    refine s_call cg ?_
    (repeat (first | refine g ?_))
    refine s_putall (h1 := h13) (hz := hl3) (hi := by rw [hl3]; rfl) ?_
    (repeat (first | refine g ?_))
    refine run_ret2 (imp_RD ?_ shut) rfl (res_cell tabOk rfl rfl rfl (by repeat (first | (with_reducible exact At.head) | apply At.tail)) hl3) (res_tmp rfl)
    rfl
end Go.Proofs.Ytibookgcaboldaa.V
namespace Go.Proofs.Ytibookgcaboldaa.V
open Go.Proofs.Ytibookgcaboldaa.VL Go.Proofs.Ytibookgcaboldaa.VL.RD Go.Proofs.Ytibookgcaboldaa.VL.Sha
attribute [local irreducible] Run sealB openB stretchB bndB
def usedAt (l : List SlotT) (w : Int) : Bool := if 0 ≤ w ∧ w ≤ 3 then (match l[w.toNat]? with | some s => s.used | none => false) else false
def dropped (k : KeysT) (w : Int) : KeysT := ⟨k.gen, k.sl.set w.toNat zeroS⟩
def dropK (k : KeysT) (pa : ByteArray) (w : Int) : KeysT × Int :=
  if (openK k pa).2.2 = 0 then
    if usedAt k.sl w = true then
      if rightK (dropped k w) = true then grownK (dropped k w) else (zeroK, 52)
    else (zeroK, 41)
  else (zeroK, (openK k pa).2.2)
theorem dropped_ok {k : KeysT} (hk : KeysOk k) (w : Int) : KeysOk (dropped k w) := ⟨hk.g0, hk.g1, by unfold dropped; dsimp only; rw [List.length_set]; exact hk.len, fun s hs => by
  unfold dropped at hs
  dsimp only at hs
  rcases List.mem_or_eq_of_mem_set hs with h | h
  · exact hk.ok s h
  · rw [h]; exact zeroOk⟩
set_option maxHeartbeats 2000000 in
theorem dropK_spec (q : View) (k : KeysT) (hk : KeysOk k) (pa : ByteArray) (w : Int) (w0 : -9223372036854775808 ≤ w) (w1 : w ≤ 9223372036854775807) (hp : pa.size ≤ 1000000) :
    FnD Try.prog q 26 [.agg ⟨encKeys k⟩, .string pa, .int .i64 w] [] (.tuple #[.agg ⟨encKeys (dropK k pa w).1⟩, .int .i64 (dropK k pa w).2]) [] := by
  have co := openK_spec q k hk pa hp
  have hl := encKeys_len hk.len
  have hop := openK_place k pa
  unfold dropK
  obtain ⟨⟨m, i, e⟩, hO⟩ : ∃ O, O = openK k pa := ⟨_, rfl⟩
  rw [← hO] at co hop ⊢
  dsimp only at co hop ⊢
  (first | refine FnD.go Try.call26 Try.func26 rfl rfl rfl ?_ | refine FnX.go Try.call26 Try.func26 rfl rfl rfl ?_)
  (repeat (first | refine g ?_))
  refine s_box fun b => ?_
  refine s_ceq b (encKeys k) ?_ ?_
  · rfl
  (repeat (first | refine g ?_))
  refine s_alloc fun rk => ?_
  (repeat (first | refine g ?_))
  refine s_getall (hz := hl) ?_
  (repeat (first | refine g ?_))
  refine s_call co ?_
  (repeat (first | refine g ?_))
  by_cases he : e ≠ 0
  · rw [if_neg he]
    (repeat (first | refine g ?_))
    refine s_ret2 (imp_RD ?_ shut)
    rfl
  obtain rfl : e = 0 := by omega
  rw [if_pos rfl]
  obtain ⟨hr, _, _, _, _, _, _⟩ := hop rfl
  obtain ⟨g0, g1⟩ := rightK_gen hr
  clear hop
  (repeat (first | refine g ?_))
  by_cases hw0 : w < 0
  · have hu : usedAt k.sl w = false := by unfold usedAt; rw [if_neg (by omega)]
    rw [hu, if_neg (by decide)]
    (repeat (first | refine g ?_))
    refine s_ret2 (imp_RD ?_ shut)
    rfl
  by_cases hw3 : 4 ≤ w
  · have hu : usedAt k.sl w = false := by unfold usedAt; rw [if_neg (by omega)]
    rw [hu, if_neg (by decide)]
    (repeat (first | refine g ?_))
    refine s_ret2 (imp_RD ?_ shut)
    rfl
  obtain ⟨i, rfl⟩ : ∃ i : Nat, w = i := ⟨w.toNat, by omega⟩
  obtain ⟨s, hs⟩ : ∃ s, k.sl[i]? = some s := ⟨_, List.getElem?_eq_getElem (by rw [hk.len]; omega)⟩
  obtain ⟨hi, _⟩ := List.getElem?_eq_some_iff.1 hs
  have hu : usedAt k.sl i = s.used := by unfold usedAt; rw [if_pos (by omega), Int.toNat_natCast, hs]
  have hx := encKeys_at k i s hs 0 (by decide)
  have hx : (encKeys k)[1 + i * 5]? = some (.bool s.used) := hx
  have hput := encKeys_put k i zeroS hi
  have hd : dropped k i = ⟨k.gen, k.sl.set i zeroS⟩ := by unfold dropped; rw [Int.toNat_natCast]
  have hdk := dropped_ok hk i
  rw [hd] at hdk
  have cr := rightK_spec q ⟨k.gen, k.sl.set i zeroS⟩ hdk
  have hl2 := encKeys_len hdk.len
  rw [hu, hd]
  (repeat (first | refine g ?_))
  refine s_idr (kk := 5) (1 + i * 5) ?_
  (repeat (first | refine g ?_))
  refine s_loadat hx ?_
  (repeat (first | refine g ?_))
  cases hsu : s.used with
  | false =>
    rw [if_neg (by decide)]
    (repeat (first | refine g ?_))
    refine s_ret2 (imp_RD ?_ shut)
    rfl
  | true =>
    rw [if_pos rfl]
    (repeat (first | refine g ?_))
    refine s_idr (kk := 5) (1 + i * 5) ?_
    (repeat (first | refine g ?_))
    refine s_put (vs := encS zeroS) (h1 := rfl) (hi := by rw [hl]; show 1 + i * 5 + 5 ≤ 21; omega) ?_
    rw [hput]
    (repeat (first | refine g ?_))
    refine s_getall (hz := hl2) ?_
    (repeat (first | refine g ?_))
    cases hrr : rightK ⟨k.gen, k.sl.set i zeroS⟩ with
    | false =>
      rw [hrr] at cr
      rw [if_neg (by decide)]
      refine s_call cr ?_
      (repeat (first | refine g ?_))
      refine s_ret2 (imp_RD ?_ shut)
      rfl
    | true =>
      rw [hrr] at cr
      rw [if_pos rfl]
      refine s_call cr ?_
      (repeat (first | refine g ?_))
      have cg := grown_spec q ⟨k.gen, k.sl.set i zeroS⟩ hdk.len (by show k.gen ≤ _; omega) g0
      obtain ⟨G, hG⟩ : ∃ G, G = grownK ⟨k.gen, k.sl.set i zeroS⟩ := ⟨_, rfl⟩
      have hlG : G.1.sl.length = 4 := by
        rw [hG]; unfold grownK; split
        · rfl
        · exact hdk.len
      rw [← hG] at cg ⊢
      obtain ⟨GK, ge⟩ := G
      dsimp only at cg hlG ⊢
      have hl3 := encKeys_len hlG
      have h13 := encKeys_one GK
      obtain ⟨E, hE⟩ : ∃ E, E = encKeys GK := ⟨_, rfl⟩
      rw [← hE] at hl3 h13 cg ⊢
      refine s_getall (hz := hl2) ?_
      (repeat (first | refine g ?_))
      refine s_call cg ?_
      (repeat (first | refine g ?_))
      refine s_putall (h1 := h13) (hz := hl3) (hi := by rw [hl3]; rfl) ?_
      (repeat (first | refine g ?_))
      refine run_ret2 (imp_RD ?_ shut) rfl (res_cell tabOk rfl rfl rfl (by repeat (first | (with_reducible exact At.head) | apply At.tail)) hl3) (res_tmp rfl)
      rfl
end Go.Proofs.Ytibookgcaboldaa.V
namespace Go.Proofs.Ytibookgcaboldaa.V
open Go.Proofs.Ytibookgcaboldaa.VL Go.Proofs.Ytibookgcaboldaa.VL.RD Go.Proofs.Ytibookgcaboldaa.VL.Sha
attribute [local irreducible] Run sealB openB stretchB bndB
def freeL : List SlotT → Nat → Option Nat
  | [], _ => none
  | s :: l, i => if s.used = true then freeL l (i + 1) else some i
theorem freeL_step (l : List SlotT) (i : Nat) (s : SlotT) (h : l[i]? = some s) : freeL (l.drop i) i = if s.used = true then freeL (l.drop (i + 1)) (i + 1) else some i := by
  obtain ⟨hi, e⟩ := List.getElem?_eq_some_iff.1 h
  rw [List.drop_eq_getElem_cons hi, e]; rfl
theorem freeL_place : ∀ (l : List SlotT) (i j : Nat), freeL l i = some j → ∃ n s, j = i + n ∧ l[n]? = some s ∧ s.used = false
  | [], _, _, h => by cases h
  | s :: l, i, j, h => by
    unfold freeL at h
    split at h
    · obtain ⟨n, t, e1, e2, e3⟩ := freeL_place l (i + 1) j h
      exact ⟨n + 1, t, by omega, e2, e3⟩
    · rename_i hu
      obtain rfl := Option.some.inj h
      exact ⟨0, s, rfl, rfl, by simpa using hu⟩
def addIn (k : KeysT) (m mo sa no : ByteArray) (r : Int) (i : Nat) : KeysT × Int × Int :=
  if 4294967295 ≤ k.gen then (zeroK, 0, 2) else (⟨k.gen + 1, k.sl.set i (sealedK i m mo sa no r.toNat)⟩, (i : Int), 0)
def addK (k : KeysT) (pa mo sa no : ByteArray) (r : Int) : KeysT × Int × Int :=
  if fitsF sa no r = true then
    if (openK k pa).2.2 = 0 then (match freeL k.sl 0 with | some i => addIn k (openK k pa).1 mo sa no r i | none => (zeroK, 0, 6)) else (zeroK, 0, (openK k pa).2.2)
  else (zeroK, 0, 1)
set_option maxHeartbeats 2000000 in
theorem addK_spec (q : View) (k : KeysT) (hk : KeysOk k) (pa mo sa no : ByteArray) (r : Int) (r0 : -9223372036854775808 ≤ r) (r1 : r ≤ 9223372036854775807) (hp : pa.size ≤ 1000000) (ho : mo.size ≤ 1000000) :
    FnD Try.prog q 28 [.agg ⟨encKeys k⟩, .string pa, .string mo, .string sa, .string no, .int .i64 r] [] (.tuple #[.agg ⟨encKeys (addK k pa mo sa no r).1⟩, .int .i64 (addK k pa mo sa no r).2.1, .int .i64 (addK k pa mo sa no r).2.2]) [] := by
  have cf := fits_spec q sa no r r0 r1
  have co := openK_spec q k hk pa hp
  have hl := encKeys_len hk.len
  have hkl := encKs_len k.sl
  rw [hk.len] at hkl
  have hop := openK_place k pa
  have hoz := openK_size k pa
  unfold addK
  obtain ⟨⟨m, i, e⟩, hO⟩ : ∃ O, O = openK k pa := ⟨_, rfl⟩
  rw [← hO] at co hop hoz ⊢
  dsimp only at co hop hoz ⊢
  (first | refine FnD.go Try.call28 Try.func28 rfl rfl rfl ?_ | refine FnX.go Try.call28 Try.func28 rfl rfl rfl ?_)
  (repeat (first | refine g ?_))
  refine s_box fun b => ?_
  refine s_ceq b (encKeys k) ?_ ?_
  · rfl
  (repeat (first | refine g ?_))
  refine s_alloc fun rk => ?_
  (repeat (first | refine g ?_))
  cases hf : fitsF sa no r with
  | false =>
    rw [hf] at cf
    rw [if_neg (by decide)]
    refine s_call cf ?_
    (repeat (first | refine g ?_))
    refine s_ret3 (imp_RD ?_ shut)
    rfl
  | true =>
    rw [hf] at cf
    rw [if_pos rfl]
    refine s_call cf ?_
    (repeat (first | refine g ?_))
    refine s_getall (hz := hl) ?_
    (repeat (first | refine g ?_))
    refine s_call co ?_
    (repeat (first | refine g ?_))
    by_cases he : e ≠ 0
    · rw [if_neg he]
      (repeat (first | refine g ?_))
      refine s_ret3 (imp_RD ?_ shut)
      rfl
    obtain rfl : e = 0 := by omega
    rw [if_pos rfl]
    obtain ⟨hr, _, _, _, _, _, _⟩ := hop rfl
    obtain ⟨g0, g1⟩ := rightK_gen hr
    obtain ⟨f1, f2, f3, f4⟩ := fits_ok hf
    obtain ⟨n, rfl⟩ : ∃ n : Nat, r = n := ⟨r.toNat, by omega⟩
    clear hop hf
    (repeat (first | refine g ?_))
    obtain ⟨O, hfr⟩ : ∃ O, O = freeL k.sl 0 := ⟨_, rfl⟩
    rw [← hfr]
    refine s_ceq rk (encKeys zeroK) ?_ ?_
    · rfl
    refine s_getat (vs := encKs k.sl) (m := 20) ?_ ?_ (hle := by omega)
    · show (encKs k.sl).take 20 = _
      rw [List.take_of_length_le (by omega)]
    (repeat (first | refine g ?_))
    refine run_cutI (X := Unit) (fun _ => O = none) (fun _ => [(12, .pointer (some ⟨rk, 0, none⟩))]) (fun _ => [cells rk 26 ⟨encKeys zeroK⟩]) ?_ fun _ hO2 => ?_
    · refine run_loopI (X := Nat) (fun j => j ≤ 4 ∧ freeL (k.sl.drop j) j = O) (fun j => [(2, .string mo), (3, .string sa), (4, .string no), (5, .int .i64 (n : Int)), (6, .pointer (some ⟨b, 0, none⟩)), (12, .pointer (some ⟨rk, 0, none⟩)), (15, .string m), (38, .agg ⟨encKs k.sl⟩), (39, .int .i64 (j : Int))]) (fun _ => [cells b 26 ⟨encKeys k⟩, cells rk 26 ⟨encKeys zeroK⟩]) (fun j => 4 - j) 0 ⟨Nat.zero_le _, hfr.symm⟩ fct shut ?_
      intro j ⟨hj4, hinv⟩
      (repeat (first | refine g ?_))
      refine run_cond_dec rfl ?_ ?_
      · intro h1
        obtain ⟨s, hs⟩ : ∃ s, k.sl[j]? = some s := ⟨_, List.getElem?_eq_getElem (by rw [hk.len]; omega)⟩
        have hst := freeL_step k.sl j s hs
        obtain ⟨hj, _⟩ := List.getElem?_eq_some_iff.1 hs
        have cs := sealed_spec q j n (by omega) (by omega) (by omega) m mo sa no (by omega) ho (by omega)
        have hput := encKeys_put k j (sealedK j m mo sa no n) hj
        obtain ⟨S, hS⟩ : ∃ S, S = sealedK j m mo sa no n := ⟨_, rfl⟩
        have hS1 := encS_one S
        have hlen : (k.sl.set j S).length = 4 := by rw [List.length_set]; exact hk.len
        have hl2 := encKeys_len (k := ⟨k.gen, k.sl.set j S⟩) hlen
        rw [← hS] at cs hput
        have hix : ((encKs k.sl).drop ((j : Int).toNat * 5)).take 5 = encS s := by rw [Int.toNat_natCast]; exact encKs_all k.sl j s hs
        obtain ⟨u, rr, ssa, sno, sse⟩ := s
        unfold encS at hix
        dsimp only at hix hst
        (repeat (first | refine g ?_))
        refine s_ixs (kk := 5) hix ?_
        (repeat (first | refine g ?_))
        refine s_alloc fun rs => ?_
        (repeat (first | refine g ?_))
        cases u with
        | true =>
          rw [if_pos rfl] at hst
          (repeat (first | refine g ?_))
          exact run_stop_loop (j + 1) ⟨⟨by omega, by rw [← hinv, hst]⟩, by omega⟩ fct shut
        | false =>
          rw [if_neg (by decide)] at hst
          rw [← hinv, hst]
          dsimp only
          unfold addIn
          rw [Int.toNat_natCast, ← hS]
          have cg := grown_spec q ⟨k.gen, k.sl.set j S⟩ hlen (by show k.gen ≤ _; omega) g0
          unfold grownK at cg
          (repeat (first | refine g ?_))
          refine s_call cs ?_
          (repeat (first | refine g ?_))
          refine s_idr (kk := 5) (1 + j * 5) ?_
          (repeat (first | refine g ?_))
          refine s_put (vs := encS S) (h1 := hS1) (hi := by rw [hl]; show 1 + j * 5 + 5 ≤ 21; omega) ?_
          rw [hput]
          (repeat (first | refine g ?_))
          refine s_getall (hz := hl2) ?_
          (repeat (first | refine g ?_))
          by_cases hg : 4294967295 ≤ k.gen
          · rw [if_pos (show 4294967295 ≤ (⟨k.gen, k.sl.set j S⟩ : KeysT).gen from hg)] at cg
            rw [if_pos hg]
            refine s_call cg ?_
            (repeat (first | refine g ?_))
            refine s_putall (h1 := encKeys_one _) (hz := rfl) (hi := by rw [hl2]; rfl) ?_
            (repeat (first | refine g ?_))
            refine s_ret3 (imp_RD ?_ shut)
            rfl
          · rw [if_neg (show ¬ 4294967295 ≤ (⟨k.gen, k.sl.set j S⟩ : KeysT).gen from hg)] at cg
            rw [if_neg hg]
            dsimp only at cg ⊢
            have hl3 := encKeys_len (k := ⟨k.gen + 1, k.sl.set j S⟩) hlen
            have h13 := encKeys_one ⟨k.gen + 1, k.sl.set j S⟩
            obtain ⟨E, hE⟩ : ∃ E, E = encKeys ⟨k.gen + 1, k.sl.set j S⟩ := ⟨_, rfl⟩
            rw [← hE] at hl3 h13 cg ⊢
            refine s_call cg ?_
            (repeat (first | refine g ?_))
            refine s_putall (h1 := h13) (hz := hl3) (hi := by rw [hl2]; exact hl3) ?_
            (repeat (first | refine g ?_))
            refine s_getall (hz := hl3) ?_
            (repeat (first | refine g ?_))
            refine s_putall (h1 := h13) (hz := hl3) (hi := by rw [hl3]; rfl) ?_
            (repeat (first | refine g ?_))
            refine run_ret3 (imp_RD ?_ shut) rfl (res_cell tabOk rfl rfl rfl (by repeat (first | (with_reducible exact At.head) | apply At.tail)) hl3) (res_tmp rfl) (res_tmp rfl)
            rfl
      · intro h1
        obtain rfl : j = 4 := by omega
        rw [List.drop_eq_nil_of_le (by rw [hk.len]; exact Nat.le_refl _)] at hinv
        (repeat (first | refine g ?_))
        exact run_stop_loop () hinv.symm fct shut
    · rw [hO2]
      (repeat (first | refine g ?_))
      refine s_ret3 (imp_RD ?_ shut)
      rfl
end Go.Proofs.Ytibookgcaboldaa.V
namespace Go.Proofs.Ytibookgcaboldaa.V
open Go.Proofs.Ytibookgcaboldaa.VL Go.Proofs.Ytibookgcaboldaa.VL.RD Go.Proofs.Ytibookgcaboldaa.VL.Sha
attribute [local irreducible] Run sealB openB stretchB bndB
structure OpT where
  kind : Int
  which : Int
  rounds : Int
  pass : ByteArray
  other : ByteArray
  salt : ByteArray
  nonce : ByteArray
def encOp (o : OpT) : List Value := [.int .i64 o.kind, .int .i64 o.which, .int .i64 o.rounds, .string o.pass, .string o.other, .string o.salt, .string o.nonce]
structure OpOk (o : OpT) : Prop where
  k0 : -9223372036854775808 ≤ o.kind
  k1 : o.kind ≤ 9223372036854775807
  w0 : -9223372036854775808 ≤ o.which
  w1 : o.which ≤ 9223372036854775807
  r0 : -9223372036854775808 ≤ o.rounds
  r1 : o.rounds ≤ 9223372036854775807
  z1 : o.pass.size ≤ 9223372036854775807
  z2 : o.other.size ≤ 9223372036854775807
  z3 : o.salt.size ≤ 9223372036854775807
  z4 : o.nonce.size ≤ 9223372036854775807
theorem set_ok {k : KeysT} (hk : KeysOk k) {i : Nat} {s : SlotT} (hs : SlotOk s) (g : Int) (g0 : -9223372036854775808 ≤ g) (g1 : g ≤ 9223372036854775807) : KeysOk ⟨g, k.sl.set i s⟩ := ⟨g0, g1, by dsimp only; rw [List.length_set]; exact hk.len, fun t ht => by
  dsimp only at ht
  rcases List.mem_or_eq_of_mem_set ht with h | h
  · exact hk.ok t h
  · rw [h]; exact hs⟩
theorem grownK_ok {k : KeysT} (hk : KeysOk k) : KeysOk (grownK k).1 := by
  unfold grownK
  split
  · exact zeroK_ok
  · have := hk.g0
    exact ⟨by show _ ≤ k.gen + 1; omega, by show k.gen + 1 ≤ _; omega, hk.len, hk.ok⟩
theorem changeK_ok {k : KeysT} (hk : KeysOk k) (pa ot sa no : ByteArray) (r : Int) : KeysOk (changeK k pa ot sa no r).1 := by
  unfold changeK
  split
  · rename_i hf
    obtain ⟨f1, f2, f3, f4⟩ := fits_ok hf
    have hz := openK_size k pa
    split
    · exact grownK_ok (set_ok hk (sealedK_ok _ _ _ _ _ _ (by omega) f1 f2 (by omega)) _ hk.g0 hk.g1)
    · exact zeroK_ok
  · exact zeroK_ok
theorem dropK_ok {k : KeysT} (hk : KeysOk k) (pa : ByteArray) (w : Int) : KeysOk (dropK k pa w).1 := by
  unfold dropK
  split
  · split
    · split
      · exact grownK_ok (dropped_ok hk w)
      · exact zeroK_ok
    · exact zeroK_ok
  · exact zeroK_ok
theorem addK_ok {k : KeysT} (hk : KeysOk k) (pa mo sa no : ByteArray) (r : Int) : KeysOk (addK k pa mo sa no r).1 := by
  unfold addK
  split
  · rename_i hf
    obtain ⟨f1, f2, f3, f4⟩ := fits_ok hf
    have hz := openK_size k pa
    split
    · split
      · unfold addIn
        split
        · exact zeroK_ok
        · have := hk.g0
          have := hk.g1
          exact set_ok hk (sealedK_ok _ _ _ _ _ _ (by omega) f1 f2 (by omega)) _ (by omega) (by omega)
      · exact zeroK_ok
    · exact zeroK_ok
  · exact zeroK_ok
end Go.Proofs.Ytibookgcaboldaa.V
