/- A pass phrase is changed, by the program and by the document. -/
import Derived.Test.YtibookgcaboldaaKYb
set_option maxRecDepth 10000
set_option linter.unusedVariables false
namespace Go.Proofs.Ytibookgcaboldaa.V
open Go.Proofs.Ytibookgcaboldaa.VL Go.Proofs.Ytibookgcaboldaa.VL.RD Go.Proofs.Ytibookgcaboldaa.VL.Sha
attribute [local irreducible] Run sealB openB stretchB bndB
def grownK (k : KeysT) : KeysT × Int := if 4294967295 ≤ k.gen then (zeroK, 2) else (⟨k.gen + 1, k.sl⟩, 0)
set_option maxHeartbeats 1000000 in
theorem grown_spec (q : View) (k : KeysT) (hk : k.sl.length = 4) (g1 : k.gen ≤ 9223372036854775807) (g0 : 0 ≤ k.gen) : FnD Try.prog q 49 [.agg ⟨encKeys k⟩] [] (.tuple #[.agg ⟨encKeys (grownK k).1⟩, .int .i64 (grownK k).2]) [] := by
  have hz := encKs_len k.sl
  rw [hk] at hz
  have hl := encKeys_len hk
  unfold grownK
  (first | refine FnD.go Try.call49 Try.func49 rfl rfl rfl ?_ | refine FnX.go Try.call49 Try.func49 rfl rfl rfl ?_)
  (repeat (first | refine g ?_))
  refine s_box fun b => ?_
  refine s_ceq b (.int .i64 k.gen :: encKs k.sl) ?_ ?_
  · rfl
  (repeat (first | refine g ?_))
  refine s_alloc fun rk => ?_
  (repeat (first | refine g ?_))
  by_cases h1 : 4294967295 ≤ k.gen
  · rw [if_pos h1]
    (repeat (first | refine g ?_))
    refine s_ret2 (imp_RD ?_ shut)
    rfl
  · rw [if_neg h1]
    have hl2 := encKeys_len (k := ⟨k.gen + 1, k.sl⟩) hk
    have ho2 := encKeys_one ⟨k.gen + 1, k.sl⟩
    (repeat (first | refine g ?_))
    refine s_storeset ?_
    refine s_ceq b (encKeys ⟨k.gen + 1, k.sl⟩) ?_ ?_
    · rfl
    obtain ⟨E, hE⟩ : ∃ E, E = encKeys ⟨k.gen + 1, k.sl⟩ := ⟨_, rfl⟩
    rw [← hE] at hl2 ho2 ⊢
    (repeat (first | refine g ?_))
    refine s_getall (hz := hl2) ?_
    (repeat (first | refine g ?_))
    refine s_putall (h1 := ho2) (hz := hl2) (hi := by rw [hl2]; rfl) ?_
    (repeat (first | refine g ?_))
    refine run_ret2 (imp_RD ?_ shut) rfl (res_cell tabOk rfl rfl rfl (by repeat (first | (with_reducible exact At.head) | apply At.tail)) hl2) (res_tmp rfl)
    rfl
theorem rightK_gen {k : KeysT} (h : rightK k = true) : 0 ≤ k.gen ∧ k.gen < 4294967296 := by
  unfold rightK at h
  simp only [Bool.and_eq_true, decide_eq_true_eq] at h
  exact h.2.2
end Go.Proofs.Ytibookgcaboldaa.V
namespace Go.Proofs.Ytibookgcaboldaa.V
open Go.Proofs.Ytibookgcaboldaa.VL Go.Proofs.Ytibookgcaboldaa.VL.RD Go.Proofs.Ytibookgcaboldaa.VL.Sha
attribute [local irreducible] Run sealB openB stretchB bndB
end Go.Proofs.Ytibookgcaboldaa.V
namespace Go.Proofs.Ytibookgcaboldaa.V
open Go.Proofs.Ytibookgcaboldaa.VL Go.Proofs.Ytibookgcaboldaa.VL.RD Go.Proofs.Ytibookgcaboldaa.VL.Sha
attribute [local irreducible] Run sealB openB stretchB bndB
def freeL : List SlotT → Nat → Option Nat
  | [], _ => none
  | s :: l, i => if s.used = true then freeL l (i + 1) else some i
theorem freeL_step (l : List SlotT) (i : Nat) (s : SlotT) (h : l[i]? = some s) : freeL (l.drop i) i = if s.used = true then freeL (l.drop (i + 1)) (i + 1) else some i := by
  obtain ⟨hi, e⟩ := List.getElem?_eq_some_iff.1 h
  rw [List.drop_eq_getElem_cons hi, e]; rfl
def addIn (k : KeysT) (m mo sa no : ByteArray) (r : Int) (i : Nat) : KeysT × Int × Int :=
  if 4294967295 ≤ k.gen then (zeroK, 0, 2) else (⟨k.gen + 1, k.sl.set i (sealedK i m mo sa no r.toNat)⟩, (i : Int), 0)
def addK (k : KeysT) (pa mo sa no : ByteArray) (r : Int) : KeysT × Int × Int :=
  if fitsF sa no r = true then
    if (openK k pa).2.2 = 0 then (match freeL k.sl 0 with | some i => addIn k (openK k pa).1 mo sa no r i | none => (zeroK, 0, 6)) else (zeroK, 0, (openK k pa).2.2)
  else (zeroK, 0, 1)
set_option maxHeartbeats 2000000 in
theorem addK_spec (q : View) (k : KeysT) (hk : KeysOk k) (pa mo sa no : ByteArray) (r : Int) (r0 : -9223372036854775808 ≤ r) (r1 : r ≤ 9223372036854775807) (hp : pa.size ≤ 1000000) (ho : mo.size ≤ 1000000) :
    FnD Try.prog q 28 [.agg ⟨encKeys k⟩, .string pa, .string mo, .string sa, .string no, .int .i64 r] [] (.tuple #[.agg ⟨encKeys (addK k pa mo sa no r).1⟩, .int .i64 (addK k pa mo sa no r).2.1, .int .i64 (addK k pa mo sa no r).2.2]) [] := by
  have cf := fits_spec q sa no r r0 r1
  have co := openK_spec q k hk pa hp
  have hl := encKeys_len hk.len
  have hkl := encKs_len k.sl
  rw [hk.len] at hkl
  have hop := openK_place k pa
  have hoz := openK_size k pa
  unfold addK
  obtain ⟨⟨m, i, e⟩, hO⟩ : ∃ O, O = openK k pa := ⟨_, rfl⟩
  rw [← hO] at co hop hoz ⊢
  dsimp only at co hop hoz ⊢
  (first | refine FnD.go Try.call28 Try.func28 rfl rfl rfl ?_ | refine FnX.go Try.call28 Try.func28 rfl rfl rfl ?_)
  (repeat (first | refine g ?_))
  refine s_box fun b => ?_
  refine s_ceq b (encKeys k) ?_ ?_
  · rfl
  (repeat (first | refine g ?_))
  refine s_alloc fun rk => ?_
  (repeat (first | refine g ?_))
  cases hf : fitsF sa no r with
  | false =>
    rw [hf] at cf
    rw [if_neg (by decide)]
    refine s_call cf ?_
    (repeat (first | refine g ?_))
    refine s_ret3 (imp_RD ?_ shut)
    rfl
  | true =>
    rw [hf] at cf
    rw [if_pos rfl]
    refine s_call cf ?_
    (repeat (first | refine g ?_))
    refine s_getall (hz := hl) ?_
    (repeat (first | refine g ?_))
    refine s_call co ?_
    (repeat (first | refine g ?_))
    by_cases he : e ≠ 0
    · rw [if_neg he]
      (repeat (first | refine g ?_))
      refine s_ret3 (imp_RD ?_ shut)
      rfl
    obtain rfl : e = 0 := by omega
    rw [if_pos rfl]
    obtain ⟨hr, _, _, _, _, _, _⟩ := hop rfl
    obtain ⟨g0, g1⟩ := rightK_gen hr
    obtain ⟨f1, f2, f3, f4⟩ := fits_ok hf
    obtain ⟨n, rfl⟩ : ∃ n : Nat, r = n := ⟨r.toNat, by omega⟩
    clear hop hf
    (repeat (first | refine g ?_))
    obtain ⟨O, hfr⟩ : ∃ O, O = freeL k.sl 0 := ⟨_, rfl⟩
    rw [← hfr]
    refine s_ceq rk (encKeys zeroK) ?_ ?_
    · rfl
    refine s_getat (vs := encKs k.sl) (m := 20) ?_ ?_ (hle := by omega)
    · show (encKs k.sl).take 20 = _
      rw [List.take_of_length_le (by omega)]
    (repeat (first | refine g ?_))
    refine run_cutI (X := Unit) (fun _ => O = none) (fun _ => [(12, .pointer (some ⟨rk, 0, none⟩))]) (fun _ => [cells rk 26 ⟨encKeys zeroK⟩]) ?_ fun _ hO2 => ?_
    · refine run_loopI (X := Nat) (fun j => j ≤ 4 ∧ freeL (k.sl.drop j) j = O) (fun j => [(2, .string mo), (3, .string sa), (4, .string no), (5, .int .i64 (n : Int)), (6, .pointer (some ⟨b, 0, none⟩)), (12, .pointer (some ⟨rk, 0, none⟩)), (15, .string m), (38, .agg ⟨encKs k.sl⟩), (39, .int .i64 (j : Int))]) (fun _ => [cells b 26 ⟨encKeys k⟩, cells rk 26 ⟨encKeys zeroK⟩]) (fun j => 4 - j) 0 ⟨Nat.zero_le _, hfr.symm⟩ fct shut ?_
      intro j ⟨hj4, hinv⟩
      (repeat (first | refine g ?_))
      refine run_cond_dec rfl ?_ ?_
      · intro h1
        obtain ⟨s, hs⟩ : ∃ s, k.sl[j]? = some s := ⟨_, List.getElem?_eq_getElem (by rw [hk.len]; omega)⟩
        have hst := freeL_step k.sl j s hs
        obtain ⟨hj, _⟩ := List.getElem?_eq_some_iff.1 hs
        have cs := sealed_spec q j n (by omega) (by omega) (by omega) m mo sa no (by omega) ho (by omega)
        have hput := encKeys_put k j (sealedK j m mo sa no n) hj
        obtain ⟨S, hS⟩ : ∃ S, S = sealedK j m mo sa no n := ⟨_, rfl⟩
        have hS1 := encS_one S
        have hlen : (k.sl.set j S).length = 4 := by rw [List.length_set]; exact hk.len
        have hl2 := encKeys_len (k := ⟨k.gen, k.sl.set j S⟩) hlen
        rw [← hS] at cs hput
        have hix : ((encKs k.sl).drop ((j : Int).toNat * 5)).take 5 = encS s := by rw [Int.toNat_natCast]; exact encKs_all k.sl j s hs
        obtain ⟨u, rr, ssa, sno, sse⟩ := s
        unfold encS at hix
        dsimp only at hix hst
        (repeat (first | refine g ?_))
        refine s_ixs (kk := 5) hix ?_
        (repeat (first | refine g ?_))
        refine s_alloc fun rs => ?_
        (repeat (first | refine g ?_))
        cases u with
        | true =>
          rw [if_pos rfl] at hst
          (repeat (first | refine g ?_))
          exact run_stop_loop (j + 1) ⟨⟨by omega, by rw [← hinv, hst]⟩, by omega⟩ fct shut
        | false =>
          rw [if_neg (by decide)] at hst
          rw [← hinv, hst]
          dsimp only
          unfold addIn
          rw [Int.toNat_natCast, ← hS]
          have cg := grown_spec q ⟨k.gen, k.sl.set j S⟩ hlen (by show k.gen ≤ _; omega) g0
          unfold grownK at cg
          (repeat (first | refine g ?_))
          refine s_call cs ?_
          (repeat (first | refine g ?_))
          refine s_idr (kk := 5) (1 + j * 5) ?_
          (repeat (first | refine g ?_))
          refine s_put (vs := encS S) (h1 := hS1) (hi := by rw [hl]; show 1 + j * 5 + 5 ≤ 21; omega) ?_
          rw [hput]
          (repeat (first | refine g ?_))
          refine s_getall (hz := hl2) ?_
          (repeat (first | refine g ?_))
          by_cases hg : 4294967295 ≤ k.gen
          · rw [if_pos (show 4294967295 ≤ (⟨k.gen, k.sl.set j S⟩ : KeysT).gen from hg)] at cg
            rw [if_pos hg]
            refine s_call cg ?_
            (repeat (first | refine g ?_))
            refine s_putall (h1 := encKeys_one _) (hz := rfl) (hi := by rw [hl2]; rfl) ?_
            (repeat (first | refine g ?_))
            refine s_ret3 (imp_RD ?_ shut)
            rfl
          · rw [if_neg (show ¬ 4294967295 ≤ (⟨k.gen, k.sl.set j S⟩ : KeysT).gen from hg)] at cg
            rw [if_neg hg]
            dsimp only at cg ⊢
            have hl3 := encKeys_len (k := ⟨k.gen + 1, k.sl.set j S⟩) hlen
            have h13 := encKeys_one ⟨k.gen + 1, k.sl.set j S⟩
            obtain ⟨E, hE⟩ : ∃ E, E = encKeys ⟨k.gen + 1, k.sl.set j S⟩ := ⟨_, rfl⟩
            rw [← hE] at hl3 h13 cg ⊢
            refine s_call cg ?_
            (repeat (first | refine g ?_))
            refine s_putall (h1 := h13) (hz := hl3) (hi := by rw [hl2]; exact hl3) ?_
            (repeat (first | refine g ?_))
            refine s_getall (hz := hl3) ?_
            (repeat (first | refine g ?_))
            refine s_putall (h1 := h13) (hz := hl3) (hi := by rw [hl3]; rfl) ?_
            (repeat (first | refine g ?_))
            refine run_ret3 (imp_RD ?_ shut) rfl (res_cell tabOk rfl rfl rfl (by repeat (first | (with_reducible exact At.head) | apply At.tail)) hl3) (res_tmp rfl) (res_tmp rfl)
            rfl
      · intro h1
        obtain rfl : j = 4 := by omega
        rw [List.drop_eq_nil_of_le (by rw [hk.len]; exact Nat.le_refl _)] at hinv
        (repeat (first | refine g ?_))
        exact run_stop_loop () hinv.symm fct shut
    · rw [hO2]
      (repeat (first | refine g ?_))
      refine s_ret3 (imp_RD ?_ shut)
      rfl
set_option maxHeartbeats 2000000 in
theorem refAddK_spec (q : View) (k : KeysT) (hk : KeysOk k) (pa mo sa no : ByteArray) (r : Int) (r0 : -9223372036854775808 ≤ r) (r1 : r ≤ 9223372036854775807) (hp : pa.size ≤ 1000000) (ho : mo.size ≤ 1000000) :
    FnD Try.prog q 29 [.agg ⟨encKeys k⟩, .string pa, .string mo, .string sa, .string no, .int .i64 r] [] (.tuple #[.agg ⟨encKeys (addK k pa mo sa no r).1⟩, .int .i64 (addK k pa mo sa no r).2.1, .int .i64 (addK k pa mo sa no r).2.2]) [] := by
  have cf := rfits_spec q sa no r r0 r1
  have co := refOpenK_spec q k hk pa hp
  have hl := encKeys_len hk.len
  have hkl := encKs_len k.sl
  rw [hk.len] at hkl
  have hop := openK_place k pa
  have hoz := openK_size k pa
  unfold addK
  obtain ⟨⟨m, i, e⟩, hO⟩ : ∃ O, O = openK k pa := ⟨_, rfl⟩
  rw [← hO] at co hop hoz ⊢
  dsimp only at co hop hoz ⊢
  (first | refine FnD.go Try.call29 Try.func29 rfl rfl rfl ?_ | refine FnX.go Try.call29 Try.func29 rfl rfl rfl ?_)
  (repeat (first | refine g ?_))
  refine s_box fun b => ?_
  refine s_ceq b (encKeys k) ?_ ?_
  · rfl
  (repeat (first | refine g ?_))
  refine s_alloc fun rk => ?_
  (repeat (first | refine g ?_))
  cases hf : fitsF sa no r with
  | false =>
    rw [hf] at cf
    rw [if_neg (by decide)]
    refine s_call cf ?_
    (repeat (first | refine g ?_))
    refine s_ret3 (imp_RD ?_ shut)
    rfl
  | true =>
    rw [hf] at cf
    rw [if_pos rfl]
    refine s_call cf ?_
    (repeat (first | refine g ?_))
    refine s_getall (hz := hl) ?_
    (repeat (first | refine g ?_))
    refine s_call co ?_
    (repeat (first | refine g ?_))
    by_cases he : e ≠ 0
    · rw [if_neg he]
      (repeat (first | refine g ?_))
      refine s_ret3 (imp_RD ?_ shut)
      rfl
    obtain rfl : e = 0 := by omega
    rw [if_pos rfl]
    obtain ⟨hr, _, _, _, _, _, _⟩ := hop rfl
    obtain ⟨g0, g1⟩ := rightK_gen hr
    obtain ⟨f1, f2, f3, f4⟩ := fits_ok hf
    obtain ⟨n, rfl⟩ : ∃ n : Nat, r = n := ⟨r.toNat, by omega⟩
    clear hop hf
    (repeat (first | refine g ?_))
    obtain ⟨O, hfr⟩ : ∃ O, O = freeL k.sl 0 := ⟨_, rfl⟩
    rw [← hfr]
    refine s_ceq rk (encKeys zeroK) ?_ ?_
    · rfl
    (repeat (first | refine g ?_))
    refine run_cutI (X := Unit) (fun _ => O = none) (fun _ => [(12, .pointer (some ⟨rk, 0, none⟩))]) (fun _ => [cells rk 26 ⟨encKeys zeroK⟩]) ?_ fun _ hO2 => ?_
    · refine run_loopI (X := Nat) (fun j => j ≤ 4 ∧ freeL (k.sl.drop j) j = O) (fun j => [(2, .string mo), (3, .string sa), (4, .string no), (5, .int .i64 (n : Int)), (6, .pointer (some ⟨b, 0, none⟩)), (12, .pointer (some ⟨rk, 0, none⟩)), (15, .string m), (18, .int .i64 (j : Int))]) (fun _ => [cells b 26 ⟨encKeys k⟩, cells rk 26 ⟨encKeys zeroK⟩]) (fun j => 4 - j) 0 ⟨Nat.zero_le _, hfr.symm⟩ fct shut ?_
      intro j ⟨hj4, hinv⟩
      (repeat (first | refine g ?_))
      refine run_cond_dec rfl ?_ ?_
      · intro h1
        obtain ⟨s, hs⟩ : ∃ s, k.sl[j]? = some s := ⟨_, List.getElem?_eq_getElem (by rw [hk.len]; omega)⟩
        have hst := freeL_step k.sl j s hs
        obtain ⟨hj, _⟩ := List.getElem?_eq_some_iff.1 hs
        have cs := made_spec q j n (by omega) (by omega) (by omega) m mo sa no (by omega) ho (by omega)
        have hput := encKeys_put k j (sealedK j m mo sa no n) hj
        obtain ⟨S, hS⟩ : ∃ S, S = sealedK j m mo sa no n := ⟨_, rfl⟩
        have hS1 := encS_one S
        have hlen : (k.sl.set j S).length = 4 := by rw [List.length_set]; exact hk.len
        have hl2 := encKeys_len (k := ⟨k.gen, k.sl.set j S⟩) hlen
        rw [← hS] at cs hput
        have hx := encKeys_at k j s hs 0 (by decide)
        have hx : (encKeys k)[1 + j * 5]? = some (.bool s.used) := hx
        (repeat (first | refine g ?_))
        refine s_idr (kk := 5) (1 + j * 5) ?_
        (repeat (first | refine g ?_))
        refine s_loadat hx ?_
        (repeat (first | refine g ?_))
        cases hsu : s.used with
        | true =>
          rw [if_pos hsu] at hst
          (repeat (first | refine g ?_))
          exact run_stop_loop (j + 1) ⟨⟨by omega, by rw [← hinv, hst]⟩, by omega⟩ fct shut
        | false =>
          rw [if_neg (by rw [hsu]; decide)] at hst
          rw [← hinv, hst]
          dsimp only
          unfold addIn
          rw [Int.toNat_natCast, ← hS]
          by_cases hg : k.gen = 4294967295
          · rw [if_pos (by omega)]
            (repeat (first | refine g ?_))
            refine s_ret3 (imp_RD ?_ shut)
            rfl
          · rw [if_neg (by omega)]
            (repeat (first | refine g ?_))
            refine s_call cs ?_
            (repeat (first | refine g ?_))
            refine s_idr (kk := 5) (1 + j * 5) ?_
            (repeat (first | refine g ?_))
            refine s_put (vs := encS S) (h1 := hS1) (hi := by rw [hl]; show 1 + j * 5 + 5 ≤ 21; omega) ?_
            rw [hput]
            refine s_ceq b (.int .i64 k.gen :: encKs (k.sl.set j S)) ?_ ?_
            · rfl
            (repeat (first | refine g ?_))
            refine s_storeset ?_
            refine s_ceq b (encKeys ⟨k.gen + 1, k.sl.set j S⟩) ?_ ?_
            · rfl
            have hl3 := encKeys_len (k := ⟨k.gen + 1, k.sl.set j S⟩) hlen
            have h13 := encKeys_one ⟨k.gen + 1, k.sl.set j S⟩
            obtain ⟨E, hE⟩ : ∃ E, E = encKeys ⟨k.gen + 1, k.sl.set j S⟩ := ⟨_, rfl⟩
            dsimp only
            rw [← hE] at hl3 h13 ⊢
            (repeat (first | refine g ?_))
            refine s_getall (hz := hl3) ?_
            (repeat (first | refine g ?_))
            refine s_putall (h1 := h13) (hz := hl3) (hi := by rw [hl3]; rfl) ?_
            (repeat (first | refine g ?_))
            refine run_ret3 (imp_RD ?_ shut) rfl (res_cell tabOk rfl rfl rfl (by repeat (first | (with_reducible exact At.head) | apply At.tail)) hl3) (res_tmp rfl) (res_tmp rfl)
            rfl
      · intro h1
        obtain rfl : j = 4 := by omega
        rw [List.drop_eq_nil_of_le (by rw [hk.len]; exact Nat.le_refl _)] at hinv
        (repeat (first | refine g ?_))
        exact run_stop_loop () hinv.symm fct shut
    · rw [hO2]
      (repeat (first | refine g ?_))
      refine s_ret3 (imp_RD ?_ shut)
      rfl
end Go.Proofs.Ytibookgcaboldaa.V
namespace Go.Proofs.Ytibookgcaboldaa.V
open Go.Proofs.Ytibookgcaboldaa.VL Go.Proofs.Ytibookgcaboldaa.VL.RD Go.Proofs.Ytibookgcaboldaa.VL.Sha
attribute [local irreducible] Run sealB openB stretchB bndB
structure OpT where
  kind : Int
  which : Int
  rounds : Int
  pass : ByteArray
  other : ByteArray
  salt : ByteArray
  nonce : ByteArray
def encOp (o : OpT) : List Value := [.int .i64 o.kind, .int .i64 o.which, .int .i64 o.rounds, .string o.pass, .string o.other, .string o.salt, .string o.nonce]
structure OpOk (o : OpT) : Prop where
  k0 : -9223372036854775808 ≤ o.kind
  k1 : o.kind ≤ 9223372036854775807
  w0 : -9223372036854775808 ≤ o.which
  w1 : o.which ≤ 9223372036854775807
  r0 : -9223372036854775808 ≤ o.rounds
  r1 : o.rounds ≤ 9223372036854775807
  z1 : o.pass.size ≤ 9223372036854775807
  z2 : o.other.size ≤ 9223372036854775807
  z3 : o.salt.size ≤ 9223372036854775807
  z4 : o.nonce.size ≤ 9223372036854775807
theorem set_ok {k : KeysT} (hk : KeysOk k) {i : Nat} {s : SlotT} (hs : SlotOk s) (g : Int) (g0 : -9223372036854775808 ≤ g) (g1 : g ≤ 9223372036854775807) : KeysOk ⟨g, k.sl.set i s⟩ := ⟨g0, g1, by dsimp only; rw [List.length_set]; exact hk.len, fun t ht => by
  dsimp only at ht
  rcases List.mem_or_eq_of_mem_set ht with h | h
  · exact hk.ok t h
  · rw [h]; exact hs⟩
theorem addK_ok {k : KeysT} (hk : KeysOk k) (pa mo sa no : ByteArray) (r : Int) : KeysOk (addK k pa mo sa no r).1 := by
  unfold addK
  split
  · rename_i hf
    obtain ⟨f1, f2, f3, f4⟩ := fits_ok hf
    have hz := openK_size k pa
    split
    · split
      · unfold addIn
        split
        · exact zeroK_ok
        · have := hk.g0
          have := hk.g1
          exact set_ok hk (sealedK_ok _ _ _ _ _ _ (by omega) f1 f2 (by omega)) _ (by omega) (by omega)
      · exact zeroK_ok
    · exact zeroK_ok
  · exact zeroK_ok
theorem roundsF_ok (n : Int) (h0 : -9223372036854775808 ≤ n) (h1 : n ≤ 9223372036854775807) : -9223372036854775808 ≤ roundsF n ∧ roundsF n ≤ 9223372036854775807 := by unfold roundsF; split <;> omega
set_option maxHeartbeats 1000000 in
theorem adds_spec (q : View) (k : KeysT) (hk : KeysOk k) (o : OpT) (ho : OpOk o) : FnD Try.prog q 8 [.agg ⟨encKeys k⟩, .agg ⟨encOp o⟩] [] (.bool true) [] := by
  have hf := fewK_ok hk
  obtain ⟨kd, w, r, pa, ot, sa, no⟩ := o
  obtain ⟨_, _, _, _, r0, r1, _, _, _, _⟩ := ho
  dsimp only at r0 r1
  have cr := rounds_spec q r
  have cc := cut_spec q pa
  have cd := cut_spec q ot
  have hz := cutB_size pa
  have hy := cutB_size ot
  obtain ⟨hr0, hr1⟩ := roundsF_ok r r0 r1
  have c1 := addK_spec q (fewK k) hf (cutB pa) (cutB ot) sa no (roundsF r) hr0 hr1 (by omega) (by omega)
  have c2 := refAddK_spec q (fewK k) hf (cutB pa) (cutB ot) sa no (roundsF r) hr0 hr1 (by omega) (by omega)
  have hK := addK_ok hf (cutB pa) (cutB ot) sa no (roundsF r)
  unfold encOp
  dsimp only
  have hf := fewK_ok hk
  have c0 := few_spec q k hk
  have c9 := awake_spec q
  have hl := encKeys_len hk.len
  have hlf := encKeys_len hf.len
  have h1f := encKeys_one (fewK k)
  obtain ⟨E, hE⟩ : ∃ E, E = encKeys k := ⟨_, rfl⟩
  rw [← hE] at hl c0 ⊢
  obtain ⟨F, hF⟩ : ∃ F, F = encKeys (fewK k) := ⟨_, rfl⟩
  rw [← hF] at hlf h1f c0 c1 c2
  obtain ⟨⟨K, i, e⟩, hO⟩ : ∃ O, O = addK (fewK k) (cutB pa) (cutB ot) sa no (roundsF r) := ⟨_, rfl⟩
  rw [← hO] at c1 c2 hK
  dsimp only at c1 c2 hK
  have hl3 := encKeys_len hK.len
  have h13 := encKeys_one K
  have kl := keys_lits K hK
  have hfm := keys_formed (encKeys K) hl3
  obtain ⟨G, hG⟩ : ∃ G, G = encKeys K := ⟨_, rfl⟩
  rw [← hG] at hl3 h13 kl c1 c2 hfm
  (first | refine FnD.go Try.call8 Try.func8 rfl rfl rfl ?_ | refine FnX.go Try.call8 Try.func8 rfl rfl rfl ?_)
  (repeat (first | refine g ?_))
  refine s_box fun b => ?_
  (repeat (first | refine g ?_))
  refine s_box fun bo => ?_
  refine s_ceq b E ?_ ?_
  · rfl
  (repeat (first | refine g ?_))
  refine s_getall (hz := hl) ?_
  (repeat (first | refine g ?_))
  refine s_call c0 ?_
  (repeat (first | refine g ?_))
  refine s_putall (h1 := h1f) (hz := hlf) (hi := by rw [hl]; exact hlf) ?_
  (repeat (first | refine g ?_))
  refine s_call cr ?_
  (repeat (first | refine g ?_))
  refine d_start [] ?_
  refine d_getall 0 hlf ?_
  (first | refine d_pure 1 ?_ | refine d_load 1 ?_ | refine d_arith 1 ?_ | refine d_rem 1 ?_ | refine d_quo 1 ?_ | refine d_shrv 1 ?_ | refine d_fieldat 1 ?_ | refine d_idx1 1 ?_ | refine d_index 1 ?_ | refine d_conv64 1 ?_ | refine d_slices 1 ?_ | refine d_concat 1 ?_ | refine d_build 1 ?_)
  (first | refine d_pure 2 ?_ | refine d_load 2 ?_ | refine d_arith 2 ?_ | refine d_rem 2 ?_ | refine d_quo 2 ?_ | refine d_shrv 2 ?_ | refine d_fieldat 2 ?_ | refine d_idx1 2 ?_ | refine d_index 2 ?_ | refine d_conv64 2 ?_ | refine d_slices 2 ?_ | refine d_concat 2 ?_ | refine d_build 2 ?_)
  (first | refine d_pure 4 ?_ | refine d_load 4 ?_ | refine d_arith 4 ?_ | refine d_rem 4 ?_ | refine d_quo 4 ?_ | refine d_shrv 4 ?_ | refine d_fieldat 4 ?_ | refine d_idx1 4 ?_ | refine d_index 4 ?_ | refine d_conv64 4 ?_ | refine d_slices 4 ?_ | refine d_concat 4 ?_ | refine d_build 4 ?_)
  (first | refine d_pure 5 ?_ | refine d_load 5 ?_ | refine d_arith 5 ?_ | refine d_rem 5 ?_ | refine d_quo 5 ?_ | refine d_shrv 5 ?_ | refine d_fieldat 5 ?_ | refine d_idx1 5 ?_ | refine d_index 5 ?_ | refine d_conv64 5 ?_ | refine d_slices 5 ?_ | refine d_concat 5 ?_ | refine d_build 5 ?_)
  (first | refine d_pure 7 ?_ | refine d_load 7 ?_ | refine d_arith 7 ?_ | refine d_rem 7 ?_ | refine d_quo 7 ?_ | refine d_shrv 7 ?_ | refine d_fieldat 7 ?_ | refine d_idx1 7 ?_ | refine d_index 7 ?_ | refine d_conv64 7 ?_ | refine d_slices 7 ?_ | refine d_concat 7 ?_ | refine d_build 7 ?_)
  (first | refine d_pure 8 ?_ | refine d_load 8 ?_ | refine d_arith 8 ?_ | refine d_rem 8 ?_ | refine d_quo 8 ?_ | refine d_shrv 8 ?_ | refine d_fieldat 8 ?_ | refine d_idx1 8 ?_ | refine d_index 8 ?_ | refine d_conv64 8 ?_ | refine d_slices 8 ?_ | refine d_concat 8 ?_ | refine d_build 8 ?_)
  (first | refine d_pure 9 ?_ | refine d_load 9 ?_ | refine d_arith 9 ?_ | refine d_rem 9 ?_ | refine d_quo 9 ?_ | refine d_shrv 9 ?_ | refine d_fieldat 9 ?_ | refine d_idx1 9 ?_ | refine d_index 9 ?_ | refine d_conv64 9 ?_ | refine d_slices 9 ?_ | refine d_concat 9 ?_ | refine d_build 9 ?_)
  (first | refine d_pure 10 ?_ | refine d_load 10 ?_ | refine d_arith 10 ?_ | refine d_rem 10 ?_ | refine d_quo 10 ?_ | refine d_shrv 10 ?_ | refine d_fieldat 10 ?_ | refine d_idx1 10 ?_ | refine d_index 10 ?_ | refine d_conv64 10 ?_ | refine d_slices 10 ?_ | refine d_concat 10 ?_ | refine d_build 10 ?_)
  (first | refine d_pure 11 ?_ | refine d_load 11 ?_ | refine d_arith 11 ?_ | refine d_rem 11 ?_ | refine d_quo 11 ?_ | refine d_shrv 11 ?_ | refine d_fieldat 11 ?_ | refine d_idx1 11 ?_ | refine d_index 11 ?_ | refine d_conv64 11 ?_ | refine d_slices 11 ?_ | refine d_concat 11 ?_ | refine d_build 11 ?_)
  refine d_two 3 17 ?_ ?_
  · refine d_ovia1 3 (h1 := by refine s_call cc ?_; exact run_fin1) (h := ?_)
    refine d_two 6 17 ?_ ?_
    · refine d_ovia1 6 (h1 := by refine s_call cd ?_; exact run_fin1) (h := ?_)
      refine d_two 12 17 ?_ ?_
      · refine d_ovia1 12 (h1 := by refine s_call c1 ?_; exact run_fin1) (h := ?_)
        (first | refine d_pure 13 ?_ | refine d_load 13 ?_ | refine d_arith 13 ?_ | refine d_rem 13 ?_ | refine d_quo 13 ?_ | refine d_shrv 13 ?_ | refine d_fieldat 13 ?_ | refine d_idx1 13 ?_ | refine d_index 13 ?_ | refine d_conv64 13 ?_ | refine d_slices 13 ?_ | refine d_concat 13 ?_ | refine d_build 13 ?_)
        (first | refine d_pure 14 ?_ | refine d_load 14 ?_ | refine d_arith 14 ?_ | refine d_rem 14 ?_ | refine d_quo 14 ?_ | refine d_shrv 14 ?_ | refine d_fieldat 14 ?_ | refine d_idx1 14 ?_ | refine d_index 14 ?_ | refine d_conv64 14 ?_ | refine d_slices 14 ?_ | refine d_concat 14 ?_ | refine d_build 14 ?_)
        (first | refine d_pure 15 ?_ | refine d_load 15 ?_ | refine d_arith 15 ?_ | refine d_rem 15 ?_ | refine d_quo 15 ?_ | refine d_shrv 15 ?_ | refine d_fieldat 15 ?_ | refine d_idx1 15 ?_ | refine d_index 15 ?_ | refine d_conv64 15 ?_ | refine d_slices 15 ?_ | refine d_concat 15 ?_ | refine d_build 15 ?_)
        (first | refine d_pure 16 ?_ | refine d_load 16 ?_ | refine d_arith 16 ?_ | refine d_rem 16 ?_ | refine d_quo 16 ?_ | refine d_shrv 16 ?_ | refine d_fieldat 16 ?_ | refine d_idx1 16 ?_ | refine d_index 16 ?_ | refine d_conv64 16 ?_ | refine d_slices 16 ?_ | refine d_concat 16 ?_ | refine d_build 16 ?_)
        refine d_via 17 (X := Nat) (h1 := by refine s_alloc fun r => ?_; exact run_fin r) (h := fun b1 => ?_)
        refine d_via1 18 (h1 := by refine s_putall (h1 := h13) (hz := hl3) (hi := by rw [hl3]; rfl) ?_; exact run_fin1) (h := ?_)
        (first | refine d_pure 19 ?_ | refine d_load 19 ?_ | refine d_arith 19 ?_ | refine d_rem 19 ?_ | refine d_quo 19 ?_ | refine d_shrv 19 ?_ | refine d_fieldat 19 ?_ | refine d_idx1 19 ?_ | refine d_index 19 ?_ | refine d_conv64 19 ?_ | refine d_slices 19 ?_ | refine d_concat 19 ?_ | refine d_build 19 ?_)
        (first | refine d_pure 20 ?_ | refine d_load 20 ?_ | refine d_arith 20 ?_ | refine d_rem 20 ?_ | refine d_quo 20 ?_ | refine d_shrv 20 ?_ | refine d_fieldat 20 ?_ | refine d_idx1 20 ?_ | refine d_index 20 ?_ | refine d_conv64 20 ?_ | refine d_slices 20 ?_ | refine d_concat 20 ?_ | refine d_build 20 ?_)
        refine d_done ?_
        (repeat (first | refine g ?_))
        refine d_start [] ?_
        refine d_getall 0 hlf ?_
        (first | refine d_pure 1 ?_ | refine d_load 1 ?_ | refine d_arith 1 ?_ | refine d_rem 1 ?_ | refine d_quo 1 ?_ | refine d_shrv 1 ?_ | refine d_fieldat 1 ?_ | refine d_idx1 1 ?_ | refine d_index 1 ?_ | refine d_conv64 1 ?_ | refine d_slices 1 ?_ | refine d_concat 1 ?_ | refine d_build 1 ?_)
        (first | refine d_pure 2 ?_ | refine d_load 2 ?_ | refine d_arith 2 ?_ | refine d_rem 2 ?_ | refine d_quo 2 ?_ | refine d_shrv 2 ?_ | refine d_fieldat 2 ?_ | refine d_idx1 2 ?_ | refine d_index 2 ?_ | refine d_conv64 2 ?_ | refine d_slices 2 ?_ | refine d_concat 2 ?_ | refine d_build 2 ?_)
        (first | refine d_pure 4 ?_ | refine d_load 4 ?_ | refine d_arith 4 ?_ | refine d_rem 4 ?_ | refine d_quo 4 ?_ | refine d_shrv 4 ?_ | refine d_fieldat 4 ?_ | refine d_idx1 4 ?_ | refine d_index 4 ?_ | refine d_conv64 4 ?_ | refine d_slices 4 ?_ | refine d_concat 4 ?_ | refine d_build 4 ?_)
        (first | refine d_pure 5 ?_ | refine d_load 5 ?_ | refine d_arith 5 ?_ | refine d_rem 5 ?_ | refine d_quo 5 ?_ | refine d_shrv 5 ?_ | refine d_fieldat 5 ?_ | refine d_idx1 5 ?_ | refine d_index 5 ?_ | refine d_conv64 5 ?_ | refine d_slices 5 ?_ | refine d_concat 5 ?_ | refine d_build 5 ?_)
        (first | refine d_pure 7 ?_ | refine d_load 7 ?_ | refine d_arith 7 ?_ | refine d_rem 7 ?_ | refine d_quo 7 ?_ | refine d_shrv 7 ?_ | refine d_fieldat 7 ?_ | refine d_idx1 7 ?_ | refine d_index 7 ?_ | refine d_conv64 7 ?_ | refine d_slices 7 ?_ | refine d_concat 7 ?_ | refine d_build 7 ?_)
        (first | refine d_pure 8 ?_ | refine d_load 8 ?_ | refine d_arith 8 ?_ | refine d_rem 8 ?_ | refine d_quo 8 ?_ | refine d_shrv 8 ?_ | refine d_fieldat 8 ?_ | refine d_idx1 8 ?_ | refine d_index 8 ?_ | refine d_conv64 8 ?_ | refine d_slices 8 ?_ | refine d_concat 8 ?_ | refine d_build 8 ?_)
        (first | refine d_pure 9 ?_ | refine d_load 9 ?_ | refine d_arith 9 ?_ | refine d_rem 9 ?_ | refine d_quo 9 ?_ | refine d_shrv 9 ?_ | refine d_fieldat 9 ?_ | refine d_idx1 9 ?_ | refine d_index 9 ?_ | refine d_conv64 9 ?_ | refine d_slices 9 ?_ | refine d_concat 9 ?_ | refine d_build 9 ?_)
        (first | refine d_pure 10 ?_ | refine d_load 10 ?_ | refine d_arith 10 ?_ | refine d_rem 10 ?_ | refine d_quo 10 ?_ | refine d_shrv 10 ?_ | refine d_fieldat 10 ?_ | refine d_idx1 10 ?_ | refine d_index 10 ?_ | refine d_conv64 10 ?_ | refine d_slices 10 ?_ | refine d_concat 10 ?_ | refine d_build 10 ?_)
        (first | refine d_pure 11 ?_ | refine d_load 11 ?_ | refine d_arith 11 ?_ | refine d_rem 11 ?_ | refine d_quo 11 ?_ | refine d_shrv 11 ?_ | refine d_fieldat 11 ?_ | refine d_idx1 11 ?_ | refine d_index 11 ?_ | refine d_conv64 11 ?_ | refine d_slices 11 ?_ | refine d_concat 11 ?_ | refine d_build 11 ?_)
        refine d_two 3 17 ?_ ?_
        · refine d_ovia1 3 (h1 := by refine s_call cc ?_; exact run_fin1) (h := ?_)
          refine d_two 6 17 ?_ ?_
          · refine d_ovia1 6 (h1 := by refine s_call cd ?_; exact run_fin1) (h := ?_)
            refine d_two 12 17 ?_ ?_
            · refine d_ovia1 12 (h1 := by refine s_call c2 ?_; exact run_fin1) (h := ?_)
              (first | refine d_pure 13 ?_ | refine d_load 13 ?_ | refine d_arith 13 ?_ | refine d_rem 13 ?_ | refine d_quo 13 ?_ | refine d_shrv 13 ?_ | refine d_fieldat 13 ?_ | refine d_idx1 13 ?_ | refine d_index 13 ?_ | refine d_conv64 13 ?_ | refine d_slices 13 ?_ | refine d_concat 13 ?_ | refine d_build 13 ?_)
              (first | refine d_pure 14 ?_ | refine d_load 14 ?_ | refine d_arith 14 ?_ | refine d_rem 14 ?_ | refine d_quo 14 ?_ | refine d_shrv 14 ?_ | refine d_fieldat 14 ?_ | refine d_idx1 14 ?_ | refine d_index 14 ?_ | refine d_conv64 14 ?_ | refine d_slices 14 ?_ | refine d_concat 14 ?_ | refine d_build 14 ?_)
              (first | refine d_pure 15 ?_ | refine d_load 15 ?_ | refine d_arith 15 ?_ | refine d_rem 15 ?_ | refine d_quo 15 ?_ | refine d_shrv 15 ?_ | refine d_fieldat 15 ?_ | refine d_idx1 15 ?_ | refine d_index 15 ?_ | refine d_conv64 15 ?_ | refine d_slices 15 ?_ | refine d_concat 15 ?_ | refine d_build 15 ?_)
              (first | refine d_pure 16 ?_ | refine d_load 16 ?_ | refine d_arith 16 ?_ | refine d_rem 16 ?_ | refine d_quo 16 ?_ | refine d_shrv 16 ?_ | refine d_fieldat 16 ?_ | refine d_idx1 16 ?_ | refine d_index 16 ?_ | refine d_conv64 16 ?_ | refine d_slices 16 ?_ | refine d_concat 16 ?_ | refine d_build 16 ?_)
              refine d_via 17 (X := Nat) (h1 := by refine s_alloc fun r => ?_; exact run_fin r) (h := fun b2 => ?_)
              refine d_via1 18 (h1 := by refine s_putall (h1 := h13) (hz := hl3) (hi := by rw [hl3]; rfl) ?_; exact run_fin1) (h := ?_)
              (first | refine d_pure 19 ?_ | refine d_load 19 ?_ | refine d_arith 19 ?_ | refine d_rem 19 ?_ | refine d_quo 19 ?_ | refine d_shrv 19 ?_ | refine d_fieldat 19 ?_ | refine d_idx1 19 ?_ | refine d_index 19 ?_ | refine d_conv64 19 ?_ | refine d_slices 19 ?_ | refine d_concat 19 ?_ | refine d_build 19 ?_)
              (first | refine d_pure 20 ?_ | refine d_load 20 ?_ | refine d_arith 20 ?_ | refine d_rem 20 ?_ | refine d_quo 20 ?_ | refine d_shrv 20 ?_ | refine d_fieldat 20 ?_ | refine d_idx1 20 ?_ | refine d_index 20 ?_ | refine d_conv64 20 ?_ | refine d_slices 20 ?_ | refine d_concat 20 ?_ | refine d_build 20 ?_)
              refine d_done ?_
              (repeat (first | refine g ?_))
              refine s_getall (hz := hl3) ?_
              (repeat (first | refine g ?_))
              refine s_getall (hz := hl3) ?_
              (repeat (first | refine g ?_))
              refine s_eqk 6 4 true (la := litsK K) (lb := litsK K) ?_ ?_ (fa := hfm) (fb := hfm) (ka := kl) (kb := kl)
              · simp
              (repeat (first | refine g ?_))
              refine s_call c9 ?_
              (repeat (first | refine g ?_))
              exact run_ret rfl (imp_RD rfl shut)
            · refine d_ovia 17 (X := Nat) (h1 := by refine s_alloc fun r => ?_; exact run_fin r) (h := fun b2 => ?_)
              refine d_via1 12 (h1 := by refine s_call c2 ?_; exact run_fin1) (h := ?_)
              (first | refine d_pure 13 ?_ | refine d_load 13 ?_ | refine d_arith 13 ?_ | refine d_rem 13 ?_ | refine d_quo 13 ?_ | refine d_shrv 13 ?_ | refine d_fieldat 13 ?_ | refine d_idx1 13 ?_ | refine d_index 13 ?_ | refine d_conv64 13 ?_ | refine d_slices 13 ?_ | refine d_concat 13 ?_ | refine d_build 13 ?_)
              (first | refine d_pure 14 ?_ | refine d_load 14 ?_ | refine d_arith 14 ?_ | refine d_rem 14 ?_ | refine d_quo 14 ?_ | refine d_shrv 14 ?_ | refine d_fieldat 14 ?_ | refine d_idx1 14 ?_ | refine d_index 14 ?_ | refine d_conv64 14 ?_ | refine d_slices 14 ?_ | refine d_concat 14 ?_ | refine d_build 14 ?_)
              (first | refine d_pure 15 ?_ | refine d_load 15 ?_ | refine d_arith 15 ?_ | refine d_rem 15 ?_ | refine d_quo 15 ?_ | refine d_shrv 15 ?_ | refine d_fieldat 15 ?_ | refine d_idx1 15 ?_ | refine d_index 15 ?_ | refine d_conv64 15 ?_ | refine d_slices 15 ?_ | refine d_concat 15 ?_ | refine d_build 15 ?_)
              (first | refine d_pure 16 ?_ | refine d_load 16 ?_ | refine d_arith 16 ?_ | refine d_rem 16 ?_ | refine d_quo 16 ?_ | refine d_shrv 16 ?_ | refine d_fieldat 16 ?_ | refine d_idx1 16 ?_ | refine d_index 16 ?_ | refine d_conv64 16 ?_ | refine d_slices 16 ?_ | refine d_concat 16 ?_ | refine d_build 16 ?_)
              refine d_via1 18 (h1 := by refine s_putall (h1 := h13) (hz := hl3) (hi := by rw [hl3]; rfl) ?_; exact run_fin1) (h := ?_)
              (first | refine d_pure 19 ?_ | refine d_load 19 ?_ | refine d_arith 19 ?_ | refine d_rem 19 ?_ | refine d_quo 19 ?_ | refine d_shrv 19 ?_ | refine d_fieldat 19 ?_ | refine d_idx1 19 ?_ | refine d_index 19 ?_ | refine d_conv64 19 ?_ | refine d_slices 19 ?_ | refine d_concat 19 ?_ | refine d_build 19 ?_)
              (first | refine d_pure 20 ?_ | refine d_load 20 ?_ | refine d_arith 20 ?_ | refine d_rem 20 ?_ | refine d_quo 20 ?_ | refine d_shrv 20 ?_ | refine d_fieldat 20 ?_ | refine d_idx1 20 ?_ | refine d_index 20 ?_ | refine d_conv64 20 ?_ | refine d_slices 20 ?_ | refine d_concat 20 ?_ | refine d_build 20 ?_)
              refine d_done ?_
              (repeat (first | refine g ?_))
              refine s_getall (hz := hl3) ?_
              (repeat (first | refine g ?_))
              refine s_getall (hz := hl3) ?_
              (repeat (first | refine g ?_))
              refine s_eqk 6 4 true (la := litsK K) (lb := litsK K) ?_ ?_ (fa := hfm) (fb := hfm) (ka := kl) (kb := kl)
              · simp
              (repeat (first | refine g ?_))
              refine s_call c9 ?_
              (repeat (first | refine g ?_))
              exact run_ret rfl (imp_RD rfl shut)
          · refine d_ovia 17 (X := Nat) (h1 := by refine s_alloc fun r => ?_; exact run_fin r) (h := fun b2 => ?_)
            refine d_via1 6 (h1 := by refine s_call cd ?_; exact run_fin1) (h := ?_)
            refine d_via1 12 (h1 := by refine s_call c2 ?_; exact run_fin1) (h := ?_)
            (first | refine d_pure 13 ?_ | refine d_load 13 ?_ | refine d_arith 13 ?_ | refine d_rem 13 ?_ | refine d_quo 13 ?_ | refine d_shrv 13 ?_ | refine d_fieldat 13 ?_ | refine d_idx1 13 ?_ | refine d_index 13 ?_ | refine d_conv64 13 ?_ | refine d_slices 13 ?_ | refine d_concat 13 ?_ | refine d_build 13 ?_)
            (first | refine d_pure 14 ?_ | refine d_load 14 ?_ | refine d_arith 14 ?_ | refine d_rem 14 ?_ | refine d_quo 14 ?_ | refine d_shrv 14 ?_ | refine d_fieldat 14 ?_ | refine d_idx1 14 ?_ | refine d_index 14 ?_ | refine d_conv64 14 ?_ | refine d_slices 14 ?_ | refine d_concat 14 ?_ | refine d_build 14 ?_)
            (first | refine d_pure 15 ?_ | refine d_load 15 ?_ | refine d_arith 15 ?_ | refine d_rem 15 ?_ | refine d_quo 15 ?_ | refine d_shrv 15 ?_ | refine d_fieldat 15 ?_ | refine d_idx1 15 ?_ | refine d_index 15 ?_ | refine d_conv64 15 ?_ | refine d_slices 15 ?_ | refine d_concat 15 ?_ | refine d_build 15 ?_)
            (first | refine d_pure 16 ?_ | refine d_load 16 ?_ | refine d_arith 16 ?_ | refine d_rem 16 ?_ | refine d_quo 16 ?_ | refine d_shrv 16 ?_ | refine d_fieldat 16 ?_ | refine d_idx1 16 ?_ | refine d_index 16 ?_ | refine d_conv64 16 ?_ | refine d_slices 16 ?_ | refine d_concat 16 ?_ | refine d_build 16 ?_)
            refine d_via1 18 (h1 := by refine s_putall (h1 := h13) (hz := hl3) (hi := by rw [hl3]; rfl) ?_; exact run_fin1) (h := ?_)
            (first | refine d_pure 19 ?_ | refine d_load 19 ?_ | refine d_arith 19 ?_ | refine d_rem 19 ?_ | refine d_quo 19 ?_ | refine d_shrv 19 ?_ | refine d_fieldat 19 ?_ | refine d_idx1 19 ?_ | refine d_index 19 ?_ | refine d_conv64 19 ?_ | refine d_slices 19 ?_ | refine d_concat 19 ?_ | refine d_build 19 ?_)
            (first | refine d_pure 20 ?_ | refine d_load 20 ?_ | refine d_arith 20 ?_ | refine d_rem 20 ?_ | refine d_quo 20 ?_ | refine d_shrv 20 ?_ | refine d_fieldat 20 ?_ | refine d_idx1 20 ?_ | refine d_index 20 ?_ | refine d_conv64 20 ?_ | refine d_slices 20 ?_ | refine d_concat 20 ?_ | refine d_build 20 ?_)
            refine d_done ?_
            (repeat (first | refine g ?_))
            refine s_getall (hz := hl3) ?_
            (repeat (first | refine g ?_))
            refine s_getall (hz := hl3) ?_
            (repeat (first | refine g ?_))
            refine s_eqk 6 4 true (la := litsK K) (lb := litsK K) ?_ ?_ (fa := hfm) (fb := hfm) (ka := kl) (kb := kl)
            · simp
            (repeat (first | refine g ?_))
            refine s_call c9 ?_
            (repeat (first | refine g ?_))
            exact run_ret rfl (imp_RD rfl shut)
        · refine d_ovia 17 (X := Nat) (h1 := by refine s_alloc fun r => ?_; exact run_fin r) (h := fun b2 => ?_)
          refine d_via1 3 (h1 := by refine s_call cc ?_; exact run_fin1) (h := ?_)
          refine d_via1 6 (h1 := by refine s_call cd ?_; exact run_fin1) (h := ?_)
          refine d_via1 12 (h1 := by refine s_call c2 ?_; exact run_fin1) (h := ?_)
          (first | refine d_pure 13 ?_ | refine d_load 13 ?_ | refine d_arith 13 ?_ | refine d_rem 13 ?_ | refine d_quo 13 ?_ | refine d_shrv 13 ?_ | refine d_fieldat 13 ?_ | refine d_idx1 13 ?_ | refine d_index 13 ?_ | refine d_conv64 13 ?_ | refine d_slices 13 ?_ | refine d_concat 13 ?_ | refine d_build 13 ?_)
          (first | refine d_pure 14 ?_ | refine d_load 14 ?_ | refine d_arith 14 ?_ | refine d_rem 14 ?_ | refine d_quo 14 ?_ | refine d_shrv 14 ?_ | refine d_fieldat 14 ?_ | refine d_idx1 14 ?_ | refine d_index 14 ?_ | refine d_conv64 14 ?_ | refine d_slices 14 ?_ | refine d_concat 14 ?_ | refine d_build 14 ?_)
          (first | refine d_pure 15 ?_ | refine d_load 15 ?_ | refine d_arith 15 ?_ | refine d_rem 15 ?_ | refine d_quo 15 ?_ | refine d_shrv 15 ?_ | refine d_fieldat 15 ?_ | refine d_idx1 15 ?_ | refine d_index 15 ?_ | refine d_conv64 15 ?_ | refine d_slices 15 ?_ | refine d_concat 15 ?_ | refine d_build 15 ?_)
          (first | refine d_pure 16 ?_ | refine d_load 16 ?_ | refine d_arith 16 ?_ | refine d_rem 16 ?_ | refine d_quo 16 ?_ | refine d_shrv 16 ?_ | refine d_fieldat 16 ?_ | refine d_idx1 16 ?_ | refine d_index 16 ?_ | refine d_conv64 16 ?_ | refine d_slices 16 ?_ | refine d_concat 16 ?_ | refine d_build 16 ?_)
          refine d_via1 18 (h1 := by refine s_putall (h1 := h13) (hz := hl3) (hi := by rw [hl3]; rfl) ?_; exact run_fin1) (h := ?_)
          (first | refine d_pure 19 ?_ | refine d_load 19 ?_ | refine d_arith 19 ?_ | refine d_rem 19 ?_ | refine d_quo 19 ?_ | refine d_shrv 19 ?_ | refine d_fieldat 19 ?_ | refine d_idx1 19 ?_ | refine d_index 19 ?_ | refine d_conv64 19 ?_ | refine d_slices 19 ?_ | refine d_concat 19 ?_ | refine d_build 19 ?_)
          (first | refine d_pure 20 ?_ | refine d_load 20 ?_ | refine d_arith 20 ?_ | refine d_rem 20 ?_ | refine d_quo 20 ?_ | refine d_shrv 20 ?_ | refine d_fieldat 20 ?_ | refine d_idx1 20 ?_ | refine d_index 20 ?_ | refine d_conv64 20 ?_ | refine d_slices 20 ?_ | refine d_concat 20 ?_ | refine d_build 20 ?_)
          refine d_done ?_
          (repeat (first | refine g ?_))
          refine s_getall (hz := hl3) ?_
          (repeat (first | refine g ?_))
          refine s_getall (hz := hl3) ?_
          (repeat (first | refine g ?_))
          refine s_eqk 6 4 true (la := litsK K) (lb := litsK K) ?_ ?_ (fa := hfm) (fb := hfm) (ka := kl) (kb := kl)
          · simp
          (repeat (first | refine g ?_))
          refine s_call c9 ?_
          (repeat (first | refine g ?_))
          exact run_ret rfl (imp_RD rfl shut)
      · refine d_ovia 17 (X := Nat) (h1 := by refine s_alloc fun r => ?_; exact run_fin r) (h := fun b1 => ?_)
        refine d_via1 12 (h1 := by refine s_call c1 ?_; exact run_fin1) (h := ?_)
        (first | refine d_pure 13 ?_ | refine d_load 13 ?_ | refine d_arith 13 ?_ | refine d_rem 13 ?_ | refine d_quo 13 ?_ | refine d_shrv 13 ?_ | refine d_fieldat 13 ?_ | refine d_idx1 13 ?_ | refine d_index 13 ?_ | refine d_conv64 13 ?_ | refine d_slices 13 ?_ | refine d_concat 13 ?_ | refine d_build 13 ?_)
        (first | refine d_pure 14 ?_ | refine d_load 14 ?_ | refine d_arith 14 ?_ | refine d_rem 14 ?_ | refine d_quo 14 ?_ | refine d_shrv 14 ?_ | refine d_fieldat 14 ?_ | refine d_idx1 14 ?_ | refine d_index 14 ?_ | refine d_conv64 14 ?_ | refine d_slices 14 ?_ | refine d_concat 14 ?_ | refine d_build 14 ?_)
        (first | refine d_pure 15 ?_ | refine d_load 15 ?_ | refine d_arith 15 ?_ | refine d_rem 15 ?_ | refine d_quo 15 ?_ | refine d_shrv 15 ?_ | refine d_fieldat 15 ?_ | refine d_idx1 15 ?_ | refine d_index 15 ?_ | refine d_conv64 15 ?_ | refine d_slices 15 ?_ | refine d_concat 15 ?_ | refine d_build 15 ?_)
        (first | refine d_pure 16 ?_ | refine d_load 16 ?_ | refine d_arith 16 ?_ | refine d_rem 16 ?_ | refine d_quo 16 ?_ | refine d_shrv 16 ?_ | refine d_fieldat 16 ?_ | refine d_idx1 16 ?_ | refine d_index 16 ?_ | refine d_conv64 16 ?_ | refine d_slices 16 ?_ | refine d_concat 16 ?_ | refine d_build 16 ?_)
        refine d_via1 18 (h1 := by refine s_putall (h1 := h13) (hz := hl3) (hi := by rw [hl3]; rfl) ?_; exact run_fin1) (h := ?_)
        (first | refine d_pure 19 ?_ | refine d_load 19 ?_ | refine d_arith 19 ?_ | refine d_rem 19 ?_ | refine d_quo 19 ?_ | refine d_shrv 19 ?_ | refine d_fieldat 19 ?_ | refine d_idx1 19 ?_ | refine d_index 19 ?_ | refine d_conv64 19 ?_ | refine d_slices 19 ?_ | refine d_concat 19 ?_ | refine d_build 19 ?_)
        (first | refine d_pure 20 ?_ | refine d_load 20 ?_ | refine d_arith 20 ?_ | refine d_rem 20 ?_ | refine d_quo 20 ?_ | refine d_shrv 20 ?_ | refine d_fieldat 20 ?_ | refine d_idx1 20 ?_ | refine d_index 20 ?_ | refine d_conv64 20 ?_ | refine d_slices 20 ?_ | refine d_concat 20 ?_ | refine d_build 20 ?_)
        refine d_done ?_
        (repeat (first | refine g ?_))
        refine d_start [] ?_
        refine d_getall 0 hlf ?_
        (first | refine d_pure 1 ?_ | refine d_load 1 ?_ | refine d_arith 1 ?_ | refine d_rem 1 ?_ | refine d_quo 1 ?_ | refine d_shrv 1 ?_ | refine d_fieldat 1 ?_ | refine d_idx1 1 ?_ | refine d_index 1 ?_ | refine d_conv64 1 ?_ | refine d_slices 1 ?_ | refine d_concat 1 ?_ | refine d_build 1 ?_)
        (first | refine d_pure 2 ?_ | refine d_load 2 ?_ | refine d_arith 2 ?_ | refine d_rem 2 ?_ | refine d_quo 2 ?_ | refine d_shrv 2 ?_ | refine d_fieldat 2 ?_ | refine d_idx1 2 ?_ | refine d_index 2 ?_ | refine d_conv64 2 ?_ | refine d_slices 2 ?_ | refine d_concat 2 ?_ | refine d_build 2 ?_)
        (first | refine d_pure 4 ?_ | refine d_load 4 ?_ | refine d_arith 4 ?_ | refine d_rem 4 ?_ | refine d_quo 4 ?_ | refine d_shrv 4 ?_ | refine d_fieldat 4 ?_ | refine d_idx1 4 ?_ | refine d_index 4 ?_ | refine d_conv64 4 ?_ | refine d_slices 4 ?_ | refine d_concat 4 ?_ | refine d_build 4 ?_)
        (first | refine d_pure 5 ?_ | refine d_load 5 ?_ | refine d_arith 5 ?_ | refine d_rem 5 ?_ | refine d_quo 5 ?_ | refine d_shrv 5 ?_ | refine d_fieldat 5 ?_ | refine d_idx1 5 ?_ | refine d_index 5 ?_ | refine d_conv64 5 ?_ | refine d_slices 5 ?_ | refine d_concat 5 ?_ | refine d_build 5 ?_)
        (first | refine d_pure 7 ?_ | refine d_load 7 ?_ | refine d_arith 7 ?_ | refine d_rem 7 ?_ | refine d_quo 7 ?_ | refine d_shrv 7 ?_ | refine d_fieldat 7 ?_ | refine d_idx1 7 ?_ | refine d_index 7 ?_ | refine d_conv64 7 ?_ | refine d_slices 7 ?_ | refine d_concat 7 ?_ | refine d_build 7 ?_)
        (first | refine d_pure 8 ?_ | refine d_load 8 ?_ | refine d_arith 8 ?_ | refine d_rem 8 ?_ | refine d_quo 8 ?_ | refine d_shrv 8 ?_ | refine d_fieldat 8 ?_ | refine d_idx1 8 ?_ | refine d_index 8 ?_ | refine d_conv64 8 ?_ | refine d_slices 8 ?_ | refine d_concat 8 ?_ | refine d_build 8 ?_)
        (first | refine d_pure 9 ?_ | refine d_load 9 ?_ | refine d_arith 9 ?_ | refine d_rem 9 ?_ | refine d_quo 9 ?_ | refine d_shrv 9 ?_ | refine d_fieldat 9 ?_ | refine d_idx1 9 ?_ | refine d_index 9 ?_ | refine d_conv64 9 ?_ | refine d_slices 9 ?_ | refine d_concat 9 ?_ | refine d_build 9 ?_)
        (first | refine d_pure 10 ?_ | refine d_load 10 ?_ | refine d_arith 10 ?_ | refine d_rem 10 ?_ | refine d_quo 10 ?_ | refine d_shrv 10 ?_ | refine d_fieldat 10 ?_ | refine d_idx1 10 ?_ | refine d_index 10 ?_ | refine d_conv64 10 ?_ | refine d_slices 10 ?_ | refine d_concat 10 ?_ | refine d_build 10 ?_)
        (first | refine d_pure 11 ?_ | refine d_load 11 ?_ | refine d_arith 11 ?_ | refine d_rem 11 ?_ | refine d_quo 11 ?_ | refine d_shrv 11 ?_ | refine d_fieldat 11 ?_ | refine d_idx1 11 ?_ | refine d_index 11 ?_ | refine d_conv64 11 ?_ | refine d_slices 11 ?_ | refine d_concat 11 ?_ | refine d_build 11 ?_)
        refine d_two 3 17 ?_ ?_
        · refine d_ovia1 3 (h1 := by refine s_call cc ?_; exact run_fin1) (h := ?_)
          refine d_two 6 17 ?_ ?_
          · refine d_ovia1 6 (h1 := by refine s_call cd ?_; exact run_fin1) (h := ?_)
            refine d_two 12 17 ?_ ?_
            · refine d_ovia1 12 (h1 := by refine s_call c2 ?_; exact run_fin1) (h := ?_)
              (first | refine d_pure 13 ?_ | refine d_load 13 ?_ | refine d_arith 13 ?_ | refine d_rem 13 ?_ | refine d_quo 13 ?_ | refine d_shrv 13 ?_ | refine d_fieldat 13 ?_ | refine d_idx1 13 ?_ | refine d_index 13 ?_ | refine d_conv64 13 ?_ | refine d_slices 13 ?_ | refine d_concat 13 ?_ | refine d_build 13 ?_)
              (first | refine d_pure 14 ?_ | refine d_load 14 ?_ | refine d_arith 14 ?_ | refine d_rem 14 ?_ | refine d_quo 14 ?_ | refine d_shrv 14 ?_ | refine d_fieldat 14 ?_ | refine d_idx1 14 ?_ | refine d_index 14 ?_ | refine d_conv64 14 ?_ | refine d_slices 14 ?_ | refine d_concat 14 ?_ | refine d_build 14 ?_)
              (first | refine d_pure 15 ?_ | refine d_load 15 ?_ | refine d_arith 15 ?_ | refine d_rem 15 ?_ | refine d_quo 15 ?_ | refine d_shrv 15 ?_ | refine d_fieldat 15 ?_ | refine d_idx1 15 ?_ | refine d_index 15 ?_ | refine d_conv64 15 ?_ | refine d_slices 15 ?_ | refine d_concat 15 ?_ | refine d_build 15 ?_)
              (first | refine d_pure 16 ?_ | refine d_load 16 ?_ | refine d_arith 16 ?_ | refine d_rem 16 ?_ | refine d_quo 16 ?_ | refine d_shrv 16 ?_ | refine d_fieldat 16 ?_ | refine d_idx1 16 ?_ | refine d_index 16 ?_ | refine d_conv64 16 ?_ | refine d_slices 16 ?_ | refine d_concat 16 ?_ | refine d_build 16 ?_)
              refine d_via 17 (X := Nat) (h1 := by refine s_alloc fun r => ?_; exact run_fin r) (h := fun b2 => ?_)
              refine d_via1 18 (h1 := by refine s_putall (h1 := h13) (hz := hl3) (hi := by rw [hl3]; rfl) ?_; exact run_fin1) (h := ?_)
              (first | refine d_pure 19 ?_ | refine d_load 19 ?_ | refine d_arith 19 ?_ | refine d_rem 19 ?_ | refine d_quo 19 ?_ | refine d_shrv 19 ?_ | refine d_fieldat 19 ?_ | refine d_idx1 19 ?_ | refine d_index 19 ?_ | refine d_conv64 19 ?_ | refine d_slices 19 ?_ | refine d_concat 19 ?_ | refine d_build 19 ?_)
              (first | refine d_pure 20 ?_ | refine d_load 20 ?_ | refine d_arith 20 ?_ | refine d_rem 20 ?_ | refine d_quo 20 ?_ | refine d_shrv 20 ?_ | refine d_fieldat 20 ?_ | refine d_idx1 20 ?_ | refine d_index 20 ?_ | refine d_conv64 20 ?_ | refine d_slices 20 ?_ | refine d_concat 20 ?_ | refine d_build 20 ?_)
              refine d_done ?_
              (repeat (first | refine g ?_))
              refine s_getall (hz := hl3) ?_
              (repeat (first | refine g ?_))
              refine s_getall (hz := hl3) ?_
              (repeat (first | refine g ?_))
              refine s_eqk 6 4 true (la := litsK K) (lb := litsK K) ?_ ?_ (fa := hfm) (fb := hfm) (ka := kl) (kb := kl)
              · simp
              (repeat (first | refine g ?_))
              refine s_call c9 ?_
              (repeat (first | refine g ?_))
              exact run_ret rfl (imp_RD rfl shut)
            · refine d_ovia 17 (X := Nat) (h1 := by refine s_alloc fun r => ?_; exact run_fin r) (h := fun b2 => ?_)
              refine d_via1 12 (h1 := by refine s_call c2 ?_; exact run_fin1) (h := ?_)
              (first | refine d_pure 13 ?_ | refine d_load 13 ?_ | refine d_arith 13 ?_ | refine d_rem 13 ?_ | refine d_quo 13 ?_ | refine d_shrv 13 ?_ | refine d_fieldat 13 ?_ | refine d_idx1 13 ?_ | refine d_index 13 ?_ | refine d_conv64 13 ?_ | refine d_slices 13 ?_ | refine d_concat 13 ?_ | refine d_build 13 ?_)
              (first | refine d_pure 14 ?_ | refine d_load 14 ?_ | refine d_arith 14 ?_ | refine d_rem 14 ?_ | refine d_quo 14 ?_ | refine d_shrv 14 ?_ | refine d_fieldat 14 ?_ | refine d_idx1 14 ?_ | refine d_index 14 ?_ | refine d_conv64 14 ?_ | refine d_slices 14 ?_ | refine d_concat 14 ?_ | refine d_build 14 ?_)
              (first | refine d_pure 15 ?_ | refine d_load 15 ?_ | refine d_arith 15 ?_ | refine d_rem 15 ?_ | refine d_quo 15 ?_ | refine d_shrv 15 ?_ | refine d_fieldat 15 ?_ | refine d_idx1 15 ?_ | refine d_index 15 ?_ | refine d_conv64 15 ?_ | refine d_slices 15 ?_ | refine d_concat 15 ?_ | refine d_build 15 ?_)
              (first | refine d_pure 16 ?_ | refine d_load 16 ?_ | refine d_arith 16 ?_ | refine d_rem 16 ?_ | refine d_quo 16 ?_ | refine d_shrv 16 ?_ | refine d_fieldat 16 ?_ | refine d_idx1 16 ?_ | refine d_index 16 ?_ | refine d_conv64 16 ?_ | refine d_slices 16 ?_ | refine d_concat 16 ?_ | refine d_build 16 ?_)
              refine d_via1 18 (h1 := by refine s_putall (h1 := h13) (hz := hl3) (hi := by rw [hl3]; rfl) ?_; exact run_fin1) (h := ?_)
              (first | refine d_pure 19 ?_ | refine d_load 19 ?_ | refine d_arith 19 ?_ | refine d_rem 19 ?_ | refine d_quo 19 ?_ | refine d_shrv 19 ?_ | refine d_fieldat 19 ?_ | refine d_idx1 19 ?_ | refine d_index 19 ?_ | refine d_conv64 19 ?_ | refine d_slices 19 ?_ | refine d_concat 19 ?_ | refine d_build 19 ?_)
              (first | refine d_pure 20 ?_ | refine d_load 20 ?_ | refine d_arith 20 ?_ | refine d_rem 20 ?_ | refine d_quo 20 ?_ | refine d_shrv 20 ?_ | refine d_fieldat 20 ?_ | refine d_idx1 20 ?_ | refine d_index 20 ?_ | refine d_conv64 20 ?_ | refine d_slices 20 ?_ | refine d_concat 20 ?_ | refine d_build 20 ?_)
              refine d_done ?_
              (repeat (first | refine g ?_))
              refine s_getall (hz := hl3) ?_
              (repeat (first | refine g ?_))
              refine s_getall (hz := hl3) ?_
              (repeat (first | refine g ?_))
              refine s_eqk 6 4 true (la := litsK K) (lb := litsK K) ?_ ?_ (fa := hfm) (fb := hfm) (ka := kl) (kb := kl)
              · simp
              (repeat (first | refine g ?_))
              refine s_call c9 ?_
              (repeat (first | refine g ?_))
              exact run_ret rfl (imp_RD rfl shut)
          · refine d_ovia 17 (X := Nat) (h1 := by refine s_alloc fun r => ?_; exact run_fin r) (h := fun b2 => ?_)
            refine d_via1 6 (h1 := by refine s_call cd ?_; exact run_fin1) (h := ?_)
            refine d_via1 12 (h1 := by refine s_call c2 ?_; exact run_fin1) (h := ?_)
            (first | refine d_pure 13 ?_ | refine d_load 13 ?_ | refine d_arith 13 ?_ | refine d_rem 13 ?_ | refine d_quo 13 ?_ | refine d_shrv 13 ?_ | refine d_fieldat 13 ?_ | refine d_idx1 13 ?_ | refine d_index 13 ?_ | refine d_conv64 13 ?_ | refine d_slices 13 ?_ | refine d_concat 13 ?_ | refine d_build 13 ?_)
            (first | refine d_pure 14 ?_ | refine d_load 14 ?_ | refine d_arith 14 ?_ | refine d_rem 14 ?_ | refine d_quo 14 ?_ | refine d_shrv 14 ?_ | refine d_fieldat 14 ?_ | refine d_idx1 14 ?_ | refine d_index 14 ?_ | refine d_conv64 14 ?_ | refine d_slices 14 ?_ | refine d_concat 14 ?_ | refine d_build 14 ?_)
            (first | refine d_pure 15 ?_ | refine d_load 15 ?_ | refine d_arith 15 ?_ | refine d_rem 15 ?_ | refine d_quo 15 ?_ | refine d_shrv 15 ?_ | refine d_fieldat 15 ?_ | refine d_idx1 15 ?_ | refine d_index 15 ?_ | refine d_conv64 15 ?_ | refine d_slices 15 ?_ | refine d_concat 15 ?_ | refine d_build 15 ?_)
            (first | refine d_pure 16 ?_ | refine d_load 16 ?_ | refine d_arith 16 ?_ | refine d_rem 16 ?_ | refine d_quo 16 ?_ | refine d_shrv 16 ?_ | refine d_fieldat 16 ?_ | refine d_idx1 16 ?_ | refine d_index 16 ?_ | refine d_conv64 16 ?_ | refine d_slices 16 ?_ | refine d_concat 16 ?_ | refine d_build 16 ?_)
            refine d_via1 18 (h1 := by refine s_putall (h1 := h13) (hz := hl3) (hi := by rw [hl3]; rfl) ?_; exact run_fin1) (h := ?_)
            (first | refine d_pure 19 ?_ | refine d_load 19 ?_ | refine d_arith 19 ?_ | refine d_rem 19 ?_ | refine d_quo 19 ?_ | refine d_shrv 19 ?_ | refine d_fieldat 19 ?_ | refine d_idx1 19 ?_ | refine d_index 19 ?_ | refine d_conv64 19 ?_ | refine d_slices 19 ?_ | refine d_concat 19 ?_ | refine d_build 19 ?_)
            (first | refine d_pure 20 ?_ | refine d_load 20 ?_ | refine d_arith 20 ?_ | refine d_rem 20 ?_ | refine d_quo 20 ?_ | refine d_shrv 20 ?_ | refine d_fieldat 20 ?_ | refine d_idx1 20 ?_ | refine d_index 20 ?_ | refine d_conv64 20 ?_ | refine d_slices 20 ?_ | refine d_concat 20 ?_ | refine d_build 20 ?_)
            refine d_done ?_
            (repeat (first | refine g ?_))
            refine s_getall (hz := hl3) ?_
            (repeat (first | refine g ?_))
            refine s_getall (hz := hl3) ?_
            (repeat (first | refine g ?_))
            refine s_eqk 6 4 true (la := litsK K) (lb := litsK K) ?_ ?_ (fa := hfm) (fb := hfm) (ka := kl) (kb := kl)
            · simp
            (repeat (first | refine g ?_))
            refine s_call c9 ?_
            (repeat (first | refine g ?_))
            exact run_ret rfl (imp_RD rfl shut)
        · refine d_ovia 17 (X := Nat) (h1 := by refine s_alloc fun r => ?_; exact run_fin r) (h := fun b2 => ?_)
          refine d_via1 3 (h1 := by refine s_call cc ?_; exact run_fin1) (h := ?_)
          refine d_via1 6 (h1 := by refine s_call cd ?_; exact run_fin1) (h := ?_)
          refine d_via1 12 (h1 := by refine s_call c2 ?_; exact run_fin1) (h := ?_)
          (first | refine d_pure 13 ?_ | refine d_load 13 ?_ | refine d_arith 13 ?_ | refine d_rem 13 ?_ | refine d_quo 13 ?_ | refine d_shrv 13 ?_ | refine d_fieldat 13 ?_ | refine d_idx1 13 ?_ | refine d_index 13 ?_ | refine d_conv64 13 ?_ | refine d_slices 13 ?_ | refine d_concat 13 ?_ | refine d_build 13 ?_)
          (first | refine d_pure 14 ?_ | refine d_load 14 ?_ | refine d_arith 14 ?_ | refine d_rem 14 ?_ | refine d_quo 14 ?_ | refine d_shrv 14 ?_ | refine d_fieldat 14 ?_ | refine d_idx1 14 ?_ | refine d_index 14 ?_ | refine d_conv64 14 ?_ | refine d_slices 14 ?_ | refine d_concat 14 ?_ | refine d_build 14 ?_)
          (first | refine d_pure 15 ?_ | refine d_load 15 ?_ | refine d_arith 15 ?_ | refine d_rem 15 ?_ | refine d_quo 15 ?_ | refine d_shrv 15 ?_ | refine d_fieldat 15 ?_ | refine d_idx1 15 ?_ | refine d_index 15 ?_ | refine d_conv64 15 ?_ | refine d_slices 15 ?_ | refine d_concat 15 ?_ | refine d_build 15 ?_)
          (first | refine d_pure 16 ?_ | refine d_load 16 ?_ | refine d_arith 16 ?_ | refine d_rem 16 ?_ | refine d_quo 16 ?_ | refine d_shrv 16 ?_ | refine d_fieldat 16 ?_ | refine d_idx1 16 ?_ | refine d_index 16 ?_ | refine d_conv64 16 ?_ | refine d_slices 16 ?_ | refine d_concat 16 ?_ | refine d_build 16 ?_)
          refine d_via1 18 (h1 := by refine s_putall (h1 := h13) (hz := hl3) (hi := by rw [hl3]; rfl) ?_; exact run_fin1) (h := ?_)
          (first | refine d_pure 19 ?_ | refine d_load 19 ?_ | refine d_arith 19 ?_ | refine d_rem 19 ?_ | refine d_quo 19 ?_ | refine d_shrv 19 ?_ | refine d_fieldat 19 ?_ | refine d_idx1 19 ?_ | refine d_index 19 ?_ | refine d_conv64 19 ?_ | refine d_slices 19 ?_ | refine d_concat 19 ?_ | refine d_build 19 ?_)
          (first | refine d_pure 20 ?_ | refine d_load 20 ?_ | refine d_arith 20 ?_ | refine d_rem 20 ?_ | refine d_quo 20 ?_ | refine d_shrv 20 ?_ | refine d_fieldat 20 ?_ | refine d_idx1 20 ?_ | refine d_index 20 ?_ | refine d_conv64 20 ?_ | refine d_slices 20 ?_ | refine d_concat 20 ?_ | refine d_build 20 ?_)
          refine d_done ?_
          (repeat (first | refine g ?_))
          refine s_getall (hz := hl3) ?_
          (repeat (first | refine g ?_))
          refine s_getall (hz := hl3) ?_
          (repeat (first | refine g ?_))
          refine s_eqk 6 4 true (la := litsK K) (lb := litsK K) ?_ ?_ (fa := hfm) (fb := hfm) (ka := kl) (kb := kl)
          · simp
          (repeat (first | refine g ?_))
          refine s_call c9 ?_
          (repeat (first | refine g ?_))
          exact run_ret rfl (imp_RD rfl shut)
    · refine d_ovia 17 (X := Nat) (h1 := by refine s_alloc fun r => ?_; exact run_fin r) (h := fun b1 => ?_)
      refine d_via1 6 (h1 := by refine s_call cd ?_; exact run_fin1) (h := ?_)
      refine d_via1 12 (h1 := by refine s_call c1 ?_; exact run_fin1) (h := ?_)
      (first | refine d_pure 13 ?_ | refine d_load 13 ?_ | refine d_arith 13 ?_ | refine d_rem 13 ?_ | refine d_quo 13 ?_ | refine d_shrv 13 ?_ | refine d_fieldat 13 ?_ | refine d_idx1 13 ?_ | refine d_index 13 ?_ | refine d_conv64 13 ?_ | refine d_slices 13 ?_ | refine d_concat 13 ?_ | refine d_build 13 ?_)
      (first | refine d_pure 14 ?_ | refine d_load 14 ?_ | refine d_arith 14 ?_ | refine d_rem 14 ?_ | refine d_quo 14 ?_ | refine d_shrv 14 ?_ | refine d_fieldat 14 ?_ | refine d_idx1 14 ?_ | refine d_index 14 ?_ | refine d_conv64 14 ?_ | refine d_slices 14 ?_ | refine d_concat 14 ?_ | refine d_build 14 ?_)
      (first | refine d_pure 15 ?_ | refine d_load 15 ?_ | refine d_arith 15 ?_ | refine d_rem 15 ?_ | refine d_quo 15 ?_ | refine d_shrv 15 ?_ | refine d_fieldat 15 ?_ | refine d_idx1 15 ?_ | refine d_index 15 ?_ | refine d_conv64 15 ?_ | refine d_slices 15 ?_ | refine d_concat 15 ?_ | refine d_build 15 ?_)
      (first | refine d_pure 16 ?_ | refine d_load 16 ?_ | refine d_arith 16 ?_ | refine d_rem 16 ?_ | refine d_quo 16 ?_ | refine d_shrv 16 ?_ | refine d_fieldat 16 ?_ | refine d_idx1 16 ?_ | refine d_index 16 ?_ | refine d_conv64 16 ?_ | refine d_slices 16 ?_ | refine d_concat 16 ?_ | refine d_build 16 ?_)
      refine d_via1 18 (h1 := by refine s_putall (h1 := h13) (hz := hl3) (hi := by rw [hl3]; rfl) ?_; exact run_fin1) (h := ?_)
      (first | refine d_pure 19 ?_ | refine d_load 19 ?_ | refine d_arith 19 ?_ | refine d_rem 19 ?_ | refine d_quo 19 ?_ | refine d_shrv 19 ?_ | refine d_fieldat 19 ?_ | refine d_idx1 19 ?_ | refine d_index 19 ?_ | refine d_conv64 19 ?_ | refine d_slices 19 ?_ | refine d_concat 19 ?_ | refine d_build 19 ?_)
      (first | refine d_pure 20 ?_ | refine d_load 20 ?_ | refine d_arith 20 ?_ | refine d_rem 20 ?_ | refine d_quo 20 ?_ | refine d_shrv 20 ?_ | refine d_fieldat 20 ?_ | refine d_idx1 20 ?_ | refine d_index 20 ?_ | refine d_conv64 20 ?_ | refine d_slices 20 ?_ | refine d_concat 20 ?_ | refine d_build 20 ?_)
      refine d_done ?_
      (repeat (first | refine g ?_))
      refine d_start [] ?_
      refine d_getall 0 hlf ?_
      (first | refine d_pure 1 ?_ | refine d_load 1 ?_ | refine d_arith 1 ?_ | refine d_rem 1 ?_ | refine d_quo 1 ?_ | refine d_shrv 1 ?_ | refine d_fieldat 1 ?_ | refine d_idx1 1 ?_ | refine d_index 1 ?_ | refine d_conv64 1 ?_ | refine d_slices 1 ?_ | refine d_concat 1 ?_ | refine d_build 1 ?_)
      (first | refine d_pure 2 ?_ | refine d_load 2 ?_ | refine d_arith 2 ?_ | refine d_rem 2 ?_ | refine d_quo 2 ?_ | refine d_shrv 2 ?_ | refine d_fieldat 2 ?_ | refine d_idx1 2 ?_ | refine d_index 2 ?_ | refine d_conv64 2 ?_ | refine d_slices 2 ?_ | refine d_concat 2 ?_ | refine d_build 2 ?_)
      (first | refine d_pure 4 ?_ | refine d_load 4 ?_ | refine d_arith 4 ?_ | refine d_rem 4 ?_ | refine d_quo 4 ?_ | refine d_shrv 4 ?_ | refine d_fieldat 4 ?_ | refine d_idx1 4 ?_ | refine d_index 4 ?_ | refine d_conv64 4 ?_ | refine d_slices 4 ?_ | refine d_concat 4 ?_ | refine d_build 4 ?_)
      (first | refine d_pure 5 ?_ | refine d_load 5 ?_ | refine d_arith 5 ?_ | refine d_rem 5 ?_ | refine d_quo 5 ?_ | refine d_shrv 5 ?_ | refine d_fieldat 5 ?_ | refine d_idx1 5 ?_ | refine d_index 5 ?_ | refine d_conv64 5 ?_ | refine d_slices 5 ?_ | refine d_concat 5 ?_ | refine d_build 5 ?_)
      (first | refine d_pure 7 ?_ | refine d_load 7 ?_ | refine d_arith 7 ?_ | refine d_rem 7 ?_ | refine d_quo 7 ?_ | refine d_shrv 7 ?_ | refine d_fieldat 7 ?_ | refine d_idx1 7 ?_ | refine d_index 7 ?_ | refine d_conv64 7 ?_ | refine d_slices 7 ?_ | refine d_concat 7 ?_ | refine d_build 7 ?_)
      (first | refine d_pure 8 ?_ | refine d_load 8 ?_ | refine d_arith 8 ?_ | refine d_rem 8 ?_ | refine d_quo 8 ?_ | refine d_shrv 8 ?_ | refine d_fieldat 8 ?_ | refine d_idx1 8 ?_ | refine d_index 8 ?_ | refine d_conv64 8 ?_ | refine d_slices 8 ?_ | refine d_concat 8 ?_ | refine d_build 8 ?_)
      (first | refine d_pure 9 ?_ | refine d_load 9 ?_ | refine d_arith 9 ?_ | refine d_rem 9 ?_ | refine d_quo 9 ?_ | refine d_shrv 9 ?_ | refine d_fieldat 9 ?_ | refine d_idx1 9 ?_ | refine d_index 9 ?_ | refine d_conv64 9 ?_ | refine d_slices 9 ?_ | refine d_concat 9 ?_ | refine d_build 9 ?_)
      (first | refine d_pure 10 ?_ | refine d_load 10 ?_ | refine d_arith 10 ?_ | refine d_rem 10 ?_ | refine d_quo 10 ?_ | refine d_shrv 10 ?_ | refine d_fieldat 10 ?_ | refine d_idx1 10 ?_ | refine d_index 10 ?_ | refine d_conv64 10 ?_ | refine d_slices 10 ?_ | refine d_concat 10 ?_ | refine d_build 10 ?_)
      (first | refine d_pure 11 ?_ | refine d_load 11 ?_ | refine d_arith 11 ?_ | refine d_rem 11 ?_ | refine d_quo 11 ?_ | refine d_shrv 11 ?_ | refine d_fieldat 11 ?_ | refine d_idx1 11 ?_ | refine d_index 11 ?_ | refine d_conv64 11 ?_ | refine d_slices 11 ?_ | refine d_concat 11 ?_ | refine d_build 11 ?_)
      refine d_two 3 17 ?_ ?_
      · refine d_ovia1 3 (h1 := by refine s_call cc ?_; exact run_fin1) (h := ?_)
        refine d_two 6 17 ?_ ?_
        · refine d_ovia1 6 (h1 := by refine s_call cd ?_; exact run_fin1) (h := ?_)
          refine d_two 12 17 ?_ ?_
          · refine d_ovia1 12 (h1 := by refine s_call c2 ?_; exact run_fin1) (h := ?_)
            (first | refine d_pure 13 ?_ | refine d_load 13 ?_ | refine d_arith 13 ?_ | refine d_rem 13 ?_ | refine d_quo 13 ?_ | refine d_shrv 13 ?_ | refine d_fieldat 13 ?_ | refine d_idx1 13 ?_ | refine d_index 13 ?_ | refine d_conv64 13 ?_ | refine d_slices 13 ?_ | refine d_concat 13 ?_ | refine d_build 13 ?_)
            (first | refine d_pure 14 ?_ | refine d_load 14 ?_ | refine d_arith 14 ?_ | refine d_rem 14 ?_ | refine d_quo 14 ?_ | refine d_shrv 14 ?_ | refine d_fieldat 14 ?_ | refine d_idx1 14 ?_ | refine d_index 14 ?_ | refine d_conv64 14 ?_ | refine d_slices 14 ?_ | refine d_concat 14 ?_ | refine d_build 14 ?_)
            (first | refine d_pure 15 ?_ | refine d_load 15 ?_ | refine d_arith 15 ?_ | refine d_rem 15 ?_ | refine d_quo 15 ?_ | refine d_shrv 15 ?_ | refine d_fieldat 15 ?_ | refine d_idx1 15 ?_ | refine d_index 15 ?_ | refine d_conv64 15 ?_ | refine d_slices 15 ?_ | refine d_concat 15 ?_ | refine d_build 15 ?_)
            (first | refine d_pure 16 ?_ | refine d_load 16 ?_ | refine d_arith 16 ?_ | refine d_rem 16 ?_ | refine d_quo 16 ?_ | refine d_shrv 16 ?_ | refine d_fieldat 16 ?_ | refine d_idx1 16 ?_ | refine d_index 16 ?_ | refine d_conv64 16 ?_ | refine d_slices 16 ?_ | refine d_concat 16 ?_ | refine d_build 16 ?_)
            refine d_via 17 (X := Nat) (h1 := by refine s_alloc fun r => ?_; exact run_fin r) (h := fun b2 => ?_)
            refine d_via1 18 (h1 := by refine s_putall (h1 := h13) (hz := hl3) (hi := by rw [hl3]; rfl) ?_; exact run_fin1) (h := ?_)
            (first | refine d_pure 19 ?_ | refine d_load 19 ?_ | refine d_arith 19 ?_ | refine d_rem 19 ?_ | refine d_quo 19 ?_ | refine d_shrv 19 ?_ | refine d_fieldat 19 ?_ | refine d_idx1 19 ?_ | refine d_index 19 ?_ | refine d_conv64 19 ?_ | refine d_slices 19 ?_ | refine d_concat 19 ?_ | refine d_build 19 ?_)
            (first | refine d_pure 20 ?_ | refine d_load 20 ?_ | refine d_arith 20 ?_ | refine d_rem 20 ?_ | refine d_quo 20 ?_ | refine d_shrv 20 ?_ | refine d_fieldat 20 ?_ | refine d_idx1 20 ?_ | refine d_index 20 ?_ | refine d_conv64 20 ?_ | refine d_slices 20 ?_ | refine d_concat 20 ?_ | refine d_build 20 ?_)
            refine d_done ?_
            (repeat (first | refine g ?_))
            refine s_getall (hz := hl3) ?_
            (repeat (first | refine g ?_))
            refine s_getall (hz := hl3) ?_
            (repeat (first | refine g ?_))
            refine s_eqk 6 4 true (la := litsK K) (lb := litsK K) ?_ ?_ (fa := hfm) (fb := hfm) (ka := kl) (kb := kl)
            · simp
            (repeat (first | refine g ?_))
            refine s_call c9 ?_
            (repeat (first | refine g ?_))
            exact run_ret rfl (imp_RD rfl shut)
          · refine d_ovia 17 (X := Nat) (h1 := by refine s_alloc fun r => ?_; exact run_fin r) (h := fun b2 => ?_)
            refine d_via1 12 (h1 := by refine s_call c2 ?_; exact run_fin1) (h := ?_)
            (first | refine d_pure 13 ?_ | refine d_load 13 ?_ | refine d_arith 13 ?_ | refine d_rem 13 ?_ | refine d_quo 13 ?_ | refine d_shrv 13 ?_ | refine d_fieldat 13 ?_ | refine d_idx1 13 ?_ | refine d_index 13 ?_ | refine d_conv64 13 ?_ | refine d_slices 13 ?_ | refine d_concat 13 ?_ | refine d_build 13 ?_)
            (first | refine d_pure 14 ?_ | refine d_load 14 ?_ | refine d_arith 14 ?_ | refine d_rem 14 ?_ | refine d_quo 14 ?_ | refine d_shrv 14 ?_ | refine d_fieldat 14 ?_ | refine d_idx1 14 ?_ | refine d_index 14 ?_ | refine d_conv64 14 ?_ | refine d_slices 14 ?_ | refine d_concat 14 ?_ | refine d_build 14 ?_)
            (first | refine d_pure 15 ?_ | refine d_load 15 ?_ | refine d_arith 15 ?_ | refine d_rem 15 ?_ | refine d_quo 15 ?_ | refine d_shrv 15 ?_ | refine d_fieldat 15 ?_ | refine d_idx1 15 ?_ | refine d_index 15 ?_ | refine d_conv64 15 ?_ | refine d_slices 15 ?_ | refine d_concat 15 ?_ | refine d_build 15 ?_)
            (first | refine d_pure 16 ?_ | refine d_load 16 ?_ | refine d_arith 16 ?_ | refine d_rem 16 ?_ | refine d_quo 16 ?_ | refine d_shrv 16 ?_ | refine d_fieldat 16 ?_ | refine d_idx1 16 ?_ | refine d_index 16 ?_ | refine d_conv64 16 ?_ | refine d_slices 16 ?_ | refine d_concat 16 ?_ | refine d_build 16 ?_)
            refine d_via1 18 (h1 := by refine s_putall (h1 := h13) (hz := hl3) (hi := by rw [hl3]; rfl) ?_; exact run_fin1) (h := ?_)
            (first | refine d_pure 19 ?_ | refine d_load 19 ?_ | refine d_arith 19 ?_ | refine d_rem 19 ?_ | refine d_quo 19 ?_ | refine d_shrv 19 ?_ | refine d_fieldat 19 ?_ | refine d_idx1 19 ?_ | refine d_index 19 ?_ | refine d_conv64 19 ?_ | refine d_slices 19 ?_ | refine d_concat 19 ?_ | refine d_build 19 ?_)
            (first | refine d_pure 20 ?_ | refine d_load 20 ?_ | refine d_arith 20 ?_ | refine d_rem 20 ?_ | refine d_quo 20 ?_ | refine d_shrv 20 ?_ | refine d_fieldat 20 ?_ | refine d_idx1 20 ?_ | refine d_index 20 ?_ | refine d_conv64 20 ?_ | refine d_slices 20 ?_ | refine d_concat 20 ?_ | refine d_build 20 ?_)
            refine d_done ?_
            (repeat (first | refine g ?_))
            refine s_getall (hz := hl3) ?_
            (repeat (first | refine g ?_))
            refine s_getall (hz := hl3) ?_
            (repeat (first | refine g ?_))
            refine s_eqk 6 4 true (la := litsK K) (lb := litsK K) ?_ ?_ (fa := hfm) (fb := hfm) (ka := kl) (kb := kl)
            · simp
            (repeat (first | refine g ?_))
            refine s_call c9 ?_
            (repeat (first | refine g ?_))
            exact run_ret rfl (imp_RD rfl shut)
        · refine d_ovia 17 (X := Nat) (h1 := by refine s_alloc fun r => ?_; exact run_fin r) (h := fun b2 => ?_)
          refine d_via1 6 (h1 := by refine s_call cd ?_; exact run_fin1) (h := ?_)
          refine d_via1 12 (h1 := by refine s_call c2 ?_; exact run_fin1) (h := ?_)
          (first | refine d_pure 13 ?_ | refine d_load 13 ?_ | refine d_arith 13 ?_ | refine d_rem 13 ?_ | refine d_quo 13 ?_ | refine d_shrv 13 ?_ | refine d_fieldat 13 ?_ | refine d_idx1 13 ?_ | refine d_index 13 ?_ | refine d_conv64 13 ?_ | refine d_slices 13 ?_ | refine d_concat 13 ?_ | refine d_build 13 ?_)
          (first | refine d_pure 14 ?_ | refine d_load 14 ?_ | refine d_arith 14 ?_ | refine d_rem 14 ?_ | refine d_quo 14 ?_ | refine d_shrv 14 ?_ | refine d_fieldat 14 ?_ | refine d_idx1 14 ?_ | refine d_index 14 ?_ | refine d_conv64 14 ?_ | refine d_slices 14 ?_ | refine d_concat 14 ?_ | refine d_build 14 ?_)
          (first | refine d_pure 15 ?_ | refine d_load 15 ?_ | refine d_arith 15 ?_ | refine d_rem 15 ?_ | refine d_quo 15 ?_ | refine d_shrv 15 ?_ | refine d_fieldat 15 ?_ | refine d_idx1 15 ?_ | refine d_index 15 ?_ | refine d_conv64 15 ?_ | refine d_slices 15 ?_ | refine d_concat 15 ?_ | refine d_build 15 ?_)
          (first | refine d_pure 16 ?_ | refine d_load 16 ?_ | refine d_arith 16 ?_ | refine d_rem 16 ?_ | refine d_quo 16 ?_ | refine d_shrv 16 ?_ | refine d_fieldat 16 ?_ | refine d_idx1 16 ?_ | refine d_index 16 ?_ | refine d_conv64 16 ?_ | refine d_slices 16 ?_ | refine d_concat 16 ?_ | refine d_build 16 ?_)
          refine d_via1 18 (h1 := by refine s_putall (h1 := h13) (hz := hl3) (hi := by rw [hl3]; rfl) ?_; exact run_fin1) (h := ?_)
          (first | refine d_pure 19 ?_ | refine d_load 19 ?_ | refine d_arith 19 ?_ | refine d_rem 19 ?_ | refine d_quo 19 ?_ | refine d_shrv 19 ?_ | refine d_fieldat 19 ?_ | refine d_idx1 19 ?_ | refine d_index 19 ?_ | refine d_conv64 19 ?_ | refine d_slices 19 ?_ | refine d_concat 19 ?_ | refine d_build 19 ?_)
          (first | refine d_pure 20 ?_ | refine d_load 20 ?_ | refine d_arith 20 ?_ | refine d_rem 20 ?_ | refine d_quo 20 ?_ | refine d_shrv 20 ?_ | refine d_fieldat 20 ?_ | refine d_idx1 20 ?_ | refine d_index 20 ?_ | refine d_conv64 20 ?_ | refine d_slices 20 ?_ | refine d_concat 20 ?_ | refine d_build 20 ?_)
          refine d_done ?_
          (repeat (first | refine g ?_))
          refine s_getall (hz := hl3) ?_
          (repeat (first | refine g ?_))
          refine s_getall (hz := hl3) ?_
          (repeat (first | refine g ?_))
          refine s_eqk 6 4 true (la := litsK K) (lb := litsK K) ?_ ?_ (fa := hfm) (fb := hfm) (ka := kl) (kb := kl)
          · simp
          (repeat (first | refine g ?_))
          refine s_call c9 ?_
          (repeat (first | refine g ?_))
          exact run_ret rfl (imp_RD rfl shut)
      · refine d_ovia 17 (X := Nat) (h1 := by refine s_alloc fun r => ?_; exact run_fin r) (h := fun b2 => ?_)
        refine d_via1 3 (h1 := by refine s_call cc ?_; exact run_fin1) (h := ?_)
        refine d_via1 6 (h1 := by refine s_call cd ?_; exact run_fin1) (h := ?_)
        refine d_via1 12 (h1 := by refine s_call c2 ?_; exact run_fin1) (h := ?_)
        (first | refine d_pure 13 ?_ | refine d_load 13 ?_ | refine d_arith 13 ?_ | refine d_rem 13 ?_ | refine d_quo 13 ?_ | refine d_shrv 13 ?_ | refine d_fieldat 13 ?_ | refine d_idx1 13 ?_ | refine d_index 13 ?_ | refine d_conv64 13 ?_ | refine d_slices 13 ?_ | refine d_concat 13 ?_ | refine d_build 13 ?_)
        (first | refine d_pure 14 ?_ | refine d_load 14 ?_ | refine d_arith 14 ?_ | refine d_rem 14 ?_ | refine d_quo 14 ?_ | refine d_shrv 14 ?_ | refine d_fieldat 14 ?_ | refine d_idx1 14 ?_ | refine d_index 14 ?_ | refine d_conv64 14 ?_ | refine d_slices 14 ?_ | refine d_concat 14 ?_ | refine d_build 14 ?_)
        (first | refine d_pure 15 ?_ | refine d_load 15 ?_ | refine d_arith 15 ?_ | refine d_rem 15 ?_ | refine d_quo 15 ?_ | refine d_shrv 15 ?_ | refine d_fieldat 15 ?_ | refine d_idx1 15 ?_ | refine d_index 15 ?_ | refine d_conv64 15 ?_ | refine d_slices 15 ?_ | refine d_concat 15 ?_ | refine d_build 15 ?_)
        (first | refine d_pure 16 ?_ | refine d_load 16 ?_ | refine d_arith 16 ?_ | refine d_rem 16 ?_ | refine d_quo 16 ?_ | refine d_shrv 16 ?_ | refine d_fieldat 16 ?_ | refine d_idx1 16 ?_ | refine d_index 16 ?_ | refine d_conv64 16 ?_ | refine d_slices 16 ?_ | refine d_concat 16 ?_ | refine d_build 16 ?_)
        refine d_via1 18 (h1 := by refine s_putall (h1 := h13) (hz := hl3) (hi := by rw [hl3]; rfl) ?_; exact run_fin1) (h := ?_)
        (first | refine d_pure 19 ?_ | refine d_load 19 ?_ | refine d_arith 19 ?_ | refine d_rem 19 ?_ | refine d_quo 19 ?_ | refine d_shrv 19 ?_ | refine d_fieldat 19 ?_ | refine d_idx1 19 ?_ | refine d_index 19 ?_ | refine d_conv64 19 ?_ | refine d_slices 19 ?_ | refine d_concat 19 ?_ | refine d_build 19 ?_)
        (first | refine d_pure 20 ?_ | refine d_load 20 ?_ | refine d_arith 20 ?_ | refine d_rem 20 ?_ | refine d_quo 20 ?_ | refine d_shrv 20 ?_ | refine d_fieldat 20 ?_ | refine d_idx1 20 ?_ | refine d_index 20 ?_ | refine d_conv64 20 ?_ | refine d_slices 20 ?_ | refine d_concat 20 ?_ | refine d_build 20 ?_)
        refine d_done ?_
        (repeat (first | refine g ?_))
        refine s_getall (hz := hl3) ?_
        (repeat (first | refine g ?_))
        refine s_getall (hz := hl3) ?_
        (repeat (first | refine g ?_))
        refine s_eqk 6 4 true (la := litsK K) (lb := litsK K) ?_ ?_ (fa := hfm) (fb := hfm) (ka := kl) (kb := kl)
        · simp
        (repeat (first | refine g ?_))
        refine s_call c9 ?_
        (repeat (first | refine g ?_))
        exact run_ret rfl (imp_RD rfl shut)
  · refine d_ovia 17 (X := Nat) (h1 := by refine s_alloc fun r => ?_; exact run_fin r) (h := fun b1 => ?_)
    refine d_via1 3 (h1 := by refine s_call cc ?_; exact run_fin1) (h := ?_)
    refine d_via1 6 (h1 := by refine s_call cd ?_; exact run_fin1) (h := ?_)
    refine d_via1 12 (h1 := by refine s_call c1 ?_; exact run_fin1) (h := ?_)
    (first | refine d_pure 13 ?_ | refine d_load 13 ?_ | refine d_arith 13 ?_ | refine d_rem 13 ?_ | refine d_quo 13 ?_ | refine d_shrv 13 ?_ | refine d_fieldat 13 ?_ | refine d_idx1 13 ?_ | refine d_index 13 ?_ | refine d_conv64 13 ?_ | refine d_slices 13 ?_ | refine d_concat 13 ?_ | refine d_build 13 ?_)
    (first | refine d_pure 14 ?_ | refine d_load 14 ?_ | refine d_arith 14 ?_ | refine d_rem 14 ?_ | refine d_quo 14 ?_ | refine d_shrv 14 ?_ | refine d_fieldat 14 ?_ | refine d_idx1 14 ?_ | refine d_index 14 ?_ | refine d_conv64 14 ?_ | refine d_slices 14 ?_ | refine d_concat 14 ?_ | refine d_build 14 ?_)
    (first | refine d_pure 15 ?_ | refine d_load 15 ?_ | refine d_arith 15 ?_ | refine d_rem 15 ?_ | refine d_quo 15 ?_ | refine d_shrv 15 ?_ | refine d_fieldat 15 ?_ | refine d_idx1 15 ?_ | refine d_index 15 ?_ | refine d_conv64 15 ?_ | refine d_slices 15 ?_ | refine d_concat 15 ?_ | refine d_build 15 ?_)
    (first | refine d_pure 16 ?_ | refine d_load 16 ?_ | refine d_arith 16 ?_ | refine d_rem 16 ?_ | refine d_quo 16 ?_ | refine d_shrv 16 ?_ | refine d_fieldat 16 ?_ | refine d_idx1 16 ?_ | refine d_index 16 ?_ | refine d_conv64 16 ?_ | refine d_slices 16 ?_ | refine d_concat 16 ?_ | refine d_build 16 ?_)
    refine d_via1 18 (h1 := by refine s_putall (h1 := h13) (hz := hl3) (hi := by rw [hl3]; rfl) ?_; exact run_fin1) (h := ?_)
    (first | refine d_pure 19 ?_ | refine d_load 19 ?_ | refine d_arith 19 ?_ | refine d_rem 19 ?_ | refine d_quo 19 ?_ | refine d_shrv 19 ?_ | refine d_fieldat 19 ?_ | refine d_idx1 19 ?_ | refine d_index 19 ?_ | refine d_conv64 19 ?_ | refine d_slices 19 ?_ | refine d_concat 19 ?_ | refine d_build 19 ?_)
    (first | refine d_pure 20 ?_ | refine d_load 20 ?_ | refine d_arith 20 ?_ | refine d_rem 20 ?_ | refine d_quo 20 ?_ | refine d_shrv 20 ?_ | refine d_fieldat 20 ?_ | refine d_idx1 20 ?_ | refine d_index 20 ?_ | refine d_conv64 20 ?_ | refine d_slices 20 ?_ | refine d_concat 20 ?_ | refine d_build 20 ?_)
    refine d_done ?_
    (repeat (first | refine g ?_))
    refine d_start [] ?_
    refine d_getall 0 hlf ?_
    (first | refine d_pure 1 ?_ | refine d_load 1 ?_ | refine d_arith 1 ?_ | refine d_rem 1 ?_ | refine d_quo 1 ?_ | refine d_shrv 1 ?_ | refine d_fieldat 1 ?_ | refine d_idx1 1 ?_ | refine d_index 1 ?_ | refine d_conv64 1 ?_ | refine d_slices 1 ?_ | refine d_concat 1 ?_ | refine d_build 1 ?_)
    (first | refine d_pure 2 ?_ | refine d_load 2 ?_ | refine d_arith 2 ?_ | refine d_rem 2 ?_ | refine d_quo 2 ?_ | refine d_shrv 2 ?_ | refine d_fieldat 2 ?_ | refine d_idx1 2 ?_ | refine d_index 2 ?_ | refine d_conv64 2 ?_ | refine d_slices 2 ?_ | refine d_concat 2 ?_ | refine d_build 2 ?_)
    (first | refine d_pure 4 ?_ | refine d_load 4 ?_ | refine d_arith 4 ?_ | refine d_rem 4 ?_ | refine d_quo 4 ?_ | refine d_shrv 4 ?_ | refine d_fieldat 4 ?_ | refine d_idx1 4 ?_ | refine d_index 4 ?_ | refine d_conv64 4 ?_ | refine d_slices 4 ?_ | refine d_concat 4 ?_ | refine d_build 4 ?_)
    (first | refine d_pure 5 ?_ | refine d_load 5 ?_ | refine d_arith 5 ?_ | refine d_rem 5 ?_ | refine d_quo 5 ?_ | refine d_shrv 5 ?_ | refine d_fieldat 5 ?_ | refine d_idx1 5 ?_ | refine d_index 5 ?_ | refine d_conv64 5 ?_ | refine d_slices 5 ?_ | refine d_concat 5 ?_ | refine d_build 5 ?_)
    (first | refine d_pure 7 ?_ | refine d_load 7 ?_ | refine d_arith 7 ?_ | refine d_rem 7 ?_ | refine d_quo 7 ?_ | refine d_shrv 7 ?_ | refine d_fieldat 7 ?_ | refine d_idx1 7 ?_ | refine d_index 7 ?_ | refine d_conv64 7 ?_ | refine d_slices 7 ?_ | refine d_concat 7 ?_ | refine d_build 7 ?_)
    (first | refine d_pure 8 ?_ | refine d_load 8 ?_ | refine d_arith 8 ?_ | refine d_rem 8 ?_ | refine d_quo 8 ?_ | refine d_shrv 8 ?_ | refine d_fieldat 8 ?_ | refine d_idx1 8 ?_ | refine d_index 8 ?_ | refine d_conv64 8 ?_ | refine d_slices 8 ?_ | refine d_concat 8 ?_ | refine d_build 8 ?_)
    (first | refine d_pure 9 ?_ | refine d_load 9 ?_ | refine d_arith 9 ?_ | refine d_rem 9 ?_ | refine d_quo 9 ?_ | refine d_shrv 9 ?_ | refine d_fieldat 9 ?_ | refine d_idx1 9 ?_ | refine d_index 9 ?_ | refine d_conv64 9 ?_ | refine d_slices 9 ?_ | refine d_concat 9 ?_ | refine d_build 9 ?_)
    (first | refine d_pure 10 ?_ | refine d_load 10 ?_ | refine d_arith 10 ?_ | refine d_rem 10 ?_ | refine d_quo 10 ?_ | refine d_shrv 10 ?_ | refine d_fieldat 10 ?_ | refine d_idx1 10 ?_ | refine d_index 10 ?_ | refine d_conv64 10 ?_ | refine d_slices 10 ?_ | refine d_concat 10 ?_ | refine d_build 10 ?_)
    (first | refine d_pure 11 ?_ | refine d_load 11 ?_ | refine d_arith 11 ?_ | refine d_rem 11 ?_ | refine d_quo 11 ?_ | refine d_shrv 11 ?_ | refine d_fieldat 11 ?_ | refine d_idx1 11 ?_ | refine d_index 11 ?_ | refine d_conv64 11 ?_ | refine d_slices 11 ?_ | refine d_concat 11 ?_ | refine d_build 11 ?_)
    refine d_two 3 17 ?_ ?_
    · refine d_ovia1 3 (h1 := by refine s_call cc ?_; exact run_fin1) (h := ?_)
      refine d_two 6 17 ?_ ?_
      · refine d_ovia1 6 (h1 := by refine s_call cd ?_; exact run_fin1) (h := ?_)
        refine d_two 12 17 ?_ ?_
        · refine d_ovia1 12 (h1 := by refine s_call c2 ?_; exact run_fin1) (h := ?_)
          (first | refine d_pure 13 ?_ | refine d_load 13 ?_ | refine d_arith 13 ?_ | refine d_rem 13 ?_ | refine d_quo 13 ?_ | refine d_shrv 13 ?_ | refine d_fieldat 13 ?_ | refine d_idx1 13 ?_ | refine d_index 13 ?_ | refine d_conv64 13 ?_ | refine d_slices 13 ?_ | refine d_concat 13 ?_ | refine d_build 13 ?_)
          (first | refine d_pure 14 ?_ | refine d_load 14 ?_ | refine d_arith 14 ?_ | refine d_rem 14 ?_ | refine d_quo 14 ?_ | refine d_shrv 14 ?_ | refine d_fieldat 14 ?_ | refine d_idx1 14 ?_ | refine d_index 14 ?_ | refine d_conv64 14 ?_ | refine d_slices 14 ?_ | refine d_concat 14 ?_ | refine d_build 14 ?_)
          (first | refine d_pure 15 ?_ | refine d_load 15 ?_ | refine d_arith 15 ?_ | refine d_rem 15 ?_ | refine d_quo 15 ?_ | refine d_shrv 15 ?_ | refine d_fieldat 15 ?_ | refine d_idx1 15 ?_ | refine d_index 15 ?_ | refine d_conv64 15 ?_ | refine d_slices 15 ?_ | refine d_concat 15 ?_ | refine d_build 15 ?_)
          (first | refine d_pure 16 ?_ | refine d_load 16 ?_ | refine d_arith 16 ?_ | refine d_rem 16 ?_ | refine d_quo 16 ?_ | refine d_shrv 16 ?_ | refine d_fieldat 16 ?_ | refine d_idx1 16 ?_ | refine d_index 16 ?_ | refine d_conv64 16 ?_ | refine d_slices 16 ?_ | refine d_concat 16 ?_ | refine d_build 16 ?_)
          refine d_via 17 (X := Nat) (h1 := by refine s_alloc fun r => ?_; exact run_fin r) (h := fun b2 => ?_)
          refine d_via1 18 (h1 := by refine s_putall (h1 := h13) (hz := hl3) (hi := by rw [hl3]; rfl) ?_; exact run_fin1) (h := ?_)
          (first | refine d_pure 19 ?_ | refine d_load 19 ?_ | refine d_arith 19 ?_ | refine d_rem 19 ?_ | refine d_quo 19 ?_ | refine d_shrv 19 ?_ | refine d_fieldat 19 ?_ | refine d_idx1 19 ?_ | refine d_index 19 ?_ | refine d_conv64 19 ?_ | refine d_slices 19 ?_ | refine d_concat 19 ?_ | refine d_build 19 ?_)
          (first | refine d_pure 20 ?_ | refine d_load 20 ?_ | refine d_arith 20 ?_ | refine d_rem 20 ?_ | refine d_quo 20 ?_ | refine d_shrv 20 ?_ | refine d_fieldat 20 ?_ | refine d_idx1 20 ?_ | refine d_index 20 ?_ | refine d_conv64 20 ?_ | refine d_slices 20 ?_ | refine d_concat 20 ?_ | refine d_build 20 ?_)
          refine d_done ?_
          (repeat (first | refine g ?_))
          refine s_getall (hz := hl3) ?_
          (repeat (first | refine g ?_))
          refine s_getall (hz := hl3) ?_
          (repeat (first | refine g ?_))
          refine s_eqk 6 4 true (la := litsK K) (lb := litsK K) ?_ ?_ (fa := hfm) (fb := hfm) (ka := kl) (kb := kl)
          · simp
          (repeat (first | refine g ?_))
          refine s_call c9 ?_
          (repeat (first | refine g ?_))
          exact run_ret rfl (imp_RD rfl shut)
        · refine d_ovia 17 (X := Nat) (h1 := by refine s_alloc fun r => ?_; exact run_fin r) (h := fun b2 => ?_)
          refine d_via1 12 (h1 := by refine s_call c2 ?_; exact run_fin1) (h := ?_)
          (first | refine d_pure 13 ?_ | refine d_load 13 ?_ | refine d_arith 13 ?_ | refine d_rem 13 ?_ | refine d_quo 13 ?_ | refine d_shrv 13 ?_ | refine d_fieldat 13 ?_ | refine d_idx1 13 ?_ | refine d_index 13 ?_ | refine d_conv64 13 ?_ | refine d_slices 13 ?_ | refine d_concat 13 ?_ | refine d_build 13 ?_)
          (first | refine d_pure 14 ?_ | refine d_load 14 ?_ | refine d_arith 14 ?_ | refine d_rem 14 ?_ | refine d_quo 14 ?_ | refine d_shrv 14 ?_ | refine d_fieldat 14 ?_ | refine d_idx1 14 ?_ | refine d_index 14 ?_ | refine d_conv64 14 ?_ | refine d_slices 14 ?_ | refine d_concat 14 ?_ | refine d_build 14 ?_)
          (first | refine d_pure 15 ?_ | refine d_load 15 ?_ | refine d_arith 15 ?_ | refine d_rem 15 ?_ | refine d_quo 15 ?_ | refine d_shrv 15 ?_ | refine d_fieldat 15 ?_ | refine d_idx1 15 ?_ | refine d_index 15 ?_ | refine d_conv64 15 ?_ | refine d_slices 15 ?_ | refine d_concat 15 ?_ | refine d_build 15 ?_)
          (first | refine d_pure 16 ?_ | refine d_load 16 ?_ | refine d_arith 16 ?_ | refine d_rem 16 ?_ | refine d_quo 16 ?_ | refine d_shrv 16 ?_ | refine d_fieldat 16 ?_ | refine d_idx1 16 ?_ | refine d_index 16 ?_ | refine d_conv64 16 ?_ | refine d_slices 16 ?_ | refine d_concat 16 ?_ | refine d_build 16 ?_)
          refine d_via1 18 (h1 := by refine s_putall (h1 := h13) (hz := hl3) (hi := by rw [hl3]; rfl) ?_; exact run_fin1) (h := ?_)
          (first | refine d_pure 19 ?_ | refine d_load 19 ?_ | refine d_arith 19 ?_ | refine d_rem 19 ?_ | refine d_quo 19 ?_ | refine d_shrv 19 ?_ | refine d_fieldat 19 ?_ | refine d_idx1 19 ?_ | refine d_index 19 ?_ | refine d_conv64 19 ?_ | refine d_slices 19 ?_ | refine d_concat 19 ?_ | refine d_build 19 ?_)
          (first | refine d_pure 20 ?_ | refine d_load 20 ?_ | refine d_arith 20 ?_ | refine d_rem 20 ?_ | refine d_quo 20 ?_ | refine d_shrv 20 ?_ | refine d_fieldat 20 ?_ | refine d_idx1 20 ?_ | refine d_index 20 ?_ | refine d_conv64 20 ?_ | refine d_slices 20 ?_ | refine d_concat 20 ?_ | refine d_build 20 ?_)
          refine d_done ?_
          (repeat (first | refine g ?_))
          refine s_getall (hz := hl3) ?_
          (repeat (first | refine g ?_))
          refine s_getall (hz := hl3) ?_
          (repeat (first | refine g ?_))
          refine s_eqk 6 4 true (la := litsK K) (lb := litsK K) ?_ ?_ (fa := hfm) (fb := hfm) (ka := kl) (kb := kl)
          · simp
          (repeat (first | refine g ?_))
          refine s_call c9 ?_
          (repeat (first | refine g ?_))
          exact run_ret rfl (imp_RD rfl shut)
      · refine d_ovia 17 (X := Nat) (h1 := by refine s_alloc fun r => ?_; exact run_fin r) (h := fun b2 => ?_)
        refine d_via1 6 (h1 := by refine s_call cd ?_; exact run_fin1) (h := ?_)
        refine d_via1 12 (h1 := by refine s_call c2 ?_; exact run_fin1) (h := ?_)
        (first | refine d_pure 13 ?_ | refine d_load 13 ?_ | refine d_arith 13 ?_ | refine d_rem 13 ?_ | refine d_quo 13 ?_ | refine d_shrv 13 ?_ | refine d_fieldat 13 ?_ | refine d_idx1 13 ?_ | refine d_index 13 ?_ | refine d_conv64 13 ?_ | refine d_slices 13 ?_ | refine d_concat 13 ?_ | refine d_build 13 ?_)
        (first | refine d_pure 14 ?_ | refine d_load 14 ?_ | refine d_arith 14 ?_ | refine d_rem 14 ?_ | refine d_quo 14 ?_ | refine d_shrv 14 ?_ | refine d_fieldat 14 ?_ | refine d_idx1 14 ?_ | refine d_index 14 ?_ | refine d_conv64 14 ?_ | refine d_slices 14 ?_ | refine d_concat 14 ?_ | refine d_build 14 ?_)
        (first | refine d_pure 15 ?_ | refine d_load 15 ?_ | refine d_arith 15 ?_ | refine d_rem 15 ?_ | refine d_quo 15 ?_ | refine d_shrv 15 ?_ | refine d_fieldat 15 ?_ | refine d_idx1 15 ?_ | refine d_index 15 ?_ | refine d_conv64 15 ?_ | refine d_slices 15 ?_ | refine d_concat 15 ?_ | refine d_build 15 ?_)
        (first | refine d_pure 16 ?_ | refine d_load 16 ?_ | refine d_arith 16 ?_ | refine d_rem 16 ?_ | refine d_quo 16 ?_ | refine d_shrv 16 ?_ | refine d_fieldat 16 ?_ | refine d_idx1 16 ?_ | refine d_index 16 ?_ | refine d_conv64 16 ?_ | refine d_slices 16 ?_ | refine d_concat 16 ?_ | refine d_build 16 ?_)
        refine d_via1 18 (h1 := by refine s_putall (h1 := h13) (hz := hl3) (hi := by rw [hl3]; rfl) ?_; exact run_fin1) (h := ?_)
        (first | refine d_pure 19 ?_ | refine d_load 19 ?_ | refine d_arith 19 ?_ | refine d_rem 19 ?_ | refine d_quo 19 ?_ | refine d_shrv 19 ?_ | refine d_fieldat 19 ?_ | refine d_idx1 19 ?_ | refine d_index 19 ?_ | refine d_conv64 19 ?_ | refine d_slices 19 ?_ | refine d_concat 19 ?_ | refine d_build 19 ?_)
        (first | refine d_pure 20 ?_ | refine d_load 20 ?_ | refine d_arith 20 ?_ | refine d_rem 20 ?_ | refine d_quo 20 ?_ | refine d_shrv 20 ?_ | refine d_fieldat 20 ?_ | refine d_idx1 20 ?_ | refine d_index 20 ?_ | refine d_conv64 20 ?_ | refine d_slices 20 ?_ | refine d_concat 20 ?_ | refine d_build 20 ?_)
        refine d_done ?_
        (repeat (first | refine g ?_))
        refine s_getall (hz := hl3) ?_
        (repeat (first | refine g ?_))
        refine s_getall (hz := hl3) ?_
        (repeat (first | refine g ?_))
        refine s_eqk 6 4 true (la := litsK K) (lb := litsK K) ?_ ?_ (fa := hfm) (fb := hfm) (ka := kl) (kb := kl)
        · simp
        (repeat (first | refine g ?_))
        refine s_call c9 ?_
        (repeat (first | refine g ?_))
        exact run_ret rfl (imp_RD rfl shut)
    · refine d_ovia 17 (X := Nat) (h1 := by refine s_alloc fun r => ?_; exact run_fin r) (h := fun b2 => ?_)
      refine d_via1 3 (h1 := by refine s_call cc ?_; exact run_fin1) (h := ?_)
      refine d_via1 6 (h1 := by refine s_call cd ?_; exact run_fin1) (h := ?_)
      refine d_via1 12 (h1 := by refine s_call c2 ?_; exact run_fin1) (h := ?_)
      (first | refine d_pure 13 ?_ | refine d_load 13 ?_ | refine d_arith 13 ?_ | refine d_rem 13 ?_ | refine d_quo 13 ?_ | refine d_shrv 13 ?_ | refine d_fieldat 13 ?_ | refine d_idx1 13 ?_ | refine d_index 13 ?_ | refine d_conv64 13 ?_ | refine d_slices 13 ?_ | refine d_concat 13 ?_ | refine d_build 13 ?_)
      (first | refine d_pure 14 ?_ | refine d_load 14 ?_ | refine d_arith 14 ?_ | refine d_rem 14 ?_ | refine d_quo 14 ?_ | refine d_shrv 14 ?_ | refine d_fieldat 14 ?_ | refine d_idx1 14 ?_ | refine d_index 14 ?_ | refine d_conv64 14 ?_ | refine d_slices 14 ?_ | refine d_concat 14 ?_ | refine d_build 14 ?_)
      (first | refine d_pure 15 ?_ | refine d_load 15 ?_ | refine d_arith 15 ?_ | refine d_rem 15 ?_ | refine d_quo 15 ?_ | refine d_shrv 15 ?_ | refine d_fieldat 15 ?_ | refine d_idx1 15 ?_ | refine d_index 15 ?_ | refine d_conv64 15 ?_ | refine d_slices 15 ?_ | refine d_concat 15 ?_ | refine d_build 15 ?_)
      (first | refine d_pure 16 ?_ | refine d_load 16 ?_ | refine d_arith 16 ?_ | refine d_rem 16 ?_ | refine d_quo 16 ?_ | refine d_shrv 16 ?_ | refine d_fieldat 16 ?_ | refine d_idx1 16 ?_ | refine d_index 16 ?_ | refine d_conv64 16 ?_ | refine d_slices 16 ?_ | refine d_concat 16 ?_ | refine d_build 16 ?_)
      refine d_via1 18 (h1 := by refine s_putall (h1 := h13) (hz := hl3) (hi := by rw [hl3]; rfl) ?_; exact run_fin1) (h := ?_)
      (first | refine d_pure 19 ?_ | refine d_load 19 ?_ | refine d_arith 19 ?_ | refine d_rem 19 ?_ | refine d_quo 19 ?_ | refine d_shrv 19 ?_ | refine d_fieldat 19 ?_ | refine d_idx1 19 ?_ | refine d_index 19 ?_ | refine d_conv64 19 ?_ | refine d_slices 19 ?_ | refine d_concat 19 ?_ | refine d_build 19 ?_)
      (first | refine d_pure 20 ?_ | refine d_load 20 ?_ | refine d_arith 20 ?_ | refine d_rem 20 ?_ | refine d_quo 20 ?_ | refine d_shrv 20 ?_ | refine d_fieldat 20 ?_ | refine d_idx1 20 ?_ | refine d_index 20 ?_ | refine d_conv64 20 ?_ | refine d_slices 20 ?_ | refine d_concat 20 ?_ | refine d_build 20 ?_)
      refine d_done ?_
      (repeat (first | refine g ?_))
      refine s_getall (hz := hl3) ?_
      (repeat (first | refine g ?_))
      refine s_getall (hz := hl3) ?_
      (repeat (first | refine g ?_))
      refine s_eqk 6 4 true (la := litsK K) (lb := litsK K) ?_ ?_ (fa := hfm) (fb := hfm) (ka := kl) (kb := kl)
      · simp
      (repeat (first | refine g ?_))
      refine s_call c9 ?_
      (repeat (first | refine g ?_))
      exact run_ret rfl (imp_RD rfl shut)
end Go.Proofs.Ytibookgcaboldaa.V
