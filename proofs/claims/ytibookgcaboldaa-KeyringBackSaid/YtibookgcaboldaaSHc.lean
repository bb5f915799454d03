/- More rules of the walk: all of a block as a value, a slice of bytes as a text, inside a drawn region. -/
import Derived.Test.YtibookgcaboldaaVB
import Derived.Test.YtibookgcaboldaaSHa
import Derived.Test.YtibookgcaboldaaSHx
set_option maxRecDepth 10000
set_option linter.unusedVariables false
namespace Go.Proofs.Ytibookgcaboldaa.V
open Go.Proofs.Ytibookgcaboldaa.VL Go.Proofs.Ytibookgcaboldaa.VL.View Go.RowKit
section
variable {q : View} {fn : Func} {R : Value → HProp} {k kt : List It} {σ σ' : Facts} {A A' L : List HProp} {f : HProp → List HProp} {dst : Option Tmp} {type : TypeId} {gd : Option (Nat × Bool)} {S : List HProp} {ops : Array Oper} {mm : Nat} {listed : Array Bool} {pos : String} {after : Array Edge}
theorem op_getall [DS] {P : Program} {T : Nat → Option TyI} {n : Nat} (hT : TabOk P T) {t : Nat} {x : Operand} {b : Nat} {ti : TyI} {tc : TypeId} {l : List Value} (hx : ev σ x = some (.pointer (some ⟨b, 0, none⟩))) (ht : T t = some ti) (ha : isAggD ti.und = true) (hA : At A (cells b tc ⟨l⟩) f) (hz : l.length = ti.size) :
    OpQ P q n σ (.load t x) A (.agg ⟨l⟩) := by
  have := op_load_agg (P := P) (q := q) (n := n) hT hx ht ha hA (by show 0 + ti.size ≤ l.toArray.size; simp; omega)
  have e : (⟨l⟩ : Array Value).extract 0 (0 + ti.size) = ⟨l⟩ := by
    apply Array.ext'
    simp
    rw [← hz, List.take_length]
  rw [e] at this
  exact this
theorem d_getall {_ : DS} (ii : Nat) {t : Nat} {x : Operand} {b : Nat} {ti : TyI} {tc : TypeId} {l : List Value} (hz : l.length = ti.size) (hkk : RunA Try.prog q fn R kt ops mm (listed.setIfInBounds ii true) S σ' A) (zi : nthG ops.toList ii = some ⟨dst, .load t x, type, pos, after, gd⟩ := by exact rfl) (zn : Region.noSelect ops = true := by kernel_rfl) (zf : Region.free .any ops listed ii = true := by kernel_rfl) (zr : (Region.ready .any ops listed).contains ii = true := by kernel_rfl) (zg : guardOf σ (ops.toList.map (·.dst)) gd = some true := by exact rfl) (hx : ev σ x = some (.pointer (some ⟨b, 0, none⟩)) := by exact rfl) (ht : lookupT tab t = some ti := by exact rfl) (ha : isAggD ti.und = true := by exact rfl) (hA : At S (cells b tc ⟨l⟩) f := by (repeat (first | (with_reducible exact At.head) | apply At.tail))) (hp : putF fn.ntmps dst (.agg ⟨l⟩) σ = some σ' := by exact rfl) : RunA Try.prog q fn R kt ops (mm + 1) listed S σ A :=
  any_look ii (nthG_arr zi) zn zf zr zg (op_getall tabOk hx ht ha hA hz) hp hkk
end
end Go.Proofs.Ytibookgcaboldaa.V
namespace Go.Proofs.Ytibookgcaboldaa.V
open Go.Proofs.Ytibookgcaboldaa.VL Go.Proofs.Ytibookgcaboldaa.VL.Sha
attribute [local irreducible] Run
/-- Two mixes. -/
abbrev Mixes (t1 t2 : List UInt8) : Type := {x : (List UInt32 × List UInt8) × (List UInt32 × List UInt8) // MixOf t1 x.1.1 x.1.2 ∧ MixOf t2 x.2.1 x.2.2}
def keyS (k : ByteArray) : ByteArray := if 64 < k.size then shaB k else k
theorem keyS_list (k : ByteArray) : (keyS k).data.toList = hkey k.data.toList := by
  unfold keyS hkey
  rw [size_toList]
  split <;> rfl
theorem keyS_size (k : ByteArray) : (keyS k).size ≤ 64 := by rw [← size_toList, keyS_list]; exact hkey_len _
def zmix : List Value := wv (List.replicate 8 0) ++ (bv (List.replicate 64 0) ++ [.int .i64 0, .int .u64 0, .bool false])
theorem pk_at (l : List UInt8) (c : UInt8) (i : Nat) (hi : i < l.length) : (pk l c i ++ l.drop i).getD i 0 = l.getD i 0 ∧ (pk l c i ++ l.drop i).set i (l.getD i 0 ^^^ c) = pk l c (i + 1) ++ l.drop (i + 1) := by
  have hD : l.drop i = l.getD i 0 :: l.drop (i + 1) := by
    rw [List.drop_eq_getElem_cons hi, List.getD_eq_getElem?_getD, List.getElem?_eq_getElem hi]; rfl
  have hl := pk_len l c i
  constructor
  · rw [hD, List.getD_eq_getElem?_getD, List.getElem?_append_right (by omega), hl, Nat.sub_self]; rfl
  · rw [hD, List.set_append_right _ _ (by omega), hl, Nat.sub_self, List.set_cons_zero, pk_snoc, List.append_assoc]; rfl
set_option maxHeartbeats 4000000 in
theorem pads_spec (q : View) (k : ByteArray) (hk : k.size ≤ 100000000000) :
    FnX Try.prog q 67 [.string k] [] (fun x : Mixes (pk (hkey k.data.toList) 0x36 64) (pk (hkey k.data.toList) 0x5c 64) => .tuple #[.agg ⟨mixR x.1.1.1 x.1.1.2 0 64⟩, .agg ⟨mixR x.1.2.1 x.1.2.2 0 64⟩]) fun _ => [] := by
  have hks := keyS_size k
  have hkl := keyS_list k
  (first | refine FnD.go Try.call67 Try.func67 rfl rfl rfl ?_ | refine FnX.go Try.call67 Try.func67 rfl rfl rfl ?_)
  (repeat (first | refine gw ?_ | refine g ?_))
  refine s_alloc fun r2 => ?_
  refine s_ceq r2 zmix ?_ ?_
  · rfl
  (repeat (first | refine gw ?_ | refine g ?_))
  refine s_alloc fun r3 => ?_
  refine s_ceq r3 zmix ?_ ?_
  · rfl
  (repeat (first | refine gw ?_ | refine g ?_))
  refine run_cuti (X := Unit) (fun _ => True) (fun _ => [(0, .string (keyS k)), (2, .pointer (some ⟨r2, 0, none⟩)), (3, .pointer (some ⟨r3, 0, none⟩))]) (fun _ => [cells r3 92 ⟨zmix⟩, cells r2 92 ⟨zmix⟩]) ?_ fun _ _ => ?_
  · unfold keyS
    refine run_cond_dec rfl ?_ ?_
    · intro h
      rw [if_pos (by omega)]
      (repeat (first | refine gw ?_ | refine g ?_))
      refine s_call (sum_spec q k hk) ?_
      (repeat (first | refine gw ?_ | refine g ?_))
      exact run_stop_loop () trivial fct shut
    · intro h
      rw [if_neg (by omega)]
      (repeat (first | refine gw ?_ | refine g ?_))
      exact run_stop_loop () trivial fct shut
  obtain ⟨KS, hKS⟩ : ∃ KS, KS = keyS k := ⟨_, rfl⟩
  rw [← hKS] at hks hkl ⊢
  rw [← hkl]
  obtain ⟨L, hL⟩ : ∃ L, L = KS.data.toList ++ List.replicate (64 - KS.size) 0 := ⟨_, rfl⟩
  have hLl : L.length = 64 := by rw [hL, List.length_append, size_toList, List.length_replicate]; omega
  have hp1 : pk KS.data.toList 0x36 64 = pk L 0x36 64 := by rw [hL, pk_zeros]
  have hp2 : pk KS.data.toList 0x5c 64 = pk L 0x5c 64 := by rw [hL, pk_zeros]
  rw [hp1, hp2]
  (repeat (first | refine gw ?_ | refine g ?_))
  refine s_alloc fun px => ?_
  refine s_ceq px (bv (List.replicate 64 0)) ?_ ?_
  · rfl
  (repeat (first | refine gw ?_ | refine g ?_))
  refine s_alloc fun py => ?_
  refine s_ceq py (bv (List.replicate 64 0)) ?_ ?_
  · rfl
  (repeat (first | refine gw ?_ | refine g ?_))
  refine s_slicearr (kk := 1) 0 ?_
  (repeat (first | refine gw ?_ | refine g ?_))
  refine s_copys KS.size ?_ ?_
  · omega
  refine s_ceq px (bv (pk L 0x36 0 ++ L.drop 0)) ?_ ?_
  · rw [← size_toList KS, List.take_length]
    show putAt _ 0 (bv _) = bv (L.drop 0)
    rw [List.drop_zero, hL]
    unfold putAt
    rw [List.take_zero, List.nil_append, Nat.zero_add, bv_length, bv_append, ← size_toList KS]
    congr 1
    unfold bv
    rw [← List.map_drop, List.drop_replicate]
  (repeat (first | refine gw ?_ | refine g ?_))
  refine s_ceq py (bv (pk L 0x5c 0 ++ List.replicate (64 - 0) 0)) ?_ ?_
  · rfl
  refine run_cutI (X := Unit) (fun _ => True) (fun _ => [(4, .pointer (some ⟨px, 0, none⟩)), (5, .pointer (some ⟨py, 0, none⟩)), (2, .pointer (some ⟨r2, 0, none⟩)), (3, .pointer (some ⟨r3, 0, none⟩))]) (fun _ => [cells px 89 ⟨bv (pk L 0x36 64)⟩, cells py 89 ⟨bv (pk L 0x5c 64)⟩, cells r3 92 ⟨zmix⟩, cells r2 92 ⟨zmix⟩]) ?_ fun _ _ => ?_
  · refine run_loopI (X := Nat) (fun i => i ≤ 64) (fun i => [(4, .pointer (some ⟨px, 0, none⟩)), (5, .pointer (some ⟨py, 0, none⟩)), (17, .int .i64 (i : Int)), (2, .pointer (some ⟨r2, 0, none⟩)), (3, .pointer (some ⟨r3, 0, none⟩))]) (fun i => [cells px 89 ⟨bv (pk L 0x36 i ++ L.drop i)⟩, cells py 89 ⟨bv (pk L 0x5c i ++ List.replicate (64 - i) 0)⟩, cells r3 92 ⟨zmix⟩, cells r2 92 ⟨zmix⟩]) (fun i => 64 - i) 0 (Nat.zero_le _) fct shut ?_
    intro i hi
    have hpl := pk_len L 0x5c i
    have hpl2 := pk_len L 0x36 i
    (repeat (first | refine gw ?_ | refine g ?_))
    refine run_cond_dec rfl ?_ ?_
    · intro h1
      obtain ⟨m, hm⟩ : ∃ m, 64 - i = m + 1 := ⟨63 - i, by omega⟩
      have hat := pk_at L 0x36 i (by omega)
      obtain ⟨X, hX⟩ : ∃ X, X = pk L 0x36 i ++ L.drop i := ⟨_, rfl⟩
      have hXl : X.length = 64 := by rw [hX, List.length_append, hpl2, List.length_drop]; omega
      rw [← hX] at hat ⊢
      (repeat (first | refine gw ?_ | refine g ?_))
      refine s_ceq py (bv (pk L 0x5c (i + 1) ++ List.replicate (64 - (i + 1)) 0)) ?_ ?_
      · rw [hm, set_end8 _ _ _ _ hpl, hat.1, pk_snoc, show 64 - (i + 1) = m by omega]; rfl
      refine s_ceq px (bv (pk L 0x36 (i + 1) ++ L.drop (i + 1))) ?_ ?_
      · rw [← hat.2, hat.1]; rfl
      (repeat (first | refine gw ?_ | refine g ?_))
      exact run_stop_loop (i + 1) ⟨by omega, by omega⟩ fct shut
    · intro h1
      obtain rfl : i = 64 := by omega
      (repeat (first | refine gw ?_ | refine g ?_))
      refine s_ceq px (bv (pk L 0x36 64)) ?_ ?_
      · rw [List.drop_eq_nil_of_le (by omega), List.append_nil]
      refine s_ceq py (bv (pk L 0x5c 64)) ?_ ?_
      · rw [Nat.sub_self, List.replicate_zero, List.append_nil]
      exact run_stop_loop () trivial fct shut
  obtain ⟨t1, ht1⟩ : ∃ t1, t1 = pk L 0x36 64 := ⟨_, rfl⟩
  obtain ⟨t2, ht2⟩ : ∃ t2, t2 = pk L 0x5c 64 := ⟨_, rfl⟩
  have l1 : t1.length = 64 := by rw [ht1, pk_len]
  have l2 : t2.length = 64 := by rw [ht2, pk_len]
  rw [← ht1, ← ht2]
  (repeat (first | refine gw ?_ | refine g ?_))
  refine s_callx (mixnew_spec q) fun b1 => ?_
  (repeat (first | refine gw ?_ | refine g ?_))
  refine s_callx (mixnew_spec q) fun b2 => ?_
  (repeat (first | refine gw ?_ | refine g ?_))
  refine s_slicearr (kk := 1) 0 ?_
  (repeat (first | refine gw ?_ | refine g ?_))
  refine s_stringc (m := 64) (o := 0) (c := ⟨bv t1⟩) (l := t1) l1 ?_ ?_
  · show ((bv t1).drop 0).take 64 = _
    rw [List.drop_zero, List.take_of_length_le (by rw [bv_length]; omega)]
  (repeat (first | refine gw ?_ | refine g ?_))
  have c1 := feed_spec q b1 [] H0 (List.replicate 64 0) MixOf.nil ⟨t1.toArray⟩ (by show 0 + t1.toArray.size ≤ _; rw [List.size_toArray]; omega)
  rw [show ([] : List UInt8).length % 64 = 0 from rfl, show ([] : List UInt8).length = 0 from rfl] at c1
  refine s_callx c1 fun x => ?_
  obtain ⟨⟨st1, part1⟩, h1⟩ := x
  dsimp only at h1 ⊢
  have e1 : [] ++ (⟨t1.toArray⟩ : ByteArray).data.toList = t1 := rfl
  rw [e1] at h1 ⊢
  rw [l1]
  (repeat (first | refine gw ?_ | refine g ?_))
  refine s_slicearr (kk := 1) 0 ?_
  (repeat (first | refine gw ?_ | refine g ?_))
  refine s_stringc (m := 64) (o := 0) (c := ⟨bv t2⟩) (l := t2) l2 ?_ ?_
  · show ((bv t2).drop 0).take 64 = _
    rw [List.drop_zero, List.take_of_length_le (by rw [bv_length]; omega)]
  (repeat (first | refine gw ?_ | refine g ?_))
  have c2 := feed_spec q b2 [] H0 (List.replicate 64 0) MixOf.nil ⟨t2.toArray⟩ (by show 0 + t2.toArray.size ≤ _; rw [List.size_toArray]; omega)
  rw [show ([] : List UInt8).length % 64 = 0 from rfl, show ([] : List UInt8).length = 0 from rfl] at c2
  refine s_callx c2 fun x => ?_
  obtain ⟨⟨st2, part2⟩, h2⟩ := x
  dsimp only at h2 ⊢
  have e2 : [] ++ (⟨t2.toArray⟩ : ByteArray).data.toList = t2 := rfl
  rw [e2] at h2 ⊢
  rw [l2]
  have a1 : (mixR st1 part1 (64 % 64) 64).length = 75 := mixR_len (by rw [h1.st]; exact stateN_len _ _) h1.pl
  have a2 : (mixR st2 part2 (64 % 64) 64).length = 75 := mixR_len (by rw [h2.st]; exact stateN_len _ _) h2.pl
  (repeat (first | refine gw ?_ | refine g ?_))
  refine d_start [cells r3 92 ⟨zmix⟩, cells r2 92 ⟨zmix⟩] ?_
  (first | refine d_pure 0 ?_)
  (first | refine d_pure 1 ?_)
  refine d_getall 2 a1 ?_
  (first | refine d_pure 3 ?_)
  (first | refine d_pure 4 ?_)
  refine d_getall 5 a2 ?_
  refine d_via1 6 (h1 := by refine s_putall (h1 := mixR_one _ _ _ _) (hz := a1) (hi := a1) ?_; exact run_fin1) (h := ?_)
  refine d_via1 7 (h1 := by refine s_putall (h1 := mixR_one _ _ _ _) (hz := a2) (hi := a2) ?_; exact run_fin1) (h := ?_)
  refine d_done ?_
  (repeat (first | refine gw ?_ | refine g ?_))
  exact s_ret2 (imp_RX ⟨((st1, part1), (st2, part2)), h1, h2⟩ rfl shut) (h1 := res_cell tabOk rfl rfl rfl (by (repeat (first | (with_reducible exact At.head) | apply At.tail))) a1) (h2 := res_cell tabOk rfl rfl rfl (by (repeat (first | (with_reducible exact At.head) | apply At.tail))) a2)
theorem both_spec (q : View) (t1 t2 : List UInt8) (st1 st2 : List UInt32) (part1 part2 : List UInt8) (h1 : MixOf t1 st1 part1) (h2 : MixOf t2 st2 part2) (l1 : t1.length = 64) (l2 : t2.length = 64) (s : ByteArray) (hs : s.size ≤ 10000000000) :
    FnD Try.prog q 68 [.agg ⟨mixR st1 part1 0 64⟩, .agg ⟨mixR st2 part2 0 64⟩, .string s] [] (.string (bl (sha (t2 ++ sha (t1 ++ s.data.toList))))) [] := by
  have hsl := size_toList s
  (first | refine FnD.go Try.call68 Try.func68 rfl rfl rfl ?_ | refine FnX.go Try.call68 Try.func68 rfl rfl rfl ?_)
  (repeat (first | refine gw ?_ | refine g ?_))
  refine s_box fun p1 => ?_
  (repeat (first | refine gw ?_ | refine g ?_))
  refine s_box fun p2 => ?_
  (repeat (first | refine gw ?_ | refine g ?_))
  have c1 := feed_spec q p1 t1 st1 part1 h1 s (by omega)
  rw [l1] at c1
  refine s_callx c1 fun x => ?_
  obtain ⟨⟨st3, part3⟩, h3⟩ := x
  dsimp only at h3 ⊢
  (repeat (first | refine gw ?_ | refine g ?_))
  refine s_call (told_spec q p1 _ st3 part3 h3 (by rw [List.length_append]; omega)) ?_
  (repeat (first | refine gw ?_ | refine g ?_))
  obtain ⟨u, hu⟩ : ∃ u, u = sha (t1 ++ s.data.toList) := ⟨_, rfl⟩
  have hul : u.length = 32 := by rw [hu, sha_len]
  rw [← hu]
  have c2 := feed_spec q p2 t2 st2 part2 h2 ⟨u.toArray⟩ (by show t2.length + u.toArray.size ≤ _; rw [List.size_toArray]; omega)
  rw [l2] at c2
  refine s_callx c2 fun x => ?_
  obtain ⟨⟨st4, part4⟩, h4⟩ := x
  dsimp only at h4 ⊢
  (repeat (first | refine gw ?_ | refine g ?_))
  refine s_call (told_spec q p2 _ st4 part4 h4 (by rw [List.length_append]; show t2.length + u.length ≤ _; omega)) ?_
  (repeat (first | refine gw ?_ | refine g ?_))
  exact run_ret rfl (imp_RD rfl shut)
end Go.Proofs.Ytibookgcaboldaa.V
namespace Go.Proofs.Ytibookgcaboldaa.V
open Go.Proofs.Ytibookgcaboldaa.VL Go.Proofs.Ytibookgcaboldaa.VL.Sha
attribute [local irreducible] Run
theorem xor_at (a b : List UInt8) (i : Nat) (hi : i < a.length) : (xorL a b i ++ a.drop i).getD i 0 = a.getD i 0 ∧ (xorL a b i ++ a.drop i).set i (a.getD i 0 ^^^ b.getD i 0) = xorL a b (i + 1) ++ a.drop (i + 1) := by
  have hD : a.drop i = a.getD i 0 :: a.drop (i + 1) := by
    rw [List.drop_eq_getElem_cons hi, List.getD_eq_getElem?_getD, List.getElem?_eq_getElem hi]; rfl
  have hl := xorL_len a b i
  constructor
  · rw [hD, List.getD_eq_getElem?_getD, List.getElem?_append_right (by omega), hl, Nat.sub_self]; rfl
  · rw [hD, List.set_append_right _ _ (by omega), hl, Nat.sub_self, List.set_cons_zero, xorL_snoc, List.append_assoc]; rfl
def okR (rounds : Int) : Prop := 1 ≤ rounds ∧ rounds ≤ 1000
set_option maxHeartbeats 8000000 in
theorem sumStretch_spec (q : View) (k s : ByteArray) (rounds : Nat) (hk : k.size ≤ 100000000000) (hs : s.size ≤ 1000000000) (hr : okR rounds) : FnD Try.prog q 39 [.string k, .string s, .int .i64 (rounds : Int), .int .i64 32] [] (.tuple #[.string (stretchB k s rounds), .int .i64 0]) [] := by
  obtain ⟨hr1, hr2⟩ := hr
  obtain ⟨rr, rfl⟩ : ∃ rr, rounds = rr + 1 := ⟨rounds - 1, by omega⟩
  obtain ⟨E, hE⟩ : ∃ E, E = tN k.data.toList s.data.toList rr := ⟨_, rfl⟩
  have hEl : E.length = 32 := by rw [hE]; exact tN_len _ _ _
  have hEb : stretchB k s (rr + 1) = bl E := by rw [hE]; rfl
  rw [hEb]
  (first | refine FnD.go Try.call39 Try.func39 rfl rfl rfl ?_ | refine FnX.go Try.call39 Try.func39 rfl rfl rfl ?_)
  (repeat (first | refine gw ?_ | refine g ?_ | refine s_flat 16 [(.pure, [0, 1, 2, 4, 5, 6]), (.mem true, [3]), (.pure, [7, 8]), (.mem false, [9])] ?_))
  refine s_callx (pads_spec q k (by omega)) fun x => ?_
  obtain ⟨⟨⟨st1, part1⟩, ⟨st2, part2⟩⟩, h1, h2⟩ := x
  dsimp only at h1 h2 ⊢
  have l1 := pk_len (hkey (k).data.toList) 0x36 64
  have l2 := pk_len (hkey (k).data.toList) 0x5c 64
  have a1 : (mixR st1 part1 0 64).length = 75 := mixR_len (by rw [h1.st]; exact stateN_len _ _) h1.pl
  have a2 : (mixR st2 part2 0 64).length = 75 := mixR_len (by rw [h2.st]; exact stateN_len _ _) h2.pl
  have z1 := mixR_one st1 part1 0 64
  have z2 := mixR_one st2 part2 0 64
  obtain ⟨N1, hN1⟩ : ∃ N1, N1 = mixR st1 part1 0 64 := ⟨_, rfl⟩
  obtain ⟨N2, hN2⟩ : ∃ N2, N2 = mixR st2 part2 0 64 := ⟨_, rfl⟩
  have B : ∀ s : ByteArray, s.size ≤ 10000000000 → FnD Try.prog q 68 [.agg ⟨N1⟩, .agg ⟨N2⟩, .string s] [] (.string (bl (mac (k).data.toList s.data.toList))) [] := fun s hs => by
    rw [hN1, hN2]
    exact both_spec q _ _ st1 st2 part1 part2 h1 h2 l1 l2 s hs
  rw [← hN1] at a1 z1 ⊢
  rw [← hN2] at a2 z2 ⊢
  clear hN1 hN2 h1 h2 l1 l2
  (repeat (first | refine gw ?_ | refine g ?_ | refine s_flat 16 [(.pure, [0, 1, 2, 4, 5, 6]), (.mem true, [3]), (.pure, [7, 8]), (.mem false, [9])] ?_))
  refine s_alloc fun m1 => ?_
  (repeat (first | refine gw ?_ | refine g ?_ | refine s_flat 16 [(.pure, [0, 1, 2, 4, 5, 6]), (.mem true, [3]), (.pure, [7, 8]), (.mem false, [9])] ?_))
  refine s_alloc fun m2 => ?_
  (repeat (first | refine gw ?_ | refine g ?_ | refine s_flat 16 [(.pure, [0, 1, 2, 4, 5, 6]), (.mem true, [3]), (.pure, [7, 8]), (.mem false, [9])] ?_))
  refine s_putall (h1 := z1) (hz := a1) (hi := by rw [a1]; rfl) ?_
  (repeat (first | refine gw ?_ | refine g ?_ | refine s_flat 16 [(.pure, [0, 1, 2, 4, 5, 6]), (.mem true, [3]), (.pure, [7, 8]), (.mem false, [9])] ?_))
  refine s_putall (h1 := z2) (hz := a2) (hi := by rw [a2]; rfl) ?_
  (repeat (first | refine gw ?_ | refine g ?_ | refine s_flat 16 [(.pure, [0, 1, 2, 4, 5, 6]), (.mem true, [3]), (.pure, [7, 8]), (.mem false, [9])] ?_))
  refine run_cutI (X := Option Addr × Nat) (fun _ => True) (fun x => [(12, .slice x.1 32 x.2), (3, .int .i64 32)]) (fun x => [sl x.1 32 x.2 5 1 (bv E)]) ?_ fun x _ => ?_
  · refine run_loopI (X := Nat × Option Addr × Nat) (fun x => x.1 ≤ 1) (fun x => [(1, .string s), (2, .int .i64 ((rr + 1 : Nat) : Int)), (3, .int .i64 32), (10, .pointer (some ⟨m1, 0, none⟩)), (11, .pointer (some ⟨m2, 0, none⟩)), (12, .slice x.2.1 (32 * x.1) x.2.2), (13, .int .i64 ((1 + x.1 : Nat) : Int))]) (fun x => [sl x.2.1 (32 * x.1) x.2.2 5 1 (bv (E.take (32 * x.1))), cells m1 92 ⟨N1⟩, cells m2 92 ⟨N2⟩]) (fun x => 1 - x.1) (0, none, 0) (Nat.zero_le _) fct shut ?_
    intro ⟨i, p, c⟩ hi
    dsimp only at *
    (repeat (first | refine gw ?_ | refine g ?_ | refine s_flat 16 [(.pure, [0, 1, 2, 4, 5, 6]), (.mem true, [3]), (.pure, [7, 8]), (.mem false, [9])] ?_))
    refine run_cond_dec rfl ?_ ?_
    · intro h1
      obtain rfl : i = 0 := by omega
      (repeat (first | refine gw ?_ | refine g ?_ | refine s_flat 16 [(.pure, [0, 1, 2, 4, 5, 6]), (.mem true, [3]), (.pure, [7, 8]), (.mem false, [9])] ?_))
      refine s_built fun rb => ?_
      (repeat (first | refine gw ?_ | refine g ?_ | refine s_flat 16 [(.pure, [0, 1, 2, 4, 5, 6]), (.mem true, [3]), (.pure, [7, 8]), (.mem false, [9])] ?_))
      refine s_stringc (m := 4) (o := 0) (l := [0, 0, 0, 1]) rfl rfl ?_
      have hz2 : (⟨[(0 : UInt8), 0, 0, 1].toArray⟩ : ByteArray).size = 4 := rfl
      have hz3 : (s ++ ⟨[(0 : UInt8), 0, 0, 1].toArray⟩).size = s.size + 4 := by rw [ByteArray.size_append, hz2]
      have cb := B (s ++ ⟨[(0 : UInt8), 0, 0, 1].toArray⟩) (by omega)
      have el : mac k.data.toList (s ++ ⟨[(0 : UInt8), 0, 0, 1].toArray⟩).data.toList = uN k.data.toList s.data.toList 0 := by
        rw [app_list]; rfl
      rw [el] at cb
      (repeat (first | refine gw ?_ | refine g ?_ | refine s_flat 16 [(.pure, [0, 1, 2, 4, 5, 6]), (.mem true, [3]), (.pure, [7, 8]), (.mem false, [9])] ?_))
      refine s_call cb ?_
      (repeat (first | refine gw ?_ | refine g ?_ | refine s_flat 16 [(.pure, [0, 1, 2, 4, 5, 6]), (.mem true, [3]), (.pure, [7, 8]), (.mem false, [9])] ?_))
      refine s_bytes fun rt => ?_
      rw [bl_size, uN_len, bl_list, show uN k.data.toList s.data.toList 0 = tN k.data.toList s.data.toList 0 from rfl]
      (repeat (first | refine gw ?_ | refine g ?_ | refine s_flat 16 [(.pure, [0, 1, 2, 4, 5, 6]), (.mem true, [3]), (.pure, [7, 8]), (.mem false, [9])] ?_))
      obtain ⟨rp, rc⟩ := rt
      dsimp only
      refine s_ptr rp (h0 := by decide) (fun tb eb _ _ => ?_)
      subst eb
      (repeat (first | refine gw ?_ | refine g ?_ | refine s_flat 16 [(.pure, [0, 1, 2, 4, 5, 6]), (.mem true, [3]), (.pure, [7, 8]), (.mem false, [9])] ?_))
      refine run_cutI (X := Unit) (fun _ => True) (fun _ => [(1, .string s), (2, .int .i64 ((rr + 1 : Nat) : Int)), (3, .int .i64 32), (10, .pointer (some ⟨m1, 0, none⟩)), (11, .pointer (some ⟨m2, 0, none⟩)), (12, .slice p (32 * 0) c), (13, .int .i64 ((1 + 0 : Nat) : Int)), (15, .slice (some ⟨tb, 0, none⟩) 32 rc)]) (fun _ => [sl (some ⟨tb, 0, none⟩) 32 rc 5 1 (bv E), sl p (32 * 0) c 5 1 (bv (E.take (32 * 0))), cells m1 92 ⟨N1⟩, cells m2 92 ⟨N2⟩]) ?_ fun _ _ => ?_
      · refine run_loopI (X := Nat) (fun j => j ≤ rr) (fun j => [(1, .string s), (2, .int .i64 ((rr + 1 : Nat) : Int)), (3, .int .i64 32), (10, .pointer (some ⟨m1, 0, none⟩)), (11, .pointer (some ⟨m2, 0, none⟩)), (12, .slice p (32 * 0) c), (13, .int .i64 ((1 + 0 : Nat) : Int)), (14, .string (bl (uN k.data.toList s.data.toList j))), (15, .slice (some ⟨tb, 0, none⟩) 32 rc), (63, .int .i64 (((rr + 1 : Nat) : Int) - 1)), (64, .int .i64 (j : Int))]) (fun j => [sl (some ⟨tb, 0, none⟩) 32 rc 5 1 (bv (tN k.data.toList s.data.toList j)), sl p (32 * 0) c 5 1 (bv (E.take (32 * 0))), cells m1 92 ⟨N1⟩, cells m2 92 ⟨N2⟩]) (fun j => rr - j) 0 (Nat.zero_le _) fct shut ?_
        intro j hj
        (repeat (first | refine gw ?_ | refine g ?_ | refine s_flat 16 [(.pure, [0, 1, 2, 4, 5, 6]), (.mem true, [3]), (.pure, [7, 8]), (.mem false, [9])] ?_))
        refine run_cond_dec rfl ?_ ?_
        · intro h2
          have cb := B (bl (uN k.data.toList s.data.toList j)) (by rw [bl_size, uN_len]; decide)
          rw [bl_list, show mac k.data.toList (uN k.data.toList s.data.toList j) = uN k.data.toList s.data.toList (j + 1) from rfl] at cb
          (repeat (first | refine gw ?_ | refine g ?_ | refine s_flat 16 [(.pure, [0, 1, 2, 4, 5, 6]), (.mem true, [3]), (.pure, [7, 8]), (.mem false, [9])] ?_))
          refine s_call cb ?_
          obtain ⟨U, hU⟩ : ∃ U, U = uN k.data.toList s.data.toList (j + 1) := ⟨_, rfl⟩
          obtain ⟨Q, hQ⟩ : ∃ Q, Q = tN k.data.toList s.data.toList j := ⟨_, rfl⟩
          have hUl : U.length = 32 := by rw [hU, uN_len]
          have hQl : Q.length = 32 := by rw [hQ, tN_len]
          have hT : tN k.data.toList s.data.toList (j + 1) = xorL Q U 32 := by rw [hU, hQ]; rfl
          have hUz : (bl U).size = 32 := by rw [bl_size, hUl]
          rw [← hU, ← hQ]
          (repeat (first | refine gw ?_ | refine g ?_ | refine s_flat 16 [(.pure, [0, 1, 2, 4, 5, 6]), (.mem true, [3]), (.pure, [7, 8]), (.mem false, [9])] ?_))
          refine run_cutI (X := Unit) (fun _ => True) (fun _ => [(1, .string s), (2, .int .i64 ((rr + 1 : Nat) : Int)), (3, .int .i64 32), (10, .pointer (some ⟨m1, 0, none⟩)), (11, .pointer (some ⟨m2, 0, none⟩)), (12, .slice p (32 * 0) c), (13, .int .i64 ((1 + 0 : Nat) : Int)), (14, .string (bl U)), (15, .slice (some ⟨tb, 0, none⟩) 32 rc), (63, .int .i64 (((rr + 1 : Nat) : Int) - 1)), (64, .int .i64 (j : Int))]) (fun _ => [sl (some ⟨tb, 0, none⟩) 32 rc 5 1 (bv (xorL Q U 32)), sl p (32 * 0) c 5 1 (bv (E.take (32 * 0))), cells m1 92 ⟨N1⟩, cells m2 92 ⟨N2⟩]) ?_ fun _ _ => ?_
          · refine run_loopI (X := Nat) (fun a => a ≤ 32) (fun a => [(1, .string s), (2, .int .i64 ((rr + 1 : Nat) : Int)), (3, .int .i64 32), (10, .pointer (some ⟨m1, 0, none⟩)), (11, .pointer (some ⟨m2, 0, none⟩)), (12, .slice p (32 * 0) c), (13, .int .i64 ((1 + 0 : Nat) : Int)), (14, .string (bl U)), (15, .slice (some ⟨tb, 0, none⟩) 32 rc), (63, .int .i64 (((rr + 1 : Nat) : Int) - 1)), (64, .int .i64 (j : Int)), (71, .int .i64 32), (72, .int .i64 (a : Int))]) (fun a => [sl (some ⟨tb, 0, none⟩) 32 rc 5 1 (bv (xorL Q U a ++ Q.drop a)), sl p (32 * 0) c 5 1 (bv (E.take (32 * 0))), cells m1 92 ⟨N1⟩, cells m2 92 ⟨N2⟩]) (fun a => 32 - a) 0 (Nat.zero_le _) fct shut ?_
            intro a ha
            have hxl := xorL_len Q U a
            (repeat (first | refine gw ?_ | refine g ?_ | refine s_flat 16 [(.pure, [0, 1, 2, 4, 5, 6]), (.mem true, [3]), (.pure, [7, 8]), (.mem false, [9])] ?_))
            refine run_cond_dec rfl ?_ ?_
            · intro h3
              have hat := xor_at Q U a (by omega)
              obtain ⟨X, hX⟩ : ∃ X, X = xorL Q U a ++ Q.drop a := ⟨_, rfl⟩
              have hXl : X.length = 32 := by rw [hX, List.length_append, hxl, List.length_drop]; omega
              rw [← hX] at hat ⊢
              (repeat (first | refine gw ?_ | refine g ?_ | refine s_flat 16 [(.pure, [0, 1, 2, 4, 5, 6]), (.mem true, [3]), (.pure, [7, 8]), (.mem false, [9])] ?_))
              refine s_sbv ?_
              (repeat (first | refine gw ?_ | refine g ?_ | refine s_flat 16 [(.pure, [0, 1, 2, 4, 5, 6]), (.mem true, [3]), (.pure, [7, 8]), (.mem false, [9])] ?_))
              refine s_eq (ys := bv (xorL Q U (a + 1) ++ Q.drop (a + 1))) ?_ ?_
              · rw [← hat.2, hat.1]; rfl
              exact run_stop_loop (a + 1) ⟨by omega, by omega⟩ fct shut
            · intro h3
              obtain rfl : a = 32 := by omega
              (repeat (first | refine gw ?_ | refine g ?_ | refine s_flat 16 [(.pure, [0, 1, 2, 4, 5, 6]), (.mem true, [3]), (.pure, [7, 8]), (.mem false, [9])] ?_))
              refine s_eq (ys := bv (xorL Q U 32)) ?_ ?_
              · rw [List.drop_eq_nil_of_le (by omega), List.append_nil]
              exact run_stop_loop () trivial fct shut
          rw [← hT]
          (repeat (first | refine gw ?_ | refine g ?_ | refine s_flat 16 [(.pure, [0, 1, 2, 4, 5, 6]), (.mem true, [3]), (.pure, [7, 8]), (.mem false, [9])] ?_))
          exact run_stop_loop (j + 1) ⟨by omega, by omega⟩ (by rw [hU]; exact fct) shut
        · intro h2
          obtain rfl : j = rr := by omega
          rw [← hE]
          (repeat (first | refine gw ?_ | refine g ?_ | refine s_flat 16 [(.pure, [0, 1, 2, 4, 5, 6]), (.mem true, [3]), (.pure, [7, 8]), (.mem false, [9])] ?_))
          exact run_stop_loop () trivial fct shut
      (repeat (first | refine gw ?_ | refine g ?_ | refine s_flat 16 [(.pure, [0, 1, 2, 4, 5, 6]), (.mem true, [3]), (.pure, [7, 8]), (.mem false, [9])] ?_))
      refine s_app (m := 32) (news := bv E) 1 1 (reads_slice At.head) (hnl := by rw [bv_length, hEl]) (h1 := bv_one _) (hxl := by rfl) fun r2 => ?_
      refine s_eq (p := r2.1) (ys := bv (E.take 32)) ?_ ?_
      · have e32 : E.take 32 = E := List.take_of_length_le (by omega)
        rw [e32]; rfl
      (repeat (first | refine gw ?_ | refine g ?_ | refine s_flat 16 [(.pure, [0, 1, 2, 4, 5, 6]), (.mem true, [3]), (.pure, [7, 8]), (.mem false, [9])] ?_))
      exact run_stop_loop (1, r2.1, r2.2) ⟨by dsimp only; omega, by dsimp only; omega⟩ fct shut
    · intro h1
      obtain rfl : i = 1 := by omega
      (repeat (first | refine gw ?_ | refine g ?_ | refine s_flat 16 [(.pure, [0, 1, 2, 4, 5, 6]), (.mem true, [3]), (.pure, [7, 8]), (.mem false, [9])] ?_))
      refine run_stop_loop (p, c) trivial fct ?_
      dsimp only
      have e32 : E.take (32 * 1) = E := List.take_of_length_le (by omega)
      rw [e32]
      exact shut
  obtain ⟨p, c⟩ := x
  dsimp only
  refine s_ptr p (h0 := by decide) (fun pb eb _ _ => ?_)
  subst eb
  (repeat (first | refine gw ?_ | refine g ?_ | refine s_flat 16 [(.pure, [0, 1, 2, 4, 5, 6]), (.mem true, [3]), (.pure, [7, 8]), (.mem false, [9])] ?_))
  refine s_to 91 (w := .slice (some ⟨pb, 0, none⟩) 32 c) rfl ?_
  refine s_string (l := E) ?_
  (repeat (first | refine gw ?_ | refine g ?_ | refine s_flat 16 [(.pure, [0, 1, 2, 4, 5, 6]), (.mem true, [3]), (.pure, [7, 8]), (.mem false, [9])] ?_))
  exact run_ret rfl (imp_RD rfl shut)
end Go.Proofs.Ytibookgcaboldaa.V
namespace Go.Proofs.Ytibookgcaboldaa.V
open Go.Proofs.Ytibookgcaboldaa.VL Go.Proofs.Ytibookgcaboldaa.VL.Sha
attribute [local irreducible] Run
end Go.Proofs.Ytibookgcaboldaa.V
namespace Go.Proofs.Ytibookgcaboldaa.V
open Go.Proofs.Ytibookgcaboldaa.VL Go.Proofs.Ytibookgcaboldaa.VL.Sha
attribute [local irreducible] Run
end Go.Proofs.Ytibookgcaboldaa.V
