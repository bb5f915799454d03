/- More rules of the walk: all of a block as a value, a slice of bytes as a text, inside a drawn region. -/
import Derived.Test.YtajndpddlpnbkaaVB
import Derived.Test.YtajndpddlpnbkaaSHa
import Derived.Test.YtajndpddlpnbkaaSHx
import Derived.Test.YtajndpddlpnbkaaSHb
set_option maxRecDepth 10000
set_option linter.unusedVariables false
namespace Go.Proofs.Ytajndpddlpnbkaa.V
open Go.Proofs.Ytajndpddlpnbkaa.VL Go.Proofs.Ytajndpddlpnbkaa.VL.View Go.RowKit
section
variable {q : View} {fn : Func} {R : Value → HProp} {k kt : List It} {σ σ' : Facts} {A A' L : List HProp} {f : HProp → List HProp} {dst : Option Tmp} {type : TypeId} {gd : Option (Nat × Bool)} {S : List HProp} {ops : Array Oper} {mm : Nat} {listed : Array Bool} {pos : String} {after : Array Edge}
theorem op_getall [DS] {P : Program} {T : Nat → Option TyI} {n : Nat} (hT : TabOk P T) {t : Nat} {x : Operand} {b : Nat} {ti : TyI} {tc : TypeId} {l : List Value} (hx : ev σ x = some (.pointer (some ⟨b, 0, none⟩))) (ht : T t = some ti) (ha : isAggD ti.und = true) (hA : At A (cells b tc ⟨l⟩) f) (hz : l.length = ti.size) :
    OpQ P q n σ (.load t x) A (.agg ⟨l⟩) := by
  have := op_load_agg (P := P) (q := q) (n := n) hT hx ht ha hA (by show 0 + ti.size ≤ l.toArray.size; simp; omega)
  have e : (⟨l⟩ : Array Value).extract 0 (0 + ti.size) = ⟨l⟩ := by
    apply Array.ext'
    simp
    rw [← hz, List.take_length]
  rw [e] at this
  exact this
theorem d_getall {_ : DS} (ii : Nat) {t : Nat} {x : Operand} {b : Nat} {ti : TyI} {tc : TypeId} {l : List Value} (hz : l.length = ti.size) (hkk : RunA Try.prog q fn R kt ops mm (listed.setIfInBounds ii true) S σ' A) (zi : nthG ops.toList ii = some ⟨dst, .load t x, type, pos, after, gd⟩ := by exact rfl) (zn : Region.noSelect ops = true := by kernel_rfl) (zf : Region.free .any ops listed ii = true := by kernel_rfl) (zr : (Region.ready .any ops listed).contains ii = true := by kernel_rfl) (zg : guardOf σ (ops.toList.map (·.dst)) gd = some true := by exact rfl) (hx : ev σ x = some (.pointer (some ⟨b, 0, none⟩)) := by exact rfl) (ht : lookupT tab t = some ti := by exact rfl) (ha : isAggD ti.und = true := by exact rfl) (hA : At S (cells b tc ⟨l⟩) f := by (repeat (first | (with_reducible exact At.head) | apply At.tail))) (hp : putF fn.ntmps dst (.agg ⟨l⟩) σ = some σ' := by exact rfl) : RunA Try.prog q fn R kt ops (mm + 1) listed S σ A :=
  any_look ii (nthG_arr zi) zn zf zr zg (op_getall tabOk hx ht ha hA hz) hp hkk
theorem d_strs {_ : DS} (ii : Nat) {src dt e : Nat} {x : Operand} {si di ei : TyI} {p : Option Addr} {m cap : Nat} {l : List UInt8} (hkk : RunA Try.prog q fn R kt ops mm (listed.setIfInBounds ii true) S σ' A) (zi : nthG ops.toList ii = some ⟨dst, .convert src dt x, type, pos, after, gd⟩ := by exact rfl) (zn : Region.noSelect ops = true := by kernel_rfl) (zf : Region.free .any ops listed ii = true := by kernel_rfl) (zr : (Region.ready .any ops listed).contains ii = true := by kernel_rfl) (zg : guardOf σ (ops.toList.map (·.dst)) gd = some true := by exact rfl) (hs : lookupT tab src = some si := by exact rfl) (hsu : si.und = .slice e := by exact rfl) (hd : lookupT tab dt = some di := by exact rfl) (hdu : di.und = .string := by exact rfl) (he : lookupT tab e = some ei := by exact rfl) (heu : ei.und = .int .u8 := by exact rfl) (hx : ev σ x = some (.slice p m cap) := by exact rfl) (hA : At S (sl p m cap e 1 (bv l)) f := by (repeat (first | (with_reducible exact At.head) | apply At.tail))) (hp : putF fn.ntmps dst (.string ⟨l.toArray⟩) σ = some σ' := by exact rfl) : RunA Try.prog q fn R kt ops (mm + 1) listed S σ A :=
  any_look ii (nthG_arr zi) zn zf zr zg (op_string tabOk hs hsu hd hdu he heu hx hA) hp hkk
end
end Go.Proofs.Ytajndpddlpnbkaa.V
namespace Go.Proofs.Ytajndpddlpnbkaa.V
open Go.Proofs.Ytajndpddlpnbkaa.VL Go.Proofs.Ytajndpddlpnbkaa.VL.Sha
attribute [local irreducible] Run
/-- Two mixes. -/
abbrev Mixes (t1 t2 : List UInt8) : Type := {x : (List UInt32 × List UInt8) × (List UInt32 × List UInt8) // MixOf t1 x.1.1 x.1.2 ∧ MixOf t2 x.2.1 x.2.2}
def keyS (k : ByteArray) : ByteArray := if 64 < k.size then shaB k else k
theorem keyS_list (k : ByteArray) : (keyS k).data.toList = hkey k.data.toList := by
  unfold keyS hkey
  rw [size_toList]
  split <;> rfl
theorem keyS_size (k : ByteArray) : (keyS k).size ≤ 64 := by rw [← size_toList, keyS_list]; exact hkey_len _
def zmix : List Value := wv (List.replicate 8 0) ++ (bv (List.replicate 64 0) ++ [.int .i64 0, .int .u64 0, .bool false])
theorem pk_at (l : List UInt8) (c : UInt8) (i : Nat) (hi : i < l.length) : (pk l c i ++ l.drop i).getD i 0 = l.getD i 0 ∧ (pk l c i ++ l.drop i).set i (l.getD i 0 ^^^ c) = pk l c (i + 1) ++ l.drop (i + 1) := by
  have hD : l.drop i = l.getD i 0 :: l.drop (i + 1) := by
    rw [List.drop_eq_getElem_cons hi, List.getD_eq_getElem?_getD, List.getElem?_eq_getElem hi]; rfl
  have hl := pk_len l c i
  constructor
  · rw [hD, List.getD_eq_getElem?_getD, List.getElem?_append_right (by omega), hl, Nat.sub_self]; rfl
  · rw [hD, List.set_append_right _ _ (by omega), hl, Nat.sub_self, List.set_cons_zero, pk_snoc, List.append_assoc]; rfl
set_option maxHeartbeats 4000000 in
theorem pads_spec (q : View) (k : ByteArray) (hk : k.size ≤ 100000000000) :
    FnX Try.prog q 53 [.string k] [] (fun x : Mixes (pk (hkey k.data.toList) 0x36 64) (pk (hkey k.data.toList) 0x5c 64) => .tuple #[.agg ⟨mixR x.1.1.1 x.1.1.2 0 64⟩, .agg ⟨mixR x.1.2.1 x.1.2.2 0 64⟩]) fun _ => [] := by
  have hks := keyS_size k
  have hkl := keyS_list k
  (first | refine FnD.go Try.call53 Try.func53 rfl rfl rfl ?_ | refine FnX.go Try.call53 Try.func53 rfl rfl rfl ?_)
  (repeat (first | refine gw ?_ | refine g ?_))
  refine s_alloc fun r2 => ?_
  refine s_ceq r2 zmix ?_ ?_
  · rfl
  (repeat (first | refine gw ?_ | refine g ?_))
  refine s_alloc fun r3 => ?_
  refine s_ceq r3 zmix ?_ ?_
  · rfl
  (repeat (first | refine gw ?_ | refine g ?_))
  refine run_cuti (X := Unit) (fun _ => True) (fun _ => [(0, .string (keyS k)), (2, .pointer (some ⟨r2, 0, none⟩)), (3, .pointer (some ⟨r3, 0, none⟩))]) (fun _ => [cells r3 102 ⟨zmix⟩, cells r2 102 ⟨zmix⟩]) ?_ fun _ _ => ?_
  · unfold keyS
    refine run_cond_dec rfl ?_ ?_
    · intro h
      rw [if_pos (by omega)]
      (repeat (first | refine gw ?_ | refine g ?_))
      refine s_call (sum_spec q k hk) ?_
      (repeat (first | refine gw ?_ | refine g ?_))
      exact run_stop_loop () trivial fct shut
    · intro h
      rw [if_neg (by omega)]
      (repeat (first | refine gw ?_ | refine g ?_))
      exact run_stop_loop () trivial fct shut
  obtain ⟨KS, hKS⟩ : ∃ KS, KS = keyS k := ⟨_, rfl⟩
  rw [← hKS] at hks hkl ⊢
  rw [← hkl]
  obtain ⟨L, hL⟩ : ∃ L, L = KS.data.toList ++ List.replicate (64 - KS.size) 0 := ⟨_, rfl⟩
  have hLl : L.length = 64 := by rw [hL, List.length_append, size_toList, List.length_replicate]; omega
  have hp1 : pk KS.data.toList 0x36 64 = pk L 0x36 64 := by rw [hL, pk_zeros]
  have hp2 : pk KS.data.toList 0x5c 64 = pk L 0x5c 64 := by rw [hL, pk_zeros]
  rw [hp1, hp2]
  (repeat (first | refine gw ?_ | refine g ?_))
  refine s_alloc fun px => ?_
  refine s_ceq px (bv (List.replicate 64 0)) ?_ ?_
  · rfl
  (repeat (first | refine gw ?_ | refine g ?_))
  refine s_alloc fun py => ?_
  refine s_ceq py (bv (List.replicate 64 0)) ?_ ?_
  · rfl
  (repeat (first | refine gw ?_ | refine g ?_))
  refine s_slicearr (kk := 1) 0 ?_
  (repeat (first | refine gw ?_ | refine g ?_))
  refine s_copys KS.size ?_ ?_
  · omega
  refine s_ceq px (bv (pk L 0x36 0 ++ L.drop 0)) ?_ ?_
  · rw [← size_toList KS, List.take_length]
    show putAt _ 0 (bv _) = bv (L.drop 0)
    rw [List.drop_zero, hL]
    unfold putAt
    rw [List.take_zero, List.nil_append, Nat.zero_add, bv_length, bv_append, ← size_toList KS]
    congr 1
    unfold bv
    rw [← List.map_drop, List.drop_replicate]
  (repeat (first | refine gw ?_ | refine g ?_))
  refine s_ceq py (bv (pk L 0x5c 0 ++ List.replicate (64 - 0) 0)) ?_ ?_
  · rfl
  refine run_cutI (X := Unit) (fun _ => True) (fun _ => [(4, .pointer (some ⟨px, 0, none⟩)), (5, .pointer (some ⟨py, 0, none⟩)), (2, .pointer (some ⟨r2, 0, none⟩)), (3, .pointer (some ⟨r3, 0, none⟩))]) (fun _ => [cells px 99 ⟨bv (pk L 0x36 64)⟩, cells py 99 ⟨bv (pk L 0x5c 64)⟩, cells r3 102 ⟨zmix⟩, cells r2 102 ⟨zmix⟩]) ?_ fun _ _ => ?_
  · refine run_loopI (X := Nat) (fun i => i ≤ 64) (fun i => [(4, .pointer (some ⟨px, 0, none⟩)), (5, .pointer (some ⟨py, 0, none⟩)), (17, .int .i64 (i : Int)), (2, .pointer (some ⟨r2, 0, none⟩)), (3, .pointer (some ⟨r3, 0, none⟩))]) (fun i => [cells px 99 ⟨bv (pk L 0x36 i ++ L.drop i)⟩, cells py 99 ⟨bv (pk L 0x5c i ++ List.replicate (64 - i) 0)⟩, cells r3 102 ⟨zmix⟩, cells r2 102 ⟨zmix⟩]) (fun i => 64 - i) 0 (Nat.zero_le _) fct shut ?_
    intro i hi
    have hpl := pk_len L 0x5c i
    have hpl2 := pk_len L 0x36 i
    (repeat (first | refine gw ?_ | refine g ?_))
    refine run_cond_dec rfl ?_ ?_
    · intro h1
      obtain ⟨m, hm⟩ : ∃ m, 64 - i = m + 1 := ⟨63 - i, by omega⟩
      have hat := pk_at L 0x36 i (by omega)
      obtain ⟨X, hX⟩ : ∃ X, X = pk L 0x36 i ++ L.drop i := ⟨_, rfl⟩
      have hXl : X.length = 64 := by rw [hX, List.length_append, hpl2, List.length_drop]; omega
      rw [← hX] at hat ⊢
      (repeat (first | refine gw ?_ | refine g ?_))
      refine s_ceq py (bv (pk L 0x5c (i + 1) ++ List.replicate (64 - (i + 1)) 0)) ?_ ?_
      · rw [hm, set_end8 _ _ _ _ hpl, hat.1, pk_snoc, show 64 - (i + 1) = m by omega]; rfl
      refine s_ceq px (bv (pk L 0x36 (i + 1) ++ L.drop (i + 1))) ?_ ?_
      · rw [← hat.2, hat.1]; rfl
      (repeat (first | refine gw ?_ | refine g ?_))
      exact run_stop_loop (i + 1) ⟨by omega, by omega⟩ fct shut
    · intro h1
      obtain rfl : i = 64 := by omega
      (repeat (first | refine gw ?_ | refine g ?_))
      refine s_ceq px (bv (pk L 0x36 64)) ?_ ?_
      · rw [List.drop_eq_nil_of_le (by omega), List.append_nil]
      refine s_ceq py (bv (pk L 0x5c 64)) ?_ ?_
      · rw [Nat.sub_self, List.replicate_zero, List.append_nil]
      exact run_stop_loop () trivial fct shut
  obtain ⟨t1, ht1⟩ : ∃ t1, t1 = pk L 0x36 64 := ⟨_, rfl⟩
  obtain ⟨t2, ht2⟩ : ∃ t2, t2 = pk L 0x5c 64 := ⟨_, rfl⟩
  have l1 : t1.length = 64 := by rw [ht1, pk_len]
  have l2 : t2.length = 64 := by rw [ht2, pk_len]
  rw [← ht1, ← ht2]
  (repeat (first | refine gw ?_ | refine g ?_))
  refine s_callx (mixnew_spec q) fun b1 => ?_
  (repeat (first | refine gw ?_ | refine g ?_))
  refine s_callx (mixnew_spec q) fun b2 => ?_
  (repeat (first | refine gw ?_ | refine g ?_))
  refine s_slicearr (kk := 1) 0 ?_
  (repeat (first | refine gw ?_ | refine g ?_))
  refine s_stringc (m := 64) (o := 0) (c := ⟨bv t1⟩) (l := t1) l1 ?_ ?_
  · show ((bv t1).drop 0).take 64 = _
    rw [List.drop_zero, List.take_of_length_le (by rw [bv_length]; omega)]
  (repeat (first | refine gw ?_ | refine g ?_))
  have c1 := feed_spec q b1 [] H0 (List.replicate 64 0) MixOf.nil ⟨t1.toArray⟩ (by show 0 + t1.toArray.size ≤ _; rw [List.size_toArray]; omega)
  rw [show ([] : List UInt8).length % 64 = 0 from rfl, show ([] : List UInt8).length = 0 from rfl] at c1
  refine s_callx c1 fun x => ?_
  obtain ⟨⟨st1, part1⟩, h1⟩ := x
  dsimp only at h1 ⊢
  have e1 : [] ++ (⟨t1.toArray⟩ : ByteArray).data.toList = t1 := rfl
  rw [e1] at h1 ⊢
  rw [l1]
  (repeat (first | refine gw ?_ | refine g ?_))
  refine s_slicearr (kk := 1) 0 ?_
  (repeat (first | refine gw ?_ | refine g ?_))
  refine s_stringc (m := 64) (o := 0) (c := ⟨bv t2⟩) (l := t2) l2 ?_ ?_
  · show ((bv t2).drop 0).take 64 = _
    rw [List.drop_zero, List.take_of_length_le (by rw [bv_length]; omega)]
  (repeat (first | refine gw ?_ | refine g ?_))
  have c2 := feed_spec q b2 [] H0 (List.replicate 64 0) MixOf.nil ⟨t2.toArray⟩ (by show 0 + t2.toArray.size ≤ _; rw [List.size_toArray]; omega)
  rw [show ([] : List UInt8).length % 64 = 0 from rfl, show ([] : List UInt8).length = 0 from rfl] at c2
  refine s_callx c2 fun x => ?_
  obtain ⟨⟨st2, part2⟩, h2⟩ := x
  dsimp only at h2 ⊢
  have e2 : [] ++ (⟨t2.toArray⟩ : ByteArray).data.toList = t2 := rfl
  rw [e2] at h2 ⊢
  rw [l2]
  have a1 : (mixR st1 part1 (64 % 64) 64).length = 75 := mixR_len (by rw [h1.st]; exact stateN_len _ _) h1.pl
  have a2 : (mixR st2 part2 (64 % 64) 64).length = 75 := mixR_len (by rw [h2.st]; exact stateN_len _ _) h2.pl
  (repeat (first | refine gw ?_ | refine g ?_))
  refine d_start [cells r3 102 ⟨zmix⟩, cells r2 102 ⟨zmix⟩] ?_
  (first | refine d_pure 0 ?_)
  (first | refine d_pure 1 ?_)
  refine d_getall 2 a1 ?_
  (first | refine d_pure 3 ?_)
  (first | refine d_pure 4 ?_)
  refine d_getall 5 a2 ?_
  refine d_via1 6 (h1 := by refine s_putall (h1 := mixR_one _ _ _ _) (hz := a1) (hi := a1) ?_; exact run_fin1) (h := ?_)
  refine d_via1 7 (h1 := by refine s_putall (h1 := mixR_one _ _ _ _) (hz := a2) (hi := a2) ?_; exact run_fin1) (h := ?_)
  refine d_done ?_
  (repeat (first | refine gw ?_ | refine g ?_))
  exact s_ret2 (imp_RX ⟨((st1, part1), (st2, part2)), h1, h2⟩ rfl shut) (h1 := res_cell tabOk rfl rfl rfl (by (repeat (first | (with_reducible exact At.head) | apply At.tail))) a1) (h2 := res_cell tabOk rfl rfl rfl (by (repeat (first | (with_reducible exact At.head) | apply At.tail))) a2)
theorem both_spec (q : View) (t1 t2 : List UInt8) (st1 st2 : List UInt32) (part1 part2 : List UInt8) (h1 : MixOf t1 st1 part1) (h2 : MixOf t2 st2 part2) (l1 : t1.length = 64) (l2 : t2.length = 64) (s : ByteArray) (hs : s.size ≤ 10000000000) :
    FnD Try.prog q 54 [.agg ⟨mixR st1 part1 0 64⟩, .agg ⟨mixR st2 part2 0 64⟩, .string s] [] (.string (bl (sha (t2 ++ sha (t1 ++ s.data.toList))))) [] := by
  have hsl := size_toList s
  (first | refine FnD.go Try.call54 Try.func54 rfl rfl rfl ?_ | refine FnX.go Try.call54 Try.func54 rfl rfl rfl ?_)
  (repeat (first | refine gw ?_ | refine g ?_))
  refine s_box fun p1 => ?_
  (repeat (first | refine gw ?_ | refine g ?_))
  refine s_box fun p2 => ?_
  (repeat (first | refine gw ?_ | refine g ?_))
  have c1 := feed_spec q p1 t1 st1 part1 h1 s (by omega)
  rw [l1] at c1
  refine s_callx c1 fun x => ?_
  obtain ⟨⟨st3, part3⟩, h3⟩ := x
  dsimp only at h3 ⊢
  (repeat (first | refine gw ?_ | refine g ?_))
  refine s_call (told_spec q p1 _ st3 part3 h3 (by rw [List.length_append]; omega)) ?_
  (repeat (first | refine gw ?_ | refine g ?_))
  obtain ⟨u, hu⟩ : ∃ u, u = sha (t1 ++ s.data.toList) := ⟨_, rfl⟩
  have hul : u.length = 32 := by rw [hu, sha_len]
  rw [← hu]
  have c2 := feed_spec q p2 t2 st2 part2 h2 ⟨u.toArray⟩ (by show t2.length + u.toArray.size ≤ _; rw [List.size_toArray]; omega)
  rw [l2] at c2
  refine s_callx c2 fun x => ?_
  obtain ⟨⟨st4, part4⟩, h4⟩ := x
  dsimp only at h4 ⊢
  (repeat (first | refine gw ?_ | refine g ?_))
  refine s_call (told_spec q p2 _ st4 part4 h4 (by rw [List.length_append]; show t2.length + u.length ≤ _; omega)) ?_
  (repeat (first | refine gw ?_ | refine g ?_))
  exact run_ret rfl (imp_RD rfl shut)
end Go.Proofs.Ytajndpddlpnbkaa.V
namespace Go.Proofs.Ytajndpddlpnbkaa.V
open Go.Proofs.Ytajndpddlpnbkaa.VL Go.Proofs.Ytajndpddlpnbkaa.VL.Sha
attribute [local irreducible] Run
theorem xor_at (a b : List UInt8) (i : Nat) (hi : i < a.length) : (xorL a b i ++ a.drop i).getD i 0 = a.getD i 0 ∧ (xorL a b i ++ a.drop i).set i (a.getD i 0 ^^^ b.getD i 0) = xorL a b (i + 1) ++ a.drop (i + 1) := by
  have hD : a.drop i = a.getD i 0 :: a.drop (i + 1) := by
    rw [List.drop_eq_getElem_cons hi, List.getD_eq_getElem?_getD, List.getElem?_eq_getElem hi]; rfl
  have hl := xorL_len a b i
  constructor
  · rw [hD, List.getD_eq_getElem?_getD, List.getElem?_append_right (by omega), hl, Nat.sub_self]; rfl
  · rw [hD, List.set_append_right _ _ (by omega), hl, Nat.sub_self, List.set_cons_zero, xorL_snoc, List.append_assoc]; rfl
def okR (rounds : Int) : Prop := 1 ≤ rounds ∧ rounds ≤ 1000
set_option maxHeartbeats 8000000 in
theorem sumStretch_spec (q : View) (k s : ByteArray) (rounds : Nat) (hk : k.size ≤ 100000000000) (hs : s.size ≤ 1000000000) (hr : okR rounds) : FnD Try.prog q 27 [.string k, .string s, .int .i64 (rounds : Int), .int .i64 32] [] (.tuple #[.string (stretchB k s rounds), .int .i64 0]) [] := by
  obtain ⟨hr1, hr2⟩ := hr
  obtain ⟨rr, rfl⟩ : ∃ rr, rounds = rr + 1 := ⟨rounds - 1, by omega⟩
  obtain ⟨E, hE⟩ : ∃ E, E = tN k.data.toList s.data.toList rr := ⟨_, rfl⟩
  have hEl : E.length = 32 := by rw [hE]; exact tN_len _ _ _
  have hEb : stretchB k s (rr + 1) = bl E := by rw [hE]; rfl
  rw [hEb]
  (first | refine FnD.go Try.call27 Try.func27 rfl rfl rfl ?_ | refine FnX.go Try.call27 Try.func27 rfl rfl rfl ?_)
  (repeat (first | refine gw ?_ | refine g ?_ | refine s_flat 16 [(.pure, [0, 1, 2, 4, 5, 6]), (.mem true, [3]), (.pure, [7, 8]), (.mem false, [9])] ?_))
  refine s_callx (pads_spec q k (by omega)) fun x => ?_
  obtain ⟨⟨⟨st1, part1⟩, ⟨st2, part2⟩⟩, h1, h2⟩ := x
  dsimp only at h1 h2 ⊢
  have l1 := pk_len (hkey (k).data.toList) 0x36 64
  have l2 := pk_len (hkey (k).data.toList) 0x5c 64
  have a1 : (mixR st1 part1 0 64).length = 75 := mixR_len (by rw [h1.st]; exact stateN_len _ _) h1.pl
  have a2 : (mixR st2 part2 0 64).length = 75 := mixR_len (by rw [h2.st]; exact stateN_len _ _) h2.pl
  have z1 := mixR_one st1 part1 0 64
  have z2 := mixR_one st2 part2 0 64
  obtain ⟨N1, hN1⟩ : ∃ N1, N1 = mixR st1 part1 0 64 := ⟨_, rfl⟩
  obtain ⟨N2, hN2⟩ : ∃ N2, N2 = mixR st2 part2 0 64 := ⟨_, rfl⟩
  have B : ∀ s : ByteArray, s.size ≤ 10000000000 → FnD Try.prog q 54 [.agg ⟨N1⟩, .agg ⟨N2⟩, .string s] [] (.string (bl (mac (k).data.toList s.data.toList))) [] := fun s hs => by
    rw [hN1, hN2]
    exact both_spec q _ _ st1 st2 part1 part2 h1 h2 l1 l2 s hs
  rw [← hN1] at a1 z1 ⊢
  rw [← hN2] at a2 z2 ⊢
  clear hN1 hN2 h1 h2 l1 l2
  (repeat (first | refine gw ?_ | refine g ?_ | refine s_flat 16 [(.pure, [0, 1, 2, 4, 5, 6]), (.mem true, [3]), (.pure, [7, 8]), (.mem false, [9])] ?_))
  refine s_alloc fun m1 => ?_
  (repeat (first | refine gw ?_ | refine g ?_ | refine s_flat 16 [(.pure, [0, 1, 2, 4, 5, 6]), (.mem true, [3]), (.pure, [7, 8]), (.mem false, [9])] ?_))
  refine s_alloc fun m2 => ?_
  (repeat (first | refine gw ?_ | refine g ?_ | refine s_flat 16 [(.pure, [0, 1, 2, 4, 5, 6]), (.mem true, [3]), (.pure, [7, 8]), (.mem false, [9])] ?_))
  refine s_putall (h1 := z1) (hz := a1) (hi := by rw [a1]; rfl) ?_
  (repeat (first | refine gw ?_ | refine g ?_ | refine s_flat 16 [(.pure, [0, 1, 2, 4, 5, 6]), (.mem true, [3]), (.pure, [7, 8]), (.mem false, [9])] ?_))
  refine s_putall (h1 := z2) (hz := a2) (hi := by rw [a2]; rfl) ?_
  (repeat (first | refine gw ?_ | refine g ?_ | refine s_flat 16 [(.pure, [0, 1, 2, 4, 5, 6]), (.mem true, [3]), (.pure, [7, 8]), (.mem false, [9])] ?_))
  refine run_cutI (X := Option Addr × Nat) (fun _ => True) (fun x => [(12, .slice x.1 32 x.2), (3, .int .i64 32)]) (fun x => [sl x.1 32 x.2 5 1 (bv E)]) ?_ fun x _ => ?_
  · refine run_loopI (X := Nat × Option Addr × Nat) (fun x => x.1 ≤ 1) (fun x => [(1, .string s), (2, .int .i64 ((rr + 1 : Nat) : Int)), (3, .int .i64 32), (10, .pointer (some ⟨m1, 0, none⟩)), (11, .pointer (some ⟨m2, 0, none⟩)), (12, .slice x.2.1 (32 * x.1) x.2.2), (13, .int .i64 ((1 + x.1 : Nat) : Int))]) (fun x => [sl x.2.1 (32 * x.1) x.2.2 5 1 (bv (E.take (32 * x.1))), cells m1 102 ⟨N1⟩, cells m2 102 ⟨N2⟩]) (fun x => 1 - x.1) (0, none, 0) (Nat.zero_le _) fct shut ?_
    intro ⟨i, p, c⟩ hi
    dsimp only at *
    (repeat (first | refine gw ?_ | refine g ?_ | refine s_flat 16 [(.pure, [0, 1, 2, 4, 5, 6]), (.mem true, [3]), (.pure, [7, 8]), (.mem false, [9])] ?_))
    refine run_cond_dec rfl ?_ ?_
    · intro h1
      obtain rfl : i = 0 := by omega
      (repeat (first | refine gw ?_ | refine g ?_ | refine s_flat 16 [(.pure, [0, 1, 2, 4, 5, 6]), (.mem true, [3]), (.pure, [7, 8]), (.mem false, [9])] ?_))
      refine s_built fun rb => ?_
      (repeat (first | refine gw ?_ | refine g ?_ | refine s_flat 16 [(.pure, [0, 1, 2, 4, 5, 6]), (.mem true, [3]), (.pure, [7, 8]), (.mem false, [9])] ?_))
      refine s_stringc (m := 4) (o := 0) (l := [0, 0, 0, 1]) rfl rfl ?_
      have hz2 : (⟨[(0 : UInt8), 0, 0, 1].toArray⟩ : ByteArray).size = 4 := rfl
      have hz3 : (s ++ ⟨[(0 : UInt8), 0, 0, 1].toArray⟩).size = s.size + 4 := by rw [ByteArray.size_append, hz2]
      have cb := B (s ++ ⟨[(0 : UInt8), 0, 0, 1].toArray⟩) (by omega)
      have el : mac k.data.toList (s ++ ⟨[(0 : UInt8), 0, 0, 1].toArray⟩).data.toList = uN k.data.toList s.data.toList 0 := by
        rw [app_list]; rfl
      rw [el] at cb
      (repeat (first | refine gw ?_ | refine g ?_ | refine s_flat 16 [(.pure, [0, 1, 2, 4, 5, 6]), (.mem true, [3]), (.pure, [7, 8]), (.mem false, [9])] ?_))
      refine s_call cb ?_
      (repeat (first | refine gw ?_ | refine g ?_ | refine s_flat 16 [(.pure, [0, 1, 2, 4, 5, 6]), (.mem true, [3]), (.pure, [7, 8]), (.mem false, [9])] ?_))
      refine s_bytes fun rt => ?_
      rw [bl_size, uN_len, bl_list, show uN k.data.toList s.data.toList 0 = tN k.data.toList s.data.toList 0 from rfl]
      (repeat (first | refine gw ?_ | refine g ?_ | refine s_flat 16 [(.pure, [0, 1, 2, 4, 5, 6]), (.mem true, [3]), (.pure, [7, 8]), (.mem false, [9])] ?_))
      obtain ⟨rp, rc⟩ := rt
      dsimp only
      refine s_ptr rp (h0 := by decide) (fun tb eb _ _ => ?_)
      subst eb
      (repeat (first | refine gw ?_ | refine g ?_ | refine s_flat 16 [(.pure, [0, 1, 2, 4, 5, 6]), (.mem true, [3]), (.pure, [7, 8]), (.mem false, [9])] ?_))
      refine run_cutI (X := Unit) (fun _ => True) (fun _ => [(1, .string s), (2, .int .i64 ((rr + 1 : Nat) : Int)), (3, .int .i64 32), (10, .pointer (some ⟨m1, 0, none⟩)), (11, .pointer (some ⟨m2, 0, none⟩)), (12, .slice p (32 * 0) c), (13, .int .i64 ((1 + 0 : Nat) : Int)), (15, .slice (some ⟨tb, 0, none⟩) 32 rc)]) (fun _ => [sl (some ⟨tb, 0, none⟩) 32 rc 5 1 (bv E), sl p (32 * 0) c 5 1 (bv (E.take (32 * 0))), cells m1 102 ⟨N1⟩, cells m2 102 ⟨N2⟩]) ?_ fun _ _ => ?_
      · refine run_loopI (X := Nat) (fun j => j ≤ rr) (fun j => [(1, .string s), (2, .int .i64 ((rr + 1 : Nat) : Int)), (3, .int .i64 32), (10, .pointer (some ⟨m1, 0, none⟩)), (11, .pointer (some ⟨m2, 0, none⟩)), (12, .slice p (32 * 0) c), (13, .int .i64 ((1 + 0 : Nat) : Int)), (14, .string (bl (uN k.data.toList s.data.toList j))), (15, .slice (some ⟨tb, 0, none⟩) 32 rc), (63, .int .i64 (((rr + 1 : Nat) : Int) - 1)), (64, .int .i64 (j : Int))]) (fun j => [sl (some ⟨tb, 0, none⟩) 32 rc 5 1 (bv (tN k.data.toList s.data.toList j)), sl p (32 * 0) c 5 1 (bv (E.take (32 * 0))), cells m1 102 ⟨N1⟩, cells m2 102 ⟨N2⟩]) (fun j => rr - j) 0 (Nat.zero_le _) fct shut ?_
        intro j hj
        (repeat (first | refine gw ?_ | refine g ?_ | refine s_flat 16 [(.pure, [0, 1, 2, 4, 5, 6]), (.mem true, [3]), (.pure, [7, 8]), (.mem false, [9])] ?_))
        refine run_cond_dec rfl ?_ ?_
        · intro h2
          have cb := B (bl (uN k.data.toList s.data.toList j)) (by rw [bl_size, uN_len]; decide)
          rw [bl_list, show mac k.data.toList (uN k.data.toList s.data.toList j) = uN k.data.toList s.data.toList (j + 1) from rfl] at cb
          (repeat (first | refine gw ?_ | refine g ?_ | refine s_flat 16 [(.pure, [0, 1, 2, 4, 5, 6]), (.mem true, [3]), (.pure, [7, 8]), (.mem false, [9])] ?_))
          refine s_call cb ?_
          obtain ⟨U, hU⟩ : ∃ U, U = uN k.data.toList s.data.toList (j + 1) := ⟨_, rfl⟩
          obtain ⟨Q, hQ⟩ : ∃ Q, Q = tN k.data.toList s.data.toList j := ⟨_, rfl⟩
          have hUl : U.length = 32 := by rw [hU, uN_len]
          have hQl : Q.length = 32 := by rw [hQ, tN_len]
          have hT : tN k.data.toList s.data.toList (j + 1) = xorL Q U 32 := by rw [hU, hQ]; rfl
          have hUz : (bl U).size = 32 := by rw [bl_size, hUl]
          rw [← hU, ← hQ]
          (repeat (first | refine gw ?_ | refine g ?_ | refine s_flat 16 [(.pure, [0, 1, 2, 4, 5, 6]), (.mem true, [3]), (.pure, [7, 8]), (.mem false, [9])] ?_))
          refine run_cutI (X := Unit) (fun _ => True) (fun _ => [(1, .string s), (2, .int .i64 ((rr + 1 : Nat) : Int)), (3, .int .i64 32), (10, .pointer (some ⟨m1, 0, none⟩)), (11, .pointer (some ⟨m2, 0, none⟩)), (12, .slice p (32 * 0) c), (13, .int .i64 ((1 + 0 : Nat) : Int)), (14, .string (bl U)), (15, .slice (some ⟨tb, 0, none⟩) 32 rc), (63, .int .i64 (((rr + 1 : Nat) : Int) - 1)), (64, .int .i64 (j : Int))]) (fun _ => [sl (some ⟨tb, 0, none⟩) 32 rc 5 1 (bv (xorL Q U 32)), sl p (32 * 0) c 5 1 (bv (E.take (32 * 0))), cells m1 102 ⟨N1⟩, cells m2 102 ⟨N2⟩]) ?_ fun _ _ => ?_
          · refine run_loopI (X := Nat) (fun a => a ≤ 32) (fun a => [(1, .string s), (2, .int .i64 ((rr + 1 : Nat) : Int)), (3, .int .i64 32), (10, .pointer (some ⟨m1, 0, none⟩)), (11, .pointer (some ⟨m2, 0, none⟩)), (12, .slice p (32 * 0) c), (13, .int .i64 ((1 + 0 : Nat) : Int)), (14, .string (bl U)), (15, .slice (some ⟨tb, 0, none⟩) 32 rc), (63, .int .i64 (((rr + 1 : Nat) : Int) - 1)), (64, .int .i64 (j : Int)), (71, .int .i64 32), (72, .int .i64 (a : Int))]) (fun a => [sl (some ⟨tb, 0, none⟩) 32 rc 5 1 (bv (xorL Q U a ++ Q.drop a)), sl p (32 * 0) c 5 1 (bv (E.take (32 * 0))), cells m1 102 ⟨N1⟩, cells m2 102 ⟨N2⟩]) (fun a => 32 - a) 0 (Nat.zero_le _) fct shut ?_
            intro a ha
            have hxl := xorL_len Q U a
            (repeat (first | refine gw ?_ | refine g ?_ | refine s_flat 16 [(.pure, [0, 1, 2, 4, 5, 6]), (.mem true, [3]), (.pure, [7, 8]), (.mem false, [9])] ?_))
            refine run_cond_dec rfl ?_ ?_
            · intro h3
              have hat := xor_at Q U a (by omega)
              obtain ⟨X, hX⟩ : ∃ X, X = xorL Q U a ++ Q.drop a := ⟨_, rfl⟩
              have hXl : X.length = 32 := by rw [hX, List.length_append, hxl, List.length_drop]; omega
              rw [← hX] at hat ⊢
              (repeat (first | refine gw ?_ | refine g ?_ | refine s_flat 16 [(.pure, [0, 1, 2, 4, 5, 6]), (.mem true, [3]), (.pure, [7, 8]), (.mem false, [9])] ?_))
              refine s_sbv ?_
              (repeat (first | refine gw ?_ | refine g ?_ | refine s_flat 16 [(.pure, [0, 1, 2, 4, 5, 6]), (.mem true, [3]), (.pure, [7, 8]), (.mem false, [9])] ?_))
              refine s_eq (ys := bv (xorL Q U (a + 1) ++ Q.drop (a + 1))) ?_ ?_
              · rw [← hat.2, hat.1]; rfl
              exact run_stop_loop (a + 1) ⟨by omega, by omega⟩ fct shut
            · intro h3
              obtain rfl : a = 32 := by omega
              (repeat (first | refine gw ?_ | refine g ?_ | refine s_flat 16 [(.pure, [0, 1, 2, 4, 5, 6]), (.mem true, [3]), (.pure, [7, 8]), (.mem false, [9])] ?_))
              refine s_eq (ys := bv (xorL Q U 32)) ?_ ?_
              · rw [List.drop_eq_nil_of_le (by omega), List.append_nil]
              exact run_stop_loop () trivial fct shut
          rw [← hT]
          (repeat (first | refine gw ?_ | refine g ?_ | refine s_flat 16 [(.pure, [0, 1, 2, 4, 5, 6]), (.mem true, [3]), (.pure, [7, 8]), (.mem false, [9])] ?_))
          exact run_stop_loop (j + 1) ⟨by omega, by omega⟩ (by rw [hU]; exact fct) shut
        · intro h2
          obtain rfl : j = rr := by omega
          rw [← hE]
          (repeat (first | refine gw ?_ | refine g ?_ | refine s_flat 16 [(.pure, [0, 1, 2, 4, 5, 6]), (.mem true, [3]), (.pure, [7, 8]), (.mem false, [9])] ?_))
          exact run_stop_loop () trivial fct shut
      (repeat (first | refine gw ?_ | refine g ?_ | refine s_flat 16 [(.pure, [0, 1, 2, 4, 5, 6]), (.mem true, [3]), (.pure, [7, 8]), (.mem false, [9])] ?_))
      refine s_app (m := 32) (news := bv E) 1 1 (reads_slice At.head) (hnl := by rw [bv_length, hEl]) (h1 := bv_one _) (hxl := by rfl) fun r2 => ?_
      refine s_eq (p := r2.1) (ys := bv (E.take 32)) ?_ ?_
      · have e32 : E.take 32 = E := List.take_of_length_le (by omega)
        rw [e32]; rfl
      (repeat (first | refine gw ?_ | refine g ?_ | refine s_flat 16 [(.pure, [0, 1, 2, 4, 5, 6]), (.mem true, [3]), (.pure, [7, 8]), (.mem false, [9])] ?_))
      exact run_stop_loop (1, r2.1, r2.2) ⟨by dsimp only; omega, by dsimp only; omega⟩ fct shut
    · intro h1
      obtain rfl : i = 1 := by omega
      (repeat (first | refine gw ?_ | refine g ?_ | refine s_flat 16 [(.pure, [0, 1, 2, 4, 5, 6]), (.mem true, [3]), (.pure, [7, 8]), (.mem false, [9])] ?_))
      refine run_stop_loop (p, c) trivial fct ?_
      dsimp only
      have e32 : E.take (32 * 1) = E := List.take_of_length_le (by omega)
      rw [e32]
      exact shut
  obtain ⟨p, c⟩ := x
  dsimp only
  refine s_ptr p (h0 := by decide) (fun pb eb _ _ => ?_)
  subst eb
  (repeat (first | refine gw ?_ | refine g ?_ | refine s_flat 16 [(.pure, [0, 1, 2, 4, 5, 6]), (.mem true, [3]), (.pure, [7, 8]), (.mem false, [9])] ?_))
  refine s_to 91 (w := .slice (some ⟨pb, 0, none⟩) 32 c) rfl ?_
  refine s_string (l := E) ?_
  (repeat (first | refine gw ?_ | refine g ?_ | refine s_flat 16 [(.pure, [0, 1, 2, 4, 5, 6]), (.mem true, [3]), (.pure, [7, 8]), (.mem false, [9])] ?_))
  exact run_ret rfl (imp_RD rfl shut)
end Go.Proofs.Ytajndpddlpnbkaa.V
namespace Go.Proofs.Ytajndpddlpnbkaa.V
open Go.Proofs.Ytajndpddlpnbkaa.VL Go.Proofs.Ytajndpddlpnbkaa.VL.Sha
attribute [local irreducible] Run
def keyS2 (k : ByteArray) : ByteArray := if 64 < k.size then shaB k else k
theorem keyS2_list (k : ByteArray) : (keyS2 k).data.toList = hkey k.data.toList := by
  unfold keyS2 hkey
  rw [size_toList]
  split <;> rfl
set_option maxHeartbeats 4000000 in
theorem refMac_spec (q : View) (k s : ByteArray) (hk : k.size ≤ 100000000000) (hs : s.size ≤ 10000000000) : FnD Try.prog q 55 [.string k, .string s] [] (.string (macB k s)) [] := by
  have hkl := keyS2_list k
  (first | refine FnD.go Try.call55 Try.func55 rfl rfl rfl ?_ | refine FnX.go Try.call55 Try.func55 rfl rfl rfl ?_)
  (repeat (first | refine gw ?_ | refine g ?_))
  refine run_cuti (X := Unit) (fun _ => True) (fun _ => [(0, .string (keyS2 k)), (1, .string s)]) (fun _ => []) ?_ fun _ _ => ?_
  · unfold keyS2
    refine run_cond_dec rfl ?_ ?_
    · intro h
      rw [if_pos (by omega)]
      (repeat (first | refine gw ?_ | refine g ?_))
      refine s_call (refSum_spec q k hk) ?_
      (repeat (first | refine gw ?_ | refine g ?_))
      exact run_stop_loop () trivial fct shut
    · intro h
      rw [if_neg (by omega)]
      (repeat (first | refine gw ?_ | refine g ?_))
      exact run_stop_loop () trivial fct shut
  obtain ⟨KS, hKS⟩ : ∃ KS, KS = keyS2 k := ⟨_, rfl⟩
  rw [← hKS] at hkl ⊢
  have hKl : KS.data.toList.length ≤ 64 := by rw [hkl]; exact hkey_len _
  have hKz := size_toList KS
  have hmb : macB k s = bl (sha (pk KS.data.toList 0x5c 64 ++ sha (pk KS.data.toList 0x36 64 ++ s.data.toList))) := by rw [hkl]; rfl
  rw [hmb]
  obtain ⟨L, hL⟩ : ∃ L, L = KS.data.toList := ⟨_, rfl⟩
  rw [← hL] at hKl hKz ⊢
  (repeat (first | refine gw ?_ | refine g ?_))
  refine s_made 1 64 64 fun rx => ?_
  refine s_ceq rx (bv (pk L 0x36 0 ++ List.replicate 64 0)) ?_ ?_
  · rw [zeroL_one _ rfl]; rfl
  refine run_to_sl (n := 64) (kk := 1) rfl ?_
  (repeat (first | refine gw ?_ | refine g ?_))
  refine s_made 1 64 64 fun ry => ?_
  refine s_ceq ry (bv (pk L 0x5c 0 ++ List.replicate 64 0)) ?_ ?_
  · rw [zeroL_one _ rfl]; rfl
  refine run_to_sl (n := 64) (kk := 1) rfl ?_
  (repeat (first | refine gw ?_ | refine g ?_))
  refine run_cutI (X := Unit) (fun _ => True) (fun _ => [(1, .string s), (5, .slice (some ⟨rx, 0, none⟩) 64 64), (6, .slice (some ⟨ry, 0, none⟩) 64 64)]) (fun _ => [sl (some ⟨rx, 0, none⟩) 64 64 5 1 (bv (pk L 0x36 64)), sl (some ⟨ry, 0, none⟩) 64 64 5 1 (bv (pk L 0x5c 64))]) ?_ fun _ _ => ?_
  · refine run_loopI (X := Nat) (fun i => i ≤ 64) (fun i => [(0, .string KS), (1, .string s), (5, .slice (some ⟨rx, 0, none⟩) 64 64), (6, .slice (some ⟨ry, 0, none⟩) 64 64), (7, .int .i64 (i : Int))]) (fun i => [sl (some ⟨rx, 0, none⟩) 64 64 5 1 (bv (pk L 0x36 i ++ List.replicate (64 - i) 0)), sl (some ⟨ry, 0, none⟩) 64 64 5 1 (bv (pk L 0x5c i ++ List.replicate (64 - i) 0))]) (fun i => 64 - i) 0 (Nat.zero_le _) fct shut ?_
    intro i hi
    have hp1 := pk_len L 0x36 i
    have hp2 := pk_len L 0x5c i
    (repeat (first | refine gw ?_ | refine g ?_))
    refine run_cond_dec rfl ?_ ?_
    · intro h1
      obtain ⟨m, hm⟩ : ∃ m, 64 - i = m + 1 := ⟨63 - i, by omega⟩
      (repeat (first | refine gw ?_ | refine g ?_))
      refine run_cuti (X := Unit) (fun _ => True) (fun _ => [(0, .string KS), (1, .string s), (5, .slice (some ⟨rx, 0, none⟩) 64 64), (6, .slice (some ⟨ry, 0, none⟩) 64 64), (7, .int .i64 (i : Int)), (8, .int .u8 ((L.getD i 0).toNat : Int))]) (fun _ => [sl (some ⟨rx, 0, none⟩) 64 64 5 1 (bv (pk L 0x36 i ++ List.replicate (64 - i) 0)), sl (some ⟨ry, 0, none⟩) 64 64 5 1 (bv (pk L 0x5c i ++ List.replicate (64 - i) 0))]) ?_ fun _ _ => ?_
      · refine run_cond_dec rfl ?_ ?_
        · intro h2
          (repeat (first | refine gw ?_ | refine g ?_))
          refine run_stop_loop () trivial ?_ shut
          rw [hL]
          exact fct
        · intro h2
          have hz : L.getD i 0 = 0 := by rw [List.getD_eq_getElem?_getD, List.getElem?_eq_none (by omega)]; rfl
          rw [hz]
          (repeat (first | refine gw ?_ | refine g ?_))
          exact run_stop_loop () trivial fct shut
      have hX1 : (pk L 0x36 i ++ List.replicate (64 - i) 0).length = 64 := by rw [List.length_append, hp1, List.length_replicate]; omega
      have hX2 : (pk L 0x5c i ++ List.replicate (64 - i) 0).length = 64 := by rw [List.length_append, hp2, List.length_replicate]; omega
      (repeat (first | refine gw ?_ | refine g ?_))
      refine s_sbv ?_
      refine s_eq (p := some ⟨rx, 0, none⟩) (ys := bv (pk L 0x36 (i + 1) ++ List.replicate (64 - (i + 1)) 0)) ?_ ?_
      · rw [hm, set_end8 _ _ _ _ hp1, pk_snoc, show 64 - (i + 1) = m by omega]; rfl
      (repeat (first | refine gw ?_ | refine g ?_))
      refine s_sbv ?_
      refine s_eq (p := some ⟨ry, 0, none⟩) (ys := bv (pk L 0x5c (i + 1) ++ List.replicate (64 - (i + 1)) 0)) ?_ ?_
      · rw [hm, set_end8 _ _ _ _ hp2, pk_snoc, show 64 - (i + 1) = m by omega]; rfl
      (repeat (first | refine gw ?_ | refine g ?_))
      exact run_stop_loop (i + 1) ⟨by omega, by omega⟩ fct shut
    · intro h1
      obtain rfl : i = 64 := by omega
      rw [Nat.sub_self, List.replicate_zero, List.append_nil, List.append_nil]
      (repeat (first | refine gw ?_ | refine g ?_))
      exact run_stop_loop () trivial fct shut
  obtain ⟨t1, ht1⟩ : ∃ t1, t1 = pk L 0x36 64 := ⟨_, rfl⟩
  obtain ⟨t2, ht2⟩ : ∃ t2, t2 = pk L 0x5c 64 := ⟨_, rfl⟩
  have l1 : t1.length = 64 := by rw [ht1, pk_len]
  have l2 : t2.length = 64 := by rw [ht2, pk_len]
  rw [← ht1, ← ht2]
  have z1 : (⟨t1.toArray⟩ : ByteArray).size = 64 := by show t1.toArray.size = 64; rw [List.size_toArray, l1]
  have z2 : (⟨t2.toArray⟩ : ByteArray).size = 64 := by show t2.toArray.size = 64; rw [List.size_toArray, l2]
  have z3 : ((⟨t1.toArray⟩ : ByteArray) ++ s).size = 64 + s.size := by rw [ByteArray.size_append, z1]
  have c1 := refSum_spec q (⟨t1.toArray⟩ ++ s) (by omega)
  have z4 : (shaB ((⟨t1.toArray⟩ : ByteArray) ++ s)).size = 32 := by rw [← size_toList]; exact sha_len _
  have z5 : ((⟨t2.toArray⟩ : ByteArray) ++ shaB (⟨t1.toArray⟩ ++ s)).size = 96 := by rw [ByteArray.size_append, z2, z4]
  have c2 := refSum_spec q (⟨t2.toArray⟩ ++ shaB (⟨t1.toArray⟩ ++ s)) (by omega)
  (repeat (first | refine gw ?_ | refine g ?_))
  refine d_start [] ?_
  (first | refine d_pure 0 ?_)
  refine d_strs 1 ?_
  (first | refine d_pure 2 ?_)
  refine d_strs 3 ?_
  (first | refine d_pure 4 ?_)
  (first | refine d_w32 5 ?_ | refine d_ari 5 ?_ | refine d_concat 5 ?_ | refine d_pure 5 ?_ | refine d_arith 5 ?_)
  refine d_call 6 c1 ?_
  (first | refine d_w32 7 ?_ | refine d_ari 7 ?_ | refine d_concat 7 ?_ | refine d_pure 7 ?_ | refine d_arith 7 ?_)
  refine d_call 8 c2 ?_
  (first | refine d_pure 9 ?_)
  refine d_done ?_
  (repeat (first | refine gw ?_ | refine g ?_))
  refine run_ret rfl (imp_RD ?_ shut)
  congr 1
end Go.Proofs.Ytajndpddlpnbkaa.V
namespace Go.Proofs.Ytajndpddlpnbkaa.V
open Go.Proofs.Ytajndpddlpnbkaa.VL Go.Proofs.Ytajndpddlpnbkaa.VL.Sha
attribute [local irreducible] Run
set_option maxHeartbeats 8000000 in
theorem refStretch_spec (q : View) (k s : ByteArray) (rounds : Nat) (hk : k.size ≤ 100000000000) (hs : s.size ≤ 1000000000) (hr : okR rounds) : FnD Try.prog q 28 [.string k, .string s, .int .i64 (rounds : Int), .int .i64 32] [] (.tuple #[.string (stretchB k s rounds), .int .i64 0]) [] := by
  obtain ⟨hr1, hr2⟩ := hr
  obtain ⟨rr, rfl⟩ : ∃ rr, rounds = rr + 1 := ⟨rounds - 1, by omega⟩
  obtain ⟨E, hE⟩ : ∃ E, E = tN k.data.toList s.data.toList rr := ⟨_, rfl⟩
  have hEl : E.length = 32 := by rw [hE]; exact tN_len _ _ _
  have hEb : stretchB k s (rr + 1) = bl E := by rw [hE]; rfl
  have hEz : (bl E).size = 32 := by rw [bl_size, hEl]
  rw [hEb]
  (first | refine FnD.go Try.call28 Try.func28 rfl rfl rfl ?_ | refine FnX.go Try.call28 Try.func28 rfl rfl rfl ?_)
  (repeat (first | refine gw ?_ | refine g ?_ | refine s_flat 16 [(.pure, [0, 1, 2, 3, 4, 6, 7, 8]), (.mem true, [5]), (.pure, [9, 10]), (.mem false, [11])] ?_))
  refine run_cutI (X := Unit) (fun _ => True) (fun x => [(10, .string (bl E)), (3, .int .i64 32)]) (fun x => []) ?_ fun x _ => ?_
  · refine run_loopI (X := Nat × ByteArray) (fun x => x.1 ≤ 1 ∧ (x.1 = 0 → x.2 = ⟨#[]⟩) ∧ (x.1 = 1 → x.2 = bl E)) (fun x => [(0, .string k), (1, .string s), (2, .int .i64 ((rr + 1 : Nat) : Int)), (3, .int .i64 32), (10, .string x.2), (11, .int .i64 ((1 + x.1 : Nat) : Int))]) (fun x => []) (fun x => 1 - x.1) (0, ⟨#[]⟩) ⟨Nat.zero_le _, fun _ => rfl, fun h => by cases h⟩ fct shut ?_
    intro ⟨i, u⟩ ⟨hi, ht, hu⟩
    dsimp only at *
    by_cases h0 : i = 0
    · subst h0
      obtain rfl := ht rfl
      have hz0 : (⟨#[]⟩ : ByteArray).size = 0 := rfl
      (repeat (first | refine gw ?_ | refine g ?_ | refine s_flat 16 [(.pure, [0, 1, 2, 3, 4, 6, 7, 8]), (.mem true, [5]), (.pure, [9, 10]), (.mem false, [11])] ?_))
      refine s_built fun rb => ?_
      (repeat (first | refine gw ?_ | refine g ?_ | refine s_flat 16 [(.pure, [0, 1, 2, 3, 4, 6, 7, 8]), (.mem true, [5]), (.pure, [9, 10]), (.mem false, [11])] ?_))
      refine s_stringc (m := 4) (o := 0) (l := [0, 0, 0, 1]) rfl rfl ?_
      have hz2 : (⟨[(0 : UInt8), 0, 0, 1].toArray⟩ : ByteArray).size = 4 := rfl
      have hz3 : (s ++ ⟨[(0 : UInt8), 0, 0, 1].toArray⟩).size = s.size + 4 := by rw [ByteArray.size_append, hz2]
      have cb := refMac_spec q k (s ++ ⟨[(0 : UInt8), 0, 0, 1].toArray⟩) hk (by omega)
      have el : macB k (s ++ ⟨[(0 : UInt8), 0, 0, 1].toArray⟩) = bl (uN k.data.toList s.data.toList 0) := by
        unfold macB
        rw [app_list]; rfl
      rw [el] at cb
      (repeat (first | refine gw ?_ | refine g ?_ | refine s_flat 16 [(.pure, [0, 1, 2, 3, 4, 6, 7, 8]), (.mem true, [5]), (.pure, [9, 10]), (.mem false, [11])] ?_))
      refine s_call cb ?_
      (repeat (first | refine gw ?_ | refine g ?_ | refine s_flat 16 [(.pure, [0, 1, 2, 3, 4, 6, 7, 8]), (.mem true, [5]), (.pure, [9, 10]), (.mem false, [11])] ?_))
      refine s_bytes fun rt => ?_
      rw [bl_size, uN_len, bl_list]
      obtain ⟨rp, rc⟩ := rt
      dsimp only
      refine s_ptr rp (h0 := by decide) (fun tb eb _ _ => ?_)
      subst eb
      (repeat (first | refine gw ?_ | refine g ?_ | refine s_flat 16 [(.pure, [0, 1, 2, 3, 4, 6, 7, 8]), (.mem true, [5]), (.pure, [9, 10]), (.mem false, [11])] ?_))
      refine run_cutI (X := Unit) (fun _ => True) (fun _ => [(0, .string k), (1, .string s), (2, .int .i64 ((rr + 1 : Nat) : Int)), (3, .int .i64 32), (10, .string ⟨#[]⟩), (11, .int .i64 1), (13, .slice (some ⟨tb, 0, none⟩) 32 rc)]) (fun _ => [sl (some ⟨tb, 0, none⟩) 32 rc 5 1 (bv E)]) ?_ fun _ _ => ?_
      · refine run_loopI (X := Nat) (fun j => j ≤ rr) (fun j => [(0, .string k), (1, .string s), (2, .int .i64 ((rr + 1 : Nat) : Int)), (3, .int .i64 32), (10, .string ⟨#[]⟩), (11, .int .i64 1), (12, .string (bl (uN k.data.toList s.data.toList j))), (13, .slice (some ⟨tb, 0, none⟩) 32 rc), (14, .int .i64 ((1 + j : Nat) : Int))]) (fun j => [sl (some ⟨tb, 0, none⟩) 32 rc 5 1 (bv (tN k.data.toList s.data.toList j))]) (fun j => rr - j) 0 (Nat.zero_le _) fct shut ?_
        intro j hj
        (repeat (first | refine gw ?_ | refine g ?_ | refine s_flat 16 [(.pure, [0, 1, 2, 3, 4, 6, 7, 8]), (.mem true, [5]), (.pure, [9, 10]), (.mem false, [11])] ?_))
        refine run_cond_dec rfl ?_ ?_
        · intro h2
          have cb := refMac_spec q k (bl (uN k.data.toList s.data.toList j)) hk (by rw [bl_size, uN_len]; decide)
          rw [show macB k (bl (uN k.data.toList s.data.toList j)) = bl (uN k.data.toList s.data.toList (j + 1)) from rfl] at cb
          (repeat (first | refine gw ?_ | refine g ?_ | refine s_flat 16 [(.pure, [0, 1, 2, 3, 4, 6, 7, 8]), (.mem true, [5]), (.pure, [9, 10]), (.mem false, [11])] ?_))
          refine s_call cb ?_
          obtain ⟨U, hU⟩ : ∃ U, U = uN k.data.toList s.data.toList (j + 1) := ⟨_, rfl⟩
          obtain ⟨Q, hQ⟩ : ∃ Q, Q = tN k.data.toList s.data.toList j := ⟨_, rfl⟩
          have hUl : U.length = 32 := by rw [hU, uN_len]
          have hQl : Q.length = 32 := by rw [hQ, tN_len]
          have hT : tN k.data.toList s.data.toList (j + 1) = xorL Q U 32 := by rw [hU, hQ]; rfl
          have hUz : (bl U).size = 32 := by rw [bl_size, hUl]
          rw [← hU, ← hQ]
          (repeat (first | refine gw ?_ | refine g ?_ | refine s_flat 16 [(.pure, [0, 1, 2, 3, 4, 6, 7, 8]), (.mem true, [5]), (.pure, [9, 10]), (.mem false, [11])] ?_))
          refine run_cutI (X := Unit) (fun _ => True) (fun _ => [(0, .string k), (1, .string s), (2, .int .i64 ((rr + 1 : Nat) : Int)), (3, .int .i64 32), (10, .string ⟨#[]⟩), (11, .int .i64 1), (12, .string (bl U)), (13, .slice (some ⟨tb, 0, none⟩) 32 rc), (14, .int .i64 ((1 + j : Nat) : Int))]) (fun _ => [sl (some ⟨tb, 0, none⟩) 32 rc 5 1 (bv (xorL Q U 32))]) ?_ fun _ _ => ?_
          · refine run_loopI (X := Nat) (fun a => a ≤ 32) (fun a => [(0, .string k), (1, .string s), (2, .int .i64 ((rr + 1 : Nat) : Int)), (3, .int .i64 32), (10, .string ⟨#[]⟩), (11, .int .i64 1), (12, .string (bl U)), (13, .slice (some ⟨tb, 0, none⟩) 32 rc), (14, .int .i64 ((1 + j : Nat) : Int)), (15, .int .i64 (a : Int))]) (fun a => [sl (some ⟨tb, 0, none⟩) 32 rc 5 1 (bv (xorL Q U a ++ Q.drop a))]) (fun a => 32 - a) 0 (Nat.zero_le _) fct shut ?_
            intro a ha
            have hxl := xorL_len Q U a
            (repeat (first | refine gw ?_ | refine g ?_ | refine s_flat 16 [(.pure, [0, 1, 2, 3, 4, 6, 7, 8]), (.mem true, [5]), (.pure, [9, 10]), (.mem false, [11])] ?_))
            refine run_cond_dec rfl ?_ ?_
            · intro h3
              have hat := xor_at Q U a (by omega)
              obtain ⟨X, hX⟩ : ∃ X, X = xorL Q U a ++ Q.drop a := ⟨_, rfl⟩
              have hXl : X.length = 32 := by rw [hX, List.length_append, hxl, List.length_drop]; omega
              rw [← hX] at hat ⊢
              (repeat (first | refine gw ?_ | refine g ?_ | refine s_flat 16 [(.pure, [0, 1, 2, 3, 4, 6, 7, 8]), (.mem true, [5]), (.pure, [9, 10]), (.mem false, [11])] ?_))
              refine s_sbv ?_
              refine s_eq (ys := bv (xorL Q U (a + 1) ++ Q.drop (a + 1))) ?_ ?_
              · rw [← hat.2, hat.1]; rfl
              (repeat (first | refine gw ?_ | refine g ?_ | refine s_flat 16 [(.pure, [0, 1, 2, 3, 4, 6, 7, 8]), (.mem true, [5]), (.pure, [9, 10]), (.mem false, [11])] ?_))
              exact run_stop_loop (a + 1) ⟨by omega, by omega⟩ fct shut
            · intro h3
              obtain rfl : a = 32 := by omega
              (repeat (first | refine gw ?_ | refine g ?_ | refine s_flat 16 [(.pure, [0, 1, 2, 3, 4, 6, 7, 8]), (.mem true, [5]), (.pure, [9, 10]), (.mem false, [11])] ?_))
              refine s_eq (ys := bv (xorL Q U 32)) ?_ ?_
              · rw [List.drop_eq_nil_of_le (by omega), List.append_nil]
              exact run_stop_loop () trivial fct shut
          rw [← hT]
          (repeat (first | refine gw ?_ | refine g ?_ | refine s_flat 16 [(.pure, [0, 1, 2, 3, 4, 6, 7, 8]), (.mem true, [5]), (.pure, [9, 10]), (.mem false, [11])] ?_))
          exact run_stop_loop (j + 1) ⟨by omega, by omega⟩ (by rw [hU]; exact fct) shut
        · intro h2
          obtain rfl : j = rr := by omega
          rw [← hE]
          (repeat (first | refine gw ?_ | refine g ?_ | refine s_flat 16 [(.pure, [0, 1, 2, 3, 4, 6, 7, 8]), (.mem true, [5]), (.pure, [9, 10]), (.mem false, [11])] ?_))
          exact run_stop_loop () trivial fct shut
      (repeat (first | refine gw ?_ | refine g ?_ | refine s_flat 16 [(.pure, [0, 1, 2, 3, 4, 6, 7, 8]), (.mem true, [5]), (.pure, [9, 10]), (.mem false, [11])] ?_))
      refine s_string (l := E) ?_
      have he : (⟨#[]⟩ : ByteArray) ++ bl E = bl E := ByteArray.empty_append
      have hEz2 : (⟨E.toArray⟩ : ByteArray).size = 32 := hEz
      (repeat (first | refine gw ?_ | refine g ?_ | refine s_flat 16 [(.pure, [0, 1, 2, 3, 4, 6, 7, 8]), (.mem true, [5]), (.pure, [9, 10]), (.mem false, [11])] ?_))
      exact run_stop_loop (1, (⟨#[]⟩ : ByteArray) ++ bl E) ⟨⟨Nat.le_refl _, fun h => by dsimp only at h; omega, fun _ => he⟩, by dsimp only; omega⟩ fct shut
    · obtain rfl : i = 1 := by omega
      obtain rfl := hu rfl
      (repeat (first | refine gw ?_ | refine g ?_ | refine s_flat 16 [(.pure, [0, 1, 2, 3, 4, 6, 7, 8]), (.mem true, [5]), (.pure, [9, 10]), (.mem false, [11])] ?_))
      exact run_stop_loop () trivial fct shut
  have ee : (bl E).extract (0 : Int).toNat (32 : Int).toNat = bl E := by
    rw [show (0 : Int).toNat = 0 from rfl, show (32 : Int).toNat = (bl E).size by rw [hEz]; rfl, ByteArray.extract_zero_size]
  (repeat (first | refine gw ?_ | refine g ?_ | refine s_flat 16 [(.pure, [0, 1, 2, 3, 4, 6, 7, 8]), (.mem true, [5]), (.pure, [9, 10]), (.mem false, [11])] ?_))
  rw [ee]
  (repeat (first | refine gw ?_ | refine g ?_ | refine s_flat 16 [(.pure, [0, 1, 2, 3, 4, 6, 7, 8]), (.mem true, [5]), (.pure, [9, 10]), (.mem false, [11])] ?_))
  exact run_ret rfl (imp_RD rfl shut)
end Go.Proofs.Ytajndpddlpnbkaa.V
namespace Go.Proofs.Ytajndpddlpnbkaa.V
open Go.Proofs.Ytajndpddlpnbkaa.VL Go.Proofs.Ytajndpddlpnbkaa.VL.Sha
attribute [local irreducible] Run
set_option maxHeartbeats 2000000 in
theorem sumExpand_spec (q : View) (k info : ByteArray) (hk : k.size ≤ 100000000000) (hs : info.size ≤ 1000000000) : FnD Try.prog q 77 [.string k, .string info, .int .i64 32] [] (.tuple #[.string (expandB k info), .int .i64 0]) [] := by
  obtain ⟨E, hE⟩ : ∃ E, E = expand k.data.toList info.data.toList := ⟨_, rfl⟩
  have hEl : E.length = 32 := by rw [hE]; exact mac_len _ _
  have hEb : expandB k info = bl E := by rw [hE]; rfl
  rw [hEb]
  (first | refine FnD.go Try.call77 Try.func77 rfl rfl rfl ?_ | refine FnX.go Try.call77 Try.func77 rfl rfl rfl ?_)
  (repeat (first | refine gw ?_ | refine g ?_))
  refine s_callx (pads_spec q k (by omega)) fun x => ?_
  obtain ⟨⟨⟨st1, part1⟩, ⟨st2, part2⟩⟩, h1, h2⟩ := x
  dsimp only at h1 h2 ⊢
  have l1 := pk_len (hkey (k).data.toList) 0x36 64
  have l2 := pk_len (hkey (k).data.toList) 0x5c 64
  have a1 : (mixR st1 part1 0 64).length = 75 := mixR_len (by rw [h1.st]; exact stateN_len _ _) h1.pl
  have a2 : (mixR st2 part2 0 64).length = 75 := mixR_len (by rw [h2.st]; exact stateN_len _ _) h2.pl
  have z1 := mixR_one st1 part1 0 64
  have z2 := mixR_one st2 part2 0 64
  obtain ⟨N1, hN1⟩ : ∃ N1, N1 = mixR st1 part1 0 64 := ⟨_, rfl⟩
  obtain ⟨N2, hN2⟩ : ∃ N2, N2 = mixR st2 part2 0 64 := ⟨_, rfl⟩
  have B : ∀ s : ByteArray, s.size ≤ 10000000000 → FnD Try.prog q 54 [.agg ⟨N1⟩, .agg ⟨N2⟩, .string s] [] (.string (bl (mac (k).data.toList s.data.toList))) [] := fun s hs => by
    rw [hN1, hN2]
    exact both_spec q _ _ st1 st2 part1 part2 h1 h2 l1 l2 s hs
  rw [← hN1] at a1 z1 ⊢
  rw [← hN2] at a2 z2 ⊢
  clear hN1 hN2 h1 h2 l1 l2
  (repeat (first | refine gw ?_ | refine g ?_))
  refine s_alloc fun m1 => ?_
  (repeat (first | refine gw ?_ | refine g ?_))
  refine s_alloc fun m2 => ?_
  (repeat (first | refine gw ?_ | refine g ?_))
  refine s_putall (h1 := z1) (hz := a1) (hi := by rw [a1]; rfl) ?_
  (repeat (first | refine gw ?_ | refine g ?_))
  refine s_putall (h1 := z2) (hz := a2) (hi := by rw [a2]; rfl) ?_
  (repeat (first | refine gw ?_ | refine g ?_))
  refine run_cutI (X := Option Addr × Nat) (fun _ => True) (fun x => [(10, .slice x.1 32 x.2), (2, .int .i64 32)]) (fun x => [sl x.1 32 x.2 5 1 (bv E)]) ?_ fun x _ => ?_
  · refine run_loopI (X := Nat × ByteArray × Option Addr × Nat) (fun x => x.1 ≤ 1 ∧ (x.1 = 0 → x.2.1 = ⟨#[]⟩)) (fun x => [(1, .string info), (2, .int .i64 32), (8, .pointer (some ⟨m1, 0, none⟩)), (9, .pointer (some ⟨m2, 0, none⟩)), (10, .slice x.2.2.1 (32 * x.1) x.2.2.2), (11, .string x.2.1), (12, .int .i64 ((1 + x.1 : Nat) : Int))]) (fun x => [sl x.2.2.1 (32 * x.1) x.2.2.2 5 1 (bv (E.take (32 * x.1))), cells m1 102 ⟨N1⟩, cells m2 102 ⟨N2⟩]) (fun x => 1 - x.1) (0, ⟨#[]⟩, none, 0) ⟨Nat.zero_le _, fun _ => rfl⟩ fct shut ?_
    intro ⟨i, t, p, c⟩ ⟨hi, ht⟩
    dsimp only at *
    (repeat (first | refine gw ?_ | refine g ?_))
    refine run_cond_dec rfl ?_ ?_
    · intro h1
      obtain rfl : i = 0 := by omega
      obtain rfl := ht rfl
      have hz0 : (⟨#[]⟩ : ByteArray).size = 0 := rfl
      have hz1 : ((⟨#[]⟩ : ByteArray) ++ info).size = info.size := by rw [ByteArray.size_append, hz0, Nat.zero_add]
      (repeat (first | refine gw ?_ | refine g ?_))
      refine s_built fun rb => ?_
      (repeat (first | refine gw ?_ | refine g ?_))
      refine s_stringc (m := 1) (o := 0) (l := [1]) rfl rfl ?_
      have hz2 : (⟨[(1 : UInt8)].toArray⟩ : ByteArray).size = 1 := rfl
      have hz3 : ((⟨#[]⟩ : ByteArray) ++ info ++ ⟨[(1 : UInt8)].toArray⟩).size = info.size + 1 := by rw [ByteArray.size_append, hz1, hz2]
      (repeat (first | refine gw ?_ | refine g ?_))
      have cb := B ((⟨#[]⟩ : ByteArray) ++ info ++ ⟨[(1 : UInt8)].toArray⟩) (by omega)
      have el : mac k.data.toList ((⟨#[]⟩ : ByteArray) ++ info ++ ⟨[(1 : UInt8)].toArray⟩).data.toList = E := by
        rw [hE, app_list, app_list]; rfl
      rw [el] at cb
      refine s_call cb ?_
      (repeat (first | refine gw ?_ | refine g ?_))
      have hzE : (bl E).size = 32 := by rw [bl_size, hEl]
      refine s_app (m := 32) (news := bv E) 1 1 (fun _ _ w _ _ => by have h := reads_string (P := Try.prog) (w := w) (bl E); rw [hzE] at h; exact h) (hnl := by rw [bv_length, hEl]) (h1 := bv_one _) (hxl := by rfl) fun r2 => ?_
      refine s_eq (ys := bv (E.take 32)) ?_ ?_
      · have e32 : E.take 32 = E := List.take_of_length_le (by omega)
        rw [e32]; rfl
      (repeat (first | refine gw ?_ | refine g ?_))
      exact run_stop_loop (1, bl E, r2.1, r2.2) ⟨⟨Nat.le_refl _, fun h => by dsimp only at h; omega⟩, by dsimp only; omega⟩ fct shut
    · intro h1
      obtain rfl : i = 1 := by omega
      (repeat (first | refine gw ?_ | refine g ?_))
      refine run_stop_loop (p, c) trivial fct ?_
      dsimp only
      have e32 : E.take (32 * 1) = E := List.take_of_length_le (by omega)
      rw [e32]
      exact shut
  obtain ⟨p, c⟩ := x
  dsimp only
  refine s_ptr p (h0 := by decide) (fun pb eb _ _ => ?_)
  subst eb
  (repeat (first | refine gw ?_ | refine g ?_))
  refine s_to 46 (w := .slice (some ⟨pb, 0, none⟩) 32 c) rfl ?_
  refine s_string (l := E) ?_
  (repeat (first | refine gw ?_ | refine g ?_))
  exact run_ret rfl (imp_RD rfl shut)
end Go.Proofs.Ytajndpddlpnbkaa.V
namespace Go.Proofs.Ytajndpddlpnbkaa.V
open Go.Proofs.Ytajndpddlpnbkaa.VL Go.Proofs.Ytajndpddlpnbkaa.VL.Sha
attribute [local irreducible] Run
set_option maxHeartbeats 2000000 in
theorem refExpand_spec (q : View) (k info : ByteArray) (hk : k.size ≤ 100000000000) (hs : info.size ≤ 1000000000) : FnD Try.prog q 66 [.string k, .string info, .int .i64 32] [] (.tuple #[.string (expandB k info), .int .i64 0]) [] := by
  have hEl : (expandB k info).size = 32 := expandB_size _ _
  (first | refine FnD.go Try.call66 Try.func66 rfl rfl rfl ?_ | refine FnX.go Try.call66 Try.func66 rfl rfl rfl ?_)
  (repeat (first | refine gw ?_ | refine g ?_))
  refine run_cutI (X := Unit) (fun _ => True) (fun x => [(8, .string (expandB k info)), (2, .int .i64 32)]) (fun x => []) ?_ fun x _ => ?_
  · refine run_loopI (X := Nat × ByteArray × ByteArray) (fun x => x.1 ≤ 1 ∧ (x.1 = 0 → x.2.1 = ⟨#[]⟩ ∧ x.2.2 = ⟨#[]⟩) ∧ (x.1 = 1 → x.2.2 = expandB k info)) (fun x => [(0, .string k), (1, .string info), (2, .int .i64 32), (8, .string x.2.2), (9, .string x.2.1), (10, .int .i64 ((1 + x.1 : Nat) : Int))]) (fun x => []) (fun x => 1 - x.1) (0, ⟨#[]⟩, ⟨#[]⟩) ⟨Nat.zero_le _, fun _ => ⟨rfl, rfl⟩, fun h => by cases h⟩ fct shut ?_
    intro ⟨i, t, u⟩ ⟨hi, ht, hu⟩
    dsimp only at *
    by_cases h0 : i = 0
    · subst h0
      obtain ⟨rfl, rfl⟩ := ht rfl
      have hz0 : (⟨#[]⟩ : ByteArray).size = 0 := rfl
      have hz1 : ((⟨#[]⟩ : ByteArray) ++ info).size = info.size := by rw [ByteArray.size_append, hz0, Nat.zero_add]
      (repeat (first | refine gw ?_ | refine g ?_))
      refine s_built fun rb => ?_
      (repeat (first | refine gw ?_ | refine g ?_))
      refine s_stringc (m := 1) (o := 0) (l := [1]) rfl rfl ?_
      have hz2 : (⟨[(1 : UInt8)].toArray⟩ : ByteArray).size = 1 := rfl
      have hz3 : ((⟨#[]⟩ : ByteArray) ++ info ++ ⟨[(1 : UInt8)].toArray⟩).size = info.size + 1 := by rw [ByteArray.size_append, hz1, hz2]
      have cb := refMac_spec q k ((⟨#[]⟩ : ByteArray) ++ info ++ ⟨[(1 : UInt8)].toArray⟩) hk (by omega)
      have el : macB k ((⟨#[]⟩ : ByteArray) ++ info ++ ⟨[(1 : UInt8)].toArray⟩) = expandB k info := by
        unfold macB expandB expand
        rw [app_list, app_list]; rfl
      rw [el] at cb
      (repeat (first | refine gw ?_ | refine g ?_))
      refine s_call cb ?_
      (repeat (first | refine gw ?_ | refine g ?_))
      have he : (⟨#[]⟩ : ByteArray) ++ expandB k info = expandB k info := ByteArray.empty_append
      exact run_stop_loop (1, expandB k info, (⟨#[]⟩ : ByteArray) ++ expandB k info) ⟨⟨Nat.le_refl _, fun h => by dsimp only at h; omega, fun _ => he⟩, by dsimp only; omega⟩ fct shut
    · obtain rfl : i = 1 := by omega
      obtain rfl := hu rfl
      (repeat (first | refine gw ?_ | refine g ?_))
      exact run_stop_loop () trivial fct shut
  have ee : (expandB k info).extract (0 : Int).toNat (32 : Int).toNat = expandB k info := by
    rw [show (0 : Int).toNat = 0 from rfl, show (32 : Int).toNat = (expandB k info).size by rw [hEl]; rfl, ByteArray.extract_zero_size]
  (repeat (first | refine gw ?_ | refine g ?_))
  rw [ee]
  (repeat (first | refine gw ?_ | refine g ?_))
  exact run_ret rfl (imp_RD rfl shut)
end Go.Proofs.Ytajndpddlpnbkaa.V
