/- What each slot opens, whatever is added, dropped and changed. -/
import Derived.Test.YtibookgcaboldaaKZb
set_option maxRecDepth 10000
set_option linter.unusedVariables false
namespace Go.Proofs.Ytibookgcaboldaa.V
open Go.Proofs.Ytibookgcaboldaa.VL Go.Proofs.Ytibookgcaboldaa.VL.Sha
attribute [local irreducible] sha shaB sealB openB stretchB bndB
structure Good (k : KeysT) (hv ks : List ByteArray) : Prop where
  right : rightK k = true
  len : k.sl.length = 4
  hl : hv.length = 4
  kl : ks.length = 4
  hz : ∀ x ∈ hv, x.size ≤ 100
  kz : ∀ x ∈ ks, x.size ≤ 48
  opens : ∀ j s, k.sl[j]? = some s → s.used = true → tryS (hv.getD j ⟨#[]⟩) j s = (ks.getD j ⟨#[]⟩, 0)
theorem rightK_iff (gn : Int) (l : List SlotT) : rightK ⟨gn, l⟩ = true ↔ (∀ s ∈ l, rightF s = true) ∧ 0 < cntU l 4 ∧ 0 ≤ gn ∧ gn < 4294967296 := by
  unfold rightK
  simp only [Bool.and_eq_true, decide_eq_true_eq, List.all_eq_true]
theorem cntU_pos : ∀ (l : List SlotT) (i n : Nat) (s : SlotT), l[i]? = some s → s.used = true → i < n → 0 < cntU l n
  | [], i, n, s, h, _, _ => by cases h
  | t :: l, i, 0, s, _, _, hn => absurd hn (by omega)
  | t :: l, 0, n + 1, s, h, hu, hn => by
    obtain rfl : t = s := by simpa using h
    unfold cntU; rw [if_pos hu]; omega
  | t :: l, i + 1, n + 1, s, h, hu, hn => by
    have := cntU_pos l i n s (by simpa using h) hu (by omega)
    unfold cntU; omega
theorem mem_set {α : Type} {l : List α} {i : Nat} {x y : α} (h : y ∈ l.set i x) : y = x ∨ y ∈ l := (List.mem_or_eq_of_mem_set h).symm
theorem rightK_set (k : KeysT) (i : Nat) (S : SlotT) (hr : rightK k = true) (hk : k.sl.length = 4) (hi : i < 4) (hS : rightF S = true) (hu : S.used = true) (hg : k.gen + 1 < 4294967296) : rightK ⟨k.gen + 1, k.sl.set i S⟩ = true := by
  obtain ⟨gn, sl⟩ := k
  obtain ⟨h1, h2, h3, h4⟩ := (rightK_iff _ _).1 hr
  refine (rightK_iff _ _).2 ⟨fun s hs => ?_, cntU_pos _ i 4 S (by rw [List.getElem?_set_self (by rw [hk]; exact hi)]) hu hi, by dsimp only; omega, hg⟩
  rcases mem_set hs with rfl | hs
  · exact hS
  · exact h1 s hs
theorem openB_ok {key no ad s m : ByteArray} (h : openB key no ad s = (m, 0)) : m.size = s.size - 16 := by
  unfold openB at h
  split at h
  · split at h
    · cases h
    · split at h
      · obtain ⟨rfl, _⟩ := Prod.mk.inj h
        rw [streamed_len, ByteArray.size_extract]; omega
      · cases h
  · cases h
theorem tryS_size {pa m : ByteArray} {i : Nat} {s : SlotT} (hr : rightF s = true) (hu : s.used = true) (h : tryS pa i s = (m, 0)) : m.size = 32 := by
  have := openB_ok h
  rw [(right_used hr hu).2.2.2.2] at this
  exact this
theorem try_sealed (i n : Nat) (m ot sa no : ByteArray) (hn : no.size = 12) : tryS ot i (sealedK i m ot sa no n) = (m, 0) := openB_sealB _ _ _ _ (stretchB_size _ _ _) hn
theorem getD_set1 {l : List ByteArray} {i j : Nat} {x d : ByteArray} (hi : i < l.length) : (l.set i x).getD j d = if j = i then x else l.getD j d := by
  rw [List.getD_eq_getElem?_getD, List.getD_eq_getElem?_getD]
  by_cases h : j = i
  · subst h; rw [if_pos rfl, List.getElem?_set_self hi]; rfl
  · rw [if_neg h, List.getElem?_set_ne (fun e => h e.symm)]
theorem good_set {k : KeysT} {hv ks : List ByteArray} (G : Good k hv ks) (i n : Nat) (hi : i < 4) (m ot : ByteArray) (hm : m.size = 32) (ho : ot.size ≤ 100) (n1 : 1 ≤ n) (n2 : n ≤ 1000) (hg : k.gen + 1 < 4294967296) :
    Good ⟨k.gen + 1, k.sl.set i (sealedK i m ot (bl saL) (bl noL) n)⟩ (hv.set i ot) (ks.set i m) := by
  refine ⟨rightK_set k i _ G.right G.len hi (sealedK_right m ot (bl saL) (bl noL) i n hm rfl rfl n1 n2) rfl hg, ?_, ?_, ?_, ?_, ?_, ?_⟩
  · show (k.sl.set i _).length = 4; rw [List.length_set]; exact G.len
  · rw [List.length_set]; exact G.hl
  · rw [List.length_set]; exact G.kl
  · intro x hx
    rcases mem_set hx with rfl | hx
    · exact ho
    · exact G.hz x hx
  · intro x hx
    rcases mem_set hx with rfl | hx
    · omega
    · exact G.kz x hx
  · intro j s hs hu
    dsimp only at hs
    rw [getD_set1 (by rw [G.hl]; exact hi), getD_set1 (by rw [G.kl]; exact hi)]
    by_cases h : j = i
    · subst h
      rw [List.getElem?_set_self (by rw [G.len]; exact hi)] at hs
      obtain rfl := Option.some.inj hs
      rw [if_pos rfl, if_pos rfl]
      exact try_sealed _ _ _ _ _ _ rfl
    · rw [List.getElem?_set_ne (fun e => h e.symm)] at hs
      rw [if_neg h, if_neg h]
      exact G.opens j s hs hu
theorem fits_const (n : Nat) (n1 : 1 ≤ n) (n2 : n ≤ 1000) : fitsF (bl saL) (bl noL) (n : Int) = true := decide_eq_true ⟨rfl, rfl, by omega, by omega⟩
theorem grown_ok {k l : KeysT} (h : grownK k = (l, 0)) : k.gen + 1 < 4294967296 ∧ l = ⟨k.gen + 1, k.sl⟩ := by
  unfold grownK at h
  split at h
  · cases h
  · exact ⟨by omega, (Prod.mk.inj h).1.symm⟩
theorem place4 {k : KeysT} (hk : k.sl.length = 4) {i : Nat} {s : SlotT} (h : k.sl[i]? = some s) : i < 4 := by
  have := (List.getElem?_eq_some_iff.1 h).1
  omega
theorem good_change {k : KeysT} {hv ks : List ByteArray} (G : Good k hv ks) (n : Nat) (n1 : 1 ≤ n) (n2 : n ≤ 1000) (pa ot : ByteArray) (ho : ot.size ≤ 100) (l : KeysT) (hf : changeK k pa ot (bl saL) (bl noL) n = (l, 0)) :
    ∃ (i : Nat) (m : ByteArray), openK k pa = (m, (i : Int), 0) ∧ i < 4 ∧ Good l (hv.set i ot) (ks.set i m) := by
  unfold changeK at hf
  rw [if_pos (fits_const n n1 n2)] at hf
  split at hf
  · rename_i he
    obtain ⟨_, i, s, e1, e2, e3, e4⟩ := openK_place k pa he
    have hi := place4 G.len e2
    obtain ⟨hg, rfl⟩ := grown_ok hf
    refine ⟨i, (openK k pa).1, ?_, hi, ?_⟩
    · rw [← e1, ← he]
    · rw [e1, Int.toNat_natCast, Int.toNat_natCast]
      exact good_set G i n hi _ ot (tryS_size (right_all G.right s (List.mem_of_getElem? e2)) e3 e4) ho n1 n2 hg
  · rename_i he
    exact absurd (Prod.mk.inj hf).2 he
theorem good_add {k : KeysT} {hv ks : List ByteArray} (G : Good k hv ks) (n : Nat) (n1 : 1 ≤ n) (n2 : n ≤ 1000) (pa ot : ByteArray) (ho : ot.size ≤ 100) (l : KeysT) (a : Int) (hf : addK k pa ot (bl saL) (bl noL) n = (l, a, 0)) :
    ∃ (i : Nat) (m : ByteArray) (o : Int), openK k pa = (m, o, 0) ∧ a = (i : Int) ∧ i < 4 ∧ Good l (hv.set i ot) (ks.set i m) := by
  unfold addK at hf
  rw [if_pos (fits_const n n1 n2)] at hf
  split at hf
  · rename_i he
    obtain ⟨_, i0, s0, e1, e2, e3, e4⟩ := openK_place k pa he
    split at hf
    · rename_i i hfr
      obtain ⟨j, s, h1, h2, h3⟩ := freeL_place k.sl 0 i hfr
      obtain rfl : i = j := by omega
      have hi := place4 G.len h2
      unfold addIn at hf
      split at hf
      · cases hf
      · rename_i hg
        obtain ⟨rfl, hr⟩ := Prod.mk.inj hf
        obtain ⟨rfl, _⟩ := Prod.mk.inj hr
        refine ⟨i, (openK k pa).1, (openK k pa).2.1, ?_, rfl, hi, ?_⟩
        · rw [← he]
        · rw [Int.toNat_natCast]
          exact good_set G i n hi _ ot (tryS_size (right_all G.right s0 (List.mem_of_getElem? e2)) e3 e4) ho n1 n2 (by omega)
    · cases hf
  · rename_i he
    exact absurd (Prod.mk.inj (Prod.mk.inj hf).2).2 he
theorem good_drop {k : KeysT} {hv ks : List ByteArray} (G : Good k hv ks) (pa : ByteArray) (w : Int) (l : KeysT) (hf : dropK k pa w = (l, 0)) :
    ∃ (i : Nat) (m : ByteArray), openK k pa = (m, (i : Int), 0) ∧ i < 4 ∧ Good l hv ks := by
  unfold dropK at hf
  split at hf
  · rename_i he
    obtain ⟨_, i, s, e1, e2, e3, e4⟩ := openK_place k pa he
    have hi := place4 G.len e2
    refine ⟨i, (openK k pa).1, by rw [← e1, ← he], hi, ?_⟩
    split at hf
    · split at hf
      · rename_i hr
        obtain ⟨hg, rfl⟩ := grown_ok hf
        obtain ⟨h1, h2, h3, h4⟩ := (rightK_iff _ _).1 hr
        have h3' : 0 ≤ (dropped k w).gen := h3
        refine ⟨(rightK_iff _ _).2 ⟨h1, h2, by omega, hg⟩, ?_, G.hl, G.kl, G.hz, G.kz, ?_⟩
        · show (k.sl.set _ _).length = 4; rw [List.length_set]; exact G.len
        · intro j t ht hu
          have ht' : (k.sl.set w.toNat zeroS)[j]? = some t := ht
          by_cases h : j = w.toNat
          · subst h
            rcases Nat.lt_or_ge w.toNat k.sl.length with hlt | hge
            · rw [List.getElem?_set_self hlt] at ht'
              obtain rfl := Option.some.inj ht'
              cases hu
            · rw [List.set_eq_of_length_le hge] at ht'
              exact G.opens _ t ht' hu
          · rw [List.getElem?_set_ne (fun e => h e.symm)] at ht'
            exact G.opens j t ht' hu
      · cases hf
    · cases hf
  · rename_i he
    exact absurd (Prod.mk.inj hf).2 he
/-- A key ring of one of the slots. -/
def aloneK (k : KeysT) (j : Nat) (s : SlotT) : KeysT := ⟨k.gen, [zeroS, zeroS, zeroS, zeroS].set j s⟩
theorem aloneK_len (k : KeysT) (j : Nat) (s : SlotT) : (aloneK k j s).sl.length = 4 := by unfold aloneK; simp
theorem open_alone {k : KeysT} {hv ks : List ByteArray} (G : Good k hv ks) (j : Nat) (s : SlotT) (hs : k.sl[j]? = some s) (hu : s.used = true) :
    openK (aloneK k j s) (hv.getD j ⟨#[]⟩) = (ks.getD j ⟨#[]⟩, (j : Int), 0) := by
  have hj := place4 G.len hs
  have hsr := right_all G.right s (List.mem_of_getElem? hs)
  have hg := rightK_gen G.right
  have ht := G.opens j s hs hu
  have hz : rightF zeroS = true := by decide
  have hr : rightK (aloneK k j s) = true := by
    refine (rightK_iff _ _).2 ⟨fun t htm => ?_, cntU_pos _ j 4 s (by rw [List.getElem?_set_self (by simpa using hj)]) hu hj, hg.1, hg.2⟩
    rcases mem_set htm with rfl | htm
    · exact hsr
    · simp only [List.mem_cons, List.not_mem_nil, or_false, or_self] at htm
      rw [htm]; exact hz
  unfold openK
  rw [if_pos hr]
  have hzu : ¬ (zeroS.used = true ∧ ∀ x : Nat, True) := by rintro ⟨h, _⟩; cases h
  have sk : ∀ (pa : ByteArray) (l : List SlotT) (i : Nat), openL pa (zeroS :: l) i = openL pa l (i + 1) := fun pa l i => by
    rw [openL, if_neg (by rintro ⟨h, _⟩; cases h)]
  have hit : ∀ (l : List SlotT), openL (hv.getD j ⟨#[]⟩) (s :: l) j = (ks.getD j ⟨#[]⟩, (j : Int), 0) := fun l => by
    rw [openL, ht, if_pos ⟨hu, rfl⟩]
  match j, hj with
  | 0, _ => exact hit _
  | 1, _ => show openL _ [zeroS, s, zeroS, zeroS] 0 = _; rw [sk]; exact hit _
  | 2, _ => show openL _ [zeroS, zeroS, s, zeroS] 0 = _; rw [sk, sk]; exact hit _
  | 3, _ => show openL _ [zeroS, zeroS, zeroS, s] 0 = _; rw [sk, sk, sk]; exact hit _
theorem good_first (pa : ByteArray) (hp : pa.size ≤ 100) : Good ⟨0, [sealedK 0 (bl maL) pa (bl saL) (bl noL) 1, zeroS, zeroS, zeroS]⟩ [pa, ⟨#[]⟩, ⟨#[]⟩, ⟨#[]⟩] [bl maL, ⟨#[]⟩, ⟨#[]⟩, ⟨#[]⟩] := by
  refine ⟨firstK_right _ _ _ _ rfl rfl rfl, rfl, rfl, rfl, ?_, ?_, ?_⟩
  · intro x hx
    simp only [List.mem_cons, List.not_mem_nil, or_false, or_self] at hx
    rcases hx with rfl | rfl
    · exact hp
    · decide
  · intro x hx
    simp only [List.mem_cons, List.not_mem_nil, or_false, or_self] at hx
    rcases hx with rfl | rfl
    · decide
    · decide
  · intro j s hs hu
    match j with
    | 0 =>
      obtain rfl : sealedK 0 (bl maL) pa (bl saL) (bl noL) 1 = s := Option.some.inj hs
      exact try_sealed _ _ _ _ _ _ rfl
    | 1 => obtain rfl : zeroS = s := Option.some.inj hs; cases hu
    | 2 => obtain rfl : zeroS = s := Option.some.inj hs; cases hu
    | 3 => obtain rfl : zeroS = s := Option.some.inj hs; cases hu
    | j + 4 => cases hs
end Go.Proofs.Ytibookgcaboldaa.V
namespace Go.Proofs.Ytibookgcaboldaa.V
open Go.Proofs.Ytibookgcaboldaa.VL Go.Proofs.Ytibookgcaboldaa.VL.Sha
attribute [local irreducible] Run
theorem alone_spec (q : View) (k : KeysT) (hk : k.sl.length = 4) (j : Nat) (hj : j < 4) (s : SlotT) (hs : k.sl[j]? = some s) : FnD Try.prog q 36 [.agg ⟨encKeys k⟩, .int .i64 (j : Int)] [] (.agg ⟨encKeys (aloneK k j s)⟩) [] := by
  have hl := encKeys_len hk
  have hkl := encKs_len k.sl
  rw [hk] at hkl
  have hca : ((Value.int .i64 k.gen :: encKs k.sl).drop (1 + j * 5)).take 5 = encS s := by
    rw [show 1 + j * 5 = j * 5 + 1 by omega, List.drop_succ_cons]; exact encKs_all k.sl j s hs
  have hput : putAt (encKeys ⟨k.gen, [zeroS, zeroS, zeroS, zeroS]⟩) (1 + j * 5) (encS s) = encKeys (aloneK k j s) := encKeys_put ⟨k.gen, [zeroS, zeroS, zeroS, zeroS]⟩ j s (by show j < 4; exact hj)
  have hl0 := encKeys_len (k := ⟨k.gen, [zeroS, zeroS, zeroS, zeroS]⟩) rfl
  have hl2 := encKeys_len (k := aloneK k j s) (aloneK_len k j s)
  have h12 := encKeys_one (aloneK k j s)
  (first | refine FnD.go Try.call36 Try.func36 rfl rfl rfl ?_ | refine FnX.go Try.call36 Try.func36 rfl rfl rfl ?_)
  (repeat (first | refine g ?_))
  refine s_box fun b => ?_
  refine s_ceq b (.int .i64 k.gen :: encKs k.sl) ?_ ?_
  · rfl
  (repeat (first | refine g ?_))
  refine s_alloc fun rk => ?_
  (repeat (first | refine g ?_))
  refine s_alloc fun bo => ?_
  (repeat (first | refine g ?_))
  refine s_idr (kk := 5) (1 + j * 5) ?_
  (repeat (first | refine g ?_))
  refine s_getat (m := 5) hca ?_
  (repeat (first | refine g ?_))
  refine s_idr (kk := 5) (1 + j * 5) ?_
  (repeat (first | refine g ?_))
  refine s_ceq bo (encKeys ⟨k.gen, [zeroS, zeroS, zeroS, zeroS]⟩) ?_ ?_
  · rfl
  refine s_put (vs := encS s) (h1 := encS_one s) (hi := by rw [hl0]; show 1 + j * 5 + 5 ≤ 21; omega) ?_
  rw [hput]
  obtain ⟨E, hE⟩ : ∃ E, E = encKeys (aloneK k j s) := ⟨_, rfl⟩
  rw [← hE] at hl2 h12 ⊢
  (repeat (first | refine g ?_))
  refine s_getall (hz := hl2) ?_
  (repeat (first | refine g ?_))
  refine s_putall (h1 := h12) (hz := hl2) (hi := by rw [hl2]; rfl) ?_
  (repeat (first | refine g ?_))
  refine run_ret1 (imp_RD ?_ shut) rfl (res_cell tabOk rfl rfl rfl (by repeat (first | (with_reducible exact At.head) | apply At.tail)) hl2)
  rfl
end Go.Proofs.Ytibookgcaboldaa.V
namespace Go.Proofs.Ytibookgcaboldaa.V
open Go.Proofs.Ytibookgcaboldaa.VL Go.Proofs.Ytibookgcaboldaa.VL.Sha
attribute [local irreducible] Run sha shaB sealB openB stretchB bndB
def OpsQ (q : View) (p : Option Addr) (l : List OpT) : Prop := RowQ q p l.length 7 (l.flatMap encOp) ∧ ∀ x ∈ l, OpOk x
theorem enc7 (l : List OpT) (i : Nat) (x : OpT) (h : l[i]? = some x) (j : Nat) (hj : j < 7) : (l.flatMap encOp)[i * 7 + j]? = (encOp x)[j]? := by
  induction l generalizing i with
  | nil => cases h
  | cons y l ih =>
    rw [List.flatMap_cons]
    have e5 : (encOp y).length = 7 := rfl
    cases i with
    | zero =>
      obtain rfl := Option.some.inj h
      rw [List.getElem?_append_left (by omega)]; congr 1; omega
    | succ i =>
      rw [List.getElem?_append_right (by omega), e5, show (i + 1) * 7 + j - 7 = i * 7 + j by omega]
      exact ih i h
theorem enc7_len (l : List OpT) : (l.flatMap encOp).length = l.length * 7 := by
  induction l with
  | nil => rfl
  | cons y l ih => rw [List.flatMap_cons, List.length_append, ih, List.length_cons]; show 7 + _ = _; omega
theorem enc7_all (l : List OpT) (i : Nat) (x : OpT) (h : l[i]? = some x) : ((l.flatMap encOp).drop (i * 7)).take 7 = encOp x := by
  apply List.ext_getElem?
  intro j
  rw [List.getElem?_take, List.getElem?_drop]
  split
  · rename_i hj; exact enc7 l i x h j hj
  · rename_i hj; rw [List.getElem?_eq_none]; show 7 ≤ j; omega
theorem OpsQ.at {q : View} {p : Option Addr} {l : List OpT} (h : OpsQ q p l) (i : Nat) (hi : i < l.length) : ∃ x b o, l[i]? = some x ∧ OpOk x ∧ p = some ⟨b, o, none⟩ ∧ Old q b o (l.flatMap encOp) ∧ ((l.flatMap encOp).drop (i * 7)).take 7 = encOp x ∧ i * 7 + 7 ≤ (l.flatMap encOp).length := by
  obtain ⟨x, hx⟩ : ∃ x, l[i]? = some x := ⟨_, List.getElem?_eq_getElem hi⟩
  have hlen := (List.getElem?_eq_some_iff.1 hx).1
  obtain ⟨b, o, ep, ho⟩ := h.1.old (by omega)
  exact ⟨x, b, o, hx, h.2 x (List.mem_of_getElem? hx), ep, ho, enc7_all l i x hx, by rw [enc7_len]; omega⟩
/-- Texts in a row. -/
def sv (l : List ByteArray) : List Value := l.map Value.string
theorem sv_set (l : List ByteArray) (i : Nat) (x : ByteArray) : (sv l).set i (.string x) = sv (l.set i x) := by unfold sv; rw [List.map_set]
theorem sv_at (l : List ByteArray) (i : Nat) (h : i < l.length) : (sv l)[i]? = some (.string (l.getD i ⟨#[]⟩)) := by
  unfold sv; rw [List.getElem?_map, List.getD_eq_getElem?_getD, List.getElem?_eq_getElem h]; rfl
theorem sv_len (l : List ByteArray) : (sv l).length = l.length := List.length_map _
theorem and1 (r : Int) : IntKind.i64.wrap ((BitVec.ofInt IntKind.i64.bits r &&& BitVec.ofInt IntKind.i64.bits 1).toNat : Int) = 0 ∨ IntKind.i64.wrap ((BitVec.ofInt IntKind.i64.bits r &&& BitVec.ofInt IntKind.i64.bits 1).toNat : Int) = 1 := by
  have e1 : (BitVec.ofInt IntKind.i64.bits 1).toNat = 1 := rfl
  rw [BitVec.toNat_and, e1, Nat.and_one_is_mod]
  rcases Nat.mod_two_eq_zero_or_one (BitVec.ofInt IntKind.i64.bits r).toNat with h | h
  · rw [h]; left; decide
  · rw [h]; right; decide
set_option maxHeartbeats 2000000 in
theorem keepsLaw_spec (q : View) (pa : ByteArray) (p : Option Addr) (c : Nat) (l : List OpT) (hq : OpsQ q p l) (hl : l.length ≤ 9223372036854775807) :
    FnD Try.prog q 13 [.string pa, .slice p l.length c] [] (.bool true) [] := by
  have cc := cut_spec q pa
  have hcz := cutB_size pa
  have ef : firstK (bl maL) (cutB pa) (bl saL) (bl noL) 1 = (⟨0, [sealedK 0 (bl maL) (cutB pa) (bl saL) (bl noL) 1, zeroS, zeroS, zeroS]⟩, 0) := by
    unfold firstK
    rw [if_pos (by decide)]; rfl
  have c1 := firstK_spec q (bl maL) (cutB pa) (bl saL) (bl noL) 1 (by decide) (by decide) (by omega)
  have hK := firstK_ok (bl maL) (cutB pa) (bl saL) (bl noL) 1
  have hG := good_first (cutB pa) hcz
  rw [ef] at c1 hK
  dsimp only at c1 hK
  obtain ⟨K0, hKd⟩ : ∃ K : KeysT, K = ⟨0, [sealedK 0 (bl maL) (cutB pa) (bl saL) (bl noL) 1, zeroS, zeroS, zeroS]⟩ := ⟨_, rfl⟩
  rw [← hKd] at c1 hK hG
  have hl0 := encKeys_len hK.len
  have h10 := encKeys_one K0
  have ca := awake_spec q
  (first | refine FnD.go Try.call13 Try.func13 rfl rfl rfl ?_ | refine FnX.go Try.call13 Try.func13 rfl rfl rfl ?_)
  (repeat (first | refine g ?_))
  refine s_call (master_spec q) ?_
  (repeat (first | refine g ?_))
  refine s_call cc ?_
  (repeat (first | refine g ?_))
  refine s_call c1 ?_
  (repeat (first | refine g ?_))
  refine s_alloc fun bk => ?_
  obtain ⟨E0, hE0⟩ : ∃ E, E = encKeys K0 := ⟨_, rfl⟩
  rw [← hE0] at hl0 h10 ⊢
  (repeat (first | refine g ?_))
  refine s_putall (h1 := h10) (hz := hl0) (hi := by rw [hl0]; rfl) ?_
  (repeat (first | refine g ?_))
  refine s_call cc ?_
  (repeat (first | refine g ?_))
  refine s_built fun bh => ?_
  (repeat (first | refine g ?_))
  refine s_call (master_spec q) ?_
  (repeat (first | refine g ?_))
  refine s_built fun bs => ?_
  (repeat (first | refine g ?_))
  refine run_cutI (X := KeysT) (fun K => KeysOk K ∧ ∃ hv ks, Good K hv ks) (fun _ => [(5, .pointer (some ⟨bk, 0, none⟩))]) (fun K => [cells bk 26 ⟨encKeys K⟩]) ?_ ?_
  · refine s_ceq bh (sv [cutB pa, ⟨#[]⟩, ⟨#[]⟩, ⟨#[]⟩]) ?_ ?_
    · rfl
    refine s_ceq bs (sv [bl maL, ⟨#[]⟩, ⟨#[]⟩, ⟨#[]⟩]) ?_ ?_
    · rfl
    rw [hE0]
    refine run_loopI (X := Nat × KeysT × List ByteArray × List ByteArray) (fun x => x.1 ≤ l.length ∧ KeysOk x.2.1 ∧ Good x.2.1 x.2.2.1 x.2.2.2) (fun x => [(1, .slice p l.length c), (5, .pointer (some ⟨bk, 0, none⟩)), (7, .slice (some ⟨bh, 0, none⟩) 4 4), (8, .slice (some ⟨bs, 0, none⟩) 4 4), (9, .int .i64 (x.1 : Int))])
      (fun x => [cells bk 26 ⟨encKeys x.2.1⟩, cells bh 9 ⟨sv x.2.2.1⟩, cells bs 9 ⟨sv x.2.2.2⟩]) (fun x => l.length - x.1) (0, K0, [cutB pa, ⟨#[]⟩, ⟨#[]⟩, ⟨#[]⟩], [bl maL, ⟨#[]⟩, ⟨#[]⟩, ⟨#[]⟩]) ⟨Nat.zero_le _, hK, hG⟩ fct shut ?_
    intro ⟨i, K, hv, ks⟩ ⟨hi, hKo, G⟩
    dsimp only at *
    have hlE := encKeys_len G.len
    have h1E := encKeys_one K
    (repeat (first | refine g ?_))
    refine run_split_dec rfl rfl rfl rfl rfl ?_ ?_
    · intro hi1
      (repeat (first | refine g ?_))
      refine run_cond_dec rfl ?_ ?_
      · intro hi2
        obtain ⟨x, xb, xo, hx, hxo, ep, ho, hxa, hxl⟩ := hq.at i (by omega)
        subst ep
        have cP := cut_spec q x.pass
        have cO := cut_spec q x.other
        have zP := cutB_size x.pass
        have zO := cutB_size x.other
        (repeat (first | refine g ?_))
        refine s_idxo (kk := 7) (xo + i * 7) ?_
        refine s_loadao (j := i * 7) ho hxa hxl (by omega) ?_
        unfold encOp
        (repeat (first | refine g ?_))
        refine s_alloc fun rx => ?_
        (repeat (first | refine g ?_))
        obtain ⟨v, hv1, hv2⟩ : ∃ v : Nat, IntKind.i64.wrap ((BitVec.ofInt IntKind.i64.bits x.rounds &&& BitVec.ofInt IntKind.i64.bits 1).toNat : Int) = (v : Int) ∧ v ≤ 1 := by
          rcases and1 x.rounds with h | h
          · exact ⟨0, h, by decide⟩
          · exact ⟨1, h, by decide⟩
        refine s_to 55 (v := .int .i64 (IntKind.i64.wrap ((BitVec.ofInt IntKind.i64.bits x.rounds &&& BitVec.ofInt IntKind.i64.bits 1).toNat : Int))) (w := .int .i64 (v : Int)) (by rw [hv1]) ?_
        have co := openK_spec q K hKo (cutB x.pass) (by omega)
        have hoz := openK_size K (cutB x.pass)
        (repeat (first | refine g ?_))
        obtain ⟨n, hn, n1, n2⟩ : ∃ n : Nat, 1 + ((v : Int) + 1) % 2 = (n : Int) ∧ 1 ≤ n ∧ n ≤ 2 := ⟨1 + (v + 1) % 2, by omega, by omega, by omega⟩
        refine s_to 11 (v := .int .i64 (1 + ((v : Int) + 1) % 2)) (w := .int .i64 (n : Int)) (by rw [hn]) ?_
        have gch := good_change G n n1 (by omega) (cutB x.pass) (cutB x.other) zO
        have gad := good_add G n n1 (by omega) (cutB x.pass) (cutB x.other) zO
        have gdr := good_drop G (cutB x.pass) x.which
        have cch := changeK_spec q K hKo (cutB x.pass) (cutB x.other) (bl saL) (bl noL) n (by omega) (by omega) (by omega) (by omega)
        have cad := addK_spec q K hKo (cutB x.pass) (cutB x.other) (bl saL) (bl noL) n (by omega) (by omega) (by omega) (by omega)
        have cdr := dropK_spec q K hKo (cutB x.pass) x.which hxo.w0 hxo.w1 (by omega)
        have kch := changeK_ok hKo (cutB x.pass) (cutB x.other) (bl saL) (bl noL) n
        have kad := addK_ok hKo (cutB x.pass) (cutB x.other) (bl saL) (bl noL) n
        have kdr := dropK_ok hKo (cutB x.pass) x.which
        obtain ⟨⟨m, a, e⟩, hO⟩ : ∃ O, O = openK K (cutB x.pass) := ⟨_, rfl⟩
        rw [← hO] at co hoz gch gad gdr
        dsimp only at co hoz
        obtain ⟨⟨LC, fc⟩, hC⟩ : ∃ O, O = changeK K (cutB x.pass) (cutB x.other) (bl saL) (bl noL) n := ⟨_, rfl⟩
        obtain ⟨⟨LA, aa, fa⟩, hA⟩ : ∃ O, O = addK K (cutB x.pass) (cutB x.other) (bl saL) (bl noL) n := ⟨_, rfl⟩
        obtain ⟨⟨LD, fd⟩, hD⟩ : ∃ O, O = dropK K (cutB x.pass) x.which := ⟨_, rfl⟩
        rw [← hC] at cch gch kch
        rw [← hA] at cad gad kad
        rw [← hD] at cdr gdr kdr
        dsimp only at cch cad cdr kch kad kdr
        obtain ⟨E, hE⟩ : ∃ E, E = encKeys K := ⟨_, rfl⟩
        rw [← hE] at hlE h1E co cch cad cdr ⊢
        refine d_start [] ?_
        refine d_getall 0 hlE ?_
        (first | refine d_pure 1 ?_ | refine d_load 1 ?_ | refine d_arith 1 ?_ | refine d_rem 1 ?_ | refine d_quo 1 ?_ | refine d_shrv 1 ?_ | refine d_fieldat 1 ?_ | refine d_idx1 1 ?_ | refine d_index 1 ?_ | refine d_conv64 1 ?_ | refine d_slices 1 ?_ | refine d_concat 1 ?_ | refine d_build 1 ?_)
        (first | refine d_pure 2 ?_ | refine d_load 2 ?_ | refine d_arith 2 ?_ | refine d_rem 2 ?_ | refine d_quo 2 ?_ | refine d_shrv 2 ?_ | refine d_fieldat 2 ?_ | refine d_idx1 2 ?_ | refine d_index 2 ?_ | refine d_conv64 2 ?_ | refine d_slices 2 ?_ | refine d_concat 2 ?_ | refine d_build 2 ?_)
        refine d_call 3 cP ?_
        refine d_call 4 co ?_
        (first | refine d_pure 5 ?_ | refine d_load 5 ?_ | refine d_arith 5 ?_ | refine d_rem 5 ?_ | refine d_quo 5 ?_ | refine d_shrv 5 ?_ | refine d_fieldat 5 ?_ | refine d_idx1 5 ?_ | refine d_index 5 ?_ | refine d_conv64 5 ?_ | refine d_slices 5 ?_ | refine d_concat 5 ?_ | refine d_build 5 ?_)
        (first | refine d_pure 6 ?_ | refine d_load 6 ?_ | refine d_arith 6 ?_ | refine d_rem 6 ?_ | refine d_quo 6 ?_ | refine d_shrv 6 ?_ | refine d_fieldat 6 ?_ | refine d_idx1 6 ?_ | refine d_index 6 ?_ | refine d_conv64 6 ?_ | refine d_slices 6 ?_ | refine d_concat 6 ?_ | refine d_build 6 ?_)
        (first | refine d_pure 7 ?_ | refine d_load 7 ?_ | refine d_arith 7 ?_ | refine d_rem 7 ?_ | refine d_quo 7 ?_ | refine d_shrv 7 ?_ | refine d_fieldat 7 ?_ | refine d_idx1 7 ?_ | refine d_index 7 ?_ | refine d_conv64 7 ?_ | refine d_slices 7 ?_ | refine d_concat 7 ?_ | refine d_build 7 ?_)
        (first | refine d_pure 8 ?_ | refine d_load 8 ?_ | refine d_arith 8 ?_ | refine d_rem 8 ?_ | refine d_quo 8 ?_ | refine d_shrv 8 ?_ | refine d_fieldat 8 ?_ | refine d_idx1 8 ?_ | refine d_index 8 ?_ | refine d_conv64 8 ?_ | refine d_slices 8 ?_ | refine d_concat 8 ?_ | refine d_build 8 ?_)
        (first | refine d_pure 9 ?_ | refine d_load 9 ?_ | refine d_arith 9 ?_ | refine d_rem 9 ?_ | refine d_quo 9 ?_ | refine d_shrv 9 ?_ | refine d_fieldat 9 ?_ | refine d_idx1 9 ?_ | refine d_index 9 ?_ | refine d_conv64 9 ?_ | refine d_slices 9 ?_ | refine d_concat 9 ?_ | refine d_build 9 ?_)
        (first | refine d_pure 10 ?_ | refine d_load 10 ?_ | refine d_arith 10 ?_ | refine d_rem 10 ?_ | refine d_quo 10 ?_ | refine d_shrv 10 ?_ | refine d_fieldat 10 ?_ | refine d_idx1 10 ?_ | refine d_index 10 ?_ | refine d_conv64 10 ?_ | refine d_slices 10 ?_ | refine d_concat 10 ?_ | refine d_build 10 ?_)
        (first | refine d_pure 11 ?_ | refine d_load 11 ?_ | refine d_arith 11 ?_ | refine d_rem 11 ?_ | refine d_quo 11 ?_ | refine d_shrv 11 ?_ | refine d_fieldat 11 ?_ | refine d_idx1 11 ?_ | refine d_index 11 ?_ | refine d_conv64 11 ?_ | refine d_slices 11 ?_ | refine d_concat 11 ?_ | refine d_build 11 ?_)
        refine d_done ?_
        (repeat (first | refine g ?_))
        refine s_alloc fun b15 => ?_
        (repeat (first | refine g ?_))
        refine s_ceq b15 (encKeys zeroK) ?_ ?_
        · rfl
        have ja : x.kind = 1 → fa = 0 → e = 0 ∧ ∃ j : Nat, aa = (j : Int) ∧ j < 4 ∧ (x.kind ≠ 2 → Good LA (hv.set j (cutB x.other)) (ks.set j m)) ∧ (x.kind = 2 → Good LA hv ks) := fun hk hf => by
          obtain ⟨j, m', o, e1, e2, e3, e4⟩ := gad LA aa (by rw [hf])
          obtain ⟨rfl, e5⟩ := Prod.mk.inj e1
          exact ⟨(Prod.mk.inj e5).2, j, e2, e3, fun _ => e4, fun h => absurd (hk.symm.trans h) (by decide)⟩
        have jd : x.kind = 2 → fd = 0 → e = 0 ∧ ∃ j : Nat, a = (j : Int) ∧ j < 4 ∧ (x.kind ≠ 2 → Good LD (hv.set j (cutB x.other)) (ks.set j m)) ∧ (x.kind = 2 → Good LD hv ks) := fun hk hf => by
          obtain ⟨j, m', e1, e3, e4⟩ := gdr LD (by rw [hf])
          obtain ⟨rfl, e5⟩ := Prod.mk.inj e1
          exact ⟨(Prod.mk.inj e5).2, j, (Prod.mk.inj e5).1, e3, fun h => absurd hk h, fun _ => e4⟩
        have jc : x.kind ≠ 2 → fc = 0 → e = 0 ∧ ∃ j : Nat, a = (j : Int) ∧ j < 4 ∧ (x.kind ≠ 2 → Good LC (hv.set j (cutB x.other)) (ks.set j m)) ∧ (x.kind = 2 → Good LC hv ks) := fun hk hf => by
          obtain ⟨j, m', e1, e3, e4⟩ := gch LC (by rw [hf])
          obtain ⟨rfl, e5⟩ := Prod.mk.inj e1
          exact ⟨(Prod.mk.inj e5).2, j, (Prod.mk.inj e5).1, e3, fun _ => e4, fun h => absurd h hk⟩
        have hx0 : -9223372036854775808 ≤ x.kind ∧ x.kind ≤ 9223372036854775807 := ⟨hxo.k0, hxo.k1⟩
        refine run_cutI (X := KeysT × Int × Int) (fun y => KeysOk y.1 ∧ (y.2.2 = 0 → e = 0 ∧ ∃ j : Nat, y.2.1 = (j : Int) ∧ j < 4 ∧ (x.kind ≠ 2 → Good y.1 (hv.set j (cutB x.other)) (ks.set j m)) ∧ (x.kind = 2 → Good y.1 hv ks)))
          (fun y => [(1, .slice (some ⟨xb, xo, none⟩) l.length c), (5, .pointer (some ⟨bk, 0, none⟩)), (7, .slice (some ⟨bh, 0, none⟩) 4 4), (8, .slice (some ⟨bs, 0, none⟩) 4 4), (9, .int .i64 (i : Int)), (10, .pointer (some ⟨rx, 0, none⟩)), (12, .string m), (13, .int .i64 y.2.1), (14, .int .i64 e), (15, .pointer (some ⟨b15, 0, none⟩)), (16, .int .i64 y.2.2)])
          (fun y => [cells rx 40 ⟨[.int .i64 x.kind, .int .i64 x.which, .int .i64 x.rounds, .string x.pass, .string x.other, .string x.salt, .string x.nonce]⟩, cells bk 26 ⟨E⟩, cells bh 9 ⟨sv hv⟩, cells bs 9 ⟨sv ks⟩, cells b15 26 ⟨encKeys y.1⟩]) ?_ ?_
        · by_cases hk1 : x.kind = 1
          · (repeat (first | refine g ?_))
            refine d_start [cells b15 26 ⟨encKeys zeroK⟩] ?_
            refine d_getall 0 hlE ?_
            (first | refine d_pure 1 ?_ | refine d_load 1 ?_ | refine d_arith 1 ?_ | refine d_rem 1 ?_ | refine d_quo 1 ?_ | refine d_shrv 1 ?_ | refine d_fieldat 1 ?_ | refine d_idx1 1 ?_ | refine d_index 1 ?_ | refine d_conv64 1 ?_ | refine d_slices 1 ?_ | refine d_concat 1 ?_ | refine d_build 1 ?_)
            (first | refine d_pure 2 ?_ | refine d_load 2 ?_ | refine d_arith 2 ?_ | refine d_rem 2 ?_ | refine d_quo 2 ?_ | refine d_shrv 2 ?_ | refine d_fieldat 2 ?_ | refine d_idx1 2 ?_ | refine d_index 2 ?_ | refine d_conv64 2 ?_ | refine d_slices 2 ?_ | refine d_concat 2 ?_ | refine d_build 2 ?_)
            (first | refine d_pure 4 ?_ | refine d_load 4 ?_ | refine d_arith 4 ?_ | refine d_rem 4 ?_ | refine d_quo 4 ?_ | refine d_shrv 4 ?_ | refine d_fieldat 4 ?_ | refine d_idx1 4 ?_ | refine d_index 4 ?_ | refine d_conv64 4 ?_ | refine d_slices 4 ?_ | refine d_concat 4 ?_ | refine d_build 4 ?_)
            (first | refine d_pure 5 ?_ | refine d_load 5 ?_ | refine d_arith 5 ?_ | refine d_rem 5 ?_ | refine d_quo 5 ?_ | refine d_shrv 5 ?_ | refine d_fieldat 5 ?_ | refine d_idx1 5 ?_ | refine d_index 5 ?_ | refine d_conv64 5 ?_ | refine d_slices 5 ?_ | refine d_concat 5 ?_ | refine d_build 5 ?_)
            (first | refine d_pure 7 ?_ | refine d_load 7 ?_ | refine d_arith 7 ?_ | refine d_rem 7 ?_ | refine d_quo 7 ?_ | refine d_shrv 7 ?_ | refine d_fieldat 7 ?_ | refine d_idx1 7 ?_ | refine d_index 7 ?_ | refine d_conv64 7 ?_ | refine d_slices 7 ?_ | refine d_concat 7 ?_ | refine d_build 7 ?_)
            refine d_call 3 cP ?_
            refine d_call 6 cO ?_
            refine d_call 8 cad ?_
            (first | refine d_pure 9 ?_ | refine d_load 9 ?_ | refine d_arith 9 ?_ | refine d_rem 9 ?_ | refine d_quo 9 ?_ | refine d_shrv 9 ?_ | refine d_fieldat 9 ?_ | refine d_idx1 9 ?_ | refine d_index 9 ?_ | refine d_conv64 9 ?_ | refine d_slices 9 ?_ | refine d_concat 9 ?_ | refine d_build 9 ?_)
            (first | refine d_pure 10 ?_ | refine d_load 10 ?_ | refine d_arith 10 ?_ | refine d_rem 10 ?_ | refine d_quo 10 ?_ | refine d_shrv 10 ?_ | refine d_fieldat 10 ?_ | refine d_idx1 10 ?_ | refine d_index 10 ?_ | refine d_conv64 10 ?_ | refine d_slices 10 ?_ | refine d_concat 10 ?_ | refine d_build 10 ?_)
            (first | refine d_pure 11 ?_ | refine d_load 11 ?_ | refine d_arith 11 ?_ | refine d_rem 11 ?_ | refine d_quo 11 ?_ | refine d_shrv 11 ?_ | refine d_fieldat 11 ?_ | refine d_idx1 11 ?_ | refine d_index 11 ?_ | refine d_conv64 11 ?_ | refine d_slices 11 ?_ | refine d_concat 11 ?_ | refine d_build 11 ?_)
            (first | refine d_pure 12 ?_ | refine d_load 12 ?_ | refine d_arith 12 ?_ | refine d_rem 12 ?_ | refine d_quo 12 ?_ | refine d_shrv 12 ?_ | refine d_fieldat 12 ?_ | refine d_idx1 12 ?_ | refine d_index 12 ?_ | refine d_conv64 12 ?_ | refine d_slices 12 ?_ | refine d_concat 12 ?_ | refine d_build 12 ?_)
            refine d_via1 13 (h1 := by refine s_putall (h1 := encKeys_one LA) (hz := encKeys_len kad.len) (hi := by rw [encKeys_len kad.len]; rfl) ?_; exact run_fin1) (h := ?_)
            (first | refine d_pure 14 ?_ | refine d_load 14 ?_ | refine d_arith 14 ?_ | refine d_rem 14 ?_ | refine d_quo 14 ?_ | refine d_shrv 14 ?_ | refine d_fieldat 14 ?_ | refine d_idx1 14 ?_ | refine d_index 14 ?_ | refine d_conv64 14 ?_ | refine d_slices 14 ?_ | refine d_concat 14 ?_ | refine d_build 14 ?_)
            (first | refine d_pure 15 ?_ | refine d_load 15 ?_ | refine d_arith 15 ?_ | refine d_rem 15 ?_ | refine d_quo 15 ?_ | refine d_shrv 15 ?_ | refine d_fieldat 15 ?_ | refine d_idx1 15 ?_ | refine d_index 15 ?_ | refine d_conv64 15 ?_ | refine d_slices 15 ?_ | refine d_concat 15 ?_ | refine d_build 15 ?_)
            refine d_done ?_
            (repeat (first | refine g ?_))
            exact run_stop_loop (LA, aa, fa) ⟨kad, ja hk1⟩ fct shut
          · by_cases hk2 : x.kind = 2
            · (repeat (first | refine g ?_))
              refine d_start [cells b15 26 ⟨encKeys zeroK⟩] ?_
              refine d_getall 0 hlE ?_
              (first | refine d_pure 1 ?_ | refine d_load 1 ?_ | refine d_arith 1 ?_ | refine d_rem 1 ?_ | refine d_quo 1 ?_ | refine d_shrv 1 ?_ | refine d_fieldat 1 ?_ | refine d_idx1 1 ?_ | refine d_index 1 ?_ | refine d_conv64 1 ?_ | refine d_slices 1 ?_ | refine d_concat 1 ?_ | refine d_build 1 ?_)
              (first | refine d_pure 2 ?_ | refine d_load 2 ?_ | refine d_arith 2 ?_ | refine d_rem 2 ?_ | refine d_quo 2 ?_ | refine d_shrv 2 ?_ | refine d_fieldat 2 ?_ | refine d_idx1 2 ?_ | refine d_index 2 ?_ | refine d_conv64 2 ?_ | refine d_slices 2 ?_ | refine d_concat 2 ?_ | refine d_build 2 ?_)
              (first | refine d_pure 4 ?_ | refine d_load 4 ?_ | refine d_arith 4 ?_ | refine d_rem 4 ?_ | refine d_quo 4 ?_ | refine d_shrv 4 ?_ | refine d_fieldat 4 ?_ | refine d_idx1 4 ?_ | refine d_index 4 ?_ | refine d_conv64 4 ?_ | refine d_slices 4 ?_ | refine d_concat 4 ?_ | refine d_build 4 ?_)
              (first | refine d_pure 5 ?_ | refine d_load 5 ?_ | refine d_arith 5 ?_ | refine d_rem 5 ?_ | refine d_quo 5 ?_ | refine d_shrv 5 ?_ | refine d_fieldat 5 ?_ | refine d_idx1 5 ?_ | refine d_index 5 ?_ | refine d_conv64 5 ?_ | refine d_slices 5 ?_ | refine d_concat 5 ?_ | refine d_build 5 ?_)
              refine d_call 3 cP ?_
              refine d_call 6 cdr ?_
              (first | refine d_pure 7 ?_ | refine d_load 7 ?_ | refine d_arith 7 ?_ | refine d_rem 7 ?_ | refine d_quo 7 ?_ | refine d_shrv 7 ?_ | refine d_fieldat 7 ?_ | refine d_idx1 7 ?_ | refine d_index 7 ?_ | refine d_conv64 7 ?_ | refine d_slices 7 ?_ | refine d_concat 7 ?_ | refine d_build 7 ?_)
              (first | refine d_pure 8 ?_ | refine d_load 8 ?_ | refine d_arith 8 ?_ | refine d_rem 8 ?_ | refine d_quo 8 ?_ | refine d_shrv 8 ?_ | refine d_fieldat 8 ?_ | refine d_idx1 8 ?_ | refine d_index 8 ?_ | refine d_conv64 8 ?_ | refine d_slices 8 ?_ | refine d_concat 8 ?_ | refine d_build 8 ?_)
              (first | refine d_pure 9 ?_ | refine d_load 9 ?_ | refine d_arith 9 ?_ | refine d_rem 9 ?_ | refine d_quo 9 ?_ | refine d_shrv 9 ?_ | refine d_fieldat 9 ?_ | refine d_idx1 9 ?_ | refine d_index 9 ?_ | refine d_conv64 9 ?_ | refine d_slices 9 ?_ | refine d_concat 9 ?_ | refine d_build 9 ?_)
              refine d_via1 10 (h1 := by refine s_putall (h1 := encKeys_one LD) (hz := encKeys_len kdr.len) (hi := by rw [encKeys_len kdr.len]; rfl) ?_; exact run_fin1) (h := ?_)
              (first | refine d_pure 11 ?_ | refine d_load 11 ?_ | refine d_arith 11 ?_ | refine d_rem 11 ?_ | refine d_quo 11 ?_ | refine d_shrv 11 ?_ | refine d_fieldat 11 ?_ | refine d_idx1 11 ?_ | refine d_index 11 ?_ | refine d_conv64 11 ?_ | refine d_slices 11 ?_ | refine d_concat 11 ?_ | refine d_build 11 ?_)
              refine d_done ?_
              (repeat (first | refine g ?_))
              exact run_stop_loop (LD, a, fd) ⟨kdr, jd hk2⟩ fct shut
            · (repeat (first | refine g ?_))
              refine d_start [cells b15 26 ⟨encKeys zeroK⟩] ?_
              refine d_getall 0 hlE ?_
              (first | refine d_pure 1 ?_ | refine d_load 1 ?_ | refine d_arith 1 ?_ | refine d_rem 1 ?_ | refine d_quo 1 ?_ | refine d_shrv 1 ?_ | refine d_fieldat 1 ?_ | refine d_idx1 1 ?_ | refine d_index 1 ?_ | refine d_conv64 1 ?_ | refine d_slices 1 ?_ | refine d_concat 1 ?_ | refine d_build 1 ?_)
              (first | refine d_pure 2 ?_ | refine d_load 2 ?_ | refine d_arith 2 ?_ | refine d_rem 2 ?_ | refine d_quo 2 ?_ | refine d_shrv 2 ?_ | refine d_fieldat 2 ?_ | refine d_idx1 2 ?_ | refine d_index 2 ?_ | refine d_conv64 2 ?_ | refine d_slices 2 ?_ | refine d_concat 2 ?_ | refine d_build 2 ?_)
              (first | refine d_pure 4 ?_ | refine d_load 4 ?_ | refine d_arith 4 ?_ | refine d_rem 4 ?_ | refine d_quo 4 ?_ | refine d_shrv 4 ?_ | refine d_fieldat 4 ?_ | refine d_idx1 4 ?_ | refine d_index 4 ?_ | refine d_conv64 4 ?_ | refine d_slices 4 ?_ | refine d_concat 4 ?_ | refine d_build 4 ?_)
              (first | refine d_pure 5 ?_ | refine d_load 5 ?_ | refine d_arith 5 ?_ | refine d_rem 5 ?_ | refine d_quo 5 ?_ | refine d_shrv 5 ?_ | refine d_fieldat 5 ?_ | refine d_idx1 5 ?_ | refine d_index 5 ?_ | refine d_conv64 5 ?_ | refine d_slices 5 ?_ | refine d_concat 5 ?_ | refine d_build 5 ?_)
              (first | refine d_pure 7 ?_ | refine d_load 7 ?_ | refine d_arith 7 ?_ | refine d_rem 7 ?_ | refine d_quo 7 ?_ | refine d_shrv 7 ?_ | refine d_fieldat 7 ?_ | refine d_idx1 7 ?_ | refine d_index 7 ?_ | refine d_conv64 7 ?_ | refine d_slices 7 ?_ | refine d_concat 7 ?_ | refine d_build 7 ?_)
              refine d_call 3 cP ?_
              refine d_call 6 cO ?_
              refine d_call 8 cch ?_
              (first | refine d_pure 9 ?_ | refine d_load 9 ?_ | refine d_arith 9 ?_ | refine d_rem 9 ?_ | refine d_quo 9 ?_ | refine d_shrv 9 ?_ | refine d_fieldat 9 ?_ | refine d_idx1 9 ?_ | refine d_index 9 ?_ | refine d_conv64 9 ?_ | refine d_slices 9 ?_ | refine d_concat 9 ?_ | refine d_build 9 ?_)
              (first | refine d_pure 10 ?_ | refine d_load 10 ?_ | refine d_arith 10 ?_ | refine d_rem 10 ?_ | refine d_quo 10 ?_ | refine d_shrv 10 ?_ | refine d_fieldat 10 ?_ | refine d_idx1 10 ?_ | refine d_index 10 ?_ | refine d_conv64 10 ?_ | refine d_slices 10 ?_ | refine d_concat 10 ?_ | refine d_build 10 ?_)
              (first | refine d_pure 11 ?_ | refine d_load 11 ?_ | refine d_arith 11 ?_ | refine d_rem 11 ?_ | refine d_quo 11 ?_ | refine d_shrv 11 ?_ | refine d_fieldat 11 ?_ | refine d_idx1 11 ?_ | refine d_index 11 ?_ | refine d_conv64 11 ?_ | refine d_slices 11 ?_ | refine d_concat 11 ?_ | refine d_build 11 ?_)
              refine d_via1 12 (h1 := by refine s_putall (h1 := encKeys_one LC) (hz := encKeys_len kch.len) (hi := by rw [encKeys_len kch.len]; rfl) ?_; exact run_fin1) (h := ?_)
              (first | refine d_pure 13 ?_ | refine d_load 13 ?_ | refine d_arith 13 ?_ | refine d_rem 13 ?_ | refine d_quo 13 ?_ | refine d_shrv 13 ?_ | refine d_fieldat 13 ?_ | refine d_idx1 13 ?_ | refine d_index 13 ?_ | refine d_conv64 13 ?_ | refine d_slices 13 ?_ | refine d_concat 13 ?_ | refine d_build 13 ?_)
              refine d_done ?_
              (repeat (first | refine g ?_))
              exact run_stop_loop (LC, a, fc) ⟨kch, jc hk2⟩ fct shut
        · intro ⟨LK, at_, fl⟩ ⟨hLo, hJ⟩
          dsimp only at *
          have hlK := encKeys_len hLo.len
          have h1K := encKeys_one LK
          have hhl := G.hl
          have hkl := G.kl
          (repeat (first | refine g ?_))
          refine run_cuti (X := KeysT × List ByteArray × List ByteArray) (fun y => KeysOk y.1 ∧ Good y.1 y.2.1 y.2.2) (fun _ => [(1, .slice (some ⟨xb, xo, none⟩) l.length c), (5, .pointer (some ⟨bk, 0, none⟩)), (7, .slice (some ⟨bh, 0, none⟩) 4 4), (8, .slice (some ⟨bs, 0, none⟩) 4 4), (9, .int .i64 (i : Int))])
            (fun y => [cells bk 26 ⟨encKeys y.1⟩, cells bh 9 ⟨sv y.2.1⟩, cells bs 9 ⟨sv y.2.2⟩]) ?_ ?_
          · by_cases hf : fl = 0
            · obtain ⟨rfl, j, rfl, hj4, g1, g2⟩ := hJ hf
              (repeat (first | refine g ?_))
              refine s_getall (hz := hlK) ?_
              (repeat (first | refine g ?_))
              refine s_putall (h1 := h1K) (hz := hlK) (hi := by rw [hlK]; exact hlE.symm) ?_
              by_cases hk2 : x.kind = 2
              · (repeat (first | refine g ?_))
                exact run_stop_loop (LK, hv, ks) ⟨hLo, g2 hk2⟩ fct shut
              · (repeat (first | refine g ?_))
                refine s_call cO ?_
                (repeat (first | refine g ?_))
                refine s_storeset (hi := by rw [sv_len, hhl]; exact hj4) ?_
                rw [sv_set]
                (repeat (first | refine g ?_))
                refine s_storeset (hi := by rw [sv_len, hkl]; exact hj4) ?_
                rw [sv_set]
                (repeat (first | refine g ?_))
                exact run_stop_loop (LK, hv.set j (cutB x.other), ks.set j m) ⟨hLo, g1 hk2⟩ fct shut
            · (repeat (first | refine g ?_))
              exact run_stop_loop (K, hv, ks) ⟨hKo, G⟩ fct (by rw [← hE]; exact shut)
          · intro ⟨K', hv', ks'⟩ ⟨hKo', G'⟩
            dsimp only at *
            (repeat (first | refine g ?_))
            have hlK := encKeys_len hKo'.len
            obtain ⟨EK, hEK⟩ : ∃ E, E = encKeys K' := ⟨_, rfl⟩
            rw [← hEK] at hlK
            refine run_loopI (X := Nat) (fun j => j ≤ 4) (fun j => [(1, .slice (some ⟨xb, xo, none⟩) l.length c), (5, .pointer (some ⟨bk, 0, none⟩)), (7, .slice (some ⟨bh, 0, none⟩) 4 4), (8, .slice (some ⟨bs, 0, none⟩) 4 4), (9, .int .i64 (i : Int)), (17, .int .i64 (j : Int))])
              (fun _ => [cells bk 26 ⟨EK⟩, cells bh 9 ⟨sv hv'⟩, cells bs 9 ⟨sv ks'⟩]) (fun j => 4 - j) 0 (Nat.zero_le _) fct (by rw [hEK]; exact shut) ?_
            intro j hj
            (repeat (first | refine g ?_))
            refine run_cond_dec rfl ?_ ?_
            · intro hj4
              obtain ⟨s, hs⟩ : ∃ s, K'.sl[j]? = some s := ⟨_, List.getElem?_eq_getElem (by rw [hKo'.len]; omega)⟩
              have hcu : EK[1 + j * 5]? = some (.bool s.used) := by
                have h0 := encKeys_at K' j s hs 0 (by decide)
                rw [Nat.add_zero, ← hEK] at h0
                exact h0
              have nxt : j + 1 ≤ 4 ∧ 4 - (j + 1) < 4 - j := by omega
              (repeat (first | refine g ?_))
              refine s_idr (kk := 5) (1 + j * 5) ?_
              (repeat (first | refine g ?_))
              refine s_loadat hcu ?_
              cases hu : s.used with
              | false =>
                (repeat (first | refine g ?_))
                exact run_stop_loop (j + 1) nxt fct shut
              | true =>
                have hal := alone_spec q K' hKo'.len j (by omega) s hs
                have hao : KeysOk (aloneK K' j s) := set_ok (k := ⟨K'.gen, [zeroS, zeroS, zeroS, zeroS]⟩) ⟨hKo'.g0, hKo'.g1, rfl, fun t ht => by
                  simp only [List.mem_cons, List.not_mem_nil, or_false, or_self] at ht
                  rw [ht]; exact zeroOk⟩ (hKo'.ok s (List.mem_of_getElem? hs)) K'.gen hKo'.g0 hKo'.g1
                have hpz : (hv'.getD j ⟨#[]⟩).size ≤ 100 := by
                  rw [List.getD_eq_getElem?_getD, List.getElem?_eq_getElem (by rw [G'.hl]; omega)]
                  exact G'.hz _ (List.getElem_mem _)
                have cop := openK_spec q (aloneK K' j s) hao (hv'.getD j ⟨#[]⟩) (by omega)
                rw [open_alone G' j s hs hu] at cop
                dsimp only at cop
                have hvj := sv_at hv' j (by rw [G'.hl]; omega)
                have hkj := sv_at ks' j (by rw [G'.kl]; omega)
                obtain ⟨HV, hHV⟩ : ∃ H, H = hv'.getD j ⟨#[]⟩ := ⟨_, rfl⟩
                obtain ⟨KV, hKV⟩ : ∃ H, H = ks'.getD j ⟨#[]⟩ := ⟨_, rfl⟩
                rw [← hHV] at hvj cop
                rw [← hKV] at hkj cop
                obtain ⟨EA, hEA⟩ : ∃ E, E = encKeys (aloneK K' j s) := ⟨_, rfl⟩
                rw [← hEA] at cop hal
                rw [← hEK] at hal
                (repeat (first | refine g ?_))
                refine d_start [] ?_
                refine d_getall 0 hlK ?_
                (first | refine d_pure 1 ?_ | refine d_load 1 ?_ | refine d_arith 1 ?_ | refine d_rem 1 ?_ | refine d_quo 1 ?_ | refine d_shrv 1 ?_ | refine d_fieldat 1 ?_ | refine d_idx1 1 ?_ | refine d_index 1 ?_ | refine d_conv64 1 ?_ | refine d_slices 1 ?_ | refine d_concat 1 ?_ | refine d_build 1 ?_)
                (first | refine d_pure 3 ?_ | refine d_load 3 ?_ | refine d_arith 3 ?_ | refine d_rem 3 ?_ | refine d_quo 3 ?_ | refine d_shrv 3 ?_ | refine d_fieldat 3 ?_ | refine d_idx1 3 ?_ | refine d_index 3 ?_ | refine d_conv64 3 ?_ | refine d_slices 3 ?_ | refine d_concat 3 ?_ | refine d_build 3 ?_)
                (first | refine d_pure 4 ?_ | refine d_load 4 ?_ | refine d_arith 4 ?_ | refine d_rem 4 ?_ | refine d_quo 4 ?_ | refine d_shrv 4 ?_ | refine d_fieldat 4 ?_ | refine d_idx1 4 ?_ | refine d_index 4 ?_ | refine d_conv64 4 ?_ | refine d_slices 4 ?_ | refine d_concat 4 ?_ | refine d_build 4 ?_)
                (first | refine d_pure 5 ?_ | refine d_load 5 ?_ | refine d_arith 5 ?_ | refine d_rem 5 ?_ | refine d_quo 5 ?_ | refine d_shrv 5 ?_ | refine d_fieldat 5 ?_ | refine d_idx1 5 ?_ | refine d_index 5 ?_ | refine d_conv64 5 ?_ | refine d_slices 5 ?_ | refine d_concat 5 ?_ | refine d_build 5 ?_)
                refine d_loadat 6 hvj ?_
                refine d_call 2 hal ?_
                refine d_call 7 cop ?_
                (first | refine d_pure 8 ?_ | refine d_load 8 ?_ | refine d_arith 8 ?_ | refine d_rem 8 ?_ | refine d_quo 8 ?_ | refine d_shrv 8 ?_ | refine d_fieldat 8 ?_ | refine d_idx1 8 ?_ | refine d_index 8 ?_ | refine d_conv64 8 ?_ | refine d_slices 8 ?_ | refine d_concat 8 ?_ | refine d_build 8 ?_)
                (first | refine d_pure 9 ?_ | refine d_load 9 ?_ | refine d_arith 9 ?_ | refine d_rem 9 ?_ | refine d_quo 9 ?_ | refine d_shrv 9 ?_ | refine d_fieldat 9 ?_ | refine d_idx1 9 ?_ | refine d_index 9 ?_ | refine d_conv64 9 ?_ | refine d_slices 9 ?_ | refine d_concat 9 ?_ | refine d_build 9 ?_)
                (first | refine d_pure 10 ?_ | refine d_load 10 ?_ | refine d_arith 10 ?_ | refine d_rem 10 ?_ | refine d_quo 10 ?_ | refine d_shrv 10 ?_ | refine d_fieldat 10 ?_ | refine d_idx1 10 ?_ | refine d_index 10 ?_ | refine d_conv64 10 ?_ | refine d_slices 10 ?_ | refine d_concat 10 ?_ | refine d_build 10 ?_)
                (first | refine d_pure 11 ?_ | refine d_load 11 ?_ | refine d_arith 11 ?_ | refine d_rem 11 ?_ | refine d_quo 11 ?_ | refine d_shrv 11 ?_ | refine d_fieldat 11 ?_ | refine d_idx1 11 ?_ | refine d_index 11 ?_ | refine d_conv64 11 ?_ | refine d_slices 11 ?_ | refine d_concat 11 ?_ | refine d_build 11 ?_)
                (first | refine d_pure 12 ?_ | refine d_load 12 ?_ | refine d_arith 12 ?_ | refine d_rem 12 ?_ | refine d_quo 12 ?_ | refine d_shrv 12 ?_ | refine d_fieldat 12 ?_ | refine d_idx1 12 ?_ | refine d_index 12 ?_ | refine d_conv64 12 ?_ | refine d_slices 12 ?_ | refine d_concat 12 ?_ | refine d_build 12 ?_)
                (first | refine d_pure 13 ?_ | refine d_load 13 ?_ | refine d_arith 13 ?_ | refine d_rem 13 ?_ | refine d_quo 13 ?_ | refine d_shrv 13 ?_ | refine d_fieldat 13 ?_ | refine d_idx1 13 ?_ | refine d_index 13 ?_ | refine d_conv64 13 ?_ | refine d_slices 13 ?_ | refine d_concat 13 ?_ | refine d_build 13 ?_)
                (first | refine d_pure 14 ?_ | refine d_load 14 ?_ | refine d_arith 14 ?_ | refine d_rem 14 ?_ | refine d_quo 14 ?_ | refine d_shrv 14 ?_ | refine d_fieldat 14 ?_ | refine d_idx1 14 ?_ | refine d_index 14 ?_ | refine d_conv64 14 ?_ | refine d_slices 14 ?_ | refine d_concat 14 ?_ | refine d_build 14 ?_)
                refine d_done ?_
                (repeat (first | refine g ?_))
                refine s_loadat hkj ?_
                have hnn : ¬ KV ≠ KV := fun h => h rfl
                (repeat (first | refine g ?_))
                exact run_stop_loop (j + 1) nxt fct shut
            · intro hj4
              obtain rfl : j = 4 := by omega
              (repeat (first | refine g ?_))
              exact run_stop_loop (i + 1, K', hv', ks') ⟨⟨by dsimp only; omega, hKo', G'⟩, by dsimp only; omega⟩ fct (by rw [← hEK]; exact shut)
      · intro hi2
        (repeat (first | refine g ?_))
        exact run_stop_loop K ⟨hKo, hv, ks, G⟩ fct shut
    · intro hi1
      (repeat (first | refine g ?_))
      exact run_stop_loop K ⟨hKo, hv, ks, G⟩ fct shut
  · intro K ⟨hKo, hv, ks, G⟩
    have c2 := bytes_spec q K hKo
    unfold bytesK at c2
    rw [G.right, if_pos rfl] at c2
    have c3 := of_spec q (bl (ringL K)) (by rw [bl_size, ringL_len K G.right G.len]; decide)
    rw [ring_back K G.right G.len] at c3
    dsimp only at c2 c3
    have hl1 := encKeys_len hKo.len
    have h11 := encKeys_one K
    have kl := keys_lits K hKo
    have hfm := keys_formed (encKeys K) hl1
    obtain ⟨E, hE⟩ : ∃ E, E = encKeys K := ⟨_, rfl⟩
    rw [← hE] at hl1 h11 kl hfm c2 c3 ⊢
    obtain ⟨A, hA⟩ : ∃ A, A = bl (ringL K) := ⟨_, rfl⟩
    rw [← hA] at c2 c3
    (repeat (first | refine g ?_))
    refine s_getall (hz := hl1) ?_
    (repeat (first | refine g ?_))
    refine s_call c2 ?_
    (repeat (first | refine g ?_))
    refine s_call c3 ?_
    (repeat (first | refine g ?_))
    refine s_alloc fun b2 => ?_
    (repeat (first | refine g ?_))
    refine s_putall (h1 := h11) (hz := hl1) (hi := by rw [hl1]; rfl) ?_
    (repeat (first | refine g ?_))
    refine s_getall (hz := hl1) ?_
    (repeat (first | refine g ?_))
    refine s_getall (hz := hl1) ?_
    (repeat (first | refine g ?_))
    refine s_eqk 6 4 true (la := litsK K) (lb := litsK K) ?_ ?_ (fa := hfm) (fb := hfm) (ka := kl) (kb := kl)
    · simp
    (repeat (first | refine g ?_))
    refine s_call ca ?_
    (repeat (first | refine g ?_))
    exact run_ret rfl (imp_RD rfl shut)
end Go.Proofs.Ytibookgcaboldaa.V
