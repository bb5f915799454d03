/- The journal's first example, plainly: what is committed is found. -/
import Derived.Test.YtaiocnpecaecdaaGreatDoorGe
import Derived.Test.YtaiocnpecaecdaaGreatDoorGd
set_option maxRecDepth 10000
set_option linter.unusedVariables false
namespace Go.Proofs.YtaiocnpecaecdaaGreatDoor.V
open Go.Proofs.YtaiocnpecaecdaaGreatDoor.VL Go.Proofs.YtaiocnpecaecdaaGreatDoor.VL.RD Go.Proofs.YtaiocnpecaecdaaGreatDoor.VL.Sha
attribute [local irreducible] Run numB
/-- A device that is on, and stays so. -/
structure Up (n : Nat) (k : Int) (d : PSt) : Prop where
  pw : PW n d
  sec : d.sectors = k
  up : d.down = false
  fuse : d.fuse = -1
def hasB (d : PSt) (a : Int) (raw : ByteArray) : Prop := raw.size = 512 ∧ ∀ k : Nat, k < 8 → rdF d (a * 8 + k) = (secT raw k, 0)
theorem Up.mono {n m : Nat} {k : Int} {d : PSt} (h : Up n k d) (hm : n ≤ m) : Up m k d := ⟨h.pw.mono hm, h.sec, h.up, h.fuse⟩
theorem Up.put {n : Nat} {k : Int} {d : PSt} (h : Up n k d) (hn : n < 100000) (a : Int) (h0 : 0 ≤ a) (h1 : a * 8 + 8 ≤ k) (raw : ByteArray) (hr : raw.size = 512) :
    ∃ d', dput (d, 0) a raw = (d', 0) ∧ Up (n + 8) k d' ∧ hasB d' a raw ∧ ∀ b r, b ≠ a → hasB d b r → hasB d' b r := by
  have e : bputF d a raw = wrN d (a * 8) raw 8 := by
    unfold bputF
    rw [if_neg (fun h => h hr), if_neg (by rw [h.sec]; omega)]
  obtain ⟨k1, k2, k3, k4⟩ := put_read d h.up h.fuse (a * 8) (by omega) (by rw [h.sec]; exact h1) raw hr
  have hp := wrN_pw h.pw (by omega) (a * 8) raw 8 (by omega)
  have hu := wrN_up d h.up h.fuse (a * 8) (by omega) (by rw [h.sec]; exact h1) raw hr 8 (by omega)
  refine ⟨(wrN d (a * 8) raw 8).2, ?_, ⟨hp.1, by rw [hp.2]; exact h.sec, k2, by rw [hu]; exact h.fuse⟩, ⟨hr, k3⟩, fun b r hb ⟨z, hh⟩ => ⟨z, fun j hj => ?_⟩⟩
  · unfold dput
    rw [if_neg (fun h => h rfl)]
    dsimp only
    rw [e, ← k1]
  · rw [k4 _ (by omega)]
    exact hh j hj
theorem Up.flush {n : Nat} {k : Int} {d : PSt} (h : Up n k d) :
    ∃ d', dflush (d, 0) = (d', 0) ∧ Up n k d' ∧ ∀ b r, 0 ≤ b → b * 8 + 8 ≤ k → hasB d b r → hasB d' b r := by
  refine ⟨flushF d, ?_, ⟨h.pw.flush, by rw [flush_sec]; exact h.sec, by rw [flush_down]; exact h.up, ?_⟩, fun b r b0 b1 ⟨z, hh⟩ => ⟨z, fun j hj => ?_⟩⟩
  · unfold dflush
    rw [if_neg (fun h => h rfl)]
    dsimp only
    rw [if_neg (by rw [h.up]; decide)]
  · unfold flushF
    split
    · exact h.fuse
    · exact h.fuse
  · rw [flush_read h.pw h.up _ (by omega) (by rw [h.sec]; omega)]
    exact hh j hj
theorem Up.get {n : Nat} {k : Int} {d : PSt} (h : Up n k d) (hn : n < 1000000) (a : Int) (h0 : 0 ≤ a) (h1 : a * 8 + 8 ≤ k) (raw : ByteArray) (hb : hasB d a raw) :
    getF d a = ((raw, 0, 0), rds d 8) ∧ Up (n + 8) k (rds d 8) ∧ ∀ b r, hasB d b r → hasB (rds d 8) b r :=
  ⟨getF_raw d h.up a h0 (by rw [h.sec]; omega) raw hb.1 hb.2, ⟨h.pw.rds 8 (by omega), h.sec, h.up, h.fuse⟩, fun b r ⟨z, hh⟩ => ⟨z, hh⟩⟩
theorem Up.image {n : Nat} {k : Int} {d : PSt} (h : Up n k d) (a : Int) (h0 : 0 ≤ a) (h1 : a * 8 + 8 ≤ k) (raw : ByteArray) (hb : hasB d a raw) : atF (rawsL d (blocksN d)) (masksL d (blocksN d)) a = (raw, 0) := by
  obtain ⟨m, rfl⟩ : ∃ m : Nat, a = m := ⟨a.toNat, by omega⟩
  have hN : (blocksN d : Int) = d.sectors / 8 := by
    have := h.pw.wf.held
    unfold blocksN; omega
  have hs := h.sec
  have hm : m < blocksN d := by omega
  have l1 := rawsL_len d (blocksN d)
  have l2 := masksL_len d (blocksN d)
  have g := getL_raw d m raw hb.2 8 (by omega)
  have er : allR d m = raw := by
    unfold allR
    rw [if_neg (by rw [h.up]; decide), g.1]
    exact bl_all raw hb.1
  have em : allM d m = 0 := by
    unfold allM
    rw [if_neg (by rw [h.up]; decide), g.2]; rfl
  have e1 : (rawsL d (blocksN d)).getD m ⟨#[]⟩ = raw := by
    unfold rawsL
    rw [List.getD_eq_getElem?_getD, List.getElem?_map, List.getElem?_range hm]; exact er
  have e2 : (masksL d (blocksN d)).getD m 0 = 0 := by
    unfold masksL
    rw [List.getD_eq_getElem?_getD, List.getElem?_map, List.getElem?_range hm]; exact em
  unfold atF
  rw [l1, l2, show ((m : Int)).toNat = m from rfl, e1, e2, if_neg]
  rintro (h2 | h2 | h2 | h2)
  · omega
  · omega
  · omega
  · exact h2 hb.1
noncomputable def idealP : VP := ⟨VSt, fun s h X => bsealF s h X, fun s t => (numB (cntN s.hs t) 32, { s with hs := cntL s.hs t }), fun s raw a => btoldF s raw a⟩
/-- A block that was sealed. -/
structure Sealed (s : VSt) (h : HeadT) (X raw : ByteArray) : Prop where
  sz : raw.size = 512
  opens : opensB s raw
  good : headGood raw
  head : openH raw = h
  body : (raw.extract 48 512).extract 0 448 = X
theorem Sealed.told {s : VSt} {h : HeadT} {X raw : ByteArray} (k : Sealed s h X raw) (a : Int) (ha : a = h.addr) : btoldF s raw a = ⟨true, h, X⟩ := by
  subst ha
  exact told_open s raw h X k.sz k.opens k.good k.head k.body
theorem Sealed.seal {s : VSt} {h : HeadT} {X raw : ByteArray} (k : Sealed s h X raw) (g : HeadT) (Y : ByteArray) (hok : (fldH g).all okN = true) (hY : Y.size = 448) : Sealed (sealS s g Y) h X raw :=
  ⟨k.sz, (opens_iffS s g Y hok hY raw k.sz).2 (.inl k.opens), k.good, k.head, k.body⟩
theorem opens_es (s t : VSt) (e : s.es = t.es) (raw : ByteArray) : opensB s raw = opensB t raw := by
  obtain ⟨h1, m1, e1⟩ := s
  obtain ⟨h2, m2, e2⟩ := t
  obtain rfl : e1 = e2 := e
  unfold opensB bopenF bopenR openF iopenF
  rfl
theorem Sealed.hash {s : VSt} {h : HeadT} {X raw : ByteArray} (k : Sealed s h X raw) (l : List ByteArray) : Sealed { s with hs := l } h X raw :=
  ⟨k.sz, by rw [opens_es { s with hs := l } s rfl]; exact k.opens, k.good, k.head, k.body⟩
theorem seal_new (s : VSt) (h : HeadT) (X : ByteArray) (hok : (fldH h).all okN = true) (hX : X.size = 448) : ∃ raw, bsealF s h X = ((raw, 0), sealS s h X) ∧ Sealed (sealS s h X) h X raw := by
  obtain ⟨hz, p2, p3⟩ := blkB_parts h X (sealC s h X) hX
  refine ⟨blkB h X (sealC s h X), bsealF_ok s h X hX hok, ⟨hz, (opens_iffS s h X hok hX _ hz).2 (.inr rfl), headGood_head _ h p2, openH_block h X _ hX hok, ?_⟩⟩
  rw [p3]
  exact ext_l hX
theorem super_ok (x : SuperT) (hr : x.root.size = 32) (hf : (fldSu x).all okN = true) : superF x = (bl (superL x), 0) := by
  unfold superF
  rw [if_neg (fun h => h hr), if_pos hf]
theorem superB_size (x : SuperT) (hr : x.root.size = 32) : (bl (superL x)).size = 448 := by
  show (superL x).toArray.size = 448
  simp [superL_len x hr]
/-- A superblock that may be is laid. -/
theorem superM_ok (s : VSt) (x : SuperT) (hr : x.root.size = 32) (hf : (fldSu x).all okN = true) (hh : (fldH (headSu x)).all okN = true) :
    ∃ raw, superM idealP s x = ((⟨x.epoch % 2, raw⟩, 0), sealS s (headSu x) (bl (superL x))) ∧ Sealed (sealS s (headSu x) (bl (superL x))) (headSu x) (bl (superL x)) raw := by
  obtain ⟨raw, e, k⟩ := seal_new s (headSu x) (bl (superL x)) hh (superB_size x hr)
  refine ⟨raw, ?_, k⟩
  unfold superM
  rw [super_ok x hr hf, if_neg (fun h => h rfl)]
  show (if (bsealF s (headSu x) (bl (superL x))).1.2 ≠ 0 then _ else _) = _
  rw [e, if_neg (fun h => h rfl)]
  show ((((⟨x.epoch % 2, (bsealF s (headSu x) (bl (superL x))).1.1⟩ : WriteT), (0 : Int)), (bsealF s (headSu x) (bl (superL x))).2) : (WriteT × Int) × VSt) = _
  rw [e]
theorem pad_at (T : ByteArray) (h : T.size ≤ 448) : (padF T 448).1 = bl (T.data.toList ++ List.replicate (448 - T.size) 0) := by
  unfold padF
  rw [if_neg (by omega), if_neg (by omega)]
  show (⟨(pad0 T.data.toList 448).toArray⟩ : ByteArray) = _
  unfold pad0
  rw [Array.length_toList]
  rfl
theorem blen_size (l : List UInt8) : (bl l).size = l.length := by
  show l.toArray.size = _
  simp
theorem put2_size (n : Nat) (hn : n ≤ 1000) : (V.putF (n : Int) 2).1.size = 2 := by
  unfold V.putF
  rw [if_neg (by omega), if_neg]
  · show (leb n 2).toArray.size = 2
    simp [leb_length]
  · rintro (h | h)
    · omega
    · exact h (by show (n : Int) / 65536 = 0; omega)
/-- What the promise's body tells: the superblock that is to come. -/
theorem prom_key (N H E : ByteArray) (hN : N.size = 2) (hH : H.size = 32) (hE : E.size = 54) : (padF (N ++ H ++ E) 448).1.size = 448 ∧ (padF (N ++ H ++ E) 448).1.extract 34 88 = E := by
  have hT : (N ++ H ++ E).size = 88 := by
    rw [ByteArray.size_append, ByteArray.size_append]; omega
  have hlen : (N ++ H ++ E).data.toList.length = 88 := by rw [Array.length_toList]; exact hT
  rw [pad_at _ (by omega), hT]
  refine ⟨by rw [blen_size, List.length_append, hlen, List.length_replicate], ?_⟩
  apply ByteArray.ext
  apply Array.ext'
  have h34 : (N ++ H).data.toList.length = 34 := by
    rw [Array.length_toList]
    show (N ++ H).size = 34
    rw [ByteArray.size_append]; omega
  have hEl : E.data.toList.length = 54 := by rw [Array.length_toList]; exact hE
  refine ext_mid (N ++ H).data.toList E.data.toList (List.replicate (448 - 88) 0) 34 88 h34 (by omega) _ ?_
  rw [app_list, List.append_assoc]
  rfl
theorem super_pad (x : SuperT) (hr : x.root.size = 32) : (padF ((bl (superL x)).extract 0 54) 448).1 = bl (superL x) := by
  have h54 : ((bl (superL x)).extract 0 54).size = 54 := by rw [ByteArray.size_extract, superB_size x hr]; omega
  rw [pad_at _ (by omega), h54]
  refine congrArg bl ?_
  rw [ext_toList, List.drop_zero, show (54 - 0 : Nat) = 54 from rfl, show (448 - 54 : Nat) = 394 from rfl, show (bl (superL x)).data.toList = superL x from rfl]
  have hn2 : (numsL (fldSu x) ++ x.root.data.toList).length = 54 := by
    rw [List.length_append, numsL_len, Array.length_toList]
    show 22 + x.root.size = 54
    omega
  unfold superL
  rw [← hn2, List.take_left]
/-- What the promise's body tells: the superblock that is to come. -/
theorem prom_next (n : Nat) (hn : n ≤ 1000) (hash : ByteArray) (hh : hash.size = 32) (x : SuperT) (hr : x.root.size = 32) (hf : (fldSu x).all okN = true) :
    (promB n hash (bl (superL x))).size = 448 ∧ nextF (promB n hash (bl (superL x))) = (x, 0) := by
  obtain ⟨k1, k2⟩ := prom_key (V.putF (n : Int) 2).1 hash ((bl (superL x)).extract 0 54) (put2_size n hn) hh (by rw [ByteArray.size_extract, superB_size x hr]; omega)
  refine ⟨k1, ?_⟩
  unfold nextF promB
  rw [k2, super_pad x hr, superOf_back x hr hf]
theorem found_next (p : VP) (s : p.St) (live : Int) (raws : List ByteArray) (masks : List Int) (h : (foundM p s live raws masks).1.2.2 = true) : (foundM p s live raws masks).1.2.1 = (nextF (lookM p s raws masks 2).body).1 := by
  unfold foundM at *
  dsimp only at *
  split at h
  · exact absurd (show false = true from h) (by decide)
  · rename_i h1
    rw [if_neg h1]
    split at h
    · exact absurd (show false = true from h) (by decide)
    · rename_i h2
      rw [if_neg h2]
      split at h
      · exact absurd (show false = true from h) (by decide)
      · rename_i l hl
        split at h
        · exact absurd (show false = true from h) (by decide)
        · rename_i h3
          rw [if_neg h3]
          split at h
          · exact absurd (show false = true from h) (by decide)
          · rename_i h4
            rw [if_neg h4]
end Go.Proofs.YtaiocnpecaecdaaGreatDoor.V
namespace Go.Proofs.YtaiocnpecaecdaaGreatDoor.V
open Go.Proofs.YtaiocnpecaecdaaGreatDoor.VL Go.Proofs.YtaiocnpecaecdaaGreatDoor.VL.RD Go.Proofs.YtaiocnpecaecdaaGreatDoor.VL.Sha
attribute [local irreducible] Run numB
def hAt (a : Int) : HeadT := ⟨0, a, 0, 0, 0, 0, 0, 0⟩
def blkH (x : BlockT) : ByteArray := if (headF (hAt x.at_)).2 ≠ 0 ∨ x.bad = true then bytesF x.v 48 else (headF (hAt x.at_)).1
def blkR (x : BlockT) : ByteArray := blkH x ++ bytesF x.v 464
def blkW (x : BlockT) : WriteT := ⟨x.at_, blkR x⟩
def writesF (l : List BlockT) : List WriteT := (l.take 30).map blkW
theorem blkH_size (x : BlockT) : (blkH x).size = 48 := by
  unfold blkH
  split
  · exact bytesF_size _ _
  · rename_i h
    have h1 : (headF (hAt x.at_)).2 = 0 := Decidable.not_not.1 fun e => h (.inl e)
    unfold headF at *
    split at h1
    · rename_i h2
      rw [if_pos h2]
      exact headL_size _
    · exact absurd h1 (by decide)
theorem blkR_size (x : BlockT) : (blkR x).size = 512 := by
  unfold blkR
  rw [ByteArray.size_append, blkH_size, bytesF_size]
theorem writesF_len (l : List BlockT) : (writesF l).length = min 30 l.length := by
  unfold writesF
  rw [List.length_map, List.length_take]
theorem writesF_mem {l : List BlockT} (hl : ∀ x ∈ l, BlockOk x) {w : WriteT} (h : w ∈ writesF l) : WOk w ∧ w.raw.size = 512 := by
  unfold writesF at h
  obtain ⟨x, hx, rfl⟩ := List.mem_map.1 h
  have hb := hl x (List.mem_of_mem_take hx)
  have hz := blkR_size x
  exact ⟨⟨hb.a0, hb.a1, by show (blkR x).size ≤ 1000000; omega⟩, hz⟩
/-- The same blocks, of other bytes. -/
def oldW (w : WriteT) : WriteT := ⟨w.at_, w.raw.extract 0 48 ++ bytesF 9 464⟩
def oldF (l : List WriteT) : List WriteT := l.map oldW
theorem oldW_size (w : WriteT) (h : w.raw.size = 512) : (oldW w).raw.size = 512 := by
  show (w.raw.extract 0 48 ++ bytesF 9 464).size = 512
  rw [ByteArray.size_append, bytesF_size, ByteArray.size_extract]
  omega
theorem oldW_head (w : WriteT) (h : w.raw.size = 512) : (oldW w).raw.extract 0 48 = w.raw.extract 0 48 := by
  show (w.raw.extract 0 48 ++ bytesF 9 464).extract 0 48 = _
  exact ext_l (by rw [ByteArray.size_extract]; omega)
theorem may_old (live : Int) (l : List WriteT) (hz : ∀ w ∈ l, w.raw.size = 512) : ∀ last : Int, mayG live last (oldF l) = mayG live last l := by
  induction l with
  | nil => intro last; rfl
  | cons w l ih =>
    intro last
    have hw := hz w List.mem_cons_self
    have e : mayG live last (oldF (w :: l)) = if (oldW w).at_ ≤ last ∨ live ≤ (oldW w).at_ ∨ (oldW w).raw.size ≠ 512 then false else if (headOfF ((oldW w).raw.extract 0 48)).2 ≠ 0 ∨ (headOfF ((oldW w).raw.extract 0 48)).1.addr ≠ (oldW w).at_ then false else mayG live (oldW w).at_ (oldF l) := rfl
    have e2 : mayG live last (w :: l) = if w.at_ ≤ last ∨ live ≤ w.at_ ∨ w.raw.size ≠ 512 then false else if (headOfF (w.raw.extract 0 48)).2 ≠ 0 ∨ (headOfF (w.raw.extract 0 48)).1.addr ≠ w.at_ then false else mayG live w.at_ l := rfl
    rw [e, e2, oldW_size w hw, oldW_head w hw, hw, ih (fun u hu => hz u (List.mem_cons_of_mem _ hu))]
    rfl
end Go.Proofs.YtaiocnpecaecdaaGreatDoor.V
namespace Go.Proofs.YtaiocnpecaecdaaGreatDoor.V
open Go.Proofs.YtaiocnpecaecdaaGreatDoor.VL Go.Proofs.YtaiocnpecaecdaaGreatDoor.VL.RD Go.Proofs.YtaiocnpecaecdaaGreatDoor.VL.Sha
attribute [local irreducible] Run numB
theorem at_all (q : View) (pr pm : Option Addr) (cr cm : Nat) (raws : List ByteArray) (masks : List Int) (hlr : raws.length ≤ 1000000) (hlm : masks.length ≤ 9223372036854775807) (a : Int) :
    FnD Tryz.prog q 31 [.agg ⟨[.slice pr raws.length cr, .slice pm masks.length cm]⟩, .int .i64 a] [sl pr raws.length cr 9 1 (raws.map Value.string), sl pm masks.length cm 3 1 (masks.map (Value.int .i64))] (.tuple #[.string (atF raws masks a).1, .int .i64 (atF raws masks a).2]) [sl pr raws.length cr 9 1 (raws.map Value.string), sl pm masks.length cm 3 1 (masks.map (Value.int .i64))] := by
  by_cases hb : a < 0 ∨ (raws.length : Int) ≤ a ∨ (masks.length : Int) ≤ a ∨ (raws.getD a.toNat ⟨#[]⟩).size ≠ 512
  · have e : atF raws masks a = (blankB, 255) := by unfold atF; rw [if_pos hb]
    rw [e]
    refine FnD.frame (at_blank q pr pm cr cm raws masks hlr hlm a ?_) [_]
    by_cases h0 : a < 0
    · exact .inl h0
    by_cases h1 : (raws.length : Int) ≤ a
    · exact .inr (.inl h1)
    by_cases h2 : (masks.length : Int) ≤ a
    · exact .inr (.inr (.inl h2))
    refine .inr (.inr (.inr ⟨a.toNat, raws.getD a.toNat ⟨#[]⟩, by omega, ?_, ?_⟩))
    · rw [List.getD_eq_getElem?_getD, List.getElem?_eq_getElem (by omega)]; rfl
    · rcases hb with h | h | h | h
      · exact absurd h h0
      · exact absurd h h1
      · exact absurd h h2
      · exact h
  · have g0 : ¬ a < 0 := fun h => hb (.inl h)
    have g1 : ¬ (raws.length : Int) ≤ a := fun h => hb (.inr (.inl h))
    have g2 : ¬ (masks.length : Int) ≤ a := fun h => hb (.inr (.inr (.inl h)))
    have g3 : (raws.getD a.toNat ⟨#[]⟩).size = 512 := Decidable.not_not.1 fun h => hb (.inr (.inr (.inr h)))
    have e : atF raws masks a = (raws.getD a.toNat ⟨#[]⟩, masks.getD a.toNat 0) := by unfold atF; rw [if_neg hb]
    rw [e]
    obtain ⟨i, rfl⟩ : ∃ i : Nat, a = i := ⟨a.toNat, by omega⟩
    rw [show ((i : Int)).toNat = i from rfl] at *
    have hx := map_at Value.string raws ⟨#[]⟩ i (by omega)
    have hy := map_at (Value.int .i64) masks 0 i (by omega)
    generalize raws.getD i ⟨#[]⟩ = raw at *
    generalize masks.getD i 0 = m at *
    (first | refine FnD.go Tryz.call31 Tryz.func31 rfl rfl rfl ?_ | refine FnX.go Tryz.call31 Tryz.func31 rfl rfl rfl ?_)
    (repeat (first | refine g ?_ | refine s_flat 3 [(.pure, [0, 2, 5, 7]), (.mem true, [1]), (.pure, [3]), (.mem true, [4]), (.pure, [10]), (.mem true, [6]), (.pure, [8]), (.mem true, [9]), (.pure, [11])] ?_))
    refine s_box fun b2 => ?_
    refine s_ptr pr (h0 := by omega) (fun br er _ _ => ?_)
    refine s_ptr pm (h0 := by omega) (fun bm em _ _ => ?_)
    subst er em
    (repeat (first | refine g ?_ | refine s_flat 3 [(.pure, [0, 2, 5, 7]), (.mem true, [1]), (.pure, [3]), (.mem true, [4]), (.pure, [10]), (.mem true, [6]), (.pure, [8]), (.mem true, [9]), (.pure, [11])] ?_))
    refine s_loadsl hx ?_
    (repeat (first | refine g ?_ | refine s_flat 3 [(.pure, [0, 2, 5, 7]), (.mem true, [1]), (.pure, [3]), (.mem true, [4]), (.pure, [10]), (.mem true, [6]), (.pure, [8]), (.mem true, [9]), (.pure, [11])] ?_))
    refine s_loadsl hx ?_
    (repeat (first | refine g ?_ | refine s_flat 3 [(.pure, [0, 2, 5, 7]), (.mem true, [1]), (.pure, [3]), (.mem true, [4]), (.pure, [10]), (.mem true, [6]), (.pure, [8]), (.mem true, [9]), (.pure, [11])] ?_))
    refine s_loadsl hy ?_
    (repeat (first | refine g ?_ | refine s_flat 3 [(.pure, [0, 2, 5, 7]), (.mem true, [1]), (.pure, [3]), (.mem true, [4]), (.pure, [10]), (.mem true, [6]), (.pure, [8]), (.mem true, [9]), (.pure, [11])] ?_))
    exact run_ret rfl (imp_RD rfl shut)
end Go.Proofs.YtaiocnpecaecdaaGreatDoor.V
namespace Go.Proofs.YtaiocnpecaecdaaGreatDoor.V
open Go.Proofs.YtaiocnpecaecdaaGreatDoor.VL Go.Proofs.YtaiocnpecaecdaaGreatDoor.VL.RD Go.Proofs.YtaiocnpecaecdaaGreatDoor.VL.Sha
attribute [local irreducible] Run numB
theorem look_all {q : View} {v : Value} {p : VP} (M : VM q v p) {n : Nat} {s : p.St} (hs : M.ok n s) (hn : n ≤ 1000) (pr pm : Option Addr) (cr cm : Nat) (raws : List ByteArray) (masks : List Int) (hlr : raws.length ≤ 1000000) (hlm : masks.length ≤ 9223372036854775807) (a : Int) :
    FnD Tryz.prog q 89 [v, .agg ⟨[.slice pr raws.length cr, .slice pm masks.length cm]⟩, .int .i64 a] [M.ch s, sl pr raws.length cr 9 1 (raws.map Value.string), sl pm masks.length cm 3 1 (masks.map (Value.int .i64))] (.agg ⟨encR (lookM p s raws masks a)⟩) [M.ch s, sl pr raws.length cr 9 1 (raws.map Value.string), sl pm masks.length cm 3 1 (masks.map (Value.int .i64))] := by
  have cA := at_all q pr pm cr cm raws masks hlr hlm a
  unfold lookM
  generalize atF raws masks a = A at *
  obtain ⟨raw, m⟩ := A
  dsimp only at cA ⊢
  by_cases hm : m ≠ 0
  · rw [if_pos hm]
    (first | refine FnD.go Tryz.call89 Tryz.func89 rfl rfl rfl ?_ | refine FnX.go Tryz.call89 Tryz.func89 rfl rfl rfl ?_)
    (repeat (first | refine g ?_))
    refine s_box fun b4 => ?_
    (repeat (first | refine g ?_))
    refine s_alloc fun r6 => ?_
    (repeat (first | refine g ?_))
    refine s_call cA ?_
    (repeat (first | refine g ?_))
    refine s_ceq r6 (encR noR) ?_ ?_
    · rfl
    refine run_ret1 (imp_RD ?_ shut) rfl (res_cell tabOk rfl rfl rfl (by repeat (first | (with_reducible exact At.head) | apply At.tail)) rfl)
    rfl
  · have hm : m = 0 := Decidable.not_not.1 hm
    subst hm
    rw [if_neg (fun h => h rfl)]
    have ct := M.toldC raw a hs hn
    generalize p.toldF s raw a = R at *
    unfold encR encH at ct
    (first | refine FnD.go Tryz.call89 Tryz.func89 rfl rfl rfl ?_ | refine FnX.go Tryz.call89 Tryz.func89 rfl rfl rfl ?_)
    (repeat (first | refine g ?_))
    refine s_box fun b4 => ?_
    (repeat (first | refine g ?_))
    refine s_alloc fun r6 => ?_
    (repeat (first | refine g ?_))
    refine s_call cA ?_
    (repeat (first | refine g ?_))
    refine s_call ct ?_
    (repeat (first | refine g ?_))
    refine s_ceq r6 (encR R) ?_ ?_
    · rfl
    refine run_ret1 (imp_RD ?_ shut) rfl (res_cell tabOk rfl rfl rfl (by repeat (first | (with_reducible exact At.head) | apply At.tail)) rfl)
    rfl
end Go.Proofs.YtaiocnpecaecdaaGreatDoor.V
namespace Go.Proofs.YtaiocnpecaecdaaGreatDoor.V
open Go.Proofs.YtaiocnpecaecdaaGreatDoor.VL Go.Proofs.YtaiocnpecaecdaaGreatDoor.VL.RD Go.Proofs.YtaiocnpecaecdaaGreatDoor.VL.Sha
attribute [local irreducible] Run numB
theorem jload_spec {q : View} (hE : ErrQ q) {v : Value} {p : VP} (M : VM q v p) {n : Nat} {s : p.St} (hs : M.ok n s) (hn : n ≤ 1000) (b m : Nat) (d : PSt) (hw : PW m d) (hm : m < 1000000) (a : Int) :
    FnD Tryz.prog q 51 [.pointer (some ⟨b, 0, none⟩), v, .int .i64 a] [plateAt b d, M.ch s] (.agg ⟨encR (loadM p d s a)⟩) [plateAt b (getF d a).2, M.ch s] := by
  have cg := bget_spec q hE b d hw.wf hw.s64 (by have := hw.nr; omega) a
  unfold loadM
  by_cases h : (getF d a).1.2.2 ≠ 0 ∨ (getF d a).1.2.1 ≠ 0
  · rw [if_pos h]
    exact bload_no q b v (M.ch s) _ _ a _ _ _ h cg
  · rw [if_neg h]
    have e1 : (getF d a).1.2.2 = 0 := Decidable.not_not.1 fun e => h (.inl e)
    have e2 : (getF d a).1.2.1 = 0 := Decidable.not_not.1 fun e => h (.inr e)
    rw [e1, e2] at cg
    exact bload_ok q b v _ _ _ _ a _ _ cg (M.toldC _ a hs hn)
theorem atF_size (raws : List ByteArray) (masks : List Int) (a : Int) : (atF raws masks a).1.size = 512 := by
  unfold atF
  by_cases h : a < 0 ∨ (raws.length : Int) ≤ a ∨ (masks.length : Int) ≤ a ∨ (raws.getD a.toNat ⟨#[]⟩).size ≠ 512
  · rw [if_pos h]
    have e := blankB_sz
    generalize blankB = Z at *
    exact e
  · rw [if_neg h]
    dsimp only
    generalize (raws.getD a.toNat ⟨#[]⟩).size = z at *
    omega
theorem recsF_succ (raws : List ByteArray) (masks : List Int) (m : Nat) : recsF raws masks 3 (m + 1) = match recsF raws masks 3 m with
      | none => none
      | some l => if (atF raws masks (3 + m)).2 ≠ 0 ∨ (headOfF ((atF raws masks (3 + m)).1.extract 0 48)).2 ≠ 0 then none else some (l ++ [⟨(headOfF ((atF raws masks (3 + m)).1.extract 0 48)).1.addr, (atF raws masks (3 + m)).1⟩]) := by
  rw [recsF]
  cases recsF raws masks 3 m <;> rfl
theorem recsF_none (raws : List ByteArray) (masks : List Int) (m n : Nat) (hmn : m ≤ n) (h : recsF raws masks 3 m = none) : recsF raws masks 3 n = none := by
  induction n with
  | zero =>
    obtain rfl : m = 0 := by omega
    exact h
  | succ n ih =>
    by_cases e : m = n + 1
    · rw [← e]; exact h
    · rw [recsF_succ, ih (by omega)]
end Go.Proofs.YtaiocnpecaecdaaGreatDoor.V
namespace Go.Proofs.YtaiocnpecaecdaaGreatDoor.V
open Go.Proofs.YtaiocnpecaecdaaGreatDoor.VL Go.Proofs.YtaiocnpecaecdaaGreatDoor.VL.RD Go.Proofs.YtaiocnpecaecdaaGreatDoor.VL.Sha
attribute [local irreducible] Run numB
theorem bput_pw {n : Nat} {s : PSt} (h : PW n s) (hn : n < 1000000) (a : Int) (raw : ByteArray) : PW (n + 8) (bputF s a raw).2 ∧ (bputF s a raw).2.sectors = s.sectors := by
  unfold bputF
  split
  · exact ⟨h.mono (by omega), rfl⟩
  · split
    · exact ⟨h.mono (by omega), rfl⟩
    · exact wrN_pw h hn (a * 8) raw 8 (by omega)
theorem dput_pw {n : Nat} {d : PSt × Int} (h : PW n d.1) (hn : n < 1000000) (a : Int) (raw : ByteArray) : PW (n + 8) (dput d a raw).1 ∧ (dput d a raw).1.sectors = d.1.sectors := by
  unfold dput
  split
  · exact ⟨h.mono (by omega), rfl⟩
  · exact bput_pw h hn a raw
theorem dflush_pw {n : Nat} {d : PSt × Int} (h : PW n d.1) : PW n (dflush d).1 ∧ (dflush d).1.sectors = d.1.sectors := by
  unfold dflush
  split
  · exact ⟨h, rfl⟩
  · exact ⟨h.flush, flush_sec d.1⟩
theorem putsD_pw (l : List WriteT) : ∀ {n : Nat} {d : PSt × Int} (base : Int), PW n d.1 → n + 8 * l.length < 1000000 → PW (n + 8 * l.length) (putsD d base l).1 ∧ (putsD d base l).1.sectors = d.1.sectors := by
  induction l with
  | nil => intro n d base h _; exact ⟨h, rfl⟩
  | cons w l ih =>
    intro n d base h hn
    rw [List.length_cons] at hn ⊢
    have k := dput_pw h (by omega) base w.raw
    have := ih (base + 1) k.1 (by omega)
    rw [show n + 8 * (l.length + 1) = n + 8 + 8 * l.length by omega]
    exact ⟨this.1, this.2.trans k.2⟩
theorem placesD_pw (l : List WriteT) : ∀ {n : Nat} {d : PSt × Int}, PW n d.1 → n + 8 * l.length < 1000000 → PW (n + 8 * l.length) (placesD d l).1 ∧ (placesD d l).1.sectors = d.1.sectors := by
  induction l with
  | nil => intro n d h _; exact ⟨h, rfl⟩
  | cons w l ih =>
    intro n d h hn
    rw [List.length_cons] at hn ⊢
    have k := dput_pw h (by omega) w.at_ w.raw
    have := ih k.1 (by omega)
    rw [show n + 8 * (l.length + 1) = n + 8 + 8 * l.length by omega]
    exact ⟨this.1, this.2.trans k.2⟩
theorem finishD_pw {n : Nat} {d : PSt × Int} (h : PW n d.1) (l : List WriteT) (w : WriteT) (hn : n + 8 * l.length < 1000000) : PW (n + 8 * l.length + 8) (finishD d l w).1 ∧ (finishD d l w).1.sectors = d.1.sectors := by
  unfold finishD
  have k1 := placesD_pw l h hn
  have k2 := dflush_pw k1.1
  have k3 := dput_pw k2.1 (by omega) w.at_ w.raw
  have k4 := dflush_pw k3.1
  exact ⟨k4.1, by rw [k4.2, k3.2, k2.2, k1.2]⟩
def okE (e : Int) : Prop := e = 0 ∨ e = 20
end Go.Proofs.YtaiocnpecaecdaaGreatDoor.V
namespace Go.Proofs.YtaiocnpecaecdaaGreatDoor.V
open Go.Proofs.YtaiocnpecaecdaaGreatDoor.VL Go.Proofs.YtaiocnpecaecdaaGreatDoor.VL.RD Go.Proofs.YtaiocnpecaecdaaGreatDoor.VL.Sha
attribute [local irreducible] Run numB
theorem superM_at {q : View} {v : Value} {p : VP} (M : VM q v p) (s : p.St) (x : SuperT) (h : (superM p s x).1.2 = 0) : (superM p s x).1.1.at_ = x.epoch % 2 ∧ (superM p s x).1.1.raw.size ≤ 1000000 := by
  unfold superM at *
  split
  · rename_i h1
    rw [if_pos h1] at h
    exact absurd h h1
  · rename_i h1
    rw [if_neg h1] at h
    split
    · rename_i h2
      rw [if_pos h2] at h
      exact absurd h h2
    · exact ⟨rfl, M.sealB _ _ _⟩
theorem superM_ok1 {q : View} {v : Value} {p : VP} (M : VM q v p) {n : Nat} {s : p.St} (hs : M.ok n s) (x : SuperT) : M.ok (n + 1) (superM p s x).2 := by
  unfold superM
  split
  · exact M.mono hs (Nat.le_succ _)
  · split
    · exact M.sealOk _ _ hs
    · exact M.sealOk _ _ hs
set_option maxHeartbeats 2000000 in
theorem jformat_spec {q : View} (hE : ErrQ q) {v : Value} {p : VP} (M : VM q v p) {n : Nat} {s : p.St} (hs : M.ok n s) (hn : n ≤ 1000) (x : SuperT) (hx : SuperOk x) (b m : Nat) (d : PSt) (hw : PW m d) (hm : m < 100000) :
    FnD Tryz.prog q 23 [.pointer (some ⟨b, 0, none⟩), v, .agg ⟨encSu x⟩] [plateAt b d, M.ch s] (.int .i64 (formatM p d s x).1) [plateAt b (formatM p d s x).2.1, M.ch (formatM p d s x).2.2] := by
  have cl := live_spec q b d hw.wf
  have cj := jsuper_spec M hs hn x hx
  have hl0 := hx.l0
  have hl1 := hx.l1
  by_cases h1 : (liveF d.sectors).2 ≠ 0
  · have e : formatM p d s x = (1, d, s) := by unfold formatM; rw [if_pos (.inl h1)]
    rw [e]
    generalize liveF d.sectors = L at *
    unfold encSu at *
    (first | refine FnD.go Tryz.call23 Tryz.func23 rfl rfl rfl ?_ | refine FnX.go Tryz.call23 Tryz.func23 rfl rfl rfl ?_)
    (repeat (first | refine g ?_))
    refine s_box fun r5 => ?_
    (repeat (first | refine g ?_))
    refine s_call cl ?_
    (repeat (first | refine g ?_))
    exact run_ret rfl (imp_RD rfl shut)
  by_cases h2 : x.live ≠ (liveF d.sectors).1
  · have e : formatM p d s x = (1, d, s) := by unfold formatM; rw [if_pos (.inr h2)]
    rw [e]
    generalize liveF d.sectors = L at *
    unfold encSu at *
    (first | refine FnD.go Tryz.call23 Tryz.func23 rfl rfl rfl ?_ | refine FnX.go Tryz.call23 Tryz.func23 rfl rfl rfl ?_)
    (repeat (first | refine g ?_))
    refine s_box fun r5 => ?_
    (repeat (first | refine g ?_))
    refine s_call cl ?_
    (repeat (first | refine g ?_))
    exact run_ret rfl (imp_RD rfl shut)
  have e : formatM p d s x = if (superM p s x).1.2 ≠ 0 then ((superM p s x).1.2, d, (superM p s x).2) else
      (stopF (dflush (dput (dflush (dput (dput (d, 0) (1 - (superM p s x).1.1.at_) blankB) 2 blankB)) (superM p s x).1.1.at_ (superM p s x).1.1.raw)).2, (dflush (dput (dflush (dput (dput (d, 0) (1 - (superM p s x).1.1.at_) blankB) 2 blankB)) (superM p s x).1.1.at_ (superM p s x).1.1.raw)).1, (superM p s x).2) := by
    unfold formatM
    rw [if_neg (fun h => h.elim h1 h2)]
  rw [e]
  have hat := superM_at M s x
  generalize superM p s x = R at *
  obtain ⟨⟨⟨at_, raw⟩, e2⟩, s2⟩ := R
  dsimp only at hat cj ⊢
  unfold encW at cj
  dsimp only at cj
  generalize liveF d.sectors = L at *
  by_cases h3 : e2 ≠ 0
  · rw [if_pos h3]
    unfold encSu at *
    (first | refine FnD.go Tryz.call23 Tryz.func23 rfl rfl rfl ?_ | refine FnX.go Tryz.call23 Tryz.func23 rfl rfl rfl ?_)
    (repeat (first | refine g ?_))
    refine s_box fun r5 => ?_
    (repeat (first | refine g ?_))
    refine s_call cl ?_
    (repeat (first | refine g ?_))
    refine s_call cj ?_
    (repeat (first | refine g ?_))
    refine s_alloc fun r9 => ?_
    (repeat (first | refine g ?_))
    exact run_ret rfl (imp_RD rfl shut)
  have h3 : e2 = 0 := Decidable.not_not.1 h3
  subst h3
  rw [if_neg (fun h => h rfl)]
  obtain ⟨ea, er⟩ := hat rfl
  have ha : 0 ≤ at_ ∧ at_ ≤ 1 := by omega
  have cr : FnD Tryz.prog q 58 [.string ⟨#[0]⟩, .int .i64 512] [] (.string blankB) [] := repeat_spec q 512 (by decide)
  have hbz := blankB_sz
  generalize blankB = Z at *
  have k1 := dput_pw (d := (d, 0)) hw (by omega) (1 - at_) Z
  have c1 := fun r => sput_spec q hE r b (d, 0) m hw (by omega) (1 - at_) Z (by omega)
  generalize dput (d, 0) (1 - at_) Z = t1 at *
  have k2 := dput_pw k1.1 (by omega) 2 Z
  have c2 := fun r => sput_spec q hE r b t1 (m + 8) k1.1 (by omega) 2 Z (by omega)
  generalize dput t1 2 Z = t2 at *
  have k3 := dflush_pw k2.1
  have c3 := fun r => sflush_spec q r b t2 k2.1.wf
  generalize dflush t2 = t3 at *
  have k4 := dput_pw k3.1 (by omega) at_ raw
  have c4 := fun r => sput_spec q hE r b t3 (m + 8 + 8) k3.1 (by omega) at_ raw (by omega)
  generalize dput t3 at_ raw = t4 at *
  have c5 := fun r => sflush_spec q r b t4 k4.1.wf
  generalize dflush t4 = t5 at *
  have cst := stopped_spec q t5.2
  unfold rowAt at c1 c2 c3 c4 c5
  dsimp only at c1
  rw [show stopV 0 = .nilIface from rfl] at c1
  generalize stopV t1.2 = v1 at *
  generalize stopV t2.2 = v2 at *
  generalize stopV t3.2 = v3 at *
  generalize stopV t4.2 = v4 at *
  generalize stopV t5.2 = v5 at *
  unfold encSu at *
  (first | refine FnD.go Tryz.call23 Tryz.func23 rfl rfl rfl ?_ | refine FnX.go Tryz.call23 Tryz.func23 rfl rfl rfl ?_)
  (repeat (first | refine g ?_))
  refine s_box fun r5 => ?_
  (repeat (first | refine g ?_))
  refine s_call cl ?_
  (repeat (first | refine g ?_))
  refine s_call cj ?_
  (repeat (first | refine g ?_))
  refine s_alloc fun r9 => ?_
  (repeat (first | refine g ?_))
  refine s_call cr ?_
  (repeat (first | refine g ?_))
  refine s_box fun r => ?_
  (repeat (first | refine g ?_))
  refine s_call (c1 r) ?_
  (repeat (first | refine g ?_))
  refine s_call (c2 r) ?_
  (repeat (first | refine g ?_))
  refine s_call (c3 r) ?_
  (repeat (first | refine g ?_))
  refine s_call (c4 r) ?_
  (repeat (first | refine g ?_))
  refine s_call (c5 r) ?_
  (repeat (first | refine g ?_))
  refine s_call cst ?_
  (repeat (first | refine g ?_))
  exact run_ret rfl (imp_RD rfl shut)
end Go.Proofs.YtaiocnpecaecdaaGreatDoor.V
namespace Go.Proofs.YtaiocnpecaecdaaGreatDoor.V
open Go.Proofs.YtaiocnpecaecdaaGreatDoor.VL Go.Proofs.YtaiocnpecaecdaaGreatDoor.VL.RD Go.Proofs.YtaiocnpecaecdaaGreatDoor.VL.Sha
attribute [local irreducible] Run numB
theorem joinedL_succ (l : List WriteT) (i : Nat) (w : WriteT) (h : l[i]? = some w) : joinedL (l.take (i + 1)) = joinedL (l.take i) ++ w.raw.data.toList := by
  unfold joinedL
  rw [List.take_add_one, h, List.flatMap_append]
  simp
theorem joined_len (l : List WriteT) (hw : ∀ w ∈ l, w.raw.size ≤ 1000000) : (joinedL l).length ≤ 1000000 * l.length := by
  induction l with
  | nil => exact Nat.le_refl _
  | cons w l ih =>
    have h1 := hw w List.mem_cons_self
    have h2 := ih fun u hu => hw u (List.mem_cons_of_mem _ hu)
    have h3 : w.raw.data.toList.length = w.raw.size := Array.length_toList
    unfold joinedL at *
    rw [List.flatMap_cons, List.length_append, List.length_cons]
    omega
/-- Blocks that may be written have so many bytes. -/
theorem may_len (live : Int) (l : List WriteT) : ∀ last : Int, mayG live last l = true → (joinedL l).length = 512 * l.length := by
  induction l with
  | nil => intro last _; rfl
  | cons w l ih =>
    intro last h
    have e2 : mayG live last (w :: l) = if w.at_ ≤ last ∨ live ≤ w.at_ ∨ w.raw.size ≠ 512 then false else if (headOfF (w.raw.extract 0 48)).2 ≠ 0 ∨ (headOfF (w.raw.extract 0 48)).1.addr ≠ w.at_ then false else mayG live w.at_ l := rfl
    rw [e2] at h
    split at h
    · cases h
    · rename_i h1
      split at h
      · cases h
      · have h3 := ih w.at_ h
        have h4 : w.raw.data.toList.length = w.raw.size := Array.length_toList
        unfold joinedL at *
        rw [List.flatMap_cons, List.length_append, List.length_cons, h3]
        omega
theorem joined_ne (q : View) (wp : Option Addr) (wc : Nat) (l : List WriteT) (hw : ∀ w ∈ l, WOk w) (hl : l.length ≤ 1000) (h0 : joinedL l ≠ []) :
    FnD Tryz.prog q 95 [.slice wp l.length wc] [sl wp l.length wc 54 2 (encWs l)] (.string (bl (joinedL l))) [sl wp l.length wc 54 2 (encWs l)] := by
  have hel := encWs_len l
  have hjl : ∀ i, (joinedL (l.take i)).length ≤ 1000000 * (l.take i).length := fun i => joined_len _ fun w hm => (hw w (List.mem_of_mem_take hm)).sz
  (first | refine FnD.go Tryz.call95 Tryz.func95 rfl rfl rfl ?_ | refine FnX.go Tryz.call95 Tryz.func95 rfl rfl rfl ?_)
  (repeat (first | refine g ?_))
  refine s_alloc fun bb => ?_
  (repeat (first | refine g ?_))
  refine run_sl_nil0 (t := 5) (kk := 1) ?_
  refine run_loopI (X := Nat × Bool × Option Addr × Nat) (fun x => x.1 ≤ l.length ∧ (x.1 = l.length → 0 < l.length)) (fun x => [(3, .pointer (some ⟨bb, 0, none⟩)), (6, .slice wp l.length wc), (7, .int .i64 (l.length : Int)), (8, .int .i64 (x.1 : Int))])
    (fun x => [sl wp l.length wc 54 2 (encWs l), cells bb 184 ⟨[.pointer (selfP x.2.1 bb), .slice x.2.2.1 (joinedL (l.take x.1)).length x.2.2.2]⟩, sl x.2.2.1 (joinedL (l.take x.1)).length x.2.2.2 5 1 (bv (joinedL (l.take x.1)))]) (fun x => l.length - x.1) (0, false, none, 0) ?_ fct ?_ ?_
  · refine ⟨Nat.zero_le _, fun e => ?_⟩
    cases l with
    | nil => exact absurd rfl h0
    | cons w l => exact Nat.succ_pos _
  · dsimp only [List.take_zero]
    exact shut
  intro ⟨i, own, p, cap⟩ ⟨hi, hpos⟩
  dsimp only at hi ⊢
  by_cases h1 : i < l.length
  · obtain ⟨w, hx⟩ : ∃ x, l[i]? = some x := ⟨_, List.getElem?_eq_getElem h1⟩
    have hwo := hw w (List.mem_of_getElem? hx)
    have hxa := encWs_at l i w hx
    have eJ := joinedL_succ l i w hx
    have hji := hjl i
    have hti : (l.take i).length ≤ 1000 := by rw [List.length_take]; omega
    have hwz := hwo.sz
    have eself : selfP true bb = some ⟨bb, 0, none⟩ := rfl
    have cw := writeString_spec q bb own p (joinedL (l.take i)).length cap (joinedL (l.take i)) w.raw rfl (by omega)
    have hle : (joinedL (l.take i)).length + w.raw.size = (joinedL (l.take (i + 1))).length := by
      rw [eJ, List.length_append, Array.length_toList]; rfl
    rw [← eJ, hle] at cw
    unfold encW at hxa
    obtain ⟨a, raw⟩ := w
    dsimp only at hxa cw
    refine s_ptr wp (h0 := show 0 < l.length by omega) (fun bc ep _ hcap => ?_)
    subst ep
    generalize joinedL (l.take i) = L0 at *
    generalize hL1 : joinedL (l.take (i + 1)) = L1 at *
    (repeat (first | refine g ?_))
    refine s_idxk 2 ?_
    refine s_loadasl (i := i * 2) hxa (by rw [hel]; omega) ?_
    (repeat (first | refine g ?_))
    refine s_alloc fun r5 => ?_
    (repeat (first | refine g ?_))
    refine s_callx cw fun r => ?_
    (repeat (first | refine g ?_))
    refine run_stop_loop (i + 1, true, r.1, r.2) ⟨⟨by dsimp only; omega, fun _ => by omega⟩, by dsimp only; omega⟩ fct ?_
    dsimp only
    rw [eself, hL1]
    exact shut
  · obtain rfl : i = l.length := by omega
    rw [List.take_length]
    have hne : (joinedL l).length ≠ 0 := fun e => h0 (List.length_eq_zero_iff.1 e)
    have hjn := hjl l.length
    rw [List.take_length] at hjn
    have cst := string_spec q bb (selfP own bb) p (joinedL l).length cap (joinedL l) rfl hne (by omega)
    (repeat (first | refine g ?_))
    refine s_call cst ?_
    (repeat (first | refine g ?_))
    exact run_ret rfl (imp_RD rfl shut)
/-- Nothing is joined. -/
theorem joined_nil (q : View) (wp : Option Addr) (wc : Nat) : FnD Tryz.prog q 95 [.slice wp 0 wc] [] (.string ⟨#[]⟩) [] := by
  (first | refine FnD.go Tryz.call95 Tryz.func95 rfl rfl rfl ?_ | refine FnX.go Tryz.call95 Tryz.func95 rfl rfl rfl ?_)
  (repeat (first | refine g ?_))
  refine s_alloc fun bb => ?_
  (repeat (first | refine g ?_))
  refine run_loopI (X := Unit) (fun _ => True) (fun _ => [(3, .pointer (some ⟨bb, 0, none⟩)), (6, .slice wp 0 wc), (7, .int .i64 ((0 : Nat) : Int)), (8, .int .i64 ((0 : Nat) : Int))])
    (fun _ => [cells bb 184 ⟨[.pointer none, .slice none 0 0]⟩]) (fun _ => 0) () trivial fct shut ?_
  intro _ _
  have cst := string_nil q bb none
  (repeat (first | refine g ?_))
  refine s_call cst ?_
  (repeat (first | refine g ?_))
  exact run_ret rfl (imp_RD rfl shut)
theorem joined_spec (q : View) (wp : Option Addr) (wc : Nat) (l : List WriteT) (hw : ∀ w ∈ l, WOk w) (hl : l.length ≤ 1000) (h0 : l = [] ∨ joinedL l ≠ []) :
    FnD Tryz.prog q 95 [.slice wp l.length wc] [sl wp l.length wc 54 2 (encWs l)] (.string (bl (joinedL l))) [sl wp l.length wc 54 2 (encWs l)] := by
  rcases h0 with rfl | h0
  · exact FnD.frame (joined_nil q wp wc) [_]
  · exact joined_ne q wp wc l hw hl h0
end Go.Proofs.YtaiocnpecaecdaaGreatDoor.V
namespace Go.Proofs.YtaiocnpecaecdaaGreatDoor.V
open Go.Proofs.YtaiocnpecaecdaaGreatDoor.VL Go.Proofs.YtaiocnpecaecdaaGreatDoor.VL.RD Go.Proofs.YtaiocnpecaecdaaGreatDoor.VL.Sha
attribute [local irreducible] Run numB
set_option maxHeartbeats 2000000 in
theorem promise_spec {q : View} {v : Value} {p : VP} (M : VM q v p) {n : Nat} {s : p.St} (hs : M.ok n s) (hn : n < 1000) (x : SuperT) (hx : SuperOk x) (wp : Option Addr) (wc : Nat) (l : List WriteT) (hw : ∀ w ∈ l, WOk w) (hl : l.length ≤ 1000) (h0 : l = [] ∨ joinedL l ≠ []) (hjl : (joinedL l).length ≤ 1000000) :
    FnD Tryz.prog q 55 [v, .slice wp l.length wc, .agg ⟨encSu x⟩] [sl wp l.length wc 54 2 (encWs l), M.ch s] (.tuple #[.string (promiseM p s l x).1.1, .int .i64 (promiseM p s l x).1.2]) [sl wp l.length wc 54 2 (encWs l), M.ch (promiseM p s l x).2] := by
  have cp := super_spec q x hx
  by_cases h1 : (superF x).2 ≠ 0
  · have e : promiseM p s l x = ((⟨#[]⟩, (superF x).2), s) := by unfold promiseM; rw [if_pos h1]
    rw [e]
    generalize superF x = S at *
    obtain ⟨t, e1⟩ := S
    dsimp only at h1 cp ⊢
    unfold encSu at *
    (first | refine FnD.go Tryz.call55 Tryz.func55 rfl rfl rfl ?_ | refine FnX.go Tryz.call55 Tryz.func55 rfl rfl rfl ?_)
    (repeat (first | refine g ?_ | refine s_flat 5 [(.pure, [0, 1, 2, 6, 7]), (.mem false, [3, 4]), (.pure, [5, 8]), (.mem false, [9]), (.pure, [10, 11, 12, 13, 14])] ?_))
    refine s_box fun r5 => ?_
    (repeat (first | refine g ?_ | refine s_flat 5 [(.pure, [0, 1, 2, 6, 7]), (.mem false, [3, 4]), (.pure, [5, 8]), (.mem false, [9]), (.pure, [10, 11, 12, 13, 14])] ?_))
    refine s_call cp ?_
    (repeat (first | refine g ?_ | refine s_flat 5 [(.pure, [0, 1, 2, 6, 7]), (.mem false, [3, 4]), (.pure, [5, 8]), (.mem false, [9]), (.pure, [10, 11, 12, 13, 14])] ?_))
    exact run_ret rfl (imp_RD rfl shut)
  have h1 : (superF x).2 = 0 := Decidable.not_not.1 h1
  have hsz : (superF x).1.size = 448 := by
    unfold superF at *
    split at h1
    · exact absurd h1 (by decide)
    · rename_i hr
      split at h1
      · rename_i hf
        rw [if_neg hr, if_pos hf]
        exact (by show (superL x).toArray.size = 448; simp [superL_len x (show x.root.size = 32 by omega)])
      · exact absurd h1 (by decide)
  have hfl : (fldSu x).all okN = true := by
    unfold superF at h1
    split at h1
    · exact absurd h1 (by decide)
    · split at h1
      · assumption
      · exact absurd h1 (by decide)
  have hH : HeadOk (headPr x) := by
    obtain ⟨v0, v1, e0, e1, n0, n1, l0, l1, r1⟩ := hx
    constructor <;> (unfold headPr; dsimp only; omega)
  have e : promiseM p s l x = p.sealF (p.hashF s (bl (joinedL l))).2 (headPr x) (promB l.length (p.hashF s (bl (joinedL l))).1 (superF x).1) := by unfold promiseM; rw [if_neg (fun h => h h1)]
  rw [e]
  have cj := joined_spec q wp wc l hw hl h0
  have ch := M.hashC (bl (joinedL l)) (by show (joinedL l).toArray.size ≤ 1000000; simpa using hjl) hs (by omega)
  have hh32 := M.hash32 s (bl (joinedL l))
  have hok := M.hashOk (bl (joinedL l)) hs
  generalize bl (joinedL l) = J at *
  generalize p.hashF s J = HR at *
  obtain ⟨H, s2⟩ := HR
  dsimp only at ch hh32 hok ⊢
  have cs := M.sealC (headPr x) (promB l.length H (superF x).1) hok (by omega) hH
  have cn := put_spec q (l.length : Int) 2 (by omega)
  have hpn : (V.putF (l.length : Int) 2).1.size ≤ 2 := by
    unfold V.putF
    split
    · exact Nat.zero_le _
    split
    · exact Nat.zero_le _
    · show (leb _ 2).toArray.size ≤ 2
      simp [leb_length]
  rw [h1] at cp
  generalize p.sealF s2 (headPr x) (promB l.length H (superF x).1) = R at *
  obtain ⟨⟨word, e2⟩, s3⟩ := R
  dsimp only at cs ⊢
  have cpad := pad_spec q ((V.putF (l.length : Int) 2).1 ++ H ++ (superF x).1.extract 0 54) 448 (by
    rw [ByteArray.size_append, ByteArray.size_append, ByteArray.size_extract]; omega)
  unfold promB at cs
  generalize padF ((V.putF (l.length : Int) 2).1 ++ H ++ (superF x).1.extract 0 54) 448 = PD at *
  obtain ⟨B, eb⟩ := PD
  dsimp only at cs cpad
  have hab : ((V.putF (l.length : Int) 2).1 ++ H).size ≤ 34 := by rw [ByteArray.size_append]; omega
  generalize V.putF (l.length : Int) 2 = PN at *
  obtain ⟨N, en⟩ := PN
  dsimp only at cn cpad hpn hab
  generalize (superF x).1 = T at *
  have hTe : (T.extract (0 : Int).toNat (54 : Int).toNat).size ≤ 54 := by rw [ByteArray.size_extract]; show min 54 T.size - 0 ≤ 54; omega
  unfold headPr encH at cs
  unfold encSu at *
  dsimp only at cs
  (first | refine FnD.go Tryz.call55 Tryz.func55 rfl rfl rfl ?_ | refine FnX.go Tryz.call55 Tryz.func55 rfl rfl rfl ?_)
  (repeat (first | refine g ?_ | refine s_flat 5 [(.pure, [0, 1, 2, 6, 7]), (.mem false, [3, 4]), (.pure, [5, 8]), (.mem false, [9]), (.pure, [10, 11, 12, 13, 14])] ?_))
  refine s_box fun r5 => ?_
  (repeat (first | refine g ?_ | refine s_flat 5 [(.pure, [0, 1, 2, 6, 7]), (.mem false, [3, 4]), (.pure, [5, 8]), (.mem false, [9]), (.pure, [10, 11, 12, 13, 14])] ?_))
  refine s_call cp ?_
  (repeat (first | refine g ?_ | refine s_flat 5 [(.pure, [0, 1, 2, 6, 7]), (.mem false, [3, 4]), (.pure, [5, 8]), (.mem false, [9]), (.pure, [10, 11, 12, 13, 14])] ?_))
  refine s_call cn ?_
  (repeat (first | refine g ?_ | refine s_flat 5 [(.pure, [0, 1, 2, 6, 7]), (.mem false, [3, 4]), (.pure, [5, 8]), (.mem false, [9]), (.pure, [10, 11, 12, 13, 14])] ?_))
  refine s_call cj ?_
  (repeat (first | refine g ?_ | refine s_flat 5 [(.pure, [0, 1, 2, 6, 7]), (.mem false, [3, 4]), (.pure, [5, 8]), (.mem false, [9]), (.pure, [10, 11, 12, 13, 14])] ?_))
  refine s_call ch ?_
  (repeat (first | refine g ?_ | refine s_flat 5 [(.pure, [0, 1, 2, 6, 7]), (.mem false, [3, 4]), (.pure, [5, 8]), (.mem false, [9]), (.pure, [10, 11, 12, 13, 14])] ?_))
  refine s_call cpad ?_
  (repeat (first | refine g ?_ | refine s_flat 5 [(.pure, [0, 1, 2, 6, 7]), (.mem false, [3, 4]), (.pure, [5, 8]), (.mem false, [9]), (.pure, [10, 11, 12, 13, 14])] ?_))
  refine s_call cs ?_
  (repeat (first | refine g ?_ | refine s_flat 5 [(.pure, [0, 1, 2, 6, 7]), (.mem false, [3, 4]), (.pure, [5, 8]), (.mem false, [9]), (.pure, [10, 11, 12, 13, 14])] ?_))
  exact run_ret rfl (imp_RD rfl shut)
set_option maxHeartbeats 2000000 in
theorem finish_spec (q : View) (hE : ErrQ q) (r b m : Nat) (d : PSt × Int) (hd : PW m d.1) (wp : Option Addr) (wc : Nat) (l : List WriteT) (hw : ∀ w ∈ l, WOk w) (hl : l.length ≤ 1000) (hm : m < 100000) (h : WriteT) (hh : WOk h) :
    FnD Tryz.prog q 52 [.pointer (some ⟨r, 0, none⟩), .slice wp l.length wc, .agg ⟨encW h⟩] (rowAt r b d ++ [sl wp l.length wc 54 2 (encWs l)]) (.tuple #[]) (rowAt r b (finishD d l h) ++ [sl wp l.length wc 54 2 (encWs l)]) := by
  have hel := encWs_len l
  have ev : ∀ i, i ≤ l.length → PW (m + 8 * (l.take i).length) (placesD d (l.take i)).1 := fun i hi => (placesD_pw (l.take i) hd (by rw [List.length_take]; omega)).1
  have es : ∀ i w, l[i]? = some w → placesD d (l.take (i + 1)) = dput (placesD d (l.take i)) w.at_ w.raw := by
    intro i w hx
    have key : ∀ (a : List WriteT) (d : PSt × Int), placesD d (a ++ [w]) = dput (placesD d a) w.at_ w.raw := by
      intro a
      induction a with
      | nil => intro d; rfl
      | cons u a ih => intro d; exact ih (dput d u.at_ u.raw)
    rw [List.take_add_one, hx]
    exact key _ _
  have hPn := ev l.length (Nat.le_refl _)
  rw [List.take_length] at hPn
  unfold finishD
  have k1 := dflush_pw (d := placesD d l) hPn
  have c1 := sflush_spec q r b (placesD d l) hPn.wf
  generalize dflush (placesD d l) = t1 at *
  have hhz := hh.sz
  have c2 := sput_spec q hE r b t1 (m + 8 * l.length) k1.1 (by omega) h.at_ h.raw (by omega)
  have k2 := dput_pw k1.1 (by omega) h.at_ h.raw
  generalize dput t1 h.at_ h.raw = t2 at *
  have c3 := sflush_spec q r b t2 k2.1.wf
  generalize dflush t2 = t3 at *
  have ha0 := hh.a0
  have ha1 := hh.a1
  obtain ⟨ha, hraw⟩ := h
  dsimp only at hhz c2 ha0 ha1
  unfold rowAt encW at *
  dsimp only [List.cons_append, List.nil_append]
  generalize stopV t1.2 = v1 at *
  generalize stopV t2.2 = v2 at *
  generalize stopV t3.2 = v3 at *
  (first | refine FnD.go Tryz.call52 Tryz.func52 rfl rfl rfl ?_ | refine FnX.go Tryz.call52 Tryz.func52 rfl rfl rfl ?_)
  (repeat (first | refine g ?_))
  refine s_box fun r5 => ?_
  (repeat (first | refine g ?_))
  refine run_loopI (X := Nat) (fun i => i ≤ l.length) (fun i => [(0, .pointer (some ⟨r, 0, none⟩)), (5, .pointer (some ⟨r5, 0, none⟩)), (8, .slice wp l.length wc), (9, .int .i64 (l.length : Int)), (10, .int .i64 (i : Int))])
    (fun i => [cells r 120 ⟨[.pointer (some ⟨b, 0, none⟩), stopV (placesD d (l.take i)).2]⟩, plateAt b (placesD d (l.take i)).1, sl wp l.length wc 54 2 (encWs l), cells r5 54 ⟨[.int .i64 ha, .string hraw]⟩]) (fun i => l.length - i) 0 (Nat.zero_le _) fct ?_ ?_
  · rw [List.take_zero, show placesD d [] = d from rfl]
    exact shut
  intro i hi
  by_cases h1 : i < l.length
  · obtain ⟨w, hx⟩ : ∃ x, l[i]? = some x := ⟨_, List.getElem?_eq_getElem h1⟩
    have hwo := hw w (List.mem_of_getElem? hx)
    have hxa := encWs_at l i w hx
    have e := es i w hx
    have hp := ev i hi
    have hwz := hwo.sz
    have hti : (l.take i).length ≤ 1000 := by rw [List.length_take]; omega
    have cw := sput_spec q hE r b (placesD d (l.take i)) (m + 8 * (l.take i).length) hp (by omega) w.at_ w.raw (by omega)
    unfold rowAt at cw
    rw [← e] at cw
    generalize hd2 : placesD d (l.take (i + 1)) = d2 at *
    generalize placesD d (l.take i) = d1 at *
    generalize stopV d1.2 = u1 at *
    unfold encW at hxa
    obtain ⟨wa, raw⟩ := w
    dsimp only at hxa cw
    refine s_ptr wp (h0 := show 0 < l.length by omega) (fun bc ep _ hcap => ?_)
    subst ep
    (repeat (first | refine g ?_))
    refine s_idxk 2 ?_
    refine s_loadasl (i := i * 2) hxa (by rw [hel]; omega) ?_
    (repeat (first | refine g ?_))
    refine s_alloc fun r7 => ?_
    (repeat (first | refine g ?_))
    refine s_call cw ?_
    (repeat (first | refine g ?_))
    refine run_stop_loop (i + 1) ⟨h1, by omega⟩ fct ?_
    rw [hd2]
    exact shut
  · obtain rfl : i = l.length := by omega
    rw [List.take_length]
    (repeat (first | refine g ?_))
    refine s_call c1 ?_
    (repeat (first | refine g ?_))
    refine s_call c2 ?_
    (repeat (first | refine g ?_))
    refine s_call c3 ?_
    (repeat (first | refine g ?_))
    exact run_end rfl (imp_RD rfl shut)
end Go.Proofs.YtaiocnpecaecdaaGreatDoor.V
namespace Go.Proofs.YtaiocnpecaecdaaGreatDoor.V
open Go.Proofs.YtaiocnpecaecdaaGreatDoor.VL Go.Proofs.YtaiocnpecaecdaaGreatDoor.VL.RD Go.Proofs.YtaiocnpecaecdaaGreatDoor.VL.Sha
attribute [local irreducible] Run numB
theorem putsD_snoc (a : List WriteT) (w : WriteT) : ∀ (d : PSt × Int) (base : Int), putsD d base (a ++ [w]) = dput (putsD d base a) (base + a.length) w.raw := by
  induction a with
  | nil => intro d base; show dput d base w.raw = dput d (base + ((0 : Nat) : Int)) w.raw; rw [show base + ((0 : Nat) : Int) = base by omega]
  | cons u a ih =>
    intro d base
    show putsD (dput d base u.raw) (base + 1) (a ++ [w]) = _
    rw [ih]
    show dput (putsD (dput d base u.raw) (base + 1) a) (base + 1 + (a.length : Int)) w.raw = dput (putsD (dput d base u.raw) (base + 1) a) (base + ((a.length + 1 : Nat) : Int)) w.raw
    rw [show base + ((a.length + 1 : Nat) : Int) = base + 1 + (a.length : Int) by omega]
/-- What is refused. -/
theorem commit_long {q : View} {v : Value} (b : Nat) (x : SuperT) (wp : Option Addr) (wc : Nat) (l : List WriteT) (hl : 24 < l.length) (hl2 : l.length ≤ 1000) :
    FnD Tryz.prog q 21 [.pointer (some ⟨b, 0, none⟩), v, .slice wp l.length wc, .agg ⟨encSu x⟩] [] (.int .i64 4) [] := by
  unfold encSu
  (first | refine FnD.go Tryz.call21 Tryz.func21 rfl rfl rfl ?_ | refine FnX.go Tryz.call21 Tryz.func21 rfl rfl rfl ?_)
  (repeat (first | refine g ?_))
  refine s_box fun r7 => ?_
  (repeat (first | refine g ?_))
  exact run_ret rfl (imp_RD rfl shut)
set_option maxHeartbeats 4000000 in
theorem commit_bad {q : View} {v : Value} (x : SuperT) (hx : SuperOk x) (b m : Nat) (d : PSt) (hw : PW m d) (wp : Option Addr) (wc : Nat) (l : List WriteT) (hwo : ∀ w ∈ l, WOk w) (hl : l.length ≤ 24)
    (h : x.live < 48 ∨ 1024 < x.live ∨ (liveF d.sectors).2 ≠ 0 ∨ (liveF d.sectors).1 ≠ x.live ∨ mayF x.live l = false) :
    FnD Tryz.prog q 21 [.pointer (some ⟨b, 0, none⟩), v, .slice wp l.length wc, .agg ⟨encSu x⟩] [plateAt b d, sl wp l.length wc 54 2 (encWs l)] (.int .i64 1) [plateAt b d, sl wp l.length wc 54 2 (encWs l)] := by
  have cl := live_spec q b d hw.wf
  have hl0 := hx.l0
  have hl1 := hx.l1
  by_cases h0 : x.live < 48 ∨ 1024 < x.live
  · have cy := layout_bad q x.live h0
    rw [show encLay0 = [.int .i64 0, .int .i64 0, .int .i64 0, .int .i64 0, .int .i64 0, .int .i64 0, .int .i64 0, .int .i64 0, .int .i64 0, .int .i64 0, .int .i64 0, .int .i64 0, .int .i64 0, .int .i64 0, .int .i64 0, .int .i64 0] from rfl] at cy
    generalize liveF d.sectors = L at *
    unfold encSu at *
    (first | refine FnD.go Tryz.call21 Tryz.func21 rfl rfl rfl ?_ | refine FnX.go Tryz.call21 Tryz.func21 rfl rfl rfl ?_)
    (repeat (first | refine g ?_))
    refine s_box fun r7 => ?_
    (repeat (first | refine g ?_))
    refine s_call cy ?_
    (repeat (first | refine g ?_))
    refine s_alloc fun r9 => ?_
    (repeat (first | refine g ?_))
    refine s_call cl ?_
    (repeat (first | refine g ?_))
    exact run_ret rfl (imp_RD rfl shut)
  obtain ⟨k, hk⟩ : ∃ k : Nat, x.live = k := ⟨x.live.toNat, by omega⟩
  have cm := may_spec q k (by omega) wp wc l hwo (by omega)
  have cy := layout_spec q k (by omega) (by omega)
  rw [← hk] at cy cm
  unfold encLay at cy cm
  by_cases h2 : (liveF d.sectors).2 ≠ 0
  · generalize liveF d.sectors = L at *
    unfold encSu at *
    (first | refine FnD.go Tryz.call21 Tryz.func21 rfl rfl rfl ?_ | refine FnX.go Tryz.call21 Tryz.func21 rfl rfl rfl ?_)
    (repeat (first | refine g ?_))
    refine s_box fun r7 => ?_
    (repeat (first | refine g ?_))
    refine s_call cy ?_
    (repeat (first | refine g ?_))
    refine s_alloc fun r9 => ?_
    (repeat (first | refine g ?_))
    refine s_call cl ?_
    (repeat (first | refine g ?_))
    exact run_ret rfl (imp_RD rfl shut)
  by_cases h3 : (liveF d.sectors).1 ≠ x.live
  · generalize liveF d.sectors = L at *
    unfold encSu at *
    (first | refine FnD.go Tryz.call21 Tryz.func21 rfl rfl rfl ?_ | refine FnX.go Tryz.call21 Tryz.func21 rfl rfl rfl ?_)
    (repeat (first | refine g ?_))
    refine s_box fun r7 => ?_
    (repeat (first | refine g ?_))
    refine s_call cy ?_
    (repeat (first | refine g ?_))
    refine s_alloc fun r9 => ?_
    (repeat (first | refine g ?_))
    refine s_call cl ?_
    (repeat (first | refine g ?_))
    exact run_ret rfl (imp_RD rfl shut)
  have h4 : mayF x.live l = false := by
    rcases h with h | h | h | h | h
    · exact absurd (.inl h) h0
    · exact absurd (.inr h) h0
    · exact absurd h h2
    · exact absurd h h3
    · exact h
  rw [h4] at cm
  generalize liveF d.sectors = L at *
  unfold encSu at *
  (first | refine FnD.go Tryz.call21 Tryz.func21 rfl rfl rfl ?_ | refine FnX.go Tryz.call21 Tryz.func21 rfl rfl rfl ?_)
  (repeat (first | refine g ?_))
  refine s_box fun r7 => ?_
  (repeat (first | refine g ?_))
  refine s_call cy ?_
  (repeat (first | refine g ?_))
  refine s_alloc fun r9 => ?_
  (repeat (first | refine g ?_))
  refine s_call cl ?_
  (repeat (first | refine g ?_))
  refine s_call cm ?_
  (repeat (first | refine g ?_))
  exact run_ret rfl (imp_RD rfl shut)
end Go.Proofs.YtaiocnpecaecdaaGreatDoor.V
namespace Go.Proofs.YtaiocnpecaecdaaGreatDoor.V
open Go.Proofs.YtaiocnpecaecdaaGreatDoor.VL Go.Proofs.YtaiocnpecaecdaaGreatDoor.VL.RD Go.Proofs.YtaiocnpecaecdaaGreatDoor.VL.Sha
attribute [local irreducible] Run numB
theorem superM_W {q : View} {v : Value} {p : VP} (M : VM q v p) (s : p.St) (x : SuperT) : WOk (superM p s x).1.1 := by
  unfold superM
  split
  · exact ⟨show (-9223372036854775808 : Int) ≤ 0 by decide, show (0 : Int) ≤ 9223372036854775807 by decide, Nat.zero_le _⟩
  · split
    · exact ⟨show (-9223372036854775808 : Int) ≤ 0 by decide, show (0 : Int) ≤ 9223372036854775807 by decide, Nat.zero_le _⟩
    · refine ⟨?_, ?_, M.sealB _ _ _⟩
      · show _ ≤ x.epoch % 2; omega
      · show x.epoch % 2 ≤ _; omega
set_option maxHeartbeats 8000000 in
theorem commit_main {q : View} (hE : ErrQ q) {v : Value} {p : VP} (M : VM q v p) {n : Nat} {s : p.St} (hs : M.ok n s) (hn : n ≤ 900) (x : SuperT) (hx : SuperOk x) (b m : Nat) (d : PSt) (hw : PW m d) (hm : m < 90000) (wp : Option Addr) (wc : Nat) (l : List WriteT) (hwo : ∀ w ∈ l, WOk w) (hl : l.length ≤ 24) (hj : l = [] ∨ joinedL l ≠ [])
    (k : Nat) (hk : x.live = k) (hk0 : 48 ≤ k) (hk1 : k ≤ 1024) (hL : liveF d.sectors = ((k : Int), 0)) (hmay : mayF x.live l = true) :
    FnD Tryz.prog q 21 [.pointer (some ⟨b, 0, none⟩), v, .slice wp l.length wc, .agg ⟨encSu x⟩] [plateAt b d, sl wp l.length wc 54 2 (encWs l), M.ch s] (.int .i64 (commitM p d s l x).1) [plateAt b (commitM p d s l x).2.1, sl wp l.length wc 54 2 (encWs l), M.ch (commitM p d s l x).2.2] := by
  have cl := live_spec q b d hw.wf
  have cm := may_spec q k (by omega) wp wc l hwo (by omega)
  have cy := layout_spec q k (by omega) (by omega)
  have cp := promise_spec M hs (by omega) x hx wp wc l hwo (by omega) hj (by have := may_len x.live l 26 hmay; omega)
  have hel := encWs_len l
  rw [hL] at cl
  rw [← hk] at cy cm cl
  rw [hmay] at cm
  unfold encLay at cy cm
  have e : commitM p d s l x = if (promiseM p s l x).1.2 ≠ 0 then ((promiseM p s l x).1.2, d, (promiseM p s l x).2) else
      (stopF (finishD (dflush (dput (dflush (putsD (d, 0) 3 l)) 2 (promiseM p s l x).1.1)) l (superM p (promiseM p s l x).2 x).1.1).2, (finishD (dflush (dput (dflush (putsD (d, 0) 3 l)) 2 (promiseM p s l x).1.1)) l (superM p (promiseM p s l x).2 x).1.1).1, (superM p (promiseM p s l x).2 x).2) := by
    unfold commitM
    rw [if_neg (by omega), if_neg]
    rintro (h | h | h | h | h)
    · omega
    · omega
    · rw [hL] at h; exact h rfl
    · rw [hL] at h; exact h hk.symm
    · rw [hmay] at h; exact absurd h (by decide)
  rw [e]
  have hpok : M.ok (n + 2) (promiseM p s l x).2 := by
    unfold promiseM
    split
    · exact M.mono hs (by omega)
    · exact M.sealOk _ _ (M.hashOk _ hs)
  have hpz : (promiseM p s l x).1.1.size ≤ 1000000 := by
    unfold promiseM
    split
    · exact Nat.zero_le _
    · exact M.sealB _ _ _
  generalize promiseM p s l x = PR at *
  obtain ⟨⟨word, e2⟩, s2⟩ := PR
  dsimp only at cp hpok hpz ⊢
  by_cases h3 : e2 ≠ 0
  · rw [if_pos h3]
    unfold encSu at *
    (first | refine FnD.go Tryz.call21 Tryz.func21 rfl rfl rfl ?_ | refine FnX.go Tryz.call21 Tryz.func21 rfl rfl rfl ?_)
    (repeat (first | refine g ?_))
    refine s_box fun r7 => ?_
    (repeat (first | refine g ?_))
    refine s_call cy ?_
    (repeat (first | refine g ?_))
    refine s_alloc fun r9 => ?_
    (repeat (first | refine g ?_))
    refine s_call cl ?_
    (repeat (first | refine g ?_))
    refine s_call cm ?_
    (repeat (first | refine g ?_))
    refine s_call cp ?_
    (repeat (first | refine g ?_))
    exact run_ret rfl (imp_RD rfl shut)
  have h3 : e2 = 0 := Decidable.not_not.1 h3
  subst h3
  rw [if_neg (fun h => h rfl)]
  have cj := jsuper_spec M hpok (by omega) x hx
  have hW := superM_W M s2 x
  generalize superM p s2 x = SR at *
  obtain ⟨⟨h, e3⟩, s3⟩ := SR
  dsimp only at cj hW ⊢
  have ev : ∀ i, i ≤ l.length → PW (m + 8 * (l.take i).length) (putsD (d, 0) 3 (l.take i)).1 := fun i hi => (putsD_pw (l.take i) 3 hw (by rw [List.length_take]; omega)).1
  have es : ∀ i w, l[i]? = some w → putsD (d, 0) 3 (l.take (i + 1)) = dput (putsD (d, 0) 3 (l.take i)) (3 + (i : Int)) w.raw := by
    intro i w hx
    have hi := (List.getElem?_eq_some_iff.1 hx).1
    rw [List.take_add_one, hx]
    show putsD (d, 0) 3 (l.take i ++ [w]) = _
    rw [putsD_snoc, List.length_take, Nat.min_eq_left (by omega)]
  have hPn := ev l.length (Nat.le_refl _)
  rw [List.take_length] at hPn
  have c1 := fun r => sflush_spec q r b (putsD (d, 0) 3 l) hPn.wf
  have k1 := dflush_pw (d := putsD (d, 0) 3 l) hPn
  generalize dflush (putsD (d, 0) 3 l) = t1 at *
  have c2 := fun r => sput_spec q hE r b t1 (m + 8 * l.length) k1.1 (by omega) 2 word (by omega)
  have k2 := dput_pw k1.1 (by omega) 2 word
  generalize dput t1 2 word = t2 at *
  have c3 := fun r => sflush_spec q r b t2 k2.1.wf
  have k3 := dflush_pw k2.1
  generalize dflush t2 = t3 at *
  have c4 := fun r => finish_spec q hE r b (m + 8 * l.length + 8) t3 k3.1 wp wc l hwo (by omega) (by omega) h hW
  generalize finishD t3 l h = t4 at *
  have cst := stopped_spec q t4.2
  have c0 : putsD (d, 0) 3 (l.take 0) = (d, 0) := rfl
  have c9 : putsD (d, 0) 3 (l.take l.length) = putsD (d, 0) 3 l := by rw [List.take_length]
  unfold rowAt at c1 c2 c3 c4
  dsimp only [List.cons_append, List.nil_append] at c4
  generalize stopV t1.2 = v1 at *
  generalize stopV t2.2 = v2 at *
  generalize stopV t3.2 = v3 at *
  generalize stopV t4.2 = v4 at *
  unfold encSu at *
  obtain ⟨ha, hraw⟩ := h
  unfold encW at cj c4
  dsimp only at cj c4
  (first | refine FnD.go Tryz.call21 Tryz.func21 rfl rfl rfl ?_ | refine FnX.go Tryz.call21 Tryz.func21 rfl rfl rfl ?_)
  (repeat (first | refine g ?_))
  refine s_box fun r7 => ?_
  (repeat (first | refine g ?_))
  refine s_call cy ?_
  (repeat (first | refine g ?_))
  refine s_alloc fun r9 => ?_
  (repeat (first | refine g ?_))
  refine s_call cl ?_
  (repeat (first | refine g ?_))
  refine s_call cm ?_
  (repeat (first | refine g ?_))
  refine s_call cp ?_
  (repeat (first | refine g ?_))
  refine s_call cj ?_
  (repeat (first | refine g ?_))
  refine s_alloc fun r14 => ?_
  (repeat (first | refine g ?_))
  refine s_box fun r => ?_
  (repeat (first | refine g ?_))
  refine run_loopI (X := Nat) (fun i => i ≤ l.length) (fun i => [(2, .slice wp l.length wc), (9, .pointer (some ⟨r9, 0, none⟩)), (13, .string word), (14, .pointer (some ⟨r14, 0, none⟩)), (16, .pointer (some ⟨r, 0, none⟩)), (70, .slice wp l.length wc), (71, .int .i64 (l.length : Int)), (72, .int .i64 (i : Int))])
    (fun i => [cells r 120 ⟨[.pointer (some ⟨b, 0, none⟩), stopV (putsD (d, 0) 3 (l.take i)).2]⟩, plateAt b (putsD (d, 0) 3 (l.take i)).1, sl wp l.length wc 54 2 (encWs l), cells r9 84 ⟨[.int .i64 (k : Int), .int .i64 2, .int .i64 3, .int .i64 27, .int .i64 28, .int .i64 29, .int .i64 (lInodes k : Int), .int .i64 ((29 + lInodes k : Nat) : Int), .int .i64 (lLost k : Int), .int .i64 ((29 + lInodes k + lLost k : Nat) : Int), .int .i64 ((30 + lInodes k + lLost k : Nat) : Int), .int .i64 (k : Int), .int .i64 ((k + 1 : Nat) : Int), .int .i64 (lList k : Int), .int .i64 ((k + 1 + lList k : Nat) : Int), .int .i64 (lTotal k : Int)]⟩, cells r14 54 ⟨[.int .i64 ha, .string hraw]⟩, M.ch s3]) (fun i => l.length - i) 0 (Nat.zero_le _) fct ?_ ?_
  · rw [c0]
    dsimp only
    rw [show stopV 0 = .nilIface from rfl]
    exact shut
  intro i hi
  by_cases h1 : i < l.length
  · obtain ⟨w, hx9⟩ : ∃ x, l[i]? = some x := ⟨_, List.getElem?_eq_getElem h1⟩
    have hwo1 := hwo w (List.mem_of_getElem? hx9)
    have hxa := encWs_at l i w hx9
    have ee := es i w hx9
    have hp := ev i hi
    have hwz := hwo1.sz
    have hti : (l.take i).length ≤ 1000 := by rw [List.length_take]; omega
    have cw := sput_spec q hE r b (putsD (d, 0) 3 (l.take i)) (m + 8 * (l.take i).length) hp (by omega) (3 + (i : Int)) w.raw (by omega)
    unfold rowAt at cw
    rw [← ee] at cw
    generalize hd2 : putsD (d, 0) 3 (l.take (i + 1)) = d2 at *
    generalize putsD (d, 0) 3 (l.take i) = d1 at *
    generalize stopV d1.2 = u1 at *
    unfold encW at hxa
    obtain ⟨wa, raw⟩ := w
    dsimp only at hxa cw
    refine s_ptr wp (h0 := show 0 < l.length by omega) (fun bc ep _ hcap => ?_)
    subst ep
    (repeat (first | refine g ?_))
    refine s_idxk 2 ?_
    refine s_loadasl (i := i * 2) hxa (by rw [hel]; omega) ?_
    (repeat (first | refine g ?_))
    refine s_alloc fun r18 => ?_
    (repeat (first | refine g ?_))
    refine s_call cw ?_
    (repeat (first | refine g ?_))
    refine run_stop_loop (i + 1) ⟨h1, by omega⟩ fct ?_
    rw [hd2]
    exact shut
  · obtain rfl : i = l.length := by omega
    rw [c9]
    (repeat (first | refine g ?_))
    refine s_call (c1 r) ?_
    (repeat (first | refine g ?_))
    refine s_call (c2 r) ?_
    (repeat (first | refine g ?_))
    refine s_call (c3 r) ?_
    (repeat (first | refine g ?_))
    refine s_call (c4 r) ?_
    (repeat (first | refine g ?_))
    refine s_call cst ?_
    (repeat (first | refine g ?_))
    exact run_ret rfl (imp_RD rfl shut)
end Go.Proofs.YtaiocnpecaecdaaGreatDoor.V
namespace Go.Proofs.YtaiocnpecaecdaaGreatDoor.V
open Go.Proofs.YtaiocnpecaecdaaGreatDoor.VL Go.Proofs.YtaiocnpecaecdaaGreatDoor.VL.RD Go.Proofs.YtaiocnpecaecdaaGreatDoor.VL.Sha
attribute [local irreducible] Run numB
theorem may_join (live : Int) (l : List WriteT) (h : mayF live l = true) : l = [] ∨ joinedL l ≠ [] := by
  cases l with
  | nil => exact .inl rfl
  | cons w l =>
    refine .inr fun e => ?_
    have hz : w.raw.size = 512 := by
      unfold mayF mayG at h
      split at h
      · exact absurd h (by decide)
      · omega
    have := congrArg List.length e
    unfold joinedL at this
    rw [List.flatMap_cons, List.length_append, Array.length_toList] at this
    have h2 : w.raw.data.size = 512 := hz
    rw [h2] at this
    exact absurd this (by rw [List.length_nil]; omega)
theorem commit_spec {q : View} (hE : ErrQ q) {v : Value} {p : VP} (M : VM q v p) {n : Nat} {s : p.St} (hs : M.ok n s) (hn : n ≤ 900) (x : SuperT) (hx : SuperOk x) (b m : Nat) (d : PSt) (hw : PW m d) (hm : m < 90000) (wp : Option Addr) (wc : Nat) (l : List WriteT) (hwo : ∀ w ∈ l, WOk w) (hl : l.length ≤ 1000) :
    FnD Tryz.prog q 21 [.pointer (some ⟨b, 0, none⟩), v, .slice wp l.length wc, .agg ⟨encSu x⟩] [plateAt b d, sl wp l.length wc 54 2 (encWs l), M.ch s] (.int .i64 (commitM p d s l x).1) [plateAt b (commitM p d s l x).2.1, sl wp l.length wc 54 2 (encWs l), M.ch (commitM p d s l x).2.2] := by
  by_cases h1 : 24 < l.length
  · have e : commitM p d s l x = (4, d, s) := by unfold commitM; rw [if_pos h1]
    rw [e]
    exact FnD.frame (commit_long b x wp wc l h1 hl) [_, _, _]
  by_cases h2 : x.live < 48 ∨ 1024 < x.live ∨ (liveF d.sectors).2 ≠ 0 ∨ (liveF d.sectors).1 ≠ x.live ∨ mayF x.live l = false
  · have e : commitM p d s l x = (1, d, s) := by unfold commitM; rw [if_neg h1, if_pos h2]
    rw [e]
    exact FnD.frame (commit_bad x hx b m d hw wp wc l hwo (by omega) h2) [_]
  have g1 : ¬ x.live < 48 := fun h => h2 (.inl h)
  have g2 : ¬ 1024 < x.live := fun h => h2 (.inr (.inl h))
  have g3 : (liveF d.sectors).2 = 0 := Decidable.not_not.1 fun h => h2 (.inr (.inr (.inl h)))
  have g4 : (liveF d.sectors).1 = x.live := Decidable.not_not.1 fun h => h2 (.inr (.inr (.inr (.inl h))))
  have g5 : mayF x.live l = true := by
    cases hm : mayF x.live l with
    | true => rfl
    | false => exact absurd (.inr (.inr (.inr (.inr hm)))) h2
  obtain ⟨k, hk⟩ : ∃ k : Nat, x.live = k := ⟨x.live.toNat, by omega⟩
  exact commit_main hE M hs hn x hx b m d hw hm wp wc l hwo (by omega) (may_join x.live l g5) k hk (by omega) (by omega) (by rw [← hk, ← g4, ← g3]) g5
end Go.Proofs.YtaiocnpecaecdaaGreatDoor.V
namespace Go.Proofs.YtaiocnpecaecdaaGreatDoor.V
open Go.Proofs.YtaiocnpecaecdaaGreatDoor.VL Go.Proofs.YtaiocnpecaecdaaGreatDoor.VL.RD Go.Proofs.YtaiocnpecaecdaaGreatDoor.VL.Sha
attribute [local irreducible] Run numB
theorem headOf_addr (s : ByteArray) : 0 ≤ (headOfF s).1.addr ∧ (headOfF s).1.addr ≤ 4294967295 := by
  unfold headOfF
  split
  · have h := lev_lt s.data.toList 10 4
    rw [show 256 ^ 4 = 4294967296 by decide] at h
    show (0 : Int) ≤ (lev s.data.toList 10 4 : Nat) ∧ ((lev s.data.toList 10 4 : Nat) : Int) ≤ 4294967295
    omega
  · exact ⟨by decide, by decide⟩
theorem recsF_ok (raws : List ByteArray) (masks : List Int) (n : Nat) : ∀ l, recsF raws masks 3 n = some l → l.length = n ∧ ∀ w ∈ l, WOk w := by
  induction n with
  | zero =>
    intro l h
    obtain rfl := Option.some.inj (show some [] = some l from h)
    exact ⟨rfl, fun w hw => by cases hw⟩
  | succ n ih =>
    intro l h
    rw [recsF_succ] at h
    cases hr : recsF raws masks 3 n with
    | none => rw [hr] at h; cases h
    | some l1 =>
      rw [hr] at h
      dsimp only at h
      obtain ⟨h1, h2⟩ := ih l1 hr
      split at h
      · cases h
      · obtain rfl := Option.some.inj h
        refine ⟨by rw [List.length_append, h1]; rfl, fun w hw => ?_⟩
        rcases List.mem_append.1 hw with hw | hw
        · exact h2 w hw
        · obtain rfl := List.mem_singleton.1 hw
          have ha := headOf_addr ((atF raws masks (3 + n)).1.extract 0 48)
          have hz := atF_size raws masks (3 + n)
          constructor <;> dsimp only <;> omega
theorem found_ok (p : VP) (s : p.St) (live : Int) (raws : List ByteArray) (masks : List Int) : (foundM p s live raws masks).1.1.length ≤ 24 ∧ ∀ w ∈ (foundM p s live raws masks).1.1, WOk w := by
  have h0 : ([] : List WriteT).length ≤ 24 ∧ ∀ w ∈ ([] : List WriteT), WOk w := ⟨Nat.zero_le _, fun w hw => by cases hw⟩
  unfold foundM
  dsimp only
  split
  · exact h0
  split
  · exact h0
  · rename_i h2
    split
    · exact h0
    · rename_i l hl
      split
      · exact h0
      · split
        · exact h0
        · obtain ⟨k1, k2⟩ := recsF_ok raws masks _ l hl
          exact ⟨by dsimp only; omega, k2⟩
theorem found_ok1 {q : View} {v : Value} {p : VP} (M : VM q v p) {n : Nat} {s : p.St} (hs : M.ok n s) (live : Int) (raws : List ByteArray) (masks : List Int) : M.ok (n + 1) (foundM p s live raws masks).2 := by
  have h0 := M.mono hs (Nat.le_succ n)
  unfold foundM
  dsimp only
  split
  · exact h0
  split
  · exact h0
  · split
    · exact h0
    · split
      · exact h0
      · split
        · exact M.hashOk _ hs
        · exact M.hashOk _ hs
theorem superOf_ok (s : ByteArray) : SuperOk (superOfF s).1 := by
  have key : ∀ (a b c d : Nat) (t : ByteArray), a < 281474976710656 → b < 281474976710656 → c < 281474976710656 → d < 4294967296 → t.size ≤ 32 → SuperOk ⟨a, b, c, d, t⟩ := by
    intro a b c d t h1 h2 h3 h4 h5
    constructor <;> dsimp only <;> omega
  have hz : SuperOk zeroSu := zeroSu_ok
  unfold superOfF
  split
  · exact hz
  split
  · exact hz
  split
  · have h1 := lev_lt s.data.toList 0 6
    have h2 := lev_lt s.data.toList 6 6
    have h3 := lev_lt s.data.toList 12 6
    have h4 := lev_lt s.data.toList 18 4
    rw [show 256 ^ 6 = 281474976710656 by decide] at h1 h2 h3
    rw [show 256 ^ 4 = 4294967296 by decide] at h4
    have hr : (s.extract 22 54).size ≤ 32 := by rw [ByteArray.size_extract]; omega
    exact key _ _ _ _ _ h1 h2 h3 h4 hr
  · exact hz
theorem found_su (p : VP) (s : p.St) (live : Int) (raws : List ByteArray) (masks : List Int) : SuperOk (foundM p s live raws masks).1.2.1 := by
  unfold foundM
  dsimp only
  split
  · exact zeroSu_ok
  split
  · exact zeroSu_ok
  · split
    · exact zeroSu_ok
    · split
      · exact zeroSu_ok
      · split
        · exact zeroSu_ok
        · dsimp only
          unfold nextF
          exact superOf_ok _
theorem getF_pw {n : Nat} {d : PSt} (h : PW n d) (hn : n + 8 ≤ 1000000) (a : Int) : PW (n + 8) (getF d a).2 ∧ (getF d a).2.sectors = d.sectors := by
  unfold getF
  split
  · exact ⟨h.mono (by omega), rfl⟩
  split
  · exact ⟨h.mono (by omega), rfl⟩
  · exact ⟨h.rds 8 (by omega), rfl⟩
theorem allS_sec (s : PSt) (i : Nat) : (allS s i).sectors = s.sectors := by
  unfold allS
  split <;> rfl
theorem recover_pw (p : VP) {n : Nat} {d : PSt} (h : PW n d) (hs : d.sectors = 784) (hn : n < 500000) (s : p.St) : PW (n + 1100) (recoverM p d s).2.1 ∧ (recoverM p d s).2.1.sectors = 784 := by
  have g1 := getF_pw h (by omega) 0
  have g2 := getF_pw g1.1 (by omega) 1
  have s2 : (getF (getF d 0).2 1).2.sectors = 784 := by rw [g2.2, g1.2, hs]
  have hb : blocksN (getF (getF d 0).2 1).2 = 98 := by unfold blocksN; rw [s2]; rfl
  have g3 := allS_pw g2.1 98 (by omega)
  have s3 : (allS (getF (getF d 0).2 1).2 98).sectors = 784 := by rw [allS_sec, s2]
  unfold recoverM
  dsimp only
  rw [hb]
  split
  · exact ⟨h.mono (by omega), hs⟩
  split
  · exact ⟨h.mono (by omega), hs⟩
  split
  · exact ⟨g2.1.mono (by omega), s2⟩
  split
  · exact ⟨g3.mono (by omega), s3⟩
  · have hf := (found_ok p s (liveF d.sectors).1 (rawsL (getF (getF d 0).2 1).2 98) (masksL (getF (getF d 0).2 1).2 98)).1
    generalize foundM p s (liveF d.sectors).1 (rawsL (getF (getF d 0).2 1).2 98) (masksL (getF (getF d 0).2 1).2 98) = F at *
    have k := finishD_pw (d := (allS (getF (getF d 0).2 1).2 98, 0)) g3 F.1.1 (superM p F.2 F.1.2.1).1.1 (by omega)
    split
    · exact ⟨k.1.mono (by omega), k.2.trans s3⟩
    · exact ⟨k.1.mono (by omega), k.2.trans s3⟩
theorem recover_ok1 {q : View} {v : Value} {p : VP} (M : VM q v p) {n : Nat} {s : p.St} (hs : M.ok n s) (d : PSt) : M.ok (n + 2) (recoverM p d s).2.2 := by
  unfold recoverM
  dsimp only
  split
  · exact M.mono hs (by omega)
  split
  · exact M.mono hs (by omega)
  split
  · exact M.mono hs (by omega)
  split
  · exact M.mono (found_ok1 M hs _ _ _) (by omega)
  · split
    · exact superM_ok1 M (found_ok1 M hs _ _ _) _
    · exact superM_ok1 M (found_ok1 M hs _ _ _) _
end Go.Proofs.YtaiocnpecaecdaaGreatDoor.V
namespace Go.Proofs.YtaiocnpecaecdaaGreatDoor.V
open Go.Proofs.YtaiocnpecaecdaaGreatDoor.VL Go.Proofs.YtaiocnpecaecdaaGreatDoor.VL.RD Go.Proofs.YtaiocnpecaecdaaGreatDoor.VL.Sha
attribute [local irreducible] Run numB
theorem lookM_ok {q : View} {v : Value} {p : VP} (M : VM q v p) (s : p.St) (raws : List ByteArray) (masks : List Int) (a : Int) : HeadOk (lookM p s raws masks a).head ∧ ((lookM p s raws masks a).ok = true → (lookM p s raws masks a).body.size = 448) := by
  unfold lookM
  split
  · exact ⟨zeroH_ok, fun h => absurd (show false = true from h) (by decide)⟩
  · exact ⟨M.toldH _ _ _, M.toldB _ _ _⟩
theorem pad_ok (T : ByteArray) (h : T.size ≤ 448) : (padF T 448).2 = 0 ∧ (padF T 448).1.size = 448 := by
  constructor
  · unfold padF
    rw [if_neg (by omega), if_neg (by omega)]
  · rw [pad_at T h, blen_size, List.length_append, List.length_replicate, Array.length_toList]
    show T.size + (448 - T.size) = 448
    omega
theorem encWs_snoc (l : List WriteT) (w : WriteT) : encWs (l ++ [w]) = encWs l ++ [.int .i64 w.at_, .string w.raw] := by
  unfold encWs
  rw [List.flatMap_append]
  rfl
set_option maxHeartbeats 8000000 in
theorem found_spec {q : View} {v : Value} {p : VP} (M : VM q v p) {n : Nat} {s : p.St} (hs : M.ok n s) (hn : n ≤ 990) (k : Nat) (hk0 : 48 ≤ k) (hk1 : k ≤ 1024) (pr pm : Option Addr) (cr cm : Nat) (raws : List ByteArray) (masks : List Int) (hlr : raws.length ≤ 1000000) (hlm : masks.length ≤ 9223372036854775807) :
    FnX Tryz.prog q 42 [v, .agg ⟨encLay k⟩, .agg ⟨[.slice pr raws.length cr, .slice pm masks.length cm]⟩] [M.ch s, sl pr raws.length cr 9 1 (raws.map Value.string), sl pm masks.length cm 3 1 (masks.map (Value.int .i64))]
      (fun r : Option Addr × Nat => .tuple #[.slice r.1 (foundM p s k raws masks).1.1.length r.2, .agg ⟨encSu (foundM p s k raws masks).1.2.1⟩, .bool (foundM p s k raws masks).1.2.2])
      fun r => [M.ch (foundM p s k raws masks).2, sl pr raws.length cr 9 1 (raws.map Value.string), sl pm masks.length cm 3 1 (masks.map (Value.int .i64)), sl r.1 (foundM p s k raws masks).1.1.length r.2 54 2 (encWs (foundM p s k raws masks).1.1)] := by
  have hlt : lTotal k ≤ 3000 := lTotal_le k hk1
  have cl := look_all M hs (by omega) pr pm cr cm raws masks hlr hlm 2
  have hR := lookM_ok M s raws masks 2
  obtain ⟨F, hF⟩ : ∃ F, foundM p s k raws masks = F := ⟨_, rfl⟩
  rw [hF]
  unfold foundM at hF
  dsimp only at hF
  generalize lookM p s raws masks 2 = R at *
  obtain ⟨ok, H, B⟩ := R
  dsimp only at hF hR
  have hk0' := hR.1.k0
  have hk1' := hR.1.k1
  unfold encR encH at cl
  dsimp only at cl
  cases ok with
  | false =>
    rw [if_pos (.inl rfl)] at hF
    subst hF
    unfold encLay
    (first | refine FnD.go Tryz.call42 Tryz.func42 rfl rfl rfl ?_ | refine FnX.go Tryz.call42 Tryz.func42 rfl rfl rfl ?_)
    (repeat (first | refine g ?_ | refine s_flat 21 [(.pure, [0, 2]), (.mem true, [1]), (.mem false, [3]), (.pure, [4])] ?_))
    refine s_box fun r4 => ?_
    (repeat (first | refine g ?_ | refine s_flat 21 [(.pure, [0, 2]), (.mem true, [1]), (.mem false, [3]), (.pure, [4])] ?_))
    refine s_box fun r5 => ?_
    (repeat (first | refine g ?_ | refine s_flat 21 [(.pure, [0, 2]), (.mem true, [1]), (.mem false, [3]), (.pure, [4])] ?_))
    refine s_alloc fun r7 => ?_
    (repeat (first | refine g ?_ | refine s_flat 21 [(.pure, [0, 2]), (.mem true, [1]), (.mem false, [3]), (.pure, [4])] ?_))
    refine s_call cl ?_
    (repeat (first | refine g ?_ | refine s_flat 21 [(.pure, [0, 2]), (.mem true, [1]), (.mem false, [3]), (.pure, [4])] ?_))
    refine s_alloc fun r9 => ?_
    (repeat (first | refine g ?_ | refine s_flat 21 [(.pure, [0, 2]), (.mem true, [1]), (.mem false, [3]), (.pure, [4])] ?_))
    refine s_ceq r7 (encSu zeroSu) ?_ ?_
    · rfl
    refine run_nil0 (t := 54) (kk := 2) ?_
    refine run_ret3 (imp_RX ((none, 0) : Option Addr × Nat) ?_ shut) rfl (res_tmp rfl) (res_cell tabOk rfl rfl rfl (by repeat (first | (with_reducible exact At.head) | apply At.tail)) rfl) (res_tmp rfl)
    rfl
  | true =>
    have hB := hR.2 rfl
    by_cases g1 : H.kind ≠ 2
    · rw [if_pos (.inr g1)] at hF
      subst hF
      unfold encLay
      (first | refine FnD.go Tryz.call42 Tryz.func42 rfl rfl rfl ?_ | refine FnX.go Tryz.call42 Tryz.func42 rfl rfl rfl ?_)
      (repeat (first | refine g ?_ | refine s_flat 21 [(.pure, [0, 2]), (.mem true, [1]), (.mem false, [3]), (.pure, [4])] ?_))
      refine s_box fun r4 => ?_
      (repeat (first | refine g ?_ | refine s_flat 21 [(.pure, [0, 2]), (.mem true, [1]), (.mem false, [3]), (.pure, [4])] ?_))
      refine s_box fun r5 => ?_
      (repeat (first | refine g ?_ | refine s_flat 21 [(.pure, [0, 2]), (.mem true, [1]), (.mem false, [3]), (.pure, [4])] ?_))
      refine s_alloc fun r7 => ?_
      (repeat (first | refine g ?_ | refine s_flat 21 [(.pure, [0, 2]), (.mem true, [1]), (.mem false, [3]), (.pure, [4])] ?_))
      refine s_call cl ?_
      (repeat (first | refine g ?_ | refine s_flat 21 [(.pure, [0, 2]), (.mem true, [1]), (.mem false, [3]), (.pure, [4])] ?_))
      refine s_alloc fun r9 => ?_
      (repeat (first | refine g ?_ | refine s_flat 21 [(.pure, [0, 2]), (.mem true, [1]), (.mem false, [3]), (.pure, [4])] ?_))
      refine s_ceq r7 (encSu zeroSu) ?_ ?_
      · rfl
      refine run_nil0 (t := 54) (kk := 2) ?_
      refine run_ret3 (imp_RX ((none, 0) : Option Addr × Nat) ?_ shut) rfl (res_tmp rfl) (res_cell tabOk rfl rfl rfl (by repeat (first | (with_reducible exact At.head) | apply At.tail)) rfl) (res_tmp rfl)
      rfl
    rw [if_neg (fun h => h.elim (fun h => absurd (show true = false from h) (by decide)) g1)] at hF
    have g1 : H.kind = 2 := Decidable.not_not.1 g1
    have cg := get_spec q B 0 2 (by omega) (by omega) (by omega) (by omega)
    have hN := lev_lt B.data.toList 0 2
    rw [show 256 ^ 2 = 65536 by decide] at hN
    have hTz : (B.extract 34 88).size ≤ 448 := by rw [ByteArray.size_extract]; omega
    have cpad := pad_spec q (B.extract 34 88) 448 (by omega)
    obtain ⟨hp1, hp2⟩ := pad_ok (B.extract 34 88) hTz
    unfold nextF at hF
    generalize padF (B.extract 34 88) 448 = PD at *
    obtain ⟨PB, pe⟩ := PD
    dsimp only at hF hp1 hp2 cpad
    subst hp1
    have cs := superOf_spec q PB (by omega)
    have hsm := superOf_small PB
    generalize superOfF PB = S at *
    obtain ⟨⟨vol, epoch, next, lv, root⟩, er⟩ := S
    dsimp only at hsm hF
    unfold encSu at cs
    dsimp only at cs
    generalize lev B.data.toList 0 2 = N at *
    by_cases g2 : er ≠ 0
    · rw [if_pos (.inl g2)] at hF
      subst hF
      unfold encLay
      (first | refine FnD.go Tryz.call42 Tryz.func42 rfl rfl rfl ?_ | refine FnX.go Tryz.call42 Tryz.func42 rfl rfl rfl ?_)
      (repeat (first | refine g ?_ | refine s_flat 21 [(.pure, [0, 2]), (.mem true, [1]), (.mem false, [3]), (.pure, [4])] ?_))
      refine s_box fun r4 => ?_
      (repeat (first | refine g ?_ | refine s_flat 21 [(.pure, [0, 2]), (.mem true, [1]), (.mem false, [3]), (.pure, [4])] ?_))
      refine s_box fun r5 => ?_
      (repeat (first | refine g ?_ | refine s_flat 21 [(.pure, [0, 2]), (.mem true, [1]), (.mem false, [3]), (.pure, [4])] ?_))
      refine s_alloc fun r7 => ?_
      (repeat (first | refine g ?_ | refine s_flat 21 [(.pure, [0, 2]), (.mem true, [1]), (.mem false, [3]), (.pure, [4])] ?_))
      refine s_call cl ?_
      (repeat (first | refine g ?_ | refine s_flat 21 [(.pure, [0, 2]), (.mem true, [1]), (.mem false, [3]), (.pure, [4])] ?_))
      refine s_alloc fun r9 => ?_
      (repeat (first | refine g ?_ | refine s_flat 21 [(.pure, [0, 2]), (.mem true, [1]), (.mem false, [3]), (.pure, [4])] ?_))
      refine s_call cg ?_
      (repeat (first | refine g ?_ | refine s_flat 21 [(.pure, [0, 2]), (.mem true, [1]), (.mem false, [3]), (.pure, [4])] ?_))
      refine s_call cpad ?_
      (repeat (first | refine g ?_ | refine s_flat 21 [(.pure, [0, 2]), (.mem true, [1]), (.mem false, [3]), (.pure, [4])] ?_))
      refine s_call cs ?_
      (repeat (first | refine g ?_ | refine s_flat 21 [(.pure, [0, 2]), (.mem true, [1]), (.mem false, [3]), (.pure, [4])] ?_))
      refine s_alloc fun r14 => ?_
      (repeat (first | refine g ?_ | refine s_flat 21 [(.pure, [0, 2]), (.mem true, [1]), (.mem false, [3]), (.pure, [4])] ?_))
      refine s_ceq r7 (encSu zeroSu) ?_ ?_
      · rfl
      refine run_nil0 (t := 54) (kk := 2) ?_
      refine run_ret3 (imp_RX ((none, 0) : Option Addr × Nat) ?_ shut) rfl (res_tmp rfl) (res_cell tabOk rfl rfl rfl (by repeat (first | (with_reducible exact At.head) | apply At.tail)) rfl) (res_tmp rfl)
      rfl
    by_cases g3 : 24 < N
    · rw [if_pos (.inr (.inl g3))] at hF
      subst hF
      unfold encLay
      (first | refine FnD.go Tryz.call42 Tryz.func42 rfl rfl rfl ?_ | refine FnX.go Tryz.call42 Tryz.func42 rfl rfl rfl ?_)
      (repeat (first | refine g ?_ | refine s_flat 21 [(.pure, [0, 2]), (.mem true, [1]), (.mem false, [3]), (.pure, [4])] ?_))
      refine s_box fun r4 => ?_
      (repeat (first | refine g ?_ | refine s_flat 21 [(.pure, [0, 2]), (.mem true, [1]), (.mem false, [3]), (.pure, [4])] ?_))
      refine s_box fun r5 => ?_
      (repeat (first | refine g ?_ | refine s_flat 21 [(.pure, [0, 2]), (.mem true, [1]), (.mem false, [3]), (.pure, [4])] ?_))
      refine s_alloc fun r7 => ?_
      (repeat (first | refine g ?_ | refine s_flat 21 [(.pure, [0, 2]), (.mem true, [1]), (.mem false, [3]), (.pure, [4])] ?_))
      refine s_call cl ?_
      (repeat (first | refine g ?_ | refine s_flat 21 [(.pure, [0, 2]), (.mem true, [1]), (.mem false, [3]), (.pure, [4])] ?_))
      refine s_alloc fun r9 => ?_
      (repeat (first | refine g ?_ | refine s_flat 21 [(.pure, [0, 2]), (.mem true, [1]), (.mem false, [3]), (.pure, [4])] ?_))
      refine s_call cg ?_
      (repeat (first | refine g ?_ | refine s_flat 21 [(.pure, [0, 2]), (.mem true, [1]), (.mem false, [3]), (.pure, [4])] ?_))
      refine s_call cpad ?_
      (repeat (first | refine g ?_ | refine s_flat 21 [(.pure, [0, 2]), (.mem true, [1]), (.mem false, [3]), (.pure, [4])] ?_))
      refine s_call cs ?_
      (repeat (first | refine g ?_ | refine s_flat 21 [(.pure, [0, 2]), (.mem true, [1]), (.mem false, [3]), (.pure, [4])] ?_))
      refine s_alloc fun r14 => ?_
      (repeat (first | refine g ?_ | refine s_flat 21 [(.pure, [0, 2]), (.mem true, [1]), (.mem false, [3]), (.pure, [4])] ?_))
      refine s_ceq r7 (encSu zeroSu) ?_ ?_
      · rfl
      refine run_nil0 (t := 54) (kk := 2) ?_
      refine run_ret3 (imp_RX ((none, 0) : Option Addr × Nat) ?_ shut) rfl (res_tmp rfl) (res_cell tabOk rfl rfl rfl (by repeat (first | (with_reducible exact At.head) | apply At.tail)) rfl) (res_tmp rfl)
      rfl
    by_cases g4 : lv ≠ k
    · rw [if_pos (.inr (.inr g4))] at hF
      subst hF
      unfold encLay
      (first | refine FnD.go Tryz.call42 Tryz.func42 rfl rfl rfl ?_ | refine FnX.go Tryz.call42 Tryz.func42 rfl rfl rfl ?_)
      (repeat (first | refine g ?_ | refine s_flat 21 [(.pure, [0, 2]), (.mem true, [1]), (.mem false, [3]), (.pure, [4])] ?_))
      refine s_box fun r4 => ?_
      (repeat (first | refine g ?_ | refine s_flat 21 [(.pure, [0, 2]), (.mem true, [1]), (.mem false, [3]), (.pure, [4])] ?_))
      refine s_box fun r5 => ?_
      (repeat (first | refine g ?_ | refine s_flat 21 [(.pure, [0, 2]), (.mem true, [1]), (.mem false, [3]), (.pure, [4])] ?_))
      refine s_alloc fun r7 => ?_
      (repeat (first | refine g ?_ | refine s_flat 21 [(.pure, [0, 2]), (.mem true, [1]), (.mem false, [3]), (.pure, [4])] ?_))
      refine s_call cl ?_
      (repeat (first | refine g ?_ | refine s_flat 21 [(.pure, [0, 2]), (.mem true, [1]), (.mem false, [3]), (.pure, [4])] ?_))
      refine s_alloc fun r9 => ?_
      (repeat (first | refine g ?_ | refine s_flat 21 [(.pure, [0, 2]), (.mem true, [1]), (.mem false, [3]), (.pure, [4])] ?_))
      refine s_call cg ?_
      (repeat (first | refine g ?_ | refine s_flat 21 [(.pure, [0, 2]), (.mem true, [1]), (.mem false, [3]), (.pure, [4])] ?_))
      refine s_call cpad ?_
      (repeat (first | refine g ?_ | refine s_flat 21 [(.pure, [0, 2]), (.mem true, [1]), (.mem false, [3]), (.pure, [4])] ?_))
      refine s_call cs ?_
      (repeat (first | refine g ?_ | refine s_flat 21 [(.pure, [0, 2]), (.mem true, [1]), (.mem false, [3]), (.pure, [4])] ?_))
      refine s_alloc fun r14 => ?_
      (repeat (first | refine g ?_ | refine s_flat 21 [(.pure, [0, 2]), (.mem true, [1]), (.mem false, [3]), (.pure, [4])] ?_))
      refine s_ceq r7 (encSu zeroSu) ?_ ?_
      · rfl
      refine run_nil0 (t := 54) (kk := 2) ?_
      refine run_ret3 (imp_RX ((none, 0) : Option Addr × Nat) ?_ shut) rfl (res_tmp rfl) (res_cell tabOk rfl rfl rfl (by repeat (first | (with_reducible exact At.head) | apply At.tail)) rfl) (res_tmp rfl)
      rfl
    rw [if_neg (fun h => h.elim g2 fun h => h.elim g3 g4)] at hF
    have g4 : lv = k := Decidable.not_not.1 g4
    have g2 : er = 0 := Decidable.not_not.1 g2
    subst g2
    unfold encLay
    (first | refine FnD.go Tryz.call42 Tryz.func42 rfl rfl rfl ?_ | refine FnX.go Tryz.call42 Tryz.func42 rfl rfl rfl ?_)
    (repeat (first | refine g ?_ | refine s_flat 21 [(.pure, [0, 2]), (.mem true, [1]), (.mem false, [3]), (.pure, [4])] ?_))
    refine s_box fun r4 => ?_
    (repeat (first | refine g ?_ | refine s_flat 21 [(.pure, [0, 2]), (.mem true, [1]), (.mem false, [3]), (.pure, [4])] ?_))
    refine s_box fun r5 => ?_
    (repeat (first | refine g ?_ | refine s_flat 21 [(.pure, [0, 2]), (.mem true, [1]), (.mem false, [3]), (.pure, [4])] ?_))
    refine s_alloc fun r7 => ?_
    (repeat (first | refine g ?_ | refine s_flat 21 [(.pure, [0, 2]), (.mem true, [1]), (.mem false, [3]), (.pure, [4])] ?_))
    refine s_call cl ?_
    (repeat (first | refine g ?_ | refine s_flat 21 [(.pure, [0, 2]), (.mem true, [1]), (.mem false, [3]), (.pure, [4])] ?_))
    refine s_alloc fun r9 => ?_
    (repeat (first | refine g ?_ | refine s_flat 21 [(.pure, [0, 2]), (.mem true, [1]), (.mem false, [3]), (.pure, [4])] ?_))
    refine s_call cg ?_
    (repeat (first | refine g ?_ | refine s_flat 21 [(.pure, [0, 2]), (.mem true, [1]), (.mem false, [3]), (.pure, [4])] ?_))
    refine s_call cpad ?_
    (repeat (first | refine g ?_ | refine s_flat 21 [(.pure, [0, 2]), (.mem true, [1]), (.mem false, [3]), (.pure, [4])] ?_))
    refine s_call cs ?_
    (repeat (first | refine g ?_ | refine s_flat 21 [(.pure, [0, 2]), (.mem true, [1]), (.mem false, [3]), (.pure, [4])] ?_))
    refine s_alloc fun r14 => ?_
    (repeat (first | refine g ?_ | refine s_flat 21 [(.pure, [0, 2]), (.mem true, [1]), (.mem false, [3]), (.pure, [4])] ?_))
    refine run_cutI (X := List WriteT × Option Addr × Nat) (fun x => recsF raws masks 3 N = some x.1) (fun x => [(0, v), (4, .pointer (some ⟨r4, 0, none⟩)), (7, .pointer (some ⟨r7, 0, none⟩)), (9, .pointer (some ⟨r9, 0, none⟩)), (14, .pointer (some ⟨r14, 0, none⟩)), (16, .slice x.2.1 N x.2.2)])
      (fun x => [cells r4 84 ⟨encLay k⟩, cells r7 33 ⟨encSu zeroSu⟩, cells r9 102 ⟨encR ⟨true, H, B⟩⟩, cells r14 33 ⟨encSu ⟨vol, epoch, next, lv, root⟩⟩, M.ch s, sl pr raws.length cr 9 1 (raws.map Value.string), sl pm masks.length cm 3 1 (masks.map (Value.int .i64)), sl x.2.1 N x.2.2 54 2 (encWs x.1)]) ?_ fun ⟨l, wp, wc⟩ hl => ?_
    · refine run_nil0 (t := 54) (kk := 2) ?_
      refine run_loopI (X := Nat × List WriteT × Option Addr × Nat) (fun x => x.1 ≤ N ∧ recsF raws masks 3 x.1 = some x.2.1) (fun x => [(0, v), (4, .pointer (some ⟨r4, 0, none⟩)), (5, .pointer (some ⟨r5, 0, none⟩)), (7, .pointer (some ⟨r7, 0, none⟩)), (9, .pointer (some ⟨r9, 0, none⟩)), (14, .pointer (some ⟨r14, 0, none⟩)), (16, .slice x.2.2.1 x.1 x.2.2.2), (73, .int .i64 (N : Int)), (74, .int .i64 (x.1 : Int))])
        (fun x => [cells r4 84 ⟨encLay k⟩, cells r5 61 ⟨[.slice pr raws.length cr, .slice pm masks.length cm]⟩, cells r7 33 ⟨encSu zeroSu⟩, cells r9 102 ⟨encR ⟨true, H, B⟩⟩, cells r14 33 ⟨encSu ⟨vol, epoch, next, lv, root⟩⟩, M.ch s, sl pr raws.length cr 9 1 (raws.map Value.string), sl pm masks.length cm 3 1 (masks.map (Value.int .i64)), sl x.2.2.1 x.1 x.2.2.2 54 2 (encWs x.2.1)]) (fun x => N - x.1) (0, [], none, 0) ⟨Nat.zero_le _, rfl⟩ fct shut ?_
      intro ⟨i, l, wp, wc⟩ ⟨hi, hl⟩
      dsimp only at hi hl ⊢
      have hll := (recsF_ok raws masks i l hl).1
      by_cases h1 : i < N
      · have cA := at_all q pr pm cr cm raws masks hlr hlm (3 + (i : Int))
        have hz := atF_size raws masks (3 + (i : Int))
        have hsucc := recsF_succ raws masks i
        rw [hl] at hsucc
        dsimp only at hsucc
        generalize atF raws masks (3 + (i : Int)) = A at *
        obtain ⟨raw, m⟩ := A
        dsimp only at hsucc hz cA
        have chd := headOf_spec q (raw.extract (0 : Int).toNat (48 : Int).toNat) (by rw [ByteArray.size_extract]; show min 48 raw.size - 0 = 48; omega)
        rw [show raw.extract (0 : Int).toNat (48 : Int).toNat = raw.extract 0 48 from rfl] at chd
        have haddr := headOf_addr (raw.extract 0 48)
        generalize headOfF (raw.extract 0 48) = HH at *
        obtain ⟨⟨z1, z2, z3, z4, z5, z6, z7, z8⟩, ge⟩ := HH
        unfold encH at chd
        dsimp only at chd hsucc haddr
        unfold encLay encR encH encSu
        by_cases b1 : m ≠ 0
        · rw [if_pos (.inl b1)] at hsucc
          rw [recsF_none raws masks (i + 1) N h1 hsucc] at hF
          subst hF
          (repeat (first | refine g ?_ | refine s_flat 21 [(.pure, [0, 2]), (.mem true, [1]), (.mem false, [3]), (.pure, [4])] ?_))
          refine s_call cA ?_
          (repeat (first | refine g ?_ | refine s_flat 21 [(.pure, [0, 2]), (.mem true, [1]), (.mem false, [3]), (.pure, [4])] ?_))
          refine s_call chd ?_
          (repeat (first | refine g ?_ | refine s_flat 21 [(.pure, [0, 2]), (.mem true, [1]), (.mem false, [3]), (.pure, [4])] ?_))
          refine s_alloc fun r20 => ?_
          (repeat (first | refine g ?_ | refine s_flat 21 [(.pure, [0, 2]), (.mem true, [1]), (.mem false, [3]), (.pure, [4])] ?_))
          refine s_ceq r7 (encSu zeroSu) ?_ ?_
          · rfl
          refine run_nil0 (t := 54) (kk := 2) ?_
          refine run_ret3 (imp_RX ((none, 0) : Option Addr × Nat) ?_ shut) rfl (res_tmp rfl) (res_cell tabOk rfl rfl rfl (by repeat (first | (with_reducible exact At.head) | apply At.tail)) rfl) (res_tmp rfl)
          rfl
        by_cases b2 : ge ≠ 0
        · rw [if_pos (.inr b2)] at hsucc
          rw [recsF_none raws masks (i + 1) N h1 hsucc] at hF
          subst hF
          (repeat (first | refine g ?_ | refine s_flat 21 [(.pure, [0, 2]), (.mem true, [1]), (.mem false, [3]), (.pure, [4])] ?_))
          refine s_call cA ?_
          (repeat (first | refine g ?_ | refine s_flat 21 [(.pure, [0, 2]), (.mem true, [1]), (.mem false, [3]), (.pure, [4])] ?_))
          refine s_call chd ?_
          (repeat (first | refine g ?_ | refine s_flat 21 [(.pure, [0, 2]), (.mem true, [1]), (.mem false, [3]), (.pure, [4])] ?_))
          refine s_alloc fun r20 => ?_
          (repeat (first | refine g ?_ | refine s_flat 21 [(.pure, [0, 2]), (.mem true, [1]), (.mem false, [3]), (.pure, [4])] ?_))
          refine s_ceq r7 (encSu zeroSu) ?_ ?_
          · rfl
          refine run_nil0 (t := 54) (kk := 2) ?_
          refine run_ret3 (imp_RX ((none, 0) : Option Addr × Nat) ?_ shut) rfl (res_tmp rfl) (res_cell tabOk rfl rfl rfl (by repeat (first | (with_reducible exact At.head) | apply At.tail)) rfl) (res_tmp rfl)
          rfl
        rw [if_neg (fun h => h.elim b1 b2)] at hsucc
        have hel := encWs_len l
        (repeat (first | refine g ?_ | refine s_flat 21 [(.pure, [0, 2]), (.mem true, [1]), (.mem false, [3]), (.pure, [4])] ?_))
        refine s_call cA ?_
        (repeat (first | refine g ?_ | refine s_flat 21 [(.pure, [0, 2]), (.mem true, [1]), (.mem false, [3]), (.pure, [4])] ?_))
        refine s_call chd ?_
        (repeat (first | refine g ?_ | refine s_flat 21 [(.pure, [0, 2]), (.mem true, [1]), (.mem false, [3]), (.pure, [4])] ?_))
        refine s_alloc fun r20 => ?_
        (repeat (first | refine g ?_ | refine s_flat 21 [(.pure, [0, 2]), (.mem true, [1]), (.mem false, [3]), (.pure, [4])] ?_))
        refine s_built fun rb => ?_
        (repeat (first | refine g ?_ | refine s_flat 21 [(.pure, [0, 2]), (.mem true, [1]), (.mem false, [3]), (.pure, [4])] ?_))
        refine s_app 2 24 (reads_own At.head rfl) (hxl := by rw [hel, hll]) fun r => ?_
        (repeat (first | refine g ?_ | refine s_flat 21 [(.pure, [0, 2]), (.mem true, [1]), (.mem false, [3]), (.pure, [4])] ?_))
        refine run_stop_loop (i + 1, l ++ [⟨z2, raw⟩], r.1, r.2) ⟨⟨by dsimp only; omega, hsucc⟩, by dsimp only; omega⟩ fct ?_
        dsimp only
        rw [encWs_snoc]
        exact shut
      · obtain rfl : i = N := by omega
        unfold encLay encR encH encSu
        (repeat (first | refine g ?_ | refine s_flat 21 [(.pure, [0, 2]), (.mem true, [1]), (.mem false, [3]), (.pure, [4])] ?_))
        exact run_stop_loop (l, wp, wc) hl fct shut
    · dsimp only at hl ⊢
      obtain ⟨hll, hwo⟩ := recsF_ok raws masks N l hl
      rw [hl] at hF
      dsimp only at hF
      subst hll
      have cm2 := may_spec q k hk1 wp wc l hwo (by omega)
      unfold encLay at cm2
      unfold encLay encR encH encSu
      dsimp only
      cases hm : mayF k l with
      | false =>
        rw [hm] at hF cm2
        rw [if_pos rfl] at hF
        subst hF
        (repeat (first | refine g ?_ | refine s_flat 21 [(.pure, [0, 2]), (.mem true, [1]), (.mem false, [3]), (.pure, [4])] ?_))
        refine d_start [sl wp l.length wc 54 2 (encWs l)] ?_
        refine d_getall 0 rfl ?_
        (first | refine d_pure 1 ?_ | refine d_load 1 ?_ | refine d_arith 1 ?_ | refine d_rem 1 ?_ | refine d_quo 1 ?_ | refine d_shrv 1 ?_ | refine d_fieldat 1 ?_ | refine d_idx1 1 ?_ | refine d_index 1 ?_ | refine d_conv64 1 ?_ | refine d_slices 1 ?_ | refine d_concat 1 ?_ | refine d_build 1 ?_)
        refine d_call 2 cm2 ?_
        (first | refine d_pure 3 ?_ | refine d_load 3 ?_ | refine d_arith 3 ?_ | refine d_rem 3 ?_ | refine d_quo 3 ?_ | refine d_shrv 3 ?_ | refine d_fieldat 3 ?_ | refine d_idx1 3 ?_ | refine d_index 3 ?_ | refine d_conv64 3 ?_ | refine d_slices 3 ?_ | refine d_concat 3 ?_ | refine d_build 3 ?_)
        (first | refine d_pure 4 ?_ | refine d_load 4 ?_ | refine d_arith 4 ?_ | refine d_rem 4 ?_ | refine d_quo 4 ?_ | refine d_shrv 4 ?_ | refine d_fieldat 4 ?_ | refine d_idx1 4 ?_ | refine d_index 4 ?_ | refine d_conv64 4 ?_ | refine d_slices 4 ?_ | refine d_concat 4 ?_ | refine d_build 4 ?_)
        (first | refine d_pure 5 ?_ | refine d_load 5 ?_ | refine d_arith 5 ?_ | refine d_rem 5 ?_ | refine d_quo 5 ?_ | refine d_shrv 5 ?_ | refine d_fieldat 5 ?_ | refine d_idx1 5 ?_ | refine d_index 5 ?_ | refine d_conv64 5 ?_ | refine d_slices 5 ?_ | refine d_concat 5 ?_ | refine d_build 5 ?_)
        (first | refine d_pure 6 ?_ | refine d_load 6 ?_ | refine d_arith 6 ?_ | refine d_rem 6 ?_ | refine d_quo 6 ?_ | refine d_shrv 6 ?_ | refine d_fieldat 6 ?_ | refine d_idx1 6 ?_ | refine d_index 6 ?_ | refine d_conv64 6 ?_ | refine d_slices 6 ?_ | refine d_concat 6 ?_ | refine d_build 6 ?_)
        (first | refine d_pure 9 ?_ | refine d_load 9 ?_ | refine d_arith 9 ?_ | refine d_rem 9 ?_ | refine d_quo 9 ?_ | refine d_shrv 9 ?_ | refine d_fieldat 9 ?_ | refine d_idx1 9 ?_ | refine d_index 9 ?_ | refine d_conv64 9 ?_ | refine d_slices 9 ?_ | refine d_concat 9 ?_ | refine d_build 9 ?_)
        (first | refine d_pure 10 ?_ | refine d_load 10 ?_ | refine d_arith 10 ?_ | refine d_rem 10 ?_ | refine d_quo 10 ?_ | refine d_shrv 10 ?_ | refine d_fieldat 10 ?_ | refine d_idx1 10 ?_ | refine d_index 10 ?_ | refine d_conv64 10 ?_ | refine d_slices 10 ?_ | refine d_concat 10 ?_ | refine d_build 10 ?_)
        (first | refine d_pure 11 ?_ | refine d_load 11 ?_ | refine d_arith 11 ?_ | refine d_rem 11 ?_ | refine d_quo 11 ?_ | refine d_shrv 11 ?_ | refine d_fieldat 11 ?_ | refine d_idx1 11 ?_ | refine d_index 11 ?_ | refine d_conv64 11 ?_ | refine d_slices 11 ?_ | refine d_concat 11 ?_ | refine d_build 11 ?_)
        skip
        skip
        skip
        skip
        (refine d_skip 7 ?_; refine d_skip 8 ?_; refine d_pure 12 ?_; refine d_pure 13 ?_; refine d_done ?_)
        (repeat (first | refine g ?_ | refine s_flat 21 [(.pure, [0, 2]), (.mem true, [1]), (.mem false, [3]), (.pure, [4])] ?_))
        refine s_ceq r7 (encSu zeroSu) ?_ ?_
        · rfl
        refine run_nil0 (t := 54) (kk := 2) ?_
        refine run_ret3 (imp_RX ((none, 0) : Option Addr × Nat) ?_ shut) rfl (res_tmp rfl) (res_cell tabOk rfl rfl rfl (by repeat (first | (with_reducible exact At.head) | apply At.tail)) rfl) (res_tmp rfl)
        rfl
      | true =>
        rw [hm] at hF cm2
        rw [if_neg (by decide)] at hF
        have cj := joined_spec q wp wc l hwo (by omega) (may_join k l hm)
        have hjl := may_len k l 26 hm
        have ch := M.hashC (bl (joinedL l)) (by show (joinedL l).toArray.size ≤ 1000000; simp; omega) hs (by omega)
        generalize bl (joinedL l) = J at *
        generalize p.hashF s J = HR at *
        obtain ⟨hh, s2⟩ := HR
        dsimp only at hF ch
        by_cases he : hh ≠ B.extract 2 34
        · rw [if_pos he] at hF
          subst hF
          (repeat (first | refine g ?_ | refine s_flat 21 [(.pure, [0, 2]), (.mem true, [1]), (.mem false, [3]), (.pure, [4])] ?_))
          refine d_start [sl wp l.length wc 54 2 (encWs l), M.ch s] ?_
          refine d_getall 0 rfl ?_
          (first | refine d_pure 1 ?_ | refine d_load 1 ?_ | refine d_arith 1 ?_ | refine d_rem 1 ?_ | refine d_quo 1 ?_ | refine d_shrv 1 ?_ | refine d_fieldat 1 ?_ | refine d_idx1 1 ?_ | refine d_index 1 ?_ | refine d_conv64 1 ?_ | refine d_slices 1 ?_ | refine d_concat 1 ?_ | refine d_build 1 ?_)
          refine d_call 2 cm2 ?_
          (first | refine d_pure 3 ?_ | refine d_load 3 ?_ | refine d_arith 3 ?_ | refine d_rem 3 ?_ | refine d_quo 3 ?_ | refine d_shrv 3 ?_ | refine d_fieldat 3 ?_ | refine d_idx1 3 ?_ | refine d_index 3 ?_ | refine d_conv64 3 ?_ | refine d_slices 3 ?_ | refine d_concat 3 ?_ | refine d_build 3 ?_)
          (first | refine d_pure 4 ?_ | refine d_load 4 ?_ | refine d_arith 4 ?_ | refine d_rem 4 ?_ | refine d_quo 4 ?_ | refine d_shrv 4 ?_ | refine d_fieldat 4 ?_ | refine d_idx1 4 ?_ | refine d_index 4 ?_ | refine d_conv64 4 ?_ | refine d_slices 4 ?_ | refine d_concat 4 ?_ | refine d_build 4 ?_)
          (first | refine d_pure 5 ?_ | refine d_load 5 ?_ | refine d_arith 5 ?_ | refine d_rem 5 ?_ | refine d_quo 5 ?_ | refine d_shrv 5 ?_ | refine d_fieldat 5 ?_ | refine d_idx1 5 ?_ | refine d_index 5 ?_ | refine d_conv64 5 ?_ | refine d_slices 5 ?_ | refine d_concat 5 ?_ | refine d_build 5 ?_)
          (first | refine d_pure 6 ?_ | refine d_load 6 ?_ | refine d_arith 6 ?_ | refine d_rem 6 ?_ | refine d_quo 6 ?_ | refine d_shrv 6 ?_ | refine d_fieldat 6 ?_ | refine d_idx1 6 ?_ | refine d_index 6 ?_ | refine d_conv64 6 ?_ | refine d_slices 6 ?_ | refine d_concat 6 ?_ | refine d_build 6 ?_)
          (first | refine d_pure 9 ?_ | refine d_load 9 ?_ | refine d_arith 9 ?_ | refine d_rem 9 ?_ | refine d_quo 9 ?_ | refine d_shrv 9 ?_ | refine d_fieldat 9 ?_ | refine d_idx1 9 ?_ | refine d_index 9 ?_ | refine d_conv64 9 ?_ | refine d_slices 9 ?_ | refine d_concat 9 ?_ | refine d_build 9 ?_)
          (first | refine d_pure 10 ?_ | refine d_load 10 ?_ | refine d_arith 10 ?_ | refine d_rem 10 ?_ | refine d_quo 10 ?_ | refine d_shrv 10 ?_ | refine d_fieldat 10 ?_ | refine d_idx1 10 ?_ | refine d_index 10 ?_ | refine d_conv64 10 ?_ | refine d_slices 10 ?_ | refine d_concat 10 ?_ | refine d_build 10 ?_)
          refine d_slices 11 ?_
          skip
          skip
          skip
          skip
          (refine d_call 7 cj ?_; refine d_call 8 ch ?_; refine d_pure 12 ?_; refine d_is 119 (c := true) (decide_eq_true (p := hh ≠ B.extract 2 34) he) ?_; refine d_pure 13 ?_; refine d_done ?_)
          (repeat (first | refine g ?_ | refine s_flat 21 [(.pure, [0, 2]), (.mem true, [1]), (.mem false, [3]), (.pure, [4])] ?_))
          refine s_ceq r7 (encSu zeroSu) ?_ ?_
          · rfl
          refine run_nil0 (t := 54) (kk := 2) ?_
          refine run_ret3 (imp_RX ((none, 0) : Option Addr × Nat) ?_ shut) rfl (res_tmp rfl) (res_cell tabOk rfl rfl rfl (by repeat (first | (with_reducible exact At.head) | apply At.tail)) rfl) (res_tmp rfl)
          rfl
        · rw [if_neg he] at hF
          subst hF
          (repeat (first | refine g ?_ | refine s_flat 21 [(.pure, [0, 2]), (.mem true, [1]), (.mem false, [3]), (.pure, [4])] ?_))
          refine d_start [sl wp l.length wc 54 2 (encWs l), M.ch s] ?_
          refine d_getall 0 rfl ?_
          (first | refine d_pure 1 ?_ | refine d_load 1 ?_ | refine d_arith 1 ?_ | refine d_rem 1 ?_ | refine d_quo 1 ?_ | refine d_shrv 1 ?_ | refine d_fieldat 1 ?_ | refine d_idx1 1 ?_ | refine d_index 1 ?_ | refine d_conv64 1 ?_ | refine d_slices 1 ?_ | refine d_concat 1 ?_ | refine d_build 1 ?_)
          refine d_call 2 cm2 ?_
          (first | refine d_pure 3 ?_ | refine d_load 3 ?_ | refine d_arith 3 ?_ | refine d_rem 3 ?_ | refine d_quo 3 ?_ | refine d_shrv 3 ?_ | refine d_fieldat 3 ?_ | refine d_idx1 3 ?_ | refine d_index 3 ?_ | refine d_conv64 3 ?_ | refine d_slices 3 ?_ | refine d_concat 3 ?_ | refine d_build 3 ?_)
          (first | refine d_pure 4 ?_ | refine d_load 4 ?_ | refine d_arith 4 ?_ | refine d_rem 4 ?_ | refine d_quo 4 ?_ | refine d_shrv 4 ?_ | refine d_fieldat 4 ?_ | refine d_idx1 4 ?_ | refine d_index 4 ?_ | refine d_conv64 4 ?_ | refine d_slices 4 ?_ | refine d_concat 4 ?_ | refine d_build 4 ?_)
          (first | refine d_pure 5 ?_ | refine d_load 5 ?_ | refine d_arith 5 ?_ | refine d_rem 5 ?_ | refine d_quo 5 ?_ | refine d_shrv 5 ?_ | refine d_fieldat 5 ?_ | refine d_idx1 5 ?_ | refine d_index 5 ?_ | refine d_conv64 5 ?_ | refine d_slices 5 ?_ | refine d_concat 5 ?_ | refine d_build 5 ?_)
          (first | refine d_pure 6 ?_ | refine d_load 6 ?_ | refine d_arith 6 ?_ | refine d_rem 6 ?_ | refine d_quo 6 ?_ | refine d_shrv 6 ?_ | refine d_fieldat 6 ?_ | refine d_idx1 6 ?_ | refine d_index 6 ?_ | refine d_conv64 6 ?_ | refine d_slices 6 ?_ | refine d_concat 6 ?_ | refine d_build 6 ?_)
          (first | refine d_pure 9 ?_ | refine d_load 9 ?_ | refine d_arith 9 ?_ | refine d_rem 9 ?_ | refine d_quo 9 ?_ | refine d_shrv 9 ?_ | refine d_fieldat 9 ?_ | refine d_idx1 9 ?_ | refine d_index 9 ?_ | refine d_conv64 9 ?_ | refine d_slices 9 ?_ | refine d_concat 9 ?_ | refine d_build 9 ?_)
          (first | refine d_pure 10 ?_ | refine d_load 10 ?_ | refine d_arith 10 ?_ | refine d_rem 10 ?_ | refine d_quo 10 ?_ | refine d_shrv 10 ?_ | refine d_fieldat 10 ?_ | refine d_idx1 10 ?_ | refine d_index 10 ?_ | refine d_conv64 10 ?_ | refine d_slices 10 ?_ | refine d_concat 10 ?_ | refine d_build 10 ?_)
          refine d_slices 11 ?_
          skip
          skip
          skip
          skip
          (refine d_call 7 cj ?_; refine d_call 8 ch ?_; refine d_pure 12 ?_; refine d_is 119 (c := false) (decide_eq_false (p := hh ≠ B.extract 2 34) he) ?_; refine d_pure 13 ?_; refine d_done ?_)
          (repeat (first | refine g ?_ | refine s_flat 21 [(.pure, [0, 2]), (.mem true, [1]), (.mem false, [3]), (.pure, [4])] ?_))
          refine s_ceq r7 (encSu ⟨vol, epoch, next, lv, root⟩) ?_ ?_
          · rfl
          refine run_ret3 (imp_RX (wp, wc) ?_ shut) rfl (res_tmp rfl) (res_cell tabOk rfl rfl rfl (by repeat (first | (with_reducible exact At.head) | apply At.tail)) rfl) (res_tmp rfl)
          rfl
end Go.Proofs.YtaiocnpecaecdaaGreatDoor.V
namespace Go.Proofs.YtaiocnpecaecdaaGreatDoor.V
open Go.Proofs.YtaiocnpecaecdaaGreatDoor.VL Go.Proofs.YtaiocnpecaecdaaGreatDoor.VL.RD Go.Proofs.YtaiocnpecaecdaaGreatDoor.VL.Sha
attribute [local irreducible] Run numB
end Go.Proofs.YtaiocnpecaecdaaGreatDoor.V
namespace Go.Proofs.YtaiocnpecaecdaaGreatDoor.V
open Go.Proofs.YtaiocnpecaecdaaGreatDoor.VL Go.Proofs.YtaiocnpecaecdaaGreatDoor.VL.RD Go.Proofs.YtaiocnpecaecdaaGreatDoor.VL.Sha
attribute [local irreducible] Run numB
theorem loadM_ok {q : View} {v : Value} {p : VP} (M : VM q v p) (d : PSt) (s : p.St) (a : Int) : ReadOk (loadM p d s a) := by
  have h0 : ReadOk noR := ⟨zeroH_ok, Nat.zero_le _⟩
  unfold loadM
  split
  · exact h0
  · cases ho : (p.toldF s (getF d a).1.1 a).ok with
    | false => rw [M.toldN _ _ _ ho]; exact h0
    | true =>
      have := M.toldB _ _ _ ho
      exact ⟨M.toldH _ _ _, by omega⟩
theorem live_range (sec : Int) (h : (liveF sec).2 = 0) : 48 ≤ (liveF sec).1 ∧ (liveF sec).1 ≤ 1024 := by
  have e : liveF sec = ((liveF sec).1, 0) := Prod.ext rfl h
  obtain ⟨k, h1, h2, h3, _⟩ := live_fits e
  omega
theorem choose_small (l : List ReadT) (live : Int) : 0 ≤ (chooseF l live).1.epoch ∧ (chooseF l live).1.epoch < 281474976710656 := by
  have z : 0 ≤ zeroSu.epoch ∧ zeroSu.epoch < 281474976710656 := ⟨by decide, by decide⟩
  have b : ∀ x y : SuperT × Bool, (0 ≤ x.1.epoch ∧ x.1.epoch < 281474976710656) → (0 ≤ y.1.epoch ∧ y.1.epoch < 281474976710656) → 0 ≤ (betterF x y).1.epoch ∧ (betterF x y).1.epoch < 281474976710656 := by
    intro x y hx hy
    unfold betterF
    split
    · exact hy
    · exact hx
  match l with
  | [] => exact z
  | [r] => exact b _ _ z (slotF_small r 0 live)
  | r :: r2 :: t => exact b _ _ (b _ _ z (slotF_small r 0 live)) (slotF_small r2 1 live)
set_option maxHeartbeats 8000000 in
theorem recover_spec {q : View} (hE : ErrQ q) {v : Value} {p : VP} (M : VM q v p) {n : Nat} {s : p.St} (hs : M.ok n s) (hn : n ≤ 900) (b m : Nat) (d : PSt) (hw : PW m d) (hm : m < 60000) :
    FnD Tryz.prog q 20 [.pointer (some ⟨b, 0, none⟩), v] [plateAt b d, M.ch s] (.tuple #[.agg ⟨encSu (recoverM p d s).1.1⟩, .int .i64 (recoverM p d s).1.2.1, .int .i64 (recoverM p d s).1.2.2]) [plateAt b (recoverM p d s).2.1, M.ch (recoverM p d s).2.2] := by
  have cu := up_spec q b d
  obtain ⟨F, hF⟩ : ∃ F, recoverM p d s = F := ⟨_, rfl⟩
  rw [hF]
  unfold recoverM at hF
  cases hdn : d.down with
  | true =>
    rw [hdn, if_pos rfl] at hF
    subst hF
    rw [hdn] at cu
    rw [show (!true) = false from rfl] at cu
    (first | refine FnD.go Tryz.call20 Tryz.func20 rfl rfl rfl ?_ | refine FnX.go Tryz.call20 Tryz.func20 rfl rfl rfl ?_)
    (repeat (first | refine g ?_))
    refine s_alloc fun r4 => ?_
    (repeat (first | refine g ?_))
    refine s_call cu ?_
    (repeat (first | refine g ?_))
    refine s_ceq r4 (encSu zeroSu) ?_ ?_
    · rfl
    refine run_ret3 (imp_RD ?_ shut) rfl (res_cell tabOk rfl rfl rfl (by repeat (first | (with_reducible exact At.head) | apply At.tail)) rfl) (res_tmp rfl) (res_tmp rfl)
    rfl
  | false =>
    rw [hdn, if_neg (by decide)] at hF
    rw [hdn] at cu
    rw [show (!false) = true from rfl] at cu
    have cl := live_spec q b d hw.wf
    have hlv := live_range d.sectors
    generalize liveF d.sectors = L at *
    obtain ⟨lv, le⟩ := L
    dsimp only at hF cl hlv
    by_cases g1 : le ≠ 0
    · rw [if_pos g1] at hF
      subst hF
      (first | refine FnD.go Tryz.call20 Tryz.func20 rfl rfl rfl ?_ | refine FnX.go Tryz.call20 Tryz.func20 rfl rfl rfl ?_)
      (repeat (first | refine g ?_))
      refine s_alloc fun r4 => ?_
      (repeat (first | refine g ?_))
      refine s_call cu ?_
      (repeat (first | refine g ?_))
      refine s_call cl ?_
      (repeat (first | refine g ?_))
      refine s_ceq r4 (encSu zeroSu) ?_ ?_
      · rfl
      refine run_ret3 (imp_RD ?_ shut) rfl (res_cell tabOk rfl rfl rfl (by repeat (first | (with_reducible exact At.head) | apply At.tail)) rfl) (res_tmp rfl) (res_tmp rfl)
      rfl
    rw [if_neg g1] at hF
    have g1 : le = 0 := Decidable.not_not.1 g1
    subst g1
    obtain ⟨k, rfl⟩ : ∃ k : Nat, lv = k := ⟨lv.toNat, by have := hlv rfl; omega⟩
    obtain ⟨hk0, hk1⟩ := hlv rfl
    have hk0 : 48 ≤ k := by omega
    have hk1 : k ≤ 1024 := by omega
    have p1 := getF_pw hw (by omega) 0
    have p2 := getF_pw p1.1 (by omega) 1
    have c0 := jload_spec hE M hs (by omega) b m d hw (by omega) 0
    have c1 := jload_spec hE M hs (by omega) b (m + 8) (getF d 0).2 p1.1 (by omega) 1
    have o0 := loadM_ok M d s 0
    have o1 := loadM_ok M (getF d 0).2 s 1
    generalize getF (getF d 0).2 1 = G2 at *
    obtain ⟨_, d2⟩ := G2
    generalize loadM p (getF d 0).2 s 1 = R1 at *
    generalize (getF d 0).2 = d1 at *
    generalize loadM p d s 0 = R0 at *
    dsimp only at p1 p2 c0 c1 hF
    have cc : ∀ rs : Nat, FnD Tryz.prog q 17 [.slice (some ⟨rs, 0, none⟩) 2 2, .int .i64 (k : Int)] [cells rs 102 ⟨encR R0 ++ (encR R1 ++ [])⟩] (.tuple #[.agg ⟨encSu (chooseF [R0, R1] (k : Int)).1⟩, .bool (chooseF [R0, R1] (k : Int)).2]) [cells rs 102 ⟨encR R0 ++ (encR R1 ++ [])⟩] := fun rs =>
      FnD.lend Tryz.call17 fun q' hX hx hs' hq => choose_spec q' (some ⟨rs, 0, none⟩) 2 [R0, R1] ⟨RowQ.of_cells hx hs' (enc10_len [R0, R1]), fun x hx => by
        rcases List.mem_cons.1 hx with rfl | hx
        · exact o0
        · rw [List.mem_singleton.1 hx]; exact o1⟩ (by show 2 ≤ _; decide) (k : Int)
    have hcs := choose_small [R0, R1] (k : Int)
    generalize chooseF [R0, R1] (k : Int) = C at *
    obtain ⟨⟨cv, ce, cn, cl', cr'⟩, cok⟩ := C
    dsimp only at hF hcs
    obtain ⟨ok0, ⟨a0, a1, a2, a3, a4, a5, a6, a7⟩, B0⟩ := R0
    obtain ⟨ok1, ⟨b0, b1, b2, b3, b4, b5, b6, b7⟩, B1⟩ := R1
    unfold encR encH at cc c0 c1
    unfold encSu at cc
    dsimp only [List.cons_append, List.nil_append] at cc c0 c1
    cases cok with
    | false =>
      rw [if_pos rfl] at hF
      subst hF
      (first | refine FnD.go Tryz.call20 Tryz.func20 rfl rfl rfl ?_ | refine FnX.go Tryz.call20 Tryz.func20 rfl rfl rfl ?_)
      (repeat (first | refine g ?_))
      refine s_alloc fun r4 => ?_
      (repeat (first | refine g ?_))
      refine s_call cu ?_
      (repeat (first | refine g ?_))
      refine s_call cl ?_
      (repeat (first | refine g ?_))
      refine s_call c0 ?_
      (repeat (first | refine g ?_))
      refine s_call c1 ?_
      (repeat (first | refine g ?_))
      refine s_built fun rs => ?_
      (repeat (first | refine g ?_))
      refine s_call (cc rs) ?_
      (repeat (first | refine g ?_))
      refine s_alloc fun r9 => ?_
      (repeat (first | refine g ?_))
      refine s_ceq r4 (encSu zeroSu) ?_ ?_
      · rfl
      refine run_ret3 (imp_RD ?_ shut) rfl (res_cell tabOk rfl rfl rfl (by repeat (first | (with_reducible exact At.head) | apply At.tail)) rfl) (res_tmp rfl) (res_tmp rfl)
      rfl
    | true =>
      rw [if_neg (by decide)] at hF
      have cy := layout_spec q k hk0 hk1
      have cal := ball_spec q hE b d2 (m + 16) p2.1 (by omega)
      rw [show (d2.sectors / 8).toNat = blocksN d2 from rfl] at cal
      have e1 := rawsL_len d2 (blocksN d2)
      have e2 := masksL_len d2 (blocksN d2)
      have hN : blocksN d2 ≤ 4096 := by
        have h1 := p2.1.wf.held
        have h2 := p2.1.wf.sec
        unfold blocksN; omega
      have cf := fun pr cr pm cm => found_spec M hs (by omega) k hk0 hk1 pr pm cr cm (rawsL d2 (blocksN d2)) (masksL d2 (blocksN d2)) (by omega) (by omega)
      rw [e1, e2] at cf
      have p3 := allS_pw p2.1 (blocksN d2) (by omega)
      have hfs := found_su p s (k : Int) (rawsL d2 (blocksN d2)) (masksL d2 (blocksN d2))
      have hfo := found_ok p s (k : Int) (rawsL d2 (blocksN d2)) (masksL d2 (blocksN d2))
      have hfk := found_ok1 M hs (k : Int) (rawsL d2 (blocksN d2)) (masksL d2 (blocksN d2))
      generalize foundM p s (k : Int) (rawsL d2 (blocksN d2)) (masksL d2 (blocksN d2)) = FO at *
      generalize blocksN d2 = N at *
      generalize rawsL d2 N = raws at *
      generalize masksL d2 N = masks at *
      generalize allS d2 N = d3 at *
      obtain ⟨⟨l, ⟨nv, ne, nn, nl, nr⟩, fok⟩, s2⟩ := FO
      dsimp only at hF cf hfs hfo hfk
      unfold encSu at cf
      dsimp only at cf
      unfold encLay at cf cy
      have hne0 := hfs.e0
      have hne1 := hfs.e1
      cases fok with
      | false =>
        rw [if_pos (.inl rfl)] at hF
        subst hF
        (first | refine FnD.go Tryz.call20 Tryz.func20 rfl rfl rfl ?_ | refine FnX.go Tryz.call20 Tryz.func20 rfl rfl rfl ?_)
        (repeat (first | refine g ?_))
        refine s_alloc fun r4 => ?_
        (repeat (first | refine g ?_))
        refine s_call cu ?_
        (repeat (first | refine g ?_))
        refine s_call cl ?_
        (repeat (first | refine g ?_))
        refine s_call c0 ?_
        (repeat (first | refine g ?_))
        refine s_call c1 ?_
        (repeat (first | refine g ?_))
        refine s_built fun rs => ?_
        (repeat (first | refine g ?_))
        refine s_call (cc rs) ?_
        (repeat (first | refine g ?_))
        refine s_alloc fun r9 => ?_
        (repeat (first | refine g ?_))
        refine s_call cy ?_
        (repeat (first | refine g ?_))
        refine s_alloc fun r11 => ?_
        (repeat (first | refine g ?_))
        refine d_start [plateAt b d2, M.ch s] ?_
        (first | refine d_pure 0 ?_ | refine d_load 0 ?_ | refine d_arith 0 ?_ | refine d_rem 0 ?_ | refine d_quo 0 ?_ | refine d_shrv 0 ?_ | refine d_fieldat 0 ?_ | refine d_idx1 0 ?_ | refine d_index 0 ?_ | refine d_conv64 0 ?_ | refine d_slices 0 ?_ | refine d_concat 0 ?_ | refine d_build 0 ?_)
        refine d_getall 1 rfl ?_
        (first | refine d_pure 2 ?_ | refine d_load 2 ?_ | refine d_arith 2 ?_ | refine d_rem 2 ?_ | refine d_quo 2 ?_ | refine d_shrv 2 ?_ | refine d_fieldat 2 ?_ | refine d_idx1 2 ?_ | refine d_index 2 ?_ | refine d_conv64 2 ?_ | refine d_slices 2 ?_ | refine d_concat 2 ?_ | refine d_build 2 ?_)
        refine d_two 3 9 ?_ ?_
        · refine d_ovia 3 (X := Option Addr × Nat × Option Addr × Nat) (h1 := by refine s_callx cal fun r => ?_; exact run_fin r) (h := fun x => ?_)
          refine d_two 4 9 ?_ ?_
          · refine d_ovia 4 (X := Option Addr × Nat) (h1 := by refine s_callx (cf x.1 x.2.1 x.2.2.1 x.2.2.2) fun r => ?_; exact run_fin r) (h := fun rr => ?_)
            (first | refine d_pure 5 ?_ | refine d_load 5 ?_ | refine d_arith 5 ?_ | refine d_rem 5 ?_ | refine d_quo 5 ?_ | refine d_shrv 5 ?_ | refine d_fieldat 5 ?_ | refine d_idx1 5 ?_ | refine d_index 5 ?_ | refine d_conv64 5 ?_ | refine d_slices 5 ?_ | refine d_concat 5 ?_ | refine d_build 5 ?_)
            (first | refine d_pure 6 ?_ | refine d_load 6 ?_ | refine d_arith 6 ?_ | refine d_rem 6 ?_ | refine d_quo 6 ?_ | refine d_shrv 6 ?_ | refine d_fieldat 6 ?_ | refine d_idx1 6 ?_ | refine d_index 6 ?_ | refine d_conv64 6 ?_ | refine d_slices 6 ?_ | refine d_concat 6 ?_ | refine d_build 6 ?_)
            (first | refine d_pure 7 ?_ | refine d_load 7 ?_ | refine d_arith 7 ?_ | refine d_rem 7 ?_ | refine d_quo 7 ?_ | refine d_shrv 7 ?_ | refine d_fieldat 7 ?_ | refine d_idx1 7 ?_ | refine d_index 7 ?_ | refine d_conv64 7 ?_ | refine d_slices 7 ?_ | refine d_concat 7 ?_ | refine d_build 7 ?_)
            (first | refine d_pure 8 ?_ | refine d_load 8 ?_ | refine d_arith 8 ?_ | refine d_rem 8 ?_ | refine d_quo 8 ?_ | refine d_shrv 8 ?_ | refine d_fieldat 8 ?_ | refine d_idx1 8 ?_ | refine d_index 8 ?_ | refine d_conv64 8 ?_ | refine d_slices 8 ?_ | refine d_concat 8 ?_ | refine d_build 8 ?_)
            refine d_via 9 (X := Nat) (h1 := by refine s_alloc fun r => ?_; exact run_fin r) (h := fun r14 => ?_)
            (first | refine d_pure 10 ?_ | refine d_load 10 ?_ | refine d_arith 10 ?_ | refine d_rem 10 ?_ | refine d_quo 10 ?_ | refine d_shrv 10 ?_ | refine d_fieldat 10 ?_ | refine d_idx1 10 ?_ | refine d_index 10 ?_ | refine d_conv64 10 ?_ | refine d_slices 10 ?_ | refine d_concat 10 ?_ | refine d_build 10 ?_)
            refine d_via1 11 (h1 := by refine s_putall ?_; exact run_fin1) (h := ?_)
            (first | refine d_pure 12 ?_ | refine d_load 12 ?_ | refine d_arith 12 ?_ | refine d_rem 12 ?_ | refine d_quo 12 ?_ | refine d_shrv 12 ?_ | refine d_fieldat 12 ?_ | refine d_idx1 12 ?_ | refine d_index 12 ?_ | refine d_conv64 12 ?_ | refine d_slices 12 ?_ | refine d_concat 12 ?_ | refine d_build 12 ?_)
            refine d_done ?_
            (repeat (first | refine g ?_))
            refine s_ceq r4 (encSu ⟨cv, ce, cn, cl', cr'⟩) ?_ ?_
            · rfl
            refine run_ret3 (imp_RD ?_ shut) rfl (res_cell tabOk rfl rfl rfl (by repeat (first | (with_reducible exact At.head) | apply At.tail)) rfl) (res_tmp rfl) (res_tmp rfl)
            rfl
          · refine d_ovia 9 (X := Nat) (h1 := by refine s_alloc fun r => ?_; exact run_fin r) (h := fun r14 => ?_)
            refine d_via 4 (X := Option Addr × Nat) (h1 := by refine s_callx (cf x.1 x.2.1 x.2.2.1 x.2.2.2) fun r => ?_; exact run_fin r) (h := fun rr => ?_)
            (first | refine d_pure 5 ?_ | refine d_load 5 ?_ | refine d_arith 5 ?_ | refine d_rem 5 ?_ | refine d_quo 5 ?_ | refine d_shrv 5 ?_ | refine d_fieldat 5 ?_ | refine d_idx1 5 ?_ | refine d_index 5 ?_ | refine d_conv64 5 ?_ | refine d_slices 5 ?_ | refine d_concat 5 ?_ | refine d_build 5 ?_)
            (first | refine d_pure 6 ?_ | refine d_load 6 ?_ | refine d_arith 6 ?_ | refine d_rem 6 ?_ | refine d_quo 6 ?_ | refine d_shrv 6 ?_ | refine d_fieldat 6 ?_ | refine d_idx1 6 ?_ | refine d_index 6 ?_ | refine d_conv64 6 ?_ | refine d_slices 6 ?_ | refine d_concat 6 ?_ | refine d_build 6 ?_)
            (first | refine d_pure 7 ?_ | refine d_load 7 ?_ | refine d_arith 7 ?_ | refine d_rem 7 ?_ | refine d_quo 7 ?_ | refine d_shrv 7 ?_ | refine d_fieldat 7 ?_ | refine d_idx1 7 ?_ | refine d_index 7 ?_ | refine d_conv64 7 ?_ | refine d_slices 7 ?_ | refine d_concat 7 ?_ | refine d_build 7 ?_)
            (first | refine d_pure 8 ?_ | refine d_load 8 ?_ | refine d_arith 8 ?_ | refine d_rem 8 ?_ | refine d_quo 8 ?_ | refine d_shrv 8 ?_ | refine d_fieldat 8 ?_ | refine d_idx1 8 ?_ | refine d_index 8 ?_ | refine d_conv64 8 ?_ | refine d_slices 8 ?_ | refine d_concat 8 ?_ | refine d_build 8 ?_)
            (first | refine d_pure 10 ?_ | refine d_load 10 ?_ | refine d_arith 10 ?_ | refine d_rem 10 ?_ | refine d_quo 10 ?_ | refine d_shrv 10 ?_ | refine d_fieldat 10 ?_ | refine d_idx1 10 ?_ | refine d_index 10 ?_ | refine d_conv64 10 ?_ | refine d_slices 10 ?_ | refine d_concat 10 ?_ | refine d_build 10 ?_)
            refine d_via1 11 (h1 := by refine s_putall ?_; exact run_fin1) (h := ?_)
            (first | refine d_pure 12 ?_ | refine d_load 12 ?_ | refine d_arith 12 ?_ | refine d_rem 12 ?_ | refine d_quo 12 ?_ | refine d_shrv 12 ?_ | refine d_fieldat 12 ?_ | refine d_idx1 12 ?_ | refine d_index 12 ?_ | refine d_conv64 12 ?_ | refine d_slices 12 ?_ | refine d_concat 12 ?_ | refine d_build 12 ?_)
            refine d_done ?_
            (repeat (first | refine g ?_))
            refine s_ceq r4 (encSu ⟨cv, ce, cn, cl', cr'⟩) ?_ ?_
            · rfl
            refine run_ret3 (imp_RD ?_ shut) rfl (res_cell tabOk rfl rfl rfl (by repeat (first | (with_reducible exact At.head) | apply At.tail)) rfl) (res_tmp rfl) (res_tmp rfl)
            rfl
        · refine d_ovia 9 (X := Nat) (h1 := by refine s_alloc fun r => ?_; exact run_fin r) (h := fun r14 => ?_)
          refine d_via 3 (X := Option Addr × Nat × Option Addr × Nat) (h1 := by refine s_callx cal fun r => ?_; exact run_fin r) (h := fun x => ?_)
          refine d_via 4 (X := Option Addr × Nat) (h1 := by refine s_callx (cf x.1 x.2.1 x.2.2.1 x.2.2.2) fun r => ?_; exact run_fin r) (h := fun rr => ?_)
          (first | refine d_pure 5 ?_ | refine d_load 5 ?_ | refine d_arith 5 ?_ | refine d_rem 5 ?_ | refine d_quo 5 ?_ | refine d_shrv 5 ?_ | refine d_fieldat 5 ?_ | refine d_idx1 5 ?_ | refine d_index 5 ?_ | refine d_conv64 5 ?_ | refine d_slices 5 ?_ | refine d_concat 5 ?_ | refine d_build 5 ?_)
          (first | refine d_pure 6 ?_ | refine d_load 6 ?_ | refine d_arith 6 ?_ | refine d_rem 6 ?_ | refine d_quo 6 ?_ | refine d_shrv 6 ?_ | refine d_fieldat 6 ?_ | refine d_idx1 6 ?_ | refine d_index 6 ?_ | refine d_conv64 6 ?_ | refine d_slices 6 ?_ | refine d_concat 6 ?_ | refine d_build 6 ?_)
          (first | refine d_pure 7 ?_ | refine d_load 7 ?_ | refine d_arith 7 ?_ | refine d_rem 7 ?_ | refine d_quo 7 ?_ | refine d_shrv 7 ?_ | refine d_fieldat 7 ?_ | refine d_idx1 7 ?_ | refine d_index 7 ?_ | refine d_conv64 7 ?_ | refine d_slices 7 ?_ | refine d_concat 7 ?_ | refine d_build 7 ?_)
          (first | refine d_pure 8 ?_ | refine d_load 8 ?_ | refine d_arith 8 ?_ | refine d_rem 8 ?_ | refine d_quo 8 ?_ | refine d_shrv 8 ?_ | refine d_fieldat 8 ?_ | refine d_idx1 8 ?_ | refine d_index 8 ?_ | refine d_conv64 8 ?_ | refine d_slices 8 ?_ | refine d_concat 8 ?_ | refine d_build 8 ?_)
          (first | refine d_pure 10 ?_ | refine d_load 10 ?_ | refine d_arith 10 ?_ | refine d_rem 10 ?_ | refine d_quo 10 ?_ | refine d_shrv 10 ?_ | refine d_fieldat 10 ?_ | refine d_idx1 10 ?_ | refine d_index 10 ?_ | refine d_conv64 10 ?_ | refine d_slices 10 ?_ | refine d_concat 10 ?_ | refine d_build 10 ?_)
          refine d_via1 11 (h1 := by refine s_putall ?_; exact run_fin1) (h := ?_)
          (first | refine d_pure 12 ?_ | refine d_load 12 ?_ | refine d_arith 12 ?_ | refine d_rem 12 ?_ | refine d_quo 12 ?_ | refine d_shrv 12 ?_ | refine d_fieldat 12 ?_ | refine d_idx1 12 ?_ | refine d_index 12 ?_ | refine d_conv64 12 ?_ | refine d_slices 12 ?_ | refine d_concat 12 ?_ | refine d_build 12 ?_)
          refine d_done ?_
          (repeat (first | refine g ?_))
          refine s_ceq r4 (encSu ⟨cv, ce, cn, cl', cr'⟩) ?_ ?_
          · rfl
          refine run_ret3 (imp_RD ?_ shut) rfl (res_cell tabOk rfl rfl rfl (by repeat (first | (with_reducible exact At.head) | apply At.tail)) rfl) (res_tmp rfl) (res_tmp rfl)
          rfl
      | true =>
        by_cases g2 : ne ≠ ce + 1
        · rw [if_pos (.inr g2)] at hF
          subst hF
          (first | refine FnD.go Tryz.call20 Tryz.func20 rfl rfl rfl ?_ | refine FnX.go Tryz.call20 Tryz.func20 rfl rfl rfl ?_)
          (repeat (first | refine g ?_))
          refine s_alloc fun r4 => ?_
          (repeat (first | refine g ?_))
          refine s_call cu ?_
          (repeat (first | refine g ?_))
          refine s_call cl ?_
          (repeat (first | refine g ?_))
          refine s_call c0 ?_
          (repeat (first | refine g ?_))
          refine s_call c1 ?_
          (repeat (first | refine g ?_))
          refine s_built fun rs => ?_
          (repeat (first | refine g ?_))
          refine s_call (cc rs) ?_
          (repeat (first | refine g ?_))
          refine s_alloc fun r9 => ?_
          (repeat (first | refine g ?_))
          refine s_call cy ?_
          (repeat (first | refine g ?_))
          refine s_alloc fun r11 => ?_
          (repeat (first | refine g ?_))
          refine d_start [plateAt b d2, M.ch s] ?_
          (first | refine d_pure 0 ?_ | refine d_load 0 ?_ | refine d_arith 0 ?_ | refine d_rem 0 ?_ | refine d_quo 0 ?_ | refine d_shrv 0 ?_ | refine d_fieldat 0 ?_ | refine d_idx1 0 ?_ | refine d_index 0 ?_ | refine d_conv64 0 ?_ | refine d_slices 0 ?_ | refine d_concat 0 ?_ | refine d_build 0 ?_)
          refine d_getall 1 rfl ?_
          (first | refine d_pure 2 ?_ | refine d_load 2 ?_ | refine d_arith 2 ?_ | refine d_rem 2 ?_ | refine d_quo 2 ?_ | refine d_shrv 2 ?_ | refine d_fieldat 2 ?_ | refine d_idx1 2 ?_ | refine d_index 2 ?_ | refine d_conv64 2 ?_ | refine d_slices 2 ?_ | refine d_concat 2 ?_ | refine d_build 2 ?_)
          refine d_two 3 9 ?_ ?_
          · refine d_ovia 3 (X := Option Addr × Nat × Option Addr × Nat) (h1 := by refine s_callx cal fun r => ?_; exact run_fin r) (h := fun x => ?_)
            refine d_two 4 9 ?_ ?_
            · refine d_ovia 4 (X := Option Addr × Nat) (h1 := by refine s_callx (cf x.1 x.2.1 x.2.2.1 x.2.2.2) fun r => ?_; exact run_fin r) (h := fun rr => ?_)
              (first | refine d_pure 5 ?_ | refine d_load 5 ?_ | refine d_arith 5 ?_ | refine d_rem 5 ?_ | refine d_quo 5 ?_ | refine d_shrv 5 ?_ | refine d_fieldat 5 ?_ | refine d_idx1 5 ?_ | refine d_index 5 ?_ | refine d_conv64 5 ?_ | refine d_slices 5 ?_ | refine d_concat 5 ?_ | refine d_build 5 ?_)
              (first | refine d_pure 6 ?_ | refine d_load 6 ?_ | refine d_arith 6 ?_ | refine d_rem 6 ?_ | refine d_quo 6 ?_ | refine d_shrv 6 ?_ | refine d_fieldat 6 ?_ | refine d_idx1 6 ?_ | refine d_index 6 ?_ | refine d_conv64 6 ?_ | refine d_slices 6 ?_ | refine d_concat 6 ?_ | refine d_build 6 ?_)
              (first | refine d_pure 7 ?_ | refine d_load 7 ?_ | refine d_arith 7 ?_ | refine d_rem 7 ?_ | refine d_quo 7 ?_ | refine d_shrv 7 ?_ | refine d_fieldat 7 ?_ | refine d_idx1 7 ?_ | refine d_index 7 ?_ | refine d_conv64 7 ?_ | refine d_slices 7 ?_ | refine d_concat 7 ?_ | refine d_build 7 ?_)
              (first | refine d_pure 8 ?_ | refine d_load 8 ?_ | refine d_arith 8 ?_ | refine d_rem 8 ?_ | refine d_quo 8 ?_ | refine d_shrv 8 ?_ | refine d_fieldat 8 ?_ | refine d_idx1 8 ?_ | refine d_index 8 ?_ | refine d_conv64 8 ?_ | refine d_slices 8 ?_ | refine d_concat 8 ?_ | refine d_build 8 ?_)
              refine d_via 9 (X := Nat) (h1 := by refine s_alloc fun r => ?_; exact run_fin r) (h := fun r14 => ?_)
              (first | refine d_pure 10 ?_ | refine d_load 10 ?_ | refine d_arith 10 ?_ | refine d_rem 10 ?_ | refine d_quo 10 ?_ | refine d_shrv 10 ?_ | refine d_fieldat 10 ?_ | refine d_idx1 10 ?_ | refine d_index 10 ?_ | refine d_conv64 10 ?_ | refine d_slices 10 ?_ | refine d_concat 10 ?_ | refine d_build 10 ?_)
              refine d_via1 11 (h1 := by refine s_putall ?_; exact run_fin1) (h := ?_)
              (first | refine d_pure 12 ?_ | refine d_load 12 ?_ | refine d_arith 12 ?_ | refine d_rem 12 ?_ | refine d_quo 12 ?_ | refine d_shrv 12 ?_ | refine d_fieldat 12 ?_ | refine d_idx1 12 ?_ | refine d_index 12 ?_ | refine d_conv64 12 ?_ | refine d_slices 12 ?_ | refine d_concat 12 ?_ | refine d_build 12 ?_)
              refine d_done ?_
              (repeat (first | refine g ?_))
              refine s_ceq r4 (encSu ⟨cv, ce, cn, cl', cr'⟩) ?_ ?_
              · rfl
              refine run_ret3 (imp_RD ?_ shut) rfl (res_cell tabOk rfl rfl rfl (by repeat (first | (with_reducible exact At.head) | apply At.tail)) rfl) (res_tmp rfl) (res_tmp rfl)
              rfl
            · refine d_ovia 9 (X := Nat) (h1 := by refine s_alloc fun r => ?_; exact run_fin r) (h := fun r14 => ?_)
              refine d_via 4 (X := Option Addr × Nat) (h1 := by refine s_callx (cf x.1 x.2.1 x.2.2.1 x.2.2.2) fun r => ?_; exact run_fin r) (h := fun rr => ?_)
              (first | refine d_pure 5 ?_ | refine d_load 5 ?_ | refine d_arith 5 ?_ | refine d_rem 5 ?_ | refine d_quo 5 ?_ | refine d_shrv 5 ?_ | refine d_fieldat 5 ?_ | refine d_idx1 5 ?_ | refine d_index 5 ?_ | refine d_conv64 5 ?_ | refine d_slices 5 ?_ | refine d_concat 5 ?_ | refine d_build 5 ?_)
              (first | refine d_pure 6 ?_ | refine d_load 6 ?_ | refine d_arith 6 ?_ | refine d_rem 6 ?_ | refine d_quo 6 ?_ | refine d_shrv 6 ?_ | refine d_fieldat 6 ?_ | refine d_idx1 6 ?_ | refine d_index 6 ?_ | refine d_conv64 6 ?_ | refine d_slices 6 ?_ | refine d_concat 6 ?_ | refine d_build 6 ?_)
              (first | refine d_pure 7 ?_ | refine d_load 7 ?_ | refine d_arith 7 ?_ | refine d_rem 7 ?_ | refine d_quo 7 ?_ | refine d_shrv 7 ?_ | refine d_fieldat 7 ?_ | refine d_idx1 7 ?_ | refine d_index 7 ?_ | refine d_conv64 7 ?_ | refine d_slices 7 ?_ | refine d_concat 7 ?_ | refine d_build 7 ?_)
              (first | refine d_pure 8 ?_ | refine d_load 8 ?_ | refine d_arith 8 ?_ | refine d_rem 8 ?_ | refine d_quo 8 ?_ | refine d_shrv 8 ?_ | refine d_fieldat 8 ?_ | refine d_idx1 8 ?_ | refine d_index 8 ?_ | refine d_conv64 8 ?_ | refine d_slices 8 ?_ | refine d_concat 8 ?_ | refine d_build 8 ?_)
              (first | refine d_pure 10 ?_ | refine d_load 10 ?_ | refine d_arith 10 ?_ | refine d_rem 10 ?_ | refine d_quo 10 ?_ | refine d_shrv 10 ?_ | refine d_fieldat 10 ?_ | refine d_idx1 10 ?_ | refine d_index 10 ?_ | refine d_conv64 10 ?_ | refine d_slices 10 ?_ | refine d_concat 10 ?_ | refine d_build 10 ?_)
              refine d_via1 11 (h1 := by refine s_putall ?_; exact run_fin1) (h := ?_)
              (first | refine d_pure 12 ?_ | refine d_load 12 ?_ | refine d_arith 12 ?_ | refine d_rem 12 ?_ | refine d_quo 12 ?_ | refine d_shrv 12 ?_ | refine d_fieldat 12 ?_ | refine d_idx1 12 ?_ | refine d_index 12 ?_ | refine d_conv64 12 ?_ | refine d_slices 12 ?_ | refine d_concat 12 ?_ | refine d_build 12 ?_)
              refine d_done ?_
              (repeat (first | refine g ?_))
              refine s_ceq r4 (encSu ⟨cv, ce, cn, cl', cr'⟩) ?_ ?_
              · rfl
              refine run_ret3 (imp_RD ?_ shut) rfl (res_cell tabOk rfl rfl rfl (by repeat (first | (with_reducible exact At.head) | apply At.tail)) rfl) (res_tmp rfl) (res_tmp rfl)
              rfl
          · refine d_ovia 9 (X := Nat) (h1 := by refine s_alloc fun r => ?_; exact run_fin r) (h := fun r14 => ?_)
            refine d_via 3 (X := Option Addr × Nat × Option Addr × Nat) (h1 := by refine s_callx cal fun r => ?_; exact run_fin r) (h := fun x => ?_)
            refine d_via 4 (X := Option Addr × Nat) (h1 := by refine s_callx (cf x.1 x.2.1 x.2.2.1 x.2.2.2) fun r => ?_; exact run_fin r) (h := fun rr => ?_)
            (first | refine d_pure 5 ?_ | refine d_load 5 ?_ | refine d_arith 5 ?_ | refine d_rem 5 ?_ | refine d_quo 5 ?_ | refine d_shrv 5 ?_ | refine d_fieldat 5 ?_ | refine d_idx1 5 ?_ | refine d_index 5 ?_ | refine d_conv64 5 ?_ | refine d_slices 5 ?_ | refine d_concat 5 ?_ | refine d_build 5 ?_)
            (first | refine d_pure 6 ?_ | refine d_load 6 ?_ | refine d_arith 6 ?_ | refine d_rem 6 ?_ | refine d_quo 6 ?_ | refine d_shrv 6 ?_ | refine d_fieldat 6 ?_ | refine d_idx1 6 ?_ | refine d_index 6 ?_ | refine d_conv64 6 ?_ | refine d_slices 6 ?_ | refine d_concat 6 ?_ | refine d_build 6 ?_)
            (first | refine d_pure 7 ?_ | refine d_load 7 ?_ | refine d_arith 7 ?_ | refine d_rem 7 ?_ | refine d_quo 7 ?_ | refine d_shrv 7 ?_ | refine d_fieldat 7 ?_ | refine d_idx1 7 ?_ | refine d_index 7 ?_ | refine d_conv64 7 ?_ | refine d_slices 7 ?_ | refine d_concat 7 ?_ | refine d_build 7 ?_)
            (first | refine d_pure 8 ?_ | refine d_load 8 ?_ | refine d_arith 8 ?_ | refine d_rem 8 ?_ | refine d_quo 8 ?_ | refine d_shrv 8 ?_ | refine d_fieldat 8 ?_ | refine d_idx1 8 ?_ | refine d_index 8 ?_ | refine d_conv64 8 ?_ | refine d_slices 8 ?_ | refine d_concat 8 ?_ | refine d_build 8 ?_)
            (first | refine d_pure 10 ?_ | refine d_load 10 ?_ | refine d_arith 10 ?_ | refine d_rem 10 ?_ | refine d_quo 10 ?_ | refine d_shrv 10 ?_ | refine d_fieldat 10 ?_ | refine d_idx1 10 ?_ | refine d_index 10 ?_ | refine d_conv64 10 ?_ | refine d_slices 10 ?_ | refine d_concat 10 ?_ | refine d_build 10 ?_)
            refine d_via1 11 (h1 := by refine s_putall ?_; exact run_fin1) (h := ?_)
            (first | refine d_pure 12 ?_ | refine d_load 12 ?_ | refine d_arith 12 ?_ | refine d_rem 12 ?_ | refine d_quo 12 ?_ | refine d_shrv 12 ?_ | refine d_fieldat 12 ?_ | refine d_idx1 12 ?_ | refine d_index 12 ?_ | refine d_conv64 12 ?_ | refine d_slices 12 ?_ | refine d_concat 12 ?_ | refine d_build 12 ?_)
            refine d_done ?_
            (repeat (first | refine g ?_))
            refine s_ceq r4 (encSu ⟨cv, ce, cn, cl', cr'⟩) ?_ ?_
            · rfl
            refine run_ret3 (imp_RD ?_ shut) rfl (res_cell tabOk rfl rfl rfl (by repeat (first | (with_reducible exact At.head) | apply At.tail)) rfl) (res_tmp rfl) (res_tmp rfl)
            rfl
        rw [if_neg (fun h => h.elim (fun h => absurd (show true = false from h) (by decide)) g2)] at hF
        have cj := jsuper_spec M hfk (by omega) ⟨nv, ne, nn, nl, nr⟩ hfs
        have hW := superM_W M s2 ⟨nv, ne, nn, nl, nr⟩
        generalize superM p s2 ⟨nv, ne, nn, nl, nr⟩ = SR at *
        obtain ⟨⟨⟨ha, hraw⟩, e3⟩, s3⟩ := SR
        dsimp only at hF cj hW
        have cfin := fun r wp wc => finish_spec q hE r b (m + 16 + 8 * N) (d3, 0) p3 wp wc l hfo.2 (by omega) (by omega) ⟨ha, hraw⟩ hW
        generalize finishD (d3, 0) l ⟨ha, hraw⟩ = t at *
        have cst := stopped_spec q t.2
        unfold rowAt at cfin
        dsimp only [List.cons_append, List.nil_append] at cfin
        rw [show stopV 0 = .nilIface from rfl] at cfin
        generalize stopV t.2 = v1 at *
        unfold encW at cj cfin
        unfold encSu at cj
        dsimp only at cj cfin
        generalize stopF t.2 = E at *
        by_cases g3 : E ≠ 0
        · rw [if_pos g3] at hF
          subst hF
          (first | refine FnD.go Tryz.call20 Tryz.func20 rfl rfl rfl ?_ | refine FnX.go Tryz.call20 Tryz.func20 rfl rfl rfl ?_)
          (repeat (first | refine g ?_))
          refine s_alloc fun r4 => ?_
          (repeat (first | refine g ?_))
          refine s_call cu ?_
          (repeat (first | refine g ?_))
          refine s_call cl ?_
          (repeat (first | refine g ?_))
          refine s_call c0 ?_
          (repeat (first | refine g ?_))
          refine s_call c1 ?_
          (repeat (first | refine g ?_))
          refine s_built fun rs => ?_
          (repeat (first | refine g ?_))
          refine s_call (cc rs) ?_
          (repeat (first | refine g ?_))
          refine s_alloc fun r9 => ?_
          (repeat (first | refine g ?_))
          refine s_call cy ?_
          (repeat (first | refine g ?_))
          refine s_alloc fun r11 => ?_
          (repeat (first | refine g ?_))
          refine d_start [plateAt b d2, M.ch s] ?_
          (first | refine d_pure 0 ?_ | refine d_load 0 ?_ | refine d_arith 0 ?_ | refine d_rem 0 ?_ | refine d_quo 0 ?_ | refine d_shrv 0 ?_ | refine d_fieldat 0 ?_ | refine d_idx1 0 ?_ | refine d_index 0 ?_ | refine d_conv64 0 ?_ | refine d_slices 0 ?_ | refine d_concat 0 ?_ | refine d_build 0 ?_)
          refine d_getall 1 rfl ?_
          (first | refine d_pure 2 ?_ | refine d_load 2 ?_ | refine d_arith 2 ?_ | refine d_rem 2 ?_ | refine d_quo 2 ?_ | refine d_shrv 2 ?_ | refine d_fieldat 2 ?_ | refine d_idx1 2 ?_ | refine d_index 2 ?_ | refine d_conv64 2 ?_ | refine d_slices 2 ?_ | refine d_concat 2 ?_ | refine d_build 2 ?_)
          refine d_two 3 9 ?_ ?_
          · refine d_ovia 3 (X := Option Addr × Nat × Option Addr × Nat) (h1 := by refine s_callx cal fun r => ?_; exact run_fin r) (h := fun x => ?_)
            refine d_two 4 9 ?_ ?_
            · refine d_ovia 4 (X := Option Addr × Nat) (h1 := by refine s_callx (cf x.1 x.2.1 x.2.2.1 x.2.2.2) fun r => ?_; exact run_fin r) (h := fun rr => ?_)
              (first | refine d_pure 5 ?_ | refine d_load 5 ?_ | refine d_arith 5 ?_ | refine d_rem 5 ?_ | refine d_quo 5 ?_ | refine d_shrv 5 ?_ | refine d_fieldat 5 ?_ | refine d_idx1 5 ?_ | refine d_index 5 ?_ | refine d_conv64 5 ?_ | refine d_slices 5 ?_ | refine d_concat 5 ?_ | refine d_build 5 ?_)
              (first | refine d_pure 6 ?_ | refine d_load 6 ?_ | refine d_arith 6 ?_ | refine d_rem 6 ?_ | refine d_quo 6 ?_ | refine d_shrv 6 ?_ | refine d_fieldat 6 ?_ | refine d_idx1 6 ?_ | refine d_index 6 ?_ | refine d_conv64 6 ?_ | refine d_slices 6 ?_ | refine d_concat 6 ?_ | refine d_build 6 ?_)
              (first | refine d_pure 7 ?_ | refine d_load 7 ?_ | refine d_arith 7 ?_ | refine d_rem 7 ?_ | refine d_quo 7 ?_ | refine d_shrv 7 ?_ | refine d_fieldat 7 ?_ | refine d_idx1 7 ?_ | refine d_index 7 ?_ | refine d_conv64 7 ?_ | refine d_slices 7 ?_ | refine d_concat 7 ?_ | refine d_build 7 ?_)
              (first | refine d_pure 8 ?_ | refine d_load 8 ?_ | refine d_arith 8 ?_ | refine d_rem 8 ?_ | refine d_quo 8 ?_ | refine d_shrv 8 ?_ | refine d_fieldat 8 ?_ | refine d_idx1 8 ?_ | refine d_index 8 ?_ | refine d_conv64 8 ?_ | refine d_slices 8 ?_ | refine d_concat 8 ?_ | refine d_build 8 ?_)
              refine d_via 9 (X := Nat) (h1 := by refine s_alloc fun r => ?_; exact run_fin r) (h := fun r14 => ?_)
              (first | refine d_pure 10 ?_ | refine d_load 10 ?_ | refine d_arith 10 ?_ | refine d_rem 10 ?_ | refine d_quo 10 ?_ | refine d_shrv 10 ?_ | refine d_fieldat 10 ?_ | refine d_idx1 10 ?_ | refine d_index 10 ?_ | refine d_conv64 10 ?_ | refine d_slices 10 ?_ | refine d_concat 10 ?_ | refine d_build 10 ?_)
              refine d_via1 11 (h1 := by refine s_putall ?_; exact run_fin1) (h := ?_)
              (first | refine d_pure 12 ?_ | refine d_load 12 ?_ | refine d_arith 12 ?_ | refine d_rem 12 ?_ | refine d_quo 12 ?_ | refine d_shrv 12 ?_ | refine d_fieldat 12 ?_ | refine d_idx1 12 ?_ | refine d_index 12 ?_ | refine d_conv64 12 ?_ | refine d_slices 12 ?_ | refine d_concat 12 ?_ | refine d_build 12 ?_)
              refine d_done ?_
              (repeat (first | refine g ?_))
              refine s_call cj ?_
              (repeat (first | refine g ?_))
              refine s_alloc fun r16 => ?_
              (repeat (first | refine g ?_))
              refine s_box fun r18 => ?_
              (repeat (first | refine g ?_))
              refine s_call (cfin r18 rr.1 rr.2) ?_
              (repeat (first | refine g ?_))
              refine s_call cst ?_
              (repeat (first | refine g ?_))
              refine s_ceq r4 (encSu zeroSu) ?_ ?_
              · rfl
              refine run_ret3 (imp_RD ?_ shut) rfl (res_cell tabOk rfl rfl rfl (by repeat (first | (with_reducible exact At.head) | apply At.tail)) rfl) (res_tmp rfl) (res_tmp rfl)
              rfl
            · refine d_ovia 9 (X := Nat) (h1 := by refine s_alloc fun r => ?_; exact run_fin r) (h := fun r14 => ?_)
              refine d_via 4 (X := Option Addr × Nat) (h1 := by refine s_callx (cf x.1 x.2.1 x.2.2.1 x.2.2.2) fun r => ?_; exact run_fin r) (h := fun rr => ?_)
              (first | refine d_pure 5 ?_ | refine d_load 5 ?_ | refine d_arith 5 ?_ | refine d_rem 5 ?_ | refine d_quo 5 ?_ | refine d_shrv 5 ?_ | refine d_fieldat 5 ?_ | refine d_idx1 5 ?_ | refine d_index 5 ?_ | refine d_conv64 5 ?_ | refine d_slices 5 ?_ | refine d_concat 5 ?_ | refine d_build 5 ?_)
              (first | refine d_pure 6 ?_ | refine d_load 6 ?_ | refine d_arith 6 ?_ | refine d_rem 6 ?_ | refine d_quo 6 ?_ | refine d_shrv 6 ?_ | refine d_fieldat 6 ?_ | refine d_idx1 6 ?_ | refine d_index 6 ?_ | refine d_conv64 6 ?_ | refine d_slices 6 ?_ | refine d_concat 6 ?_ | refine d_build 6 ?_)
              (first | refine d_pure 7 ?_ | refine d_load 7 ?_ | refine d_arith 7 ?_ | refine d_rem 7 ?_ | refine d_quo 7 ?_ | refine d_shrv 7 ?_ | refine d_fieldat 7 ?_ | refine d_idx1 7 ?_ | refine d_index 7 ?_ | refine d_conv64 7 ?_ | refine d_slices 7 ?_ | refine d_concat 7 ?_ | refine d_build 7 ?_)
              (first | refine d_pure 8 ?_ | refine d_load 8 ?_ | refine d_arith 8 ?_ | refine d_rem 8 ?_ | refine d_quo 8 ?_ | refine d_shrv 8 ?_ | refine d_fieldat 8 ?_ | refine d_idx1 8 ?_ | refine d_index 8 ?_ | refine d_conv64 8 ?_ | refine d_slices 8 ?_ | refine d_concat 8 ?_ | refine d_build 8 ?_)
              (first | refine d_pure 10 ?_ | refine d_load 10 ?_ | refine d_arith 10 ?_ | refine d_rem 10 ?_ | refine d_quo 10 ?_ | refine d_shrv 10 ?_ | refine d_fieldat 10 ?_ | refine d_idx1 10 ?_ | refine d_index 10 ?_ | refine d_conv64 10 ?_ | refine d_slices 10 ?_ | refine d_concat 10 ?_ | refine d_build 10 ?_)
              refine d_via1 11 (h1 := by refine s_putall ?_; exact run_fin1) (h := ?_)
              (first | refine d_pure 12 ?_ | refine d_load 12 ?_ | refine d_arith 12 ?_ | refine d_rem 12 ?_ | refine d_quo 12 ?_ | refine d_shrv 12 ?_ | refine d_fieldat 12 ?_ | refine d_idx1 12 ?_ | refine d_index 12 ?_ | refine d_conv64 12 ?_ | refine d_slices 12 ?_ | refine d_concat 12 ?_ | refine d_build 12 ?_)
              refine d_done ?_
              (repeat (first | refine g ?_))
              refine s_call cj ?_
              (repeat (first | refine g ?_))
              refine s_alloc fun r16 => ?_
              (repeat (first | refine g ?_))
              refine s_box fun r18 => ?_
              (repeat (first | refine g ?_))
              refine s_call (cfin r18 rr.1 rr.2) ?_
              (repeat (first | refine g ?_))
              refine s_call cst ?_
              (repeat (first | refine g ?_))
              refine s_ceq r4 (encSu zeroSu) ?_ ?_
              · rfl
              refine run_ret3 (imp_RD ?_ shut) rfl (res_cell tabOk rfl rfl rfl (by repeat (first | (with_reducible exact At.head) | apply At.tail)) rfl) (res_tmp rfl) (res_tmp rfl)
              rfl
          · refine d_ovia 9 (X := Nat) (h1 := by refine s_alloc fun r => ?_; exact run_fin r) (h := fun r14 => ?_)
            refine d_via 3 (X := Option Addr × Nat × Option Addr × Nat) (h1 := by refine s_callx cal fun r => ?_; exact run_fin r) (h := fun x => ?_)
            refine d_via 4 (X := Option Addr × Nat) (h1 := by refine s_callx (cf x.1 x.2.1 x.2.2.1 x.2.2.2) fun r => ?_; exact run_fin r) (h := fun rr => ?_)
            (first | refine d_pure 5 ?_ | refine d_load 5 ?_ | refine d_arith 5 ?_ | refine d_rem 5 ?_ | refine d_quo 5 ?_ | refine d_shrv 5 ?_ | refine d_fieldat 5 ?_ | refine d_idx1 5 ?_ | refine d_index 5 ?_ | refine d_conv64 5 ?_ | refine d_slices 5 ?_ | refine d_concat 5 ?_ | refine d_build 5 ?_)
            (first | refine d_pure 6 ?_ | refine d_load 6 ?_ | refine d_arith 6 ?_ | refine d_rem 6 ?_ | refine d_quo 6 ?_ | refine d_shrv 6 ?_ | refine d_fieldat 6 ?_ | refine d_idx1 6 ?_ | refine d_index 6 ?_ | refine d_conv64 6 ?_ | refine d_slices 6 ?_ | refine d_concat 6 ?_ | refine d_build 6 ?_)
            (first | refine d_pure 7 ?_ | refine d_load 7 ?_ | refine d_arith 7 ?_ | refine d_rem 7 ?_ | refine d_quo 7 ?_ | refine d_shrv 7 ?_ | refine d_fieldat 7 ?_ | refine d_idx1 7 ?_ | refine d_index 7 ?_ | refine d_conv64 7 ?_ | refine d_slices 7 ?_ | refine d_concat 7 ?_ | refine d_build 7 ?_)
            (first | refine d_pure 8 ?_ | refine d_load 8 ?_ | refine d_arith 8 ?_ | refine d_rem 8 ?_ | refine d_quo 8 ?_ | refine d_shrv 8 ?_ | refine d_fieldat 8 ?_ | refine d_idx1 8 ?_ | refine d_index 8 ?_ | refine d_conv64 8 ?_ | refine d_slices 8 ?_ | refine d_concat 8 ?_ | refine d_build 8 ?_)
            (first | refine d_pure 10 ?_ | refine d_load 10 ?_ | refine d_arith 10 ?_ | refine d_rem 10 ?_ | refine d_quo 10 ?_ | refine d_shrv 10 ?_ | refine d_fieldat 10 ?_ | refine d_idx1 10 ?_ | refine d_index 10 ?_ | refine d_conv64 10 ?_ | refine d_slices 10 ?_ | refine d_concat 10 ?_ | refine d_build 10 ?_)
            refine d_via1 11 (h1 := by refine s_putall ?_; exact run_fin1) (h := ?_)
            (first | refine d_pure 12 ?_ | refine d_load 12 ?_ | refine d_arith 12 ?_ | refine d_rem 12 ?_ | refine d_quo 12 ?_ | refine d_shrv 12 ?_ | refine d_fieldat 12 ?_ | refine d_idx1 12 ?_ | refine d_index 12 ?_ | refine d_conv64 12 ?_ | refine d_slices 12 ?_ | refine d_concat 12 ?_ | refine d_build 12 ?_)
            refine d_done ?_
            (repeat (first | refine g ?_))
            refine s_call cj ?_
            (repeat (first | refine g ?_))
            refine s_alloc fun r16 => ?_
            (repeat (first | refine g ?_))
            refine s_box fun r18 => ?_
            (repeat (first | refine g ?_))
            refine s_call (cfin r18 rr.1 rr.2) ?_
            (repeat (first | refine g ?_))
            refine s_call cst ?_
            (repeat (first | refine g ?_))
            refine s_ceq r4 (encSu zeroSu) ?_ ?_
            · rfl
            refine run_ret3 (imp_RD ?_ shut) rfl (res_cell tabOk rfl rfl rfl (by repeat (first | (with_reducible exact At.head) | apply At.tail)) rfl) (res_tmp rfl) (res_tmp rfl)
            rfl
        · rw [if_neg g3] at hF
          subst hF
          have g3 : E = 0 := Decidable.not_not.1 g3
          subst g3
          (first | refine FnD.go Tryz.call20 Tryz.func20 rfl rfl rfl ?_ | refine FnX.go Tryz.call20 Tryz.func20 rfl rfl rfl ?_)
          (repeat (first | refine g ?_))
          refine s_alloc fun r4 => ?_
          (repeat (first | refine g ?_))
          refine s_call cu ?_
          (repeat (first | refine g ?_))
          refine s_call cl ?_
          (repeat (first | refine g ?_))
          refine s_call c0 ?_
          (repeat (first | refine g ?_))
          refine s_call c1 ?_
          (repeat (first | refine g ?_))
          refine s_built fun rs => ?_
          (repeat (first | refine g ?_))
          refine s_call (cc rs) ?_
          (repeat (first | refine g ?_))
          refine s_alloc fun r9 => ?_
          (repeat (first | refine g ?_))
          refine s_call cy ?_
          (repeat (first | refine g ?_))
          refine s_alloc fun r11 => ?_
          (repeat (first | refine g ?_))
          refine d_start [plateAt b d2, M.ch s] ?_
          (first | refine d_pure 0 ?_ | refine d_load 0 ?_ | refine d_arith 0 ?_ | refine d_rem 0 ?_ | refine d_quo 0 ?_ | refine d_shrv 0 ?_ | refine d_fieldat 0 ?_ | refine d_idx1 0 ?_ | refine d_index 0 ?_ | refine d_conv64 0 ?_ | refine d_slices 0 ?_ | refine d_concat 0 ?_ | refine d_build 0 ?_)
          refine d_getall 1 rfl ?_
          (first | refine d_pure 2 ?_ | refine d_load 2 ?_ | refine d_arith 2 ?_ | refine d_rem 2 ?_ | refine d_quo 2 ?_ | refine d_shrv 2 ?_ | refine d_fieldat 2 ?_ | refine d_idx1 2 ?_ | refine d_index 2 ?_ | refine d_conv64 2 ?_ | refine d_slices 2 ?_ | refine d_concat 2 ?_ | refine d_build 2 ?_)
          refine d_two 3 9 ?_ ?_
          · refine d_ovia 3 (X := Option Addr × Nat × Option Addr × Nat) (h1 := by refine s_callx cal fun r => ?_; exact run_fin r) (h := fun x => ?_)
            refine d_two 4 9 ?_ ?_
            · refine d_ovia 4 (X := Option Addr × Nat) (h1 := by refine s_callx (cf x.1 x.2.1 x.2.2.1 x.2.2.2) fun r => ?_; exact run_fin r) (h := fun rr => ?_)
              (first | refine d_pure 5 ?_ | refine d_load 5 ?_ | refine d_arith 5 ?_ | refine d_rem 5 ?_ | refine d_quo 5 ?_ | refine d_shrv 5 ?_ | refine d_fieldat 5 ?_ | refine d_idx1 5 ?_ | refine d_index 5 ?_ | refine d_conv64 5 ?_ | refine d_slices 5 ?_ | refine d_concat 5 ?_ | refine d_build 5 ?_)
              (first | refine d_pure 6 ?_ | refine d_load 6 ?_ | refine d_arith 6 ?_ | refine d_rem 6 ?_ | refine d_quo 6 ?_ | refine d_shrv 6 ?_ | refine d_fieldat 6 ?_ | refine d_idx1 6 ?_ | refine d_index 6 ?_ | refine d_conv64 6 ?_ | refine d_slices 6 ?_ | refine d_concat 6 ?_ | refine d_build 6 ?_)
              (first | refine d_pure 7 ?_ | refine d_load 7 ?_ | refine d_arith 7 ?_ | refine d_rem 7 ?_ | refine d_quo 7 ?_ | refine d_shrv 7 ?_ | refine d_fieldat 7 ?_ | refine d_idx1 7 ?_ | refine d_index 7 ?_ | refine d_conv64 7 ?_ | refine d_slices 7 ?_ | refine d_concat 7 ?_ | refine d_build 7 ?_)
              (first | refine d_pure 8 ?_ | refine d_load 8 ?_ | refine d_arith 8 ?_ | refine d_rem 8 ?_ | refine d_quo 8 ?_ | refine d_shrv 8 ?_ | refine d_fieldat 8 ?_ | refine d_idx1 8 ?_ | refine d_index 8 ?_ | refine d_conv64 8 ?_ | refine d_slices 8 ?_ | refine d_concat 8 ?_ | refine d_build 8 ?_)
              refine d_via 9 (X := Nat) (h1 := by refine s_alloc fun r => ?_; exact run_fin r) (h := fun r14 => ?_)
              (first | refine d_pure 10 ?_ | refine d_load 10 ?_ | refine d_arith 10 ?_ | refine d_rem 10 ?_ | refine d_quo 10 ?_ | refine d_shrv 10 ?_ | refine d_fieldat 10 ?_ | refine d_idx1 10 ?_ | refine d_index 10 ?_ | refine d_conv64 10 ?_ | refine d_slices 10 ?_ | refine d_concat 10 ?_ | refine d_build 10 ?_)
              refine d_via1 11 (h1 := by refine s_putall ?_; exact run_fin1) (h := ?_)
              (first | refine d_pure 12 ?_ | refine d_load 12 ?_ | refine d_arith 12 ?_ | refine d_rem 12 ?_ | refine d_quo 12 ?_ | refine d_shrv 12 ?_ | refine d_fieldat 12 ?_ | refine d_idx1 12 ?_ | refine d_index 12 ?_ | refine d_conv64 12 ?_ | refine d_slices 12 ?_ | refine d_concat 12 ?_ | refine d_build 12 ?_)
              refine d_done ?_
              (repeat (first | refine g ?_))
              refine s_call cj ?_
              (repeat (first | refine g ?_))
              refine s_alloc fun r16 => ?_
              (repeat (first | refine g ?_))
              refine s_box fun r18 => ?_
              (repeat (first | refine g ?_))
              refine s_call (cfin r18 rr.1 rr.2) ?_
              (repeat (first | refine g ?_))
              refine s_call cst ?_
              (repeat (first | refine g ?_))
              refine s_ceq r4 (encSu ⟨nv, ne, nn, nl, nr⟩) ?_ ?_
              · rfl
              refine run_ret3 (imp_RD ?_ shut) rfl (res_cell tabOk rfl rfl rfl (by repeat (first | (with_reducible exact At.head) | apply At.tail)) rfl) (res_tmp rfl) (res_tmp rfl)
              rfl
            · refine d_ovia 9 (X := Nat) (h1 := by refine s_alloc fun r => ?_; exact run_fin r) (h := fun r14 => ?_)
              refine d_via 4 (X := Option Addr × Nat) (h1 := by refine s_callx (cf x.1 x.2.1 x.2.2.1 x.2.2.2) fun r => ?_; exact run_fin r) (h := fun rr => ?_)
              (first | refine d_pure 5 ?_ | refine d_load 5 ?_ | refine d_arith 5 ?_ | refine d_rem 5 ?_ | refine d_quo 5 ?_ | refine d_shrv 5 ?_ | refine d_fieldat 5 ?_ | refine d_idx1 5 ?_ | refine d_index 5 ?_ | refine d_conv64 5 ?_ | refine d_slices 5 ?_ | refine d_concat 5 ?_ | refine d_build 5 ?_)
              (first | refine d_pure 6 ?_ | refine d_load 6 ?_ | refine d_arith 6 ?_ | refine d_rem 6 ?_ | refine d_quo 6 ?_ | refine d_shrv 6 ?_ | refine d_fieldat 6 ?_ | refine d_idx1 6 ?_ | refine d_index 6 ?_ | refine d_conv64 6 ?_ | refine d_slices 6 ?_ | refine d_concat 6 ?_ | refine d_build 6 ?_)
              (first | refine d_pure 7 ?_ | refine d_load 7 ?_ | refine d_arith 7 ?_ | refine d_rem 7 ?_ | refine d_quo 7 ?_ | refine d_shrv 7 ?_ | refine d_fieldat 7 ?_ | refine d_idx1 7 ?_ | refine d_index 7 ?_ | refine d_conv64 7 ?_ | refine d_slices 7 ?_ | refine d_concat 7 ?_ | refine d_build 7 ?_)
              (first | refine d_pure 8 ?_ | refine d_load 8 ?_ | refine d_arith 8 ?_ | refine d_rem 8 ?_ | refine d_quo 8 ?_ | refine d_shrv 8 ?_ | refine d_fieldat 8 ?_ | refine d_idx1 8 ?_ | refine d_index 8 ?_ | refine d_conv64 8 ?_ | refine d_slices 8 ?_ | refine d_concat 8 ?_ | refine d_build 8 ?_)
              (first | refine d_pure 10 ?_ | refine d_load 10 ?_ | refine d_arith 10 ?_ | refine d_rem 10 ?_ | refine d_quo 10 ?_ | refine d_shrv 10 ?_ | refine d_fieldat 10 ?_ | refine d_idx1 10 ?_ | refine d_index 10 ?_ | refine d_conv64 10 ?_ | refine d_slices 10 ?_ | refine d_concat 10 ?_ | refine d_build 10 ?_)
              refine d_via1 11 (h1 := by refine s_putall ?_; exact run_fin1) (h := ?_)
              (first | refine d_pure 12 ?_ | refine d_load 12 ?_ | refine d_arith 12 ?_ | refine d_rem 12 ?_ | refine d_quo 12 ?_ | refine d_shrv 12 ?_ | refine d_fieldat 12 ?_ | refine d_idx1 12 ?_ | refine d_index 12 ?_ | refine d_conv64 12 ?_ | refine d_slices 12 ?_ | refine d_concat 12 ?_ | refine d_build 12 ?_)
              refine d_done ?_
              (repeat (first | refine g ?_))
              refine s_call cj ?_
              (repeat (first | refine g ?_))
              refine s_alloc fun r16 => ?_
              (repeat (first | refine g ?_))
              refine s_box fun r18 => ?_
              (repeat (first | refine g ?_))
              refine s_call (cfin r18 rr.1 rr.2) ?_
              (repeat (first | refine g ?_))
              refine s_call cst ?_
              (repeat (first | refine g ?_))
              refine s_ceq r4 (encSu ⟨nv, ne, nn, nl, nr⟩) ?_ ?_
              · rfl
              refine run_ret3 (imp_RD ?_ shut) rfl (res_cell tabOk rfl rfl rfl (by repeat (first | (with_reducible exact At.head) | apply At.tail)) rfl) (res_tmp rfl) (res_tmp rfl)
              rfl
          · refine d_ovia 9 (X := Nat) (h1 := by refine s_alloc fun r => ?_; exact run_fin r) (h := fun r14 => ?_)
            refine d_via 3 (X := Option Addr × Nat × Option Addr × Nat) (h1 := by refine s_callx cal fun r => ?_; exact run_fin r) (h := fun x => ?_)
            refine d_via 4 (X := Option Addr × Nat) (h1 := by refine s_callx (cf x.1 x.2.1 x.2.2.1 x.2.2.2) fun r => ?_; exact run_fin r) (h := fun rr => ?_)
            (first | refine d_pure 5 ?_ | refine d_load 5 ?_ | refine d_arith 5 ?_ | refine d_rem 5 ?_ | refine d_quo 5 ?_ | refine d_shrv 5 ?_ | refine d_fieldat 5 ?_ | refine d_idx1 5 ?_ | refine d_index 5 ?_ | refine d_conv64 5 ?_ | refine d_slices 5 ?_ | refine d_concat 5 ?_ | refine d_build 5 ?_)
            (first | refine d_pure 6 ?_ | refine d_load 6 ?_ | refine d_arith 6 ?_ | refine d_rem 6 ?_ | refine d_quo 6 ?_ | refine d_shrv 6 ?_ | refine d_fieldat 6 ?_ | refine d_idx1 6 ?_ | refine d_index 6 ?_ | refine d_conv64 6 ?_ | refine d_slices 6 ?_ | refine d_concat 6 ?_ | refine d_build 6 ?_)
            (first | refine d_pure 7 ?_ | refine d_load 7 ?_ | refine d_arith 7 ?_ | refine d_rem 7 ?_ | refine d_quo 7 ?_ | refine d_shrv 7 ?_ | refine d_fieldat 7 ?_ | refine d_idx1 7 ?_ | refine d_index 7 ?_ | refine d_conv64 7 ?_ | refine d_slices 7 ?_ | refine d_concat 7 ?_ | refine d_build 7 ?_)
            (first | refine d_pure 8 ?_ | refine d_load 8 ?_ | refine d_arith 8 ?_ | refine d_rem 8 ?_ | refine d_quo 8 ?_ | refine d_shrv 8 ?_ | refine d_fieldat 8 ?_ | refine d_idx1 8 ?_ | refine d_index 8 ?_ | refine d_conv64 8 ?_ | refine d_slices 8 ?_ | refine d_concat 8 ?_ | refine d_build 8 ?_)
            (first | refine d_pure 10 ?_ | refine d_load 10 ?_ | refine d_arith 10 ?_ | refine d_rem 10 ?_ | refine d_quo 10 ?_ | refine d_shrv 10 ?_ | refine d_fieldat 10 ?_ | refine d_idx1 10 ?_ | refine d_index 10 ?_ | refine d_conv64 10 ?_ | refine d_slices 10 ?_ | refine d_concat 10 ?_ | refine d_build 10 ?_)
            refine d_via1 11 (h1 := by refine s_putall ?_; exact run_fin1) (h := ?_)
            (first | refine d_pure 12 ?_ | refine d_load 12 ?_ | refine d_arith 12 ?_ | refine d_rem 12 ?_ | refine d_quo 12 ?_ | refine d_shrv 12 ?_ | refine d_fieldat 12 ?_ | refine d_idx1 12 ?_ | refine d_index 12 ?_ | refine d_conv64 12 ?_ | refine d_slices 12 ?_ | refine d_concat 12 ?_ | refine d_build 12 ?_)
            refine d_done ?_
            (repeat (first | refine g ?_))
            refine s_call cj ?_
            (repeat (first | refine g ?_))
            refine s_alloc fun r16 => ?_
            (repeat (first | refine g ?_))
            refine s_box fun r18 => ?_
            (repeat (first | refine g ?_))
            refine s_call (cfin r18 rr.1 rr.2) ?_
            (repeat (first | refine g ?_))
            refine s_call cst ?_
            (repeat (first | refine g ?_))
            refine s_ceq r4 (encSu ⟨nv, ne, nn, nl, nr⟩) ?_ ?_
            · rfl
            refine run_ret3 (imp_RD ?_ shut) rfl (res_cell tabOk rfl rfl rfl (by repeat (first | (with_reducible exact At.head) | apply At.tail)) rfl) (res_tmp rfl) (res_tmp rfl)
            rfl
end Go.Proofs.YtaiocnpecaecdaaGreatDoor.V
namespace Go.Proofs.YtaiocnpecaecdaaGreatDoor.V
open Go.Proofs.YtaiocnpecaecdaaGreatDoor.VL Go.Proofs.YtaiocnpecaecdaaGreatDoor.VL.RD
attribute [local irreducible] Run numB
section
variable {P : Program} {q : View} {fn : Func} {R : Value → HProp} {k : List It} {σ : Facts} {A B : List HProp} {F : HProp} {b : Nat} {s : VSt}
end
end Go.Proofs.YtaiocnpecaecdaaGreatDoor.V
namespace Go.Proofs.YtaiocnpecaecdaaGreatDoor.V
open Go.Proofs.YtaiocnpecaecdaaGreatDoor.VL Go.Proofs.YtaiocnpecaecdaaGreatDoor.VL.RD
attribute [local irreducible] Run numB
end Go.Proofs.YtaiocnpecaecdaaGreatDoor.V
namespace Go.Proofs.YtaiocnpecaecdaaGreatDoor.V
open Go.Proofs.YtaiocnpecaecdaaGreatDoor.VL Go.Proofs.YtaiocnpecaecdaaGreatDoor.VL.RD
attribute [local irreducible] Run numB
end Go.Proofs.YtaiocnpecaecdaaGreatDoor.V
namespace Go.Proofs.YtaiocnpecaecdaaGreatDoor.V
open Go.Proofs.YtaiocnpecaecdaaGreatDoor.VL Go.Proofs.YtaiocnpecaecdaaGreatDoor.VL.RD
attribute [local irreducible] Run numB
end Go.Proofs.YtaiocnpecaecdaaGreatDoor.V
namespace Go.Proofs.YtaiocnpecaecdaaGreatDoor.V
open Go.Proofs.YtaiocnpecaecdaaGreatDoor.VL Go.Proofs.YtaiocnpecaecdaaGreatDoor.VL.RD
attribute [local irreducible] Run numB
end Go.Proofs.YtaiocnpecaecdaaGreatDoor.V
namespace Go.Proofs.YtaiocnpecaecdaaGreatDoor.V
open Go.Proofs.YtaiocnpecaecdaaGreatDoor.VL Go.Proofs.YtaiocnpecaecdaaGreatDoor.VL.RD Go.Proofs.YtaiocnpecaecdaaGreatDoor.VL.Sha
attribute [local irreducible] Run
theorem refPutI_spec (q : View) (n : Int) (w : Nat) (h1 : 1 ≤ w) (h6 : w ≤ 6) (hn : n ≤ 9223372036854775807) : FnD Tryz.prog q 134 [.int .i64 n, .int .i64 (w : Int)] [] (.tuple #[.string (V.putF n w).1, .int .i64 (V.putF n w).2]) [] := by
  unfold V.putF
  rw [if_neg (by omega), Int.toNat_natCast]
  (first | refine FnD.go Tryz.call134 Tryz.func134 rfl rfl rfl ?_ | refine FnX.go Tryz.call134 Tryz.func134 rfl rfl rfl ?_)
  by_cases h0 : n < 0
  · rw [if_pos (.inl h0)]
    (repeat (first | refine g ?_))
    exact run_ret rfl (imp_RD rfl shut)
  obtain ⟨m0, rfl⟩ : ∃ m : Nat, n = m := ⟨n.toNat, by omega⟩
  (repeat (first | refine g ?_))
  refine run_loopI (X := Nat × Option Addr × Nat) (fun x => x.1 ≤ w) (fun x => [(0, .int .i64 ((m0 / 256 ^ x.1 : Nat) : Int)), (1, .int .i64 (w : Int)), (6, .slice x.2.1 (leb m0 x.1).length x.2.2), (7, .int .i64 (x.1 : Int))])
    (fun x => [sl x.2.1 (leb m0 x.1).length x.2.2 5 1 (bv (leb m0 x.1))]) (fun x => w - x.1) (0, none, 0) (Nat.zero_le _) (by dsimp only; rw [Nat.pow_zero, Nat.div_one]; exact fct) shut ?_
  intro ⟨i, p, c⟩ hi
  dsimp only at *
  have hle : m0 / 256 ^ i ≤ m0 := Nat.div_le_self _ _
  obtain ⟨m, hm⟩ : ∃ m, m = m0 / 256 ^ i := ⟨_, rfl⟩
  rw [← hm] at hle ⊢
  have hll := leb_length m0 i
  (repeat (first | refine g ?_))
  refine run_cond_dec rfl ?_ ?_
  · intro h
    (repeat (first | refine g ?_))
    refine s_built fun r1 => ?_
    (repeat (first | refine g ?_))
    refine s_app 1 1 (reads_own At.head rfl) (hxl := by rw [bv_length, Nat.mul_one]) fun r2 => ?_
    have e : bv (leb m0 i) ++ [Value.int .u8 ((m : Int) % 256 % 256)] = bv (leb m0 (i + 1)) := by
      rw [leb_succ, bv_append, ← hm, show (m : Int) % 256 % 256 = ((UInt8.ofNat (m % 256)).toNat : Int) by rw [UInt8.toNat_ofNat', Nat.mod_eq_of_lt (Nat.mod_lt _ (by decide))]; omega]; rfl
    refine s_eq e ?_
    have el : (leb m0 i).length + 1 = (leb m0 (i + 1)).length := by rw [leb_length, leb_length]
    rw [el]
    (repeat (first | refine g ?_))
    have e2 : (m : Int) / 256 = ((m0 / 256 ^ (i + 1) : Nat) : Int) := by
      rw [Nat.pow_succ, ← Nat.div_div_eq_div_mul, ← hm]; omega
    refine run_stop_loop (i + 1, r2) ?_ fct shut
    exact ⟨by dsimp only; omega, by dsimp only; omega⟩
  · intro h
    obtain rfl : i = w := by omega
    have hq : ((m0 : Nat) : Int) / 2 ^ (8 * i) = (m : Int) := by
      rw [show ((m0 : Nat) : Int) / 2 ^ (8 * i) = ((m0 / 2 ^ (8 * i) : Nat) : Int) by rw [Int.natCast_ediv, Int.natCast_pow]; rfl, Nat.pow_mul, hm]
    by_cases hm0 : m = 0
    · subst hm0
      rw [if_neg (by rw [hq]; rintro (h | h); omega; exact h rfl), Int.toNat_natCast]
      (repeat (first | refine g ?_))
      refine s_string ?_
      (repeat (first | refine g ?_))
      exact run_ret rfl (imp_RD rfl shut)
    · rw [if_pos (.inr (by rw [hq]; omega))]
      (repeat (first | refine g ?_))
      exact run_ret rfl (imp_RD rfl shut)
def iP (P : List (Int × Nat)) : List Value := P.map fun x => .int .i64 x.1
def wP (P : List (Int × Nat)) : List Value := P.map fun x => .int .i64 (x.2 : Int)
def laidF (P : List (Int × Nat)) : ByteArray × Bool := if P.all okN = true then (bl (numsL P), true) else (⟨#[]⟩, false)
theorem laid_spec (q : View) (r w : Nat) (P : List (Int × Nat)) (hP : ∀ x ∈ P, 1 ≤ x.2 ∧ x.2 ≤ 6 ∧ x.1 ≤ 9223372036854775807) (hl : P.length ≤ 1000) :
    FnD Tryz.prog q 115 [.slice (some ⟨r, 0, none⟩) P.length P.length, .slice (some ⟨w, 0, none⟩) P.length P.length] [cells r 3 ⟨iP P⟩, cells w 3 ⟨wP P⟩]
      (.tuple #[.string (laidF P).1, .bool (laidF P).2]) [] := by
  have hi0 : (iP P).length = P.length := List.length_map ..
  have hw0 : (wP P).length = P.length := List.length_map ..
  (first | refine FnD.go Tryz.call115 Tryz.func115 rfl rfl rfl ?_ | refine FnX.go Tryz.call115 Tryz.func115 rfl rfl rfl ?_)
  (repeat (first | refine g ?_ | refine s_flat 5 [(.pure, [0, 1, 2, 4, 5, 6]), (.mem true, [3, 7]), (.mem false, [8]), (.pure, [9, 10, 11, 12, 13])] ?_))
  refine run_loopI (X := Nat) (fun i => i ≤ P.length ∧ (P.take i).all okN = true) (fun i => [(0, .slice (some ⟨r, 0, none⟩) P.length P.length), (1, .slice (some ⟨w, 0, none⟩) P.length P.length), (6, .string (bl (numsL (P.take i)))), (7, .int .i64 (i : Int))])
    (fun _ => [cells r 3 ⟨iP P⟩, cells w 3 ⟨wP P⟩]) (fun i => P.length - i) 0 ⟨Nat.zero_le _, rfl⟩ fct shut ?_
  intro i ⟨hi, hok⟩
  have hz : (bl (numsL (P.take i))).size ≤ 6 * i := by
    show (numsL (P.take i)).toArray.size ≤ _
    rw [List.size_toArray, numsL_len]
    have : ∀ l : List (Int × Nat), (∀ x ∈ l, x.2 ≤ 6) → (l.map (·.2)).sum ≤ 6 * l.length := by
      intro l
      induction l with
      | nil => intro _; simp
      | cons x l ih =>
        intro h
        have := ih (fun y hy => h y (List.mem_cons_of_mem _ hy))
        have := h x List.mem_cons_self
        simp only [List.map_cons, List.sum_cons, List.length_cons]; omega
    have := this (P.take i) (fun x hx => (hP x (List.mem_of_mem_take hx)).2.1)
    rw [List.length_take] at this; omega
  (repeat (first | refine g ?_ | refine s_flat 5 [(.pure, [0, 1, 2, 4, 5, 6]), (.mem true, [3, 7]), (.mem false, [8]), (.pure, [9, 10, 11, 12, 13])] ?_))
  refine run_cond_dec rfl ?_ ?_
  · intro h
    have hiP : i < P.length := by omega
    obtain ⟨x, hx⟩ : ∃ x, P[i]? = some x := ⟨_, List.getElem?_eq_getElem hiP⟩
    have hxP := hP x (List.mem_of_getElem? hx)
    have hx1 : (iP P)[i]? = some (.int .i64 x.1) := by unfold iP; rw [List.getElem?_map, hx]; rfl
    have hx2 : (wP P)[i]? = some (.int .i64 (x.2 : Int)) := by unfold wP; rw [List.getElem?_map, hx]; rfl
    have cp := refPutI_spec q x.1 x.2 hxP.1 hxP.2.1 hxP.2.2
    have htk : P.take (i + 1) = P.take i ++ [x] := by rw [List.take_add_one, hx]; rfl
    (repeat (first | refine g ?_ | refine s_flat 5 [(.pure, [0, 1, 2, 4, 5, 6]), (.mem true, [3, 7]), (.mem false, [8]), (.pure, [9, 10, 11, 12, 13])] ?_))
    refine s_loadat hx1 ?_
    (repeat (first | refine g ?_ | refine s_flat 5 [(.pure, [0, 1, 2, 4, 5, 6]), (.mem true, [3, 7]), (.mem false, [8]), (.pure, [9, 10, 11, 12, 13])] ?_))
    refine s_loadat hx2 ?_
    (repeat (first | refine g ?_ | refine s_flat 5 [(.pure, [0, 1, 2, 4, 5, 6]), (.mem true, [3, 7]), (.mem false, [8]), (.pure, [9, 10, 11, 12, 13])] ?_))
    refine s_call cp ?_
    (repeat (first | refine g ?_ | refine s_flat 5 [(.pure, [0, 1, 2, 4, 5, 6]), (.mem true, [3, 7]), (.mem false, [8]), (.pure, [9, 10, 11, 12, 13])] ?_))
    cases hox : okN x with
    | true =>
      have e1 := putF_ok x hox hxP.1 hxP.2.1
      rw [e1]
      dsimp only
      have z2 : (bl (leb x.1.toNat x.2)).size = x.2 := by show (leb x.1.toNat x.2).toArray.size = _; rw [List.size_toArray, leb_length]
      have e2 : bl (numsL (P.take i)) ++ bl (leb x.1.toNat x.2) = bl (numsL (P.take (i + 1))) := by
        rw [htk]
        unfold numsL bl
        exact ByteArray.ext (by simp)
      (repeat (first | refine g ?_ | refine s_flat 5 [(.pure, [0, 1, 2, 4, 5, 6]), (.mem true, [3, 7]), (.mem false, [8]), (.pure, [9, 10, 11, 12, 13])] ?_))
      rw [e2]
      exact run_stop_loop (i + 1) ⟨⟨by omega, by rw [htk, List.all_append, hok]; simp [hox]⟩, by omega⟩ fct shut
    | false =>
      have e1 : V.putF x.1 x.2 = (⟨#[]⟩, 2) := by
        have hd := of_decide_eq_false hox
        unfold V.putF
        rw [if_neg (by omega), if_pos (by
          rw [Int.toNat_natCast]
          by_cases h1 : x.1 < 0
          · exact .inl h1
          · exact .inr (fun h2 => hd ⟨by omega, h2⟩))]
      rw [e1]
      dsimp only
      have hall : P.all okN = false := by
        rw [List.all_eq_false]
        exact ⟨x, List.mem_of_getElem? hx, by rw [hox]; decide⟩
      unfold laidF
      rw [if_neg (by rw [hall]; decide)]
      (repeat (first | refine g ?_ | refine s_flat 5 [(.pure, [0, 1, 2, 4, 5, 6]), (.mem true, [3, 7]), (.mem false, [8]), (.pure, [9, 10, 11, 12, 13])] ?_))
      exact run_ret rfl (imp_RD rfl shut)
  · intro h
    obtain rfl : i = P.length := by omega
    rw [List.take_length] at hok
    unfold laidF
    rw [if_pos hok, List.take_length]
    (repeat (first | refine g ?_ | refine s_flat 5 [(.pure, [0, 1, 2, 4, 5, 6]), (.mem true, [3, 7]), (.mem false, [8]), (.pure, [9, 10, 11, 12, 13])] ?_))
    exact run_ret rfl (imp_RD rfl shut)
def wHd : List Value := [.int .i64 6, .int .i64 4, .int .i64 2, .int .i64 4, .int .i64 4, .int .i64 4, .int .i64 6, .int .i64 6]
theorem widths_spec (q : View) : FnX Tryz.prog q 116 [] [] (fun r : Nat => .slice (some ⟨r, 0, none⟩) 8 8) fun r => [cells r 3 ⟨wHd⟩] := by
  (first | refine FnD.go Tryz.call116 Tryz.func116 rfl rfl rfl ?_ | refine FnX.go Tryz.call116 Tryz.func116 rfl rfl rfl ?_)
  (repeat (first | refine g ?_))
  refine s_built fun r => ?_
  (repeat (first | refine g ?_))
  exact run_ret rfl (imp_RX r rfl shut)
end Go.Proofs.YtaiocnpecaecdaaGreatDoor.V
