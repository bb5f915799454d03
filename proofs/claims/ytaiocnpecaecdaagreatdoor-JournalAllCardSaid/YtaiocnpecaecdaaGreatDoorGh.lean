/- A crash within the second commit, and recoveries of it, plainly. -/
import Derived.Test.YtaiocnpecaecdaaGreatDoorGg
import Derived.Test.YtaiocnpecaecdaaGreatDoorGf
import Derived.Test.YtaiocnpecaecdaaGreatDoorGd
import Derived.Test.YtaiocnpecaecdaaGreatDoorGa
import Derived.Test.YtaiocnpecaecdaaGreatDoorVLc
import Derived.Test.YtaiocnpecaecdaaGreatDoorGe
set_option maxRecDepth 10000
set_option linter.unusedVariables false
namespace Go.Proofs.YtaiocnpecaecdaaGreatDoor.V
open Go.Proofs.YtaiocnpecaecdaaGreatDoor.VL Go.Proofs.YtaiocnpecaecdaaGreatDoor.VL.RD Go.Proofs.YtaiocnpecaecdaaGreatDoor.VL.Sha
attribute [local irreducible] Run numB
theorem four_groups {A B C D : List WriteT} {Gs1 Gs2 : List (List WriteT)} {G : List WriteT} (h : [A, B, C, D] = Gs1 ++ G :: Gs2) : Gs1 = [] ∧ G = A ∨ Gs1 = [A] ∧ G = B ∨ Gs1 = [A, B] ∧ G = C ∨ Gs1 = [A, B, C] ∧ G = D := by
  cases Gs1 with
  | nil => exact .inl ⟨rfl, (List.cons.inj h).1.symm⟩
  | cons X Gs1 =>
    obtain ⟨e1, h⟩ := List.cons.inj h
    cases Gs1 with
    | nil => exact .inr (.inl ⟨by rw [e1], (List.cons.inj h).1.symm⟩)
    | cons Y Gs1 =>
      obtain ⟨e2, h⟩ := List.cons.inj h
      cases Gs1 with
      | nil => exact .inr (.inr (.inl ⟨by rw [e1, e2], (List.cons.inj h).1.symm⟩))
      | cons Z Gs1 =>
        obtain ⟨e3, h⟩ := List.cons.inj h
        cases Gs1 with
        | nil => exact .inr (.inr (.inr ⟨by rw [e1, e2, e3], (List.cons.inj h).1.symm⟩))
        | cons Q Gs1 =>
          obtain ⟨_, h⟩ := List.cons.inj h
          cases Gs1 <;> cases h
section
variable {old new : List WriteT} {raw0 raw1 word1 raw2 word2 : ByteArray}
theorem second (hold : ∀ w ∈ old, MayW w) (hC : Comm new word2 raw2) (z0 : raw0.size = 512) (z1 : word1.size = 512) (n0 : raw0 ≠ raw2) (n2 : word1 ≠ word2) {n : Nat} {c : Int → ByteArray} {d : PSt} (hd : Disk n 784 c d) (hn : n < 80000)
    (b0 : blkC c 0 raw0) (b1 : blkC c 1 raw1) (b2 : blkC c 2 word1) (pl : ∀ w ∈ old, blkC c w.at_ w.raw) (ks : List Bool) :
    okE (runG (d, 0) (grpC new word2 0 raw2)).2 ∧ ∃ c', Disk (n + 1000) 784 c' (startF (runG (d, 0) (grpC new word2 0 raw2)).1 ks) ∧
      (InvO old raw1 raw2 word2 c' ∧ (runG (d, 0) (grpC new word2 0 raw2)).2 = 20 ∨ InvM new raw1 raw2 word2 c') := by
  have hl := hC.len4 0
  have hlen := hC.len
  rcases crash (grpC new word2 0 raw2) hd (by omega) (hC.fits 0 (by decide) (by decide)) with ⟨e, hD⟩ | ⟨e, Gs1, G, Gs2, H, eG, hH, hP⟩
  · refine ⟨.inl e, ?_⟩
    obtain ⟨c', hd', hj⟩ := hD.start ks
    obtain ⟨a1, a2, a3, a4, a5⟩ := hC.all c 0 (by decide) (by decide)
    refine ⟨c', hd'.mono (by omega), .inr ⟨blk_eq hj (by decide) (by decide) (a1 1 raw1 (by decide) b1), blk_eq hj (by decide) (by decide) a3, fun i u hu => ?_, .inr fun w hw => ?_⟩⟩
    · have hi := (List.getElem?_eq_some_iff.1 hu).1
      exact blk_eq hj (by omega) (by omega) (a5 i u hu)
    · have g := hC.one.1 w hw
      have g0 := g.a0
      have g1 := g.a1
      exact blk_eq hj (by omega) (by omega) (a4 w hw)
  · refine ⟨.inr e, ?_⟩
    obtain ⟨c', hd', hj⟩ := hP.start ks
    refine ⟨c', hd'.mono (by omega), ?_⟩
    have lgm : ∀ (i : Nat) (u : WriteT), new[i]? = some u → blkC (updC c (secG (recsW 3 new))) (3 + i) u.raw := fun i u hu => updG_here _ _ (recs_one new) ⟨3 + i, u.raw⟩ (recsW_get hu)
    rcases four_groups eG with ⟨rfl, rfl⟩ | ⟨rfl, rfl⟩ | ⟨rfl, rfl⟩ | ⟨rfl, rfl⟩
    · refine .inl ⟨⟨mix_other hH hj 1 (by decide) (by decide) (recs_ne hC (by decide)) raw1 b1, ⟨raw0, z0, n0, mix_other hH hj 0 (by decide) (by decide) (recs_ne hC (by decide)) raw0 b0⟩,
        ⟨word1, z1, n2, mix_other hH hj 2 (by decide) (by decide) (recs_ne hC (by decide)) word1 b2⟩, fun w hw => ?_⟩, e⟩
      have g0 := (hold w hw).a0
      have g1 := (hold w hw).a1
      exact mix_other hH hj w.at_ (by omega) (by omega) (recs_ne hC (by omega)) w.raw (pl w hw)
    · have c1 := mix_other hH hj 1 (by decide) (by decide) (one_ne (by decide)) raw1 (updG_blk _ _ 1 raw1 (recs_ne hC (by decide)) b1)
      have c0 := mix_other hH hj 0 (by decide) (by decide) (one_ne (by decide)) raw0 (updG_blk _ _ 0 raw0 (recs_ne hC (by decide)) b0)
      obtain ⟨z, sz, bz⟩ := hd'.some 2 (by decide) (by decide)
      by_cases hz : z = word2
      · subst hz
        refine .inr ⟨c1, bz, fun i u hu => ?_, .inl ⟨raw0, z0, n0, c0⟩⟩
        have hi := (List.getElem?_eq_some_iff.1 hu).1
        exact mix_other hH hj (3 + i) (by omega) (by omega) (one_ne (by omega)) u.raw (lgm i u hu)
      · refine .inl ⟨⟨c1, ⟨raw0, z0, n0, c0⟩, ⟨z, sz, hz, bz⟩, fun w hw => ?_⟩, e⟩
        have g0 := (hold w hw).a0
        have g1 := (hold w hw).a1
        exact mix_other hH hj w.at_ (by omega) (by omega) (one_ne (by omega)) w.raw (updG_blk _ _ w.at_ w.raw (recs_ne hC (by omega)) (pl w hw))
    · have c1 := mix_other hH hj 1 (by decide) (by decide) (pl_ne hC (by decide)) raw1 (updG_blk _ _ 1 raw1 (one_ne (by decide)) (updG_blk _ _ 1 raw1 (recs_ne hC (by decide)) b1))
      have c0 := mix_other hH hj 0 (by decide) (by decide) (pl_ne hC (by decide)) raw0 (updG_blk _ _ 0 raw0 (one_ne (by decide)) (updG_blk _ _ 0 raw0 (recs_ne hC (by decide)) b0))
      have c2 := mix_other hH hj 2 (by decide) (by decide) (pl_ne hC (by decide)) word2 (updG_here _ _ (one_single _) ⟨2, word2⟩ (List.mem_singleton.2 rfl))
      refine .inr ⟨c1, c2, fun i u hu => ?_, .inl ⟨raw0, z0, n0, c0⟩⟩
      have hi := (List.getElem?_eq_some_iff.1 hu).1
      exact mix_other hH hj (3 + i) (by omega) (by omega) (pl_ne hC (by omega)) u.raw (updG_blk _ _ (3 + i) u.raw (one_ne (by omega)) (lgm i u hu))
    · have c1 := mix_other hH hj 1 (by decide) (by decide) (one_ne (by decide)) raw1 (updG_blk _ _ 1 raw1 (pl_ne hC (by decide)) (updG_blk _ _ 1 raw1 (one_ne (by decide)) (updG_blk _ _ 1 raw1 (recs_ne hC (by decide)) b1)))
      have c2 := mix_other hH hj 2 (by decide) (by decide) (one_ne (by decide)) word2 (updG_blk _ _ 2 word2 (pl_ne hC (by decide)) (updG_here _ _ (one_single _) ⟨2, word2⟩ (List.mem_singleton.2 rfl)))
      refine .inr ⟨c1, c2, fun i u hu => ?_, .inr fun w hw => ?_⟩
      · have hi := (List.getElem?_eq_some_iff.1 hu).1
        exact mix_other hH hj (3 + i) (by omega) (by omega) (one_ne (by omega)) u.raw (updG_blk _ _ (3 + i) u.raw (pl_ne hC (by omega)) (updG_blk _ _ (3 + i) u.raw (one_ne (by omega)) (lgm i u hu)))
      · have g := hC.one.1 w hw
        have g0 := g.a0
        have g1 := g.a1
        exact mix_other hH hj w.at_ (by omega) (by omega) (one_ne (by omega)) w.raw (updG_here _ new hC.one.2 w hw)
variable {W : VSt} {B1 B2 : ByteArray}
def JInv (old new : List WriteT) (raw1 raw2 word2 : ByteArray) (done : Bool) (c : Int → ByteArray) : Prop := InvO old raw1 raw2 word2 c ∧ done = false ∨ InvM new raw1 raw2 word2 c
/-- A recovery, whatever fails. -/
theorem rec_step (hold : ∀ w ∈ old, MayW w) (hC : Comm new word2 raw2) {n : Nat} {c : Int → ByteArray} {d : PSt} (hd : Disk n 784 c d) (hn : n < 80000) (hK : Known W new raw0 raw1 word1 raw2 word2 B1 B2) (done : Bool) (hI : JInv old new raw1 raw2 word2 done c) :
    ∃ r d' W', recoverM idealP d W = (r, d', W') ∧ Known W' new raw0 raw1 word1 raw2 word2 B1 B2 ∧ (∀ ks, ∃ c', Disk (n + 2000) 784 c' (startF d' ks) ∧ JInv old new raw1 raw2 word2 done c') ∧
      (d.fuse = -1 → ∃ (e k : Int), r = (supX e, k, 0) ∧ ∃ c', Disk (n + 2000) 784 c' d' ∧ (e = 1 ∧ done = false ∧ (∀ w ∈ old, blkC c' w.at_ w.raw) ∨ e = 2 ∧ ∀ w ∈ new, blkC c' w.at_ w.raw)) := by
  have eqO : ∀ {c c' : Int → ByteArray}, (∀ j, 0 ≤ j → j < 784 → c' j = c j) → InvO old raw1 raw2 word2 c → InvO old raw1 raw2 word2 c' := by
    rintro c c' hj ⟨b1, ⟨z, sz, nz, bz⟩, ⟨y, sy, ny, by_⟩, pl⟩
    refine ⟨blk_eq hj (by decide) (by decide) b1, ⟨z, sz, nz, blk_eq hj (by decide) (by decide) bz⟩, ⟨y, sy, ny, blk_eq hj (by decide) (by decide) by_⟩, fun w hw => ?_⟩
    have g0 := (hold w hw).a0
    have g1 := (hold w hw).a1
    exact blk_eq hj (by omega) (by omega) (pl w hw)
  have eqP : ∀ {c c' : Int → ByteArray}, (∀ j, 0 ≤ j → j < 784 → c' j = c j) → (∀ w ∈ new, blkC c w.at_ w.raw) → ∀ w ∈ new, blkC c' w.at_ w.raw := by
    intro c c' hj h w hw
    have g := hC.one.1 w hw
    have g0 := g.a0
    have g1 := g.a1
    exact blk_eq hj (by omega) (by omega) (h w hw)
  have hlen := hC.len
  have eqM : ∀ {c c' : Int → ByteArray}, (∀ j, 0 ≤ j → j < 784 → c' j = c j) → InvM new raw1 raw2 word2 c → InvM new raw1 raw2 word2 c' := by
    rintro c c' hj ⟨b1, b2, lg, h⟩
    refine ⟨blk_eq hj (by decide) (by decide) b1, blk_eq hj (by decide) (by decide) b2, fun i u hu => ?_, ?_⟩
    · have hi := (List.getElem?_eq_some_iff.1 hu).1
      exact blk_eq hj (by omega) (by omega) (lg i u hu)
    · rcases h with ⟨z, sz, nz, bz⟩ | h
      · exact .inl ⟨z, sz, nz, blk_eq hj (by decide) (by decide) bz⟩
      · exact .inr (eqP hj h)
  rcases hI with ⟨hO, hdone⟩ | hM
  · obtain ⟨b1, ⟨z, sz, nz, bz⟩, ⟨y, sy, ny, by_⟩, pl⟩ := hO
    obtain ⟨d3, V3, e, hd3, hK3⟩ := rec_one hd (by omega) hK z y sz sy nz ny bz b1 by_
    refine ⟨_, d3, V3, e, hK3, fun ks => ?_, fun _ => ⟨1, 0, rfl, c, hd3.mono (by omega), .inl ⟨rfl, hdone, pl⟩⟩⟩
    obtain ⟨c', hd', hj⟩ := hd3.start ks
    exact ⟨c', hd'.mono (by omega), .inl ⟨eqO hj ⟨b1, ⟨z, sz, nz, bz⟩, ⟨y, sy, ny, by_⟩, pl⟩, hdone⟩⟩
  · obtain ⟨z, sz, bz⟩ := hd.some 0 (by decide) (by decide)
    by_cases hz : z = raw2
    · subst hz
      obtain ⟨d3, V3, e, hd3, hK3⟩ := rec_two hd (by omega) hK bz hM.b1
      have hpl : ∀ w ∈ new, blkC c w.at_ w.raw := by
        rcases hM.or_ with ⟨y, sy, ny, by_⟩ | h
        · exact absurd (blk_one sy sz by_ bz) ny
        · exact h
      refine ⟨_, d3, V3, e, hK3, fun ks => ?_, fun _ => ⟨2, 0, rfl, c, hd3.mono (by omega), .inr ⟨rfl, hpl⟩⟩⟩
      obtain ⟨c', hd', hj⟩ := hd3.start ks
      exact ⟨c', hd'.mono (by omega), .inr (eqM hj hM)⟩
    · obtain ⟨d3, V3, hd3, hK3, ef, e⟩ := rec_fin hd (by omega) hK hC.may hC.len z sz hz bz hM.b1 hM.b2 hM.lg
      have fc := fun ks => fin_crash hC.rz hd3 (by omega) hC.may hC.len hM z sz hz bz ks
      dsimp only at e fc
      by_cases hs : stopF (runG (d3, 0) [new, [⟨0, raw2⟩]]).2 ≠ 0
      · rw [if_pos hs] at e
        refine ⟨_, _, V3, e, hK3, fun ks => ?_, fun hf => ?_⟩
        · obtain ⟨c', hd', hM'⟩ := (fc ks).1
          exact ⟨c', hd'.mono (by omega), .inr hM'⟩
        · exfalso
          have eL : lenG [new, [⟨0, raw2⟩]] = new.length + (1 + 0) := rfl
          obtain ⟨d', er, _, _⟩ := hd3.run (by rw [ef]; exact hf) [new, [⟨0, raw2⟩]] (by rw [eL]; omega) (by
            intro G hG
            rcases List.mem_cons.1 hG with rfl | hG
            · exact fun w hw => (hC.one.1 w hw).fits
            · obtain rfl := List.mem_singleton.1 hG
              exact fits_one (by decide) (by decide) hC.rz)
          rw [er] at hs
          exact hs rfl
      · rw [if_neg hs] at e
        refine ⟨_, _, V3, e, hK3, fun ks => ?_, fun hf => ?_⟩
        · obtain ⟨c', hd', hM'⟩ := (fc ks).1
          exact ⟨c', hd'.mono (by omega), .inr hM'⟩
        · rcases (fc []).2 with ⟨_, c', hd', hM', h0, hp⟩ | h20
          · exact ⟨2, new.length, rfl, c', hd'.mono (by omega), .inr ⟨rfl, hp⟩⟩
          · rw [h20] at hs
            exact absurd (show stopF 20 ≠ 0 by decide) hs
end
end Go.Proofs.YtaiocnpecaecdaaGreatDoor.V
namespace Go.Proofs.YtaiocnpecaecdaaGreatDoor.V
open Go.Proofs.YtaiocnpecaecdaaGreatDoor.VL Go.Proofs.YtaiocnpecaecdaaGreatDoor.VL.RD Go.Proofs.YtaiocnpecaecdaaGreatDoor.VL.Sha
attribute [local irreducible] Run numB
/-- The device behind the first commit. -/
structure First (old : List WriteT) (c : Int → ByteArray) : Prop where
  b0 : blkC c 0 raw00
  b1 : blkC c 1 (suF V0 old (supX 1))
  b2 : blkC c 2 (wordF V0 old (supX 1))
  pl : ∀ w ∈ old, blkC c w.at_ w.raw
theorem commit_may (d : PSt) (hs : d.sectors = 784) (V : VSt) (l : List WriteT) (x : SuperT) (hx : x.live = 48) (h : (commitM idealP d V l x).1 = 0) : l.length ≤ 24 ∧ mayF 48 l = true := by
  unfold commitM at h
  rw [live784 d hs, hx] at h
  split at h
  · exact absurd (show (4 : Int) = 0 from h) (by decide)
  · rename_i h1
    refine ⟨by omega, ?_⟩
    split at h
    · exact absurd (show (1 : Int) = 0 from h) (by decide)
    · rename_i h2
      cases hm : mayF 48 l with
      | true => rfl
      | false => exact absurd (.inr (.inr (.inr (.inr hm)))) h2
theorem commit_old {c : Int → ByteArray} {d : PSt} (hd : Disk 24 784 c d) (hf : d.fuse = -1) (b0 : blkC c 0 raw00) (old : List WriteT) (h : (commitM idealP d V0 old (supX 1)).1 = 0) :
    old.length ≤ 24 ∧ mayF 48 old = true ∧ ∃ d' c', commitM idealP d V0 old (supX 1) = (0, d', V1 old) ∧ Disk 500 784 c' d' ∧ d'.fuse = -1 ∧ First old c' := by
  obtain ⟨h1, h2⟩ := commit_may d hd.sec V0 old (supX 1) rfl h
  refine ⟨h1, h2, ?_⟩
  have kw := word_sealed (V := V0) (l := old) fit1 h1
  have ks := su_sealed (V := V0) (l := old) fit1
  have hC : Comm old (wordF V0 old (supX 1)) (suF V0 old (supX 1)) := ⟨h2, h1, kw.sz, ks.sz⟩
  have hl := hC.len4 1
  obtain ⟨d', e, hD, hf'⟩ := hd.run hf (grpC old (wordF V0 old (supX 1)) 1 (suF V0 old (supX 1))) (by omega) (hC.fits 1 (by decide) (by decide))
  obtain ⟨a1, a2, a3, a4, a5⟩ := hC.all c 1 (by decide) (by decide)
  refine ⟨d', _, ?_, hD.mono (by omega), hf', ⟨a1 0 raw00 (by decide) b0, a2, a3, a4⟩⟩
  rw [commit_run d hd.sec V0 old (supX 1) fit1 h2 h1]
  have e2 : runG (d, 0) [recsW 3 old, [⟨2, wordF V0 old (supX 1)⟩], old, [⟨(supX 1).epoch % 2, suF V0 old (supX 1)⟩]] = (d', 0) := e
  rw [e2]
  rfl
theorem sealed_ne {V : VSt} {g h : HeadT} {X Y a b : ByteArray} (k : Sealed V g X a) (l : Sealed V h Y b) (hne : g ≠ h) : a ≠ b := fun e => by
  subst e
  exact hne (k.head.symm.trans l.head)
theorem commit_new {old new : List WriteT} (ho : old.length ≤ 24) (mo : mayF 48 old = true) (hn : new.length ≤ 24) (mn : mayF 48 new = true) {n : Nat} {c : Int → ByteArray} {d : PSt} (hd : Disk n 784 c d) (hnn : n < 80000) (hF : First old c) :
    (∀ w ∈ old, MayW w) ∧ Comm new (wordF (V1 old) new (supX 2)) (suF (V1 old) new (supX 2)) ∧
    ∃ e d', commitM idealP d (V1 old) new (supX 2) = (e, d', V2 old new) ∧ ∀ ks, ∃ c', Disk (n + 1000) 784 c' (startF d' ks) ∧ JInv old new (suF V0 old (supX 1)) (suF (V1 old) new (supX 2)) (wordF (V1 old) new (supX 2)) (decide (e = 0)) c' := by
  have hK := known_two old new ho hn
  have hC : Comm new (wordF (V1 old) new (supX 2)) (suF (V1 old) new (supX 2)) := ⟨mn, hn, hK.p2.sz, hK.s2.sz⟩
  have hold : ∀ w ∈ old, MayW w := fun w hw => ((may_all old 26 (by decide) mo).1 w hw).1
  refine ⟨hold, hC, _, _, commit_run d hd.sec (V1 old) new (supX 2) fit2 mn hn, fun ks => ?_⟩
  obtain ⟨hok, c', hd', hI⟩ := second hold hC hK.s0.sz hK.p1.sz (sealed_ne hK.s0 hK.s2 (fun e => absurd (congrArg HeadT.ver e) (by decide))) (sealed_ne hK.p1 hK.p2 (fun e => absurd (congrArg HeadT.ver e) (by decide))) hd hnn hF.b0 hF.b1 hF.b2 hF.pl ks
  refine ⟨c', hd', ?_⟩
  rcases hI with ⟨hO, h20⟩ | hM
  · refine .inl ⟨hO, ?_⟩
    have h20' : (runG (d, 0) [recsW 3 new, [⟨2, wordF (V1 old) new (supX 2)⟩], new, [⟨(supX 2).epoch % 2, suF (V1 old) new (supX 2)⟩]]).2 = 20 := h20
    rw [h20']
    decide
  · exact .inr hM
/-- What is found at last. -/
theorem all_at {n : Nat} {c : Int → ByteArray} {d : PSt} (hd : Disk n 784 c d) (w : WriteT) (hw : MayW w) (hb : blkC c w.at_ w.raw) : atF (rawsL d (blocksN d)) (masksL d (blocksN d)) w.at_ = (w.raw, 0) := by
  have g0 := hw.a0
  have g1 := hw.a1
  exact hd.image w.at_ (by omega) (by omega) w.raw hw.sz hb
end Go.Proofs.YtaiocnpecaecdaaGreatDoor.V
namespace Go.Proofs.YtaiocnpecaecdaaGreatDoor.V
open Go.Proofs.YtaiocnpecaecdaaGreatDoor.VL Go.Proofs.YtaiocnpecaecdaaGreatDoor.VL.RD Go.Proofs.YtaiocnpecaecdaaGreatDoor.VL.Sha
attribute [local irreducible] Run numB
def armD (d : PSt) (f : Int) : PSt := if 0 ≤ f then (armF d f).2 else d
theorem Disk.armD {n : Nat} {k : Int} {c : Int → ByteArray} {d : PSt} (h : Disk n k c d) (f : Int) (hf : f ≤ 9223372036854775807) : Disk n k c (V.armD d f) := by
  unfold V.armD
  split
  · exact h.arm f hf
  · exact h
/-- The device behind the second commit, or recoveries of it, and a start. -/
structure Mid (old new : List WriteT) (done : Bool) (n : Nat) (d : PSt) (W : VSt) : Prop where
  dk : ∃ c, Disk n 784 c d ∧ JInv old new (suF V0 old (supX 1)) (suF (V1 old) new (supX 2)) (wordF (V1 old) new (supX 2)) done c
  kn : Known W new raw00 (suF V0 old (supX 1)) (wordF V0 old (supX 1)) (suF (V1 old) new (supX 2)) (wordF (V1 old) new (supX 2)) (proB V0 old (supX 1)) (proB (V1 old) new (supX 2))
  fu : d.fuse = -1
structure Both2 (old new : List WriteT) : Prop where
  lo : old.length ≤ 24
  mo : mayF 48 old = true
  ln : new.length ≤ 24
  mn : mayF 48 new = true
section
variable {old new : List WriteT}
theorem Both2.hold (h : Both2 old new) : ∀ w ∈ old, MayW w := fun w hw => ((may_all old 26 (by decide) h.mo).1 w hw).1
theorem Both2.comm (h : Both2 old new) : Comm new (wordF (V1 old) new (supX 2)) (suF (V1 old) new (supX 2)) := by
  have hK := known_two old new h.lo h.ln
  exact ⟨h.mn, h.ln, hK.p2.sz, hK.s2.sz⟩
theorem mid_first (h : Both2 old new) {n : Nat} {c : Int → ByteArray} {d : PSt} (hd : Disk n 784 c d) (hn : n < 80000) (hF : First old c) :
    ∃ e d', commitM idealP d (V1 old) new (supX 2) = (e, d', V2 old new) ∧ ∀ ks, Mid old new (decide (e = 0)) (n + 1000) (startF d' ks) (V2 old new) := by
  obtain ⟨_, _, e, d', hc, hs⟩ := commit_new h.lo h.mo h.ln h.mn hd hn hF
  exact ⟨e, d', hc, fun ks => ⟨hs ks, known_two old new h.lo h.ln, rfl⟩⟩
theorem Mid.step (h : Both2 old new) {done : Bool} {n : Nat} {d : PSt} {W : VSt} (m : Mid old new done n d W) (hn : n < 80000) (f : Int) (hf : f ≤ 9223372036854775807) (ks : List Bool) :
    Mid old new done (n + 2000) (startF (recoverM idealP (armD d f) W).2.1 ks) (recoverM idealP (armD d f) W).2.2 := by
  obtain ⟨c, hd, hI⟩ := m.dk
  obtain ⟨r, d', W', e, hK, hs, _⟩ := rec_step h.hold h.comm (hd.armD f hf) hn m.kn done hI
  rw [e]
  exact ⟨hs ks, hK, rfl⟩
theorem Mid.last (h : Both2 old new) {done : Bool} {n : Nat} {d : PSt} {W : VSt} (m : Mid old new done n d W) (hn : n < 80000) :
    ∃ (e k : Int) (d' : PSt) (W' : VSt), recoverM idealP d W = ((supX e, k, 0), d', W') ∧ (e = 1 ∧ done = false ∧ (∀ w ∈ old, atF (rawsL d' (blocksN d')) (masksL d' (blocksN d')) w.at_ = (w.raw, 0)) ∨ e = 2 ∧ ∀ w ∈ new, atF (rawsL d' (blocksN d')) (masksL d' (blocksN d')) w.at_ = (w.raw, 0)) := by
  obtain ⟨c, hd, hI⟩ := m.dk
  obtain ⟨r, d', W', e, hK, hs, hl⟩ := rec_step h.hold h.comm hd hn m.kn done hI
  obtain ⟨a, k, rfl, c', hd', hh⟩ := hl m.fu
  refine ⟨a, k, d', W', e, ?_⟩
  rcases hh with ⟨h1, h2, h3⟩ | ⟨h1, h2⟩
  · exact .inl ⟨h1, h2, fun w hw => all_at hd' w (h.hold w hw) (h3 w hw)⟩
  · exact .inr ⟨h1, fun w hw => all_at hd' w (h.comm.one.1 w hw) (h2 w hw)⟩
end
end Go.Proofs.YtaiocnpecaecdaaGreatDoor.V
namespace Go.Proofs.YtaiocnpecaecdaaGreatDoor.V
open Go.Proofs.YtaiocnpecaecdaaGreatDoor.VL Go.Proofs.YtaiocnpecaecdaaGreatDoor.VL.RD Go.Proofs.YtaiocnpecaecdaaGreatDoor.VL.Sha
attribute [local irreducible] Run numB
theorem both_two (l : List WriteT) (hz : ∀ w ∈ l, w.raw.size = 512) (h1 : (oldF l).length ≤ 24) (h2 : mayF 48 (oldF l) = true) : Both2 (oldF l) l := by
  have hl : (oldF l).length = l.length := by unfold oldF; rw [List.length_map]
  refine ⟨h1, h2, by omega, ?_⟩
  unfold mayF at *
  rw [may_old 48 l hz] at h2
  exact h2
end Go.Proofs.YtaiocnpecaecdaaGreatDoor.V
namespace Go.Proofs.YtaiocnpecaecdaaGreatDoor.V
open Go.Proofs.YtaiocnpecaecdaaGreatDoor.VL Go.Proofs.YtaiocnpecaecdaaGreatDoor.VL.RD Go.Proofs.YtaiocnpecaecdaaGreatDoor.VL.Sha
attribute [local irreducible] Run numB
def mixO (ws : List WriteT) (i : Nat) : List WriteT := oldF (ws.take i) ++ ws.drop i
theorem mixO_zero (ws : List WriteT) : mixO ws 0 = ws := by
  unfold mixO oldF
  rw [List.take_zero, List.drop_zero]
  rfl
theorem mixO_all (ws : List WriteT) : mixO ws ws.length = oldF ws := by
  unfold mixO
  rw [List.take_length, List.drop_length, List.append_nil]
theorem encWs_app (a b : List WriteT) : encWs (a ++ b) = encWs a ++ encWs b := by
  unfold encWs
  rw [List.flatMap_append]
theorem mixO_step (ws : List WriteT) (i : Nat) (w : WriteT) (h : ws[i]? = some w) : (encWs (mixO ws i))[i * 2 + 1]? = some (.string w.raw) ∧ (encWs (mixO ws i)).set (i * 2 + 1) (.string (oldW w).raw) = encWs (mixO ws (i + 1)) := by
  have hi := (List.getElem?_eq_some_iff.1 h).1
  have ed : ws.drop i = w :: ws.drop (i + 1) := by
    rw [List.drop_eq_getElem_cons hi]
    rw [List.getElem?_eq_getElem hi] at h
    rw [Option.some.inj h]
  have et : oldF (ws.take (i + 1)) = oldF (ws.take i) ++ [oldW w] := by
    unfold oldF
    rw [List.take_add_one, h, List.map_append]
    rfl
  have hl : (encWs (oldF (ws.take i))).length = i * 2 := by
    rw [encWs_len]
    unfold oldF
    rw [List.length_map, List.length_take, Nat.min_eq_left (by omega)]
  unfold mixO
  rw [ed, et, List.append_assoc, encWs_app, encWs_app]
  have e1 : encWs (w :: ws.drop (i + 1)) = .int .i64 w.at_ :: .string w.raw :: encWs (ws.drop (i + 1)) := rfl
  have e2 : encWs ([oldW w] ++ ws.drop (i + 1)) = .int .i64 w.at_ :: .string (oldW w).raw :: encWs (ws.drop (i + 1)) := rfl
  rw [e1, e2]
  constructor
  · rw [List.getElem?_append_right (by omega), hl, show i * 2 + 1 - i * 2 = 1 by omega]
    rfl
  · rw [List.set_append_right _ _ (by omega), hl, show i * 2 + 1 - i * 2 = 1 by omega]
    rfl
def CutsQ (q : View) (p : Option Addr) (l : List CutT) : Prop := RowQ q p l.length 2 (l.flatMap encCut) ∧ ∀ x ∈ l, CutOk q x
theorem encCut_at (l : List CutT) (i : Nat) (x : CutT) (h : l[i]? = some x) (j : Nat) (hj : j < 2) : (l.flatMap encCut)[i * 2 + j]? = (encCut x)[j]? := by
  induction l generalizing i with
  | nil => cases h
  | cons y l ih =>
    rw [List.flatMap_cons]
    have e5 : (encCut y).length = 2 := rfl
    cases i with
    | zero =>
      obtain rfl := Option.some.inj h
      rw [List.getElem?_append_left (by omega)]; congr 1; omega
    | succ i =>
      rw [List.getElem?_append_right (by omega), e5, show (i + 1) * 2 + j - 2 = i * 2 + j by omega]
      exact ih i h
def zeroCut : CutT := ⟨0, none, 0, []⟩
end Go.Proofs.YtaiocnpecaecdaaGreatDoor.V
namespace Go.Proofs.YtaiocnpecaecdaaGreatDoor.V
open Go.Proofs.YtaiocnpecaecdaaGreatDoor.VL Go.Proofs.YtaiocnpecaecdaaGreatDoor.VL.RD Go.Proofs.YtaiocnpecaecdaaGreatDoor.VL.Sha
attribute [local irreducible] Run numB
theorem commit_id (q : View) (hE : ErrQ q) (v b n m : Nat) (V : VSt) (hs : VOk n V) (hn : n ≤ 900) (x : SuperT) (hx : SuperOk x) (d : PSt) (hw : PW m d) (hm : m < 90000) (wp : Option Addr) (wc : Nat) (l : List WriteT) (hwo : ∀ w ∈ l, WOk w) (hl : l.length ≤ 1000) :
    FnD Tryz.prog q 21 [.pointer (some ⟨b, 0, none⟩), .pointer (some ⟨v, 0, none⟩), .slice wp l.length wc, .agg ⟨encSu x⟩] [plateAt b d, sl wp l.length wc 54 2 (encWs l), vaultAt v V] (.int .i64 (commitM idealP d V l x).1) [plateAt b (commitM idealP d V l x).2.1, sl wp l.length wc 54 2 (encWs l), vaultAt v (commitM idealP d V l x).2.2] :=
  commit_spec hE (idealM q v) (s := V) (n := n) hs hn x hx b m d hw hm wp wc l hwo hl
theorem recover_id (q : View) (hE : ErrQ q) (v b n m : Nat) (V : VSt) (hs : VOk n V) (hn : n ≤ 900) (d : PSt) (hw : PW m d) (hm : m < 60000) :
    FnD Tryz.prog q 20 [.pointer (some ⟨b, 0, none⟩), .pointer (some ⟨v, 0, none⟩)] [plateAt b d, vaultAt v V] (.tuple #[.agg ⟨encSu (recoverM idealP d V).1.1⟩, .int .i64 (recoverM idealP d V).1.2.1, .int .i64 (recoverM idealP d V).1.2.2]) [plateAt b (recoverM idealP d V).2.1, vaultAt v (recoverM idealP d V).2.2] :=
  recover_spec hE (idealM q v) (s := V) (n := n) hs hn b m d hw hm
theorem supL (e : Int) : encSu (supX e) = [.int .i64 7, .int .i64 e, .int .i64 5, .int .i64 48, .string (bytesF 3 32)] := rfl
theorem arm_if (q : View) (b : Nat) (d : PSt) (f : Int) (h : f ≥ 0) : FnD Tryz.prog q 28 [.pointer (some ⟨b, 0, none⟩), .int .i64 f] [plateAt b d] (.int .i64 (armF d f).1) [plateAt b (armD d f)] := by
  have e : armD d f = (armF d f).2 := by unfold armD; rw [if_pos h]
  rw [e]
  exact arm_spec q b d f
theorem arm_not (d : PSt) (f : Int) (h : ¬ f ≥ 0) : armD d f = d := by unfold armD; rw [if_neg h]
theorem encW_get (l : List WriteT) (i : Nat) (w : WriteT) (h : l[i]? = some w) : (encWs l)[i * 2]? = some (.int .i64 w.at_) ∧ (encWs l)[i * 2 + 1]? = some (.string w.raw) := by
  have e := encWs_at l i w h
  have key : ∀ j, j < 2 → (encWs l)[i * 2 + j]? = (encW w)[j]? := by
    intro j hj
    rw [← e, List.getElem?_take, if_pos hj, List.getElem?_drop]
  exact ⟨key 0 (by omega), key 1 (by omega)⟩
set_option maxHeartbeats 16000000 in
theorem jall_spec (q : View) (hE : ErrQ q) (lp : Option Addr) (lc : Nat) (l : List BlockT) (hq : BlksQ q lp l) (hl : l.length ≤ 9223372036854775807) (c : CutT) (hc : CutOk q c) (op : Option Addr) (oc : Nat) (others : List CutT) (ho : CutsQ q op others) (hol : others.length ≤ 9223372036854775807) :
    FnD Tryz.prog q 6 [.slice lp l.length lc, .agg ⟨encCut c⟩, .slice op others.length oc] [] (.bool true) [] := by
  have ca := awake12_spec q hE
  have cw := writes12_spec q lp lc l hq hl
  have hwm := fun (w : WriteT) (hw : w ∈ writesF l) => writesF_mem hq.2 hw
  obtain ⟨ws, hws⟩ : ∃ ws, ws = writesF l := ⟨_, rfl⟩
  rw [← hws] at cw hwm
  have hwl : ws.length ≤ 30 := by rw [hws, writesF_len]; omega
  clear hws
  obtain ⟨D0, c0, ef, hD0, hf0, b00⟩ := fmt_disk
  unfold encCut
  have cs : FnD Tryz.prog q 25 [.int .i64 48] [] (.int .i64 784) [] := sectors12_spec q 48 (by decide) (by decide)
  have ci : FnX Tryz.prog q 19 [] [] (fun v : Nat => .pointer (some ⟨v, 0, none⟩)) fun v => [vaultAt v s00] := ideal_new q
  have ct : FnD Tryz.prog q 27 [.int .u8 9, .int .i64 464] [] (.string (bytesF 9 464)) [] := text12_spec q 9 464 (by decide) (by decide) (by decide)
  have k0 := sup12_spec q 48 0
  have k1 := sup12_spec q 48 1
  have k2 := sup12_spec q 48 2
  rw [show (⟨7, 0, 5, 48, bytesF 3 32⟩ : SuperT) = supX 0 from rfl] at k0
  rw [show (⟨7, 1, 5, 48, bytesF 3 32⟩ : SuperT) = supX 1 from rfl] at k1
  rw [show (⟨7, 2, 5, 48, bytesF 3 32⟩ : SuperT) = supX 2 from rfl] at k2
  have cf : ∀ b v : Nat, FnD Tryz.prog q 23 [.pointer (some ⟨b, 0, none⟩), .pointer (some ⟨v, 0, none⟩), .agg ⟨encSu (supX 0)⟩] [plateAt b (blank 784), vaultAt v s00] (.int .i64 0) [plateAt b D0, vaultAt v V0] := fun b v => by
    have := jformat_spec hE (idealM q v) (s := s00) (n := 0) s00_ok (by decide) (supX 0) (supX_ok 0 (by decide) (by decide)) b 0 (blank 784) (PW.blank 784 (by decide)) (by decide)
    rw [ef] at this
    exact this
  have o0 : VOk 1 V0 := by
    have := format_ok1 (idealM q 0) (s := s00) (n := 0) s00_ok (blank 784) (supX 0)
    rw [ef] at this
    exact this
  have hov : ∀ w ∈ oldF ws, WOk w := by
    intro w hw
    unfold oldF at hw
    obtain ⟨u, hu, rfl⟩ := List.mem_map.1 hw
    have h1 := hwm u hu
    have h2 := oldW_size u h1.2
    exact ⟨h1.1.a0, h1.1.a1, by omega⟩
  have hol2 : (oldF ws).length = ws.length := by unfold oldF; rw [List.length_map]
  have co : ∀ (b v : Nat) (wp : Option Addr) (wc : Nat), FnD Tryz.prog q 21 [.pointer (some ⟨b, 0, none⟩), .pointer (some ⟨v, 0, none⟩), .slice wp ws.length wc, .agg ⟨encSu (supX 1)⟩] [plateAt b D0, sl wp ws.length wc 54 2 (encWs (oldF ws)), vaultAt v V0] (.int .i64 (commitM idealP D0 V0 (oldF ws) (supX 1)).1) [plateAt b (commitM idealP D0 V0 (oldF ws) (supX 1)).2.1, sl wp ws.length wc 54 2 (encWs (oldF ws)), vaultAt v (commitM idealP D0 V0 (oldF ws) (supX 1)).2.2] := fun b v wp wc => by
    have := commit_spec hE (idealM q v) (s := V0) (n := 1) o0 (by decide) (supX 1) (supX_ok 1 (by decide) (by decide)) b 24 D0 hD0.pw (by decide) wp wc (oldF ws) hov (by omega)
    rw [hol2] at this
    exact this
  have h0 := supL 0
  have h1 := supL 1
  have h2 := supL 2
  rw [h0] at k0 cf
  rw [h1] at k1 co
  rw [h2] at k2
  have he48 : ∀ w : WriteT, (oldW w).raw = w.raw.extract (0 : Int).toNat (48 : Int).toNat ++ bytesF 9 464 := fun w => rfl
  have hT9 := bytesF_size 9 464
  obtain ⟨T9, hT⟩ : ∃ T9, T9 = bytesF 9 464 := ⟨_, rfl⟩
  rw [← hT] at ct he48 hT9
  obtain ⟨T3, hT3⟩ : ∃ T3, T3 = bytesF 3 32 := ⟨_, rfl⟩
  rw [← hT3] at k0 cf k1 co k2
  (first | refine FnD.go Tryz.call6 Tryz.func6 rfl rfl rfl ?_ | refine FnX.go Tryz.call6 Tryz.func6 rfl rfl rfl ?_)
  (repeat (first | refine g ?_ | refine s_flat 31 [(.pure, [1, 2, 3, 4]), (.mem true, [0, 5]), (.mem false, [6]), (.pure, [7, 8, 9, 10, 11])] ?_))
  refine s_box fun r4 => ?_
  (repeat (first | refine g ?_ | refine s_flat 31 [(.pure, [1, 2, 3, 4]), (.mem true, [0, 5]), (.mem false, [6]), (.pure, [7, 8, 9, 10, 11])] ?_))
  refine s_call cs ?_
  (repeat (first | refine g ?_ | refine s_flat 31 [(.pure, [1, 2, 3, 4]), (.mem true, [0, 5]), (.mem false, [6]), (.pure, [7, 8, 9, 10, 11])] ?_))
  refine s_callx (new_spec q 784 (by decide)) fun b => ?_
  (repeat (first | refine g ?_ | refine s_flat 31 [(.pure, [1, 2, 3, 4]), (.mem true, [0, 5]), (.mem false, [6]), (.pure, [7, 8, 9, 10, 11])] ?_))
  refine s_callx ci fun v => ?_
  (repeat (first | refine g ?_ | refine s_flat 31 [(.pure, [1, 2, 3, 4]), (.mem true, [0, 5]), (.mem false, [6]), (.pure, [7, 8, 9, 10, 11])] ?_))
  refine s_callx cw fun r => ?_
  obtain ⟨wp, wc⟩ := r
  dsimp only
  (repeat (first | refine g ?_ | refine s_flat 31 [(.pure, [1, 2, 3, 4]), (.mem true, [0, 5]), (.mem false, [6]), (.pure, [7, 8, 9, 10, 11])] ?_))
  refine run_cutI (X := Unit) (fun _ => True) (fun _ => [(0, .slice lp l.length lc), (2, .slice op others.length oc), (4, .pointer (some ⟨r4, 0, none⟩)), (7, .pointer (some ⟨b, 0, none⟩)), (9, .pointer (some ⟨v, 0, none⟩)), (10, .slice wp ws.length wc)]) (fun _ => [cells r4 48 ⟨[.int .i64 c.fuse, .slice c.kp c.keep.length c.kc]⟩, plateAt b (blank 784), vaultAt v s00, sl wp ws.length wc 54 2 (encWs (oldF ws))]) ?_ fun _ _ => ?_
  · refine run_loopI (X := Nat) (fun i => i ≤ ws.length) (fun i => [(0, .slice lp l.length lc), (2, .slice op others.length oc), (4, .pointer (some ⟨r4, 0, none⟩)), (7, .pointer (some ⟨b, 0, none⟩)), (9, .pointer (some ⟨v, 0, none⟩)), (10, .slice wp ws.length wc), (11, .int .i64 (i : Int))])
      (fun i => [cells r4 48 ⟨[.int .i64 c.fuse, .slice c.kp c.keep.length c.kc]⟩, plateAt b (blank 784), vaultAt v s00, sl wp ws.length wc 54 2 (encWs (mixO ws i))]) (fun i => ws.length - i) 0 (Nat.zero_le _) fct ?_ ?_
    · rw [mixO_zero]
      exact shut
    intro i hi
    by_cases h1 : i < ws.length
    · obtain ⟨w, hx⟩ : ∃ x, ws[i]? = some x := ⟨_, List.getElem?_eq_getElem h1⟩
      have hst := mixO_step ws i w hx
      have hz := (hwm w (List.mem_of_getElem? hx)).2
      rw [he48] at hst
      have hze : (w.raw.extract (0 : Int).toNat (48 : Int).toNat).size ≤ 48 := by rw [ByteArray.size_extract]; show min 48 w.raw.size - 0 ≤ 48; omega
      refine s_ptr wp (h0 := by omega) (fun bc ep _ _ => ?_)
      subst ep
      (repeat (first | refine g ?_ | refine s_flat 31 [(.pure, [1, 2, 3, 4]), (.mem true, [0, 5]), (.mem false, [6]), (.pure, [7, 8, 9, 10, 11])] ?_))
      refine d_start [sl (some ⟨bc, 0, none⟩) ws.length wc 54 2 (encWs (mixO ws i))] ?_
      (first | refine d_pure 0 ?_ | refine d_load 0 ?_ | refine d_arith 0 ?_ | refine d_rem 0 ?_ | refine d_quo 0 ?_ | refine d_shrv 0 ?_ | refine d_fieldat 0 ?_ | refine d_idx1 0 ?_ | refine d_index 0 ?_ | refine d_conv64 0 ?_ | refine d_slices 0 ?_ | refine d_concat 0 ?_ | refine d_build 0 ?_)
      (first | refine d_pure 1 ?_ | refine d_load 1 ?_ | refine d_arith 1 ?_ | refine d_rem 1 ?_ | refine d_quo 1 ?_ | refine d_shrv 1 ?_ | refine d_fieldat 1 ?_ | refine d_idx1 1 ?_ | refine d_index 1 ?_ | refine d_conv64 1 ?_ | refine d_slices 1 ?_ | refine d_concat 1 ?_ | refine d_build 1 ?_)
      (first | refine d_pure 2 ?_ | refine d_load 2 ?_ | refine d_arith 2 ?_ | refine d_rem 2 ?_ | refine d_quo 2 ?_ | refine d_shrv 2 ?_ | refine d_fieldat 2 ?_ | refine d_idx1 2 ?_ | refine d_index 2 ?_ | refine d_conv64 2 ?_ | refine d_slices 2 ?_ | refine d_concat 2 ?_ | refine d_build 2 ?_)
      (first | refine d_pure 3 ?_ | refine d_load 3 ?_ | refine d_arith 3 ?_ | refine d_rem 3 ?_ | refine d_quo 3 ?_ | refine d_shrv 3 ?_ | refine d_fieldat 3 ?_ | refine d_idx1 3 ?_ | refine d_index 3 ?_ | refine d_conv64 3 ?_ | refine d_slices 3 ?_ | refine d_concat 3 ?_ | refine d_build 3 ?_)
      refine d_idxo 4 (kk := 2) (i * 2) ?_
      (first | refine d_pure 5 ?_ | refine d_load 5 ?_ | refine d_arith 5 ?_ | refine d_rem 5 ?_ | refine d_quo 5 ?_ | refine d_shrv 5 ?_ | refine d_fieldat 5 ?_ | refine d_idx1 5 ?_ | refine d_index 5 ?_ | refine d_conv64 5 ?_ | refine d_slices 5 ?_ | refine d_concat 5 ?_ | refine d_build 5 ?_)
      refine d_two 6 8 ?_ ?_
      · refine d_ovia1 6 (h1 := by refine s_loadsl hst.1 ?_; exact run_fin1) (h := ?_)
        (first | refine d_pure 7 ?_ | refine d_load 7 ?_ | refine d_arith 7 ?_ | refine d_rem 7 ?_ | refine d_quo 7 ?_ | refine d_shrv 7 ?_ | refine d_fieldat 7 ?_ | refine d_idx1 7 ?_ | refine d_index 7 ?_ | refine d_conv64 7 ?_ | refine d_slices 7 ?_ | refine d_concat 7 ?_ | refine d_build 7 ?_)
        refine d_via1 8 (h1 := by refine s_call ct ?_; exact run_fin1) (h := ?_)
        (first | refine d_pure 9 ?_ | refine d_load 9 ?_ | refine d_arith 9 ?_ | refine d_rem 9 ?_ | refine d_quo 9 ?_ | refine d_shrv 9 ?_ | refine d_fieldat 9 ?_ | refine d_idx1 9 ?_ | refine d_index 9 ?_ | refine d_conv64 9 ?_ | refine d_slices 9 ?_ | refine d_concat 9 ?_ | refine d_build 9 ?_)
        refine d_idxo 10 (kk := 2) (i * 2) ?_
        (first | refine d_pure 11 ?_ | refine d_load 11 ?_ | refine d_arith 11 ?_ | refine d_rem 11 ?_ | refine d_quo 11 ?_ | refine d_shrv 11 ?_ | refine d_fieldat 11 ?_ | refine d_idx1 11 ?_ | refine d_index 11 ?_ | refine d_conv64 11 ?_ | refine d_slices 11 ?_ | refine d_concat 11 ?_ | refine d_build 11 ?_)
        refine d_via1 12 (h1 := by refine s_storesl ?_; exact run_fin1) (h := ?_)
        refine d_done ?_
        (repeat (first | refine g ?_ | refine s_flat 31 [(.pure, [1, 2, 3, 4]), (.mem true, [0, 5]), (.mem false, [6]), (.pure, [7, 8, 9, 10, 11])] ?_))
        refine run_stop_loop (i + 1) ⟨h1, by omega⟩ fct ?_
        rw [← hst.2]
        exact shut
      · refine d_ovia1 8 (h1 := by refine s_call ct ?_; exact run_fin1) (h := ?_)
        refine d_via1 6 (h1 := by refine s_loadsl hst.1 ?_; exact run_fin1) (h := ?_)
        (first | refine d_pure 7 ?_ | refine d_load 7 ?_ | refine d_arith 7 ?_ | refine d_rem 7 ?_ | refine d_quo 7 ?_ | refine d_shrv 7 ?_ | refine d_fieldat 7 ?_ | refine d_idx1 7 ?_ | refine d_index 7 ?_ | refine d_conv64 7 ?_ | refine d_slices 7 ?_ | refine d_concat 7 ?_ | refine d_build 7 ?_)
        (first | refine d_pure 9 ?_ | refine d_load 9 ?_ | refine d_arith 9 ?_ | refine d_rem 9 ?_ | refine d_quo 9 ?_ | refine d_shrv 9 ?_ | refine d_fieldat 9 ?_ | refine d_idx1 9 ?_ | refine d_index 9 ?_ | refine d_conv64 9 ?_ | refine d_slices 9 ?_ | refine d_concat 9 ?_ | refine d_build 9 ?_)
        refine d_idxo 10 (kk := 2) (i * 2) ?_
        (first | refine d_pure 11 ?_ | refine d_load 11 ?_ | refine d_arith 11 ?_ | refine d_rem 11 ?_ | refine d_quo 11 ?_ | refine d_shrv 11 ?_ | refine d_fieldat 11 ?_ | refine d_idx1 11 ?_ | refine d_index 11 ?_ | refine d_conv64 11 ?_ | refine d_slices 11 ?_ | refine d_concat 11 ?_ | refine d_build 11 ?_)
        refine d_via1 12 (h1 := by refine s_storesl ?_; exact run_fin1) (h := ?_)
        refine d_done ?_
        (repeat (first | refine g ?_ | refine s_flat 31 [(.pure, [1, 2, 3, 4]), (.mem true, [0, 5]), (.mem false, [6]), (.pure, [7, 8, 9, 10, 11])] ?_))
        refine run_stop_loop (i + 1) ⟨h1, by omega⟩ fct ?_
        rw [← hst.2]
        exact shut
    · obtain rfl : i = ws.length := by omega
      rw [mixO_all]
      (repeat (first | refine g ?_ | refine s_flat 31 [(.pure, [1, 2, 3, 4]), (.mem true, [0, 5]), (.mem false, [6]), (.pure, [7, 8, 9, 10, 11])] ?_))
      exact run_stop_loop () trivial fct shut
  (repeat (first | refine g ?_ | refine s_flat 31 [(.pure, [1, 2, 3, 4]), (.mem true, [0, 5]), (.mem false, [6]), (.pure, [7, 8, 9, 10, 11])] ?_))
  refine s_call k0 ?_
  (repeat (first | refine g ?_ | refine s_flat 31 [(.pure, [1, 2, 3, 4]), (.mem true, [0, 5]), (.mem false, [6]), (.pure, [7, 8, 9, 10, 11])] ?_))
  refine s_call (cf b v) ?_
  (repeat (first | refine g ?_ | refine s_flat 31 [(.pure, [1, 2, 3, 4]), (.mem true, [0, 5]), (.mem false, [6]), (.pure, [7, 8, 9, 10, 11])] ?_))
  refine s_call k1 ?_
  (repeat (first | refine g ?_ | refine s_flat 31 [(.pure, [1, 2, 3, 4]), (.mem true, [0, 5]), (.mem false, [6]), (.pure, [7, 8, 9, 10, 11])] ?_))
  have co := co b v wp wc
  have cold := commit_old hD0 hf0 b00 (oldF ws)
  have hok1 := commit_ok1 (idealM q v) (s := V0) (n := 1) o0 D0 (oldF ws) (supX 1)
  generalize commitM idealP D0 V0 (oldF ws) (supX 1) = CR at *
  obtain ⟨e1, d1', W1'⟩ := CR
  dsimp only at co cold hok1
  by_cases hz1 : e1 ≠ 0
  · refine s_call co ?_
    (repeat (first | refine g ?_ | refine s_flat 31 [(.pure, [1, 2, 3, 4]), (.mem true, [0, 5]), (.mem false, [6]), (.pure, [7, 8, 9, 10, 11])] ?_))
    refine s_call ca ?_
    (repeat (first | refine g ?_ | refine s_flat 31 [(.pure, [1, 2, 3, 4]), (.mem true, [0, 5]), (.mem false, [6]), (.pure, [7, 8, 9, 10, 11])] ?_))
    exact run_ret rfl (imp_RD rfl shut)
  have hz1 : e1 = 0 := Decidable.not_not.1 hz1
  subst hz1
  obtain ⟨lo, mo, d1, c1, ec, hD1, hf1, hF⟩ := cold rfl
  obtain ⟨rfl, rfl⟩ : d1' = d1 ∧ W1' = V1 (oldF ws) := ⟨(Prod.mk.inj (Prod.mk.inj ec).2).1, (Prod.mk.inj (Prod.mk.inj ec).2).2⟩
  have hB := both_two ws (fun w hw => (hwm w hw).2) lo mo
  refine s_call co ?_
  (repeat (first | refine g ?_ | refine s_flat 31 [(.pure, [1, 2, 3, 4]), (.mem true, [0, 5]), (.mem false, [6]), (.pure, [7, 8, 9, 10, 11])] ?_))
  refine run_cuti (X := Unit) (fun _ => True) (fun _ => [(0, .slice lp l.length lc), (2, .slice op others.length oc), (4, .pointer (some ⟨r4, 0, none⟩)), (7, .pointer (some ⟨b, 0, none⟩)), (9, .pointer (some ⟨v, 0, none⟩)), (10, .slice wp ws.length wc)]) (fun _ => [cells r4 48 ⟨[.int .i64 c.fuse, .slice c.kp c.keep.length c.kc]⟩, plateAt b (armD d1' c.fuse), vaultAt v (V1 (oldF ws)), sl wp ws.length wc 54 2 (encWs (oldF ws))]) ?_ fun _ _ => ?_
  · refine run_cond_dec rfl ?_ ?_
    · intro h
      (repeat (first | refine g ?_ | refine s_flat 31 [(.pure, [1, 2, 3, 4]), (.mem true, [0, 5]), (.mem false, [6]), (.pure, [7, 8, 9, 10, 11])] ?_))
      refine s_call (arm_if q b d1' c.fuse h) ?_
      (repeat (first | refine g ?_ | refine s_flat 31 [(.pure, [1, 2, 3, 4]), (.mem true, [0, 5]), (.mem false, [6]), (.pure, [7, 8, 9, 10, 11])] ?_))
      exact run_stop_loop () trivial fct shut
    · intro h
      rw [arm_not d1' c.fuse h]
      (repeat (first | refine g ?_ | refine s_flat 31 [(.pure, [1, 2, 3, 4]), (.mem true, [0, 5]), (.mem false, [6]), (.pure, [7, 8, 9, 10, 11])] ?_))
      exact run_stop_loop () trivial fct shut
  have hD2 := hD1.armD c.fuse hc.f1
  obtain ⟨e2, d2, ecn, hmid⟩ := mid_first hB hD2 (by decide) hF
  have cn := fun up uc => commit_id q hE v b 4 500 (V1 (oldF ws)) hok1 (by decide) (supX 2) (supX_ok 2 (by decide) (by decide)) (armD d1' c.fuse) hD2.pw (by decide) up uc ws (fun w hw => (hwm w hw).1) (by omega)
  have hp2 := (commit_pw idealP hD2.pw (by decide) (V1 (oldF ws)) ws (supX 2)).1
  have hok2 := commit_ok1 (idealM q v) (s := V1 (oldF ws)) (n := 4) hok1 (armD d1' c.fuse) ws (supX 2)
  rw [ecn] at cn hp2 hok2
  rw [h2, ← hT3] at cn
  dsimp only at cn hp2 hok2
  (repeat (first | refine g ?_ | refine s_flat 31 [(.pure, [1, 2, 3, 4]), (.mem true, [0, 5]), (.mem false, [6]), (.pure, [7, 8, 9, 10, 11])] ?_))
  refine s_callx cw fun r2 => ?_
  obtain ⟨up, uc⟩ := r2
  dsimp only
  (repeat (first | refine g ?_ | refine s_flat 31 [(.pure, [1, 2, 3, 4]), (.mem true, [0, 5]), (.mem false, [6]), (.pure, [7, 8, 9, 10, 11])] ?_))
  refine s_call k2 ?_
  (repeat (first | refine g ?_ | refine s_flat 31 [(.pure, [1, 2, 3, 4]), (.mem true, [0, 5]), (.mem false, [6]), (.pure, [7, 8, 9, 10, 11])] ?_))
  refine s_call (cn up uc) ?_
  (repeat (first | refine g ?_ | refine s_flat 31 [(.pure, [1, 2, 3, 4]), (.mem true, [0, 5]), (.mem false, [6]), (.pure, [7, 8, 9, 10, 11])] ?_))
  refine s_call (start_spec q b d2 hp2.wf c.kp c.kc c.keep hc.kq) ?_
  (repeat (first | refine g ?_ | refine s_flat 31 [(.pure, [1, 2, 3, 4]), (.mem true, [0, 5]), (.mem false, [6]), (.pure, [7, 8, 9, 10, 11])] ?_))
  have hm := hmid c.keep
  generalize decide (e2 = 0) = dn at *
  refine run_cutI (X := PSt × VSt × Nat) (fun x => Mid (oldF ws) ws dn x.2.2 x.1 x.2.1 ∧ x.2.2 ≤ 20000 ∧ VOk 100 x.2.1) (fun _ => [(0, .slice lp l.length lc), (2, .slice op others.length oc), (4, .pointer (some ⟨r4, 0, none⟩)), (7, .pointer (some ⟨b, 0, none⟩)), (9, .pointer (some ⟨v, 0, none⟩)), (10, .slice wp ws.length wc), (12, .bool dn)]) (fun x => [plateAt b x.1, vaultAt v x.2.1, sl wp ws.length wc 54 2 (encWs (oldF ws))]) ?_ fun ⟨d3, W3, n3⟩ ⟨hM3, hn3, hO3⟩ => ?_
  · refine run_loopI (X := Nat × PSt × VSt) (fun x => (x.1 ≤ others.length ∧ x.1 ≤ 6) ∧ Mid (oldF ws) ws dn (1500 + 2000 * x.1) x.2.1 x.2.2 ∧ VOk (10 + 2 * x.1) x.2.2) (fun x => [(0, .slice lp l.length lc), (2, .slice op others.length oc), (4, .pointer (some ⟨r4, 0, none⟩)), (7, .pointer (some ⟨b, 0, none⟩)), (9, .pointer (some ⟨v, 0, none⟩)), (10, .slice wp ws.length wc), (12, .bool dn), (13, .int .i64 (x.1 : Int))])
      (fun x => [plateAt b x.2.1, vaultAt v x.2.2, sl wp ws.length wc 54 2 (encWs (oldF ws))]) (fun x => 6 - x.1) (0, startF d2 c.keep, V2 (oldF ws) ws) ⟨⟨Nat.zero_le _, by show 0 ≤ 6; decide⟩, hm, hok2.mono (by omega)⟩ fct shut ?_
    intro ⟨i, d3, W3⟩ ⟨⟨hi, hi6⟩, hM, hO⟩
    dsimp only at hi hi6 hM hO ⊢
    by_cases h1 : i < others.length
    · by_cases h2 : i < 6
      · obtain ⟨x, hx⟩ : ∃ x, others[i]? = some x := ⟨_, List.getElem?_eq_getElem h1⟩
        have hxo := ho.2 x (List.mem_of_getElem? hx)
        obtain ⟨bs, os, ep, hold⟩ := ho.1.old (by omega)
        subst ep
        have g0 := encCut_at others i x hx 0 (by omega)
        have g1 := encCut_at others i x hx 1 (by omega)
        rw [show (encCut x)[0]? = some (.int .i64 x.fuse) from rfl] at g0
        rw [show (encCut x)[1]? = some (.slice x.kp x.keep.length x.kc) from rfl] at g1
        have hst := hM.step hB (by omega) x.fuse hxo.f1 x.keep
        rw [show 1500 + 2000 * i + 2000 = 1500 + 2000 * (i + 1) by omega] at hst
        obtain ⟨cc, hdk, _⟩ := hM.dk
        have hda := hdk.armD x.fuse hxo.f1
        have hrp := (recover_pw idealP hda.pw hda.sec (by omega) W3).1
        have hro := recover_ok1 (idealM q v) (s := W3) (n := 10 + 2 * i) hO (armD d3 x.fuse)
        have crc := recover_id q hE v b (10 + 2 * i) (1500 + 2000 * i) W3 hO (by omega) (armD d3 x.fuse) hda.pw (by omega)
        generalize recoverM idealP (armD d3 x.fuse) W3 = RR at *
        obtain ⟨⟨⟨y1, y2, y3, y4, y5⟩, y6, y7⟩, d4, W4⟩ := RR
        unfold encSu at crc
        dsimp only at crc hst hrp hro
        (repeat (first | refine g ?_ | refine s_flat 31 [(.pure, [1, 2, 3, 4]), (.mem true, [0, 5]), (.mem false, [6]), (.pure, [7, 8, 9, 10, 11])] ?_))
        refine s_idxo (kk := 2) (os + i * 2) ?_
        (repeat (first | refine g ?_ | refine s_flat 31 [(.pure, [1, 2, 3, 4]), (.mem true, [0, 5]), (.mem false, [6]), (.pure, [7, 8, 9, 10, 11])] ?_))
        refine s_loado (j := i * 2) hold g0 ?_
        (repeat (first | refine g ?_ | refine s_flat 31 [(.pure, [1, 2, 3, 4]), (.mem true, [0, 5]), (.mem false, [6]), (.pure, [7, 8, 9, 10, 11])] ?_))
        refine run_cuti (X := Unit) (fun _ => True) (fun _ => [(0, .slice lp l.length lc), (2, .slice (some ⟨bs, os, none⟩) others.length oc), (4, .pointer (some ⟨r4, 0, none⟩)), (7, .pointer (some ⟨b, 0, none⟩)), (9, .pointer (some ⟨v, 0, none⟩)), (10, .slice wp ws.length wc), (12, .bool dn), (13, .int .i64 (i : Int))]) (fun _ => [plateAt b (armD d3 x.fuse), vaultAt v W3, sl wp ws.length wc 54 2 (encWs (oldF ws))]) ?_ fun _ _ => ?_
        · refine run_cond_dec rfl ?_ ?_
          · intro h
            (repeat (first | refine g ?_ | refine s_flat 31 [(.pure, [1, 2, 3, 4]), (.mem true, [0, 5]), (.mem false, [6]), (.pure, [7, 8, 9, 10, 11])] ?_))
            refine s_idxo (kk := 2) (os + i * 2) ?_
            (repeat (first | refine g ?_ | refine s_flat 31 [(.pure, [1, 2, 3, 4]), (.mem true, [0, 5]), (.mem false, [6]), (.pure, [7, 8, 9, 10, 11])] ?_))
            refine s_loado (j := i * 2) hold g0 ?_
            (repeat (first | refine g ?_ | refine s_flat 31 [(.pure, [1, 2, 3, 4]), (.mem true, [0, 5]), (.mem false, [6]), (.pure, [7, 8, 9, 10, 11])] ?_))
            refine s_call (arm_if q b d3 x.fuse h) ?_
            (repeat (first | refine g ?_ | refine s_flat 31 [(.pure, [1, 2, 3, 4]), (.mem true, [0, 5]), (.mem false, [6]), (.pure, [7, 8, 9, 10, 11])] ?_))
            exact run_stop_loop () trivial fct shut
          · intro h
            rw [arm_not d3 x.fuse h]
            (repeat (first | refine g ?_ | refine s_flat 31 [(.pure, [1, 2, 3, 4]), (.mem true, [0, 5]), (.mem false, [6]), (.pure, [7, 8, 9, 10, 11])] ?_))
            exact run_stop_loop () trivial fct shut
        (repeat (first | refine g ?_ | refine s_flat 31 [(.pure, [1, 2, 3, 4]), (.mem true, [0, 5]), (.mem false, [6]), (.pure, [7, 8, 9, 10, 11])] ?_))
        refine s_call crc ?_
        (repeat (first | refine g ?_ | refine s_flat 31 [(.pure, [1, 2, 3, 4]), (.mem true, [0, 5]), (.mem false, [6]), (.pure, [7, 8, 9, 10, 11])] ?_))
        refine s_idxo (kk := 2) (os + i * 2) ?_
        (repeat (first | refine g ?_ | refine s_flat 31 [(.pure, [1, 2, 3, 4]), (.mem true, [0, 5]), (.mem false, [6]), (.pure, [7, 8, 9, 10, 11])] ?_))
        refine s_loado (j := i * 2 + 1) hold g1 ?_
        (repeat (first | refine g ?_ | refine s_flat 31 [(.pure, [1, 2, 3, 4]), (.mem true, [0, 5]), (.mem false, [6]), (.pure, [7, 8, 9, 10, 11])] ?_))
        refine s_call (start_spec q b d4 hrp.wf x.kp x.kc x.keep hxo.kq) ?_
        (repeat (first | refine g ?_ | refine s_flat 31 [(.pure, [1, 2, 3, 4]), (.mem true, [0, 5]), (.mem false, [6]), (.pure, [7, 8, 9, 10, 11])] ?_))
        exact run_stop_loop (i + 1, startF d4 x.keep, W4) ⟨⟨⟨by dsimp only; omega, by dsimp only; omega⟩, hst, hro.mono (by dsimp only; omega)⟩, by dsimp only; omega⟩ fct shut
      · (repeat (first | refine g ?_ | refine s_flat 31 [(.pure, [1, 2, 3, 4]), (.mem true, [0, 5]), (.mem false, [6]), (.pure, [7, 8, 9, 10, 11])] ?_))
        exact run_stop_loop (d3, W3, 1500 + 2000 * i) ⟨hM, by dsimp only; omega, hO.mono (by omega)⟩ fct shut
    · (repeat (first | refine g ?_ | refine s_flat 31 [(.pure, [1, 2, 3, 4]), (.mem true, [0, 5]), (.mem false, [6]), (.pure, [7, 8, 9, 10, 11])] ?_))
      exact run_stop_loop (d3, W3, 1500 + 2000 * i) ⟨hM, by dsimp only; omega, hO.mono (by omega)⟩ fct shut
  dsimp only at hM3 hn3 hO3 ⊢
  obtain ⟨e', k', d4, W4, er, hlast⟩ := hM3.last hB (by omega)
  obtain ⟨cc, hdk, _⟩ := hM3.dk
  have hrp := recover_pw idealP hdk.pw hdk.sec (by omega) W3
  have crc := recover_id q hE v b 100 n3 W3 hO3 (by decide) d3 hdk.pw (by omega)
  rw [er] at hrp crc
  dsimp only at hrp crc
  rw [supL e', ← hT3] at crc
  have cal := ball_spec q hE b d4 (n3 + 1100) hrp.1 (by omega)
  rw [show (d4.sectors / 8).toNat = blocksN d4 from rfl] at cal
  have hN1 := rawsL_len d4 (blocksN d4)
  have hN2 := masksL_len d4 (blocksN d4)
  have hNN : blocksN d4 = 98 := by unfold blocksN; rw [hrp.2]; rfl
  have hlr : (rawsL d4 (blocksN d4)).length ≤ 1000000 := by omega
  have hlm : (masksL d4 (blocksN d4)).length ≤ 9223372036854775807 := by omega
  generalize rawsL d4 (blocksN d4) = raws at *
  generalize masksL d4 (blocksN d4) = masks at *
  generalize blocksN d4 = N at *
  rcases hlast with ⟨rfl, hdn, hat⟩ | ⟨rfl, hat⟩
  · subst hdn
    have kx := su_lits 3 (supX 1) (supX_ok 1 (by decide) (by decide))
    rw [h1, ← hT3] at kx
    (repeat (first | refine g ?_ | refine s_flat 31 [(.pure, [1, 2, 3, 4]), (.mem true, [0, 5]), (.mem false, [6]), (.pure, [7, 8, 9, 10, 11])] ?_))
    refine s_call crc ?_
    (repeat (first | refine g ?_ | refine s_flat 31 [(.pure, [1, 2, 3, 4]), (.mem true, [0, 5]), (.mem false, [6]), (.pure, [7, 8, 9, 10, 11])] ?_))
    refine s_alloc fun r14 => ?_
    (repeat (first | refine g ?_ | refine s_flat 31 [(.pure, [1, 2, 3, 4]), (.mem true, [0, 5]), (.mem false, [6]), (.pure, [7, 8, 9, 10, 11])] ?_))
    refine d_start [] ?_
    (first | refine d_pure 0 ?_ | refine d_load 0 ?_ | refine d_arith 0 ?_ | refine d_rem 0 ?_ | refine d_quo 0 ?_ | refine d_shrv 0 ?_ | refine d_fieldat 0 ?_ | refine d_idx1 0 ?_ | refine d_index 0 ?_ | refine d_conv64 0 ?_ | refine d_slices 0 ?_ | refine d_concat 0 ?_ | refine d_build 0 ?_)
    (first | refine d_pure 1 ?_ | refine d_load 1 ?_ | refine d_arith 1 ?_ | refine d_rem 1 ?_ | refine d_quo 1 ?_ | refine d_shrv 1 ?_ | refine d_fieldat 1 ?_ | refine d_idx1 1 ?_ | refine d_index 1 ?_ | refine d_conv64 1 ?_ | refine d_slices 1 ?_ | refine d_concat 1 ?_ | refine d_build 1 ?_)
    (first | refine d_pure 2 ?_ | refine d_load 2 ?_ | refine d_arith 2 ?_ | refine d_rem 2 ?_ | refine d_quo 2 ?_ | refine d_shrv 2 ?_ | refine d_fieldat 2 ?_ | refine d_idx1 2 ?_ | refine d_index 2 ?_ | refine d_conv64 2 ?_ | refine d_slices 2 ?_ | refine d_concat 2 ?_ | refine d_build 2 ?_)
    refine d_getall 3 rfl ?_
    (first | refine d_pure 4 ?_ | refine d_load 4 ?_ | refine d_arith 4 ?_ | refine d_rem 4 ?_ | refine d_quo 4 ?_ | refine d_shrv 4 ?_ | refine d_fieldat 4 ?_ | refine d_idx1 4 ?_ | refine d_index 4 ?_ | refine d_conv64 4 ?_ | refine d_slices 4 ?_ | refine d_concat 4 ?_ | refine d_build 4 ?_)
    (first | refine d_pure 5 ?_ | refine d_load 5 ?_ | refine d_arith 5 ?_ | refine d_rem 5 ?_ | refine d_quo 5 ?_ | refine d_shrv 5 ?_ | refine d_fieldat 5 ?_ | refine d_idx1 5 ?_ | refine d_index 5 ?_ | refine d_conv64 5 ?_ | refine d_slices 5 ?_ | refine d_concat 5 ?_ | refine d_build 5 ?_)
    refine d_call 6 k1 ?_
    refine d_via1 7 (h1 := by refine s_nek 6 5 true (la := litsSu (supX 1)) (lb := litsSu (supX 1)) (by simp) ?_ (ka := kx) (kb := kx); exact run_fin1) (h := ?_)
    (first | refine d_pure 8 ?_ | refine d_load 8 ?_ | refine d_arith 8 ?_ | refine d_rem 8 ?_ | refine d_quo 8 ?_ | refine d_shrv 8 ?_ | refine d_fieldat 8 ?_ | refine d_idx1 8 ?_ | refine d_index 8 ?_ | refine d_conv64 8 ?_ | refine d_slices 8 ?_ | refine d_concat 8 ?_ | refine d_build 8 ?_)
    (first | refine d_pure 9 ?_ | refine d_load 9 ?_ | refine d_arith 9 ?_ | refine d_rem 9 ?_ | refine d_quo 9 ?_ | refine d_shrv 9 ?_ | refine d_fieldat 9 ?_ | refine d_idx1 9 ?_ | refine d_index 9 ?_ | refine d_conv64 9 ?_ | refine d_slices 9 ?_ | refine d_concat 9 ?_ | refine d_build 9 ?_)
    (first | refine d_pure 10 ?_ | refine d_load 10 ?_ | refine d_arith 10 ?_ | refine d_rem 10 ?_ | refine d_quo 10 ?_ | refine d_shrv 10 ?_ | refine d_fieldat 10 ?_ | refine d_idx1 10 ?_ | refine d_index 10 ?_ | refine d_conv64 10 ?_ | refine d_slices 10 ?_ | refine d_concat 10 ?_ | refine d_build 10 ?_)
    (first | refine d_pure 11 ?_ | refine d_load 11 ?_ | refine d_arith 11 ?_ | refine d_rem 11 ?_ | refine d_quo 11 ?_ | refine d_shrv 11 ?_ | refine d_fieldat 11 ?_ | refine d_idx1 11 ?_ | refine d_index 11 ?_ | refine d_conv64 11 ?_ | refine d_slices 11 ?_ | refine d_concat 11 ?_ | refine d_build 11 ?_)
    (first | refine d_pure 12 ?_ | refine d_load 12 ?_ | refine d_arith 12 ?_ | refine d_rem 12 ?_ | refine d_quo 12 ?_ | refine d_shrv 12 ?_ | refine d_fieldat 12 ?_ | refine d_idx1 12 ?_ | refine d_index 12 ?_ | refine d_conv64 12 ?_ | refine d_slices 12 ?_ | refine d_concat 12 ?_ | refine d_build 12 ?_)
    (first | refine d_pure 13 ?_ | refine d_load 13 ?_ | refine d_arith 13 ?_ | refine d_rem 13 ?_ | refine d_quo 13 ?_ | refine d_shrv 13 ?_ | refine d_fieldat 13 ?_ | refine d_idx1 13 ?_ | refine d_index 13 ?_ | refine d_conv64 13 ?_ | refine d_slices 13 ?_ | refine d_concat 13 ?_ | refine d_build 13 ?_)
    (first | refine d_pure 14 ?_ | refine d_load 14 ?_ | refine d_arith 14 ?_ | refine d_rem 14 ?_ | refine d_quo 14 ?_ | refine d_shrv 14 ?_ | refine d_fieldat 14 ?_ | refine d_idx1 14 ?_ | refine d_index 14 ?_ | refine d_conv64 14 ?_ | refine d_slices 14 ?_ | refine d_concat 14 ?_ | refine d_build 14 ?_)
    (first | refine d_pure 15 ?_ | refine d_load 15 ?_ | refine d_arith 15 ?_ | refine d_rem 15 ?_ | refine d_quo 15 ?_ | refine d_shrv 15 ?_ | refine d_fieldat 15 ?_ | refine d_idx1 15 ?_ | refine d_index 15 ?_ | refine d_conv64 15 ?_ | refine d_slices 15 ?_ | refine d_concat 15 ?_ | refine d_build 15 ?_)
    (first | refine d_pure 16 ?_ | refine d_load 16 ?_ | refine d_arith 16 ?_ | refine d_rem 16 ?_ | refine d_quo 16 ?_ | refine d_shrv 16 ?_ | refine d_fieldat 16 ?_ | refine d_idx1 16 ?_ | refine d_index 16 ?_ | refine d_conv64 16 ?_ | refine d_slices 16 ?_ | refine d_concat 16 ?_ | refine d_build 16 ?_)
    (first | refine d_pure 17 ?_ | refine d_load 17 ?_ | refine d_arith 17 ?_ | refine d_rem 17 ?_ | refine d_quo 17 ?_ | refine d_shrv 17 ?_ | refine d_fieldat 17 ?_ | refine d_idx1 17 ?_ | refine d_index 17 ?_ | refine d_conv64 17 ?_ | refine d_slices 17 ?_ | refine d_concat 17 ?_ | refine d_build 17 ?_)
    (first | refine d_pure 18 ?_ | refine d_load 18 ?_ | refine d_arith 18 ?_ | refine d_rem 18 ?_ | refine d_quo 18 ?_ | refine d_shrv 18 ?_ | refine d_fieldat 18 ?_ | refine d_idx1 18 ?_ | refine d_index 18 ?_ | refine d_conv64 18 ?_ | refine d_slices 18 ?_ | refine d_concat 18 ?_ | refine d_build 18 ?_)
    (first | refine d_pure 19 ?_ | refine d_load 19 ?_ | refine d_arith 19 ?_ | refine d_rem 19 ?_ | refine d_quo 19 ?_ | refine d_shrv 19 ?_ | refine d_fieldat 19 ?_ | refine d_idx1 19 ?_ | refine d_index 19 ?_ | refine d_conv64 19 ?_ | refine d_slices 19 ?_ | refine d_concat 19 ?_ | refine d_build 19 ?_)
    (first | refine d_pure 20 ?_ | refine d_load 20 ?_ | refine d_arith 20 ?_ | refine d_rem 20 ?_ | refine d_quo 20 ?_ | refine d_shrv 20 ?_ | refine d_fieldat 20 ?_ | refine d_idx1 20 ?_ | refine d_index 20 ?_ | refine d_conv64 20 ?_ | refine d_slices 20 ?_ | refine d_concat 20 ?_ | refine d_build 20 ?_)
    (first | refine d_pure 21 ?_ | refine d_load 21 ?_ | refine d_arith 21 ?_ | refine d_rem 21 ?_ | refine d_quo 21 ?_ | refine d_shrv 21 ?_ | refine d_fieldat 21 ?_ | refine d_idx1 21 ?_ | refine d_index 21 ?_ | refine d_conv64 21 ?_ | refine d_slices 21 ?_ | refine d_concat 21 ?_ | refine d_build 21 ?_)
    refine d_done ?_
    (repeat (first | refine g ?_ | refine s_flat 31 [(.pure, [1, 2, 3, 4]), (.mem true, [0, 5]), (.mem false, [6]), (.pure, [7, 8, 9, 10, 11])] ?_))
    refine s_callx cal fun x => ?_
    obtain ⟨pr, cr, pm, cm⟩ := x
    dsimp only
    (repeat (first | refine g ?_ | refine s_flat 31 [(.pure, [1, 2, 3, 4]), (.mem true, [0, 5]), (.mem false, [6]), (.pure, [7, 8, 9, 10, 11])] ?_))
    refine s_alloc fun r18 => ?_
    (repeat (first | refine g ?_ | refine s_flat 31 [(.pure, [1, 2, 3, 4]), (.mem true, [0, 5]), (.mem false, [6]), (.pure, [7, 8, 9, 10, 11])] ?_))
    generalize oldF ws = want at *
    have hN0 : want.length = ws.length := hol2
    refine run_loopI (X := Nat) (fun i => i ≤ ws.length) (fun i => [(17, .slice wp ws.length wc), (18, .pointer (some ⟨r18, 0, none⟩)), (19, .int .i64 (i : Int))])
      (fun i => [cells r18 61 ⟨[.slice pr N cr, .slice pm N cm]⟩, sl pr N cr 9 1 (raws.map Value.string), sl pm N cm 3 1 (masks.map (Value.int .i64)), sl wp ws.length wc 54 2 (encWs want)]) (fun i => ws.length - i) 0 (Nat.zero_le _) fct shut ?_
    intro i hi
    by_cases h1 : i < ws.length
    · obtain ⟨w, hx⟩ : ∃ x, want[i]? = some x := ⟨_, List.getElem?_eq_getElem (by omega)⟩
      have hw := hat w (List.mem_of_getElem? hx)
      have cA := at_all q pr pm cr cm raws masks hlr hlm w.at_
      rw [hw, hN1, hN2] at cA
      dsimp only at cA
      have g0 := encW_get want i w hx
      refine s_ptr wp (h0 := by omega) (fun bc ep _ _ => ?_)
      subst ep
      (repeat (first | refine g ?_ | refine s_flat 31 [(.pure, [1, 2, 3, 4]), (.mem true, [0, 5]), (.mem false, [6]), (.pure, [7, 8, 9, 10, 11])] ?_))
      refine s_idxk 2 ?_
      (repeat (first | refine g ?_ | refine s_flat 31 [(.pure, [1, 2, 3, 4]), (.mem true, [0, 5]), (.mem false, [6]), (.pure, [7, 8, 9, 10, 11])] ?_))
      refine s_loadsl g0.1 ?_
      (repeat (first | refine g ?_ | refine s_flat 31 [(.pure, [1, 2, 3, 4]), (.mem true, [0, 5]), (.mem false, [6]), (.pure, [7, 8, 9, 10, 11])] ?_))
      refine s_call cA ?_
      (repeat (first | refine g ?_ | refine s_flat 31 [(.pure, [1, 2, 3, 4]), (.mem true, [0, 5]), (.mem false, [6]), (.pure, [7, 8, 9, 10, 11])] ?_))
      refine s_idxk 2 ?_
      (repeat (first | refine g ?_ | refine s_flat 31 [(.pure, [1, 2, 3, 4]), (.mem true, [0, 5]), (.mem false, [6]), (.pure, [7, 8, 9, 10, 11])] ?_))
      refine s_loadsl g0.2 ?_
      have hne : ¬ w.raw ≠ w.raw := fun h => h rfl
      (repeat (first | refine g ?_ | refine s_flat 31 [(.pure, [1, 2, 3, 4]), (.mem true, [0, 5]), (.mem false, [6]), (.pure, [7, 8, 9, 10, 11])] ?_))
      exact run_stop_loop (i + 1) ⟨h1, by omega⟩ fct shut
    · obtain rfl : i = ws.length := by omega
      (repeat (first | refine g ?_ | refine s_flat 31 [(.pure, [1, 2, 3, 4]), (.mem true, [0, 5]), (.mem false, [6]), (.pure, [7, 8, 9, 10, 11])] ?_))
      refine s_call ca ?_
      (repeat (first | refine g ?_ | refine s_flat 31 [(.pure, [1, 2, 3, 4]), (.mem true, [0, 5]), (.mem false, [6]), (.pure, [7, 8, 9, 10, 11])] ?_))
      exact run_ret rfl (imp_RD rfl shut)
  · have kx := su_lits 3 (supX 2) (supX_ok 2 (by decide) (by decide))
    rw [h2, ← hT3] at kx
    (repeat (first | refine g ?_ | refine s_flat 31 [(.pure, [1, 2, 3, 4]), (.mem true, [0, 5]), (.mem false, [6]), (.pure, [7, 8, 9, 10, 11])] ?_))
    refine s_call crc ?_
    (repeat (first | refine g ?_ | refine s_flat 31 [(.pure, [1, 2, 3, 4]), (.mem true, [0, 5]), (.mem false, [6]), (.pure, [7, 8, 9, 10, 11])] ?_))
    refine s_alloc fun r14 => ?_
    (repeat (first | refine g ?_ | refine s_flat 31 [(.pure, [1, 2, 3, 4]), (.mem true, [0, 5]), (.mem false, [6]), (.pure, [7, 8, 9, 10, 11])] ?_))
    refine d_start [] ?_
    (first | refine d_pure 0 ?_ | refine d_load 0 ?_ | refine d_arith 0 ?_ | refine d_rem 0 ?_ | refine d_quo 0 ?_ | refine d_shrv 0 ?_ | refine d_fieldat 0 ?_ | refine d_idx1 0 ?_ | refine d_index 0 ?_ | refine d_conv64 0 ?_ | refine d_slices 0 ?_ | refine d_concat 0 ?_ | refine d_build 0 ?_)
    (first | refine d_pure 1 ?_ | refine d_load 1 ?_ | refine d_arith 1 ?_ | refine d_rem 1 ?_ | refine d_quo 1 ?_ | refine d_shrv 1 ?_ | refine d_fieldat 1 ?_ | refine d_idx1 1 ?_ | refine d_index 1 ?_ | refine d_conv64 1 ?_ | refine d_slices 1 ?_ | refine d_concat 1 ?_ | refine d_build 1 ?_)
    (first | refine d_pure 2 ?_ | refine d_load 2 ?_ | refine d_arith 2 ?_ | refine d_rem 2 ?_ | refine d_quo 2 ?_ | refine d_shrv 2 ?_ | refine d_fieldat 2 ?_ | refine d_idx1 2 ?_ | refine d_index 2 ?_ | refine d_conv64 2 ?_ | refine d_slices 2 ?_ | refine d_concat 2 ?_ | refine d_build 2 ?_)
    refine d_getall 3 rfl ?_
    (first | refine d_pure 4 ?_ | refine d_load 4 ?_ | refine d_arith 4 ?_ | refine d_rem 4 ?_ | refine d_quo 4 ?_ | refine d_shrv 4 ?_ | refine d_fieldat 4 ?_ | refine d_idx1 4 ?_ | refine d_index 4 ?_ | refine d_conv64 4 ?_ | refine d_slices 4 ?_ | refine d_concat 4 ?_ | refine d_build 4 ?_)
    (first | refine d_pure 5 ?_ | refine d_load 5 ?_ | refine d_arith 5 ?_ | refine d_rem 5 ?_ | refine d_quo 5 ?_ | refine d_shrv 5 ?_ | refine d_fieldat 5 ?_ | refine d_idx1 5 ?_ | refine d_index 5 ?_ | refine d_conv64 5 ?_ | refine d_slices 5 ?_ | refine d_concat 5 ?_ | refine d_build 5 ?_)
    refine d_call 6 k2 ?_
    refine d_via1 7 (h1 := by refine s_nek 6 5 true (la := litsSu (supX 2)) (lb := litsSu (supX 2)) (by simp) ?_ (ka := kx) (kb := kx); exact run_fin1) (h := ?_)
    (first | refine d_pure 8 ?_ | refine d_load 8 ?_ | refine d_arith 8 ?_ | refine d_rem 8 ?_ | refine d_quo 8 ?_ | refine d_shrv 8 ?_ | refine d_fieldat 8 ?_ | refine d_idx1 8 ?_ | refine d_index 8 ?_ | refine d_conv64 8 ?_ | refine d_slices 8 ?_ | refine d_concat 8 ?_ | refine d_build 8 ?_)
    (first | refine d_pure 9 ?_ | refine d_load 9 ?_ | refine d_arith 9 ?_ | refine d_rem 9 ?_ | refine d_quo 9 ?_ | refine d_shrv 9 ?_ | refine d_fieldat 9 ?_ | refine d_idx1 9 ?_ | refine d_index 9 ?_ | refine d_conv64 9 ?_ | refine d_slices 9 ?_ | refine d_concat 9 ?_ | refine d_build 9 ?_)
    (first | refine d_pure 10 ?_ | refine d_load 10 ?_ | refine d_arith 10 ?_ | refine d_rem 10 ?_ | refine d_quo 10 ?_ | refine d_shrv 10 ?_ | refine d_fieldat 10 ?_ | refine d_idx1 10 ?_ | refine d_index 10 ?_ | refine d_conv64 10 ?_ | refine d_slices 10 ?_ | refine d_concat 10 ?_ | refine d_build 10 ?_)
    (first | refine d_pure 11 ?_ | refine d_load 11 ?_ | refine d_arith 11 ?_ | refine d_rem 11 ?_ | refine d_quo 11 ?_ | refine d_shrv 11 ?_ | refine d_fieldat 11 ?_ | refine d_idx1 11 ?_ | refine d_index 11 ?_ | refine d_conv64 11 ?_ | refine d_slices 11 ?_ | refine d_concat 11 ?_ | refine d_build 11 ?_)
    (first | refine d_pure 12 ?_ | refine d_load 12 ?_ | refine d_arith 12 ?_ | refine d_rem 12 ?_ | refine d_quo 12 ?_ | refine d_shrv 12 ?_ | refine d_fieldat 12 ?_ | refine d_idx1 12 ?_ | refine d_index 12 ?_ | refine d_conv64 12 ?_ | refine d_slices 12 ?_ | refine d_concat 12 ?_ | refine d_build 12 ?_)
    (first | refine d_pure 13 ?_ | refine d_load 13 ?_ | refine d_arith 13 ?_ | refine d_rem 13 ?_ | refine d_quo 13 ?_ | refine d_shrv 13 ?_ | refine d_fieldat 13 ?_ | refine d_idx1 13 ?_ | refine d_index 13 ?_ | refine d_conv64 13 ?_ | refine d_slices 13 ?_ | refine d_concat 13 ?_ | refine d_build 13 ?_)
    (first | refine d_pure 14 ?_ | refine d_load 14 ?_ | refine d_arith 14 ?_ | refine d_rem 14 ?_ | refine d_quo 14 ?_ | refine d_shrv 14 ?_ | refine d_fieldat 14 ?_ | refine d_idx1 14 ?_ | refine d_index 14 ?_ | refine d_conv64 14 ?_ | refine d_slices 14 ?_ | refine d_concat 14 ?_ | refine d_build 14 ?_)
    (first | refine d_pure 15 ?_ | refine d_load 15 ?_ | refine d_arith 15 ?_ | refine d_rem 15 ?_ | refine d_quo 15 ?_ | refine d_shrv 15 ?_ | refine d_fieldat 15 ?_ | refine d_idx1 15 ?_ | refine d_index 15 ?_ | refine d_conv64 15 ?_ | refine d_slices 15 ?_ | refine d_concat 15 ?_ | refine d_build 15 ?_)
    (first | refine d_pure 16 ?_ | refine d_load 16 ?_ | refine d_arith 16 ?_ | refine d_rem 16 ?_ | refine d_quo 16 ?_ | refine d_shrv 16 ?_ | refine d_fieldat 16 ?_ | refine d_idx1 16 ?_ | refine d_index 16 ?_ | refine d_conv64 16 ?_ | refine d_slices 16 ?_ | refine d_concat 16 ?_ | refine d_build 16 ?_)
    (first | refine d_pure 17 ?_ | refine d_load 17 ?_ | refine d_arith 17 ?_ | refine d_rem 17 ?_ | refine d_quo 17 ?_ | refine d_shrv 17 ?_ | refine d_fieldat 17 ?_ | refine d_idx1 17 ?_ | refine d_index 17 ?_ | refine d_conv64 17 ?_ | refine d_slices 17 ?_ | refine d_concat 17 ?_ | refine d_build 17 ?_)
    (first | refine d_pure 18 ?_ | refine d_load 18 ?_ | refine d_arith 18 ?_ | refine d_rem 18 ?_ | refine d_quo 18 ?_ | refine d_shrv 18 ?_ | refine d_fieldat 18 ?_ | refine d_idx1 18 ?_ | refine d_index 18 ?_ | refine d_conv64 18 ?_ | refine d_slices 18 ?_ | refine d_concat 18 ?_ | refine d_build 18 ?_)
    (first | refine d_pure 19 ?_ | refine d_load 19 ?_ | refine d_arith 19 ?_ | refine d_rem 19 ?_ | refine d_quo 19 ?_ | refine d_shrv 19 ?_ | refine d_fieldat 19 ?_ | refine d_idx1 19 ?_ | refine d_index 19 ?_ | refine d_conv64 19 ?_ | refine d_slices 19 ?_ | refine d_concat 19 ?_ | refine d_build 19 ?_)
    (first | refine d_pure 20 ?_ | refine d_load 20 ?_ | refine d_arith 20 ?_ | refine d_rem 20 ?_ | refine d_quo 20 ?_ | refine d_shrv 20 ?_ | refine d_fieldat 20 ?_ | refine d_idx1 20 ?_ | refine d_index 20 ?_ | refine d_conv64 20 ?_ | refine d_slices 20 ?_ | refine d_concat 20 ?_ | refine d_build 20 ?_)
    (first | refine d_pure 21 ?_ | refine d_load 21 ?_ | refine d_arith 21 ?_ | refine d_rem 21 ?_ | refine d_quo 21 ?_ | refine d_shrv 21 ?_ | refine d_fieldat 21 ?_ | refine d_idx1 21 ?_ | refine d_index 21 ?_ | refine d_conv64 21 ?_ | refine d_slices 21 ?_ | refine d_concat 21 ?_ | refine d_build 21 ?_)
    refine d_done ?_
    (repeat (first | refine g ?_ | refine s_flat 31 [(.pure, [1, 2, 3, 4]), (.mem true, [0, 5]), (.mem false, [6]), (.pure, [7, 8, 9, 10, 11])] ?_))
    refine s_callx cw fun r => ?_
    obtain ⟨up, uc⟩ := r
    dsimp only
    (repeat (first | refine g ?_ | refine s_flat 31 [(.pure, [1, 2, 3, 4]), (.mem true, [0, 5]), (.mem false, [6]), (.pure, [7, 8, 9, 10, 11])] ?_))
    refine s_callx cal fun x => ?_
    obtain ⟨pr, cr, pm, cm⟩ := x
    dsimp only
    (repeat (first | refine g ?_ | refine s_flat 31 [(.pure, [1, 2, 3, 4]), (.mem true, [0, 5]), (.mem false, [6]), (.pure, [7, 8, 9, 10, 11])] ?_))
    refine s_alloc fun r18 => ?_
    (repeat (first | refine g ?_ | refine s_flat 31 [(.pure, [1, 2, 3, 4]), (.mem true, [0, 5]), (.mem false, [6]), (.pure, [7, 8, 9, 10, 11])] ?_))
    obtain ⟨want, hwant⟩ : ∃ want, want = ws := ⟨_, rfl⟩
    have hwn : want.length = ws.length := by rw [hwant]
    rw [← hwant] at hat
    rw [show encWs ws = encWs want by rw [hwant]]
    have hN0 : want.length = ws.length := hwn
    refine run_loopI (X := Nat) (fun i => i ≤ ws.length) (fun i => [(17, .slice up ws.length uc), (18, .pointer (some ⟨r18, 0, none⟩)), (19, .int .i64 (i : Int))])
      (fun i => [cells r18 61 ⟨[.slice pr N cr, .slice pm N cm]⟩, sl pr N cr 9 1 (raws.map Value.string), sl pm N cm 3 1 (masks.map (Value.int .i64)), sl up ws.length uc 54 2 (encWs want)]) (fun i => ws.length - i) 0 (Nat.zero_le _) fct shut ?_
    intro i hi
    by_cases h1 : i < ws.length
    · obtain ⟨w, hx⟩ : ∃ x, want[i]? = some x := ⟨_, List.getElem?_eq_getElem (by omega)⟩
      have hw := hat w (List.mem_of_getElem? hx)
      have cA := at_all q pr pm cr cm raws masks hlr hlm w.at_
      rw [hw, hN1, hN2] at cA
      dsimp only at cA
      have g0 := encW_get want i w hx
      refine s_ptr up (h0 := by omega) (fun bc ep _ _ => ?_)
      subst ep
      (repeat (first | refine g ?_ | refine s_flat 31 [(.pure, [1, 2, 3, 4]), (.mem true, [0, 5]), (.mem false, [6]), (.pure, [7, 8, 9, 10, 11])] ?_))
      refine s_idxk 2 ?_
      (repeat (first | refine g ?_ | refine s_flat 31 [(.pure, [1, 2, 3, 4]), (.mem true, [0, 5]), (.mem false, [6]), (.pure, [7, 8, 9, 10, 11])] ?_))
      refine s_loadsl g0.1 ?_
      (repeat (first | refine g ?_ | refine s_flat 31 [(.pure, [1, 2, 3, 4]), (.mem true, [0, 5]), (.mem false, [6]), (.pure, [7, 8, 9, 10, 11])] ?_))
      refine s_call cA ?_
      (repeat (first | refine g ?_ | refine s_flat 31 [(.pure, [1, 2, 3, 4]), (.mem true, [0, 5]), (.mem false, [6]), (.pure, [7, 8, 9, 10, 11])] ?_))
      refine s_idxk 2 ?_
      (repeat (first | refine g ?_ | refine s_flat 31 [(.pure, [1, 2, 3, 4]), (.mem true, [0, 5]), (.mem false, [6]), (.pure, [7, 8, 9, 10, 11])] ?_))
      refine s_loadsl g0.2 ?_
      have hne : ¬ w.raw ≠ w.raw := fun h => h rfl
      (repeat (first | refine g ?_ | refine s_flat 31 [(.pure, [1, 2, 3, 4]), (.mem true, [0, 5]), (.mem false, [6]), (.pure, [7, 8, 9, 10, 11])] ?_))
      exact run_stop_loop (i + 1) ⟨h1, by omega⟩ fct shut
    · obtain rfl : i = ws.length := by omega
      (repeat (first | refine g ?_ | refine s_flat 31 [(.pure, [1, 2, 3, 4]), (.mem true, [0, 5]), (.mem false, [6]), (.pure, [7, 8, 9, 10, 11])] ?_))
      refine s_call ca ?_
      (repeat (first | refine g ?_ | refine s_flat 31 [(.pure, [1, 2, 3, 4]), (.mem true, [0, 5]), (.mem false, [6]), (.pure, [7, 8, 9, 10, 11])] ?_))
      exact run_ret rfl (imp_RD rfl shut)
end Go.Proofs.YtaiocnpecaecdaaGreatDoor.V
namespace Go.Proofs.YtaiocnpecaecdaaGreatDoor.V
open Go.Proofs.YtaiocnpecaecdaaGreatDoor.VL
theorem head_cells {H : Type} {enc : TypeId × Value → H} {w : World} {sp : Nat → Bool} {held : Bool} {n : Nat} (cs : List Value) (y : DataW H × List MemPlace) (h : DataW.trod enc Tryz.prog w 0 sp held n 100 cs = some y) : ∃ x : HeadT, HeadOk x ∧ cs = encH x := by
  obtain ⟨xs, m, _, _, hl, hlen, hf⟩ := DataW.trod_struct Tryz.underlying100 h
  rw [show Tryz.prog.cellsOf 100 = 8 by kernel_rfl] at hl
  have c3 : Tryz.prog.cellsOf 3 = 1 := by kernel_rfl
  have hlen : xs.length = 8 := hlen
  match cs, hl, xs, hlen with
  | [z0, z1, z2, z3, z4, z5, z6, z7], _, [y0, y1, y2, y3, y4, y5, y6, y7], _ =>
    have h0 : DataW.trod enc Tryz.prog w 0 sp held m 3 (([z0, z1, z2, z3, z4, z5, z6, z7].drop 0).take (Tryz.prog.cellsOf 3)) = some y0 := hf 0 _ rfl
    have h1 : DataW.trod enc Tryz.prog w 0 sp held m 3 (([z0, z1, z2, z3, z4, z5, z6, z7].drop 1).take (Tryz.prog.cellsOf 3)) = some y1 := hf 1 _ rfl
    have h2 : DataW.trod enc Tryz.prog w 0 sp held m 3 (([z0, z1, z2, z3, z4, z5, z6, z7].drop 2).take (Tryz.prog.cellsOf 3)) = some y2 := hf 2 _ rfl
    have h3 : DataW.trod enc Tryz.prog w 0 sp held m 3 (([z0, z1, z2, z3, z4, z5, z6, z7].drop 3).take (Tryz.prog.cellsOf 3)) = some y3 := hf 3 _ rfl
    have h4 : DataW.trod enc Tryz.prog w 0 sp held m 3 (([z0, z1, z2, z3, z4, z5, z6, z7].drop 4).take (Tryz.prog.cellsOf 3)) = some y4 := hf 4 _ rfl
    have h5 : DataW.trod enc Tryz.prog w 0 sp held m 3 (([z0, z1, z2, z3, z4, z5, z6, z7].drop 5).take (Tryz.prog.cellsOf 3)) = some y5 := hf 5 _ rfl
    have h6 : DataW.trod enc Tryz.prog w 0 sp held m 3 (([z0, z1, z2, z3, z4, z5, z6, z7].drop 6).take (Tryz.prog.cellsOf 3)) = some y6 := hf 6 _ rfl
    have h7 : DataW.trod enc Tryz.prog w 0 sp held m 3 (([z0, z1, z2, z3, z4, z5, z6, z7].drop 7).take (Tryz.prog.cellsOf 3)) = some y7 := hf 7 _ rfl
    rw [c3] at h0 h1 h2 h3 h4 h5 h6 h7
    obtain ⟨a0, w0, e0⟩ := int_cells Tryz.underlying3 _ _ h0
    obtain ⟨a1, w1, e1⟩ := int_cells Tryz.underlying3 _ _ h1
    obtain ⟨a2, w2, e2⟩ := int_cells Tryz.underlying3 _ _ h2
    obtain ⟨a3, w3, e3⟩ := int_cells Tryz.underlying3 _ _ h3
    obtain ⟨a4, w4, e4⟩ := int_cells Tryz.underlying3 _ _ h4
    obtain ⟨a5, w5, e5⟩ := int_cells Tryz.underlying3 _ _ h5
    obtain ⟨a6, w6, e6⟩ := int_cells Tryz.underlying3 _ _ h6
    obtain ⟨a7, w7, e7⟩ := int_cells Tryz.underlying3 _ _ h7
    refine ⟨⟨a0, a1, a2, a3, a4, a5, a6, a7⟩, ⟨(i64_wf w0).1, (i64_wf w0).2, (i64_wf w1).1, (i64_wf w1).2, (i64_wf w2).1, (i64_wf w2).2, (i64_wf w3).1, (i64_wf w3).2, (i64_wf w4).1, (i64_wf w4).2, (i64_wf w5).1, (i64_wf w5).2, (i64_wf w6).1, (i64_wf w6).2, (i64_wf w7).1, (i64_wf w7).2⟩, ?_⟩
    have f0 := (List.cons.inj (show [z0] = _ from e0)).1
    have f1 := (List.cons.inj (show [z1] = _ from e1)).1
    have f2 := (List.cons.inj (show [z2] = _ from e2)).1
    have f3 := (List.cons.inj (show [z3] = _ from e3)).1
    have f4 := (List.cons.inj (show [z4] = _ from e4)).1
    have f5 := (List.cons.inj (show [z5] = _ from e5)).1
    have f6 := (List.cons.inj (show [z6] = _ from e6)).1
    have f7 := (List.cons.inj (show [z7] = _ from e7)).1
    rw [f0, f1, f2, f3, f4, f5, f6, f7]; rfl
end Go.Proofs.YtaiocnpecaecdaaGreatDoor.V
namespace Go.Proofs.YtaiocnpecaecdaaGreatDoor.V
open Go.Proofs.YtaiocnpecaecdaaGreatDoor.VL
theorem read_cells {H : Type} {enc : TypeId × Value → H} {w : World} {sp : Nat → Bool} {held : Bool} {n : Nat} (cs : List Value) (y : DataW H × List MemPlace) (h : DataW.trod enc Tryz.prog w 0 sp held n 102 cs = some y) : ∃ x : ReadT, ReadOk x ∧ cs = encR x := by
  obtain ⟨xs, m, _, _, hl, hlen, hf⟩ := DataW.trod_struct Tryz.underlying102 h
  rw [show Tryz.prog.cellsOf 102 = 10 by kernel_rfl] at hl
  have c_bool : Tryz.prog.cellsOf 4 = 1 := by kernel_rfl
  have c_head : Tryz.prog.cellsOf 100 = 8 := by kernel_rfl
  have c_str : Tryz.prog.cellsOf 9 = 1 := by kernel_rfl
  have hlen : xs.length = 3 := hlen
  match cs, hl, xs, hlen with
  | [z0, z1, z2, z3, z4, z5, z6, z7, z8, z9], _, [y0, y1, y2], _ =>
    have h0 : DataW.trod enc Tryz.prog w 0 sp held m 4 (([z0, z1, z2, z3, z4, z5, z6, z7, z8, z9].drop 0).take (Tryz.prog.cellsOf 4)) = some y0 := hf 0 _ rfl
    rw [c_bool] at h0
    have h1 : DataW.trod enc Tryz.prog w 0 sp held m 100 (([z0, z1, z2, z3, z4, z5, z6, z7, z8, z9].drop 1).take (Tryz.prog.cellsOf 100)) = some y1 := hf 1 _ rfl
    rw [c_head] at h1
    have h2 : DataW.trod enc Tryz.prog w 0 sp held m 9 (([z0, z1, z2, z3, z4, z5, z6, z7, z8, z9].drop 9).take (Tryz.prog.cellsOf 9)) = some y2 := hf 2 _ rfl
    rw [c_str] at h2
    obtain ⟨a0, w0, e0⟩ := bool_cells Tryz.underlying4 _ _ h0
    obtain ⟨a1, w1, e1⟩ := head_cells _ _ h1
    obtain ⟨a2, w2, e2⟩ := str_cells Tryz.underlying9 _ _ h2
    refine ⟨⟨a0, a1, a2⟩, ⟨w1, w2⟩, ?_⟩
    have f0 := (List.cons.inj (show [z0] = _ from e0)).1
    have e1' : [z1, z2, z3, z4, z5, z6, z7, z8] = encH a1 := e1
    unfold encH at e1'
    simp only [List.cons.injEq, and_true] at e1'
    obtain ⟨rfl, rfl, rfl, rfl, rfl, rfl, rfl, rfl⟩ := e1'
    have f2 := (List.cons.inj (show [z9] = _ from e2)).1
    rw [f0, f2]; rfl
theorem blk_cells {H : Type} {enc : TypeId × Value → H} {w : World} {sp : Nat → Bool} {held : Bool} {n : Nat} (cs : List Value) (y : DataW H × List MemPlace) (h : DataW.trod enc Tryz.prog w 0 sp held n 98 cs = some y) : ∃ x : BlockT, BlockOk x ∧ cs = encBk x := by
  obtain ⟨xs, m, _, _, hl, hlen, hf⟩ := DataW.trod_struct Tryz.underlying98 h
  rw [show Tryz.prog.cellsOf 98 = 3 by kernel_rfl] at hl
  have c_int : Tryz.prog.cellsOf 3 = 1 := by kernel_rfl
  have c_u8 : Tryz.prog.cellsOf 5 = 1 := by kernel_rfl
  have c_bool : Tryz.prog.cellsOf 4 = 1 := by kernel_rfl
  have hlen : xs.length = 3 := hlen
  match cs, hl, xs, hlen with
  | [z0, z1, z2], _, [y0, y1, y2], _ =>
    have h0 : DataW.trod enc Tryz.prog w 0 sp held m 3 (([z0, z1, z2].drop 0).take (Tryz.prog.cellsOf 3)) = some y0 := hf 0 _ rfl
    rw [c_int] at h0
    have h1 : DataW.trod enc Tryz.prog w 0 sp held m 5 (([z0, z1, z2].drop 1).take (Tryz.prog.cellsOf 5)) = some y1 := hf 1 _ rfl
    rw [c_u8] at h1
    have h2 : DataW.trod enc Tryz.prog w 0 sp held m 4 (([z0, z1, z2].drop 2).take (Tryz.prog.cellsOf 4)) = some y2 := hf 2 _ rfl
    rw [c_bool] at h2
    obtain ⟨a0, w0, e0⟩ := int_cells Tryz.underlying3 _ _ h0
    obtain ⟨a1, w1, e1⟩ := int_cells Tryz.underlying5 _ _ h1
    obtain ⟨a2, w2, e2⟩ := bool_cells Tryz.underlying4 _ _ h2
    refine ⟨⟨a0, a1, a2⟩, ⟨(i64_wf w0).1, (i64_wf w0).2, (u8_wf w1).1, (u8_wf w1).2⟩, ?_⟩
    have f0 := (List.cons.inj (show [z0] = _ from e0)).1
    have f1 := (List.cons.inj (show [z1] = _ from e1)).1
    have f2 := (List.cons.inj (show [z2] = _ from e2)).1
    rw [f0, f1, f2]; rfl
theorem cut_cells {H : Type} {enc : TypeId × Value → H} {w : World} {sp : Nat → Bool} {held : Bool} {n : Nat} (cs : List Value) (y : DataW H × List MemPlace) (h : DataW.trod enc Tryz.prog w 0 sp held n 48 cs = some y) : ∃ x : CutT, CutOk (allV w) x ∧ cs = encCut x := by
  obtain ⟨xs, m, _, _, hl, hlen, hf⟩ := DataW.trod_struct Tryz.underlying48 h
  rw [show Tryz.prog.cellsOf 48 = 2 by kernel_rfl] at hl
  have c_int : Tryz.prog.cellsOf 3 = 1 := by kernel_rfl
  have c_bools : Tryz.prog.cellsOf 46 = 1 := by kernel_rfl
  have hlen : xs.length = 2 := hlen
  match cs, hl, xs, hlen with
  | [z0, z1], _, [y0, y1], _ =>
    have h0 : DataW.trod enc Tryz.prog w 0 sp held m 3 (([z0, z1].drop 0).take (Tryz.prog.cellsOf 3)) = some y0 := hf 0 _ rfl
    rw [c_int] at h0
    have h1 : DataW.trod enc Tryz.prog w 0 sp held m 46 (([z0, z1].drop 1).take (Tryz.prog.cellsOf 46)) = some y1 := hf 1 _ rfl
    rw [c_bools] at h1
    obtain ⟨a0, w0, e0⟩ := int_cells Tryz.underlying3 _ _ h0
    obtain ⟨p1, ks1, cap1, e1, _, wl1, _, hq1⟩ := rowq_of_trod encB (fun _ => True) Tryz.underlying46 (by kernel_rfl : Tryz.prog.cellsOf 4 = 1) (by omega) (fun n cs y _ h => bool_cells Tryz.underlying4 cs y h) h1
    refine ⟨⟨a0, p1, cap1, ks1⟩, ⟨(i64_wf w0).1, (i64_wf w0).2, wl1, rowq_b hq1⟩, ?_⟩
    have f0 := (List.cons.inj (show [z0] = _ from e0)).1
    have f1 := (List.cons.inj (show [z1] = _ from e1)).1
    rw [f0, f1]; rfl
end Go.Proofs.YtaiocnpecaecdaaGreatDoor.V
