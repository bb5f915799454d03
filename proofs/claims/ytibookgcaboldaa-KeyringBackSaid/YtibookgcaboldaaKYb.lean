/- What is sealed is opened again: plain laws of the box. -/
import Derived.Test.YtibookgcaboldaaBXB
import Derived.Test.YtibookgcaboldaaSHx
import Derived.Test.YtibookgcaboldaaSHa
import Derived.Test.YtibookgcaboldaaKYa
set_option maxRecDepth 10000
set_option linter.unusedVariables false
namespace Go.Proofs.Ytibookgcaboldaa.V
open Go.Proofs.Ytibookgcaboldaa.VL Go.Proofs.Ytibookgcaboldaa.VL.RD Go.Proofs.Ytibookgcaboldaa.VL.Sha
theorem app16 (t w : ByteArray) (hw : w.size = 16) : (t ++ w).size = t.size + 16 ∧ (t ++ w).extract 0 ((t ++ w).size - 16) = t ∧ (t ++ w).extract ((t ++ w).size - 16) (t ++ w).size = w := by
  have hs : (t ++ w).size = t.size + 16 := by rw [ByteArray.size_append, hw]
  refine ⟨hs, ?_, ?_⟩
  · rw [hs, show t.size + 16 - 16 = t.size by omega, ByteArray.extract_append]
    rw [show 0 - t.size = 0 by omega, show t.size - t.size = 0 by omega]
    simp
  · rw [hs, show t.size + 16 - 16 = t.size by omega, ByteArray.extract_append]
    rw [show t.size - t.size = 0 by omega, show t.size + 16 - t.size = 16 by omega, ← hw]
    rw [show t.extract t.size (t.size + w.size) = ⟨#[]⟩ from ByteArray.extract_eq_empty_iff.2 (by omega)]
    simp only [ByteArray.extract_zero_size]
    exact ByteArray.empty_append
theorem byteAt_bl (l : List UInt8) (i : Nat) : Spec.byteAt ⟨l.toArray⟩ i = (l.getD i 0).toNat := by
  unfold Spec.byteAt Spec.at_ Spec.nats
  simp only [List.getD_eq_getElem?_getD, List.getElem?_map]
  cases l[i]? <;> rfl
theorem byteAt_str (key nonce : ByteArray) (n : Nat) (s : ByteArray) (i : Nat) (h : i < s.size) : Spec.byteAt (Spec.streamed key nonce n s) i = Spec.byteAt s i ^^^ Spec.at_ (Spec.block key nonce (n + i / 64)) (i % 64) := by
  unfold Spec.streamed
  rw [byteAt_bl]
  have l1 := word_lt s i
  have l2 := at_block_lt key nonce (n + i / 64) (i % 64)
  have l3 : Spec.byteAt s i ^^^ Spec.at_ (Spec.block key nonce (n + i / 64)) (i % 64) < 256 := Nat.xor_lt_two_pow (n := 8) l1 l2
  rw [List.getD_eq_getElem?_getD, List.getElem?_map, List.getElem?_range h]
  simp only [Option.map_some, Option.getD_some]
  rw [UInt8.toNat_ofNat']
  exact Nat.mod_eq_of_lt l3
theorem stream_twice (key nonce : ByteArray) (n : Nat) (s : ByteArray) : Spec.streamed key nonce n (Spec.streamed key nonce n s) = s := by
  have hz := streamed_len key nonce n s
  apply bytes_ext
  have e : (Spec.streamed key nonce n (Spec.streamed key nonce n s)).data.toList = (List.range (Spec.streamed key nonce n s).size).map fun i => UInt8.ofNat (Spec.byteAt (Spec.streamed key nonce n s) i ^^^ Spec.at_ (Spec.block key nonce (n + i / 64)) (i % 64)) := rfl
  rw [e, hz]
  apply List.ext_getElem?
  intro i
  rw [List.getElem?_map]
  rcases Nat.lt_or_ge i s.size with h | h
  · rw [List.getElem?_range h, Option.map_some, byteAt_str _ _ _ _ _ h, Nat.xor_assoc, Nat.xor_self, Nat.xor_zero]
    have hl : i < s.data.toList.length := by rw [size_toList]; exact h
    rw [List.getElem?_eq_getElem hl]
    congr 1
    unfold Spec.byteAt Spec.at_ Spec.nats
    rw [List.getD_eq_getElem?_getD, List.getElem?_map, List.getElem?_eq_getElem hl]
    simp only [Option.map_some, Option.getD_some]
    exact UInt8.ofNat_toNat
  · rw [List.getElem?_eq_none (by rw [List.length_range]; exact h), List.getElem?_eq_none (by rw [size_toList]; exact h)]; rfl
theorem openB_sealB (key no ad t : ByteArray) (hk : key.size = 32) (hn : no.size = 12) : openB key no ad (sealB key no ad t).1 = (t, 0) := by
  have hs : sealB key no ad t = (Spec.streamed key no 1 t ++ Spec.taggedF key no ad (Spec.streamed key no 1 t), 0) := by unfold sealB; rw [if_pos ⟨hk, hn⟩]
  rw [hs]
  unfold openB
  rw [if_pos ⟨hk, hn⟩]
  dsimp only
  obtain ⟨h1, h2, h3⟩ := app16 (Spec.streamed key no 1 t) (Spec.taggedF key no ad (Spec.streamed key no 1 t)) (taggedF_len _ _ _ _)
  rw [if_neg (by omega), h2, h3, if_pos rfl, stream_twice]
end Go.Proofs.Ytibookgcaboldaa.V
namespace Go.Proofs.Ytibookgcaboldaa.V
open Go.Proofs.Ytibookgcaboldaa.VL Go.Proofs.Ytibookgcaboldaa.VL.RD Go.Proofs.Ytibookgcaboldaa.VL.Sha
def polyF (r : Nat) : Nat → Nat → List Nat → Nat
  | 0, h, _ => h
  | n + 1, h, s => if s = [] then h else polyF r n (((h + Spec.le (s.take 16 ++ [1])) * r) % Spec.P130) (s.drop 16)
theorem polyF_eq (r : Nat) : ∀ (n h : Nat) (s : List Nat), s.length ≤ 16 * n → Spec.polyH r h s = polyF r n h s
  | 0, h, s, hs => by
    obtain rfl : s = [] := List.eq_nil_of_length_eq_zero (by omega)
    rw [Spec.polyH, if_pos rfl]; rfl
  | n + 1, h, s, hs => by
    rw [Spec.polyH]
    unfold polyF
    split
    · rfl
    · exact polyF_eq r n _ _ (by rw [List.length_drop]; omega)
def frameL (ad s : List UInt8) : List UInt8 := ad ++ Spec.zeros ((16 - ad.length % 16) % 16) ++ s ++ Spec.zeros ((16 - s.length % 16) % 16) ++ Spec.leB ad.length 8 ++ Spec.leB s.length 8
def key0L (key nonce : List UInt8) : List UInt8 := ((Spec.block (bl key) (bl nonce) 0).take 32).map UInt8.ofNat
def tagL (key nonce ad s : List UInt8) : List UInt8 :=
  Spec.leB ((polyF (Spec.le (Spec.clamps 0 (((key0L key nonce).map UInt8.toNat).take 16))) 8 0 ((frameL ad s).map UInt8.toNat) + Spec.le (((key0L key nonce).map UInt8.toNat).drop 16)) % Spec.P128) 16
theorem tagged_eq (key nonce ad s : List UInt8) (h : (frameL ad s).length ≤ 128) : Spec.taggedF (bl key) (bl nonce) (bl ad) (bl s) = bl (tagL key nonce ad s) := by
  have e1 : Spec.key0 (bl key) (bl nonce) = bl (key0L key nonce) := rfl
  have e2 : Spec.framed (bl ad) (bl s) = bl (frameL ad s) := by
    unfold Spec.framed frameL
    rw [bl_list, bl_list, bl_size, bl_size]; rfl
  unfold Spec.taggedF Spec.polyTag
  rw [e1, e2]
  have e3 : ∀ l : List UInt8, Spec.nats (bl l) = l.map UInt8.toNat := fun l => rfl
  unfold Spec.polyR
  rw [e3, e3, polyF_eq _ 8 _ _ (by rw [List.length_map]; exact h)]
  rfl
def maL : List UInt8 := [48, 49, 50, 51, 52, 53, 54, 55, 56, 57, 97, 98, 99, 100, 101, 102, 48, 49, 50, 51, 52, 53, 54, 55, 56, 57, 97, 98, 99, 100, 101, 102]
def saL : List UInt8 := [48, 49, 50, 51, 52, 53, 54, 55, 56, 57, 97, 98, 99, 100, 101, 102]
def noL : List UInt8 := [48, 49, 50, 51, 52, 53, 54, 55, 56, 57, 97, 98]
def adL : List UInt8 := [115, 108, 111, 116, 32, 48, 1, 0, 0, 0] ++ saL
def strL2 (key nonce s : List UInt8) : List UInt8 := (List.range s.length).map fun i => UInt8.ofNat ((s.getD i 0).toNat ^^^ Spec.at_ (Spec.block (bl key) (bl nonce) (1 + i / 64)) (i % 64))
theorem ad_eq : bndB 0 1 (bl saL) = bl adL := by
  apply bytes_ext
  unfold bndB
  rw [app_list, app_list, app_list]
  rfl
theorem tags_differ : tagL (tN [98] saL 0) noL adL (strL2 (tN [97] saL 0) noL maL) ≠ tagL (tN [97] saL 0) noL adL (strL2 (tN [97] saL 0) noL maL) := by decide +kernel
end Go.Proofs.Ytibookgcaboldaa.V
namespace Go.Proofs.Ytibookgcaboldaa.V
open Go.Proofs.Ytibookgcaboldaa.VL Go.Proofs.Ytibookgcaboldaa.VL.RD Go.Proofs.Ytibookgcaboldaa.VL.Sha
attribute [local irreducible] Run sealB openB stretchB bndB
def exS : SlotT := sealedK 0 (bl maL) (bl [97]) (bl saL) (bl noL) 1
def exK : KeysT := ⟨0, [exS, zeroS, zeroS, zeroS]⟩
def exC : ByteArray := Spec.streamed (stretchB (bl [97]) (bl saL) 1) (bl noL) 1 (bl maL)
theorem sealB_def (key no ad t : ByteArray) (hk : key.size = 32) (hn : no.size = 12) : sealB key no ad t = (Spec.streamed key no 1 t ++ Spec.taggedF key no ad (Spec.streamed key no 1 t), 0) := by
  unfold sealB; rw [if_pos ⟨hk, hn⟩]
theorem noL_size : (bl noL).size = 12 := rfl
theorem exSeal : exS.sealed = exC ++ Spec.taggedF (stretchB (bl [97]) (bl saL) 1) (bl noL) (bndB 0 1 (bl saL)) exC := by
  show (sealB (stretchB (bl [97]) (bl saL) 1) (bl noL) (bndB 0 1 (bl saL)) (bl maL)).1 = _
  rw [sealB_def _ _ _ _ (stretchB_size _ _ _) noL_size]; rfl
theorem exSeal_size : exS.sealed.size = 48 := by
  rw [exSeal, ByteArray.size_append, taggedF_len]
  show (Spec.streamed _ _ _ _).size + 16 = 48
  rw [streamed_len]; rfl
theorem exOk : SlotOk exS := ⟨by decide, by decide, by show (bl saL).size ≤ _; decide, by show (bl noL).size ≤ _; decide, by rw [exSeal_size]; decide⟩
theorem exKOk : KeysOk exK := ⟨by decide, by decide, rfl, fun s hs => by
  simp only [exK, List.mem_cons, List.not_mem_nil, or_false] at hs
  rcases hs with rfl | rfl | rfl | rfl
  · exact exOk
  · exact zeroOk
  · exact zeroOk
  · exact zeroOk⟩
theorem exRight : rightK exK = true := by
  have h1 : rightF exS = true := by
    unfold rightF
    rw [if_pos (show exS.used = true from rfl)]
    refine decide_eq_true ⟨by decide, by decide, by show (bl saL).size = 16; rfl, noL_size, exSeal_size⟩
  have h0 : rightF zeroS = true := by decide
  unfold rightK exK
  simp only [List.all_cons, List.all_nil, h1, h0]
  decide
theorem exOpenA : openK exK (bl [97]) = (bl maL, 0, 0) := by
  have e : tryS (bl [97]) 0 exS = (bl maL, 0) := openB_sealB _ _ _ _ (stretchB_size _ _ _) noL_size
  unfold openK
  rw [if_pos exRight]
  unfold exK openL
  rw [if_pos ⟨rfl, by rw [e]⟩, e]; rfl
theorem strL2_eq (key nonce s : List UInt8) : Spec.streamed (bl key) (bl nonce) 1 (bl s) = bl (strL2 key nonce s) := by
  unfold Spec.streamed strL2
  rw [bl_size]
  show bl _ = bl _
  congr 1
  refine List.map_congr_left fun i _ => ?_
  rw [show Spec.byteAt (bl s) i = (s.getD i 0).toNat from byteAt_bl s i]
theorem str_tN (p s : List UInt8) : stretchB (bl p) (bl s) 1 = bl (tN p s 0) := by unfold stretchB; rfl
theorem ex_strL : exC = bl (strL2 (tN [97] saL 0) noL maL) := by unfold exC; rw [str_tN, strL2_eq]
theorem ex_len : (strL2 (tN [97] saL 0) noL maL).length = 32 := by unfold strL2; rw [List.length_map, List.length_range]; rfl
theorem exTag (p : List UInt8) : Spec.taggedF (stretchB (bl p) (bl saL) 1) (bl noL) (bndB 0 1 (bl saL)) exC = bl (tagL (tN p saL 0) noL adL (strL2 (tN [97] saL 0) noL maL)) := by
  rw [ad_eq, ex_strL]
  rw [str_tN]
  refine tagged_eq _ _ _ _ ?_
  unfold frameL
  simp only [List.length_append, ex_len]
  decide
theorem exOpenB : (openK exK (bl [98])).2.2 = 10 := by
  have e : (tryS (bl [98]) 0 exS).2 = 10 := by
    show (openB (stretchB (bl [98]) (bl saL) 1) (bl noL) (bndB 0 1 (bl saL)) exS.sealed).2 = 10
    unfold openB
    rw [if_pos ⟨stretchB_size _ _ _, noL_size⟩, if_neg (by rw [exSeal_size]; decide), exSeal]
    obtain ⟨h1, h2, h3⟩ := app16 exC (Spec.taggedF (stretchB (bl [97]) (bl saL) 1) (bl noL) (bndB 0 1 (bl saL)) exC) (taggedF_len _ _ _ _)
    rw [h2, h3, exTag, exTag, if_neg]
    intro h
    exact tags_differ (by have := congrArg (fun b : ByteArray => b.data.toList) h; exact this)
  unfold openK
  rw [if_pos exRight]
  unfold exK
  unfold openL
  rw [if_neg (by rw [e]; decide)]
  rfl
theorem master_spec (q : View) : FnD Try.prog q 34 [] [] (.string (bl maL)) [] := by
  (first | refine FnD.go Try.call34 Try.func34 rfl rfl rfl ?_ | refine FnX.go Try.call34 Try.func34 rfl rfl rfl ?_)
  (repeat (first | refine g ?_))
  exact run_ret rfl (imp_RD rfl shut)
theorem awake_spec (q : View) : FnD Try.prog q 16 [] [] (.bool true) [] := by
  have ef : firstK (bl maL) (bl [97]) (bl saL) (bl noL) 1 = (exK, 0) := by
    unfold firstK
    rw [if_pos (by decide)]; rfl
  have c1 := firstK_spec q (bl maL) (bl [97]) (bl saL) (bl noL) 1 (by decide) (by decide) (by decide)
  rw [ef] at c1
  have c2 := openK_spec q exK exKOk (bl [97]) (by decide)
  rw [exOpenA] at c2
  have c3 := openK_spec q exK exKOk (bl [98]) (by decide)
  rw [exOpenB] at c3
  dsimp only at c1 c2 c3
  obtain ⟨EK, hEK⟩ : ∃ EK, EK = encKeys exK := ⟨_, rfl⟩
  have hl : EK.length = 21 := by rw [hEK]; unfold encKeys; rw [List.length_cons, encKs_len]; rfl
  have h1 : EK.all one1 = true := by rw [hEK]; rfl
  rw [← hEK] at c1 c2 c3
  (first | refine FnD.go Try.call16 Try.func16 rfl rfl rfl ?_ | refine FnX.go Try.call16 Try.func16 rfl rfl rfl ?_)
  (repeat (first | refine g ?_))
  refine s_call (master_spec q) ?_
  (repeat (first | refine g ?_))
  refine s_call c1 ?_
  (repeat (first | refine g ?_))
  refine s_alloc fun b => ?_
  (repeat (first | refine g ?_))
  refine s_putall (h1 := h1) (hz := hl) (hi := by rw [hl]; rfl) ?_
  (repeat (first | refine g ?_))
  refine s_getall (hz := hl) ?_
  (repeat (first | refine g ?_))
  refine s_call c2 ?_
  (repeat (first | refine g ?_))
  refine s_getall (hz := hl) ?_
  (repeat (first | refine g ?_))
  refine s_call c3 ?_
  (repeat (first | refine g ?_))
  refine s_call (master_spec q) ?_
  (repeat (first | refine g ?_))
  exact run_ret rfl (imp_RD rfl shut)
end Go.Proofs.Ytibookgcaboldaa.V
namespace Go.Proofs.Ytibookgcaboldaa.V
open Go.Proofs.Ytibookgcaboldaa.VL Go.Proofs.Ytibookgcaboldaa.VL.RD Go.Proofs.Ytibookgcaboldaa.VL.Sha
attribute [local irreducible] Run sealB openB stretchB bndB
theorem encKs_put (l : List SlotT) (i : Nat) (s : SlotT) (hi : i < l.length) : putAt (encKs l) (i * 5) (encS s) = encKs (l.set i s) := by
  induction l generalizing i with
  | nil => cases hi
  | cons y l ih =>
    cases i with
    | zero => rfl
    | succ i =>
      have e : encKs (y :: l) = encS y ++ encKs l := rfl
      have e2 : encKs ((y :: l).set (i + 1) s) = encS y ++ encKs (l.set i s) := rfl
      have e5 : (encS y).length = 5 := rfl
      have := ih i (by simpa using hi)
      rw [e, e2, ← this]
      unfold putAt
      rw [show (i + 1) * 5 = 5 + i * 5 by omega, Nat.add_assoc, ← e5, List.take_length_add_append, List.drop_length_add_append, List.append_assoc, List.append_assoc]
      simp only [List.append_assoc]
theorem encKeys_put (k : KeysT) (i : Nat) (s : SlotT) (hi : i < k.sl.length) : putAt (encKeys k) (1 + i * 5) (encS s) = encKeys ⟨k.gen, k.sl.set i s⟩ := by
  unfold encKeys
  show _ = _ :: encKs (k.sl.set i s)
  rw [← encKs_put _ _ _ hi, show 1 + i * 5 = i * 5 + 1 by omega]
  unfold putAt
  rw [show i * 5 + 1 + (encS s).length = (i * 5 + (encS s).length) + 1 by omega]; rfl
theorem encKeys_len {k : KeysT} (hk : k.sl.length = 4) : (encKeys k).length = 21 := by
  unfold encKeys; rw [List.length_cons, encKs_len, hk]
theorem encS_one (s : SlotT) : (encS s).all one1 = true := rfl
theorem encKeys_one (k : KeysT) : (encKeys k).all one1 = true := by
  unfold encKeys
  rw [List.all_cons, Bool.and_eq_true]
  refine ⟨rfl, ?_⟩
  unfold encKs
  rw [List.all_flatMap, List.all_eq_true]
  intro s _
  exact encS_one s
theorem u26 : Try.prog.underlying 26 = some ty26.und := by kernel_rfl
theorem u24 : Try.prog.underlying 24 = some (.array 4 23) := by kernel_rfl
theorem c24 : Try.prog.cellsOf 24 = 20 := by kernel_rfl
theorem c26 : Try.prog.cellsOf 26 = 21 := by kernel_rfl
def litsK (k : KeysT) : List Lit := .int .i64 k.gen :: k.sl.flatMap litsS
theorem slots_lits (d : Nat) (l : List SlotT) (hl : l.length = 4) (h : ∀ s ∈ l, SlotOk s) : Try.prog.keyLits (d + 3) 24 (encKs l) = some (l.flatMap litsS) := by
  match l, hl with
  | [a, b, c, e], _ =>
    have ha := slot_lits d a (h a (by simp))
    have hb := slot_lits d b (h b (by simp))
    have hc := slot_lits d c (h c (by simp))
    have he := slot_lits d e (h e (by simp))
    unfold Program.keyLits
    rw [u24]
    show (if _ then _ else _) = _
    rw [if_pos (by rw [c24]; rfl), c23]
    have ha : Try.prog.keyLits (d + 2) 23 (encS a) = some (litsS a) := ha
    have hb : Try.prog.keyLits (d + 2) 23 (encS b) = some (litsS b) := hb
    have hc : Try.prog.keyLits (d + 2) 23 (encS c) = some (litsS c) := hc
    have he : Try.prog.keyLits (d + 2) 23 (encS e) = some (litsS e) := he
    have x0 : ((encKs [a, b, c, e]).drop (0 * 5)).take 5 = encS a := rfl
    have x1 : ((encKs [a, b, c, e]).drop (1 * 5)).take 5 = encS b := rfl
    have x2 : ((encKs [a, b, c, e]).drop (2 * 5)).take 5 = encS c := rfl
    have x3 : ((encKs [a, b, c, e]).drop (3 * 5)).take 5 = encS e := rfl
    rw [show List.range 4 = [0, 1, 2, 3] from rfl]
    simp only [List.mapM_cons, List.mapM_nil, x0, x1, x2, x3, ha, hb, hc, he]
    rfl
theorem int_lits (d : Nat) (r : Int) (r0 : -9223372036854775808 ≤ r) (r1 : r ≤ 9223372036854775807) : Try.prog.keyLits (d + 1) 3 [.int .i64 r] = some [.int .i64 r] := by
  unfold Program.keyLits; rw [u3]
  show (if _ then _ else _) = _
  rw [if_pos ⟨rfl, by simp [Lit.wf, IntKind.min, IntKind.max, IntKind.signed, IntKind.bits]; omega⟩]
theorem keys_lits (k : KeysT) (hk : KeysOk k) : Try.prog.keyLits 4 26 (encKeys k) = some (litsK k) := by
  have h1 := slots_lits 0 k.sl hk.len hk.ok
  have h0 := int_lits 2 k.gen hk.g0 hk.g1
  have hl := encKeys_len hk.len
  have hz := encKs_len k.sl
  rw [hk.len] at hz
  unfold Program.keyLits
  rw [u26]
  show (if _ then _ else _) = _
  rw [if_pos ⟨by rw [c26]; exact hl, by kernel_rfl⟩]
  have x1 : ((encKs k.sl).drop 0).take 20 = encKs k.sl := by rw [List.drop_zero, List.take_of_length_le (by omega)]
  have x1 : (encKs k.sl).take 20 = encKs k.sl := x1
  unfold encKeys
  simp [List.mapM_cons, c24, c3, h0, h1, x1]
  rfl
theorem zeroK_ok : KeysOk zeroK := ⟨by decide, by decide, rfl, fun s hs => by
  simp only [zeroK, List.mem_cons, List.not_mem_nil, or_false] at hs
  rcases hs with rfl | rfl | rfl | rfl <;> exact zeroOk⟩
theorem keys_formed (l : List Value) (h : l.length = 21) : (Value.agg ⟨l⟩).formed Try.prog 26 = true := by
  unfold Value.formed
  rw [u26]
  show (l.length == Try.prog.cellsOf 26) = true
  rw [h, c26]; rfl
end Go.Proofs.Ytibookgcaboldaa.V
namespace Go.Proofs.Ytibookgcaboldaa.V
open Go.Proofs.Ytibookgcaboldaa.VL Go.Proofs.Ytibookgcaboldaa.VL.RD Go.Proofs.Ytibookgcaboldaa.VL.Sha
attribute [local irreducible] Run sealB openB stretchB bndB
end Go.Proofs.Ytibookgcaboldaa.V
