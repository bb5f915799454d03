/- A block of an image; what is authentic there. -/
import Derived.Test.YtajndpddlpnbkaaBKa
import Derived.Test.YtajndpddlpnbkaaShelf
import Derived.Test.YtajndpddlpnbkaaBKb
import Derived.Test.YtajndpddlpnbkaaVKa
set_option maxRecDepth 10000
set_option linter.unusedVariables false
namespace Go.Proofs.Ytajndpddlpnbkaa.V
open Go.Proofs.Ytajndpddlpnbkaa.VL Go.Proofs.Ytajndpddlpnbkaa.VL.Sha
attribute [local irreducible] Run numB
theorem repeatL_one (n : Nat) : Lib.repeatL [(0 : UInt8)] n = List.replicate n 0 := by
  induction n with
  | zero => rfl
  | succ n ih => rw [List.replicate_succ, ← ih]; rfl
theorem repeat_spec (q : View) (n : Nat) (h : n ≤ 1000000) : FnD Try.prog q 72 [.string ⟨#[0]⟩, .int .i64 (n : Int)] [] (.string (bl (List.replicate n 0))) [] :=
  FnD.of_below Try.call72 fun w => by
    have := Try.strings_Repeat ⟨#[0]⟩ n w (by omega) (by show 1 * n ≤ _; omega)
    refine this.mono ?_
    rintro e' w' ⟨rfl, hb⟩
    exact ⟨by rw [show (⟨#[0]⟩ : ByteArray).data.toList = [0] from rfl, repeatL_one]; rfl, hb⟩
def blankB : ByteArray := bl (List.replicate 512 0)
theorem blank_spec (q : View) : FnD Try.prog q 56 [] [] (.tuple #[.string blankB, .int .i64 255]) [] := by
  have c : FnD Try.prog q 72 [.string ⟨#[0]⟩, .int .i64 512] [] (.string blankB) [] := repeat_spec q 512 (by decide)
  obtain ⟨X, hX⟩ : ∃ X, X = blankB := ⟨_, rfl⟩
  rw [← hX] at c ⊢
  (first | refine FnD.go Try.call56 Try.func56 rfl rfl rfl ?_ | refine FnX.go Try.call56 Try.func56 rfl rfl rfl ?_)
  (repeat (first | refine g ?_))
  refine s_call c ?_
  (repeat (first | refine g ?_))
  exact run_ret rfl (imp_RD rfl shut)
theorem at_ok (q : View) (pr pm : Option Addr) (cr cm : Nat) (raws : List ByteArray) (masks : List Int) (hm : RowQ q pm masks.length 1 (masks.map (Value.int .i64))) (hlr : raws.length ≤ 1000000) (hlm : masks.length ≤ 9223372036854775807) (i : Nat) (raw : ByteArray) (m : Int) (hi : raws[i]? = some raw) (hmi : masks[i]? = some m) (hz : raw.size = 512) :
    FnD Try.prog q 29 [.agg ⟨[.slice pr raws.length cr, .slice pm masks.length cm]⟩, .int .i64 (i : Int)] [sl pr raws.length cr 9 1 (raws.map Value.string)] (.tuple #[.string raw, .int .i64 m]) [sl pr raws.length cr 9 1 (raws.map Value.string)] := by
  have h1 : i < raws.length := (List.getElem?_eq_some_iff.1 hi).1
  have h2 : i < masks.length := (List.getElem?_eq_some_iff.1 hmi).1
  have hx : (raws.map Value.string)[i]? = some (.string raw) := by rw [List.getElem?_map, hi]; rfl
  have hy : (masks.map (Value.int .i64))[i]? = some (.int .i64 m) := by rw [List.getElem?_map, hmi]; rfl
  obtain ⟨bm, om, ep, ho⟩ := hm.old (by omega)
  subst ep
  (first | refine FnD.go Try.call29 Try.func29 rfl rfl rfl ?_ | refine FnX.go Try.call29 Try.func29 rfl rfl rfl ?_)
  (repeat (first | refine g ?_ | refine s_flat 3 [(.pure, [0, 2, 5, 7]), (.mem true, [1]), (.pure, [3]), (.mem true, [4]), (.pure, [10]), (.mem true, [6]), (.pure, [8]), (.mem true, [9]), (.pure, [11])] ?_))
  refine s_box fun b2 => ?_
  refine s_ptr pr (h0 := by omega) (fun br er _ _ => ?_)
  subst er
  (repeat (first | refine g ?_ | refine s_flat 3 [(.pure, [0, 2, 5, 7]), (.mem true, [1]), (.pure, [3]), (.mem true, [4]), (.pure, [10]), (.mem true, [6]), (.pure, [8]), (.mem true, [9]), (.pure, [11])] ?_))
  refine s_loadsl hx ?_
  (repeat (first | refine g ?_ | refine s_flat 3 [(.pure, [0, 2, 5, 7]), (.mem true, [1]), (.pure, [3]), (.mem true, [4]), (.pure, [10]), (.mem true, [6]), (.pure, [8]), (.mem true, [9]), (.pure, [11])] ?_))
  refine s_loadsl hx ?_
  (repeat (first | refine g ?_ | refine s_flat 3 [(.pure, [0, 2, 5, 7]), (.mem true, [1]), (.pure, [3]), (.mem true, [4]), (.pure, [10]), (.mem true, [6]), (.pure, [8]), (.mem true, [9]), (.pure, [11])] ?_))
  refine s_idxo (kk := 1) (om + i * 1) ?_
  (repeat (first | refine g ?_ | refine s_flat 3 [(.pure, [0, 2, 5, 7]), (.mem true, [1]), (.pure, [3]), (.mem true, [4]), (.pure, [10]), (.mem true, [6]), (.pure, [8]), (.mem true, [9]), (.pure, [11])] ?_))
  refine s_loado (j := i * 1) ho (by rw [Nat.mul_one]; exact hy) ?_
  (repeat (first | refine g ?_ | refine s_flat 3 [(.pure, [0, 2, 5, 7]), (.mem true, [1]), (.pure, [3]), (.mem true, [4]), (.pure, [10]), (.mem true, [6]), (.pure, [8]), (.mem true, [9]), (.pure, [11])] ?_))
  exact run_ret rfl (imp_RD rfl shut)
theorem at_blank (q : View) (pr pm : Option Addr) (cr cm : Nat) (raws : List ByteArray) (masks : List Int) (hlr : raws.length ≤ 1000000) (hlm : masks.length ≤ 9223372036854775807) (a : Int)
    (hbad : a < 0 ∨ (raws.length : Int) ≤ a ∨ (masks.length : Int) ≤ a ∨ ∃ (i : Nat) (raw : ByteArray), a = i ∧ raws[i]? = some raw ∧ raw.size ≠ 512) :
    FnD Try.prog q 29 [.agg ⟨[.slice pr raws.length cr, .slice pm masks.length cm]⟩, .int .i64 a] [sl pr raws.length cr 9 1 (raws.map Value.string)] (.tuple #[.string blankB, .int .i64 255]) [sl pr raws.length cr 9 1 (raws.map Value.string)] := by
  have cb := blank_spec q
  obtain ⟨X, hX⟩ : ∃ X, X = blankB := ⟨_, rfl⟩
  rw [← hX] at cb ⊢
  by_cases h0 : a < 0
  · (first | refine FnD.go Try.call29 Try.func29 rfl rfl rfl ?_ | refine FnX.go Try.call29 Try.func29 rfl rfl rfl ?_)
    (repeat (first | refine g ?_ | refine s_flat 3 [(.pure, [0, 2, 5, 7]), (.mem true, [1]), (.pure, [3]), (.mem true, [4]), (.pure, [10]), (.mem true, [6]), (.pure, [8]), (.mem true, [9]), (.pure, [11])] ?_))
    refine s_box fun b2 => ?_
    (repeat (first | refine g ?_ | refine s_flat 3 [(.pure, [0, 2, 5, 7]), (.mem true, [1]), (.pure, [3]), (.mem true, [4]), (.pure, [10]), (.mem true, [6]), (.pure, [8]), (.mem true, [9]), (.pure, [11])] ?_))
    refine s_call cb ?_
    (repeat (first | refine g ?_ | refine s_flat 3 [(.pure, [0, 2, 5, 7]), (.mem true, [1]), (.pure, [3]), (.mem true, [4]), (.pure, [10]), (.mem true, [6]), (.pure, [8]), (.mem true, [9]), (.pure, [11])] ?_))
    exact run_ret rfl (imp_RD rfl shut)
  by_cases h1 : (raws.length : Int) ≤ a
  · (first | refine FnD.go Try.call29 Try.func29 rfl rfl rfl ?_ | refine FnX.go Try.call29 Try.func29 rfl rfl rfl ?_)
    (repeat (first | refine g ?_ | refine s_flat 3 [(.pure, [0, 2, 5, 7]), (.mem true, [1]), (.pure, [3]), (.mem true, [4]), (.pure, [10]), (.mem true, [6]), (.pure, [8]), (.mem true, [9]), (.pure, [11])] ?_))
    refine s_box fun b2 => ?_
    (repeat (first | refine g ?_ | refine s_flat 3 [(.pure, [0, 2, 5, 7]), (.mem true, [1]), (.pure, [3]), (.mem true, [4]), (.pure, [10]), (.mem true, [6]), (.pure, [8]), (.mem true, [9]), (.pure, [11])] ?_))
    refine s_call cb ?_
    (repeat (first | refine g ?_ | refine s_flat 3 [(.pure, [0, 2, 5, 7]), (.mem true, [1]), (.pure, [3]), (.mem true, [4]), (.pure, [10]), (.mem true, [6]), (.pure, [8]), (.mem true, [9]), (.pure, [11])] ?_))
    exact run_ret rfl (imp_RD rfl shut)
  by_cases h2 : (masks.length : Int) ≤ a
  · (first | refine FnD.go Try.call29 Try.func29 rfl rfl rfl ?_ | refine FnX.go Try.call29 Try.func29 rfl rfl rfl ?_)
    (repeat (first | refine g ?_ | refine s_flat 3 [(.pure, [0, 2, 5, 7]), (.mem true, [1]), (.pure, [3]), (.mem true, [4]), (.pure, [10]), (.mem true, [6]), (.pure, [8]), (.mem true, [9]), (.pure, [11])] ?_))
    refine s_box fun b2 => ?_
    (repeat (first | refine g ?_ | refine s_flat 3 [(.pure, [0, 2, 5, 7]), (.mem true, [1]), (.pure, [3]), (.mem true, [4]), (.pure, [10]), (.mem true, [6]), (.pure, [8]), (.mem true, [9]), (.pure, [11])] ?_))
    refine s_call cb ?_
    (repeat (first | refine g ?_ | refine s_flat 3 [(.pure, [0, 2, 5, 7]), (.mem true, [1]), (.pure, [3]), (.mem true, [4]), (.pure, [10]), (.mem true, [6]), (.pure, [8]), (.mem true, [9]), (.pure, [11])] ?_))
    exact run_ret rfl (imp_RD rfl shut)
  obtain ⟨i, raw, rfl, hi, hz⟩ : ∃ (i : Nat) (raw : ByteArray), a = i ∧ raws[i]? = some raw ∧ raw.size ≠ 512 := by
    rcases hbad with h | h | h | h
    · exact absurd h h0
    · exact absurd h h1
    · exact absurd h h2
    · exact h
  have h1 : i < raws.length := (List.getElem?_eq_some_iff.1 hi).1
  have hx : (raws.map Value.string)[i]? = some (.string raw) := by rw [List.getElem?_map, hi]; rfl
  (first | refine FnD.go Try.call29 Try.func29 rfl rfl rfl ?_ | refine FnX.go Try.call29 Try.func29 rfl rfl rfl ?_)
  (repeat (first | refine g ?_ | refine s_flat 3 [(.pure, [0, 2, 5, 7]), (.mem true, [1]), (.pure, [3]), (.mem true, [4]), (.pure, [10]), (.mem true, [6]), (.pure, [8]), (.mem true, [9]), (.pure, [11])] ?_))
  refine s_box fun b2 => ?_
  refine s_ptr pr (h0 := by omega) (fun br er _ _ => ?_)
  subst er
  (repeat (first | refine g ?_ | refine s_flat 3 [(.pure, [0, 2, 5, 7]), (.mem true, [1]), (.pure, [3]), (.mem true, [4]), (.pure, [10]), (.mem true, [6]), (.pure, [8]), (.mem true, [9]), (.pure, [11])] ?_))
  refine s_loadsl hx ?_
  (repeat (first | refine g ?_ | refine s_flat 3 [(.pure, [0, 2, 5, 7]), (.mem true, [1]), (.pure, [3]), (.mem true, [4]), (.pure, [10]), (.mem true, [6]), (.pure, [8]), (.mem true, [9]), (.pure, [11])] ?_))
  refine s_call cb ?_
  (repeat (first | refine g ?_ | refine s_flat 3 [(.pure, [0, 2, 5, 7]), (.mem true, [1]), (.pure, [3]), (.mem true, [4]), (.pure, [10]), (.mem true, [6]), (.pure, [8]), (.mem true, [9]), (.pure, [11])] ?_))
  exact run_ret rfl (imp_RD rfl shut)
end Go.Proofs.Ytajndpddlpnbkaa.V
namespace Go.Proofs.Ytajndpddlpnbkaa.V
open Go.Proofs.Ytajndpddlpnbkaa.VL Go.Proofs.Ytajndpddlpnbkaa.VL.Sha
attribute [local irreducible] Run numB
theorem look_no (q : View) (v : Value) (W L : HProp) (s1 s2 : Value) (a m : Int) (raw : ByteArray) (hm : m ≠ 0)
    (cA : FnD Try.prog q 29 [.agg ⟨[s1, s2]⟩, .int .i64 a] [L] (.tuple #[.string raw, .int .i64 m]) [L]) (h1 : one1 s1 = true) (h2 : one1 s2 = true) :
    FnD Try.prog q 18 [v, .agg ⟨[s1, s2]⟩, .int .i64 a] [W, L] (.agg ⟨encR noR⟩) [W, L] := by
  (first | refine FnD.go Try.call18 Try.func18 rfl rfl rfl ?_ | refine FnX.go Try.call18 Try.func18 rfl rfl rfl ?_)
  (repeat (first | refine g ?_))
  refine s_box fun b4 => ?_
  (repeat (first | refine g ?_))
  refine s_alloc fun r6 => ?_
  (repeat (first | refine g ?_))
  refine s_call cA ?_
  (repeat (first | refine g ?_))
  refine s_ceq r6 (encR noR) ?_ ?_
  · rfl
  refine run_ret1 (imp_RD ?_ shut) rfl (res_cell tabOk rfl rfl rfl (by repeat (first | (with_reducible exact At.head) | apply At.tail)) rfl)
  rfl
theorem look_ok (q : View) (v : Value) (W W' L : HProp) (s1 s2 : Value) (a : Int) (raw : ByteArray) (r : ReadT)
    (cA : FnD Try.prog q 29 [.agg ⟨[s1, s2]⟩, .int .i64 a] [L] (.tuple #[.string raw, .int .i64 0]) [L]) (h1 : one1 s1 = true) (h2 : one1 s2 = true)
    (ct : FnD Try.prog q 12 [v, .string raw, .int .i64 a] [W] (.agg ⟨encR r⟩) [W']) :
    FnD Try.prog q 18 [v, .agg ⟨[s1, s2]⟩, .int .i64 a] [W, L] (.agg ⟨encR r⟩) [W', L] := by
  unfold encR encH at ct
  (first | refine FnD.go Try.call18 Try.func18 rfl rfl rfl ?_ | refine FnX.go Try.call18 Try.func18 rfl rfl rfl ?_)
  (repeat (first | refine g ?_))
  refine s_box fun b4 => ?_
  (repeat (first | refine g ?_))
  refine s_alloc fun r6 => ?_
  (repeat (first | refine g ?_))
  refine s_call cA ?_
  (repeat (first | refine g ?_))
  refine s_call ct ?_
  (repeat (first | refine g ?_))
  refine s_ceq r6 (encR r) ?_ ?_
  · rfl
  refine run_ret1 (imp_RD ?_ shut) rfl (res_cell tabOk rfl rfl rfl (by repeat (first | (with_reducible exact At.head) | apply At.tail)) rfl)
  rfl
theorem uR : Try.prog.underlying 32 = some ty32.und := by kernel_rfl
theorem cR : Try.prog.cellsOf 32 = 10 := by kernel_rfl
theorem uBo : Try.prog.underlying 4 = some .bool := by kernel_rfl
theorem uSt : Try.prog.underlying 9 = some .string := by kernel_rfl
theorem cBo : Try.prog.cellsOf 4 = 1 := by kernel_rfl
theorem cSt : Try.prog.cellsOf 9 = 1 := by kernel_rfl
def litsR (r : ReadT) : List Lit := .bool r.ok :: (litsH r.head ++ [.string r.body.data.toList])
theorem read_lits (d : Nat) (r : ReadT) (hh : HeadOk r.head) (hb : r.body.size ≤ 9223372036854775807) : Try.prog.keyLits (d + 3) 32 (encR r) = some (litsR r) := by
  have lb : Try.prog.keyLits (d + 2) 4 [.bool r.ok] = some [.bool r.ok] := by unfold Program.keyLits; rw [uBo]
  have lh := head_lits d r.head hh
  have lt : Try.prog.keyLits (d + 2) 9 [.string r.body] = some [.string r.body.data.toList] := by
    unfold Program.keyLits; rw [uSt]
    show (if _ then _ else _) = _
    rw [if_pos (show r.body.size ≤ maxLen from by unfold maxLen; omega)]
  unfold encH at lh
  unfold Program.keyLits
  rw [uR]
  show (if _ then _ else _) = _
  rw [if_pos ⟨by rw [cR]; rfl, by kernel_rfl⟩]
  unfold encR encH litsR
  simp [List.mapM_cons, cBo, cH, cSt, lb, lh, lt]
def HeadsQ (q : View) (p : Option Addr) (l : List HeadT) : Prop := RowQ q p l.length 8 (l.flatMap encH) ∧ ∀ x ∈ l, HeadOk x
theorem enc8 (l : List HeadT) (i : Nat) (x : HeadT) (h : l[i]? = some x) (j : Nat) (hj : j < 8) : (l.flatMap encH)[i * 8 + j]? = (encH x)[j]? := by
  induction l generalizing i with
  | nil => cases h
  | cons y l ih =>
    rw [List.flatMap_cons]
    have e5 : (encH y).length = 8 := rfl
    cases i with
    | zero =>
      obtain rfl := Option.some.inj h
      rw [List.getElem?_append_left (by omega)]; congr 1; omega
    | succ i =>
      rw [List.getElem?_append_right (by omega), e5, show (i + 1) * 8 + j - 8 = i * 8 + j by omega]
      exact ih i h
theorem enc8_len (l : List HeadT) : (l.flatMap encH).length = l.length * 8 := by
  induction l with
  | nil => rfl
  | cons y l ih => rw [List.flatMap_cons, List.length_append, ih, List.length_cons]; show 8 + _ = _; omega
theorem enc8_all (l : List HeadT) (i : Nat) (x : HeadT) (h : l[i]? = some x) : ((l.flatMap encH).drop (i * 8)).take 8 = encH x := by
  apply List.ext_getElem?
  intro j
  rw [List.getElem?_take, List.getElem?_drop]
  split
  · rename_i hj; exact enc8 l i x h j hj
  · rename_i hj; exact (List.getElem?_eq_none (by show 8 ≤ j; omega)).symm
theorem HeadsQ.at {q : View} {p : Option Addr} {l : List HeadT} (h : HeadsQ q p l) (i : Nat) (hi : i < l.length) : ∃ x b o, l[i]? = some x ∧ HeadOk x ∧ p = some ⟨b, o, none⟩ ∧ Old q b o (l.flatMap encH) ∧ ((l.flatMap encH).drop (i * 8)).take 8 = encH x ∧ i * 8 + 8 ≤ (l.flatMap encH).length := by
  obtain ⟨b, o, ep, ho⟩ := h.1.old (by omega)
  have e : l[i]? = some l[i] := List.getElem?_eq_getElem hi
  refine ⟨l[i], b, o, e, h.2 _ (List.getElem_mem hi), ep, ho, enc8_all l i _ e, ?_⟩
  rw [enc8_len]; omega
end Go.Proofs.Ytajndpddlpnbkaa.V
namespace Go.Proofs.Ytajndpddlpnbkaa.V
open Go.Proofs.Ytajndpddlpnbkaa.VL Go.Proofs.Ytajndpddlpnbkaa.VL.Sha
attribute [local irreducible] Run numB
theorem bsealF_vok {n : Nat} {s : VSt} (hs : VOk n s) (h : HeadT) (body : ByteArray) : VOk (n + 1) (bsealF s h body).2 := by
  by_cases hz : body.size = 448
  · cases hok : (fldH h).all okN with
    | false => rw [bsealF_no s h body hz hok]; exact hs.mono (by omega)
    | true => rw [bsealF_ok s h body hz hok]; exact sealS_ok hs h body
  · unfold bsealF
    rw [if_pos hz]; exact hs.mono (by omega)
theorem zeroH_ok : HeadOk zeroH := by constructor <;> decide
theorem iopenF_fits (s : VSt) (n : Int) (no ad t : ByteArray) : (iopenF s n no ad t).1.size ≤ t.size := by
  unfold iopenF
  split
  · split
    · show (t.extract 0 (t.size - 16)).size ≤ _
      rw [ByteArray.size_extract]; omega
    · exact Nat.zero_le _
  · exact Nat.zero_le _
theorem openF_fits (s : VSt) (n : Int) (no ad t : ByteArray) : (openF s n no ad t).1.size ≤ t.size := by
  unfold openF
  split
  · exact Nat.zero_le _
  · split
    · exact Nat.zero_le _
    · exact iopenF_fits s n no ad t
theorem bopenF_fits (s : VSt) (raw : ByteArray) : HeadOk (bopenF s raw).1 ∧ (bopenF s raw).2.1.size ≤ 1000000 := by
  by_cases hz : raw.size = 512
  · by_cases hg : headGood raw
    · rw [bopenF_ok s raw hz hg]
      dsimp only
      have hf : (bopenR s raw).1.size ≤ 464 := by
        refine Nat.le_trans (openF_fits s _ _ _ _) ?_
        rw [ByteArray.size_extract]; omega
      constructor
      · split
        · exact headP_ok _
        · exact zeroH_ok
      · split
        · omega
        · exact Nat.zero_le _
    · rw [bopenF_no s raw hz hg]; exact ⟨zeroH_ok, Nat.zero_le _⟩
  · rw [bopenF_len s raw hz]; exact ⟨zeroH_ok, Nat.zero_le _⟩
theorem btoldF_fits (s : VSt) (raw : ByteArray) (a : Int) : HeadOk (btoldF s raw a).head ∧ (btoldF s raw a).body.size ≤ 1000000 := by
  have h := bopenF_fits s raw
  unfold btoldF toldR
  split
  · exact h
  · exact ⟨zeroH_ok, Nat.zero_le _⟩
theorem btoldF_len (s : VSt) (raw : ByteArray) (a : Int) (hz : raw.size ≠ 512) : btoldF s raw a = noR := by
  unfold btoldF toldR
  rw [bopenF_len s raw hz, if_neg (fun h => absurd h.1 (by decide))]
set_option maxHeartbeats 2000000 in
theorem looks_spec (q : View) (hp : Option Addr) (hc : Nat) (heads : List HeadT) (hhq : HeadsQ q hp heads) (hhl : heads.length ≤ 9223372036854775807) (pm : Option Addr) (cm : Nat) (masks : List Int) (hm : RowQ q pm masks.length 1 (masks.map (Value.int .i64))) (hlm : masks.length ≤ 9223372036854775807) (cut a : Int) :
    FnD Try.prog q 7 [.slice hp heads.length hc, .slice pm masks.length cm, .int .i64 cut, .int .i64 a] [] (.bool true) [] := by
  have ca := awake6_spec q
  have cb := body_spec q ⟨#[97, 98, 99]⟩
  obtain ⟨X, hX⟩ : ∃ X, X = bodyF ⟨#[97, 98, 99]⟩ := ⟨_, rfl⟩
  rw [← hX] at cb
  (first | refine FnD.go Try.call7 Try.func7 rfl rfl rfl ?_ | refine FnX.go Try.call7 Try.func7 rfl rfl rfl ?_)
  (repeat (first | refine g ?_))
  refine s_callx (ideal_new q) fun v => ?_
  (repeat (first | refine g ?_))
  refine s_alloc fun b => ?_
  (repeat (first | refine g ?_))
  refine run_cutI (X := VSt × List ByteArray × Option Addr × Nat) (fun x => VOk 8 x.1 ∧ x.2.1.length ≤ 8) (fun x => [(0, .slice hp heads.length hc), (1, .slice pm masks.length cm), (2, .int .i64 cut), (3, .int .i64 a), (9, .pointer (some ⟨v, 0, none⟩)), (10, .pointer (some ⟨b, 0, none⟩))])
    (fun x => [vaultAt v x.1, cells b 55 ⟨[.slice x.2.2.1 x.2.1.length x.2.2.2, .slice none 0 0]⟩, sl x.2.2.1 x.2.1.length x.2.2.2 9 1 (x.2.1.map Value.string)]) ?_ fun ⟨s, raws, pr, cr⟩ ⟨hs, hl8⟩ => ?_
  · refine run_loopI (X := Nat × VSt × List ByteArray × Option Addr × Nat) (fun x => (x.1 ≤ heads.length ∧ x.1 ≤ 8) ∧ VOk x.1 x.2.1 ∧ x.2.2.1.length = x.1) (fun x => [(0, .slice hp heads.length hc), (1, .slice pm masks.length cm), (2, .int .i64 cut), (3, .int .i64 a), (9, .pointer (some ⟨v, 0, none⟩)), (10, .pointer (some ⟨b, 0, none⟩)), (11, .int .i64 (x.1 : Int))])
      (fun x => [vaultAt v x.2.1, cells b 55 ⟨[.slice x.2.2.2.1 x.2.2.1.length x.2.2.2.2, .slice none 0 0]⟩, sl x.2.2.2.1 x.2.2.1.length x.2.2.2.2 9 1 (x.2.2.1.map Value.string)]) (fun x => 8 - x.1) (0, s00, [], none, 0) ⟨⟨Nat.zero_le _, Nat.zero_le _⟩, s00_ok, rfl⟩ fct shut ?_
    intro ⟨i, s, raws, pr, cr⟩ ⟨⟨hi, hi8⟩, hs, hlr⟩
    dsimp only at *
    (repeat (first | refine g ?_))
    by_cases h1 : i < heads.length ∧ i < 8
    · obtain ⟨h1, h2⟩ := h1
      obtain ⟨x, bh, oh, hx, hxo, ep, ho, hxa, hxl⟩ := hhq.at i h1
      subst ep
      have cs := bseal_ideal q v s (hs.mono (by omega)) x hxo X
      have hsz := bsealF_size s x X
      have hvk := bsealF_vok hs x X
      obtain ⟨⟨⟨ra, ea⟩, Sa⟩, hA⟩ : ∃ A, A = bsealF s x X := ⟨_, rfl⟩
      rw [← hA] at cs hsz hvk
      dsimp only at cs hsz hvk
      (repeat (first | refine g ?_))
      refine d_start [vaultAt v s] ?_
      (first | refine d_pure 0 ?_ | refine d_load 0 ?_ | refine d_arith 0 ?_ | refine d_rem 0 ?_ | refine d_quo 0 ?_ | refine d_shrv 0 ?_ | refine d_fieldat 0 ?_ | refine d_idx1 0 ?_ | refine d_index 0 ?_ | refine d_conv64 0 ?_ | refine d_slices 0 ?_ | refine d_concat 0 ?_ | refine d_build 0 ?_)
      (first | refine d_pure 1 ?_ | refine d_load 1 ?_ | refine d_arith 1 ?_ | refine d_rem 1 ?_ | refine d_quo 1 ?_ | refine d_shrv 1 ?_ | refine d_fieldat 1 ?_ | refine d_idx1 1 ?_ | refine d_index 1 ?_ | refine d_conv64 1 ?_ | refine d_slices 1 ?_ | refine d_concat 1 ?_ | refine d_build 1 ?_)
      (first | refine d_pure 2 ?_ | refine d_load 2 ?_ | refine d_arith 2 ?_ | refine d_rem 2 ?_ | refine d_quo 2 ?_ | refine d_shrv 2 ?_ | refine d_fieldat 2 ?_ | refine d_idx1 2 ?_ | refine d_index 2 ?_ | refine d_conv64 2 ?_ | refine d_slices 2 ?_ | refine d_concat 2 ?_ | refine d_build 2 ?_)
      refine d_idxo 3 (kk := 8) (oh + i * 8) ?_
      refine d_loadao 4 (j := i * 8) ho hxa hxl (by omega) ?_
      refine d_call 5 cb ?_
      refine d_call 6 cs ?_
      (first | refine d_pure 7 ?_ | refine d_load 7 ?_ | refine d_arith 7 ?_ | refine d_rem 7 ?_ | refine d_quo 7 ?_ | refine d_shrv 7 ?_ | refine d_fieldat 7 ?_ | refine d_idx1 7 ?_ | refine d_index 7 ?_ | refine d_conv64 7 ?_ | refine d_slices 7 ?_ | refine d_concat 7 ?_ | refine d_build 7 ?_)
      (first | refine d_pure 8 ?_ | refine d_load 8 ?_ | refine d_arith 8 ?_ | refine d_rem 8 ?_ | refine d_quo 8 ?_ | refine d_shrv 8 ?_ | refine d_fieldat 8 ?_ | refine d_idx1 8 ?_ | refine d_index 8 ?_ | refine d_conv64 8 ?_ | refine d_slices 8 ?_ | refine d_concat 8 ?_ | refine d_build 8 ?_)
      (first | refine d_pure 9 ?_ | refine d_load 9 ?_ | refine d_arith 9 ?_ | refine d_rem 9 ?_ | refine d_quo 9 ?_ | refine d_shrv 9 ?_ | refine d_fieldat 9 ?_ | refine d_idx1 9 ?_ | refine d_index 9 ?_ | refine d_conv64 9 ?_ | refine d_slices 9 ?_ | refine d_concat 9 ?_ | refine d_build 9 ?_)
      (first | refine d_pure 10 ?_ | refine d_load 10 ?_ | refine d_arith 10 ?_ | refine d_rem 10 ?_ | refine d_quo 10 ?_ | refine d_shrv 10 ?_ | refine d_fieldat 10 ?_ | refine d_idx1 10 ?_ | refine d_index 10 ?_ | refine d_conv64 10 ?_ | refine d_slices 10 ?_ | refine d_concat 10 ?_ | refine d_build 10 ?_)
      (first | refine d_pure 11 ?_ | refine d_load 11 ?_ | refine d_arith 11 ?_ | refine d_rem 11 ?_ | refine d_quo 11 ?_ | refine d_shrv 11 ?_ | refine d_fieldat 11 ?_ | refine d_idx1 11 ?_ | refine d_index 11 ?_ | refine d_conv64 11 ?_ | refine d_slices 11 ?_ | refine d_concat 11 ?_ | refine d_build 11 ?_)
      refine d_done ?_
      by_cases hcut : (i : Int) = cut
      · (repeat (first | refine g ?_))
        refine s_built fun rn => ?_
        (repeat (first | refine g ?_))
        refine s_app 1 16 (reads_own At.head rfl) (hxl := by rw [List.length_map, Nat.mul_one]) fun r2 => ?_
        refine s_eq (show raws.map Value.string ++ [Value.string (ra.extract (0 : Int).toNat ((ra.size : Int) / 2).toNat)] = (raws ++ [ra.extract (0 : Int).toNat ((ra.size : Int) / 2).toNat]).map Value.string by rw [List.map_append]; rfl) ?_
        rw [show raws.length + 1 = (raws ++ [ra.extract (0 : Int).toNat ((ra.size : Int) / 2).toNat]).length by rw [List.length_append]; rfl]
        (repeat (first | refine g ?_))
        refine run_stop_loop (i + 1, Sa, raws ++ [ra.extract (0 : Int).toNat ((ra.size : Int) / 2).toNat], r2) ⟨⟨⟨by omega, by omega⟩, hvk, by rw [List.length_append, hlr]; rfl⟩, by dsimp only; omega⟩ fct shut
      · (repeat (first | refine g ?_))
        refine s_built fun rn => ?_
        (repeat (first | refine g ?_))
        refine s_app 1 16 (reads_own At.head rfl) (hxl := by rw [List.length_map, Nat.mul_one]) fun r2 => ?_
        refine s_eq (show raws.map Value.string ++ [Value.string (ra)] = (raws ++ [ra]).map Value.string by rw [List.map_append]; rfl) ?_
        rw [show raws.length + 1 = (raws ++ [ra]).length by rw [List.length_append]; rfl]
        (repeat (first | refine g ?_))
        refine run_stop_loop (i + 1, Sa, raws ++ [ra], r2) ⟨⟨⟨by omega, by omega⟩, hvk, by rw [List.length_append, hlr]; rfl⟩, by dsimp only; omega⟩ fct shut
    · by_cases h1 : i < heads.length
      · have h2 : ¬ i < 8 := fun h => by omega
        (repeat (first | refine g ?_))
        exact run_stop_loop (s, raws, pr, cr) ⟨hs.mono (by omega), by show raws.length ≤ 8; omega⟩ fct shut
      · (repeat (first | refine g ?_))
        exact run_stop_loop (s, raws, pr, cr) ⟨hs.mono (by omega), by show raws.length ≤ 8; omega⟩ fct shut
  · dsimp only at *
    (repeat (first | refine g ?_))
    have kn : Try.prog.keyLits 4 32 (encR noR) = some (litsR noR) := read_lits 1 noR zeroH_ok (Nat.zero_le _)
    have bad : a < 0 ∨ (raws.length : Int) ≤ a ∨ (masks.length : Int) ≤ a → FnD Try.prog q 18 [.pointer (some ⟨v, 0, none⟩), .agg ⟨[.slice pr raws.length cr, .slice pm masks.length cm]⟩, .int .i64 a] [vaultAt v s, sl pr raws.length cr 9 1 (raws.map Value.string)] (.agg ⟨encR noR⟩) [vaultAt v s, sl pr raws.length cr 9 1 (raws.map Value.string)] := fun hb =>
      look_no q _ _ _ _ _ a 255 blankB (by decide) (at_blank q pr pm cr cm raws masks (by omega) hlm a (hb.elim .inl fun h => .inr (h.elim .inl fun h => .inr (.inl h)))) rfl rfl
    by_cases h0 : a < 0
    · have cL := bad (.inl h0)
      unfold encR encH noR zeroH at cL
      (repeat (first | refine g ?_))
      refine s_call cL ?_
      (repeat (first | refine g ?_))
      refine s_alloc fun r14 => ?_
      (repeat (first | refine g ?_))

      (repeat (first | refine g ?_))
      refine s_eqk 6 4 true (la := litsR noR) (lb := litsR noR) ?_ ?_ (ka := kn) (kb := kn)
      · simp
      (repeat (first | refine g ?_))
      refine s_call ca ?_
      (repeat (first | refine g ?_))
      exact run_ret rfl (imp_RD rfl shut)
    by_cases h1 : (raws.length : Int) ≤ a
    · have cL := bad (.inr (.inl h1))
      unfold encR encH noR zeroH at cL
      (repeat (first | refine g ?_))
      refine s_call cL ?_
      (repeat (first | refine g ?_))
      refine s_alloc fun r14 => ?_
      (repeat (first | refine g ?_))

      (repeat (first | refine g ?_))
      refine s_eqk 6 4 true (la := litsR noR) (lb := litsR noR) ?_ ?_ (ka := kn) (kb := kn)
      · simp
      (repeat (first | refine g ?_))
      refine s_call ca ?_
      (repeat (first | refine g ?_))
      exact run_ret rfl (imp_RD rfl shut)
    by_cases h2 : (masks.length : Int) ≤ a
    · have cL := bad (.inr (.inr h2))
      unfold encR encH noR zeroH at cL
      (repeat (first | refine g ?_))
      refine s_call cL ?_
      (repeat (first | refine g ?_))
      refine s_alloc fun r14 => ?_
      (repeat (first | refine g ?_))

      (repeat (first | refine g ?_))
      refine s_eqk 6 4 true (la := litsR noR) (lb := litsR noR) ?_ ?_ (ka := kn) (kb := kn)
      · simp
      (repeat (first | refine g ?_))
      refine s_call ca ?_
      (repeat (first | refine g ?_))
      exact run_ret rfl (imp_RD rfl shut)
    clear bad
    obtain ⟨i, rfl⟩ : ∃ i : Nat, a = i := ⟨a.toNat, by omega⟩
    have hi1 : i < raws.length := by omega
    have hi2 : i < masks.length := by omega
    obtain ⟨raw, hraw⟩ : ∃ raw, raws[i]? = some raw := ⟨_, List.getElem?_eq_getElem hi1⟩
    obtain ⟨m, hmi⟩ : ∃ m, masks[i]? = some m := ⟨_, List.getElem?_eq_getElem hi2⟩
    have hx : (raws.map Value.string)[i]? = some (.string raw) := by rw [List.getElem?_map, hraw]; rfl
    have hy : (masks.map (Value.int .i64))[i]? = some (.int .i64 m) := by rw [List.getElem?_map, hmi]; rfl
    have ct := btold_ideal q v s (hs.mono (by decide)) raw (i : Int)
    have cL : FnD Try.prog q 18 [.pointer (some ⟨v, 0, none⟩), .agg ⟨[.slice pr raws.length cr, .slice pm masks.length cm]⟩, .int .i64 (i : Int)] [vaultAt v s, sl pr raws.length cr 9 1 (raws.map Value.string)] (.agg ⟨encR (if m = 0 then btoldF s raw i else noR)⟩) [vaultAt v s, sl pr raws.length cr 9 1 (raws.map Value.string)] := by
      by_cases hz : raw.size = 512
      · have cA := at_ok q pr pm cr cm raws masks hm (by omega) hlm i raw m hraw hmi hz
        by_cases hm0 : m = 0
        · subst hm0
          rw [if_pos rfl]
          exact look_ok q _ _ _ _ _ _ _ raw _ cA rfl rfl ct
        · rw [if_neg hm0]
          exact look_no q _ _ _ _ _ _ m raw hm0 cA rfl rfl
      · have cA := at_blank q pr pm cr cm raws masks (by omega) hlm i (.inr (.inr (.inr ⟨i, raw, rfl, hraw, hz⟩)))
        rw [show (if m = 0 then btoldF s raw i else noR) = noR by rw [btoldF_len s raw i hz, ite_self]]
        exact look_no q _ _ _ _ _ _ 255 blankB (by decide) cA rfl rfl
    obtain ⟨bm, om, ep, ho⟩ := hm.old (by omega)
    subst ep
    have hf := btoldF_fits s raw i
    obtain ⟨T, hT⟩ : ∃ T, T = btoldF s raw i := ⟨_, rfl⟩
    rw [← hT] at cL ct hf
    by_cases hm0 : m = 0
    · subst hm0
      rw [if_pos rfl] at cL
      have kt := read_lits 1 T hf.1 (by omega)
      unfold encR encH at cL ct kt
      (repeat (first | refine g ?_))
      refine s_call cL ?_
      (repeat (first | refine g ?_))
      refine s_alloc fun r14 => ?_
      (repeat (first | refine g ?_))
      refine s_idxo (kk := 1) (om + i * 1) ?_
      (repeat (first | refine g ?_))
      refine s_loado (j := i * 1) ho (by rw [Nat.mul_one]; exact hy) ?_
      refine s_ptr pr (h0 := by omega) (fun br er _ _ => ?_)
      subst er
      (repeat (first | refine g ?_))
      refine d_start [vaultAt v s, sl (some ⟨br, 0, none⟩) raws.length cr 9 1 (raws.map Value.string)] ?_
      refine d_getall 0 rfl ?_
      (first | refine d_pure 1 ?_ | refine d_load 1 ?_ | refine d_arith 1 ?_ | refine d_rem 1 ?_ | refine d_quo 1 ?_ | refine d_shrv 1 ?_ | refine d_fieldat 1 ?_ | refine d_idx1 1 ?_ | refine d_index 1 ?_ | refine d_conv64 1 ?_ | refine d_slices 1 ?_ | refine d_concat 1 ?_ | refine d_build 1 ?_)
      (first | refine d_pure 2 ?_ | refine d_load 2 ?_ | refine d_arith 2 ?_ | refine d_rem 2 ?_ | refine d_quo 2 ?_ | refine d_shrv 2 ?_ | refine d_fieldat 2 ?_ | refine d_idx1 2 ?_ | refine d_index 2 ?_ | refine d_conv64 2 ?_ | refine d_slices 2 ?_ | refine d_concat 2 ?_ | refine d_build 2 ?_)
      (first | refine d_pure 3 ?_ | refine d_load 3 ?_ | refine d_arith 3 ?_ | refine d_rem 3 ?_ | refine d_quo 3 ?_ | refine d_shrv 3 ?_ | refine d_fieldat 3 ?_ | refine d_idx1 3 ?_ | refine d_index 3 ?_ | refine d_conv64 3 ?_ | refine d_slices 3 ?_ | refine d_concat 3 ?_ | refine d_build 3 ?_)
      (first | refine d_pure 4 ?_ | refine d_load 4 ?_ | refine d_arith 4 ?_ | refine d_rem 4 ?_ | refine d_quo 4 ?_ | refine d_shrv 4 ?_ | refine d_fieldat 4 ?_ | refine d_idx1 4 ?_ | refine d_index 4 ?_ | refine d_conv64 4 ?_ | refine d_slices 4 ?_ | refine d_concat 4 ?_ | refine d_build 4 ?_)
      (first | refine d_pure 5 ?_ | refine d_load 5 ?_ | refine d_arith 5 ?_ | refine d_rem 5 ?_ | refine d_quo 5 ?_ | refine d_shrv 5 ?_ | refine d_fieldat 5 ?_ | refine d_idx1 5 ?_ | refine d_index 5 ?_ | refine d_conv64 5 ?_ | refine d_slices 5 ?_ | refine d_concat 5 ?_ | refine d_build 5 ?_)
      (first | refine d_pure 7 ?_ | refine d_load 7 ?_ | refine d_arith 7 ?_ | refine d_rem 7 ?_ | refine d_quo 7 ?_ | refine d_shrv 7 ?_ | refine d_fieldat 7 ?_ | refine d_idx1 7 ?_ | refine d_index 7 ?_ | refine d_conv64 7 ?_ | refine d_slices 7 ?_ | refine d_concat 7 ?_ | refine d_build 7 ?_)
      refine d_via1 6 (h1 := by refine s_loadsl hx ?_; exact run_fin1) (h := ?_)
      refine d_call 8 ct ?_
      refine d_via1 9 (h1 := by refine s_eqk 6 4 true (la := litsR T) (lb := litsR T) ?_ ?_ (ka := kt) (kb := kt); (· simp); exact run_fin1) (h := ?_)
      (first | refine d_pure 10 ?_ | refine d_load 10 ?_ | refine d_arith 10 ?_ | refine d_rem 10 ?_ | refine d_quo 10 ?_ | refine d_shrv 10 ?_ | refine d_fieldat 10 ?_ | refine d_idx1 10 ?_ | refine d_index 10 ?_ | refine d_conv64 10 ?_ | refine d_slices 10 ?_ | refine d_concat 10 ?_ | refine d_build 10 ?_)
      refine d_call 11 ca ?_
      (first | refine d_pure 12 ?_ | refine d_load 12 ?_ | refine d_arith 12 ?_ | refine d_rem 12 ?_ | refine d_quo 12 ?_ | refine d_shrv 12 ?_ | refine d_fieldat 12 ?_ | refine d_idx1 12 ?_ | refine d_index 12 ?_ | refine d_conv64 12 ?_ | refine d_slices 12 ?_ | refine d_concat 12 ?_ | refine d_build 12 ?_)
      (first | refine d_pure 13 ?_ | refine d_load 13 ?_ | refine d_arith 13 ?_ | refine d_rem 13 ?_ | refine d_quo 13 ?_ | refine d_shrv 13 ?_ | refine d_fieldat 13 ?_ | refine d_idx1 13 ?_ | refine d_index 13 ?_ | refine d_conv64 13 ?_ | refine d_slices 13 ?_ | refine d_concat 13 ?_ | refine d_build 13 ?_)
      refine d_done ?_
      (repeat (first | refine g ?_))
      exact run_ret rfl (imp_RD rfl shut)
    · rw [if_neg hm0] at cL
      unfold encR encH noR zeroH at cL
      (repeat (first | refine g ?_))
      refine s_call cL ?_
      (repeat (first | refine g ?_))
      refine s_alloc fun r14 => ?_
      (repeat (first | refine g ?_))
      (refine s_idxo (kk := 1) (om + i * 1) ?_; refine s_loado (j := i * 1) ho (by rw [Nat.mul_one]; exact hy) ?_)
      (repeat (first | refine g ?_))
      refine s_eqk 6 4 true (la := litsR noR) (lb := litsR noR) ?_ ?_ (ka := kn) (kb := kn)
      · simp
      (repeat (first | refine g ?_))
      refine s_call ca ?_
      (repeat (first | refine g ?_))
      exact run_ret rfl (imp_RD rfl shut)
end Go.Proofs.Ytajndpddlpnbkaa.V
