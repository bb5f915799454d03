/- The law VaultHonest. -/
import Derived.Test.YteengkkbedijdaaVK18
set_option maxRecDepth 10000
set_option linter.unusedVariables false
namespace Go.Proofs.Yteengkkbedijdaa.V
open Go.Proofs.Yteengkkbedijdaa.VL Go.Proofs.Yteengkkbedijdaa.VL.RD
attribute [local irreducible] Run numB
theorem open_ok (s : VSt) (n : Int) (no ad x : ByteArray) : (openF s n no ad x).2 = 0 ↔ wrongF n no = false ∧ 16 ≤ x.size ∧ ∃ m, pos s.es (sealedK n no ad (x.extract 0 (x.size - 16))) = some m ∧ x.extract (x.size - 16) x.size = numB (m + 1) 16 := by
  unfold openF
  by_cases hw : wrongF n no = true
  · rw [if_pos hw, hw]; simp
  have hw' : wrongF n no = false := by simpa using hw
  rw [if_neg hw, hw']
  by_cases h16 : x.size < 16
  · rw [if_pos h16]
    constructor
    · intro h; simp at h
    · intro ⟨_, h, _⟩; omega
  rw [if_neg h16]
  unfold iopenF
  cases hp : pos s.es (sealedK n no ad (x.extract 0 (x.size - 16))) with
  | none => simp
  | some m =>
    by_cases hn : x.extract (x.size - 16) x.size = numB (m + 1) 16
    · simp [hn]; omega
    · simp [hn]
theorem split16 (x : ByteArray) (h : 16 ≤ x.size) : x.extract 0 (x.size - 16) ++ x.extract (x.size - 16) x.size = x := by
  rw [ByteArray.extract_append_extract, show min 0 (x.size - 16) = 0 by omega, show max (x.size - 16) x.size = x.size by omega, ByteArray.extract_zero_size]
theorem sealed_inj {n m : Int} {a b c d e f : ByteArray} (h : sealedK n a b c = sealedK m d e f) : n = m ∧ a = d ∧ b = e ∧ c = f := by
  unfold sealedK at h
  simp at h
  exact h
theorem app16 (t w : ByteArray) (hw : w.size = 16) : (t ++ w).size = t.size + 16 ∧ (t ++ w).extract 0 ((t ++ w).size - 16) = t ∧ (t ++ w).extract ((t ++ w).size - 16) (t ++ w).size = w := by
  have hs : (t ++ w).size = t.size + 16 := by rw [ByteArray.size_append, hw]
  refine ⟨hs, ?_, ?_⟩
  · rw [hs, show t.size + 16 - 16 = t.size by omega, ByteArray.extract_append]
    rw [show 0 - t.size = 0 by omega, show t.size - t.size = 0 by omega]
    simp
  · rw [hs, show t.size + 16 - 16 = t.size by omega, ByteArray.extract_append]
    rw [show t.size - t.size = 0 by omega, show t.size + 16 - t.size = 16 by omega, ← hw]
    rw [show t.extract t.size (t.size + w.size) = ⟨#[]⟩ from ByteArray.extract_eq_empty_iff.2 (by omega)]
    simp only [ByteArray.extract_zero_size]
    exact ByteArray.empty_append
def okF (s : VSt) (n : Int) (no ad x : ByteArray) : Bool := decide ((openF s n no ad x).2 = 0)
theorem open_seal (s : VSt) (n : Int) (no ad t : ByteArray) (hw : wrongF n no = false) (n2 : Int) (no2 ad2 x : ByteArray) :
    okF { s with es := cntL s.es (sealedK n no ad t) } n2 no2 ad2 x = (okF s n2 no2 ad2 x || (decide (n = n2) && (decide (no = no2) && (decide (ad = ad2) && decide (t ++ numB (cntN s.es (sealedK n no ad t)) 16 = x))))) := by
  have hz := numB_size (cntN s.es (sealedK n no ad t)) 16 (by decide)
  unfold okF
  rw [Bool.eq_iff_iff]
  simp only [Bool.or_eq_true, Bool.and_eq_true, decide_eq_true_eq]
  rw [open_ok, open_ok]
  dsimp only
  by_cases hk : sealedK n2 no2 ad2 (x.extract 0 (x.size - 16)) = sealedK n no ad t
  · obtain ⟨rfl, rfl, rfl, e4⟩ := sealed_inj hk
    rw [e4]
    have hp := pos_new s.es (sealedK n2 no2 ad2 t)
    rw [hp.1]
    have e : cntN s.es (sealedK n2 no2 ad2 t) - 1 + 1 = cntN s.es (sealedK n2 no2 ad2 t) := by omega
    constructor
    · intro ⟨_, h16, m, hm, hx⟩
      obtain rfl := Option.some.inj hm
      rw [e] at hx
      refine .inr ⟨rfl, rfl, rfl, ?_⟩
      rw [← hx, ← e4, split16 x h16]
    · intro h
      rcases h with ⟨_, h16, m, hm, hx⟩ | ⟨_, _, _, hx⟩
      · refine ⟨hw, h16, _, rfl, ?_⟩
        have : cntN s.es (sealedK n2 no2 ad2 t) = m + 1 := by unfold cntN; rw [hm]
        rw [e, this, hx]
      · have ha := app16 t _ hz
        rw [hx] at ha
        exact ⟨hw, by omega, _, rfl, by rw [e, ha.2.2]⟩
  · rw [pos_cnt_ne _ _ _ hk]
    constructor
    · intro h; exact .inl h
    · intro h
      rcases h with h | ⟨rfl, rfl, rfl, hx⟩
      · exact h
      · have ha := app16 t _ hz
        rw [hx] at ha
        exact absurd (by rw [ha.2.1]) hk
theorem open_self (s : VSt) (n : Int) (no ad t : ByteArray) (hw : wrongF n no = false) :
    openF { s with es := cntL s.es (sealedK n no ad t) } n no ad (t ++ numB (cntN s.es (sealedK n no ad t)) 16) = (t, 0) := by
  have hz := numB_size (cntN s.es (sealedK n no ad t)) 16 (by decide)
  obtain ⟨h1, h2, h3⟩ := app16 t _ hz
  unfold openF
  rw [hw, if_neg (by decide), if_neg (by omega)]
  unfold iopenF
  rw [h2, h3]
  have hp := pos_new s.es (sealedK n no ad t)
  dsimp only
  rw [hp.1]
  dsimp only
  rw [if_pos (by congr 1; omega)]
end Go.Proofs.Yteengkkbedijdaa.V
