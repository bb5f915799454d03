/- Rows that are only read; memory lent to a call that only reads it. -/
import Derived.Test.YtkmdajbhkfneaaaVL17
set_option maxRecDepth 10000
set_option linter.unusedVariables false
namespace Go.Proofs.Ytkmdajbhkfneaaa.VL
open View RowKit
/-- A slice of n elements of k cells each, in memory that stays as it is. -/
def RowQ (q : View) (p : Option Addr) (n k : Nat) (vs : List Value) : Prop :=
  vs.length = n * k ∧ (n = 0 ∨ ∃ b o c tc fr, p = some ⟨b, o, none⟩ ∧ q b = some (.cells c tc fr) ∧ ∀ i, i < n * k → c[o + i]? = vs[i]?)
theorem RowQ.open_ {q : View} {p : Option Addr} {n k : Nat} {vs : List Value} (h : RowQ q p n k vs) (hn : 0 < n) : ∃ b o c tc fr, p = some ⟨b, o, none⟩ ∧ q b = some (.cells c tc fr) ∧ ∀ i, i < n * k → c[o + i]? = vs[i]? := by
  rcases h.2 with h | h
  · omega
  · exact h
theorem RowQ.mono {q q' : View} {p : Option Addr} {n k : Nat} {vs : List Value} (h : RowQ q p n k vs) (s : Sub q q') : RowQ q' p n k vs :=
  ⟨h.1, h.2.imp id fun ⟨b, o, c, tc, fr, e, hb, hi⟩ => ⟨b, o, c, tc, fr, e, s _ _ hb, hi⟩⟩
theorem RowQ.nil {q : View} {p : Option Addr} {k : Nat} : RowQ q p 0 k [] := ⟨by simp, .inl rfl⟩
theorem cells_view {b t : Nat} {c : Array Value} {hX : View} (h : cells b t c hX) : ∃ fr, hX = View.one b (.cells c t fr) := by
  obtain ⟨fr, h1, h2, _, e, ⟨_, e1⟩, e2⟩ := h
  have e2 : h2 = View.one b (.cells c t fr) := e2
  exact ⟨fr, by rw [e, e1, e2]; rfl⟩
theorem RowQ.of_cells {q hX : View} {b t n k : Nat} {l : List Value} (h : cells b t ⟨l⟩ hX) (s : Sub hX q) (hl : l.length = n * k) : RowQ q (some ⟨b, 0, none⟩) n k l := by
  obtain ⟨fr, e⟩ := cells_view h
  refine ⟨hl, .inr ⟨b, 0, ⟨l⟩, t, fr, rfl, s _ _ (by rw [e]; unfold View.one; rw [if_pos rfl]), fun i hi => ?_⟩⟩
  simp
theorem RowQ.of_sl {q hX : View} {p : Option Addr} {n cap t k : Nat} {l : List Value} (h : sl p n cap t k l hX) (s : Sub hX q) : RowQ q p n k l := by
  rcases h with ⟨rfl, rfl, rfl, rfl, h⟩ | ⟨b, spare, rfl, h1, h2, h3, h4⟩
  · exact RowQ.nil
  · obtain ⟨fr, e⟩ := cells_view h4
    refine ⟨h1.symm, .inr ⟨b, 0, _, t, fr, rfl, s _ _ (by rw [e]; unfold View.one; rw [if_pos rfl]), fun i hi => ?_⟩⟩
    simp
    rw [List.getElem?_append_left (by omega)]
section
variable {P : Program} {q : View} {f : FuncId} {args : List Value} {B : List HProp} {v : Value}
/-- What is only read by a call is lent to it. -/
theorem FnX.lend {X : HProp} {Y : Type} {u : Y → Value} {D : Y → List HProp} (hc : Callable P f) (h : ∀ q' hX, X hX → Sub hX q' → Sub q q' → FnX P q' f args B u D) : FnX P q f args (X :: B) u fun y => X :: D y :=
  ⟨hc, fun g w0 w hq s => by
    have s : St g w0 (sep X (star B)) w := s
    rw [sep_comm] at s
    obtain ⟨x, hx, d, s1⟩ := s.split
    have hs : Sub x (x.add g) := fun b o e => by unfold View.add; rw [e]
    refine ((h (x.add g) x hx hs (hq.add d)).2 _ w0 w (Sub.refl _) s1).mono ?_
    rintro e w' ⟨z, he, s2⟩
    refine ⟨z, he, ?_⟩
    obtain ⟨hh, ⟨y, hy⟩, r⟩ := s2
    have s3 : St (x.add g) w0 (sep (hpure (z = u y)) (star (D y))) w' := ⟨hh, hy, r⟩
    have s4 := s3.join (F := X) hx d
    rw [sep_assoc] at s4
    obtain ⟨e2, s5⟩ := s4.pure
    rw [sep_comm] at s5
    exact Imp.ex (F := fun y => sep (hpure (z = u y)) (star (X :: D y))) y g w0 w' (s5.pure_intro e2)⟩
theorem FnD.lend {X : HProp} {D : List HProp} (hc : Callable P f) (h : ∀ q' hX, X hX → Sub hX q' → Sub q q' → FnD P q' f args B v D) : FnD P q f args (X :: B) v (X :: D) := FnX.lend hc h
theorem one1_flat (l : List Value) : l.all one1 = true ↔ ∀ v ∈ l, one1 v = true := List.all_eq_true
section
variable {T : Nat → Option TyI} {fn : Func} {R : Value → HProp} {kt : List It} {σ : Facts} {A : List HProp} {ff : HProp → List HProp} {dst : Option Tmp} {type : TypeId} {gd : Option (Nat × Bool)} {ds : List (Option Tmp)} {os : List SOp}
theorem w_copy_all {x y : Operand} {t e ty : Nat} {ti ei : TyI} {v : Value} {b len cap size : Nat} {cs : List Value} {tc : TypeId} {news : List Value} {σ' : Facts} (hT : TabOk P T) (hg : guardOf σ ds gd = some true)
    (hx : ev σ x = some (.slice (some ⟨b, 0, none⟩) len cap)) (hy : ev σ y = some v) (ht : T t = some ti) (hu : ti.und = .slice e) (he : T e = some ei) (hs : ei.size = size)
    (hA : At A (cells b tc ⟨cs⟩) ff) (hr : ∀ g w0 w, Sub q g → St g w0 (star A) w → Reads P size len v news w) (h1 : news.all one1 = true) (hnl : news.length = len * size) (hin : cs.length = len * size)
    (hp : putF fn.ntmps dst (.int .i64 len) σ = some σ') (hkk : Run P q fn R (.ops ds os :: kt) σ' (ff (cells b tc ⟨news⟩))) :
    Run P q fn R (.ops ds (⟨dst, .call { callee := .builtin .copy, args := ⟨[x, y]⟩, argTypes := ⟨[t, ty]⟩ }, type, gd⟩ :: os) :: kt) σ A := by
  refine w_copy hT hg hx hy ht hu he hs hA hr h1 hnl (by rw [Nat.min_self]; omega) (by rw [Nat.min_self]; exact hp) ?_
  rw [Nat.min_self, List.take_of_length_le (by omega), writes_all _ _ (by omega)]
  exact hkk
theorem w_idxo {t e kk : Nat} (o' : Nat) {ti ei : TyI} {x y : Operand} {b o len cap : Nat} {k : IntKind} {i : Int} {σ' : Facts} (hT : TabOk P T) (hg : guardOf σ ds gd = some true) (hx : ev σ x = some (.slice (some ⟨b, o, none⟩) len cap)) (hy : ev σ y = some (.int k i)) (ht : T t = some ti) (hu : ti.und = .slice e) (he : T e = some ei) (hs : ei.size = kk) (h0 : 0 ≤ i) (h1 : i < len) (ho : o + i.toNat * kk = o')
    (hp : putF fn.ntmps dst (.pointer (some ⟨b, o', none⟩)) σ = some σ') (hkk : Run P q fn R (.ops ds os :: kt) σ' A) : Run P q fn R (.ops ds (⟨dst, (.indexAddr t x y), type, gd⟩ :: os) :: kt) σ A := by
  subst hs ho
  exact w_indexAddr hT hg hx hy ht hu he h0 h1 hp hkk
variable {S : List HProp} {ops : Array Oper} {mm : Nat} {listed : Array Bool} {pos : String} {after : Array Edge}
theorem a_copy_all (ii : Nat) {x y : Operand} {t e ty : Nat} {ti ei : TyI} {v : Value} {b len cap size : Nat} {cs : List Value} {tc : TypeId} {news : List Value} {σ' : Facts} (hT : TabOk P T)
    (zi : nthG ops.toList ii = some ⟨dst, .call { callee := .builtin .copy, args := ⟨[x, y]⟩, argTypes := ⟨[t, ty]⟩ }, type, pos, after, gd⟩) (zr : Region.ready .any ops listed = [ii]) (hg : guardOf σ (ops.toList.map (·.dst)) gd = some true)
    (hx : ev σ x = some (.slice (some ⟨b, 0, none⟩) len cap)) (hy : ev σ y = some v) (ht : T t = some ti) (hu : ti.und = .slice e) (he : T e = some ei) (hs : ei.size = size)
    (hA : At A (cells b tc ⟨cs⟩) ff) (hr : ∀ g w0 w, Sub q g → St g w0 (star A) w → Reads P size len v news w) (h1 : news.all one1 = true) (hnl : news.length = len * size) (hin : cs.length = len * size)
    (hp : putF fn.ntmps dst (.int .i64 len) σ = some σ') (hkk : RunA P q fn R kt ops mm (listed.setIfInBounds ii true) S σ' (ff (cells b tc ⟨news⟩))) : RunA P q fn R kt ops (mm + 1) listed S σ A := by
  refine a_copy ii hT zi zr hg hx hy ht hu he hs hA hr h1 hnl (by rw [Nat.min_self]; omega) (by rw [Nat.min_self]; exact hp) ?_
  rw [Nat.min_self, List.take_of_length_le (by omega), writes_all _ _ (by omega)]
  exact hkk
end
end
end Go.Proofs.Ytkmdajbhkfneaaa.VL
