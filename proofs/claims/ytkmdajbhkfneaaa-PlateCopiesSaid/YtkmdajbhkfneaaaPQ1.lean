/- The document's device: what its methods do. -/
import Derived.Test.YtkmdajbhkfneaaaPL7
set_option maxRecDepth 10000
set_option linter.unusedVariables false
namespace Go.Proofs.Ytkmdajbhkfneaaa.V
open Go.Proofs.Ytkmdajbhkfneaaa.VL
attribute [local irreducible] Run
/-- The document's device: what is kept, which can't be read, what waits, the fuse. -/
structure QSt where
  kept : List ByteArray
  dumb : List Bool
  wait : List (Int × ByteArray)
  fuse : Int
  down : Bool
  reads : Int
  writes : Int
@[reducible] def qParts (b : Nat) (s : QSt) (pk : Option Addr) (ck : Nat) (pd : Option Addr) (cd : Nat) (pw : Option Addr) (cw : Nat) (A : List HProp) : List HProp :=
  cells b 67 ⟨[.slice pk s.kept.length ck, .slice pd s.dumb.length cd, .slice pw s.wait.length cw, .int .i64 s.fuse, .bool s.down, .int .i64 s.reads, .int .i64 s.writes]⟩ ::
   sl pk s.kept.length ck 9 1 (s.kept.map Value.string) :: sl pd s.dumb.length cd 4 1 (s.dumb.map Value.bool) :: sl pw s.wait.length cw 82 2 (cacheV s.wait) :: A
def qAt (b : Nat) (s : QSt) : HProp := hex fun x : Option Addr × Nat × Option Addr × Nat × Option Addr × Nat => star (qParts b s x.1 x.2.1 x.2.2.1 x.2.2.2.1 x.2.2.2.2.1 x.2.2.2.2.2 [])
section
variable {P : Program} {q : View} {fn : Func} {R : Value → HProp} {k : List It} {σ : Facts} {A B : List HProp} {F : HProp} {b : Nat} {s : QSt}
theorem run_q (hk : ∀ pk ck pd cd pw cw, Run P q fn R k σ (qParts b s pk ck pd cd pw cw A)) : Run P q fn R k σ (qAt b s :: A) :=
  run_hex fun x => run_star (hk _ _ _ _ _ _)
theorem imp_q {pk pd pw : Option Addr} {ck cd cw : Nat} (h : Imp F (star (qParts b s pk ck pd cd pw cw B))) : Imp F (star (qAt b s :: B)) := by
  refine imp_ex (pk, ck, pd, cd, pw, cw) ?_
  exact imp_star h
end
/-- No sector there. -/
theorem none_spec (q : View) (b : Nat) (pk : Option Addr) (n ck : Nat) (l : List Value) (at_ : Int) :
    FnD Try.prog q 51 [.pointer (some ⟨b, 0, none⟩), .int .i64 at_] [cells b 67 ⟨.slice pk n ck :: l⟩] (.bool (decide (at_ < 0 ∨ (n : Int) ≤ at_))) [cells b 67 ⟨.slice pk n ck :: l⟩] := by
  (first | refine FnD.go Try.call51 Try.func51 rfl rfl rfl ?_ | refine FnX.go Try.call51 Try.func51 rfl rfl rfl ?_)
  (repeat (first | refine g ?_))
  refine run_split_dec rfl rfl rfl rfl rfl ?_ ?_
  · intro h
    (repeat (first | refine g ?_))
    exact run_ret rfl (imp_RD (by rw [decide_eq_true (.inl h)]) shut)
  · intro h
    (repeat (first | refine g ?_))
    exact run_ret rfl (imp_RD (by congr 1; exact decide_eq_decide.2 ⟨.inr, fun h2 => h2.resolve_left h⟩) shut)
structure QW (s : QSt) : Prop where
  dumb : s.dumb.length = s.kept.length
  sec : s.kept.length ≤ 32768
  wait : ∀ x ∈ s.wait, 0 ≤ x.1 ∧ x.1 < s.kept.length
  size : s.wait.length ≤ 1099511627776
  reads : 0 ≤ s.reads ∧ s.reads ≤ 1099511627776
  writes : 0 ≤ s.writes ∧ s.writes ≤ 1099511627776
  fuse : -1 ≤ s.fuse ∧ s.fuse ≤ 9223372036854775807
def qHeldF (s : QSt) (at_ : Int) : ByteArray × Int :=
  if at_ < 0 ∨ (s.kept.length : Int) ≤ at_ then (⟨#[]⟩, 2) else
  if s.dumb.getD at_.toNat false = true then (⟨#[]⟩, 21) else (s.kept.getD at_.toNat ⟨#[]⟩, 0)
@[reducible] def q3 (b : Nat) (s : QSt) (pk : Option Addr) (ck : Nat) (pd : Option Addr) (cd : Nat) (pw : Option Addr) (cw : Nat) (A : List HProp) : List HProp :=
  cells b 67 ⟨[.slice pk s.kept.length ck, .slice pd s.dumb.length cd, .slice pw s.wait.length cw, .int .i64 s.fuse, .bool s.down, .int .i64 s.reads, .int .i64 s.writes]⟩ ::
   sl pk s.kept.length ck 9 1 (s.kept.map Value.string) :: sl pd s.dumb.length cd 4 1 (s.dumb.map Value.bool) :: A
theorem qheld_parts (q : View) (b : Nat) (s : QSt) (hd : s.dumb.length = s.kept.length) (hs : s.kept.length ≤ 32768) (pk : Option Addr) (ck : Nat) (pd : Option Addr) (cd : Nat) (pw : Option Addr) (cw : Nat) (at_ : Int) :
    FnD Try.prog q 38 [.pointer (some ⟨b, 0, none⟩), .int .i64 at_] (q3 b s pk ck pd cd pw cw []) (.tuple #[.string (qHeldF s at_).1, .int .i64 (qHeldF s at_).2]) (q3 b s pk ck pd cd pw cw []) := by
  unfold qHeldF
  (first | refine FnD.go Try.call38 Try.func38 rfl rfl rfl ?_ | refine FnX.go Try.call38 Try.func38 rfl rfl rfl ?_)
  unfold q3
  (repeat (first | refine g ?_))
  refine s_call (none_spec q b pk s.kept.length ck _ at_) ?_
  (repeat (first | refine g ?_))
  refine run_cond_dec rfl ?_ ?_
  · intro h
    rw [if_pos h]
    (repeat (first | refine g ?_))
    exact run_ret rfl (imp_RD rfl shut)
  · intro h
    rw [if_neg h]
    have h0 : 0 ≤ at_ := by omega
    refine s_ptr pk (h0 := by omega) (fun bk ek _ _ => ?_)
    refine s_ptr pd (h0 := by omega) (fun bd ed _ _ => ?_)
    subst ek ed
    (repeat (first | refine g ?_))
    refine s_loadsl (map_at Value.bool s.dumb false at_.toNat (by omega)) ?_
    (repeat (first | refine g ?_))
    refine run_cond rfl ?_ ?_
    · intro h2
      rw [if_pos h2]
      (repeat (first | refine g ?_))
      exact run_ret rfl (imp_RD rfl shut)
    · intro h2
      rw [if_neg (by rw [h2]; decide)]
      (repeat (first | refine g ?_))
      refine s_loadsl (map_at Value.string s.kept ⟨#[]⟩ at_.toNat (by omega)) ?_
      (repeat (first | refine g ?_))
      exact run_ret rfl (imp_RD rfl shut)
end Go.Proofs.Ytkmdajbhkfneaaa.V
