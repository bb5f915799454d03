/- The device: its state, and what its methods do. -/
import Derived.Test.YtkmdajbhkfneaaaVA
import Derived.Test.YtkmdajbhkfneaaaShelf
set_option maxRecDepth 10000
set_option linter.unusedVariables false
namespace Go.Proofs.Ytkmdajbhkfneaaa.V
open Go.Proofs.Ytkmdajbhkfneaaa.VL
attribute [local irreducible] Run
structure PSt where
  sectors : Int
  held : List ByteArray
  dumb : List Bool
  cache : List (Int × ByteArray)
  fuse : Int
  down : Bool
  reads : Int
  writes : Int
def cacheV (l : List (Int × ByteArray)) : List Value := l.flatMap fun x => [.int .i64 x.1, .string x.2]
theorem cacheV_length (l : List (Int × ByteArray)) : (cacheV l).length = l.length * 2 := by
  induction l with
  | nil => rfl
  | cons x l ih => simp only [cacheV, List.flatMap_cons, List.length_append, List.length_cons, List.length_nil] at *; omega
theorem cacheV_append (l m : List (Int × ByteArray)) : cacheV (l ++ m) = cacheV l ++ cacheV m := by simp [cacheV]
theorem cacheV_at (l : List (Int × ByteArray)) (i : Nat) (x : Int × ByteArray) (h : l[i]? = some x) :
    (cacheV l)[i * 2]? = some (.int .i64 x.1) ∧ (cacheV l)[i * 2 + 1]? = some (.string x.2) ∧ ((cacheV l).drop (i * 2)).take 2 = [.int .i64 x.1, .string x.2] := by
  induction l generalizing i with
  | nil => cases h
  | cons y l ih =>
    have e : cacheV (y :: l) = .int .i64 y.1 :: .string y.2 :: cacheV l := rfl
    rw [e]
    cases i with
    | zero => obtain rfl := Option.some.inj h; exact ⟨rfl, rfl, rfl⟩
    | succ i =>
      have := ih i h
      rw [show (i + 1) * 2 = i * 2 + 1 + 1 from by omega]
      simpa using this
@[reducible] def plate3 (b : Nat) (s : PSt) (bh bd : Nat) (pc : Option Addr) (cc : Nat) (A : List HProp) : List HProp :=
  cells b 59 ⟨[.int .i64 s.sectors, .slice (some ⟨bh, 0, none⟩) s.held.length s.held.length, .slice (some ⟨bd, 0, none⟩) s.dumb.length s.dumb.length, .slice pc s.cache.length cc, .int .i64 s.fuse, .bool s.down, .int .i64 s.reads, .int .i64 s.writes]⟩ ::
   cells bh 9 ⟨s.held.map Value.string⟩ :: cells bd 4 ⟨s.dumb.map Value.bool⟩ :: A
@[reducible] def plateParts (b : Nat) (s : PSt) (bh bd : Nat) (pc : Option Addr) (cc : Nat) (A : List HProp) : List HProp :=
  plate3 b s bh bd pc cc (sl pc s.cache.length cc 62 2 (cacheV s.cache) :: A)
def plateAt (b : Nat) (s : PSt) : HProp := hex fun x : Nat × Nat × Option Addr × Nat => star (plateParts b s x.1 x.2.1 x.2.2.1 x.2.2.2 [])
section
variable {P : Program} {q : View} {fn : Func} {R : Value → HProp} {k : List It} {σ : Facts} {A B : List HProp} {F : HProp} {b : Nat} {s : PSt}
theorem run_plate (hk : ∀ bh bd pc cc, Run P q fn R k σ (plateParts b s bh bd pc cc A)) : Run P q fn R k σ (plateAt b s :: A) :=
  run_hex fun x => run_star (hk _ _ _ _)
theorem imp_plate {bh bd : Nat} {pc : Option Addr} {cc : Nat} (h : Imp F (star (plateParts b s bh bd pc cc B))) : Imp F (star (plateAt b s :: B)) := by
  refine imp_ex (bh, bd, pc, cc) ?_
  exact imp_star h
end
theorem FnD.plate {P : Program} {q : View} {f : FuncId} {args : List Value} {b : Nat} {s s' : PSt} {v : Value} (h : ∀ bh bd pc cc, FnD P q f args (plateParts b s bh bd pc cc []) v (plateParts b s' bh bd pc cc [])) :
    FnD P q f args [plateAt b s] v [plateAt b s'] := FnX.hex fun x => FnD.conseq (h x.1 x.2.1 x.2.2.1 x.2.2.2) (by rw [star_one]; exact Imp.refl _) (imp_plate (B := []) (Imp.refl _))
theorem wrong_spec (q : View) (b : Nat) (l : List Value) (n : Int) (at_ : Int) :
    FnD Try.prog q 33 [.pointer (some ⟨b, 0, none⟩), .int .i64 at_] [cells b 59 ⟨.int .i64 n :: l⟩] (.bool (decide (at_ < 0 ∨ n ≤ at_))) [cells b 59 ⟨.int .i64 n :: l⟩] := by
  (first | refine FnD.go Try.call33 Try.func33 rfl rfl rfl ?_ | refine FnX.go Try.call33 Try.func33 rfl rfl rfl ?_)
  (repeat (first | refine g ?_))
  refine run_split_dec rfl rfl rfl rfl rfl ?_ ?_
  · intro h
    (repeat (first | refine g ?_))
    exact run_ret rfl (imp_RD (by rw [decide_eq_true (.inl h)]) shut)
  · intro h
    (repeat (first | refine g ?_))
    exact run_ret rfl (imp_RD (by congr 1; exact decide_eq_decide.2 ⟨.inr, fun h2 => h2.resolve_left h⟩) shut)
theorem up_spec (q : View) (b : Nat) (s : PSt) : FnD Try.prog q 22 [.pointer (some ⟨b, 0, none⟩)] [plateAt b s] (.bool !s.down) [plateAt b s] := by
  (first | refine FnD.go Try.call22 Try.func22 rfl rfl rfl ?_ | refine FnX.go Try.call22 Try.func22 rfl rfl rfl ?_)
  refine run_plate fun bh bd pc cc => ?_
  unfold plateParts
  (repeat (first | refine g ?_))
  exact run_ret rfl (imp_RD rfl (imp_plate shut))
theorem up_nil (q : View) : FnD Try.prog q 22 [.pointer none] [] (.bool false) [] := by
  (first | refine FnD.go Try.call22 Try.func22 rfl rfl rfl ?_ | refine FnX.go Try.call22 Try.func22 rfl rfl rfl ?_)
  (repeat (first | refine g ?_))
  exact run_ret rfl (imp_RD rfl shut)
theorem pending_spec (q : View) (b : Nat) (s : PSt) : FnD Try.prog q 23 [.pointer (some ⟨b, 0, none⟩)] [plateAt b s] (.int .i64 s.cache.length) [plateAt b s] := by
  (first | refine FnD.go Try.call23 Try.func23 rfl rfl rfl ?_ | refine FnX.go Try.call23 Try.func23 rfl rfl rfl ?_)
  refine run_plate fun bh bd pc cc => ?_
  unfold plateParts
  (repeat (first | refine g ?_))
  exact run_ret rfl (imp_RD rfl (imp_plate shut))
theorem writes_spec (q : View) (b : Nat) (s : PSt) : FnD Try.prog q 24 [.pointer (some ⟨b, 0, none⟩)] [plateAt b s] (.int .i64 s.writes) [plateAt b s] := by
  (first | refine FnD.go Try.call24 Try.func24 rfl rfl rfl ?_ | refine FnX.go Try.call24 Try.func24 rfl rfl rfl ?_)
  refine run_plate fun bh bd pc cc => ?_
  unfold plateParts
  (repeat (first | refine g ?_))
  exact run_ret rfl (imp_RD rfl (imp_plate shut))
theorem reads_spec (q : View) (b : Nat) (s : PSt) : FnD Try.prog q 26 [.pointer (some ⟨b, 0, none⟩)] [plateAt b s] (.int .i64 s.reads) [plateAt b s] := by
  (first | refine FnD.go Try.call26 Try.func26 rfl rfl rfl ?_ | refine FnX.go Try.call26 Try.func26 rfl rfl rfl ?_)
  refine run_plate fun bh bd pc cc => ?_
  unfold plateParts
  (repeat (first | refine g ?_))
  exact run_ret rfl (imp_RD rfl (imp_plate shut))
theorem sectors_spec (q : View) (b : Nat) (s : PSt) : FnD Try.prog q 32 [.pointer (some ⟨b, 0, none⟩)] [plateAt b s] (.int .i64 s.sectors) [plateAt b s] := by
  (first | refine FnD.go Try.call32 Try.func32 rfl rfl rfl ?_ | refine FnX.go Try.call32 Try.func32 rfl rfl rfl ?_)
  refine run_plate fun bh bd pc cc => ?_
  unfold plateParts
  (repeat (first | refine g ?_))
  exact run_ret rfl (imp_RD rfl (imp_plate shut))
def zeros64 : ByteArray := ⟨(List.replicate 64 (0 : UInt8)).toArray⟩
theorem repeat64 (q : View) : FnD Try.prog q 35 [.string ⟨#[0]⟩, .int .i64 64] [] (.string zeros64) [] :=
  FnD.of_below Try.call35 fun w => by
    have := Try.strings_Repeat ⟨#[0]⟩ 64 w (by omega) (by decide)
    refine this.mono ?_
    rintro e w' ⟨rfl, hb⟩
    exact ⟨rfl, hb⟩
/-- What is kept of a sector. -/
def heldF (s : PSt) (at_ : Int) : ByteArray × Int :=
  if at_ < 0 ∨ s.sectors ≤ at_ then (⟨#[]⟩, 2) else
  if s.dumb.getD at_.toNat false = true then (⟨#[]⟩, 21) else
  if s.held.getD at_.toNat ⟨#[]⟩ = ⟨#[]⟩ then (zeros64, 0) else (s.held.getD at_.toNat ⟨#[]⟩, 0)
structure WF (s : PSt) : Prop where
  held : (s.held.length : Int) = s.sectors
  dumb : (s.dumb.length : Int) = s.sectors
  sec : s.sectors ≤ 32768
  cache : ∀ x ∈ s.cache, 0 ≤ x.1 ∧ x.1 < s.sectors
  size : s.cache.length ≤ 1099511627776
  reads : 0 ≤ s.reads ∧ s.reads ≤ 1099511627776
  writes : 0 ≤ s.writes ∧ s.writes ≤ 1099511627776
  fuse : -1 ≤ s.fuse ∧ s.fuse ≤ 9223372036854775807
theorem map_at {α : Type} (f : α → Value) (l : List α) (d : α) (i : Nat) (h : i < l.length) : (l.map f)[i]? = some (f (l.getD i d)) := by
  rw [List.getElem?_map, List.getElem?_eq_getElem h, List.getD_eq_getElem?_getD, List.getElem?_eq_getElem h]; rfl
theorem held_parts (q : View) (b : Nat) (s : PSt) (hh : (s.held.length : Int) = s.sectors) (hd : (s.dumb.length : Int) = s.sectors) (hs : s.sectors ≤ 32768) (bh bd : Nat) (pc : Option Addr) (cc : Nat) (at_ : Int) :
    FnD Try.prog q 19 [.pointer (some ⟨b, 0, none⟩), .int .i64 at_] (plate3 b s bh bd pc cc []) (.tuple #[.string (heldF s at_).1, .int .i64 (heldF s at_).2]) (plate3 b s bh bd pc cc []) := by
  unfold heldF
  (first | refine FnD.go Try.call19 Try.func19 rfl rfl rfl ?_ | refine FnX.go Try.call19 Try.func19 rfl rfl rfl ?_)
  unfold plate3
  (repeat (first | refine g ?_))
  refine s_call (wrong_spec q b _ s.sectors at_) ?_
  (repeat (first | refine g ?_))
  refine run_cond_dec rfl ?_ ?_
  · intro h
    rw [if_pos h]
    (repeat (first | refine g ?_))
    exact run_ret rfl (imp_RD rfl shut)
  · intro h
    rw [if_neg h]
    have h0 : 0 ≤ at_ := by omega
    (repeat (first | refine g ?_))
    refine s_loadat (map_at Value.bool s.dumb false at_.toNat (by omega)) ?_
    (repeat (first | refine g ?_))
    refine run_cond rfl ?_ ?_
    · intro h2
      rw [if_pos h2]
      (repeat (first | refine g ?_))
      exact run_ret rfl (imp_RD rfl shut)
    · intro h2
      rw [if_neg (by rw [h2]; decide)]
      (repeat (first | refine g ?_))
      refine s_loadat (map_at Value.string s.held ⟨#[]⟩ at_.toNat (by omega)) ?_
      (repeat (first | refine g ?_))
      refine run_cond_dec rfl ?_ ?_
      · intro h4
        rw [if_neg h4]
        (repeat (first | refine g ?_))
        exact run_ret rfl (imp_RD rfl shut)
      · intro h4
        rw [if_pos (Decidable.not_not.1 h4)]
        (repeat (first | refine g ?_))
        refine s_call (repeat64 q) ?_
        (repeat (first | refine g ?_))
        exact run_ret rfl (imp_RD rfl shut)
theorem held_spec (q : View) (b : Nat) (s : PSt) (hw : WF s) (at_ : Int) :
    FnD Try.prog q 19 [.pointer (some ⟨b, 0, none⟩), .int .i64 at_] [plateAt b s] (.tuple #[.string (heldF s at_).1, .int .i64 (heldF s at_).2]) [plateAt b s] :=
  FnD.plate fun bh bd pc cc => FnD.frame (held_parts q b s hw.held hw.dumb hw.sec bh bd pc cc at_) [_]
end Go.Proofs.Ytkmdajbhkfneaaa.V
