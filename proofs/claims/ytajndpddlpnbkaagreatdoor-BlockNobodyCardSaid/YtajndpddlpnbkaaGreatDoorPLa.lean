/- The device: its state, and what its methods do. -/
import Derived.Test.YtajndpddlpnbkaaGreatDoorVA
import Derived.Test.YtajndpddlpnbkaaGreatDoorShelf
set_option maxRecDepth 10000
set_option linter.unusedVariables false
namespace Go.Proofs.YtajndpddlpnbkaaGreatDoor.V
open Go.Proofs.YtajndpddlpnbkaaGreatDoor.VL
attribute [local irreducible] Run
structure PSt where
  sectors : Int
  held : List ByteArray
  dumb : List Bool
  cache : List (Int × ByteArray)
  fuse : Int
  down : Bool
  reads : Int
  writes : Int
def cacheV (l : List (Int × ByteArray)) : List Value := l.flatMap fun x => [.int .i64 x.1, .string x.2]
theorem cacheV_length (l : List (Int × ByteArray)) : (cacheV l).length = l.length * 2 := by
  induction l with
  | nil => rfl
  | cons x l ih => simp only [cacheV, List.flatMap_cons, List.length_append, List.length_cons, List.length_nil] at *; omega
theorem cacheV_append (l m : List (Int × ByteArray)) : cacheV (l ++ m) = cacheV l ++ cacheV m := by simp [cacheV]
theorem cacheV_at (l : List (Int × ByteArray)) (i : Nat) (x : Int × ByteArray) (h : l[i]? = some x) :
    (cacheV l)[i * 2]? = some (.int .i64 x.1) ∧ (cacheV l)[i * 2 + 1]? = some (.string x.2) ∧ ((cacheV l).drop (i * 2)).take 2 = [.int .i64 x.1, .string x.2] := by
  induction l generalizing i with
  | nil => cases h
  | cons y l ih =>
    have e : cacheV (y :: l) = .int .i64 y.1 :: .string y.2 :: cacheV l := rfl
    rw [e]
    cases i with
    | zero => obtain rfl := Option.some.inj h; exact ⟨rfl, rfl, rfl⟩
    | succ i =>
      have := ih i h
      rw [show (i + 1) * 2 = i * 2 + 1 + 1 from by omega]
      simpa using this
@[reducible] def plate3 (b : Nat) (s : PSt) (bh bd : Nat) (pc : Option Addr) (cc : Nat) (A : List HProp) : List HProp :=
  cells b 75 ⟨[.int .i64 s.sectors, .slice (some ⟨bh, 0, none⟩) s.held.length s.held.length, .slice (some ⟨bd, 0, none⟩) s.dumb.length s.dumb.length, .slice pc s.cache.length cc, .int .i64 s.fuse, .bool s.down, .int .i64 s.reads, .int .i64 s.writes]⟩ ::
   cells bh 9 ⟨s.held.map Value.string⟩ :: cells bd 4 ⟨s.dumb.map Value.bool⟩ :: A
@[reducible] def plateParts (b : Nat) (s : PSt) (bh bd : Nat) (pc : Option Addr) (cc : Nat) (A : List HProp) : List HProp :=
  plate3 b s bh bd pc cc (sl pc s.cache.length cc 105 2 (cacheV s.cache) :: A)
def plateAt (b : Nat) (s : PSt) : HProp := hex fun x : Nat × Nat × Option Addr × Nat => star (plateParts b s x.1 x.2.1 x.2.2.1 x.2.2.2 [])
section
variable {P : Program} {q : View} {fn : Func} {R : Value → HProp} {k : List It} {σ : Facts} {A B : List HProp} {F : HProp} {b : Nat} {s : PSt}
theorem run_plate (hk : ∀ bh bd pc cc, Run P q fn R k σ (plateParts b s bh bd pc cc A)) : Run P q fn R k σ (plateAt b s :: A) :=
  run_hex fun x => run_star (hk _ _ _ _)
theorem imp_plate {bh bd : Nat} {pc : Option Addr} {cc : Nat} (h : Imp F (star (plateParts b s bh bd pc cc B))) : Imp F (star (plateAt b s :: B)) := by
  refine imp_ex (bh, bd, pc, cc) ?_
  exact imp_star h
end
theorem FnD.plate {P : Program} {q : View} {f : FuncId} {args : List Value} {b : Nat} {s s' : PSt} {v : Value} (h : ∀ bh bd pc cc, FnD P q f args (plateParts b s bh bd pc cc []) v (plateParts b s' bh bd pc cc [])) :
    FnD P q f args [plateAt b s] v [plateAt b s'] := FnX.hex fun x => FnD.conseq (h x.1 x.2.1 x.2.2.1 x.2.2.2) (by rw [star_one]; exact Imp.refl _) (imp_plate (B := []) (Imp.refl _))
theorem wrong_spec (q : View) (b : Nat) (l : List Value) (n : Int) (at_ : Int) :
    FnD Tryz.prog q 48 [.pointer (some ⟨b, 0, none⟩), .int .i64 at_] [cells b 75 ⟨.int .i64 n :: l⟩] (.bool (decide (at_ < 0 ∨ n ≤ at_))) [cells b 75 ⟨.int .i64 n :: l⟩] := by
  (first | refine FnD.go Tryz.call48 Tryz.func48 rfl rfl rfl ?_ | refine FnX.go Tryz.call48 Tryz.func48 rfl rfl rfl ?_)
  (repeat (first | refine g ?_))
  refine run_split_dec rfl rfl rfl rfl rfl ?_ ?_
  · intro h
    (repeat (first | refine g ?_))
    exact run_ret rfl (imp_RD (by rw [decide_eq_true (.inl h)]) shut)
  · intro h
    (repeat (first | refine g ?_))
    exact run_ret rfl (imp_RD (by congr 1; exact decide_eq_decide.2 ⟨.inr, fun h2 => h2.resolve_left h⟩) shut)
theorem up_spec (q : View) (b : Nat) (s : PSt) : FnD Tryz.prog q 15 [.pointer (some ⟨b, 0, none⟩)] [plateAt b s] (.bool !s.down) [plateAt b s] := by
  (first | refine FnD.go Tryz.call15 Tryz.func15 rfl rfl rfl ?_ | refine FnX.go Tryz.call15 Tryz.func15 rfl rfl rfl ?_)
  refine run_plate fun bh bd pc cc => ?_
  unfold plateParts
  (repeat (first | refine g ?_))
  exact run_ret rfl (imp_RD rfl (imp_plate shut))
theorem up_nil (q : View) : FnD Tryz.prog q 15 [.pointer none] [] (.bool false) [] := by
  (first | refine FnD.go Tryz.call15 Tryz.func15 rfl rfl rfl ?_ | refine FnX.go Tryz.call15 Tryz.func15 rfl rfl rfl ?_)
  (repeat (first | refine g ?_))
  exact run_ret rfl (imp_RD rfl shut)
theorem pending_spec (q : View) (b : Nat) (s : PSt) : FnD Tryz.prog q 14 [.pointer (some ⟨b, 0, none⟩)] [plateAt b s] (.int .i64 s.cache.length) [plateAt b s] := by
  (first | refine FnD.go Tryz.call14 Tryz.func14 rfl rfl rfl ?_ | refine FnX.go Tryz.call14 Tryz.func14 rfl rfl rfl ?_)
  refine run_plate fun bh bd pc cc => ?_
  unfold plateParts
  (repeat (first | refine g ?_))
  exact run_ret rfl (imp_RD rfl (imp_plate shut))
theorem writes_spec (q : View) (b : Nat) (s : PSt) : FnD Tryz.prog q 13 [.pointer (some ⟨b, 0, none⟩)] [plateAt b s] (.int .i64 s.writes) [plateAt b s] := by
  (first | refine FnD.go Tryz.call13 Tryz.func13 rfl rfl rfl ?_ | refine FnX.go Tryz.call13 Tryz.func13 rfl rfl rfl ?_)
  refine run_plate fun bh bd pc cc => ?_
  unfold plateParts
  (repeat (first | refine g ?_))
  exact run_ret rfl (imp_RD rfl (imp_plate shut))
theorem sectors_spec (q : View) (b : Nat) (s : PSt) : FnD Tryz.prog q 54 [.pointer (some ⟨b, 0, none⟩)] [plateAt b s] (.int .i64 s.sectors) [plateAt b s] := by
  (first | refine FnD.go Tryz.call54 Tryz.func54 rfl rfl rfl ?_ | refine FnX.go Tryz.call54 Tryz.func54 rfl rfl rfl ?_)
  refine run_plate fun bh bd pc cc => ?_
  unfold plateParts
  (repeat (first | refine g ?_))
  exact run_ret rfl (imp_RD rfl (imp_plate shut))
def zeros64 : ByteArray := ⟨(List.replicate 64 (0 : UInt8)).toArray⟩
theorem repeat64 (q : View) : FnD Tryz.prog q 67 [.string ⟨#[0]⟩, .int .i64 64] [] (.string zeros64) [] :=
  FnD.of_below Tryz.call67 fun w => by
    have := Tryz.strings_Repeat ⟨#[0]⟩ 64 w (by omega) (by decide)
    refine this.mono ?_
    rintro e w' ⟨rfl, hb⟩
    exact ⟨rfl, hb⟩
/-- What is kept of a sector. -/
def heldF (s : PSt) (at_ : Int) : ByteArray × Int :=
  if at_ < 0 ∨ s.sectors ≤ at_ then (⟨#[]⟩, 2) else
  if s.dumb.getD at_.toNat false = true then (⟨#[]⟩, 21) else
  if s.held.getD at_.toNat ⟨#[]⟩ = ⟨#[]⟩ then (zeros64, 0) else (s.held.getD at_.toNat ⟨#[]⟩, 0)
structure WF (s : PSt) : Prop where
  held : (s.held.length : Int) = s.sectors
  dumb : (s.dumb.length : Int) = s.sectors
  sec : s.sectors ≤ 32768
  cache : ∀ x ∈ s.cache, 0 ≤ x.1 ∧ x.1 < s.sectors
  size : s.cache.length ≤ 1099511627776
  reads : 0 ≤ s.reads ∧ s.reads ≤ 1099511627776
  writes : 0 ≤ s.writes ∧ s.writes ≤ 1099511627776
  fuse : -1 ≤ s.fuse ∧ s.fuse ≤ 9223372036854775807
theorem map_at {α : Type} (f : α → Value) (l : List α) (d : α) (i : Nat) (h : i < l.length) : (l.map f)[i]? = some (f (l.getD i d)) := by
  rw [List.getElem?_map, List.getElem?_eq_getElem h, List.getD_eq_getElem?_getD, List.getElem?_eq_getElem h]; rfl
theorem held_parts (q : View) (b : Nat) (s : PSt) (hh : (s.held.length : Int) = s.sectors) (hd : (s.dumb.length : Int) = s.sectors) (hs : s.sectors ≤ 32768) (bh bd : Nat) (pc : Option Addr) (cc : Nat) (at_ : Int) :
    FnD Tryz.prog q 83 [.pointer (some ⟨b, 0, none⟩), .int .i64 at_] (plate3 b s bh bd pc cc []) (.tuple #[.string (heldF s at_).1, .int .i64 (heldF s at_).2]) (plate3 b s bh bd pc cc []) := by
  unfold heldF
  (first | refine FnD.go Tryz.call83 Tryz.func83 rfl rfl rfl ?_ | refine FnX.go Tryz.call83 Tryz.func83 rfl rfl rfl ?_)
  unfold plate3
  (repeat (first | refine g ?_))
  refine s_call (wrong_spec q b _ s.sectors at_) ?_
  (repeat (first | refine g ?_))
  refine run_cond_dec rfl ?_ ?_
  · intro h
    rw [if_pos h]
    (repeat (first | refine g ?_))
    exact run_ret rfl (imp_RD rfl shut)
  · intro h
    rw [if_neg h]
    have h0 : 0 ≤ at_ := by omega
    (repeat (first | refine g ?_))
    refine s_loadat (map_at Value.bool s.dumb false at_.toNat (by omega)) ?_
    (repeat (first | refine g ?_))
    refine run_cond rfl ?_ ?_
    · intro h2
      rw [if_pos h2]
      (repeat (first | refine g ?_))
      exact run_ret rfl (imp_RD rfl shut)
    · intro h2
      rw [if_neg (by rw [h2]; decide)]
      (repeat (first | refine g ?_))
      refine s_loadat (map_at Value.string s.held ⟨#[]⟩ at_.toNat (by omega)) ?_
      (repeat (first | refine g ?_))
      refine run_cond_dec rfl ?_ ?_
      · intro h4
        rw [if_neg h4]
        (repeat (first | refine g ?_))
        exact run_ret rfl (imp_RD rfl shut)
      · intro h4
        rw [if_pos (Decidable.not_not.1 h4)]
        (repeat (first | refine g ?_))
        refine s_call (repeat64 q) ?_
        (repeat (first | refine g ?_))
        exact run_ret rfl (imp_RD rfl shut)
theorem held_spec (q : View) (b : Nat) (s : PSt) (hw : WF s) (at_ : Int) :
    FnD Tryz.prog q 83 [.pointer (some ⟨b, 0, none⟩), .int .i64 at_] [plateAt b s] (.tuple #[.string (heldF s at_).1, .int .i64 (heldF s at_).2]) [plateAt b s] :=
  FnD.plate fun bh bd pc cc => FnD.frame (held_parts q b s hw.held hw.dumb hw.sec bh bd pc cc at_) [_]
end Go.Proofs.YtajndpddlpnbkaaGreatDoor.V
/- The device: a write that is kept; Flush. -/
namespace Go.Proofs.YtajndpddlpnbkaaGreatDoor.V
open Go.Proofs.YtajndpddlpnbkaaGreatDoor.VL
attribute [local irreducible] Run
@[reducible] def keepH (h : List ByteArray × List Bool) (x : Int × ByteArray) : List ByteArray × List Bool := (h.1.set x.1.toNat x.2, h.2.set x.1.toNat false)
@[reducible] def withH (s : PSt) (h : List ByteArray × List Bool) : PSt := { s with held := h.1, dumb := h.2 }
@[reducible] def keepF (s : PSt) (x : Int × ByteArray) : PSt := withH s (keepH (s.held, s.dumb) x)
theorem keep_held (s : PSt) (x : Int × ByteArray) : (keepF s x).held.length = s.held.length := List.length_set
theorem keep_dumb (s : PSt) (x : Int × ByteArray) : (keepF s x).dumb.length = s.dumb.length := List.length_set
theorem keep_heldV (s : PSt) (x : Int × ByteArray) : (keepF s x).held.map Value.string = (s.held.map Value.string).set x.1.toNat (.string x.2) := List.map_set
theorem keep_dumbV (s : PSt) (x : Int × ByteArray) : (keepF s x).dumb.map Value.bool = (s.dumb.map Value.bool).set x.1.toNat (.bool false) := List.map_set
theorem keep_parts (q : View) (b : Nat) (s : PSt) (hh : (s.held.length : Int) = s.sectors) (hd : (s.dumb.length : Int) = s.sectors) (hs : s.sectors ≤ 32768) (x : Int × ByteArray) (h0 : 0 ≤ x.1) (h1 : x.1 < s.sectors) (bh bd : Nat) (pc : Option Addr) (cc : Nat) :
    FnD Tryz.prog q 47 [.pointer (some ⟨b, 0, none⟩), .agg ⟨[.int .i64 x.1, .string x.2]⟩] (plate3 b s bh bd pc cc []) (.tuple #[]) (plate3 b (keepF s x) bh bd pc cc []) := by
  obtain ⟨a, t⟩ := x
  dsimp only at h0 h1
  (first | refine FnD.go Tryz.call47 Tryz.func47 rfl rfl rfl ?_ | refine FnX.go Tryz.call47 Tryz.func47 rfl rfl rfl ?_)
  unfold plate3
  (repeat (first | refine g ?_ | refine s_flat 1 [(.pure, [0, 1, 2, 4, 6]), (.mem true, [3, 5, 7]), (.pure, [8]), (.mem false, [9])] ?_ | refine s_flat 2 [(.pure, [0, 1, 2, 4]), (.mem true, [3, 5]), (.pure, [6]), (.mem false, [7])] ?_))
  refine s_box ?_
  intro r
  (repeat (first | refine g ?_ | refine s_flat 1 [(.pure, [0, 1, 2, 4, 6]), (.mem true, [3, 5, 7]), (.pure, [8]), (.mem false, [9])] ?_ | refine s_flat 2 [(.pure, [0, 1, 2, 4]), (.mem true, [3, 5]), (.pure, [6]), (.mem false, [7])] ?_))
  refine s_storeset ?_
  (repeat (first | refine g ?_ | refine s_flat 1 [(.pure, [0, 1, 2, 4, 6]), (.mem true, [3, 5, 7]), (.pure, [8]), (.mem false, [9])] ?_ | refine s_flat 2 [(.pure, [0, 1, 2, 4]), (.mem true, [3, 5]), (.pure, [6]), (.mem false, [7])] ?_))
  refine s_storeset ?_
  (repeat (first | refine g ?_ | refine s_flat 1 [(.pure, [0, 1, 2, 4, 6]), (.mem true, [3, 5, 7]), (.pure, [8]), (.mem false, [9])] ?_ | refine s_flat 2 [(.pure, [0, 1, 2, 4]), (.mem true, [3, 5]), (.pure, [6]), (.mem false, [7])] ?_))
  refine run_end rfl (imp_RD rfl ?_)
  rw [keep_held, keep_dumb, keep_heldV, keep_dumbV]
  exact shut
theorem foldH_len (l : List (Int × ByteArray)) (h : List ByteArray × List Bool) : (l.foldl keepH h).1.length = h.1.length ∧ (l.foldl keepH h).2.length = h.2.length := by
  induction l generalizing h with
  | nil => exact ⟨rfl, rfl⟩
  | cons x l ih => have := ih (keepH h x); simpa [keepH] using this
def flushF (s : PSt) : PSt := if s.down then s else { s with held := (s.cache.foldl keepH (s.held, s.dumb)).1, dumb := (s.cache.foldl keepH (s.held, s.dumb)).2, cache := [] }
theorem flush_spec (q : View) (b : Nat) (s : PSt) (hw : WF s) :
    FnD Tryz.prog q 24 [.pointer (some ⟨b, 0, none⟩)] [plateAt b s] (.int .i64 (if s.down then 20 else 0)) [plateAt b (flushF s)] := by
  have hh := hw.held
  have hd := hw.dumb
  have hn := hw.size
  (first | refine FnD.go Tryz.call24 Tryz.func24 rfl rfl rfl ?_ | refine FnX.go Tryz.call24 Tryz.func24 rfl rfl rfl ?_)
  refine run_plate fun bh bd pc cc => ?_
  unfold plateParts plate3
  (repeat (first | refine g ?_))
  refine run_cond rfl ?_ ?_
  · intro h
    (repeat (first | refine g ?_))
    refine run_ret rfl (imp_RD (by rw [if_pos h]) ?_)
    unfold flushF; rw [if_pos h]; exact imp_plate shut
  · intro h
    have h' : ¬ (s.down = true) := by rw [h]; decide
    (repeat (first | refine g ?_))
    refine run_loopI (X := Nat) (fun i => i ≤ s.cache.length) (fun i => [(0, .pointer (some ⟨b, 0, none⟩)), (14, .slice pc s.cache.length cc), (15, .int .i64 s.cache.length), (16, .int .i64 (i : Int))])
      (fun i => plateParts b (withH s ((s.cache.take i).foldl keepH (s.held, s.dumb))) bh bd pc cc []) (fun i => s.cache.length - i) 0 (Nat.zero_le _) fct ?_ ?_
    · simp only [List.take_zero, List.foldl_nil]; unfold plateParts plate3; exact shut
    · intro i hi
      have hl : ((s.cache.take i).foldl keepH (s.held, s.dumb)).1.length = s.held.length ∧ ((s.cache.take i).foldl keepH (s.held, s.dumb)).2.length = s.dumb.length := foldH_len _ _
      generalize eS : (s.cache.take i).foldl keepH (s.held, s.dumb) = hS at *
      unfold plateParts plate3
      (repeat (first | refine g ?_))
      refine run_cond_dec rfl ?_ ?_
      · intro h1
        have h1' : i < s.cache.length := Int.ofNat_lt.1 h1
        obtain ⟨x, hx⟩ : ∃ x, s.cache[i]? = some x := ⟨_, List.getElem?_eq_getElem h1'⟩
        have hxm := hw.cache x (List.mem_of_getElem? hx)
        have e1 := cacheV_length s.cache
        refine s_ptr pc (h0 := show 0 < s.cache.length by omega) (fun bc ep _ hcap => ?_)
        subst ep
        (repeat (first | refine g ?_))
        refine s_idxk 2 ?_
        refine s_loadasl (i := i * 2) (cacheV_at s.cache i x hx).2.2 (by omega) ?_
        (repeat (first | refine g ?_))
        refine s_alloc fun r => ?_
        (repeat (first | refine g ?_))
        refine s_call (keep_parts q b (withH s hS) (show (hS.1.length : Int) = s.sectors by omega) (show (hS.2.length : Int) = s.sectors by omega) hw.sec x hxm.1 hxm.2 bh bd _ cc) ?_
        (repeat (first | refine g ?_))
        have et : (s.cache.take (i + 1)).foldl keepH (s.held, s.dumb) = keepH hS x := by rw [List.take_add_one, hx, List.foldl_append, eS]; rfl
        refine run_stop_loop (i + 1) ⟨h1', by omega⟩ fct ?_
        dsimp only
        rw [et]
        exact shut
      · intro h1
        have h1' : i = s.cache.length := Nat.le_antisymm hi (Nat.le_of_not_lt fun h => h1 (Int.ofNat_lt.2 h))
        (repeat (first | refine g ?_))
        refine run_ret rfl (imp_RD ?_ ?_)
        · rw [if_neg h']
        · subst h1'
          rw [List.take_length] at eS
          unfold flushF; rw [if_neg h', eS]
          refine imp_plate (bh := bh) (bd := bd) (pc := none) (cc := 0) ?_
          unfold plateParts plate3; dsimp only [List.length_nil]
          exact shut
end Go.Proofs.YtajndpddlpnbkaaGreatDoor.V
/- The device: Arm, Lay, Spoil, Write, Read. -/
namespace Go.Proofs.YtajndpddlpnbkaaGreatDoor.V
open Go.Proofs.YtajndpddlpnbkaaGreatDoor.VL
attribute [local irreducible] Run
def armF (s : PSt) (n : Int) : Int × PSt := if n < 0 then (1, s) else if s.down = true then (20, s) else (0, { s with fuse := n })
theorem arm_spec (q : View) (b : Nat) (s : PSt) (n : Int) :
    FnD Tryz.prog q 9 [.pointer (some ⟨b, 0, none⟩), .int .i64 n] [plateAt b s] (.int .i64 (armF s n).1) [plateAt b (armF s n).2] := by
  (first | refine FnD.go Tryz.call9 Tryz.func9 rfl rfl rfl ?_ | refine FnX.go Tryz.call9 Tryz.func9 rfl rfl rfl ?_)
  refine run_plate fun bh bd pc cc => ?_
  unfold plateParts plate3
  (repeat (first | refine g ?_))
  refine run_cond_dec rfl ?_ ?_
  · intro h
    have e : armF s n = (1, s) := by unfold armF; rw [if_pos h]
    rw [e]
    (repeat (first | refine g ?_))
    exact run_ret rfl (imp_RD rfl (imp_plate shut))
  · intro h
    (repeat (first | refine g ?_))
    refine run_cond rfl ?_ ?_
    · intro h2
      have e : armF s n = (20, s) := by unfold armF; rw [if_neg h, if_pos h2]
      rw [e]
      (repeat (first | refine g ?_))
      exact run_ret rfl (imp_RD rfl (imp_plate shut))
    · intro h2
      have e : armF s n = (0, { s with fuse := n }) := by unfold armF; rw [if_neg h, if_neg (by rw [h2]; decide)]
      rw [e]
      (repeat (first | refine g ?_))
      exact run_ret rfl (imp_RD rfl (imp_plate shut))
def layF (s : PSt) (at_ : Int) (t : ByteArray) : Int × PSt := if (t.size : Int) ≠ 64 then (1, s) else if at_ < 0 ∨ s.sectors ≤ at_ then (2, s) else (0, keepF s (at_, t))
theorem lay_spec (q : View) (b : Nat) (s : PSt) (hw : WF s) (at_ : Int) (t : ByteArray) :
    FnD Tryz.prog q 32 [.pointer (some ⟨b, 0, none⟩), .int .i64 at_, .string t] [plateAt b s] (.int .i64 (layF s at_ t).1) [plateAt b (layF s at_ t).2] := by
  (first | refine FnD.go Tryz.call32 Tryz.func32 rfl rfl rfl ?_ | refine FnX.go Tryz.call32 Tryz.func32 rfl rfl rfl ?_)
  refine run_plate fun bh bd pc cc => ?_
  unfold plateParts plate3
  (repeat (first | refine g ?_))
  refine run_cond_dec rfl ?_ ?_
  · intro h
    have e : layF s at_ t = (1, s) := by unfold layF; rw [if_pos h]
    rw [e]
    (repeat (first | refine g ?_))
    exact run_ret rfl (imp_RD rfl (imp_plate shut))
  · intro h
    (repeat (first | refine g ?_))
    refine s_call (wrong_spec q b _ s.sectors at_) ?_
    (repeat (first | refine g ?_))
    refine run_cond_dec rfl ?_ ?_
    · intro h2
      have e : layF s at_ t = (2, s) := by unfold layF; rw [if_neg h, if_pos h2]
      rw [e]
      (repeat (first | refine g ?_))
      exact run_ret rfl (imp_RD rfl (imp_plate shut))
    · intro h2
      have e : layF s at_ t = (0, keepF s (at_, t)) := by unfold layF; rw [if_neg h, if_neg h2]
      (repeat (first | refine g ?_))
      refine s_call (keep_parts q b s hw.held hw.dumb hw.sec (at_, t) (show 0 ≤ at_ by omega) (show at_ < s.sectors by omega) bh bd pc cc) ?_
      rw [e]
      (repeat (first | refine g ?_))
      exact run_ret rfl (imp_RD rfl (imp_plate shut))
def spoilF (s : PSt) (at_ : Int) : Int × PSt := if at_ < 0 ∨ s.sectors ≤ at_ then (2, s) else (0, { s with held := s.held.set at_.toNat ⟨#[]⟩, dumb := s.dumb.set at_.toNat true })
theorem spoil_spec (q : View) (b : Nat) (s : PSt) (hw : WF s) (at_ : Int) :
    FnD Tryz.prog q 25 [.pointer (some ⟨b, 0, none⟩), .int .i64 at_] [plateAt b s] (.int .i64 (spoilF s at_).1) [plateAt b (spoilF s at_).2] := by
  have hh := hw.held
  have hd := hw.dumb
  (first | refine FnD.go Tryz.call25 Tryz.func25 rfl rfl rfl ?_ | refine FnX.go Tryz.call25 Tryz.func25 rfl rfl rfl ?_)
  refine run_plate fun bh bd pc cc => ?_
  unfold plateParts plate3
  (repeat (first | refine g ?_))
  refine s_call (wrong_spec q b _ s.sectors at_) ?_
  (repeat (first | refine g ?_))
  refine run_cond_dec rfl ?_ ?_
  · intro h2
    have e : spoilF s at_ = (2, s) := by unfold spoilF; rw [if_pos h2]
    rw [e]
    (repeat (first | refine g ?_))
    exact run_ret rfl (imp_RD rfl (imp_plate shut))
  · intro h2
    have e : spoilF s at_ = (0, { s with held := s.held.set at_.toNat ⟨#[]⟩, dumb := s.dumb.set at_.toNat true }) := by unfold spoilF; rw [if_neg h2]
    (repeat (first | refine g ?_))
    refine s_storeset ?_
    (repeat (first | refine g ?_))
    refine s_storeset ?_
    (repeat (first | refine g ?_))
    refine run_ret rfl (imp_RD (by rw [e]) ?_); rw [e]
    apply imp_plate; unfold plateParts plate3
    dsimp only
    rw [List.length_set, List.length_set, List.map_set, List.map_set]
    exact shut
def writeF (s : PSt) (at_ : Int) (t : ByteArray) : Int × PSt := if (t.size : Int) ≠ 64 then (1, s) else if s.down = true then (20, s) else if at_ < 0 ∨ s.sectors ≤ at_ then (2, s) else
  if s.fuse = 0 then (20, { s with down := true }) else
  (0, { s with fuse := if 0 < s.fuse then s.fuse - 1 else s.fuse, writes := s.writes + 1, cache := s.cache ++ [(at_, t)] })
theorem write_spec (q : View) (b : Nat) (s : PSt) (hw : WF s) (at_ : Int) (t : ByteArray) :
    FnD Tryz.prog q 26 [.pointer (some ⟨b, 0, none⟩), .int .i64 at_, .string t] [plateAt b s] (.int .i64 (writeF s at_ t).1) [plateAt b (writeF s at_ t).2] := by
  have hf := hw.fuse
  have hwr := hw.writes
  have hn := hw.size
  (first | refine FnD.go Tryz.call26 Tryz.func26 rfl rfl rfl ?_ | refine FnX.go Tryz.call26 Tryz.func26 rfl rfl rfl ?_)
  refine run_plate fun bh bd pc cc => ?_
  unfold plateParts plate3
  (repeat (first | refine g ?_))
  refine run_cond_dec rfl ?_ ?_
  · intro h
    have e : writeF s at_ t = (1, s) := by unfold writeF; rw [if_pos h]
    rw [e]
    (repeat (first | refine g ?_))
    exact run_ret rfl (imp_RD rfl (imp_plate shut))
  · intro h
    (repeat (first | refine g ?_))
    refine run_cond rfl ?_ ?_
    · intro h2
      have e : writeF s at_ t = (20, s) := by unfold writeF; rw [if_neg h, if_pos h2]
      rw [e]
      (repeat (first | refine g ?_))
      exact run_ret rfl (imp_RD rfl (imp_plate shut))
    · intro h2
      have h2' : ¬ (s.down = true) := by rw [h2]; decide
      (repeat (first | refine g ?_))
      refine s_call (wrong_spec q b _ s.sectors at_) ?_
      (repeat (first | refine g ?_))
      refine run_cond_dec rfl ?_ ?_
      · intro h3
        have e : writeF s at_ t = (2, s) := by unfold writeF; rw [if_neg h, if_neg h2', if_pos h3]
        rw [e]
        (repeat (first | refine g ?_))
        exact run_ret rfl (imp_RD rfl (imp_plate shut))
      · intro h3
        (repeat (first | refine g ?_))
        refine run_cond_dec rfl ?_ ?_
        · intro h4
          have e : writeF s at_ t = (20, { s with down := true }) := by unfold writeF; rw [if_neg h, if_neg h2', if_neg h3, if_pos h4]
          rw [e]
          (repeat (first | refine g ?_))
          exact run_ret rfl (imp_RD rfl (imp_plate shut))
        · intro h4
          have e : writeF s at_ t = (0, { s with fuse := if 0 < s.fuse then s.fuse - 1 else s.fuse, writes := s.writes + 1, cache := s.cache ++ [(at_, t)] }) := by unfold writeF; rw [if_neg h, if_neg h2', if_neg h3, if_neg h4]
          rw [e]
          generalize hfu : (if 0 < s.fuse then s.fuse - 1 else s.fuse) = fu
          (repeat (first | refine g ?_))
          refine run_cut (X := Unit) (fun _ => [(0, .pointer (some ⟨b, 0, none⟩)), (1, .int .i64 at_), (2, .string t)]) (fun _ => plateParts b { s with fuse := fu } bh bd pc cc []) ?_ fun _ => ?_
          · refine run_cond_dec rfl ?_ ?_
            · intro h5
              rw [if_pos h5] at hfu
              (repeat (first | refine g ?_))
              rw [hfu]
              exact run_stop_loop () trivial fct shut
            · intro h5
              rw [if_neg h5] at hfu
              rw [hfu]
              (repeat (first | refine g ?_))
              exact run_stop_loop () trivial fct shut
          · unfold plateParts plate3; dsimp only
            have ec := cacheV_length s.cache
            (repeat (first | refine g ?_))
            refine s_built fun r => ?_
            refine s_app 2 24 (reads_own At.head rfl) fun r2 => ?_
            (repeat (first | refine g ?_))
            refine run_ret rfl (imp_RD rfl ?_)
            apply imp_plate (pc := r2.1) (cc := r2.2); unfold plateParts plate3; dsimp only
            rw [List.length_append, cacheV_append, List.length_singleton, show cacheV [(at_, t)] = [.int .i64 at_, .string t] from rfl]
            exact shut
end Go.Proofs.YtajndpddlpnbkaaGreatDoor.V
/- The device: Read, Start, New, Copy. -/
namespace Go.Proofs.YtajndpddlpnbkaaGreatDoor.V
open Go.Proofs.YtajndpddlpnbkaaGreatDoor.VL
attribute [local irreducible] Run
def readF (s : PSt) (at_ : Int) : (ByteArray × Int) × PSt := if s.down = true then ((⟨#[]⟩, 20), s) else if at_ < 0 ∨ s.sectors ≤ at_ then ((⟨#[]⟩, 2), s) else
  (match s.cache.reverse.find? (fun x => decide (x.1 = at_)) with | some x => (x.2, 0) | none => heldF s at_, { s with reads := s.reads + 1 })
theorem last_at (l : List (Int × ByteArray)) (at_ : Int) (i : Nat) (x : Int × ByteArray) (hx : l[i]? = some x) (hxa : x.1 = at_) (hno : ∀ j, i + 1 ≤ j → ∀ y, l[j]? = some y → y.1 ≠ at_) : l.reverse.find? (fun x => decide (x.1 = at_)) = some x := by
  have hi : i < l.length := (List.getElem?_eq_some_iff.1 hx).1
  have hxe : l[i] = x := (List.getElem?_eq_some_iff.1 hx).2
  have e : l = l.take i ++ x :: l.drop (i + 1) := by
    rw [← hxe, List.getElem_cons_drop, List.take_append_drop]
  rw [e, List.reverse_append, List.reverse_cons, List.append_assoc, List.find?_append]
  have h0 : (l.drop (i + 1)).reverse.find? (fun x => decide (x.1 = at_)) = none := by
    rw [List.find?_eq_none]
    intro y hy
    rw [List.mem_reverse] at hy
    obtain ⟨j, hj⟩ := List.mem_iff_getElem?.1 hy
    rw [List.getElem?_drop] at hj
    simpa using hno _ (by omega) y hj
  rw [h0]
  simp [hxa]
theorem none_at (l : List (Int × ByteArray)) (at_ : Int) (hno : ∀ j, 0 ≤ j → ∀ y, l[j]? = some y → y.1 ≠ at_) : l.reverse.find? (fun x => decide (x.1 = at_)) = none := by
  rw [List.find?_eq_none]
  intro y hy
  rw [List.mem_reverse] at hy
  obtain ⟨j, hj⟩ := List.mem_iff_getElem?.1 hy
  simpa using hno _ (Nat.zero_le _) y hj
theorem read_spec (q : View) (b : Nat) (s : PSt) (hw : WF s) (at_ : Int) :
    FnD Tryz.prog q 66 [.pointer (some ⟨b, 0, none⟩), .int .i64 at_] [plateAt b s] (.tuple #[.string (readF s at_).1.1, .int .i64 (readF s at_).1.2]) [plateAt b (readF s at_).2] := by
  have hr := hw.reads
  have hn := hw.size
  (first | refine FnD.go Tryz.call66 Tryz.func66 rfl rfl rfl ?_ | refine FnX.go Tryz.call66 Tryz.func66 rfl rfl rfl ?_)
  refine run_plate fun bh bd pc cc => ?_
  unfold plateParts plate3
  (repeat (first | refine g ?_))
  refine run_cond rfl ?_ ?_
  · intro h2
    have e : readF s at_ = ((⟨#[]⟩, 20), s) := by unfold readF; rw [if_pos h2]
    rw [e]
    (repeat (first | refine g ?_))
    exact run_ret rfl (imp_RD rfl (imp_plate shut))
  · intro h2
    have h2' : ¬ (s.down = true) := by rw [h2]; decide
    (repeat (first | refine g ?_))
    refine s_call (wrong_spec q b _ s.sectors at_) ?_
    (repeat (first | refine g ?_))
    refine run_cond_dec rfl ?_ ?_
    · intro h3
      have e : readF s at_ = ((⟨#[]⟩, 2), s) := by unfold readF; rw [if_neg h2', if_pos h3]
      rw [e]
      (repeat (first | refine g ?_))
      exact run_ret rfl (imp_RD rfl (imp_plate shut))
    · intro h3
      have e : readF s at_ = (match s.cache.reverse.find? (fun x => decide (x.1 = at_)) with | some x => (x.2, 0) | none => heldF s at_, { s with reads := s.reads + 1 }) := by unfold readF; rw [if_neg h2', if_neg h3]
      rw [e]
      (repeat (first | refine g ?_))
      refine run_loopI (X := Nat) (fun i => i ≤ s.cache.length ∧ ∀ j, i ≤ j → ∀ x, s.cache[j]? = some x → x.1 ≠ at_) (fun i => [(0, .pointer (some ⟨b, 0, none⟩)), (1, .int .i64 at_), (6, .int .i64 ((i : Int) - 1))])
        (fun i => plateParts b { s with reads := s.reads + 1 } bh bd pc cc []) (fun i => i) s.cache.length ⟨Nat.le_refl _, fun j hj x hx => by rw [List.getElem?_eq_none hj] at hx; cases hx⟩ fct shut ?_
      intro i ⟨hi, hno⟩
      unfold plateParts plate3; dsimp only
      have e1 := cacheV_length s.cache
      (repeat (first | refine g ?_))
      refine run_cond_dec rfl ?_ ?_
      · intro h4
        have h1' : i - 1 < s.cache.length := by omega
        obtain ⟨x, hx⟩ : ∃ x, s.cache[i - 1]? = some x := ⟨_, List.getElem?_eq_getElem h1'⟩
        refine s_ptr pc (h0 := by omega) (fun bc ep _ hcap => ?_)
        subst ep
        have hcv := cacheV_at s.cache (i - 1) x hx
        have hti : ((i : Int) - 1).toNat = i - 1 := by omega
        rw [← hti] at hcv
        (repeat (first | refine g ?_))
        refine s_idxk 2 ?_
        (repeat (first | refine g ?_))
        refine s_loadsl hcv.1 ?_
        (repeat (first | refine g ?_))
        refine run_cond_dec rfl ?_ ?_
        · intro h5
          have ef := last_at s.cache at_ (i - 1) x hx h5 fun j hj => hno j (by omega)
          rw [ef]
          (repeat (first | refine g ?_))
          refine s_idxk 2 ?_
          (repeat (first | refine g ?_))
          refine s_loadsl hcv.2.1 ?_
          (repeat (first | refine g ?_))
          exact run_ret rfl (imp_RD rfl (imp_plate shut))
        · intro h5
          (repeat (first | refine g ?_))
          refine run_stop_loop (i - 1) ⟨⟨by omega, fun j hj y hy => ?_⟩, by omega⟩ fct shut
          rcases Nat.lt_or_ge j i with h | h
          · obtain rfl : j = i - 1 := by omega
            rw [hx] at hy; cases hy; exact h5
          · exact hno j h y hy
      · intro h4
        have ef := none_at s.cache at_ fun j hj => hno j (by omega)
        rw [ef]
        (repeat (first | refine g ?_))
        refine s_call (held_parts q b { s with reads := s.reads + 1 } hw.held hw.dumb hw.sec bh bd pc cc at_) ?_
        (repeat (first | refine g ?_))
        exact run_ret rfl (imp_RD rfl (imp_plate shut))
@[reducible] def keepB (h : List ByteArray × List Bool) (y : (Int × ByteArray) × Bool) : List ByteArray × List Bool := if y.2 = true then keepH h y.1 else h
def startH (s : PSt) (ks : List Bool) : List ByteArray × List Bool := (s.cache.zip ks).foldl keepB (s.held, s.dumb)
def startF (s : PSt) (ks : List Bool) : PSt := { s with held := (startH s ks).1, dumb := (startH s ks).2, cache := [], down := false, fuse := -1 }
theorem foldB_len (l : List ((Int × ByteArray) × Bool)) (h : List ByteArray × List Bool) : (l.foldl keepB h).1.length = h.1.length ∧ (l.foldl keepB h).2.length = h.2.length := by
  induction l generalizing h with
  | nil => exact ⟨rfl, rfl⟩
  | cons x l ih =>
    have := ih (keepB h x)
    rw [List.foldl_cons, this.1, this.2]
    unfold keepB; split <;> simp
def blank (n : Nat) : PSt := ⟨n, List.replicate n ⟨#[]⟩, List.replicate n false, [], -1, false, 0, 0⟩
theorem blank_wf (n : Nat) (h : n ≤ 32768) : WF (blank n) := ⟨by simp [blank], by simp [blank], by simp [blank]; omega, by simp [blank], by simp [blank], by simp [blank], by simp [blank], by simp [blank]⟩
theorem new_bad (q : View) (n : Int) (h : n < 0 ∨ 32768 < n) : FnD Tryz.prog q 23 [.int .i64 n] [] (.tuple #[.pointer none, .int .i64 1]) [] := by
  (first | refine FnD.go Tryz.call23 Tryz.func23 rfl rfl rfl ?_ | refine FnX.go Tryz.call23 Tryz.func23 rfl rfl rfl ?_)
  by_cases h1 : n < 0
  · (repeat (first | refine g ?_))
    exact run_ret rfl (imp_RD rfl shut)
  · have h2 : 32768 < n := by omega
    (repeat (first | refine g ?_))
    exact run_ret rfl (imp_RD rfl shut)
theorem new_spec (q : View) (n : Nat) (h : n ≤ 32768) : FnX Tryz.prog q 23 [.int .i64 n] [] (fun b => .tuple #[.pointer (some ⟨b, 0, none⟩), .int .i64 0]) fun b => [plateAt b (blank n)] := by
  (first | refine FnD.go Tryz.call23 Tryz.func23 rfl rfl rfl ?_ | refine FnX.go Tryz.call23 Tryz.func23 rfl rfl rfl ?_)
  (repeat (first | refine g ?_))
  apply a_start (M := []) mixed
  (repeat (first | exact Pulls.nil | (apply Pulls.cons; (repeat (first | (with_reducible exact Pull.head) | apply Pull.tail)))))
  (apply a_pure 0 tabOk; rfl; kernel_rfl; kernel_rfl; kernel_rfl; rfl)
  (apply a_pure 1 tabOk; rfl; kernel_rfl; kernel_rfl; kernel_rfl; rfl)
  (apply a_pure 3 tabOk; rfl; kernel_rfl; kernel_rfl; kernel_rfl; rfl)
  refine any_two (i := 2) (j := 4) (by kernel_rfl) ?_ ?_
  · apply o_made (kb := 16) (lm := n) (lc := n) 2 tabOk; rfl; rfl; rfl; rfl; rfl; rfl; rfl; rfl; rfl; omega; omega; rfl; rfl; rfl; omega; omega; exact fun _ => rfl
    intro r1
    apply a_made (kb := 1) (lm := n) (lc := n) 4 tabOk; rfl; kernel_rfl; rfl; rfl; rfl; rfl; rfl; rfl; rfl; rfl; omega; omega; rfl; rfl; rfl; omega; omega; exact fun _ => rfl
    intro r2
    (apply a_build 5 tabOk; rfl; kernel_rfl; kernel_rfl; kernel_rfl; rfl; rfl; rfl)
    (apply a_box 6; rfl; kernel_rfl; rfl; rfl; rfl; exact fun _ => rfl)
    intro r
    (apply a_pure 7 tabOk; rfl; kernel_rfl; kernel_rfl; kernel_rfl; rfl)
    (apply a_pure 8 tabOk; rfl; kernel_rfl; kernel_rfl; kernel_rfl; rfl)
    (apply a_done; kernel_rfl; rfl)
    (repeat (first | refine g ?_))
    refine run_ret rfl (imp_RX r rfl ?_)
    apply imp_plate (pc := none) (cc := 0); unfold plateParts plate3 blank; dsimp only [List.length_nil]
    rw [List.length_replicate, List.length_replicate, List.map_replicate, List.map_replicate, ← zeroL_one (.string ⟨#[]⟩) rfl n, ← zeroL_one (.bool false) rfl n]
    exact shut
  · apply o_made (kb := 1) (lm := n) (lc := n) 4 tabOk; rfl; rfl; rfl; rfl; rfl; rfl; rfl; rfl; rfl; omega; omega; rfl; rfl; rfl; omega; omega; exact fun _ => rfl
    intro r1
    apply a_made (kb := 16) (lm := n) (lc := n) 2 tabOk; rfl; kernel_rfl; rfl; rfl; rfl; rfl; rfl; rfl; rfl; rfl; omega; omega; rfl; rfl; rfl; omega; omega; exact fun _ => rfl
    intro r2
    (apply a_build 5 tabOk; rfl; kernel_rfl; kernel_rfl; kernel_rfl; rfl; rfl; rfl)
    (apply a_box 6; rfl; kernel_rfl; rfl; rfl; rfl; exact fun _ => rfl)
    intro r
    (apply a_pure 7 tabOk; rfl; kernel_rfl; kernel_rfl; kernel_rfl; rfl)
    (apply a_pure 8 tabOk; rfl; kernel_rfl; kernel_rfl; kernel_rfl; rfl)
    (apply a_done; kernel_rfl; rfl)
    (repeat (first | refine g ?_))
    refine run_ret rfl (imp_RX r rfl ?_)
    apply imp_plate (pc := none) (cc := 0); unfold plateParts plate3 blank; dsimp only [List.length_nil]
    rw [List.length_replicate, List.length_replicate, List.map_replicate, List.map_replicate, ← zeroL_one (.string ⟨#[]⟩) rfl n, ← zeroL_one (.bool false) rfl n]
    exact shut
theorem cacheV_one1 (l : List (Int × ByteArray)) : (cacheV l).all one1 = true := by
  rw [List.all_eq_true]
  intro v hv
  unfold cacheV at hv
  rw [List.mem_flatMap] at hv
  obtain ⟨x, _, hx⟩ := hv
  rcases List.mem_cons.1 hx with rfl | hx
  · rfl
  · rcases List.mem_cons.1 hx with rfl | hx
    · rfl
    · cases hx
end Go.Proofs.YtajndpddlpnbkaaGreatDoor.V
/- The device: what a nil one answers. -/
namespace Go.Proofs.YtajndpddlpnbkaaGreatDoor.V
open Go.Proofs.YtajndpddlpnbkaaGreatDoor.VL
attribute [local irreducible] Run
theorem read_nil (q : View) (at_ : Int) : FnD Tryz.prog q 66 [.pointer none, .int .i64 at_] [] (.tuple #[.string ⟨#[]⟩, .int .i64 1]) [] := by
  (first | refine FnD.go Tryz.call66 Tryz.func66 rfl rfl rfl ?_ | refine FnX.go Tryz.call66 Tryz.func66 rfl rfl rfl ?_)
  (repeat (first | refine g ?_))
  exact run_ret rfl (imp_RD rfl shut)
theorem held_nil (q : View) (at_ : Int) : FnD Tryz.prog q 83 [.pointer none, .int .i64 at_] [] (.tuple #[.string ⟨#[]⟩, .int .i64 1]) [] := by
  (first | refine FnD.go Tryz.call83 Tryz.func83 rfl rfl rfl ?_ | refine FnX.go Tryz.call83 Tryz.func83 rfl rfl rfl ?_)
  (repeat (first | refine g ?_))
  exact run_ret rfl (imp_RD rfl shut)
theorem write_nil (q : View) (at_ : Int) (t : ByteArray) : FnD Tryz.prog q 26 [.pointer none, .int .i64 at_, .string t] [] (.int .i64 1) [] := by
  (first | refine FnD.go Tryz.call26 Tryz.func26 rfl rfl rfl ?_ | refine FnX.go Tryz.call26 Tryz.func26 rfl rfl rfl ?_)
  (repeat (first | refine g ?_))
  exact run_ret rfl (imp_RD rfl shut)
theorem flush_nil (q : View) : FnD Tryz.prog q 24 [.pointer none] [] (.int .i64 1) [] := by
  (first | refine FnD.go Tryz.call24 Tryz.func24 rfl rfl rfl ?_ | refine FnX.go Tryz.call24 Tryz.func24 rfl rfl rfl ?_)
  (repeat (first | refine g ?_))
  exact run_ret rfl (imp_RD rfl shut)
theorem arm_nil (q : View) (at_ : Int) : FnD Tryz.prog q 9 [.pointer none, .int .i64 at_] [] (.int .i64 1) [] := by
  (first | refine FnD.go Tryz.call9 Tryz.func9 rfl rfl rfl ?_ | refine FnX.go Tryz.call9 Tryz.func9 rfl rfl rfl ?_)
  (repeat (first | refine g ?_))
  exact run_ret rfl (imp_RD rfl shut)
theorem lay_nil (q : View) (at_ : Int) (t : ByteArray) : FnD Tryz.prog q 32 [.pointer none, .int .i64 at_, .string t] [] (.int .i64 1) [] := by
  (first | refine FnD.go Tryz.call32 Tryz.func32 rfl rfl rfl ?_ | refine FnX.go Tryz.call32 Tryz.func32 rfl rfl rfl ?_)
  (repeat (first | refine g ?_))
  exact run_ret rfl (imp_RD rfl shut)
theorem spoil_nil (q : View) (at_ : Int) : FnD Tryz.prog q 25 [.pointer none, .int .i64 at_] [] (.int .i64 1) [] := by
  (first | refine FnD.go Tryz.call25 Tryz.func25 rfl rfl rfl ?_ | refine FnX.go Tryz.call25 Tryz.func25 rfl rfl rfl ?_)
  (repeat (first | refine g ?_))
  exact run_ret rfl (imp_RD rfl shut)
theorem sectors_nil (q : View) : FnD Tryz.prog q 54 [.pointer none] [] (.int .i64 0) [] := by
  (first | refine FnD.go Tryz.call54 Tryz.func54 rfl rfl rfl ?_ | refine FnX.go Tryz.call54 Tryz.func54 rfl rfl rfl ?_)
  (repeat (first | refine g ?_))
  exact run_ret rfl (imp_RD rfl shut)
theorem pending_nil (q : View) : FnD Tryz.prog q 14 [.pointer none] [] (.int .i64 0) [] := by
  (first | refine FnD.go Tryz.call14 Tryz.func14 rfl rfl rfl ?_ | refine FnX.go Tryz.call14 Tryz.func14 rfl rfl rfl ?_)
  (repeat (first | refine g ?_))
  exact run_ret rfl (imp_RD rfl shut)
theorem writes_nil (q : View) : FnD Tryz.prog q 13 [.pointer none] [] (.int .i64 0) [] := by
  (first | refine FnD.go Tryz.call13 Tryz.func13 rfl rfl rfl ?_ | refine FnX.go Tryz.call13 Tryz.func13 rfl rfl rfl ?_)
  (repeat (first | refine g ?_))
  exact run_ret rfl (imp_RD rfl shut)
end Go.Proofs.YtajndpddlpnbkaaGreatDoor.V
/- Chapter 4's law: texts of one byte, so many times; how long a step's text is; the first example. -/
namespace Go.Proofs.YtajndpddlpnbkaaGreatDoor.V
open Go.Proofs.YtajndpddlpnbkaaGreatDoor.VL
attribute [local irreducible] Run
def bytesF (v : Int) (n : Nat) : ByteArray := ⟨(List.replicate n (UInt8.ofNat v.toNat)).toArray⟩
theorem bytesF_size (v : Int) (n : Nat) : (bytesF v n).size = n := by
  show (List.replicate n (UInt8.ofNat v.toNat)).toArray.size = n
  simp
theorem bv_bytes (v : Int) (n : Nat) (h0 : 0 ≤ v) (h1 : v ≤ 255) : bv (List.replicate n (UInt8.ofNat v.toNat)) = List.replicate n (Value.int .u8 v) := by
  unfold bv
  rw [List.map_replicate]
  congr 2
  rw [UInt8.toNat_ofNat']
  omega
theorem set_fill (n i : Nat) (a z : Value) (h : i < n) : (List.replicate i a ++ List.replicate (n - i) z).set i a = List.replicate (i + 1) a ++ List.replicate (n - (i + 1)) z := by
  rw [List.set_append_right _ _ (by simp), List.length_replicate, Nat.sub_self]
  obtain ⟨m, hm⟩ : ∃ m, n - i = m + 1 := ⟨n - i - 1, by omega⟩
  rw [hm, show n - (i + 1) = m by omega, List.replicate_succ, List.set_cons_zero, List.replicate_succ', List.append_assoc]
  rfl
def someF (n : Int) : Int := if n < 0 ∨ 200 < n then 64 else n
theorem blank_spec (q : View) : FnD Tryz.prog q 52 [] [] (.string zeros64) [] := by
  (first | refine FnD.go Tryz.call52 Tryz.func52 rfl rfl rfl ?_ | refine FnX.go Tryz.call52 Tryz.func52 rfl rfl rfl ?_)
  (repeat (first | refine g ?_))
  refine s_made 1 64 64 fun r => ?_
  rw [zeroL_one _ rfl]
  (repeat (first | refine g ?_))
  refine s_stringc (m := 64) (o := 0) (c := ⟨List.replicate 64 (.int .u8 0)⟩) (l := List.replicate 64 0) (by simp) (by simp [bv]) ?_
  (repeat (first | refine g ?_))
  exact run_ret rfl (imp_RD rfl shut)
def aS : ByteArray := bytesF 120 64
def aS1 : PSt := ⟨2, [⟨#[]⟩, ⟨#[]⟩], [false, false], [(0, aS)], -1, false, 0, 1⟩
def aS2 : PSt := ⟨2, [aS, ⟨#[]⟩], [false, false], [], -1, false, 0, 1⟩
theorem aw1 : writeF (blank 2) 0 aS = (0, aS1) := by rfl
theorem aS1_wf : WF aS1 := ⟨rfl, rfl, by decide, by decide, by decide, by decide, by decide, by decide⟩
theorem aw2 : startF aS1 [true] = aS2 := by rfl
theorem aS2_wf : WF aS2 := ⟨rfl, rfl, by decide, by decide, by decide, by decide, by decide, by decide⟩
theorem aw3 : (readF aS2 0).1 = (aS, 0) := by rfl
end Go.Proofs.YtajndpddlpnbkaaGreatDoor.V
/- The document's device: what its methods do. -/
namespace Go.Proofs.YtajndpddlpnbkaaGreatDoor.V
open Go.Proofs.YtajndpddlpnbkaaGreatDoor.VL
attribute [local irreducible] Run
/-- The document's device: what is kept, which can't be read, what waits, the fuse. -/
structure QSt where
  kept : List ByteArray
  dumb : List Bool
  wait : List (Int × ByteArray)
  fuse : Int
  down : Bool
  reads : Int
  writes : Int
@[reducible] def qParts (b : Nat) (s : QSt) (pk : Option Addr) (ck : Nat) (pd : Option Addr) (cd : Nat) (pw : Option Addr) (cw : Nat) (A : List HProp) : List HProp :=
  cells b 37 ⟨[.slice pk s.kept.length ck, .slice pd s.dumb.length cd, .slice pw s.wait.length cw, .int .i64 s.fuse, .bool s.down, .int .i64 s.reads, .int .i64 s.writes]⟩ ::
   sl pk s.kept.length ck 9 1 (s.kept.map Value.string) :: sl pd s.dumb.length cd 4 1 (s.dumb.map Value.bool) :: sl pw s.wait.length cw 109 2 (cacheV s.wait) :: A
def qAt (b : Nat) (s : QSt) : HProp := hex fun x : Option Addr × Nat × Option Addr × Nat × Option Addr × Nat => star (qParts b s x.1 x.2.1 x.2.2.1 x.2.2.2.1 x.2.2.2.2.1 x.2.2.2.2.2 [])
section
variable {P : Program} {q : View} {fn : Func} {R : Value → HProp} {k : List It} {σ : Facts} {A B : List HProp} {F : HProp} {b : Nat} {s : QSt}
theorem run_q (hk : ∀ pk ck pd cd pw cw, Run P q fn R k σ (qParts b s pk ck pd cd pw cw A)) : Run P q fn R k σ (qAt b s :: A) :=
  run_hex fun x => run_star (hk _ _ _ _ _ _)
theorem imp_q {pk pd pw : Option Addr} {ck cd cw : Nat} (h : Imp F (star (qParts b s pk ck pd cd pw cw B))) : Imp F (star (qAt b s :: B)) := by
  refine imp_ex (pk, ck, pd, cd, pw, cw) ?_
  exact imp_star h
end
/-- No sector there. -/
theorem none_spec (q : View) (b : Nat) (pk : Option Addr) (n ck : Nat) (l : List Value) (at_ : Int) :
    FnD Tryz.prog q 49 [.pointer (some ⟨b, 0, none⟩), .int .i64 at_] [cells b 37 ⟨.slice pk n ck :: l⟩] (.bool (decide (at_ < 0 ∨ (n : Int) ≤ at_))) [cells b 37 ⟨.slice pk n ck :: l⟩] := by
  (first | refine FnD.go Tryz.call49 Tryz.func49 rfl rfl rfl ?_ | refine FnX.go Tryz.call49 Tryz.func49 rfl rfl rfl ?_)
  (repeat (first | refine g ?_))
  refine run_split_dec rfl rfl rfl rfl rfl ?_ ?_
  · intro h
    (repeat (first | refine g ?_))
    exact run_ret rfl (imp_RD (by rw [decide_eq_true (.inl h)]) shut)
  · intro h
    (repeat (first | refine g ?_))
    exact run_ret rfl (imp_RD (by congr 1; exact decide_eq_decide.2 ⟨.inr, fun h2 => h2.resolve_left h⟩) shut)
structure QW (s : QSt) : Prop where
  dumb : s.dumb.length = s.kept.length
  sec : s.kept.length ≤ 32768
  wait : ∀ x ∈ s.wait, 0 ≤ x.1 ∧ x.1 < s.kept.length
  size : s.wait.length ≤ 1099511627776
  reads : 0 ≤ s.reads ∧ s.reads ≤ 1099511627776
  writes : 0 ≤ s.writes ∧ s.writes ≤ 1099511627776
  fuse : -1 ≤ s.fuse ∧ s.fuse ≤ 9223372036854775807
def qHeldF (s : QSt) (at_ : Int) : ByteArray × Int :=
  if at_ < 0 ∨ (s.kept.length : Int) ≤ at_ then (⟨#[]⟩, 2) else
  if s.dumb.getD at_.toNat false = true then (⟨#[]⟩, 21) else (s.kept.getD at_.toNat ⟨#[]⟩, 0)
@[reducible] def q3 (b : Nat) (s : QSt) (pk : Option Addr) (ck : Nat) (pd : Option Addr) (cd : Nat) (pw : Option Addr) (cw : Nat) (A : List HProp) : List HProp :=
  cells b 37 ⟨[.slice pk s.kept.length ck, .slice pd s.dumb.length cd, .slice pw s.wait.length cw, .int .i64 s.fuse, .bool s.down, .int .i64 s.reads, .int .i64 s.writes]⟩ ::
   sl pk s.kept.length ck 9 1 (s.kept.map Value.string) :: sl pd s.dumb.length cd 4 1 (s.dumb.map Value.bool) :: A
theorem qheld_parts (q : View) (b : Nat) (s : QSt) (hd : s.dumb.length = s.kept.length) (hs : s.kept.length ≤ 32768) (pk : Option Addr) (ck : Nat) (pd : Option Addr) (cd : Nat) (pw : Option Addr) (cw : Nat) (at_ : Int) :
    FnD Tryz.prog q 73 [.pointer (some ⟨b, 0, none⟩), .int .i64 at_] (q3 b s pk ck pd cd pw cw []) (.tuple #[.string (qHeldF s at_).1, .int .i64 (qHeldF s at_).2]) (q3 b s pk ck pd cd pw cw []) := by
  unfold qHeldF
  (first | refine FnD.go Tryz.call73 Tryz.func73 rfl rfl rfl ?_ | refine FnX.go Tryz.call73 Tryz.func73 rfl rfl rfl ?_)
  unfold q3
  (repeat (first | refine g ?_))
  refine s_call (none_spec q b pk s.kept.length ck _ at_) ?_
  (repeat (first | refine g ?_))
  refine run_cond_dec rfl ?_ ?_
  · intro h
    rw [if_pos h]
    (repeat (first | refine g ?_))
    exact run_ret rfl (imp_RD rfl shut)
  · intro h
    rw [if_neg h]
    have h0 : 0 ≤ at_ := by omega
    refine s_ptr pk (h0 := by omega) (fun bk ek _ _ => ?_)
    refine s_ptr pd (h0 := by omega) (fun bd ed _ _ => ?_)
    subst ek ed
    (repeat (first | refine g ?_))
    refine s_loadsl (map_at Value.bool s.dumb false at_.toNat (by omega)) ?_
    (repeat (first | refine g ?_))
    refine run_cond rfl ?_ ?_
    · intro h2
      rw [if_pos h2]
      (repeat (first | refine g ?_))
      exact run_ret rfl (imp_RD rfl shut)
    · intro h2
      rw [if_neg (by rw [h2]; decide)]
      (repeat (first | refine g ?_))
      refine s_loadsl (map_at Value.string s.kept ⟨#[]⟩ at_.toNat (by omega)) ?_
      (repeat (first | refine g ?_))
      exact run_ret rfl (imp_RD rfl shut)
end Go.Proofs.YtajndpddlpnbkaaGreatDoor.V
/- The document's device: keep, Flush, Arm, Lay, Spoil. -/
namespace Go.Proofs.YtajndpddlpnbkaaGreatDoor.V
open Go.Proofs.YtajndpddlpnbkaaGreatDoor.VL
attribute [local irreducible] Run
@[reducible] def qWithH (s : QSt) (h : List ByteArray × List Bool) : QSt := { s with kept := h.1, dumb := h.2 }
theorem qkeep_parts (q : View) (b : Nat) (s : QSt) (hd : s.dumb.length = s.kept.length) (hs : s.kept.length ≤ 32768) (x : Int × ByteArray) (h0 : 0 ≤ x.1) (h1 : x.1 < s.kept.length) (pk : Option Addr) (ck : Nat) (pd : Option Addr) (cd : Nat) (pw : Option Addr) (cw : Nat) :
    FnD Tryz.prog q 53 [.pointer (some ⟨b, 0, none⟩), .agg ⟨[.int .i64 x.1, .string x.2]⟩] (q3 b s pk ck pd cd pw cw []) (.tuple #[]) (q3 b (qWithH s (keepH (s.kept, s.dumb) x)) pk ck pd cd pw cw []) := by
  obtain ⟨a, t⟩ := x
  dsimp only at h0 h1
  (first | refine FnD.go Tryz.call53 Tryz.func53 rfl rfl rfl ?_ | refine FnX.go Tryz.call53 Tryz.func53 rfl rfl rfl ?_)
  unfold q3
  (repeat (first | refine g ?_ | refine s_flat 1 [(.pure, [0, 1, 2, 4, 6]), (.mem true, [3, 5, 7]), (.pure, [8]), (.mem false, [9])] ?_ | refine s_flat 2 [(.pure, [0, 1, 2, 4]), (.mem true, [3, 5]), (.pure, [6]), (.mem false, [7])] ?_))
  refine s_box ?_
  intro r
  (repeat (first | refine g ?_ | refine s_flat 1 [(.pure, [0, 1, 2, 4, 6]), (.mem true, [3, 5, 7]), (.pure, [8]), (.mem false, [9])] ?_ | refine s_flat 2 [(.pure, [0, 1, 2, 4]), (.mem true, [3, 5]), (.pure, [6]), (.mem false, [7])] ?_))
  refine s_ptr pk (h0 := by omega) (fun bk ek ekl _ => ?_)
  refine s_ptr pd (h0 := by omega) (fun bd ed edl _ => ?_)
  subst ek ed
  (repeat (first | refine g ?_ | refine s_flat 1 [(.pure, [0, 1, 2, 4, 6]), (.mem true, [3, 5, 7]), (.pure, [8]), (.mem false, [9])] ?_ | refine s_flat 2 [(.pure, [0, 1, 2, 4]), (.mem true, [3, 5]), (.pure, [6]), (.mem false, [7])] ?_))
  refine s_storesl ?_
  (repeat (first | refine g ?_ | refine s_flat 1 [(.pure, [0, 1, 2, 4, 6]), (.mem true, [3, 5, 7]), (.pure, [8]), (.mem false, [9])] ?_ | refine s_flat 2 [(.pure, [0, 1, 2, 4]), (.mem true, [3, 5]), (.pure, [6]), (.mem false, [7])] ?_))
  refine s_storesl ?_
  (repeat (first | refine g ?_ | refine s_flat 1 [(.pure, [0, 1, 2, 4, 6]), (.mem true, [3, 5, 7]), (.pure, [8]), (.mem false, [9])] ?_ | refine s_flat 2 [(.pure, [0, 1, 2, 4]), (.mem true, [3, 5]), (.pure, [6]), (.mem false, [7])] ?_))
  refine run_end rfl (imp_RD rfl ?_)
  dsimp only
  rw [List.length_set, List.length_set, List.map_set, List.map_set]
  exact shut
def qFlushF (s : QSt) : QSt := if s.down then s else { s with kept := (s.wait.foldl keepH (s.kept, s.dumb)).1, dumb := (s.wait.foldl keepH (s.kept, s.dumb)).2, wait := [] }
def qArmF (s : QSt) (n : Int) : Int × QSt := if n < 0 then (1, s) else if s.down = true then (20, s) else (0, { s with fuse := n })
theorem qarm_spec (q : View) (b : Nat) (s : QSt) (n : Int) :
    FnD Tryz.prog q 10 [.pointer (some ⟨b, 0, none⟩), .int .i64 n] [qAt b s] (.int .i64 (qArmF s n).1) [qAt b (qArmF s n).2] := by
  (first | refine FnD.go Tryz.call10 Tryz.func10 rfl rfl rfl ?_ | refine FnX.go Tryz.call10 Tryz.func10 rfl rfl rfl ?_)
  refine run_q fun pk ck pd cd pw cw => ?_
  unfold qParts
  (repeat (first | refine g ?_))
  refine run_cond_dec rfl ?_ ?_
  · intro h
    have e : qArmF s n = (1, s) := by unfold qArmF; rw [if_pos h]
    rw [e]
    (repeat (first | refine g ?_))
    exact run_ret rfl (imp_RD rfl (imp_q shut))
  · intro h
    (repeat (first | refine g ?_))
    refine run_cond rfl ?_ ?_
    · intro h2
      have e : qArmF s n = (20, s) := by unfold qArmF; rw [if_neg h, if_pos h2]
      rw [e]
      (repeat (first | refine g ?_))
      exact run_ret rfl (imp_RD rfl (imp_q shut))
    · intro h2
      have e : qArmF s n = (0, { s with fuse := n }) := by unfold qArmF; rw [if_neg h, if_neg (by rw [h2]; decide)]
      rw [e]
      (repeat (first | refine g ?_))
      exact run_ret rfl (imp_RD rfl (imp_q shut))
def qLayF (s : QSt) (at_ : Int) (t : ByteArray) : Int × QSt := if (t.size : Int) ≠ 64 then (1, s) else if at_ < 0 ∨ (s.kept.length : Int) ≤ at_ then (2, s) else (0, qWithH s (keepH (s.kept, s.dumb) (at_, t)))
theorem qlay_spec (q : View) (b : Nat) (s : QSt) (hw : QW s) (at_ : Int) (t : ByteArray) :
    FnD Tryz.prog q 33 [.pointer (some ⟨b, 0, none⟩), .int .i64 at_, .string t] [qAt b s] (.int .i64 (qLayF s at_ t).1) [qAt b (qLayF s at_ t).2] := by
  (first | refine FnD.go Tryz.call33 Tryz.func33 rfl rfl rfl ?_ | refine FnX.go Tryz.call33 Tryz.func33 rfl rfl rfl ?_)
  refine run_q fun pk ck pd cd pw cw => ?_
  unfold qParts
  (repeat (first | refine g ?_))
  refine run_cond_dec rfl ?_ ?_
  · intro h
    have e : qLayF s at_ t = (1, s) := by unfold qLayF; rw [if_pos h]
    rw [e]
    (repeat (first | refine g ?_))
    exact run_ret rfl (imp_RD rfl (imp_q shut))
  · intro h
    (repeat (first | refine g ?_))
    refine s_call (none_spec q b pk s.kept.length ck _ at_) ?_
    (repeat (first | refine g ?_))
    refine run_cond_dec rfl ?_ ?_
    · intro h2
      have e : qLayF s at_ t = (2, s) := by unfold qLayF; rw [if_neg h, if_pos h2]
      rw [e]
      (repeat (first | refine g ?_))
      exact run_ret rfl (imp_RD rfl (imp_q shut))
    · intro h2
      have e : qLayF s at_ t = (0, qWithH s (keepH (s.kept, s.dumb) (at_, t))) := by unfold qLayF; rw [if_neg h, if_neg h2]
      (repeat (first | refine g ?_))
      refine s_call (qkeep_parts q b s hw.dumb hw.sec (at_, t) (show 0 ≤ at_ by omega) (show at_ < s.kept.length by omega) pk ck pd cd pw cw) ?_
      rw [e]
      (repeat (first | refine g ?_))
      exact run_ret rfl (imp_RD rfl (imp_q shut))
def qSpoilF (s : QSt) (at_ : Int) : Int × QSt := if at_ < 0 ∨ (s.kept.length : Int) ≤ at_ then (2, s) else (0, { s with dumb := s.dumb.set at_.toNat true })
theorem qspoil_spec (q : View) (b : Nat) (s : QSt) (hw : QW s) (at_ : Int) :
    FnD Tryz.prog q 34 [.pointer (some ⟨b, 0, none⟩), .int .i64 at_] [qAt b s] (.int .i64 (qSpoilF s at_).1) [qAt b (qSpoilF s at_).2] := by
  have hd := hw.dumb
  (first | refine FnD.go Tryz.call34 Tryz.func34 rfl rfl rfl ?_ | refine FnX.go Tryz.call34 Tryz.func34 rfl rfl rfl ?_)
  refine run_q fun pk ck pd cd pw cw => ?_
  unfold qParts
  (repeat (first | refine g ?_))
  refine s_call (none_spec q b pk s.kept.length ck _ at_) ?_
  (repeat (first | refine g ?_))
  refine run_cond_dec rfl ?_ ?_
  · intro h2
    have e : qSpoilF s at_ = (2, s) := by unfold qSpoilF; rw [if_pos h2]
    rw [e]
    (repeat (first | refine g ?_))
    exact run_ret rfl (imp_RD rfl (imp_q shut))
  · intro h2
    have e : qSpoilF s at_ = (0, { s with dumb := s.dumb.set at_.toNat true }) := by unfold qSpoilF; rw [if_neg h2]
    refine s_ptr pd (h0 := by omega) (fun bd ed edl _ => ?_)
    subst ed
    (repeat (first | refine g ?_))
    refine s_storesl ?_
    (repeat (first | refine g ?_))
    refine run_ret rfl (imp_RD (by rw [e]) ?_); rw [e]
    refine imp_q (pk := pk) (ck := ck) (pd := some ⟨bd, 0, none⟩) (cd := cd) (pw := pw) (cw := cw) ?_
    unfold qParts
    dsimp only
    rw [List.length_set, List.map_set]
    exact shut
end Go.Proofs.YtajndpddlpnbkaaGreatDoor.V
/- The document's device: Read, Write, Start. -/
namespace Go.Proofs.YtajndpddlpnbkaaGreatDoor.V
open Go.Proofs.YtajndpddlpnbkaaGreatDoor.VL
attribute [local irreducible] Run
/-- The last write there, or else. -/
def lastF (l : List (Int × ByteArray)) (at_ : Int) (d : ByteArray × Int) : ByteArray × Int :=
  match l.reverse.find? (fun x => decide (x.1 = at_)) with | some x => (x.2, 0) | none => d
theorem lastF_snoc (l : List (Int × ByteArray)) (at_ : Int) (d : ByteArray × Int) (x : Int × ByteArray) : lastF (l ++ [x]) at_ d = if x.1 = at_ then (x.2, 0) else lastF l at_ d := by
  unfold lastF
  rw [List.reverse_append, List.reverse_singleton, List.singleton_append, List.find?_cons]
  by_cases h : x.1 = at_
  · rw [if_pos h]; simp [h]
  · rw [if_neg h]; simp [h]
def qReadF (s : QSt) (at_ : Int) : (ByteArray × Int) × QSt := if s.down = true then ((⟨#[]⟩, 20), s) else if at_ < 0 ∨ (s.kept.length : Int) ≤ at_ then ((⟨#[]⟩, 2), s) else
  (lastF s.wait at_ (qHeldF s at_), { s with reads := s.reads + 1 })
theorem qread_spec (q : View) (b : Nat) (s : QSt) (hw : QW s) (at_ : Int) :
    FnD Tryz.prog q 51 [.pointer (some ⟨b, 0, none⟩), .int .i64 at_] [qAt b s] (.tuple #[.string (qReadF s at_).1.1, .int .i64 (qReadF s at_).1.2]) [qAt b (qReadF s at_).2] := by
  have hr := hw.reads
  have hn := hw.size
  (first | refine FnD.go Tryz.call51 Tryz.func51 rfl rfl rfl ?_ | refine FnX.go Tryz.call51 Tryz.func51 rfl rfl rfl ?_)
  refine run_q fun pk ck pd cd pw cw => ?_
  unfold qParts
  (repeat (first | refine g ?_))
  refine run_cond rfl ?_ ?_
  · intro h2
    have e : qReadF s at_ = ((⟨#[]⟩, 20), s) := by unfold qReadF; rw [if_pos h2]
    rw [e]
    (repeat (first | refine g ?_))
    exact run_ret rfl (imp_RD rfl (imp_q shut))
  · intro h2
    have h2' : ¬ (s.down = true) := by rw [h2]; decide
    (repeat (first | refine g ?_))
    refine s_call (none_spec q b pk s.kept.length ck _ at_) ?_
    (repeat (first | refine g ?_))
    refine run_cond_dec rfl ?_ ?_
    · intro h3
      have e : qReadF s at_ = ((⟨#[]⟩, 2), s) := by unfold qReadF; rw [if_neg h2', if_pos h3]
      rw [e]
      (repeat (first | refine g ?_))
      exact run_ret rfl (imp_RD rfl (imp_q shut))
    · intro h3
      have e : qReadF s at_ = (lastF s.wait at_ (qHeldF s at_), { s with reads := s.reads + 1 }) := by unfold qReadF; rw [if_neg h2', if_neg h3]
      rw [e]
      (repeat (first | refine g ?_))
      refine s_call (qheld_parts q b { s with reads := s.reads + 1 } hw.dumb hw.sec pk ck pd cd pw cw at_) ?_
      rw [show qHeldF { s with reads := s.reads + 1 } at_ = qHeldF s at_ from rfl]
      generalize qHeldF s at_ = d
      (repeat (first | refine g ?_))
      refine run_loopI (X := Nat) (fun i => i ≤ s.wait.length) (fun i => [(0, .pointer (some ⟨b, 0, none⟩)), (1, .int .i64 at_), (6, .string (lastF (s.wait.take i) at_ d).1), (7, .int .i64 (lastF (s.wait.take i) at_ d).2), (8, .int .i64 (i : Int))])
        (fun i => qParts b { s with reads := s.reads + 1 } pk ck pd cd pw cw []) (fun i => s.wait.length - i) 0 (Nat.zero_le _) (by rw [List.take_zero, show lastF [] at_ d = d from rfl]; exact fct) shut ?_
      intro i hi
      unfold qParts
      dsimp only
      have e1 := cacheV_length s.wait
      generalize eD : lastF (s.wait.take i) at_ d = dd at *
      (repeat (first | refine g ?_))
      refine run_cond_dec rfl ?_ ?_
      · intro h1
        have h1' : i < s.wait.length := Int.ofNat_lt.1 h1
        obtain ⟨x, hx⟩ : ∃ x, s.wait[i]? = some x := ⟨_, List.getElem?_eq_getElem h1'⟩
        have hcv := cacheV_at s.wait i x hx
        have et : lastF (s.wait.take (i + 1)) at_ d = if x.1 = at_ then (x.2, 0) else dd := by rw [List.take_add_one, hx]; show lastF (s.wait.take i ++ [x]) at_ d = _; rw [lastF_snoc, eD]
        refine s_ptr pw (h0 := show 0 < s.wait.length by omega) (fun bc ep _ hcap => ?_)
        subst ep
        (repeat (first | refine g ?_))
        refine s_idxk 2 ?_
        (repeat (first | refine g ?_))
        refine s_loadsl hcv.1 ?_
        (repeat (first | refine g ?_))
        refine run_cond_dec rfl ?_ ?_
        · intro h5
          rw [if_pos h5] at et
          (repeat (first | refine g ?_))
          refine s_idxk 2 ?_
          (repeat (first | refine g ?_))
          refine s_loadsl hcv.2.1 ?_
          (repeat (first | refine g ?_))
          exact run_stop_loop (i + 1) ⟨h1', by omega⟩ (by rw [et]; exact fct) shut
        · intro h5
          rw [if_neg h5] at et
          (repeat (first | refine g ?_))
          exact run_stop_loop (i + 1) ⟨h1', by omega⟩ (by rw [et]; exact fct) shut
      · intro h1
        obtain rfl : i = s.wait.length := by omega
        rw [List.take_length] at eD
        rw [eD]
        (repeat (first | refine g ?_))
        exact run_ret rfl (imp_RD rfl (imp_q shut))
def qWriteF (s : QSt) (at_ : Int) (t : ByteArray) : Int × QSt := if (t.size : Int) ≠ 64 then (1, s) else if s.down = true then (20, s) else if at_ < 0 ∨ (s.kept.length : Int) ≤ at_ then (2, s) else
  if s.fuse = 0 then (20, { s with down := true }) else
  (0, { s with fuse := if 0 < s.fuse then s.fuse - 1 else s.fuse, writes := s.writes + 1, wait := s.wait ++ [(at_, t)] })
theorem qwrite_spec (q : View) (b : Nat) (s : QSt) (hw : QW s) (at_ : Int) (t : ByteArray) :
    FnD Tryz.prog q 27 [.pointer (some ⟨b, 0, none⟩), .int .i64 at_, .string t] [qAt b s] (.int .i64 (qWriteF s at_ t).1) [qAt b (qWriteF s at_ t).2] := by
  have hf := hw.fuse
  have hwr := hw.writes
  have hn := hw.size
  (first | refine FnD.go Tryz.call27 Tryz.func27 rfl rfl rfl ?_ | refine FnX.go Tryz.call27 Tryz.func27 rfl rfl rfl ?_)
  refine run_q fun pk ck pd cd pw cw => ?_
  unfold qParts
  (repeat (first | refine g ?_))
  refine run_cond_dec rfl ?_ ?_
  · intro h
    have e : qWriteF s at_ t = (1, s) := by unfold qWriteF; rw [if_pos h]
    rw [e]
    (repeat (first | refine g ?_))
    exact run_ret rfl (imp_RD rfl (imp_q shut))
  · intro h
    (repeat (first | refine g ?_))
    refine run_cond rfl ?_ ?_
    · intro h2
      have e : qWriteF s at_ t = (20, s) := by unfold qWriteF; rw [if_neg h, if_pos h2]
      rw [e]
      (repeat (first | refine g ?_))
      exact run_ret rfl (imp_RD rfl (imp_q shut))
    · intro h2
      have h2' : ¬ (s.down = true) := by rw [h2]; decide
      (repeat (first | refine g ?_))
      refine s_call (none_spec q b pk s.kept.length ck _ at_) ?_
      (repeat (first | refine g ?_))
      refine run_cond_dec rfl ?_ ?_
      · intro h3
        have e : qWriteF s at_ t = (2, s) := by unfold qWriteF; rw [if_neg h, if_neg h2', if_pos h3]
        rw [e]
        (repeat (first | refine g ?_))
        exact run_ret rfl (imp_RD rfl (imp_q shut))
      · intro h3
        (repeat (first | refine g ?_))
        refine run_cond_dec rfl ?_ ?_
        · intro h4
          have e : qWriteF s at_ t = (20, { s with down := true }) := by unfold qWriteF; rw [if_neg h, if_neg h2', if_neg h3, if_pos h4]
          rw [e]
          (repeat (first | refine g ?_))
          exact run_ret rfl (imp_RD rfl (imp_q shut))
        · intro h4
          have e : qWriteF s at_ t = (0, { s with fuse := if 0 < s.fuse then s.fuse - 1 else s.fuse, writes := s.writes + 1, wait := s.wait ++ [(at_, t)] }) := by unfold qWriteF; rw [if_neg h, if_neg h2', if_neg h3, if_neg h4]
          rw [e]
          generalize hfu : (if 0 < s.fuse then s.fuse - 1 else s.fuse) = fu
          (repeat (first | refine g ?_))
          refine run_cut (X := Unit) (fun _ => [(0, .pointer (some ⟨b, 0, none⟩)), (1, .int .i64 at_), (2, .string t)]) (fun _ => qParts b { s with fuse := fu } pk ck pd cd pw cw []) ?_ fun _ => ?_
          · refine run_cond_dec rfl ?_ ?_
            · intro h5
              rw [if_pos h5] at hfu
              (repeat (first | refine g ?_))
              rw [hfu]
              exact run_stop_loop () trivial fct shut
            · intro h5
              rw [if_neg h5] at hfu
              rw [hfu]
              (repeat (first | refine g ?_))
              exact run_stop_loop () trivial fct shut
          · unfold qParts; dsimp only
            have ec := cacheV_length s.wait
            (repeat (first | refine g ?_))
            refine s_built fun r => ?_
            refine s_app 2 24 (reads_own At.head rfl) fun r2 => ?_
            (repeat (first | refine g ?_))
            refine run_ret rfl (imp_RD rfl ?_)
            refine imp_q (pk := pk) (ck := ck) (pd := pd) (cd := cd) (pw := r2.1) (cw := r2.2) ?_; unfold qParts; dsimp only
            rw [List.length_append, cacheV_append, List.length_singleton, show cacheV [(at_, t)] = [.int .i64 at_, .string t] from rfl]
            exact shut
end Go.Proofs.YtajndpddlpnbkaaGreatDoor.V
/- The document's device: Start, New, Copy. -/
namespace Go.Proofs.YtajndpddlpnbkaaGreatDoor.V
open Go.Proofs.YtajndpddlpnbkaaGreatDoor.VL
attribute [local irreducible] Run
def qStartH (s : QSt) (ks : List Bool) : List ByteArray × List Bool := (s.wait.zip ks).foldl keepB (s.kept, s.dumb)
def qStartF (s : QSt) (ks : List Bool) : QSt := { s with kept := (qStartH s ks).1, dumb := (qStartH s ks).2, wait := [], down := false, fuse := -1 }
def qBlank (n : Nat) : QSt := ⟨List.replicate n zeros64, List.replicate n false, [], -1, false, 0, 0⟩
theorem qnew_bad (q : View) (n : Int) (h : n < 0 ∨ 32768 < n) : FnD Tryz.prog q 31 [.int .i64 n] [] (.tuple #[.pointer none, .int .i64 1]) [] := by
  (first | refine FnD.go Tryz.call31 Tryz.func31 rfl rfl rfl ?_ | refine FnX.go Tryz.call31 Tryz.func31 rfl rfl rfl ?_)
  by_cases h1 : n < 0
  · (repeat (first | refine g ?_))
    exact run_ret rfl (imp_RD rfl shut)
  · have h2 : 32768 < n := by omega
    (repeat (first | refine g ?_))
    exact run_ret rfl (imp_RD rfl shut)
theorem qnew_spec (q : View) (n : Nat) (h : n ≤ 32768) : FnX Tryz.prog q 31 [.int .i64 n] [] (fun b => .tuple #[.pointer (some ⟨b, 0, none⟩), .int .i64 0]) fun b => [qAt b (qBlank n)] := by
  (first | refine FnD.go Tryz.call31 Tryz.func31 rfl rfl rfl ?_ | refine FnX.go Tryz.call31 Tryz.func31 rfl rfl rfl ?_)
  (repeat (first | refine g ?_))
  refine s_box fun b => ?_
  (repeat (first | refine g ?_))
  refine run_loopI (X := Nat × Option Addr × Nat × Option Addr × Nat) (fun x => x.1 ≤ n) (fun x => [(0, .int .i64 (n : Int)), (4, .pointer (some ⟨b, 0, none⟩)), (5, .int .i64 (x.1 : Int))])
    (fun x => qParts b (qBlank x.1) x.2.1 x.2.2.1 x.2.2.2.1 x.2.2.2.2 none 0 []) (fun x => n - x.1) (0, none, 0, none, 0) (Nat.zero_le _) fct ?_ ?_
  · unfold qParts qBlank
    dsimp only [List.replicate_zero, List.length_nil, List.map_nil]
    exact shut
  intro ⟨i, pk, ck, pd, cd⟩ hi
  unfold qParts qBlank
  dsimp only at *
  (repeat (first | refine g ?_))
  refine run_cond_dec rfl ?_ ?_
  · intro h1
    (repeat (first | refine g ?_))
    refine d_all ?_
    (refine d_pure 0 ?_)
    (refine d_pure 1 ?_)
    (refine d_pure 2 ?_)
    (refine d_fieldat 3 ?_)
    have h1' : i < n := by omega
    have hr1 : (List.replicate i zeros64).length = i := List.length_replicate
    have hr2 : (List.replicate i false).length = i := List.length_replicate
    refine d_two 4 5 ?_ ?_
    · refine d_ovia1 4 (h1 := by refine s_load ?_; exact run_fin1) (h := ?_)
      refine d_via1 5 (h1 := by refine s_call (blank_spec q) ?_; exact run_fin1) (h := ?_)
      refine d_via 6 (X := Nat) (h1 := by refine s_built fun r => ?_; exact run_fin r) (h := fun r => ?_)
      refine d_via 7 (X := Option Addr × Nat) (h1 := by refine s_app 1 16 (reads_own At.head rfl) (hxl := by simp) fun r2 => ?_; exact run_fin r2) (h := fun r2 => ?_)
      (refine d_pure 8 ?_)
      (refine d_fieldat 9 ?_)
      refine d_via1 10 (h1 := by refine s_store ?_; exact run_fin1) (h := ?_)
      refine d_done ?_
      (repeat (first | refine g ?_))
      refine s_built fun r3 => ?_
      (repeat (first | refine g ?_))
      refine s_app 1 1 (reads_own At.head rfl) (hxl := by simp) fun r4 => ?_
      (repeat (first | refine g ?_))
      refine run_stop_loop (i + 1, r2.1, r2.2, r4.1, r4.2) ⟨h1', by dsimp only; omega⟩ fct ?_
      dsimp only
      rw [List.replicate_succ', List.replicate_succ', List.map_append, List.map_append, List.length_append, List.length_append]
      exact shut
    · refine d_ovia1 5 (h1 := by refine s_call (blank_spec q) ?_; exact run_fin1) (h := ?_)
      refine d_two 4 6 ?_ ?_
      · refine d_ovia1 4 (h1 := by refine s_load ?_; exact run_fin1) (h := ?_)
        refine d_via 6 (X := Nat) (h1 := by refine s_built fun r => ?_; exact run_fin r) (h := fun r => ?_)
        refine d_via 7 (X := Option Addr × Nat) (h1 := by refine s_app 1 16 (reads_own At.head rfl) (hxl := by simp) fun r2 => ?_; exact run_fin r2) (h := fun r2 => ?_)
        (refine d_pure 8 ?_)
        (refine d_fieldat 9 ?_)
        refine d_via1 10 (h1 := by refine s_store ?_; exact run_fin1) (h := ?_)
        refine d_done ?_
        (repeat (first | refine g ?_))
        refine s_built fun r3 => ?_
        (repeat (first | refine g ?_))
        refine s_app 1 1 (reads_own At.head rfl) (hxl := by simp) fun r4 => ?_
        (repeat (first | refine g ?_))
        refine run_stop_loop (i + 1, r2.1, r2.2, r4.1, r4.2) ⟨h1', by dsimp only; omega⟩ fct ?_
        dsimp only
        rw [List.replicate_succ', List.replicate_succ', List.map_append, List.map_append, List.length_append, List.length_append]
        exact shut
      · refine d_ovia 6 (X := Nat) (h1 := by refine s_built fun r => ?_; exact run_fin r) (h := fun r => ?_)
        refine d_via1 4 (h1 := by refine s_load ?_; exact run_fin1) (h := ?_)
        refine d_via 7 (X := Option Addr × Nat) (h1 := by refine s_app 1 16 (reads_own At.head rfl) (hxl := by simp) fun r2 => ?_; exact run_fin r2) (h := fun r2 => ?_)
        (refine d_pure 8 ?_)
        (refine d_fieldat 9 ?_)
        refine d_via1 10 (h1 := by refine s_store ?_; exact run_fin1) (h := ?_)
        refine d_done ?_
        (repeat (first | refine g ?_))
        refine s_built fun r3 => ?_
        (repeat (first | refine g ?_))
        refine s_app 1 1 (reads_own At.head rfl) (hxl := by simp) fun r4 => ?_
        (repeat (first | refine g ?_))
        refine run_stop_loop (i + 1, r2.1, r2.2, r4.1, r4.2) ⟨h1', by dsimp only; omega⟩ fct ?_
        dsimp only
        rw [List.replicate_succ', List.replicate_succ', List.map_append, List.map_append, List.length_append, List.length_append]
        exact shut
  · intro h1
    obtain rfl : i = n := by omega
    (repeat (first | refine g ?_))
    refine run_ret rfl (imp_RX b rfl ?_)
    refine imp_q (pk := pk) (ck := ck) (pd := pd) (cd := cd) (pw := none) (cw := 0) ?_
    exact shut
end Go.Proofs.YtajndpddlpnbkaaGreatDoor.V
/- The device and the document's stand alike, and go on so (without a script's steps). -/
namespace Go.Proofs.YtajndpddlpnbkaaGreatDoor.V
open Go.Proofs.YtajndpddlpnbkaaGreatDoor.VL
theorem start_wf (s : PSt) (ks : List Bool) (h : WF s) : WF (startF s ks) := by
  have l := foldB_len (s.cache.zip ks) (s.held, s.dumb)
  refine ⟨?_, ?_, h.sec, by simp [startF], by simp [startF], h.reads, h.writes, by simp [startF]⟩
  · show ((startH s ks).1.length : Int) = _
    unfold startH; rw [l.1]; exact h.held
  · show ((startH s ks).2.length : Int) = _
    unfold startH; rw [l.2]; exact h.dumb
theorem flush_wf (s : PSt) (h : WF s) : WF (flushF s) := by
  unfold flushF
  split
  · exact h
  · have l := foldH_len s.cache (s.held, s.dumb)
    refine ⟨?_, ?_, h.sec, by simp, by simp, h.reads, h.writes, h.fuse⟩
    · show ((s.cache.foldl keepH (s.held, s.dumb)).1.length : Int) = _
      rw [l.1]; exact h.held
    · show ((s.cache.foldl keepH (s.held, s.dumb)).2.length : Int) = _
      rw [l.2]; exact h.dumb
def eff (h : List ByteArray) (j : Nat) : ByteArray := if h.getD j ⟨#[]⟩ = ⟨#[]⟩ then zeros64 else h.getD j ⟨#[]⟩
/-- What is kept, here and there. -/
structure Kin (n : Nat) (h g : List ByteArray × List Bool) : Prop where
  l1 : h.1.length = n
  l2 : g.1.length = n
  l3 : h.2.length = n
  dumb : h.2 = g.2
  kept : ∀ j, j < n → h.2.getD j false = false → eff h.1 j = g.1.getD j ⟨#[]⟩
theorem getD_setX {α : Type} (l : List α) (i j : Nat) (b d : α) : (l.set i b).getD j d = if i = j ∧ i < l.length then b else l.getD j d := by
  rw [List.getD_eq_getElem?_getD, List.getD_eq_getElem?_getD, List.getElem?_set]
  by_cases h : i = j
  · subst h
    rw [if_pos rfl]
    by_cases h2 : i < l.length
    · rw [if_pos h2, if_pos ⟨rfl, h2⟩]; rfl
    · rw [if_neg h2, if_neg (by omega), List.getElem?_eq_none (by omega)]
  · rw [if_neg h, if_neg (fun e => h e.1)]
theorem ne_of64 {t : ByteArray} (h : t.size = 64) : t ≠ ⟨#[]⟩ := fun e => by subst e; exact absurd h (by decide)
theorem Kin.keep {n : Nat} {h g : List ByteArray × List Bool} (k : Kin n h g) (x : Int × ByteArray) (hx : x.2.size = 64) : Kin n (keepH h x) (keepH g x) := by
  refine ⟨by simp [k.l1], by simp [k.l2], by simp [k.l3], by simp [k.dumb], fun j hj hd => ?_⟩
  show eff (h.1.set x.1.toNat x.2) j = (g.1.set x.1.toNat x.2).getD j ⟨#[]⟩
  have hd : (h.2.set x.1.toNat false).getD j false = false := hd
  have l1 := k.l1
  have l2 := k.l2
  have z1 := getD_setX h.1 x.1.toNat j x.2 ⟨#[]⟩
  have z2 := getD_setX g.1 x.1.toNat j x.2 ⟨#[]⟩
  by_cases e : x.1.toNat = j
  · rw [if_pos ⟨e, by omega⟩] at z1 z2
    unfold eff
    rw [z1, z2, if_neg (ne_of64 hx)]
  · rw [if_neg (fun c => e c.1)] at z1 z2
    unfold eff
    rw [z1, z2]
    rw [getD_setX, if_neg (fun c => e c.1)] at hd
    exact k.kept j hj hd
theorem Kin.foldH {n : Nat} (l : List (Int × ByteArray)) {h g : List ByteArray × List Bool} (k : Kin n h g) (hl : ∀ x ∈ l, x.2.size = 64) : Kin n (l.foldl keepH h) (l.foldl keepH g) := by
  induction l generalizing h g with
  | nil => exact k
  | cons x l ih => exact ih (k.keep x (hl x List.mem_cons_self)) fun y hy => hl y (List.mem_cons_of_mem _ hy)
theorem Kin.foldB {n : Nat} (l : List ((Int × ByteArray) × Bool)) {h g : List ByteArray × List Bool} (k : Kin n h g) (hl : ∀ x ∈ l, x.1.2.size = 64) : Kin n (l.foldl keepB h) (l.foldl keepB g) := by
  induction l generalizing h g with
  | nil => exact k
  | cons x l ih =>
    refine ih ?_ fun y hy => hl y (List.mem_cons_of_mem _ hy)
    unfold keepB
    split
    · exact k.keep x.1 (hl x List.mem_cons_self)
    · exact k
/-- Both stand alike; no more was done than n steps. -/
structure Both (n : Nat) (s : PSt) (t : QSt) : Prop where
  wf : WF s
  sec : s.sectors = t.kept.length
  kin : Kin t.kept.length (s.held, s.dumb) (t.kept, t.dumb)
  cache : t.wait = s.cache
  fuse : t.fuse = s.fuse
  down : t.down = s.down
  reads : t.reads = s.reads
  writes : t.writes = s.writes
  c64 : ∀ x ∈ s.cache, x.2.size = 64
  nr : s.reads ≤ n
  nw : s.writes ≤ n
  nc : s.cache.length ≤ n
theorem Both.qw {n : Nat} {s : PSt} {t : QSt} (h : Both n s t) : QW t := by
  have hd := h.kin.dumb
  have l3 := h.kin.l3
  have hs := h.sec
  have hc := h.wf.sec
  dsimp only at hd l3
  refine ⟨by rw [← hd]; exact l3, by omega, ?_, by rw [h.cache]; exact h.wf.size, by rw [h.reads]; exact h.wf.reads, by rw [h.writes]; exact h.wf.writes, by rw [h.fuse]; exact h.wf.fuse⟩
  rw [h.cache, ← hs]
  exact h.wf.cache
theorem Both.mono {n m : Nat} {s : PSt} {t : QSt} (h : Both n s t) (hm : n ≤ m) : Both m s t :=
  ⟨h.wf, h.sec, h.kin, h.cache, h.fuse, h.down, h.reads, h.writes, h.c64, by have := h.nr; omega, by have := h.nw; omega, Nat.le_trans h.nc hm⟩
theorem Both.held {n : Nat} {s : PSt} {t : QSt} (h : Both n s t) (at_ : Int) : qHeldF t at_ = heldF s at_ := by
  unfold qHeldF heldF
  rw [h.sec]
  by_cases h1 : at_ < 0 ∨ (t.kept.length : Int) ≤ at_
  · rw [if_pos h1, if_pos h1]
  · rw [if_neg h1, if_neg h1, show t.dumb = s.dumb from h.kin.dumb.symm]
    by_cases h2 : s.dumb.getD at_.toNat false = true
    · rw [if_pos h2, if_pos h2]
    · rw [if_neg h2, if_neg h2]
      have := h.kin.kept at_.toNat (by omega) (by simpa using h2)
      rw [show t.kept.getD at_.toNat ⟨#[]⟩ = eff s.held at_.toNat from this.symm]
      unfold eff
      show ((if s.held.getD at_.toNat ⟨#[]⟩ = ⟨#[]⟩ then zeros64 else s.held.getD at_.toNat ⟨#[]⟩), (0 : Int)) = _
      split <;> rfl
theorem Both.read {n : Nat} {s : PSt} {t : QSt} (h : Both n s t) (at_ : Int) (hn : n < 1000000) : (qReadF t at_).1 = (readF s at_).1 ∧ Both (n + 1) (readF s at_).2 (qReadF t at_).2 := by
  unfold qReadF readF
  rw [h.down, ← h.sec]
  by_cases h1 : s.down = true
  · rw [if_pos h1, if_pos h1]; exact ⟨rfl, h.mono (Nat.le_succ n)⟩
  · rw [if_neg h1, if_neg h1]
    by_cases h2 : at_ < 0 ∨ s.sectors ≤ at_
    · rw [if_pos h2, if_pos h2]; exact ⟨rfl, h.mono (Nat.le_succ n)⟩
    · rw [if_neg h2, if_neg h2]
      have nr := h.nr
      have nw := h.nw
      have hr := h.wf.reads
      refine ⟨by rw [h.cache, h.held]; rfl, ⟨⟨h.wf.held, h.wf.dumb, h.wf.sec, h.wf.cache, h.wf.size, ⟨by show 0 ≤ s.reads + 1; omega, by show s.reads + 1 ≤ _; omega⟩, h.wf.writes, h.wf.fuse⟩, h.sec, h.kin, h.cache, h.fuse, rfl, by show t.reads + 1 = s.reads + 1; rw [h.reads], h.writes, h.c64, by show s.reads + 1 ≤ _; omega, by show s.writes ≤ _; omega, Nat.le_succ_of_le h.nc⟩⟩
theorem Both.write {n : Nat} {s : PSt} {t : QSt} (h : Both n s t) (at_ : Int) (z : ByteArray) (hn : n < 1000000) : (qWriteF t at_ z).1 = (writeF s at_ z).1 ∧ Both (n + 1) (writeF s at_ z).2 (qWriteF t at_ z).2 := by
  unfold qWriteF writeF
  rw [h.down, ← h.sec, h.fuse, h.writes, h.cache]
  have nr := h.nr
  have nw := h.nw
  have nc := h.nc
  have hw := h.wf.writes
  have hf := h.wf.fuse
  by_cases h0 : (z.size : Int) ≠ 64
  · rw [if_pos h0, if_pos h0]; exact ⟨rfl, h.mono (Nat.le_succ n)⟩
  rw [if_neg h0, if_neg h0]
  by_cases h1 : s.down = true
  · rw [if_pos h1, if_pos h1]; exact ⟨rfl, h.mono (Nat.le_succ n)⟩
  rw [if_neg h1, if_neg h1]
  by_cases h2 : at_ < 0 ∨ s.sectors ≤ at_
  · rw [if_pos h2, if_pos h2]; exact ⟨rfl, h.mono (Nat.le_succ n)⟩
  rw [if_neg h2, if_neg h2]
  by_cases h3 : s.fuse = 0
  · rw [if_pos h3, if_pos h3]
    exact ⟨rfl, ⟨⟨h.wf.held, h.wf.dumb, h.wf.sec, h.wf.cache, h.wf.size, h.wf.reads, h.wf.writes, h.wf.fuse⟩, h.sec, h.kin, rfl, rfl, rfl, h.reads, rfl, h.c64, by show s.reads ≤ _; omega, by show s.writes ≤ _; omega, Nat.le_succ_of_le h.nc⟩⟩
  rw [if_neg h3, if_neg h3]
  have hfu : -1 ≤ (if 0 < s.fuse then s.fuse - 1 else s.fuse) ∧ (if 0 < s.fuse then s.fuse - 1 else s.fuse) ≤ 9223372036854775807 := by split <;> omega
  generalize (if 0 < s.fuse then s.fuse - 1 else s.fuse) = fu at hfu
  refine ⟨rfl, ⟨⟨h.wf.held, h.wf.dumb, h.wf.sec, ?_, ?_, h.wf.reads, ⟨by show 0 ≤ s.writes + 1; omega, by show s.writes + 1 ≤ _; omega⟩, hfu⟩, h.sec, h.kin, rfl, rfl, rfl, h.reads, rfl, ?_, by show s.reads ≤ _; omega, by show s.writes + 1 ≤ _; omega, ?_⟩⟩
  · intro x hx
    rcases List.mem_append.1 hx with hx | hx
    · exact h.wf.cache x hx
    · obtain rfl : x = (at_, z) := by simpa using hx
      show 0 ≤ at_ ∧ at_ < s.sectors
      omega
  · show (s.cache ++ [(at_, z)]).length ≤ _
    rw [List.length_append, List.length_singleton]; omega
  · intro x hx
    rcases List.mem_append.1 hx with hx | hx
    · exact h.c64 x hx
    · obtain rfl : x = (at_, z) := by simpa using hx
      show z.size = 64
      omega
  · show (s.cache ++ [(at_, z)]).length ≤ _
    rw [List.length_append, List.length_singleton]; omega
theorem Both.flush {n : Nat} {s : PSt} {t : QSt} (h : Both n s t) : Both n (flushF s) (qFlushF t) := by
  have w := flush_wf s h.wf
  unfold qFlushF
  unfold flushF at w ⊢
  rw [h.down]
  cases hd : s.down with
  | true => rw [hd] at w; exact ⟨h.wf, h.sec, h.kin, h.cache, h.fuse, h.down, h.reads, h.writes, h.c64, h.nr, h.nw, h.nc⟩
  | false =>
    rw [hd] at w
    have k := h.kin.foldH s.cache h.c64
    rw [h.cache]
    simp only [Bool.false_eq_true, if_false] at w ⊢
    exact ⟨w, by show s.sectors = _; rw [h.sec]; exact congrArg _ k.l2.symm, by show Kin _ _ _; rw [show ((s.cache.foldl keepH (t.kept, t.dumb)).1).length = t.kept.length from k.l2]; exact k, rfl, h.fuse, rfl, h.reads, h.writes, by simp, h.nr, h.nw, Nat.zero_le _⟩
theorem Both.arm {n : Nat} {s : PSt} {t : QSt} (h : Both n s t) (a : Int) (ha : a ≤ 9223372036854775807) : (qArmF t a).1 = (armF s a).1 ∧ Both n (armF s a).2 (qArmF t a).2 := by
  unfold qArmF armF
  rw [h.down]
  by_cases h0 : a < 0
  · rw [if_pos h0, if_pos h0]; exact ⟨rfl, h⟩
  rw [if_neg h0, if_neg h0]
  by_cases h1 : s.down = true
  · rw [if_pos h1, if_pos h1]; exact ⟨rfl, h⟩
  rw [if_neg h1, if_neg h1]
  exact ⟨rfl, ⟨⟨h.wf.held, h.wf.dumb, h.wf.sec, h.wf.cache, h.wf.size, h.wf.reads, h.wf.writes, ⟨by show -1 ≤ a; omega, ha⟩⟩, h.sec, h.kin, h.cache, rfl, by first | exact h.down | rfl, h.reads, h.writes, h.c64, h.nr, h.nw, h.nc⟩⟩
theorem Both.start {n : Nat} {s : PSt} {t : QSt} (h : Both n s t) (ks : List Bool) : Both n (startF s ks) (qStartF t ks) := by
  have w := start_wf s ks h.wf
  have k : Kin t.kept.length (startH s ks) (qStartH t ks) := by
    unfold startH qStartH
    rw [h.cache]
    exact h.kin.foldB _ fun x hx => h.c64 x.1 (List.of_mem_zip hx).1
  exact ⟨w, by show s.sectors = _; rw [h.sec]; exact congrArg _ k.l2.symm, by show Kin _ _ _; rw [show (qStartF t ks).kept.length = t.kept.length from k.l2]; exact k, rfl, rfl, rfl, h.reads, h.writes, by simp [startF], h.nr, h.nw, Nat.zero_le _⟩
theorem Both.lay {n : Nat} {s : PSt} {t : QSt} (h : Both n s t) (at_ : Int) (z : ByteArray) : (qLayF t at_ z).1 = (layF s at_ z).1 ∧ Both n (layF s at_ z).2 (qLayF t at_ z).2 := by
  unfold qLayF layF
  rw [← h.sec]
  by_cases h0 : (z.size : Int) ≠ 64
  · rw [if_pos h0, if_pos h0]; exact ⟨rfl, h⟩
  rw [if_neg h0, if_neg h0]
  by_cases h2 : at_ < 0 ∨ s.sectors ≤ at_
  · rw [if_pos h2, if_pos h2]; exact ⟨rfl, h⟩
  rw [if_neg h2, if_neg h2]
  have k := h.kin.keep (at_, z) (show z.size = 64 by omega)
  have hh := h.wf.held
  have hd := h.wf.dumb
  exact ⟨rfl, ⟨⟨by show ((s.held.set _ _).length : Int) = _; rw [List.length_set]; exact hh, by show ((s.dumb.set _ _).length : Int) = _; rw [List.length_set]; exact hd, h.wf.sec, h.wf.cache, h.wf.size, h.wf.reads, h.wf.writes, h.wf.fuse⟩, by show s.sectors = _; rw [h.sec]; exact congrArg _ k.l2.symm, by show Kin _ _ _; rw [show (qWithH t (keepH (t.kept, t.dumb) (at_, z))).kept.length = t.kept.length from k.l2]; exact k, h.cache, h.fuse, h.down, h.reads, h.writes, h.c64, h.nr, h.nw, h.nc⟩⟩
theorem Both.spoil {n : Nat} {s : PSt} {t : QSt} (h : Both n s t) (at_ : Int) : (qSpoilF t at_).1 = (spoilF s at_).1 ∧ Both n (spoilF s at_).2 (qSpoilF t at_).2 := by
  unfold qSpoilF spoilF
  rw [← h.sec]
  by_cases h2 : at_ < 0 ∨ s.sectors ≤ at_
  · rw [if_pos h2, if_pos h2]; exact ⟨rfl, h⟩
  rw [if_neg h2, if_neg h2]
  have k := h.kin
  have kd := k.dumb
  dsimp only at kd
  have hh := h.wf.held
  have hd := h.wf.dumb
  refine ⟨rfl, ⟨⟨by show ((s.held.set _ _).length : Int) = _; rw [List.length_set]; exact hh, by show ((s.dumb.set _ _).length : Int) = _; rw [List.length_set]; exact hd, h.wf.sec, h.wf.cache, h.wf.size, h.wf.reads, h.wf.writes, h.wf.fuse⟩, h.sec, ?_, h.cache, h.fuse, h.down, h.reads, h.writes, h.c64, h.nr, h.nw, h.nc⟩⟩
  refine ⟨by rw [List.length_set]; exact k.l1, k.l2, by rw [List.length_set]; exact k.l3, by rw [kd], fun j hj hdj => ?_⟩
  show eff (s.held.set _ _) j = t.kept.getD j ⟨#[]⟩
  have hdj : (s.dumb.set at_.toNat true).getD j false = false := hdj
  rw [getD_setX] at hdj
  have l3 := k.l3
  dsimp only at l3 hj
  by_cases e : at_.toNat = j
  · rw [if_pos ⟨e, by omega⟩] at hdj; exact absurd hdj (by decide)
  · rw [if_neg fun c => e c.1] at hdj
    have z1 := getD_setX s.held at_.toNat j ⟨#[]⟩ ⟨#[]⟩
    rw [if_neg fun c => e c.1] at z1
    unfold eff
    rw [z1]
    exact k.kept j hj hdj
end Go.Proofs.YtajndpddlpnbkaaGreatDoor.V
