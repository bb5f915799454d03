/- The ideal vault: what it numbers. -/
import Derived.Test.YteengkkbedijdaaVK1
set_option maxRecDepth 10000
set_option linter.unusedVariables false
namespace Go.Proofs.Yteengkkbedijdaa.V
open Go.Proofs.Yteengkkbedijdaa.VL Go.Proofs.Yteengkkbedijdaa.VL.RD
attribute [local irreducible] Run
section
variable {α : Type} [DecidableEq α]
def numdF (l : List α) (i : Nat) : List (α × Value) := (l.zipIdx i).map fun x => (x.1, .int .i64 ((x.2 + 1 : Nat) : Int))
def pos (l : List α) (k : α) : Option Nat := match l with
  | [] => none
  | b :: l => if k = b then some 0 else (pos l k).map (· + 1)
theorem findK_numd (l : List α) (k : α) (i j : Nat) : findK (numdF l i) k j = (pos l k).map fun n => (j + n, Value.int .i64 ((i + n + 1 : Nat) : Int)) := by
  induction l generalizing i j with
  | nil => rfl
  | cons b l ih =>
    have e : numdF (b :: l) i = (b, .int .i64 ((i + 1 : Nat) : Int)) :: numdF l (i + 1) := by simp [numdF, List.zipIdx_cons]
    rw [e]
    unfold findK pos
    by_cases h : k = b
    · rw [if_pos h, if_pos h]; rfl
    · rw [if_neg h, if_neg h, ih]
      cases pos l k with
      | none => rfl
      | some n => simp; omega
omit [DecidableEq α] in
theorem numdF_snoc (l : List α) (k : α) : numdF (l ++ [k]) 0 = numdF l 0 ++ [(k, .int .i64 ((l.length + 1 : Nat) : Int))] := by
  simp [numdF, List.zipIdx_append]
omit [DecidableEq α] in
theorem numdF_length (l : List α) (i : Nat) : (numdF l i).length = l.length := by simp [numdF]
omit [DecidableEq α] in
theorem numdF_mem (l : List α) (i : Nat) (x : α × Value) (h : x ∈ numdF l i) : x.1 ∈ l := by
  unfold numdF at h
  obtain ⟨y, hy, rfl⟩ := List.mem_map.1 h
  exact (List.mem_zipIdx hy).2.2 ▸ List.getElem_mem _
theorem pos_lt (l : List α) (k : α) (n : Nat) (h : pos l k = some n) : n < l.length ∧ l[n]? = some k := by
  induction l generalizing n with
  | nil => cases h
  | cons b l ih =>
    unfold pos at h
    split at h
    · rename_i e; obtain rfl := Option.some.inj h; exact ⟨Nat.succ_pos _, by simp [e]⟩
    · cases hp : pos l k with
      | none => rw [hp] at h; cases h
      | some m =>
        rw [hp] at h
        obtain rfl := Option.some.inj h
        have := ih m hp
        exact ⟨by simp; omega, by simpa using this.2⟩
/-- The number of a thing: the next one, if it is new. -/
def cntN (l : List α) (k : α) : Nat := match pos l k with | some n => n + 1 | none => l.length + 1
def cntL (l : List α) (k : α) : List α := match pos l k with | some _ => l | none => l ++ [k]
end
def mapS (b : Nat) (l : List ByteArray) : HProp := mapc b ((numdF l 0).map fun x => (.string x.1, x.2))
def mapK (b : Nat) (l : List (List KV)) : HProp := mapc b ((numdF l 0).map fun x => (encK x.1, x.2))
theorem countS_spec (q : View) (b : Nat) (l : List ByteArray) (k : ByteArray) (hl : l.length ≤ 1000000) :
    FnD Try.prog q 43 [.map (some b), .string k] [mapS b l] (.int .i64 ((cntN l k : Nat) : Int)) [mapS b (cntL l k)] := by
  (first | refine FnD.go Try.call43 Try.func43 rfl rfl rfl ?_ | refine FnX.go Try.call43 Try.func43 rfl rfl rfl ?_)
  unfold mapS
  have hk := keyFind_str Try.underlying9 k (numdF l 0)
  rw [findK_numd] at hk
  unfold cntN cntL
  cases hp : pos l k with
  | some n =>
    rw [hp] at hk
    have hlt := (pos_lt l k n hp).1
    simp only [Option.map_some, Nat.zero_add] at hk
    (repeat (first | refine g ?_))
    refine s_look2s hk ?_
    (repeat (first | refine g ?_))
    exact run_ret rfl (imp_RD rfl shut)
  | none =>
    rw [hp] at hk
    simp only [Option.map_none] at hk
    (repeat (first | refine g ?_))
    refine s_look2n hk ?_
    (repeat (first | refine g ?_))
    refine s_lenMap ?_
    rw [List.length_map, numdF_length]
    (repeat (first | refine g ?_))
    refine s_mapNew hk ?_
    (repeat (first | refine g ?_))
    refine run_ret rfl (imp_RD rfl ?_)
    dsimp only
    rw [numdF_snoc, List.map_append]
    exact shut
/-- Keys of the maps of structs. -/
def markedK (l s : ByteArray) : List KV := [.s l, .s s]
def sealedK (n : Int) (a b c : ByteArray) : List KV := [.i .i64 n, .s a, .s b, .s c]
def MarkedOk (k : List KV) : Prop := ∃ a b, k = markedK a b
def SealedOk (k : List KV) : Prop := ∃ n a b c, k = sealedK n a b c
theorem marked_fits (a b : ByteArray) : RowFits Try.prog (Try.prog.fieldsOf 77).toList (markedK a b) := by
  unfold Program.fieldsOf
  rw [Try.underlying77]
  refine ⟨rfl, fun j f x hf hx => ?_⟩
  match j, hf, hx with
  | 0, hf, hx => obtain rfl := Option.some.inj hf; obtain rfl := Option.some.inj hx; exact ⟨by decide, rfl, Try.underlying9⟩
  | 1, hf, hx => obtain rfl := Option.some.inj hf; obtain rfl := Option.some.inj hx; exact ⟨by decide, rfl, Try.underlying9⟩
  | j + 2, hf, hx => cases hx
theorem sealed_fits (n : Int) (a b c : ByteArray) : RowFits Try.prog (Try.prog.fieldsOf 82).toList (sealedK n a b c) := by
  unfold Program.fieldsOf
  rw [Try.underlying82]
  refine ⟨rfl, fun j f x hf hx => ?_⟩
  match j, hf, hx with
  | 0, hf, hx => obtain rfl := Option.some.inj hf; obtain rfl := Option.some.inj hx; exact ⟨by decide, rfl, Try.underlying3⟩
  | 1, hf, hx => obtain rfl := Option.some.inj hf; obtain rfl := Option.some.inj hx; exact ⟨by decide, rfl, Try.underlying9⟩
  | 2, hf, hx => obtain rfl := Option.some.inj hf; obtain rfl := Option.some.inj hx; exact ⟨by decide, rfl, Try.underlying9⟩
  | 3, hf, hx => obtain rfl := Option.some.inj hf; obtain rfl := Option.some.inj hx; exact ⟨by decide, rfl, Try.underlying9⟩
  | j + 4, hf, hx => cases hx
theorem marked_find (l : List (List KV)) (hl : ∀ k ∈ l, MarkedOk k) (a b : ByteArray) : KeyFind Try.prog 77 (encK (markedK a b)) ((numdF l 0).map fun x => (encK x.1, x.2)) (findK (numdF l 0) (markedK a b) 0) := by
  have e : Try.prog.underlying 77 = some (.struct (Try.prog.fieldsOf 77)) := by unfold Program.fieldsOf; rw [Try.underlying77]
  exact keyFind_agg e (by kernel_rfl) _ _ (marked_fits a b) fun x hx => by
    obtain ⟨c, d, e⟩ := hl x.1 (numdF_mem _ _ _ hx)
    rw [e]; exact marked_fits c d
theorem sealed_find (l : List (List KV)) (hl : ∀ k ∈ l, SealedOk k) (n : Int) (a b c : ByteArray) : KeyFind Try.prog 82 (encK (sealedK n a b c)) ((numdF l 0).map fun x => (encK x.1, x.2)) (findK (numdF l 0) (sealedK n a b c) 0) := by
  have e : Try.prog.underlying 82 = some (.struct (Try.prog.fieldsOf 82)) := by unfold Program.fieldsOf; rw [Try.underlying82]
  exact keyFind_agg e (by kernel_rfl) _ _ (sealed_fits n a b c) fun x hx => by
    obtain ⟨m, c, d, f, e⟩ := hl x.1 (numdF_mem _ _ _ hx)
    rw [e]; exact sealed_fits m c d f
theorem countM_spec (q : View) (b : Nat) (l : List (List KV)) (hlo : ∀ k ∈ l, MarkedOk k) (a c : ByteArray) (hl : l.length ≤ 1000000) :
    FnD Try.prog q 47 [.map (some b), encK (markedK a c)] [mapK b l] (.int .i64 ((cntN l (markedK a c) : Nat) : Int)) [mapK b (cntL l (markedK a c))] := by
  (first | refine FnD.go Try.call47 Try.func47 rfl rfl rfl ?_ | refine FnX.go Try.call47 Try.func47 rfl rfl rfl ?_)
  (repeat (first | refine g ?_))
  refine s_box fun r => ?_
  unfold mapK
  have hk := marked_find l hlo a c
  rw [findK_numd] at hk
  unfold cntN cntL
  cases hp : pos l (markedK a c) with
  | some nn =>
    rw [hp] at hk
    have hlt := (pos_lt l (markedK a c) nn hp).1
    simp only [Option.map_some, Nat.zero_add] at hk
    (repeat (first | refine g ?_))
    refine s_look2s hk ?_
    (repeat (first | refine g ?_))
    exact run_ret rfl (imp_RD rfl shut)
  | none =>
    rw [hp] at hk
    simp only [Option.map_none] at hk
    (repeat (first | refine g ?_))
    refine s_look2n hk ?_
    (repeat (first | refine g ?_))
    refine s_lenMap ?_
    rw [List.length_map, numdF_length]
    (repeat (first | refine g ?_))
    refine s_mapNew hk ?_
    (repeat (first | refine g ?_))
    refine run_ret rfl (imp_RD rfl ?_)
    dsimp only
    rw [numdF_snoc, List.map_append]
    exact shut
theorem countE_spec (q : View) (b : Nat) (l : List (List KV)) (hlo : ∀ k ∈ l, SealedOk k) (n : Int) (a c d : ByteArray) (hl : l.length ≤ 1000000) :
    FnD Try.prog q 51 [.map (some b), encK (sealedK n a c d)] [mapK b l] (.int .i64 ((cntN l (sealedK n a c d) : Nat) : Int)) [mapK b (cntL l (sealedK n a c d))] := by
  (first | refine FnD.go Try.call51 Try.func51 rfl rfl rfl ?_ | refine FnX.go Try.call51 Try.func51 rfl rfl rfl ?_)
  (repeat (first | refine g ?_))
  refine s_box fun r => ?_
  unfold mapK
  have hk := sealed_find l hlo n a c d
  rw [findK_numd] at hk
  unfold cntN cntL
  cases hp : pos l (sealedK n a c d) with
  | some nn =>
    rw [hp] at hk
    have hlt := (pos_lt l (sealedK n a c d) nn hp).1
    simp only [Option.map_some, Nat.zero_add] at hk
    (repeat (first | refine g ?_))
    refine s_look2s hk ?_
    (repeat (first | refine g ?_))
    exact run_ret rfl (imp_RD rfl shut)
  | none =>
    rw [hp] at hk
    simp only [Option.map_none] at hk
    (repeat (first | refine g ?_))
    refine s_look2n hk ?_
    (repeat (first | refine g ?_))
    refine s_lenMap ?_
    rw [List.length_map, numdF_length]
    (repeat (first | refine g ?_))
    refine s_mapNew hk ?_
    (repeat (first | refine g ?_))
    refine run_ret rfl (imp_RD rfl ?_)
    dsimp only
    rw [numdF_snoc, List.map_append]
    exact shut
end Go.Proofs.Yteengkkbedijdaa.V
