/- Chapter 5's law: cut, the example; VaultHashes. -/
import Derived.Test.YteengkkbedijdaaVK3
set_option maxRecDepth 10000
set_option linter.unusedVariables false
namespace Go.Proofs.Yteengkkbedijdaa.V
open Go.Proofs.Yteengkkbedijdaa.VL Go.Proofs.Yteengkkbedijdaa.VL.RD
attribute [local irreducible] Run
def cutB (s : ByteArray) (n : Nat) : ByteArray := if n < s.size then s.extract 0 n else s
theorem cutB_size (s : ByteArray) (n : Nat) : (cutB s n).size ≤ n := by
  unfold cutB; split
  · rw [ByteArray.size_extract]; omega
  · omega
theorem cut_spec (q : View) (s : ByteArray) (n : Nat) : FnD Try.prog q 16 [.string s, .int .i64 n] [] (.string (cutB s n)) [] := by
  unfold cutB
  (first | refine FnD.go Try.call16 Try.func16 rfl rfl rfl ?_ | refine FnX.go Try.call16 Try.func16 rfl rfl rfl ?_)
  (repeat (first | refine g ?_))
  refine run_cond_dec rfl ?_ ?_
  · intro h
    rw [if_pos (by omega)]
    (repeat (first | refine g ?_))
    exact run_ret rfl (imp_RD rfl shut)
  · intro h
    rw [if_neg (by omega)]
    (repeat (first | refine g ?_))
    exact run_ret rfl (imp_RD rfl shut)
theorem leb6 (n : Nat) (h : n < 281474976710656) (i : Nat) (hi : i < 6) : (leb n 6)[i]? = some (UInt8.ofNat (n / 256 ^ i % 256)) := by
  unfold leb; rw [List.getElem?_map, List.getElem?_range hi]; rfl
theorem numB_size (n k : Nat) (h : 6 ≤ k) : (numB n k).size = k := by
  show (pad0 (leb n 6) k).toArray.size = k
  rw [List.size_toArray]; unfold pad0
  rw [List.length_append, leb_length, List.length_replicate]; omega
theorem leb_inj (k : Nat) : ∀ (n m : Nat), n < 256 ^ k → m < 256 ^ k → leb n k = leb m k → n = m := by
  have key : ∀ k n, n < 256 ^ k → ((leb n k).map UInt8.toNat).foldr (fun d a => d + 256 * a) 0 = n := by
    intro k
    induction k with
    | zero => intro n h; simp [leb] at *; omega
    | succ k ih =>
      intro n h
      have e : leb n (k + 1) = UInt8.ofNat (n % 256) :: leb (n / 256) k := by
        unfold leb
        rw [List.range_succ_eq_map, List.map_cons, List.map_map]
        congr 1
        · rw [Nat.pow_zero, Nat.div_one]
        · apply List.map_congr_left
          intro j _
          show UInt8.ofNat (n / 256 ^ (j + 1) % 256) = UInt8.ofNat (n / 256 / 256 ^ j % 256)
          rw [Nat.div_div_eq_div_mul, ← Nat.pow_succ']
      rw [e, List.map_cons, List.foldr_cons, ih (n / 256) (by rw [Nat.pow_succ] at h; omega), UInt8.toNat_ofNat']
      omega
  intro n m hn hm h
  rw [← key k n hn, ← key k m hm, h]
theorem numB_inj (n m k : Nat) (hn : n < 281474976710656) (hm : m < 281474976710656) (h : numB n k = numB m k) : n = m := by
  unfold numB at h
  have h := congrArg (fun b : ByteArray => b.data.toList) h
  simp only at h
  unfold pad0 at h
  have h2 := (List.append_inj h (by rw [leb_length, leb_length])).1
  exact leb_inj 6 n m hn hm h2
theorem awake_spec (q : View) : FnD Try.prog q 13 [] [] (.bool true) [] := by
  have k0 : VOk 1000000 ⟨[], [], []⟩ := ⟨Nat.zero_le _, Nat.zero_le _, Nat.zero_le _, by simp, by simp⟩
  (first | refine FnD.go Try.call13 Try.func13 rfl rfl rfl ?_ | refine FnX.go Try.call13 Try.func13 rfl rfl rfl ?_)
  (repeat (first | refine g ?_))
  refine s_callx (ideal_new q) fun v => ?_
  (repeat (first | refine g ?_))
  have c1 := hash_spec q v ⟨[], [], []⟩ k0 ⟨#[120]⟩
  rw [show cntN (⟨[], [], []⟩ : VSt).hs ⟨#[120]⟩ = 1 from rfl, show cntL (⟨[], [], []⟩ : VSt).hs ⟨#[120]⟩ = [⟨#[120]⟩] from rfl] at c1
  have c2 := hash_spec q v ⟨[⟨#[120]⟩], [], []⟩ ⟨by decide, Nat.zero_le _, Nat.zero_le _, by simp, by simp⟩ ⟨#[121]⟩
  rw [show cntN (⟨[⟨#[120]⟩], [], []⟩ : VSt).hs ⟨#[121]⟩ = 2 from rfl, show cntL (⟨[⟨#[120]⟩], [], []⟩ : VSt).hs ⟨#[121]⟩ = [⟨#[120]⟩, ⟨#[121]⟩] from rfl] at c2
  have c3 := hash_spec q v ⟨[⟨#[120]⟩, ⟨#[121]⟩], [], []⟩ ⟨by decide, Nat.zero_le _, Nat.zero_le _, by simp, by simp⟩ ⟨#[120]⟩
  rw [show cntN (⟨[⟨#[120]⟩, ⟨#[121]⟩], [], []⟩ : VSt).hs ⟨#[120]⟩ = 1 from rfl, show cntL (⟨[⟨#[120]⟩, ⟨#[121]⟩], [], []⟩ : VSt).hs ⟨#[120]⟩ = [⟨#[120]⟩, ⟨#[121]⟩] from rfl] at c3
  refine s_call c1 ?_
  (repeat (first | refine g ?_))
  refine s_call c2 ?_
  (repeat (first | refine g ?_))
  refine s_call c3 ?_
  have z1 : (numB 1 32).size = 32 := numB_size 1 32 (by decide)
  have z2 : (numB 2 32).size = 32 := numB_size 2 32 (by decide)
  have b1 : bAt (numB 1 32) (0 : Int).toNat = 1 := by decide
  have b2 : bAt (numB 2 32) (0 : Int).toNat = 2 := by decide
  (repeat (first | refine g ?_))
  exact run_ret rfl (imp_RD rfl shut)
theorem cnt_le {α : Type} [DecidableEq α] (l : List α) (k : α) : cntN l k ≤ l.length + 1 ∧ (cntL l k).length ≤ l.length + 1 := by
  unfold cntN cntL
  cases hp : pos l k with
  | none => simp
  | some n => have := (pos_lt _ _ _ hp).1; simp only; omega
/-- What the hashes number: of each text its number. -/
theorem pos_snoc {α : Type} [DecidableEq α] (l : List α) (k b : α) : pos (l ++ [b]) k = match pos l k with | some n => some n | none => if k = b then some l.length else none := by
  induction l with
  | nil => rfl
  | cons c l ih =>
    rw [List.cons_append]
    unfold pos
    by_cases h : k = c
    · rw [if_pos h, if_pos h]
    · rw [if_neg h, if_neg h, ih]
      cases pos l k with
      | some n => rfl
      | none => by_cases h2 : k = b <;> simp [h2]
/-- A number that was given stays. -/
theorem pos_cnt {α : Type} [DecidableEq α] (l : List α) (k b : α) (n : Nat) (h : pos l k = some n) : pos (cntL l b) k = some n := by
  unfold cntL
  cases hb : pos l b with
  | some m => exact h
  | none => rw [pos_snoc, h]
theorem pos_new {α : Type} [DecidableEq α] (l : List α) (k : α) : pos (cntL l k) k = some (cntN l k - 1) ∧ 1 ≤ cntN l k := by
  unfold cntL cntN
  cases hb : pos l k with
  | some m => exact ⟨hb, by simp⟩
  | none => exact ⟨by simp only; rw [pos_snoc, hb]; simp, by simp⟩
theorem pos_inj {α : Type} [DecidableEq α] (l : List α) (a b : α) (n : Nat) (ha : pos l a = some n) (hb : pos l b = some n) : a = b := by
  have h1 := (pos_lt _ _ _ ha).2
  have h2 := (pos_lt _ _ _ hb).2
  rw [h1] at h2
  exact Option.some.inj h2
end Go.Proofs.Yteengkkbedijdaa.V
