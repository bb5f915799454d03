/- Numbers as rows of digits of ten bits, the lowest first; what is left of them modulo 2^130 - 5: plain laws. -/
set_option linter.unusedVariables false
namespace Go.Proofs.YtajndpddlpnbkaaGreatDoor.VL.RD
def val : List Nat → Nat
  | [] => 0
  | d :: l => d + 1024 * val l
def dgs (v : Nat) : Nat → List Nat
  | 0 => []
  | n + 1 => v % 1024 :: dgs (v / 1024) n
def P130 : Nat := 1361129467683753853853498429727072845819
def B130 : Nat := 1361129467683753853853498429727072845824
theorem b130 : 1024 ^ 13 = B130 := by decide
theorem dgs_length (v n : Nat) : (dgs v n).length = n := by
  induction n generalizing v with
  | zero => rfl
  | succ n ih => simp [dgs, ih]
theorem dgs_lt (v n : Nat) : ∀ x ∈ dgs v n, x < 1024 := by
  induction n generalizing v with
  | zero => intro x h; cases h
  | succ n ih =>
    intro x h
    simp only [dgs, List.mem_cons] at h
    rcases h with rfl | h
    · omega
    · exact ih _ x h
theorem dgs_getD (v n i : Nat) (h : i < n) : (dgs v n)[i]? = some (v / 1024 ^ i % 1024) := by
  induction n generalizing v i with
  | zero => omega
  | succ n ih =>
    cases i with
    | zero => simp [dgs]
    | succ i =>
      simp only [dgs, List.getElem?_cons_succ]
      rw [ih _ _ (by omega), Nat.div_div_eq_div_mul, Nat.pow_succ, Nat.mul_comm (1024 ^ i)]
theorem dgs_snoc (v n : Nat) : dgs v (n + 1) = dgs v n ++ [v / 1024 ^ n % 1024] := by
  induction n generalizing v with
  | zero => simp [dgs]
  | succ n ih =>
    rw [dgs, ih, dgs, List.cons_append, Nat.div_div_eq_div_mul, Nat.pow_succ, Nat.mul_comm (1024 ^ n)]
theorem val_dgs (v n : Nat) : val (dgs v n) = v % 1024 ^ n := by
  induction n generalizing v with
  | zero => simp [dgs, val, Nat.mod_one]
  | succ n ih =>
    simp only [dgs, val]
    rw [ih, Nat.pow_succ, Nat.mul_comm (1024 ^ n), Nat.mod_mul]
theorem val_append (a b : List Nat) : val (a ++ b) = val a + 1024 ^ a.length * val b := by
  induction a with
  | nil => simp [val]
  | cons d a ih => simp only [List.cons_append, val, ih, List.length_cons, Nat.pow_succ]; rw [Nat.mul_add]; rw [← Nat.mul_assoc, Nat.mul_comm 1024 (1024 ^ a.length)]; omega
theorem val_lt (l : List Nat) (h : ∀ x ∈ l, x < 1024) : val l < 1024 ^ l.length := by
  induction l with
  | nil => simp [val]
  | cons d l ih =>
    have h1 := h d (by simp)
    have h2 := ih fun x hx => h x (by simp [hx])
    simp only [val, List.length_cons, Nat.pow_succ]
    omega
theorem val_set (l : List Nat) (i x d : Nat) (h : l[i]? = some x) : val (l.set i (x + d)) = val l + d * 1024 ^ i := by
  induction l generalizing i with
  | nil => cases h
  | cons y l ih =>
    cases i with
    | zero => obtain rfl := Option.some.inj h; simp [val]; omega
    | succ i =>
      have := ih i h
      simp only [List.set_cons_succ, val, this, Nat.pow_succ]
      rw [Nat.mul_add, ← Nat.mul_assoc, Nat.mul_comm 1024 d, Nat.mul_assoc, Nat.mul_comm 1024 (1024 ^ i)]; omega
theorem val_take_succ (l : List Nat) (i x : Nat) (h : l[i]? = some x) : val (l.take (i + 1)) = val (l.take i) + x * 1024 ^ i := by
  rw [List.take_add_one, h, val_append]
  have : (l.take i).length = i := by
    have := (List.getElem?_eq_some_iff.1 h).1
    rw [List.length_take]; omega
  rw [this]; simp [val, Nat.mul_comm]
theorem val_drop (l : List Nat) (i x : Nat) (h : l[i]? = some x) : val (l.drop i) = x + 1024 * val (l.drop (i + 1)) := by
  have hi := (List.getElem?_eq_some_iff.1 h).1
  rw [List.drop_eq_getElem_cons hi, val, (List.getElem?_eq_some_iff.1 h).2]
theorem val_split (l : List Nat) (k : Nat) (h : k ≤ l.length) : val l = val (l.take k) + 1024 ^ k * val (l.drop k) := by
  have := val_append (l.take k) (l.drop k)
  rw [List.take_append_drop, List.length_take, Nat.min_eq_left h] at this
  exact this
theorem val_zeros (n : Nat) : val (List.replicate n 0) = 0 := by
  induction n with
  | zero => rfl
  | succ n ih => simp [List.replicate_succ, val, ih]
theorem val_inj (a b : List Nat) (hl : a.length = b.length) (ha : ∀ x ∈ a, x < 1024) (hb : ∀ x ∈ b, x < 1024) (h : val a = val b) : a = b := by
  induction a generalizing b with
  | nil => cases b with | nil => rfl | cons => simp at hl
  | cons x a ih =>
    cases b with
    | nil => simp at hl
    | cons y b =>
      simp only [val] at h
      have h1 := ha x (by simp)
      have h2 := hb y (by simp)
      have e1 : x = y := by omega
      have e2 : val a = val b := by omega
      rw [e1, ih b (by simpa using hl) (fun z hz => ha z (by simp [hz])) (fun z hz => hb z (by simp [hz])) e2]
/-! One turn of the reduction. -/
def fold5 (V : Nat) : Nat := V % B130 + 5 * (V / B130)
def top3 (c : Nat) : List Nat := [c % 1024, c / 1024 % 1024, c / 1048576]
def turned (V : Nat) : List Nat := dgs V 13 ++ top3 (V / B130)
theorem turned_length (V : Nat) : (turned V).length = 16 := by simp [turned, top3, dgs_length]
theorem val_top3 (c : Nat) : val (top3 c) = c := by
  simp only [top3, val]; omega
theorem turned_take (V : Nat) : val ((turned V).take 13) = V % B130 := by
  rw [turned, List.take_left' (dgs_length _ _), val_dgs, b130]
theorem turned_drop (V : Nat) : val ((turned V).drop 13) = V / B130 := by
  rw [turned, List.drop_left' (dgs_length _ _), val_top3]
def spread (l : List Nat) : Nat := val (l.take 13) + 5 * val (l.drop 13)
theorem spread_turned (V : Nat) : spread (turned V) = fold5 V := by
  rw [spread, turned_take, turned_drop, fold5]
theorem fold5_mod (V : Nat) : fold5 V % P130 = V % P130 := by
  have e : B130 = P130 + 5 := rfl
  unfold fold5
  have := Nat.div_add_mod V B130
  generalize V / B130 = c at *
  generalize V % B130 = r at *
  rw [← this, e, Nat.add_mul, Nat.mul_comm P130 c] at *
  have : c * P130 + 5 * c + r = (r + 5 * c) + c * P130 := by omega
  rw [this, Nat.add_mul_mod_self_right]
theorem spread_mod (l : List Nat) (h : 13 ≤ l.length) : spread l % P130 = val l % P130 := by
  have e : B130 = P130 + 5 := rfl
  rw [val_split l 13 h, b130, spread, e, Nat.add_mul]
  generalize val (l.take 13) = r
  generalize val (l.drop 13) = c
  have : r + (P130 * c + 5 * c) = (r + 5 * c) + P130 * c := by omega
  rw [this, Nat.add_mul_mod_self_left]
def folds : Nat → Nat → Nat
  | 0, V => V
  | n + 1, V => fold5 (folds n V)
theorem folds_mod (n V : Nat) : folds n V % P130 = V % P130 := by
  induction n with
  | zero => rfl
  | succ n ih => rw [folds, fold5_mod, ih]
theorem fold5_small (V : Nat) (h : V < B130) : fold5 V = V := by
  unfold fold5; rw [Nat.mod_eq_of_lt h, Nat.div_eq_of_lt h]; omega
theorem folds_small (V : Nat) (h : V < B130 * 1267650600228229401496703205376) : folds 7 V < B130 := by
  have s1 : folds 1 V < B130 + 5 * 1267650600228229401496703205376 := by
    show fold5 V < _
    unfold fold5
    have h1 : V % B130 < B130 := Nat.mod_lt _ (by decide)
    have h2 : V / B130 < 1267650600228229401496703205376 := Nat.div_lt_of_lt_mul h
    omega
  have key : ∀ W, W < B130 + 5 * 1267650600228229401496703205376 → fold5 W < B130 := by
    intro W hW
    rcases Nat.lt_or_ge W B130 with h1 | h1
    · rw [fold5_small W h1]; exact h1
    · unfold fold5
      have e1 : W % B130 = W - B130 := by rw [Nat.mod_eq_sub_mod h1, Nat.mod_eq_of_lt (by unfold B130 at *; omega)]
      have e2 : W / B130 = 1 := Nat.div_eq_of_lt_le (by omega) (by unfold B130 at *; omega)
      rw [e1, e2]; unfold B130 at *; omega
  have s3 := key _ s1
  have st : ∀ W, W < B130 → fold5 W < B130 := fun W hW => by rw [fold5_small W hW]; exact hW
  exact st _ (st _ (st _ (st _ (st _ s3))))
theorem val_le' (l : List Nat) (M : Nat) (h : ∀ x ∈ l, x ≤ M) : 1023 * val l + M ≤ M * 1024 ^ l.length := by
  induction l with
  | nil => simp [val]
  | cons d l ih =>
    have h1 := h d (by simp)
    have h2 := ih fun x hx => h x (by simp [hx])
    simp only [val, List.length_cons, Nat.pow_succ]
    rw [← Nat.mul_assoc]
    generalize M * 1024 ^ l.length = Y at *
    omega
theorem val_le (l : List Nat) (M : Nat) (h : ∀ x ∈ l, x ≤ M) : val l ≤ M * 1024 ^ l.length := by
  have := val_le' l M h
  omega
def M36 : Nat := 68719476736
theorem spread_lt (l : List Nat) (hn : l.length ≤ 26) (h : ∀ x ∈ l, x ≤ M36) : spread l < B130 * 1099511627776 := by
  have h1 := val_le (l.take 13) M36 fun x hx => h x (List.mem_of_mem_take hx)
  have h2 := val_le (l.drop 13) M36 fun x hx => h x (List.mem_of_mem_drop hx)
  have p1 : 1024 ^ (l.take 13).length ≤ B130 := by rw [← b130]; exact Nat.pow_le_pow_right (by decide) (by simp; omega)
  have p2 : 1024 ^ (l.drop 13).length ≤ B130 := by rw [← b130]; exact Nat.pow_le_pow_right (by decide) (by simp; omega)
  have h3 := Nat.le_trans h1 (Nat.mul_le_mul_left M36 p1)
  have h4 := Nat.le_trans h2 (Nat.mul_le_mul_left M36 p2)
  unfold spread M36 B130 at *
  omega
theorem fold5_le (V : Nat) : fold5 V ≤ V := by
  unfold fold5
  have := Nat.div_add_mod V B130
  have h : 5 * (V / B130) ≤ B130 * (V / B130) := Nat.mul_le_mul_right _ (by decide)
  omega
theorem folds_le (n V : Nat) : folds n V ≤ V := by
  induction n with
  | zero => exact Nat.le_refl _
  | succ n ih => exact Nat.le_trans (fold5_le _) ih
theorem turned_le (V : Nat) (h : V < B130 * 1099511627776) : ∀ x ∈ turned V, x ≤ M36 := by
  intro x hx
  unfold turned top3 at hx
  have hc : V / B130 < 1099511627776 := Nat.div_lt_of_lt_mul h
  simp only [List.mem_append, List.mem_cons, List.not_mem_nil, or_false] at hx
  unfold M36
  rcases hx with hx | rfl | rfl | rfl
  · have := dgs_lt _ _ x hx; omega
  · omega
  · omega
  · omega
/-- What has been spread of the first i digits. -/
def part (l : List Nat) (i : Nat) : Nat := spread (l.take i)
theorem part_zero (l : List Nat) : part l 0 = 0 := rfl
theorem part_all (l : List Nat) : part l l.length = spread l := by unfold part; rw [List.take_length]
theorem part_low (l : List Nat) (i x : Nat) (h : l[i]? = some x) (hi : i < 13) : part l (i + 1) = part l i + x * 1024 ^ i := by
  unfold part spread
  rw [List.take_take, List.take_take, Nat.min_eq_right (by omega), Nat.min_eq_right (by omega), List.drop_eq_nil_of_le (by simp; omega), List.drop_eq_nil_of_le (by simp; omega), val_take_succ l i x h]
  simp [val]
theorem part_high (l : List Nat) (i x : Nat) (h : l[i]? = some x) (hi : 13 ≤ i) : part l (i + 1) = part l i + 5 * x * 1024 ^ (i - 13) := by
  have hl := (List.getElem?_eq_some_iff.1 h).1
  unfold part spread
  have e : l.take (i + 1) = l.take i ++ [x] := by rw [List.take_add_one, h]; rfl
  rw [List.take_take, List.take_take, Nat.min_eq_left (by omega), Nat.min_eq_left (by omega)]
  rw [e, List.drop_append_of_le_length (by simp; omega), val_append]
  have : (List.drop 13 (List.take i l)).length = i - 13 := by simp; omega
  rw [this]
  simp only [val, Nat.mul_zero, Nat.add_zero]
  rw [Nat.mul_add, Nat.mul_comm (1024 ^ (i - 13)) x, Nat.mul_assoc 5 x]
  omega
theorem sub_step (W P M : Nat) (hM : 0 < M) (h : P ≤ W) (bt : Int) (hb : bt = if W % M < P % M then 1 else 0) :
    ((((W / M % 1024 : Nat) : Int) - ((P / M % 1024 : Nat) : Int) - bt < 0) ↔ W % (M * 1024) < P % (M * 1024)) ∧
    (((W - P) / M % 1024 : Nat) : Int) = if ((W / M % 1024 : Nat) : Int) - ((P / M % 1024 : Nat) : Int) - bt < 0 then ((W / M % 1024 : Nat) : Int) - ((P / M % 1024 : Nat) : Int) - bt + 1024 else ((W / M % 1024 : Nat) : Int) - ((P / M % 1024 : Nat) : Int) - bt := by
  have eW := Nat.div_add_mod W M
  have eP := Nat.div_add_mod P M
  have lW := Nat.mod_lt W hM
  have lP := Nat.mod_lt P hM
  rw [Nat.mod_mul, Nat.mod_mul]
  generalize hx : W / M = X at *
  generalize hy : P / M = Y at *
  generalize W % M = a at *
  generalize P % M = b at *
  have hXY : Y ≤ X := by rw [← hx, ← hy]; exact Nat.div_le_div_right h
  have hD : (W - P) / M = X - Y - (if a < b then 1 else 0) ∧ (a < b → 1 ≤ X - Y) := by
    by_cases hab : a < b
    · have h1 : 1 ≤ X - Y := by
        rcases Nat.lt_or_ge Y X with h | h
        · omega
        · have : X = Y := by omega
          subst this; omega
      refine ⟨?_, fun _ => h1⟩
      rw [if_pos hab]
      have e : W - P = (a + M - b) + M * (X - Y - 1) := by
        obtain ⟨Z, rfl⟩ : ∃ Z, X = Y + Z + 1 := ⟨X - Y - 1, by omega⟩
        rw [← eW, ← eP, show Y + Z + 1 - Y - 1 = Z by omega, Nat.mul_add, Nat.mul_add]
        omega
      rw [e, Nat.add_mul_div_left _ _ hM, Nat.div_eq_of_lt (by omega)]
      omega
    · refine ⟨?_, fun h => absurd h hab⟩
      rw [if_neg hab]
      have e : W - P = (a - b) + M * (X - Y) := by
        obtain ⟨Z, rfl⟩ : ∃ Z, X = Y + Z := ⟨X - Y, by omega⟩
        rw [← eW, ← eP, show Y + Z - Y = Z by omega, Nat.mul_add]
        omega
      rw [e, Nat.add_mul_div_left _ _ hM, Nat.div_eq_of_lt (by omega)]
      omega
  obtain ⟨hD, hD1⟩ := hD
  rw [hD]
  subst hb
  have m1 : ∀ u v : Nat, u < v → M * u + M ≤ M * v := fun u v h => by
    have := Nat.mul_le_mul_left M (show u + 1 ≤ v from h)
    rw [Nat.mul_add] at this; omega
  have c1 : X % 1024 < Y % 1024 → a + M * (X % 1024) < b + M * (Y % 1024) := fun h => by have := m1 _ _ h; omega
  have c2 : Y % 1024 < X % 1024 → ¬ a + M * (X % 1024) < b + M * (Y % 1024) := fun h => by have := m1 _ _ h; omega
  have c3 : X % 1024 = Y % 1024 → (a + M * (X % 1024) < b + M * (Y % 1024) ↔ a < b) := fun h => by rw [h]; omega
  by_cases hab : a < b
  · have := hD1 hab
    simp only [if_pos hab] at *
    refine ⟨?_, ?_⟩
    · rcases Nat.lt_trichotomy (X % 1024) (Y % 1024) with h | h | h
      · exact ⟨fun _ => c1 h, fun _ => by omega⟩
      · exact ⟨fun _ => (c3 h).2 hab, fun _ => by omega⟩
      · exact ⟨fun h2 => by omega, fun h2 => absurd h2 (c2 h)⟩
    · split <;> omega
  · simp only [if_neg hab] at *
    refine ⟨?_, ?_⟩
    · rcases Nat.lt_trichotomy (X % 1024) (Y % 1024) with h | h | h
      · exact ⟨fun _ => c1 h, fun _ => by omega⟩
      · exact ⟨fun h2 => by omega, fun h2 => absurd ((c3 h).1 h2) hab⟩
      · exact ⟨fun h2 => by omega, fun h2 => absurd h2 (c2 h)⟩
    · split <;> omega
end Go.Proofs.YtajndpddlpnbkaaGreatDoor.VL.RD
