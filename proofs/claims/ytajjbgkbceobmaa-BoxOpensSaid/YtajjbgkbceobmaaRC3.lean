/- The reference's block of the key stream. -/
import Derived.Test.YtajjbgkbceobmaaRC2
set_option maxRecDepth 10000
set_option linter.unusedVariables false
namespace Go.Proofs.Ytajjbgkbceobmaa.V
open Go.Proofs.Ytajjbgkbceobmaa.VL
attribute [local irreducible] Run
def consts : List Nat := [0x61707865, 0x3320646e, 0x79622d32, 0x6b206574]
def keyWords (key : ByteArray) (i : Nat) : List Nat := consts ++ (List.range i).map fun k => Spec.word (Spec.nats key) (4 * k)
theorem keyWords_length (key : ByteArray) (i : Nat) : (keyWords key i).length = 4 + i := by simp [keyWords, consts]; omega
theorem keyWords_snoc (key : ByteArray) (i : Nat) : keyWords key (i + 1) = keyWords key i ++ [Spec.word (Spec.nats key) (4 * i)] := by simp [keyWords, List.range_succ]
theorem state_eq (key nonce : ByteArray) (n : Nat) (hn : n < 4294967296) : Spec.state key nonce n = keyWords key 8 ++ [n, Spec.word (Spec.nats nonce) 0, Spec.word (Spec.nats nonce) 4, Spec.word (Spec.nats nonce) 8] := by
  unfold Spec.state
  rw [show n % Spec.M32 = n from Nat.mod_eq_of_lt hn]
  simp [keyWords, consts, List.range_succ]
theorem wordN_lt (s : ByteArray) (i : Nat) : Spec.word (Spec.nats s) i < 4294967296 := by
  unfold Spec.word
  have h0 : Spec.at_ (Spec.nats s) i < 256 := word_lt s i
  have h1 : Spec.at_ (Spec.nats s) (i + 1) < 256 := word_lt s (i + 1)
  have h2 : Spec.at_ (Spec.nats s) (i + 2) < 256 := word_lt s (i + 2)
  have h3 : Spec.at_ (Spec.nats s) (i + 3) < 256 := word_lt s (i + 3)
  omega
theorem low32_of {l : List Nat} (h : ∀ x ∈ l, x < 4294967296) : low32 l := fun i => by
  rw [List.getD_eq_getElem?_getD]
  cases hi : l[i]? with
  | none => decide
  | some x => exact h x (List.mem_of_getElem? hi)
theorem state_low (key nonce : ByteArray) (n : Nat) (hn : n < 4294967296) : low32 (Spec.state key nonce n) := low32_of fun x hx => by
  rw [state_eq key nonce n hn] at hx
  have w := wordN_lt
  simp only [keyWords, consts, List.mem_append, List.mem_cons, List.mem_map, List.not_mem_nil, or_false] at hx
  rcases hx with (hx | ⟨k, _, rfl⟩) | hx
  · rcases hx with rfl | rfl | rfl | rfl <;> decide
  · exact w _ _
  · rcases hx with rfl | rfl | rfl | rfl
    · exact hn
    · exact w _ _
    · exact w _ _
    · exact w _ _
theorem state_length (key nonce : ByteArray) (n : Nat) (hn : n < 4294967296) : (Spec.state key nonce n).length = 16 := by
  rw [state_eq key nonce n hn, List.length_append, keyWords_length]; rfl
theorem dround_low (x : List Nat) (h : low32 x) : low32 (Spec.dround x) := by
  unfold Spec.dround
  exact qr_low _ (qr_low _ (qr_low _ (qr_low _ (qr_low _ (qr_low _ (qr_low _ (qr_low _ h _ _ _ _) _ _ _ _) _ _ _ _) _ _ _ _) _ _ _ _) _ _ _ _) _ _ _ _) _ _ _ _
theorem dround_len (x : List Nat) : (Spec.dround x).length = x.length := by
  unfold Spec.dround; simp only [qr_len]
def afterR (S : List Nat) : Nat → List Nat
  | 0 => S
  | i + 1 => Spec.dround (afterR S i)
theorem rounds_after (S : List Nat) (n : Nat) : Spec.rounds n S = afterR S n := by
  have : ∀ n i, Spec.rounds n (afterR S i) = afterR S (i + n) := by
    intro n
    induction n with
    | zero => intro i; rfl
    | succ n ih => intro i; rw [Spec.rounds, show Spec.dround (afterR S i) = afterR S (i + 1) from rfl, ih, show i + 1 + n = i + (n + 1) by omega]
  have h := this n 0
  rwa [Nat.zero_add] at h
theorem afterR_low (S : List Nat) (h : low32 S) (n : Nat) : low32 (afterR S n) := by
  induction n with
  | zero => exact h
  | succ n ih => exact dround_low _ ih
theorem afterR_len (S : List Nat) (n : Nat) : (afterR S n).length = S.length := by
  induction n with
  | zero => rfl
  | succ n ih => rw [afterR, dround_len, ih]
/-- The bytes of the first words. -/
def outB (S : List Nat) (i : Nat) : List UInt8 := (((List.range i).map fun k => ((afterR S 10).getD k 0 + S.getD k 0) % 4294967296).flatMap Spec.wordBytes).map UInt8.ofNat
theorem outB_len (S : List Nat) (i : Nat) : (outB S i).length = 4 * i := by
  unfold outB
  rw [List.length_map]
  induction i with
  | zero => rfl
  | succ i ih => rw [List.range_succ, List.map_append, List.flatMap_append, List.length_append, ih]; rfl
theorem outB_snoc (S : List Nat) (i : Nat) : outB S (i + 1) = outB S i ++ (Spec.wordBytes (((afterR S 10).getD i 0 + S.getD i 0) % 4294967296)).map UInt8.ofNat := by
  unfold outB
  rw [List.range_succ, List.map_append, List.flatMap_append, List.map_append]
  simp
def blockB (key nonce : ByteArray) (n : Nat) : ByteArray := ⟨((Spec.block key nonce n).map UInt8.ofNat).toArray⟩
theorem outB_all (key nonce : ByteArray) (n : Nat) : outB (Spec.state key nonce n) 16 = (Spec.block key nonce n).map UInt8.ofNat := by
  unfold outB Spec.block Spec.outWords
  rw [rounds_after]; rfl
theorem word4 (w : Nat) (hw : w < 4294967296) : [Value.int .u8 ((w : Int) % 256 % 256), .int .u8 ((w : Int) / 256 % 256 % 256), .int .u8 ((w : Int) / 65536 % 256 % 256), .int .u8 ((w : Int) / 16777216 % 256)] = bv ((Spec.wordBytes w).map UInt8.ofNat) := by
  have e : ∀ m : Nat, m < 256 → ((UInt8.ofNat m).toNat : Int) = (m : Int) := fun m hm => by rw [UInt8.toNat_ofNat', Nat.mod_eq_of_lt hm]
  unfold Spec.wordBytes bv
  simp only [List.map_cons, List.map_nil]
  rw [e _ (by omega), e _ (by omega), e _ (by omega), e _ (by omega)]
  rw [show (w : Int) % 256 % 256 = ((w % 256 : Nat) : Int) by omega, show (w : Int) / 256 % 256 % 256 = ((w / 256 % 256 : Nat) : Int) by omega, show (w : Int) / 65536 % 256 % 256 = ((w / 65536 % 256 : Nat) : Int) by omega, show (w : Int) / 16777216 % 256 = ((w / 16777216 % 256 : Nat) : Int) by omega]
set_option maxHeartbeats 2000000 in
theorem refBlock_spec (q : View) (key nonce : ByteArray) (n : Nat) (hk : key.size = 32) (hc : nonce.size = 12) (hn : n < 4294967296) : FnD Try.prog q 32 [.string key, .string nonce, .int .i64 n] [] (.string (blockB key nonce n)) [] := by
  (first | refine FnD.go Try.call32 Try.func32 rfl rfl rfl ?_ | refine FnX.go Try.call32 Try.func32 rfl rfl rfl ?_)
  (repeat (first | refine g ?_ | refine s_flat 23 [(.pure, [0, 1, 2, 4, 5, 6]), (.mem true, [3, 7]), (.pure, [8]), (.mem false, [9]), (.pure, [10])] ?_))
  refine s_built fun r => ?_
  refine run_to_sl (n := 4) (kk := 1) rfl ?_
  refine s_eq (show _ = iv (keyWords key 0) from rfl) ?_
  (repeat (first | refine g ?_ | refine s_flat 23 [(.pure, [0, 1, 2, 4, 5, 6]), (.mem true, [3, 7]), (.pure, [8]), (.mem false, [9]), (.pure, [10])] ?_))
  refine run_loopI (X := Nat × Option Addr × Nat) (fun x => x.1 ≤ 8) (fun x => [(0, .string key), (1, .string nonce), (2, .int .i64 n), (7, .slice x.2.1 (4 + x.1) x.2.2), (8, .int .i64 (x.1 : Int))]) (fun x => [sl x.2.1 (4 + x.1) x.2.2 3 1 (iv (keyWords key x.1))]) (fun x => 8 - x.1) (0, some ⟨r, 0, none⟩, 4) (Nat.zero_le _) fct shut ?_
  intro ⟨i, p, c⟩ hi
  dsimp only at *
  (repeat (first | refine g ?_ | refine s_flat 23 [(.pure, [0, 1, 2, 4, 5, 6]), (.mem true, [3, 7]), (.pure, [8]), (.mem false, [9]), (.pure, [10])] ?_))
  refine run_cond_dec rfl ?_ ?_
  · intro h
    (repeat (first | refine g ?_ | refine s_flat 23 [(.pure, [0, 1, 2, 4, 5, 6]), (.mem true, [3, 7]), (.pure, [8]), (.mem false, [9]), (.pure, [10])] ?_))
    refine s_call (word_spec q key (4 * i) (by omega) (by omega)) ?_
    (repeat (first | refine g ?_ | refine s_flat 23 [(.pure, [0, 1, 2, 4, 5, 6]), (.mem true, [3, 7]), (.pure, [8]), (.mem false, [9]), (.pure, [10])] ?_))
    refine s_built fun r1 => ?_
    refine s_app 1 8 (reads_own At.head rfl) (hxl := by rw [iv_length, keyWords_length, Nat.mul_one]) fun r2 => ?_
    refine s_eq (show iv (keyWords key i) ++ [Value.int .i64 ((Spec.word (Spec.nats key) (4 * i) : Nat) : Int)] = iv (keyWords key (i + 1)) by rw [keyWords_snoc, iv_append]; rfl) ?_
    (repeat (first | refine g ?_ | refine s_flat 23 [(.pure, [0, 1, 2, 4, 5, 6]), (.mem true, [3, 7]), (.pure, [8]), (.mem false, [9]), (.pure, [10])] ?_))
    refine run_stop_loop (i + 1, r2) ?_ fct shut
    exact ⟨by dsimp only; omega, by dsimp only; omega⟩
  · intro h
    obtain rfl : i = 8 := by omega
    (repeat (first | refine g ?_ | refine s_flat 23 [(.pure, [0, 1, 2, 4, 5, 6]), (.mem true, [3, 7]), (.pure, [8]), (.mem false, [9]), (.pure, [10])] ?_))
    refine s_call (word_spec q nonce 0 (by omega) (by omega)) ?_
    (repeat (first | refine g ?_ | refine s_flat 23 [(.pure, [0, 1, 2, 4, 5, 6]), (.mem true, [3, 7]), (.pure, [8]), (.mem false, [9]), (.pure, [10])] ?_))
    refine s_call (word_spec q nonce 4 (by omega) (by omega)) ?_
    (repeat (first | refine g ?_ | refine s_flat 23 [(.pure, [0, 1, 2, 4, 5, 6]), (.mem true, [3, 7]), (.pure, [8]), (.mem false, [9]), (.pure, [10])] ?_))
    refine s_call (word_spec q nonce 8 (by omega) (by omega)) ?_
    (repeat (first | refine g ?_ | refine s_flat 23 [(.pure, [0, 1, 2, 4, 5, 6]), (.mem true, [3, 7]), (.pure, [8]), (.mem false, [9]), (.pure, [10])] ?_))
    refine s_built fun r1 => ?_
    refine s_app 1 8 (reads_own At.head rfl) (hxl := by rw [iv_length, keyWords_length]) fun r2 => ?_
    obtain ⟨S, hS⟩ : ∃ S, S = Spec.state key nonce n := ⟨_, rfl⟩
    have lS : S.length = 16 := by rw [hS]; exact state_length key nonce n hn
    have bS : low32 S := by rw [hS]; exact state_low key nonce n hn
    refine s_eq (show iv (keyWords key 8) ++ [Value.int .i64 (n : Int), .int .i64 ((Spec.word (Spec.nats nonce) 0 : Nat) : Int), .int .i64 ((Spec.word (Spec.nats nonce) 4 : Nat) : Int), .int .i64 ((Spec.word (Spec.nats nonce) 8 : Nat) : Int)] = iv S by rw [hS, state_eq key nonce n hn, iv_append]; rfl) ?_
    obtain ⟨p2, c2⟩ := r2
    dsimp only
    refine s_ptr p2 fun bs ebs _ hcs => ?_
    subst ebs
    (repeat (first | refine g ?_ | refine s_flat 23 [(.pure, [0, 1, 2, 4, 5, 6]), (.mem true, [3, 7]), (.pure, [8]), (.mem false, [9]), (.pure, [10])] ?_))
    refine s_built fun r3 => ?_
    (repeat (first | refine g ?_ | refine s_flat 23 [(.pure, [0, 1, 2, 4, 5, 6]), (.mem true, [3, 7]), (.pure, [8]), (.mem false, [9]), (.pure, [10])] ?_))
    refine run_to_sl (n := 0) (kk := 1) rfl ?_
    refine s_app 1 8 (reads_slice (A := _ :: _ :: sl (some ⟨bs, 0, none⟩) (4 + 8 + 4) c2 3 1 (iv S) :: _) (At.tail (At.tail At.head))) (hxl := rfl) (hnl := by rw [iv_length, lS]) (h1 := by unfold iv; simp [one1]) fun r4 => ?_
    obtain ⟨p4, c4⟩ := r4
    dsimp only
    refine s_ptr p4 fun bx ebx _ hcx => ?_
    subst ebx
    rw [List.nil_append]
    (repeat (first | refine g ?_ | refine s_flat 23 [(.pure, [0, 1, 2, 4, 5, 6]), (.mem true, [3, 7]), (.pure, [8]), (.mem false, [9]), (.pure, [10])] ?_))
    refine run_loopI (X := Nat × Nat × Nat) (fun x => x.1 ≤ 10) (fun x => [(0, .string key), (1, .string nonce), (2, .int .i64 n), (7, .slice (some ⟨bs, 0, none⟩) 16 c2), (9, .slice (some ⟨x.2.1, 0, none⟩) 16 x.2.2), (10, .int .i64 (x.1 : Int))])
      (fun x => [sl (some ⟨x.2.1, 0, none⟩) 16 x.2.2 3 1 (iv (afterR S x.1)), sl (some ⟨bs, 0, none⟩) 16 c2 3 1 (iv S)]) (fun x => 10 - x.1) (0, bx, c4) (Nat.zero_le _) fct shut ?_
    intro ⟨i, b, c⟩ hi
    dsimp only at *
    have l0 : (afterR S i).length = 16 := by rw [afterR_len, lS]
    have h0 := afterR_low S bS i
    (repeat (first | refine g ?_ | refine s_flat 23 [(.pure, [0, 1, 2, 4, 5, 6]), (.mem true, [3, 7]), (.pure, [8]), (.mem false, [9]), (.pure, [10])] ?_))
    refine run_cond_dec rfl ?_ ?_
    · intro h
      obtain ⟨x0, e0⟩ : ∃ x0, x0 = afterR S i := ⟨_, rfl⟩
      rw [← e0] at l0 h0 ⊢
      (repeat (first | refine g ?_ | refine s_flat 23 [(.pure, [0, 1, 2, 4, 5, 6]), (.mem true, [3, 7]), (.pure, [8]), (.mem false, [9]), (.pure, [10])] ?_))
      refine s_callx (quarter_spec q _ _ x0 l0 h0 0 4 8 12 (by decide) (by decide) (by decide) (by decide)) fun r1 => ?_
      obtain ⟨x1, e1⟩ : ∃ x, x = Spec.qr x0 0 4 8 12 := ⟨_, rfl⟩
      rw [← e1]
      have l1 : x1.length = 16 := by rw [e1, qr_len]; exact l0
      have h1 : low32 x1 := by rw [e1]; exact qr_low _ h0 _ _ _ _
      (repeat (first | refine g ?_ | refine s_flat 23 [(.pure, [0, 1, 2, 4, 5, 6]), (.mem true, [3, 7]), (.pure, [8]), (.mem false, [9]), (.pure, [10])] ?_))
      refine s_callx (quarter_spec q _ _ x1 l1 h1 1 5 9 13 (by decide) (by decide) (by decide) (by decide)) fun r2 => ?_
      obtain ⟨x2, e2⟩ : ∃ x, x = Spec.qr x1 1 5 9 13 := ⟨_, rfl⟩
      rw [← e2]
      have l2 : x2.length = 16 := by rw [e2, qr_len]; exact l1
      have h2 : low32 x2 := by rw [e2]; exact qr_low _ h1 _ _ _ _
      (repeat (first | refine g ?_ | refine s_flat 23 [(.pure, [0, 1, 2, 4, 5, 6]), (.mem true, [3, 7]), (.pure, [8]), (.mem false, [9]), (.pure, [10])] ?_))
      refine s_callx (quarter_spec q _ _ x2 l2 h2 2 6 10 14 (by decide) (by decide) (by decide) (by decide)) fun r3 => ?_
      obtain ⟨x3, e3⟩ : ∃ x, x = Spec.qr x2 2 6 10 14 := ⟨_, rfl⟩
      rw [← e3]
      have l3 : x3.length = 16 := by rw [e3, qr_len]; exact l2
      have h3 : low32 x3 := by rw [e3]; exact qr_low _ h2 _ _ _ _
      (repeat (first | refine g ?_ | refine s_flat 23 [(.pure, [0, 1, 2, 4, 5, 6]), (.mem true, [3, 7]), (.pure, [8]), (.mem false, [9]), (.pure, [10])] ?_))
      refine s_callx (quarter_spec q _ _ x3 l3 h3 3 7 11 15 (by decide) (by decide) (by decide) (by decide)) fun r4 => ?_
      obtain ⟨x4, e4⟩ : ∃ x, x = Spec.qr x3 3 7 11 15 := ⟨_, rfl⟩
      rw [← e4]
      have l4 : x4.length = 16 := by rw [e4, qr_len]; exact l3
      have h4 : low32 x4 := by rw [e4]; exact qr_low _ h3 _ _ _ _
      (repeat (first | refine g ?_ | refine s_flat 23 [(.pure, [0, 1, 2, 4, 5, 6]), (.mem true, [3, 7]), (.pure, [8]), (.mem false, [9]), (.pure, [10])] ?_))
      refine s_callx (quarter_spec q _ _ x4 l4 h4 0 5 10 15 (by decide) (by decide) (by decide) (by decide)) fun r5 => ?_
      obtain ⟨x5, e5⟩ : ∃ x, x = Spec.qr x4 0 5 10 15 := ⟨_, rfl⟩
      rw [← e5]
      have l5 : x5.length = 16 := by rw [e5, qr_len]; exact l4
      have h5 : low32 x5 := by rw [e5]; exact qr_low _ h4 _ _ _ _
      (repeat (first | refine g ?_ | refine s_flat 23 [(.pure, [0, 1, 2, 4, 5, 6]), (.mem true, [3, 7]), (.pure, [8]), (.mem false, [9]), (.pure, [10])] ?_))
      refine s_callx (quarter_spec q _ _ x5 l5 h5 1 6 11 12 (by decide) (by decide) (by decide) (by decide)) fun r6 => ?_
      obtain ⟨x6, e6⟩ : ∃ x, x = Spec.qr x5 1 6 11 12 := ⟨_, rfl⟩
      rw [← e6]
      have l6 : x6.length = 16 := by rw [e6, qr_len]; exact l5
      have h6 : low32 x6 := by rw [e6]; exact qr_low _ h5 _ _ _ _
      (repeat (first | refine g ?_ | refine s_flat 23 [(.pure, [0, 1, 2, 4, 5, 6]), (.mem true, [3, 7]), (.pure, [8]), (.mem false, [9]), (.pure, [10])] ?_))
      refine s_callx (quarter_spec q _ _ x6 l6 h6 2 7 8 13 (by decide) (by decide) (by decide) (by decide)) fun r7 => ?_
      obtain ⟨x7, e7⟩ : ∃ x, x = Spec.qr x6 2 7 8 13 := ⟨_, rfl⟩
      rw [← e7]
      have l7 : x7.length = 16 := by rw [e7, qr_len]; exact l6
      have h7 : low32 x7 := by rw [e7]; exact qr_low _ h6 _ _ _ _
      (repeat (first | refine g ?_ | refine s_flat 23 [(.pure, [0, 1, 2, 4, 5, 6]), (.mem true, [3, 7]), (.pure, [8]), (.mem false, [9]), (.pure, [10])] ?_))
      refine s_callx (quarter_spec q _ _ x7 l7 h7 3 4 9 14 (by decide) (by decide) (by decide) (by decide)) fun r8 => ?_
      obtain ⟨x8, e8⟩ : ∃ x, x = Spec.qr x7 3 4 9 14 := ⟨_, rfl⟩
      rw [← e8]
      have l8 : x8.length = 16 := by rw [e8, qr_len]; exact l7
      have h8 : low32 x8 := by rw [e8]; exact qr_low _ h7 _ _ _ _
      (repeat (first | refine g ?_ | refine s_flat 23 [(.pure, [0, 1, 2, 4, 5, 6]), (.mem true, [3, 7]), (.pure, [8]), (.mem false, [9]), (.pure, [10])] ?_))
      have ed : x8 = afterR S (i + 1) := by rw [e8, e7, e6, e5, e4, e3, e2, e1, e0]; rfl
      rw [ed]
      refine run_stop_loop (i + 1, r8) ?_ fct shut
      exact ⟨by dsimp only; omega, by dsimp only; omega⟩
    · intro h
      obtain rfl : i = 10 := by omega
      (repeat (first | refine g ?_ | refine s_flat 23 [(.pure, [0, 1, 2, 4, 5, 6]), (.mem true, [3, 7]), (.pure, [8]), (.mem false, [9]), (.pure, [10])] ?_))
      refine run_loopI (X := Nat × Option Addr × Nat) (fun x => x.1 ≤ 16) (fun x => [(7, .slice (some ⟨bs, 0, none⟩) 16 c2), (9, .slice (some ⟨b, 0, none⟩) 16 c), (11, .slice x.2.1 (4 * x.1) x.2.2), (12, .int .i64 (x.1 : Int))])
        (fun x => [sl x.2.1 (4 * x.1) x.2.2 5 1 (bv (outB S x.1)), sl (some ⟨b, 0, none⟩) 16 c 3 1 (iv (afterR S 10)), sl (some ⟨bs, 0, none⟩) 16 c2 3 1 (iv S)]) (fun x => 16 - x.1) (0, none, 0) (Nat.zero_le _) fct shut ?_
      intro ⟨j, p5, c5⟩ hj
      dsimp only at *
      (repeat (first | refine g ?_ | refine s_flat 23 [(.pure, [0, 1, 2, 4, 5, 6]), (.mem true, [3, 7]), (.pure, [8]), (.mem false, [9]), (.pure, [10])] ?_))
      refine run_cond_dec rfl ?_ ?_
      · intro h2
        have u1 : (afterR S 10).getD j 0 < 4294967296 := h0 j
        have u2 : S.getD j 0 < 4294967296 := bS j
        (repeat (first | refine g ?_ | refine s_flat 23 [(.pure, [0, 1, 2, 4, 5, 6]), (.mem true, [3, 7]), (.pure, [8]), (.mem false, [9]), (.pure, [10])] ?_ | refine gv ?_))
        refine s_call (low_spec' q (((afterR S 10).getD j 0 : Nat) + (S.getD j 0 : Nat) : Int) ((afterR S 10).getD j 0 + S.getD j 0) (by push_cast; rfl) (by omega)) ?_
        have wl : ((afterR S 10).getD j 0 + S.getD j 0) % 4294967296 < 4294967296 := Nat.mod_lt _ (by decide)
        obtain ⟨w, ew⟩ : ∃ w, w = ((afterR S 10).getD j 0 + S.getD j 0) % 4294967296 := ⟨_, rfl⟩
        rw [← ew] at wl ⊢
        (repeat (first | refine g ?_ | refine s_flat 23 [(.pure, [0, 1, 2, 4, 5, 6]), (.mem true, [3, 7]), (.pure, [8]), (.mem false, [9]), (.pure, [10])] ?_))
        refine s_built fun r6 => ?_
        (repeat (first | refine g ?_ | refine s_flat 23 [(.pure, [0, 1, 2, 4, 5, 6]), (.mem true, [3, 7]), (.pure, [8]), (.mem false, [9]), (.pure, [10])] ?_))
        refine s_app 1 1 (reads_own At.head rfl) (hxl := by rw [bv_length, outB_len, Nat.mul_one]) fun r7 => ?_
        refine s_eq (show bv (outB S j) ++ [Value.int .u8 ((w : Int) % 256 % 256), .int .u8 ((w : Int) / 256 % 256 % 256), .int .u8 ((w : Int) / 65536 % 256 % 256), .int .u8 ((w : Int) / 16777216 % 256)] = bv (outB S (j + 1)) by rw [word4 w wl, outB_snoc, bv_append, ← ew]) ?_
        (repeat (first | refine g ?_ | refine s_flat 23 [(.pure, [0, 1, 2, 4, 5, 6]), (.mem true, [3, 7]), (.pure, [8]), (.mem false, [9]), (.pure, [10])] ?_))
        refine run_stop_loop (j + 1, r7) ?_ fct shut
        exact ⟨by dsimp only; omega, by dsimp only; omega⟩
      · intro h2
        obtain rfl : j = 16 := by omega
        (repeat (first | refine g ?_ | refine s_flat 23 [(.pure, [0, 1, 2, 4, 5, 6]), (.mem true, [3, 7]), (.pure, [8]), (.mem false, [9]), (.pure, [10])] ?_))
        refine s_string ?_
        (repeat (first | refine g ?_ | refine s_flat 23 [(.pure, [0, 1, 2, 4, 5, 6]), (.mem true, [3, 7]), (.pure, [8]), (.mem false, [9]), (.pure, [10])] ?_))
        refine run_ret rfl (imp_RD ?_ shut)
        rw [hS, outB_all]; rfl
end Go.Proofs.Ytajjbgkbceobmaa.V
