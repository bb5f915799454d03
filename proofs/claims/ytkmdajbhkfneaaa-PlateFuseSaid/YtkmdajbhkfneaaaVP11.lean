/- The law PlateOrder. -/
import Derived.Test.YtkmdajbhkfneaaaVP10
set_option maxRecDepth 10000
set_option linter.unusedVariables false
namespace Go.Proofs.Ytkmdajbhkfneaaa.V
open Go.Proofs.Ytkmdajbhkfneaaa.VL
def ordS (vs : List Int) (i : Nat) : PSt := ⟨1, [⟨#[]⟩], [false], (vs.take i).map fun v => (0, bytesF v 64), -1, false, 0, i⟩
def wantF (l : List (Int × Bool)) (w : ByteArray) : ByteArray := l.foldl (fun w y => if y.2 = true then bytesF y.1 64 else w) w
theorem bytesF_ne (v : Int) (n : Nat) (h : 0 < n) : bytesF v n ≠ ⟨#[]⟩ := by
  intro e
  have := congrArg ByteArray.size e
  rw [bytesF_size] at this
  have h2 : (⟨#[]⟩ : ByteArray).size = 0 := rfl
  omega
theorem zip_take {α β : Type} : ∀ (n : Nat) (l : List α) (m : List β), (l.take n).zip m = (l.zip m).take n := by
  intro n
  induction n with
  | zero => intro l m; rfl
  | succ n ih =>
    intro l m
    cases l with
    | nil => rfl
    | cons x l => cases m with
      | nil => simp
      | cons y m => simp [ih]
theorem ord_keep (l : List (Int × Bool)) (h : ByteArray) : (l.map fun y => (((0 : Int), bytesF y.1 64), y.2)).foldl keepB ([h], [false]) = ([wantF l h], [false]) := by
  induction l generalizing h with
  | nil => rfl
  | cons y l ih =>
    rw [List.map_cons, List.foldl_cons]
    unfold wantF at *
    rw [List.foldl_cons]
    by_cases e : y.2 = true
    · rw [show keepB ([h], [false]) (((0 : Int), bytesF y.1 64), y.2) = ([bytesF y.1 64], [false]) by unfold keepB; rw [if_pos e]; rfl, if_pos e, ih]
    · rw [show keepB ([h], [false]) (((0 : Int), bytesF y.1 64), y.2) = ([h], [false]) by unfold keepB; rw [if_neg e], if_neg e, ih]
theorem want_read (l : List (Int × Bool)) (h : ByteArray) : (if wantF l h = ⟨#[]⟩ then zeros64 else wantF l h) = wantF l (if h = ⟨#[]⟩ then zeros64 else h) := by
  induction l generalizing h with
  | nil => rfl
  | cons y l ih =>
    unfold wantF at *
    rw [List.foldl_cons, List.foldl_cons]
    by_cases e : y.2 = true
    · rw [if_pos e, if_pos e, ih, if_neg (bytesF_ne _ 64 (by omega))]
    · rw [if_neg e, if_neg e, ih]
theorem ord_read (vs : List Int) (ks : List Bool) (i : Nat) : (readF (startF (ordS vs i) ks) 0).1 = (wantF ((vs.zip ks).take i) zeros64, 0) := by
  have e : startH (ordS vs i) ks = ([wantF ((vs.zip ks).take i) ⟨#[]⟩], [false]) := by
    unfold startH ordS
    dsimp only
    rw [List.zip_map_left, zip_take]
    exact ord_keep _ _
  unfold readF startF
  rw [e]
  rw [if_neg (by simp), if_neg (by simp [ordS])]
  dsimp only
  rw [show ([] : List (Int × ByteArray)).reverse = [] from rfl, List.find?_nil]
  unfold heldF
  dsimp only
  rw [if_neg (by simp [ordS]), if_neg (by simp)]
  have := want_read ((vs.zip ks).take i) ⟨#[]⟩
  rw [if_pos rfl] at this
  rw [← this]
  show (if wantF (List.take i (vs.zip ks)) ⟨#[]⟩ = ⟨#[]⟩ then (zeros64, (0 : Int)) else (wantF (List.take i (vs.zip ks)) ⟨#[]⟩, 0)) = _
  split <;> rfl
theorem ordS_wf (vs : List Int) (i : Nat) (h : i ≤ 60) : WF (ordS vs i) := by
  refine ⟨rfl, rfl, by simp [ordS], ?_, ?_, by simp [ordS], by simp [ordS]; omega, by simp [ordS]⟩
  · intro x hx
    simp only [ordS, List.mem_map] at hx
    obtain ⟨v, _, rfl⟩ := hx
    simp [ordS]
  · simp [ordS]; omega
theorem ord_write (vs : List Int) (i : Nat) (v : Int) (h : vs[i]? = some v) : writeF (ordS vs i) 0 (bytesF v 64) = (0, ordS vs (i + 1)) := by
  unfold writeF
  rw [if_neg (by rw [bytesF_size]; simp), if_neg (by simp [ordS]), if_neg (by simp [ordS]), if_neg (by simp [ordS])]
  unfold ordS
  dsimp only
  rw [List.take_add_one, h]
  simp
theorem start_wf (s : PSt) (ks : List Bool) (h : WF s) : WF (startF s ks) := by
  have hl := foldB_len (s.cache.zip ks) (s.held, s.dumb)
  have h1 := h.held
  have h2 := h.dumb
  exact ⟨by simp only [startF, startH]; rw [hl.1]; exact h1, by simp only [startF, startH]; rw [hl.2]; exact h2, h.sec, by simp [startF], by simp [startF], h.reads, h.writes, by simp [startF]⟩
set_option maxHeartbeats 1000000 in
theorem order_spec (q : View) (vp : Option Addr) (vs : List Int) (vc : Nat) (hv : ∀ v ∈ vs, 0 ≤ v ∧ v ≤ 255) (hvq : RowQ q vp vs.length 1 (vs.map (Value.int .u8))) (kp : Option Addr) (kc : Nat) (ks : List Bool) (hk : RowQ q kp ks.length 1 (ks.map Value.bool)) :
    FnD Try.prog q 3 [.slice vp vs.length vc, .slice kp ks.length kc] [] (.bool true) [] := by
  refine FnD.of_run Try.call3 Try.func3 rfl [(0, .slice vp vs.length vc), (1, .slice kp ks.length kc)] (Nat.le_of_ble_eq_true rfl) (by simp) ?_
  repeat (first | (with_reducible refine run_seq ?_) | (refine run_region rfl rfl ?_) | (with_reducible refine run_ops_nil ?_) | (refine run_pure1 tabOk rfl ?_) | (with_reducible refine run_block ?_) | (with_reducible refine run_blk ?_) | (with_reducible refine run_label ?_) | (with_reducible refine run_skip ?_) | (refine run_exit rfl ?_) | (apply w_fieldat tabOk; rfl; rfl; rfl; rfl) | (apply w_load tabOk rfl rfl rfl rfl; (repeat (first | (with_reducible exact At.head) | apply At.tail)); rfl; rfl) | (apply w_store tabOk rfl rfl rfl rfl rfl rfl rfl rfl; (repeat (first | (with_reducible exact At.head) | apply At.tail)); rfl; rfl) | (apply w_arith; rfl; rfl; rfl; rfl; omega; omega; rfl))
  apply run_callx rfl rfl rfl (new_spec q 1 (by omega)); (repeat (first | exact Pulls.nil | (apply Pulls.cons; (repeat (first | (with_reducible exact Pull.head) | apply Pull.tail))))); exact fun _ => rfl; exact fun _ => rfl
  intro b
  repeat (first | (with_reducible refine run_seq ?_) | (refine run_region rfl rfl ?_) | (with_reducible refine run_ops_nil ?_) | (refine run_pure1 tabOk rfl ?_) | (with_reducible refine run_block ?_) | (with_reducible refine run_blk ?_) | (with_reducible refine run_label ?_) | (with_reducible refine run_skip ?_) | (refine run_exit rfl ?_) | (apply w_fieldat tabOk; rfl; rfl; rfl; rfl) | (apply w_load tabOk rfl rfl rfl rfl; (repeat (first | (with_reducible exact At.head) | apply At.tail)); rfl; rfl) | (apply w_store tabOk rfl rfl rfl rfl rfl rfl rfl rfl; (repeat (first | (with_reducible exact At.head) | apply At.tail)); rfl; rfl) | (apply w_arith; rfl; rfl; rfl; rfl; omega; omega; rfl))
  refine run_cond_false rfl ?_
  repeat (first | (with_reducible refine run_seq ?_) | (refine run_region rfl rfl ?_) | (with_reducible refine run_ops_nil ?_) | (refine run_pure1 tabOk rfl ?_) | (with_reducible refine run_block ?_) | (with_reducible refine run_blk ?_) | (with_reducible refine run_label ?_) | (with_reducible refine run_skip ?_) | (refine run_exit rfl ?_) | (apply w_fieldat tabOk; rfl; rfl; rfl; rfl) | (apply w_load tabOk rfl rfl rfl rfl; (repeat (first | (with_reducible exact At.head) | apply At.tail)); rfl; rfl) | (apply w_store tabOk rfl rfl rfl rfl rfl rfl rfl rfl; (repeat (first | (with_reducible exact At.head) | apply At.tail)); rfl; rfl) | (apply w_arith; rfl; rfl; rfl; rfl; omega; omega; rfl))
  apply run_calld rfl rfl rfl (blank_spec q); (repeat (first | exact Pulls.nil | (apply Pulls.cons; (repeat (first | (with_reducible exact Pull.head) | apply Pull.tail))))); rfl; rfl
  repeat (first | (with_reducible refine run_seq ?_) | (refine run_region rfl rfl ?_) | (with_reducible refine run_ops_nil ?_) | (refine run_pure1 tabOk rfl ?_) | (with_reducible refine run_block ?_) | (with_reducible refine run_blk ?_) | (with_reducible refine run_label ?_) | (with_reducible refine run_skip ?_) | (refine run_exit rfl ?_) | (apply w_fieldat tabOk; rfl; rfl; rfl; rfl) | (apply w_load tabOk rfl rfl rfl rfl; (repeat (first | (with_reducible exact At.head) | apply At.tail)); rfl; rfl) | (apply w_store tabOk rfl rfl rfl rfl rfl rfl rfl rfl; (repeat (first | (with_reducible exact At.head) | apply At.tail)); rfl; rfl) | (apply w_arith; rfl; rfl; rfl; rfl; omega; omega; rfl))
  refine run_loopI (X := Nat) (fun i => i ≤ vs.length ∧ i ≤ 60) (fun i => [(0, .slice vp vs.length vc), (1, .slice kp ks.length kc), (5, .pointer (some ⟨b, 0, none⟩)), (7, .string (wantF ((vs.zip ks).take i) zeros64)), (8, .int .i64 i)])
    (fun i => [plateAt b (ordS vs i)]) (fun i => 60 - i) 0 ⟨Nat.zero_le _, Nat.zero_le _⟩ ?_ ?_ ?_
  · (repeat (first | exact facts_nil | (refine facts_cons rfl ?_)))
  · exact Imp.refl _
  · intro i ⟨hi, hi60⟩
    repeat (first | (with_reducible refine run_seq ?_) | (refine run_region rfl rfl ?_) | (with_reducible refine run_ops_nil ?_) | (refine run_pure1 tabOk rfl ?_) | (with_reducible refine run_block ?_) | (with_reducible refine run_blk ?_) | (with_reducible refine run_label ?_) | (with_reducible refine run_skip ?_) | (refine run_exit rfl ?_) | (apply w_fieldat tabOk; rfl; rfl; rfl; rfl) | (apply w_load tabOk rfl rfl rfl rfl; (repeat (first | (with_reducible exact At.head) | apply At.tail)); rfl; rfl) | (apply w_store tabOk rfl rfl rfl rfl rfl rfl rfl rfl; (repeat (first | (with_reducible exact At.head) | apply At.tail)); rfl; rfl) | (apply w_arith; rfl; rfl; rfl; rfl; omega; omega; rfl))
    refine run_split_dec rfl rfl rfl rfl rfl ?_ ?_
    · intro h1
      repeat (first | (with_reducible refine run_seq ?_) | (refine run_region rfl rfl ?_) | (with_reducible refine run_ops_nil ?_) | (refine run_pure1 tabOk rfl ?_) | (with_reducible refine run_block ?_) | (with_reducible refine run_blk ?_) | (with_reducible refine run_label ?_) | (with_reducible refine run_skip ?_) | (refine run_exit rfl ?_) | (apply w_fieldat tabOk; rfl; rfl; rfl; rfl) | (apply w_load tabOk rfl rfl rfl rfl; (repeat (first | (with_reducible exact At.head) | apply At.tail)); rfl; rfl) | (apply w_store tabOk rfl rfl rfl rfl rfl rfl rfl rfl; (repeat (first | (with_reducible exact At.head) | apply At.tail)); rfl; rfl) | (apply w_arith; rfl; rfl; rfl; rfl; omega; omega; rfl))
      refine run_cond_dec rfl ?_ ?_
      · intro h2
        have h1' : i < vs.length := Int.ofNat_lt.1 h1
        have h2' : i < 60 := Int.ofNat_lt.1 h2
        obtain ⟨bv, ov, cv, tv, fv, epv, hqv, hiv⟩ := hvq.open_ (by omega)
        subst epv
        obtain ⟨v, hvi⟩ : ∃ v, vs[i]? = some v := ⟨_, List.getElem?_eq_getElem h1'⟩
        have hvm := hv v (List.mem_of_getElem? hvi)
        have hcv : cv[ov + i]? = some (.int .u8 v) := by rw [hiv i (by omega), List.getElem?_map, hvi]; rfl
        have ew := ord_write vs i v hvi
        have hw0 := write_spec q b (ordS vs i) (ordS_wf vs i hi60) 0 (bytesF v 64)
        rw [ew] at hw0
        repeat (first | (with_reducible refine run_seq ?_) | (refine run_region rfl rfl ?_) | (with_reducible refine run_ops_nil ?_) | (refine run_pure1 tabOk rfl ?_) | (with_reducible refine run_block ?_) | (with_reducible refine run_blk ?_) | (with_reducible refine run_label ?_) | (with_reducible refine run_skip ?_) | (refine run_exit rfl ?_) | (apply w_fieldat tabOk; rfl; rfl; rfl; rfl) | (apply w_load tabOk rfl rfl rfl rfl; (repeat (first | (with_reducible exact At.head) | apply At.tail)); rfl; rfl) | (apply w_store tabOk rfl rfl rfl rfl rfl rfl rfl rfl; (repeat (first | (with_reducible exact At.head) | apply At.tail)); rfl; rfl) | (apply w_arith; rfl; rfl; rfl; rfl; omega; omega; rfl))
        (apply w_idxo (kk := 1) (o' := ov + i) tabOk; rfl; rfl; rfl; rfl; rfl; rfl; rfl; omega; omega; (first | omega | exact congrArg (_ + ·) (Nat.mul_one _)); rfl)
        (apply w_load_old tabOk rfl rfl rfl rfl hqv hcv; rfl)
        repeat (first | (with_reducible refine run_seq ?_) | (refine run_region rfl rfl ?_) | (with_reducible refine run_ops_nil ?_) | (refine run_pure1 tabOk rfl ?_) | (with_reducible refine run_block ?_) | (with_reducible refine run_blk ?_) | (with_reducible refine run_label ?_) | (with_reducible refine run_skip ?_) | (refine run_exit rfl ?_) | (apply w_fieldat tabOk; rfl; rfl; rfl; rfl) | (apply w_load tabOk rfl rfl rfl rfl; (repeat (first | (with_reducible exact At.head) | apply At.tail)); rfl; rfl) | (apply w_store tabOk rfl rfl rfl rfl rfl rfl rfl rfl; (repeat (first | (with_reducible exact At.head) | apply At.tail)); rfl; rfl) | (apply w_arith; rfl; rfl; rfl; rfl; omega; omega; rfl))
        apply run_calld rfl rfl rfl (bytes_spec q v 64 hvm.1 hvm.2 (by omega)); (repeat (first | exact Pulls.nil | (apply Pulls.cons; (repeat (first | (with_reducible exact Pull.head) | apply Pull.tail))))); rfl; rfl
        apply run_calld rfl rfl rfl (hw0); (repeat (first | exact Pulls.nil | (apply Pulls.cons; (repeat (first | (with_reducible exact Pull.head) | apply Pull.tail))))); rfl; rfl
        repeat (first | (with_reducible refine run_seq ?_) | (refine run_region rfl rfl ?_) | (with_reducible refine run_ops_nil ?_) | (refine run_pure1 tabOk rfl ?_) | (with_reducible refine run_block ?_) | (with_reducible refine run_blk ?_) | (with_reducible refine run_label ?_) | (with_reducible refine run_skip ?_) | (refine run_exit rfl ?_) | (apply w_fieldat tabOk; rfl; rfl; rfl; rfl) | (apply w_load tabOk rfl rfl rfl rfl; (repeat (first | (with_reducible exact At.head) | apply At.tail)); rfl; rfl) | (apply w_store tabOk rfl rfl rfl rfl rfl rfl rfl rfl; (repeat (first | (with_reducible exact At.head) | apply At.tail)); rfl; rfl) | (apply w_arith; rfl; rfl; rfl; rfl; omega; omega; rfl))
        refine run_split_dec rfl rfl rfl rfl rfl ?_ ?_
        · intro h3
          have h3' : i < ks.length := Int.ofNat_lt.1 h3
          obtain ⟨bk, ok, ck, tk, fk, ep, hq, hi2⟩ := hk.open_ (by omega)
          subst ep
          obtain ⟨z, hz⟩ : ∃ z, ks[i]? = some z := ⟨_, List.getElem?_eq_getElem h3'⟩
          have hck : ck[ok + i]? = some (.bool z) := by rw [hi2 i (by omega), List.getElem?_map, hz]; rfl
          have hzip : (vs.zip ks)[i]? = some (v, z) := by rw [List.getElem?_zip_eq_some]; exact ⟨hvi, hz⟩
          have et : wantF ((vs.zip ks).take (i + 1)) zeros64 = if z = true then bytesF v 64 else wantF ((vs.zip ks).take i) zeros64 := by
            rw [List.take_add_one, hzip]; unfold wantF; rw [List.foldl_append]; rfl
          repeat (first | (with_reducible refine run_seq ?_) | (refine run_region rfl rfl ?_) | (with_reducible refine run_ops_nil ?_) | (refine run_pure1 tabOk rfl ?_) | (with_reducible refine run_block ?_) | (with_reducible refine run_blk ?_) | (with_reducible refine run_label ?_) | (with_reducible refine run_skip ?_) | (refine run_exit rfl ?_) | (apply w_fieldat tabOk; rfl; rfl; rfl; rfl) | (apply w_load tabOk rfl rfl rfl rfl; (repeat (first | (with_reducible exact At.head) | apply At.tail)); rfl; rfl) | (apply w_store tabOk rfl rfl rfl rfl rfl rfl rfl rfl; (repeat (first | (with_reducible exact At.head) | apply At.tail)); rfl; rfl) | (apply w_arith; rfl; rfl; rfl; rfl; omega; omega; rfl))
          (apply w_idxo (kk := 1) (o' := ok + i) tabOk; rfl; rfl; rfl; rfl; rfl; rfl; rfl; omega; omega; (first | omega | exact congrArg (_ + ·) (Nat.mul_one _)); rfl)
          (apply w_load_old tabOk rfl rfl rfl rfl hq hck; rfl)
          repeat (first | (with_reducible refine run_seq ?_) | (refine run_region rfl rfl ?_) | (with_reducible refine run_ops_nil ?_) | (refine run_pure1 tabOk rfl ?_) | (with_reducible refine run_block ?_) | (with_reducible refine run_blk ?_) | (with_reducible refine run_label ?_) | (with_reducible refine run_skip ?_) | (refine run_exit rfl ?_) | (apply w_fieldat tabOk; rfl; rfl; rfl; rfl) | (apply w_load tabOk rfl rfl rfl rfl; (repeat (first | (with_reducible exact At.head) | apply At.tail)); rfl; rfl) | (apply w_store tabOk rfl rfl rfl rfl rfl rfl rfl rfl; (repeat (first | (with_reducible exact At.head) | apply At.tail)); rfl; rfl) | (apply w_arith; rfl; rfl; rfl; rfl; omega; omega; rfl))
          refine run_cond rfl ?_ ?_
          · intro h4
            rw [if_pos h4] at et
            repeat (first | (with_reducible refine run_seq ?_) | (refine run_region rfl rfl ?_) | (with_reducible refine run_ops_nil ?_) | (refine run_pure1 tabOk rfl ?_) | (with_reducible refine run_block ?_) | (with_reducible refine run_blk ?_) | (with_reducible refine run_label ?_) | (with_reducible refine run_skip ?_) | (refine run_exit rfl ?_) | (apply w_fieldat tabOk; rfl; rfl; rfl; rfl) | (apply w_load tabOk rfl rfl rfl rfl; (repeat (first | (with_reducible exact At.head) | apply At.tail)); rfl; rfl) | (apply w_store tabOk rfl rfl rfl rfl rfl rfl rfl rfl; (repeat (first | (with_reducible exact At.head) | apply At.tail)); rfl; rfl) | (apply w_arith; rfl; rfl; rfl; rfl; omega; omega; rfl))
            (apply w_idxo (kk := 1) (o' := ov + i) tabOk; rfl; rfl; rfl; rfl; rfl; rfl; rfl; omega; omega; (first | omega | exact congrArg (_ + ·) (Nat.mul_one _)); rfl)
            (apply w_load_old tabOk rfl rfl rfl rfl hqv hcv; rfl)
            repeat (first | (with_reducible refine run_seq ?_) | (refine run_region rfl rfl ?_) | (with_reducible refine run_ops_nil ?_) | (refine run_pure1 tabOk rfl ?_) | (with_reducible refine run_block ?_) | (with_reducible refine run_blk ?_) | (with_reducible refine run_label ?_) | (with_reducible refine run_skip ?_) | (refine run_exit rfl ?_) | (apply w_fieldat tabOk; rfl; rfl; rfl; rfl) | (apply w_load tabOk rfl rfl rfl rfl; (repeat (first | (with_reducible exact At.head) | apply At.tail)); rfl; rfl) | (apply w_store tabOk rfl rfl rfl rfl rfl rfl rfl rfl; (repeat (first | (with_reducible exact At.head) | apply At.tail)); rfl; rfl) | (apply w_arith; rfl; rfl; rfl; rfl; omega; omega; rfl))
            apply run_calld rfl rfl rfl (bytes_spec q v 64 hvm.1 hvm.2 (by omega)); (repeat (first | exact Pulls.nil | (apply Pulls.cons; (repeat (first | (with_reducible exact Pull.head) | apply Pull.tail))))); rfl; rfl
            repeat (first | (with_reducible refine run_seq ?_) | (refine run_region rfl rfl ?_) | (with_reducible refine run_ops_nil ?_) | (refine run_pure1 tabOk rfl ?_) | (with_reducible refine run_block ?_) | (with_reducible refine run_blk ?_) | (with_reducible refine run_label ?_) | (with_reducible refine run_skip ?_) | (refine run_exit rfl ?_) | (apply w_fieldat tabOk; rfl; rfl; rfl; rfl) | (apply w_load tabOk rfl rfl rfl rfl; (repeat (first | (with_reducible exact At.head) | apply At.tail)); rfl; rfl) | (apply w_store tabOk rfl rfl rfl rfl rfl rfl rfl rfl; (repeat (first | (with_reducible exact At.head) | apply At.tail)); rfl; rfl) | (apply w_arith; rfl; rfl; rfl; rfl; omega; omega; rfl))
            refine run_stop_loop (i + 1) ⟨⟨h1', h2'⟩, by omega⟩ ?_ (Imp.refl _)
            (iterate 3 (refine facts_cons rfl ?_))
            (refine facts_cons ?_ ?_)
            · show lookup _ 7 = some (.string (wantF ((vs.zip ks).take (i + 1)) zeros64))
              rw [et]; rfl
            (repeat (first | exact facts_nil | (refine facts_cons rfl ?_)))
          · intro h4
            rw [if_neg (by rw [h4]; exact Bool.false_ne_true)] at et
            repeat (first | (with_reducible refine run_seq ?_) | (refine run_region rfl rfl ?_) | (with_reducible refine run_ops_nil ?_) | (refine run_pure1 tabOk rfl ?_) | (with_reducible refine run_block ?_) | (with_reducible refine run_blk ?_) | (with_reducible refine run_label ?_) | (with_reducible refine run_skip ?_) | (refine run_exit rfl ?_) | (apply w_fieldat tabOk; rfl; rfl; rfl; rfl) | (apply w_load tabOk rfl rfl rfl rfl; (repeat (first | (with_reducible exact At.head) | apply At.tail)); rfl; rfl) | (apply w_store tabOk rfl rfl rfl rfl rfl rfl rfl rfl; (repeat (first | (with_reducible exact At.head) | apply At.tail)); rfl; rfl) | (apply w_arith; rfl; rfl; rfl; rfl; omega; omega; rfl))
            refine run_stop_loop (i + 1) ⟨⟨h1', h2'⟩, by omega⟩ ?_ (Imp.refl _)
            (iterate 3 (refine facts_cons rfl ?_))
            (refine facts_cons ?_ ?_)
            · show lookup _ 7 = some (.string (wantF ((vs.zip ks).take (i + 1)) zeros64))
              rw [et]; rfl
            (repeat (first | exact facts_nil | (refine facts_cons rfl ?_)))
        · intro h3
          have h3' : ks.length ≤ i := Nat.le_of_not_lt fun h => h3 (Int.ofNat_lt.2 h)
          have et : wantF ((vs.zip ks).take (i + 1)) zeros64 = wantF ((vs.zip ks).take i) zeros64 := by
            rw [List.take_of_length_le (i := i), List.take_of_length_le (i := i + 1)]
            · rw [List.length_zip]; omega
            · rw [List.length_zip]; omega
          repeat (first | (with_reducible refine run_seq ?_) | (refine run_region rfl rfl ?_) | (with_reducible refine run_ops_nil ?_) | (refine run_pure1 tabOk rfl ?_) | (with_reducible refine run_block ?_) | (with_reducible refine run_blk ?_) | (with_reducible refine run_label ?_) | (with_reducible refine run_skip ?_) | (refine run_exit rfl ?_) | (apply w_fieldat tabOk; rfl; rfl; rfl; rfl) | (apply w_load tabOk rfl rfl rfl rfl; (repeat (first | (with_reducible exact At.head) | apply At.tail)); rfl; rfl) | (apply w_store tabOk rfl rfl rfl rfl rfl rfl rfl rfl; (repeat (first | (with_reducible exact At.head) | apply At.tail)); rfl; rfl) | (apply w_arith; rfl; rfl; rfl; rfl; omega; omega; rfl))
          refine run_cond_false rfl ?_
          repeat (first | (with_reducible refine run_seq ?_) | (refine run_region rfl rfl ?_) | (with_reducible refine run_ops_nil ?_) | (refine run_pure1 tabOk rfl ?_) | (with_reducible refine run_block ?_) | (with_reducible refine run_blk ?_) | (with_reducible refine run_label ?_) | (with_reducible refine run_skip ?_) | (refine run_exit rfl ?_) | (apply w_fieldat tabOk; rfl; rfl; rfl; rfl) | (apply w_load tabOk rfl rfl rfl rfl; (repeat (first | (with_reducible exact At.head) | apply At.tail)); rfl; rfl) | (apply w_store tabOk rfl rfl rfl rfl rfl rfl rfl rfl; (repeat (first | (with_reducible exact At.head) | apply At.tail)); rfl; rfl) | (apply w_arith; rfl; rfl; rfl; rfl; omega; omega; rfl))
          refine run_stop_loop (i + 1) ⟨⟨h1', h2'⟩, by omega⟩ ?_ (Imp.refl _)
          (iterate 3 (refine facts_cons rfl ?_))
          (refine facts_cons ?_ ?_)
          · show lookup _ 7 = some (.string (wantF ((vs.zip ks).take (i + 1)) zeros64))
            rw [et]; rfl
          (repeat (first | exact facts_nil | (refine facts_cons rfl ?_)))
      · intro h2
        repeat (first | (with_reducible refine run_seq ?_) | (refine run_region rfl rfl ?_) | (with_reducible refine run_ops_nil ?_) | (refine run_pure1 tabOk rfl ?_) | (with_reducible refine run_block ?_) | (with_reducible refine run_blk ?_) | (with_reducible refine run_label ?_) | (with_reducible refine run_skip ?_) | (refine run_exit rfl ?_) | (apply w_fieldat tabOk; rfl; rfl; rfl; rfl) | (apply w_load tabOk rfl rfl rfl rfl; (repeat (first | (with_reducible exact At.head) | apply At.tail)); rfl; rfl) | (apply w_store tabOk rfl rfl rfl rfl rfl rfl rfl rfl; (repeat (first | (with_reducible exact At.head) | apply At.tail)); rfl; rfl) | (apply w_arith; rfl; rfl; rfl; rfl; omega; omega; rfl))
        apply run_calld rfl rfl rfl (start_spec q b (ordS vs i) (ordS_wf vs i hi60) kp kc ks hk); (repeat (first | exact Pulls.nil | (apply Pulls.cons; (repeat (first | (with_reducible exact Pull.head) | apply Pull.tail))))); rfl; rfl
        repeat (first | (with_reducible refine run_seq ?_) | (refine run_region rfl rfl ?_) | (with_reducible refine run_ops_nil ?_) | (refine run_pure1 tabOk rfl ?_) | (with_reducible refine run_block ?_) | (with_reducible refine run_blk ?_) | (with_reducible refine run_label ?_) | (with_reducible refine run_skip ?_) | (refine run_exit rfl ?_) | (apply w_fieldat tabOk; rfl; rfl; rfl; rfl) | (apply w_load tabOk rfl rfl rfl rfl; (repeat (first | (with_reducible exact At.head) | apply At.tail)); rfl; rfl) | (apply w_store tabOk rfl rfl rfl rfl rfl rfl rfl rfl; (repeat (first | (with_reducible exact At.head) | apply At.tail)); rfl; rfl) | (apply w_arith; rfl; rfl; rfl; rfl; omega; omega; rfl))
        have h3 := read_spec q b (startF (ordS vs i) ks) (start_wf _ ks (ordS_wf vs i hi60)) 0
        rw [ord_read] at h3
        apply run_calld rfl rfl rfl (h3); (repeat (first | exact Pulls.nil | (apply Pulls.cons; (repeat (first | (with_reducible exact Pull.head) | apply Pull.tail))))); rfl; rfl
        repeat (first | (with_reducible refine run_seq ?_) | (refine run_region rfl rfl ?_) | (with_reducible refine run_ops_nil ?_) | (refine run_pure1 tabOk rfl ?_) | (with_reducible refine run_block ?_) | (with_reducible refine run_blk ?_) | (with_reducible refine run_label ?_) | (with_reducible refine run_skip ?_) | (refine run_exit rfl ?_) | (apply w_fieldat tabOk; rfl; rfl; rfl; rfl) | (apply w_load tabOk rfl rfl rfl rfl; (repeat (first | (with_reducible exact At.head) | apply At.tail)); rfl; rfl) | (apply w_store tabOk rfl rfl rfl rfl rfl rfl rfl rfl; (repeat (first | (with_reducible exact At.head) | apply At.tail)); rfl; rfl) | (apply w_arith; rfl; rfl; rfl; rfl; omega; omega; rfl))
        refine run_split_dec rfl rfl rfl rfl rfl (fun _ => ?_) (fun h => absurd rfl h)
        repeat (first | (with_reducible refine run_seq ?_) | (refine run_region rfl rfl ?_) | (with_reducible refine run_ops_nil ?_) | (refine run_pure1 tabOk rfl ?_) | (with_reducible refine run_block ?_) | (with_reducible refine run_blk ?_) | (with_reducible refine run_label ?_) | (with_reducible refine run_skip ?_) | (refine run_exit rfl ?_) | (apply w_fieldat tabOk; rfl; rfl; rfl; rfl) | (apply w_load tabOk rfl rfl rfl rfl; (repeat (first | (with_reducible exact At.head) | apply At.tail)); rfl; rfl) | (apply w_store tabOk rfl rfl rfl rfl rfl rfl rfl rfl; (repeat (first | (with_reducible exact At.head) | apply At.tail)); rfl; rfl) | (apply w_arith; rfl; rfl; rfl; rfl; omega; omega; rfl))
        apply run_calld rfl rfl rfl (awake_spec q); (repeat (first | exact Pulls.nil | (apply Pulls.cons; (repeat (first | (with_reducible exact Pull.head) | apply Pull.tail))))); rfl; rfl
        repeat (first | (with_reducible refine run_seq ?_) | (refine run_region rfl rfl ?_) | (with_reducible refine run_ops_nil ?_) | (refine run_pure1 tabOk rfl ?_) | (with_reducible refine run_block ?_) | (with_reducible refine run_blk ?_) | (with_reducible refine run_label ?_) | (with_reducible refine run_skip ?_) | (refine run_exit rfl ?_) | (apply w_fieldat tabOk; rfl; rfl; rfl; rfl) | (apply w_load tabOk rfl rfl rfl rfl; (repeat (first | (with_reducible exact At.head) | apply At.tail)); rfl; rfl) | (apply w_store tabOk rfl rfl rfl rfl rfl rfl rfl rfl; (repeat (first | (with_reducible exact At.head) | apply At.tail)); rfl; rfl) | (apply w_arith; rfl; rfl; rfl; rfl; omega; omega; rfl))
        refine run_ret rfl (imp_RD rfl ?_)
        (repeat (first | exact imp_nil | (apply imp_pick; (repeat (first | (with_reducible exact Pull.head) | apply Pull.tail)))))
    · intro h1
      repeat (first | (with_reducible refine run_seq ?_) | (refine run_region rfl rfl ?_) | (with_reducible refine run_ops_nil ?_) | (refine run_pure1 tabOk rfl ?_) | (with_reducible refine run_block ?_) | (with_reducible refine run_blk ?_) | (with_reducible refine run_label ?_) | (with_reducible refine run_skip ?_) | (refine run_exit rfl ?_) | (apply w_fieldat tabOk; rfl; rfl; rfl; rfl) | (apply w_load tabOk rfl rfl rfl rfl; (repeat (first | (with_reducible exact At.head) | apply At.tail)); rfl; rfl) | (apply w_store tabOk rfl rfl rfl rfl rfl rfl rfl rfl; (repeat (first | (with_reducible exact At.head) | apply At.tail)); rfl; rfl) | (apply w_arith; rfl; rfl; rfl; rfl; omega; omega; rfl))
      refine run_cond_false rfl ?_
      repeat (first | (with_reducible refine run_seq ?_) | (refine run_region rfl rfl ?_) | (with_reducible refine run_ops_nil ?_) | (refine run_pure1 tabOk rfl ?_) | (with_reducible refine run_block ?_) | (with_reducible refine run_blk ?_) | (with_reducible refine run_label ?_) | (with_reducible refine run_skip ?_) | (refine run_exit rfl ?_) | (apply w_fieldat tabOk; rfl; rfl; rfl; rfl) | (apply w_load tabOk rfl rfl rfl rfl; (repeat (first | (with_reducible exact At.head) | apply At.tail)); rfl; rfl) | (apply w_store tabOk rfl rfl rfl rfl rfl rfl rfl rfl; (repeat (first | (with_reducible exact At.head) | apply At.tail)); rfl; rfl) | (apply w_arith; rfl; rfl; rfl; rfl; omega; omega; rfl))
      apply run_calld rfl rfl rfl (start_spec q b (ordS vs i) (ordS_wf vs i hi60) kp kc ks hk); (repeat (first | exact Pulls.nil | (apply Pulls.cons; (repeat (first | (with_reducible exact Pull.head) | apply Pull.tail))))); rfl; rfl
      repeat (first | (with_reducible refine run_seq ?_) | (refine run_region rfl rfl ?_) | (with_reducible refine run_ops_nil ?_) | (refine run_pure1 tabOk rfl ?_) | (with_reducible refine run_block ?_) | (with_reducible refine run_blk ?_) | (with_reducible refine run_label ?_) | (with_reducible refine run_skip ?_) | (refine run_exit rfl ?_) | (apply w_fieldat tabOk; rfl; rfl; rfl; rfl) | (apply w_load tabOk rfl rfl rfl rfl; (repeat (first | (with_reducible exact At.head) | apply At.tail)); rfl; rfl) | (apply w_store tabOk rfl rfl rfl rfl rfl rfl rfl rfl; (repeat (first | (with_reducible exact At.head) | apply At.tail)); rfl; rfl) | (apply w_arith; rfl; rfl; rfl; rfl; omega; omega; rfl))
      have h3 := read_spec q b (startF (ordS vs i) ks) (start_wf _ ks (ordS_wf vs i hi60)) 0
      rw [ord_read] at h3
      apply run_calld rfl rfl rfl (h3); (repeat (first | exact Pulls.nil | (apply Pulls.cons; (repeat (first | (with_reducible exact Pull.head) | apply Pull.tail))))); rfl; rfl
      repeat (first | (with_reducible refine run_seq ?_) | (refine run_region rfl rfl ?_) | (with_reducible refine run_ops_nil ?_) | (refine run_pure1 tabOk rfl ?_) | (with_reducible refine run_block ?_) | (with_reducible refine run_blk ?_) | (with_reducible refine run_label ?_) | (with_reducible refine run_skip ?_) | (refine run_exit rfl ?_) | (apply w_fieldat tabOk; rfl; rfl; rfl; rfl) | (apply w_load tabOk rfl rfl rfl rfl; (repeat (first | (with_reducible exact At.head) | apply At.tail)); rfl; rfl) | (apply w_store tabOk rfl rfl rfl rfl rfl rfl rfl rfl; (repeat (first | (with_reducible exact At.head) | apply At.tail)); rfl; rfl) | (apply w_arith; rfl; rfl; rfl; rfl; omega; omega; rfl))
      refine run_split_dec rfl rfl rfl rfl rfl (fun _ => ?_) (fun h => absurd rfl h)
      repeat (first | (with_reducible refine run_seq ?_) | (refine run_region rfl rfl ?_) | (with_reducible refine run_ops_nil ?_) | (refine run_pure1 tabOk rfl ?_) | (with_reducible refine run_block ?_) | (with_reducible refine run_blk ?_) | (with_reducible refine run_label ?_) | (with_reducible refine run_skip ?_) | (refine run_exit rfl ?_) | (apply w_fieldat tabOk; rfl; rfl; rfl; rfl) | (apply w_load tabOk rfl rfl rfl rfl; (repeat (first | (with_reducible exact At.head) | apply At.tail)); rfl; rfl) | (apply w_store tabOk rfl rfl rfl rfl rfl rfl rfl rfl; (repeat (first | (with_reducible exact At.head) | apply At.tail)); rfl; rfl) | (apply w_arith; rfl; rfl; rfl; rfl; omega; omega; rfl))
      apply run_calld rfl rfl rfl (awake_spec q); (repeat (first | exact Pulls.nil | (apply Pulls.cons; (repeat (first | (with_reducible exact Pull.head) | apply Pull.tail))))); rfl; rfl
      repeat (first | (with_reducible refine run_seq ?_) | (refine run_region rfl rfl ?_) | (with_reducible refine run_ops_nil ?_) | (refine run_pure1 tabOk rfl ?_) | (with_reducible refine run_block ?_) | (with_reducible refine run_blk ?_) | (with_reducible refine run_label ?_) | (with_reducible refine run_skip ?_) | (refine run_exit rfl ?_) | (apply w_fieldat tabOk; rfl; rfl; rfl; rfl) | (apply w_load tabOk rfl rfl rfl rfl; (repeat (first | (with_reducible exact At.head) | apply At.tail)); rfl; rfl) | (apply w_store tabOk rfl rfl rfl rfl rfl rfl rfl rfl; (repeat (first | (with_reducible exact At.head) | apply At.tail)); rfl; rfl) | (apply w_arith; rfl; rfl; rfl; rfl; omega; omega; rfl))
      refine run_ret rfl (imp_RD rfl ?_)
      (repeat (first | exact imp_nil | (apply imp_pick; (repeat (first | (with_reducible exact Pull.head) | apply Pull.tail)))))
end Go.Proofs.Ytkmdajbhkfneaaa.V
