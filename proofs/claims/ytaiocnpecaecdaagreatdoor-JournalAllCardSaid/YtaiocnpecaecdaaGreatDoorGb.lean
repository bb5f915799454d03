/- errors.As at a block's fault and a number: Go's own text, walked; block.number. -/
import Derived.Test.YtaiocnpecaecdaaGreatDoorProg
import Derived.WalkKit
import Derived.LaidEql
import Derived.Stop.Asserts
import Derived.RowKitTokens
import Derived.Below
import Derived.Test.YtaiocnpecaecdaaGreatDoorGa
import Derived.Lib.IfaceEq
set_option maxRecDepth 10000
set_option linter.unusedVariables false
namespace Go.Proofs.YtaiocnpecaecdaaGreatDoor.NA
open Go.RowKit Go.Extern.Stop Go.Stop Go.Extern
theorem valueOfP (t : Addr) (w : World) : (ReflectliteValue.unpack (.iface 234 (.pointer (some t)))).run Tryz.prog w
    = .ok (.agg #[.pointer (some ⟨2, 234, none⟩), .pointer (some ⟨w.heap.size, 0, none⟩), .int .u64 150]) (w.alloc (.cells #[.pointer (some t)] 234)) := by kernel_rfl
theorem typeP (a : Addr) (w : World) : (ReflectliteValue.methodAny (ReflectliteValue.valueError "reflectlite.Value.Type" 0) (fun t _ _ _ => ReflectliteType.toType t) #[.agg #[.pointer (some ⟨2, 234, none⟩), .pointer (some a), .int .u64 150]]).run Tryz.prog w
    = .ok (.iface 262 (.agg #[.pointer (some ⟨2, 234, none⟩)])) w := by kernel_rfl
theorem methodKind (h : Value) (w : World) : (Go.method 448 262 (.agg #[h]) "Kind").run Tryz.prog w = .ok (247, h) w := by kernel_rfl
theorem kindP (w : World) : ((ReflectliteType.abiMethod fun t => (fun a : Nat => Value.int IntKind.u8 (a : Int)) <$> Rtype.kind t) #[.pointer (some ⟨2, 234, none⟩)]).run Tryz.prog w = .ok (.int .u8 22) w := by kernel_rfl
theorem kindN (w : World) : ((ReflectliteType.abiMethod fun t => (fun a : Nat => Value.int IntKind.u8 (a : Int)) <$> Rtype.kind t) #[.pointer (some ⟨2, 23, none⟩)]).run Tryz.prog w = .ok (.int .u8 2) w := by kernel_rfl
theorem rlm (z : Sem Value) (f : TypeId → Addr → Nat → Nat → Sem Value) (v : Value) :
    ReflectliteValue.method z f #[v] = (do match ← ReflectliteValue.parts v with | none => z | some (t, a, fl) => f t a fl (fl % 32)) := rfl
theorem partsP (a : Addr) (w : World) : (ReflectliteValue.parts (.agg #[.pointer (some ⟨2, 234, none⟩), .pointer (some a), .int .u64 150])).run Tryz.prog w = .ok (some (234, a, 150)) w := by kernel_rfl
theorem isNilP (a p : Addr) (W : World) (ha : W.cell? a = some (.pointer (some p))) :
    (ReflectliteValue.method (ReflectliteValue.valueError "reflectlite.Value.IsNil" 0) ReflectliteValue.isNil #[.agg #[.pointer (some ⟨2, 234, none⟩), .pointer (some a), .int .u64 150]]).run Tryz.prog W = .ok (.bool false) W := by
  rw [rlm]
  simp only [Sem.run_bind, partsP, Result.andThen]
  simp [ReflectliteValue.isNil, loadVar, isAgg, underlying, Tryz.underlying234, ha, Result.andThen]
theorem methodElem (h : Value) (w : World) : (Go.method 448 262 (.agg #[h]) "Elem").run Tryz.prog w = .ok (259, .agg #[h]) w := by kernel_rfl
theorem methodImplements (h : Value) (w : World) : (Go.method 448 262 (.agg #[h]) "Implements").run Tryz.prog w = .ok (260, .agg #[h]) w := by kernel_rfl
theorem methodAssignableTo (h : Value) (w : World) : (Go.method 448 262 (.agg #[h]) "AssignableTo").run Tryz.prog w = .ok (257, .agg #[h]) w := by kernel_rfl
theorem elemP (w : World) : (ReflectliteType.method ReflectliteType.elem #[.agg #[.pointer (some ⟨2, 234, none⟩)]]).run Tryz.prog w = .ok (.iface 262 (.agg #[.pointer (some ⟨2, 23, none⟩)])) w := by kernel_rfl
theorem implementsN (w : World) : (ReflectliteType.relation "Implements" ReflectliteType.implements_ #[.agg #[.pointer (some ⟨2, 23, none⟩)], .iface 262 (.agg #[.pointer (some ⟨2, 118, none⟩)])]).run Tryz.prog w = .ok (.bool true) w := by kernel_rfl
theorem typeOfF (v : Value) (w : World) : (ReflectliteType.typeOf #[.iface 230 v]).run Tryz.prog w = .ok (.iface 262 (.agg #[.pointer (some ⟨2, 230, none⟩)])) w := by kernel_rfl
theorem typeOfN (v : Value) (w : World) : (ReflectliteType.typeOf #[.iface 23 v]).run Tryz.prog w = .ok (.iface 262 (.agg #[.pointer (some ⟨2, 23, none⟩)])) w := by kernel_rfl
theorem assignableF (w : World) : (ReflectliteType.relation "AssignableTo" ReflectliteType.assignableTo #[.agg #[.pointer (some ⟨2, 230, none⟩)], .iface 262 (.agg #[.pointer (some ⟨2, 23, none⟩)])]).run Tryz.prog w = .ok (.bool false) w := by kernel_rfl
theorem assignableN (w : World) : (ReflectliteType.relation "AssignableTo" ReflectliteType.assignableTo #[.agg #[.pointer (some ⟨2, 23, none⟩)], .iface 262 (.agg #[.pointer (some ⟨2, 23, none⟩)])]).run Tryz.prog w = .ok (.bool true) w := by kernel_rfl
theorem valueOfN (v : Int) (w : World) : (ReflectliteValue.unpack (.iface 23 (.int .i64 v))).run Tryz.prog w
    = .ok (.agg #[.pointer (some ⟨2, 23, none⟩), .pointer (some ⟨w.heap.size, 0, none⟩), .int .u64 130]) (w.alloc (.cells #[.int .i64 v] 23)) := by kernel_rfl
theorem elemOfP (w : World) : (Rtype.elem? 234).run Tryz.prog w = .ok (some 23) w := by kernel_rfl
theorem mkN (p : Addr) (w : World) : (ReflectliteValue.mk 23 p ReflectliteValue.flagAddr).run Tryz.prog w = .ok (.agg #[.pointer (some ⟨2, 23, none⟩), .pointer (some p), .int .u64 386]) w := by kernel_rfl
theorem elemVP (a p : Addr) (W : World) (ha : W.cell? a = some (.pointer (some p))) :
    (ReflectliteValue.method (ReflectliteValue.valueError "reflectlite.Value.Elem" 0) ReflectliteValue.elem #[.agg #[.pointer (some ⟨2, 234, none⟩), .pointer (some a), .int .u64 150]]).run Tryz.prog W
      = .ok (.agg #[.pointer (some ⟨2, 23, none⟩), .pointer (some p), .int .u64 386]) W := by
  rw [rlm]
  simp only [Sem.run_bind, partsP, Result.andThen]
  simp [ReflectliteValue.elem, loadVar, isAgg, underlying, Tryz.underlying234, ha, Result.andThen, elemOfP, mkN]
theorem rls (v x : Value) : ReflectliteValue.set #[v, x] = (do
    let (some (dst, a, fl), some (src, b, _)) := (← ReflectliteValue.parts v, ← ReflectliteValue.parts x)
      | unsupported (.noEntry "extern/(internal/reflectlite.Value).Set.zeroValue")
    if fl / ReflectliteValue.flagAddr % 2 == 0 then unsupported (.noEntry "extern/(internal/reflectlite.Value).Set.unaddressable")
    let val ← loadVar src b
    if ← Rtype.directlyAssignable dst src then storeVar dst a val
    else if ← Rtype.implements dst src then
      if (← Rtype.kind src) == 20 then
        match val with
        | .nilIface => unsupported (.noEntry "extern/reflectlite: a nil value of one interface type handed on as a value of another")
        | _ => storeVar dst a val
      else storeVar dst a (.iface src val)
    else panicString ("reflectlite.Set: value of type " ++ (← Rtype.spelt src) ++ " is not assignable to type " ++ (← Rtype.spelt dst))
    pure (.tuple #[])) := rfl
theorem partsNa (a : Addr) (w : World) : (ReflectliteValue.parts (.agg #[.pointer (some ⟨2, 23, none⟩), .pointer (some a), .int .u64 386])).run Tryz.prog w = .ok (some (23, a, 386)) w := by kernel_rfl
theorem partsN (a : Addr) (w : World) : (ReflectliteValue.parts (.agg #[.pointer (some ⟨2, 23, none⟩), .pointer (some a), .int .u64 130])).run Tryz.prog w = .ok (some (23, a, 130)) w := by kernel_rfl
theorem directN (w : World) : (Rtype.directlyAssignable 23 23).run Tryz.prog w = .ok true w := by kernel_rfl
theorem setN (ta b : Addr) (v : Int) (old : Value) (W : World) (hb : W.cell? b = some (.int .i64 v)) (ht : W.cell? ta = some old) (hf : W.frozen? ta = false) :
    (ReflectliteValue.set #[.agg #[.pointer (some ⟨2, 23, none⟩), .pointer (some ta), .int .u64 386], .agg #[.pointer (some ⟨2, 23, none⟩), .pointer (some b), .int .u64 130]]).run Tryz.prog W
      = .ok (.tuple #[]) (W.setCell ta (.int .i64 v)) := by
  rw [rls]
  simp only [Sem.run_bind, partsNa, partsN, Result.andThen]
  simp [ReflectliteValue.flagAddr, loadVar, isAgg, underlying, Tryz.underlying23, hb, Result.andThen, directN, storeVar, Value.cells, storeCells, Addr.add]
  rw [run_store Tryz.prog W ta _ _ (by rfl)]
  simp [ht, hf]
theorem methodUnwrap (h : Value) (w : World) : (Go.method 448 230 h "Unwrap").run Tryz.prog w = .ok (255, h) w := by kernel_rfl
theorem noAs (v : Value) (xT : TypeId) (w : World) : (Instr.typeAssert (.iface 230 v) xT 295 true).run Tryz.prog w = .ok (.tuple #[.nilIface, .bool false]) w := run_typeAssert_lacksB Tryz.underlying295 (by kernel_rfl) (by kernel_rfl) v xT w
theorem hasUnwrap (v : Value) (xT : TypeId) (w : World) : (Instr.typeAssert (.iface 230 v) xT 267 true).run Tryz.prog w = .ok (.tuple #[.iface 230 v, .bool true]) w := run_typeAssert_hasB Tryz.underlying267 (by kernel_rfl) v xT w
theorem unwrap_spec (f : Nat) (v : Int) (w : World) (hv : w.cell? ⟨f, 1, none⟩ = some (.int .i64 v)) : Calls Tryz.prog 255 #[.pointer (some ⟨f, 0, none⟩)] w fun e w' => e = .returned (.iface 23 (.int .i64 v)) ∧ w' = w := by
  go_enter Tryz.func255, Tryz.ntmps255
  go_wp2
  go_ret
  exact ⟨rfl, rfl⟩
set_option maxHeartbeats 8000000 in
theorem as_spec (f t : Nat) (v s0 old : Int) (sv : Value) (w : World) (hg : w.cell? ⟨0, 0, none⟩ = some (.iface 262 (.agg #[.pointer (some ⟨2, 118, none⟩)]))) (hv : w.cell? ⟨f, 1, none⟩ = some (.int .i64 v)) (b : Nat) (hb : w.cell? ⟨b, 0, none⟩ = some (.pointer (some ⟨t, 0, none⟩))) (ht : w.cell? ⟨t, 0, none⟩ = some (.int .i64 old)) (hz : w.frozen? ⟨t, 0, none⟩ = false) :
    Calls Tryz.prog 188 #[.iface 230 (.pointer (some ⟨f, 0, none⟩)), .iface 234 (.pointer (some ⟨t, 0, none⟩)), .agg #[.pointer (some ⟨2, 234, none⟩), .pointer (some ⟨b, 0, none⟩), .int .u64 150], .iface 262 (.agg #[.pointer (some ⟨2, 23, none⟩)])] w
      fun e w' => e = .returned (.bool true) ∧ w' = (((w.setCell ⟨t, 0, none⟩ (.int .i64 v)).alloc (.cells #[.pointer (some ⟨2, 234, none⟩), .pointer (some ⟨b, 0, none⟩), .int .u64 150] 277)).alloc (.cells #[.int .i64 v] 23)) := by
  have h74 := @run_callFunc_extern Tryz.prog 185 _ (fun args => ReflectliteValue.unpack (args.getD 0 (.tuple #[]))) Tryz.func185 (by kernel_rfl) (by kernel_rfl) (by kernel_rfl) (by kernel_rfl)
  have h91 := @run_callFunc_extern Tryz.prog 149 _ ReflectliteType.typeOf Tryz.func149 (by kernel_rfl) (by kernel_rfl) (by kernel_rfl) (by kernel_rfl)
  have hAT := @run_callFunc_extern Tryz.prog 257 _ (ReflectliteType.relation "AssignableTo" ReflectliteType.assignableTo) Tryz.func257 (by kernel_rfl) (by kernel_rfl) (by kernel_rfl) (by kernel_rfl)
  have h92 := @run_callFunc_extern Tryz.prog 199 _ (ReflectliteValue.method (ReflectliteValue.valueError "reflectlite.Value.Elem" 0) ReflectliteValue.elem) Tryz.func199 (by kernel_rfl) (by kernel_rfl) (by kernel_rfl) (by kernel_rfl)
  have h93 := @run_callFunc_extern Tryz.prog 200 _ ReflectliteValue.set Tryz.func200 (by kernel_rfl) (by kernel_rfl) (by kernel_rfl) (by kernel_rfl)
  have tF := typeOfF
  have tN := typeOfN
  have mA := methodAssignableTo
  have mU := methodUnwrap
  have aF := assignableF
  have aN := assignableN
  have vN := valueOfN
  have nA := noAs
  have hU := hasUnwrap
  have htl : t < w.heap.size := by
    rcases Nat.lt_or_ge t w.heap.size with h | h
    · exact h
    · simp [World.cell?, Array.getElem?_eq_none h] at ht
  have hbl : b < w.heap.size := by
    rcases Nat.lt_or_ge b w.heap.size with h | h
    · exact h
    · simp [World.cell?, Array.getElem?_eq_none h] at hb
  have hfl : f < w.heap.size := by
    rcases Nat.lt_or_ge f w.heap.size with h | h
    · exact h
    · simp [World.cell?, Array.getElem?_eq_none h] at hv
  have el := elemVP ⟨b, 0, none⟩ ⟨t, 0, none⟩ (w.alloc (.cells #[.pointer (some ⟨2, 234, none⟩), .pointer (some ⟨b, 0, none⟩), .int .u64 150] 277)) (by rw [World.cell?_alloc_lt _ _ ⟨b, 0, none⟩ hbl]; exact hb)
  have st := setN ⟨t, 0, none⟩ ⟨w.heap.size + 1, 0, none⟩ v (.int .i64 old) ((w.alloc (.cells #[.pointer (some ⟨2, 234, none⟩), .pointer (some ⟨b, 0, none⟩), .int .u64 150] 277)).alloc (.cells #[.int .i64 v] 23))
    (by rw [World.cell?_alloc_at _ _ _ _ (by simp)]; rfl)
    (by rw [World.cell?_alloc_lt _ _ ⟨t, 0, none⟩ (by simp; omega), World.cell?_alloc_lt _ _ ⟨t, 0, none⟩ htl]; exact ht)
    (by rw [World.frozen?_alloc_old _ _ ⟨t, 0, none⟩ (by simp; omega), World.frozen?_alloc_old _ _ ⟨t, 0, none⟩ (Nat.ne_of_lt htl)]; exact hz)
  have hv2 : (w.alloc (.cells #[.pointer (some ⟨2, 234, none⟩), .pointer (some ⟨b, 0, none⟩), .int .u64 150] 277)).cell? ⟨f, 1, none⟩ = some (.int .i64 v) := by rw [World.cell?_alloc_lt _ _ ⟨f, 1, none⟩ hfl]; exact hv
  go_enter Tryz.func188, Tryz.ntmps188
  go_wp2
  refine wp_loop_rounds 2 ?_
  rw [rounds_succ]
  go_wp2_with (go_at_call 255; refine (unwrap_spec f v _ hv2).mono ?_; rintro e w' ⟨rfl, rfl⟩)
  rw [rounds_succ]
  go_wp2
  go_ret
  exact ⟨rfl, rfl⟩
set_option maxHeartbeats 8000000 in
theorem errorsAs_spec (f t : Nat) (v old : Int) (w : World) (hg : w.cell? ⟨0, 0, none⟩ = some (.iface 262 (.agg #[.pointer (some ⟨2, 118, none⟩)]))) (hv : w.cell? ⟨f, 1, none⟩ = some (.int .i64 v)) (ht : w.cell? ⟨t, 0, none⟩ = some (.int .i64 old)) (hz : w.frozen? ⟨t, 0, none⟩ = false) :
    Calls Tryz.prog 158 #[.iface 230 (.pointer (some ⟨f, 0, none⟩)), .iface 234 (.pointer (some ⟨t, 0, none⟩))] w fun e w' => e = .returned (.bool true) ∧ w' = (((((w.setCell ⟨t, 0, none⟩ (.int .i64 v)).alloc (.cells #[.pointer (some ⟨t, 0, none⟩)] 234)).alloc (.cells #[.pointer (some ⟨2, 234, none⟩), .pointer (some ⟨w.heap.size, 0, none⟩), .int .u64 150] 277)).alloc (.cells #[.pointer (some ⟨2, 234, none⟩), .pointer (some ⟨w.heap.size, 0, none⟩), .int .u64 150] 277)).alloc (.cells #[.int .i64 v] 23)) := by
  have h6 := @run_callFunc_extern Tryz.prog 185 _ (fun args => ReflectliteValue.unpack (args.getD 0 (.tuple #[]))) Tryz.func185 (by kernel_rfl) (by kernel_rfl) (by kernel_rfl) (by kernel_rfl)
  have h7 := @run_callFunc_extern Tryz.prog 186 _ (ReflectliteValue.methodAny (ReflectliteValue.valueError "reflectlite.Value.Type" 0) (fun t _ _ _ => ReflectliteType.toType t)) Tryz.func186 (by kernel_rfl) (by kernel_rfl) (by kernel_rfl) (by kernel_rfl)
  have h8 := @run_callFunc_extern Tryz.prog 187 _ (ReflectliteValue.method (ReflectliteValue.valueError "reflectlite.Value.IsNil" 0) ReflectliteValue.isNil) Tryz.func187 (by kernel_rfl) (by kernel_rfl) (by kernel_rfl) (by kernel_rfl)
  have h27 := @run_callFunc_extern Tryz.prog 247 _ (ReflectliteType.abiMethod fun t => do pure (.int .u8 (← Rtype.kind t))) Tryz.func247 (by kernel_rfl) (by kernel_rfl) (by kernel_rfl) (by kernel_rfl)
  have h37 := @run_callFunc_extern Tryz.prog 259 _ (ReflectliteType.method ReflectliteType.elem) Tryz.func259 (by kernel_rfl) (by kernel_rfl) (by kernel_rfl) (by kernel_rfl)
  have h38 := @run_callFunc_extern Tryz.prog 260 _ (ReflectliteType.relation "Implements" ReflectliteType.implements_) Tryz.func260 (by kernel_rfl) (by kernel_rfl) (by kernel_rfl) (by kernel_rfl)
  have f6 := valueOfP
  have f7 := typeP
  have mK := methodKind
  have mE := methodElem
  have mI := methodImplements
  have kP := kindP
  have kN := kindN
  have eP := elemP
  have iN := implementsN
  have hlt : 0 < w.heap.size := by
    rcases Nat.eq_zero_or_pos w.heap.size with h0 | h
    · simp [World.cell?, h0] at hg
    · exact h
  have htl : t < w.heap.size := by
    rcases Nat.lt_or_ge t w.heap.size with h | h
    · exact h
    · simp [World.cell?, Array.getElem?_eq_none h] at ht
  have hfl : f < w.heap.size := by
    rcases Nat.lt_or_ge f w.heap.size with h | h
    · exact h
    · simp [World.cell?, Array.getElem?_eq_none h] at hv
  obtain ⟨W2, hW2⟩ : ∃ W2, W2 = (w.alloc (.cells #[.pointer (some ⟨t, 0, none⟩)] 234)).alloc (.cells #[.pointer (some ⟨2, 234, none⟩), .pointer (some ⟨w.heap.size, 0, none⟩), .int .u64 150] 277) := ⟨_, rfl⟩
  have n8 := isNilP ⟨w.heap.size, 0, none⟩ ⟨t, 0, none⟩ ((w.alloc (.cells #[.pointer (some ⟨t, 0, none⟩)] 234)).alloc (.cells #[.pointer (some ⟨2, 234, none⟩), .pointer (some ⟨w.heap.size, 0, none⟩), .int .u64 150] 277)) (by simp)
  have hg2 : ((w.alloc (.cells #[.pointer (some ⟨t, 0, none⟩)] 234)).alloc (.cells #[.pointer (some ⟨2, 234, none⟩), .pointer (some ⟨w.heap.size, 0, none⟩), .int .u64 150] 277)).cell? ⟨0, 0, none⟩ = some (.iface 262 (.agg #[.pointer (some ⟨2, 118, none⟩)])) := by
    rw [World.cell?_alloc_lt _ _ ⟨0, 0, none⟩ (by simp), World.cell?_alloc_lt _ _ ⟨0, 0, none⟩ hlt]; exact hg
  have cas := as_spec f t v 0 old (.bool true) ((w.alloc (.cells #[.pointer (some ⟨t, 0, none⟩)] 234)).alloc (.cells #[.pointer (some ⟨2, 234, none⟩), .pointer (some ⟨w.heap.size, 0, none⟩), .int .u64 150] 277)) hg2
    (by rw [World.cell?_alloc_lt _ _ ⟨f, 1, none⟩ (by simp; omega), World.cell?_alloc_lt _ _ ⟨f, 1, none⟩ hfl]; exact hv) w.heap.size
    (by rw [World.cell?_alloc_lt _ _ ⟨w.heap.size, 0, none⟩ (by simp)]; simp)
    (by rw [World.cell?_alloc_lt _ _ ⟨t, 0, none⟩ (by simp; omega), World.cell?_alloc_lt _ _ ⟨t, 0, none⟩ htl]; exact ht)
    (by rw [World.frozen?_alloc_old _ _ ⟨t, 0, none⟩ (by simp; omega), World.frozen?_alloc_old _ _ ⟨t, 0, none⟩ (Nat.ne_of_lt htl)]; exact hz)
  go_enter Tryz.func158, Tryz.ntmps158
  go_wp2_with (go_at_call 188; refine cas.mono ?_; rintro e w' ⟨rfl, rfl⟩)
  go_ret
  exact ⟨rfl, rfl⟩
end Go.Proofs.YtaiocnpecaecdaaGreatDoor.NA
namespace Go.Proofs.YtaiocnpecaecdaaGreatDoor.NA
open Go.RowKit Go.Extern.Stop Go.Stop Go.Extern
set_option maxHeartbeats 8000000 in
theorem number_calls (f : Nat) (v : Int) (w : World) (hg : w.cell? ⟨0, 0, none⟩ = some (.iface 262 (.agg #[.pointer (some ⟨2, 118, none⟩)]))) (hv : w.cell? ⟨f, 1, none⟩ = some (.int .i64 v)) :
    Calls Tryz.prog 118 #[.iface 230 (.pointer (some ⟨f, 0, none⟩))] w fun e w' => e = .returned (.int .i64 v) ∧ Below w.heap.size w w' := by
  have hlt : 0 < w.heap.size := by
    rcases Nat.eq_zero_or_pos w.heap.size with h0 | h
    · simp [World.cell?, h0] at hg
    · exact h
  have hfl : f < w.heap.size := by
    rcases Nat.lt_or_ge f w.heap.size with h | h
    · exact h
    · simp [World.cell?, Array.getElem?_eq_none h] at hv
  have ca := errorsAs_spec f w.heap.size v 0 (w.alloc (.cells #[.int .i64 0] 23)) (by rw [World.cell?_alloc_lt _ _ ⟨0, 0, none⟩ hlt]; exact hg) (by rw [World.cell?_alloc_lt _ _ ⟨f, 1, none⟩ hfl]; exact hv) (by simp) (by simp)
  go_enter Tryz.func118, Tryz.ntmps118
  go_wp2_with (go_at_call 158; refine ca.mono ?_; rintro e w' ⟨rfl, rfl⟩)
  go_ret
  refine ⟨rfl, ?_⟩
  have e (o : Obj) (W : World) (h : w.heap.size ≤ W.heap.size) : w.heap.size ≤ (W.alloc o).heap.size := by simp; omega
  exact ((((((Below.refl _ w).alloc (Nat.le_refl _) _).alloc (e _ _ (Nat.le_refl _)) _).alloc (e _ _ (e _ _ (Nat.le_refl _))) _).alloc (e _ _ (e _ _ (e _ _ (Nat.le_refl _)))) _).alloc (e _ _ (e _ _ (e _ _ (e _ _ (Nat.le_refl _))))) _)
end Go.Proofs.YtaiocnpecaecdaaGreatDoor.NA
namespace Go.Proofs.YtaiocnpecaecdaaGreatDoor.V
open Go.Proofs.YtaiocnpecaecdaaGreatDoor.VL Go.Proofs.YtaiocnpecaecdaaGreatDoor.VL.View Go.RowKit
theorem st_below {g : View} {w0 w w' : World} {A : HProp} (s : St g w0 A w) (hb : Below w.heap.size w w') : St g w0 A w' := by
  obtain ⟨h0, ha, d, fit, evo⟩ := s
  refine ⟨h0, ha, d, fun b o e => ?_, evo.trans ⟨hb.os, hb.tape, hb.output, hb.size⟩⟩
  rw [hb.block b (fit.lt e)]; exact fit b o e
theorem FnD.of_belowB {P : Program} {q : View} {f : FuncId} {args : List Value} {v : Value} {b : Nat} {t : TypeId} {c : Array Value} (hc : Callable P f)
    (h : ∀ w, (∀ k o, q k = some o → w.heap[k]? = some o) → (∃ fr, w.heap[b]? = some (.cells c t fr)) → Calls P f ⟨args⟩ w fun e w' => e = .returned v ∧ Below w.heap.size w w') : FnD P q f args [cells b t c] v [cells b t c] := by
  refine ⟨hc, fun g w0 w hq s => ?_⟩
  obtain ⟨fr, _, _, hh⟩ := St.cells_open s
  refine (h w (fun k o e => s.old hq e) ⟨fr, hh⟩).mono ?_
  rintro e w' ⟨he, hb⟩
  exact ⟨v, he, imp_RD rfl (Imp.refl _) g w0 w' (st_below s hb)⟩
/-- The variable of package errors, as the program's text lays it. -/
def ErrQ (q : View) : Prop := Old q 0 0 [.iface 262 (.agg #[.pointer (some ⟨2, 118, none⟩)])]
theorem number_spec (q : View) (hE : ErrQ q) (f : Nat) (s v : Int) : FnD Tryz.prog q 118 [.iface 230 (.pointer (some ⟨f, 0, none⟩))] [cells f 232 ⟨[.int .i64 s, .int .i64 v]⟩] (.int .i64 v) [cells f 232 ⟨[.int .i64 s, .int .i64 v]⟩] :=
  FnD.of_belowB Tryz.call118 fun w hq ⟨fr, hf⟩ => by
    obtain ⟨c, tc, fr0, hq0, hc⟩ := hE
    have hw := hq 0 _ hq0
    have h0 := hc 0 (by simp)
    refine NA.number_calls f v w ?_ ?_
    · simp [World.cell?, hw]
      simpa using h0
    · simp [World.cell?, hf]
theorem number_nil (q : View) : FnD Tryz.prog q 118 [.nilIface] [] (.int .i64 0) [] := by
  (first | refine FnD.go Tryz.call118 Tryz.func118 rfl rfl rfl ?_ | refine FnX.go Tryz.call118 Tryz.func118 rfl rfl rfl ?_)
  (repeat (first | refine g ?_))
  refine s_eqnil (hu := Tryz.underlying118) ?_
  (repeat (first | refine g ?_))
  exact run_ret rfl (imp_RD rfl shut)
end Go.Proofs.YtaiocnpecaecdaaGreatDoor.V
namespace Go.Proofs.YtaiocnpecaecdaaGreatDoor.NI
open Go.RowKit Go.Extern.Stop Go.Stop Go.Extern
theorem typeOfN (v : Value) (w : World) : (ReflectliteType.typeOf #[.iface 23 v]).run Tryz.prog w = .ok (.iface 262 (.agg #[.pointer (some ⟨2, 23, none⟩)])) w := by kernel_rfl
theorem comparableN (w : World) : ((Extern.ReflectliteType.method fun t => do Rtype.noPackHeld "Comparable" t; (fun a => Value.bool a.comparable) <$> typeInfo t) #[.agg #[.pointer (some ⟨2, 23, none⟩)]]).run Tryz.prog w = .ok (.bool true) w := by kernel_rfl
theorem methodComparable (v : Value) (w : World) : (Go.method 448 262 v "Comparable").run Tryz.prog w = .ok (258, v) w := by kernel_rfl
theorem compN : (Tryz.prog.info? 23).map (·.comparable) = some true := by kernel_rfl
theorem noIsS (v : Value) (xT : TypeId) (w : World) : (Instr.typeAssert (.iface 176 v) xT 264 true).run Tryz.prog w = .ok (.tuple #[.nilIface, .bool false]) w := run_typeAssert_lacksB Tryz.underlying264 (by kernel_rfl) (by kernel_rfl) v xT w
theorem noIsN (v : Value) (xT : TypeId) (w : World) : (Instr.typeAssert (.iface 23 v) xT 264 true).run Tryz.prog w = .ok (.tuple #[.nilIface, .bool false]) w := run_typeAssert_lacksB Tryz.underlying264 (by kernel_rfl) (by kernel_rfl) v xT w
theorem noUnwrapN (v : Value) (xT : TypeId) (w : World) : (Instr.typeAssert (.iface 23 v) xT 267 true).run Tryz.prog w = .ok (.tuple #[.nilIface, .bool false]) w := run_typeAssert_lacksB Tryz.underlying267 (by kernel_rfl) (by kernel_rfl) v xT w
theorem noUnwrapsN (v : Value) (xT : TypeId) (w : World) : (Instr.typeAssert (.iface 23 v) xT 269 true).run Tryz.prog w = .ok (.tuple #[.nilIface, .bool false]) w := run_typeAssert_lacksB Tryz.underlying269 (by kernel_rfl) (by kernel_rfl) v xT w
theorem hasUnwrapS (v : Value) (xT : TypeId) (w : World) : (Instr.typeAssert (.iface 176 v) xT 267 true).run Tryz.prog w = .ok (.tuple #[.iface 176 v, .bool true]) w := run_typeAssert_hasB Tryz.underlying267 (by kernel_rfl) v xT w
theorem methodUnwrap (v : Value) (w : World) : (Go.method 448 176 v "Unwrap").run Tryz.prog w = .ok (252, v) w := by kernel_rfl
theorem unwrap_spec (v : Int) (w : World) : Calls Tryz.prog 252 #[.agg #[.int .i64 v]] w fun e w' => e = .returned (.iface 23 (.int .i64 v)) ∧ Below w.heap.size w w' := by
  go_enter Tryz.func252, Tryz.ntmps252
  go_wp2
  go_ret
  exact ⟨rfl, by first | exact Below.refl _ w | exact (Below.refl _ w).alloc (Nat.le_refl _) _⟩
set_option maxHeartbeats 8000000 in
theorem is_calls (v : Int) (w : World) :
    Calls Tryz.prog 105 #[.iface 176 (.agg #[.int .i64 v]), .iface 23 (.int .i64 20)] w fun e w' => e = .returned (.bool (v == 20)) ∧ Below w.heap.size w w' := by
  have h8 := @run_callFunc_extern Tryz.prog 149 _ Extern.ReflectliteType.typeOf Tryz.func149 (by kernel_rfl) (by kernel_rfl) (by kernel_rfl) (by kernel_rfl)
  have h32 := @run_callFunc_extern Tryz.prog 258 _ (Extern.ReflectliteType.method fun t => do Rtype.noPackHeld "Comparable" t; pure (.bool (← typeInfo t).comparable)) Tryz.func258 (by kernel_rfl) (by kernel_rfl) (by kernel_rfl) (by kernel_rfl)
  have tT := typeOfN
  have cT := comparableN
  have mR := methodComparable
  have nS := noIsS
  have nN := noIsN
  have uN := noUnwrapN
  have vN := noUnwrapsN
  have uS := hasUnwrapS
  have mU := methodUnwrap
  have hty := run_eql_iface_types (P := Tryz.prog) 176 23 (.agg #[.int .i64 v]) (.int .i64 20) Tryz.underlying118 (by decide) w
  have heq := fun w => Lib.run_eql_iface_int (P := Tryz.prog) w (k := .i64) v 20 Tryz.underlying118 compN Tryz.underlying23
  go_enter Tryz.func105, Tryz.ntmps105
  go_wp2
  refine wp_loop_rounds 2 ?_
  rw [rounds_succ]
  go_wp2_with (go_at_call 252; refine (unwrap_spec v _).mono ?_; rintro e w' ⟨rfl, hb⟩)
  rw [rounds_succ]
  by_cases hv : v = 20
  · subst hv
    go_wp2
    go_ret
    exact ⟨rfl, hb⟩
  · have hv' : (v == 20) = false := by simpa using hv
    rw [hv'] at heq
    go_wp2
    go_ret
    exact ⟨by rw [hv']; rfl, hb⟩
end Go.Proofs.YtaiocnpecaecdaaGreatDoor.NI
