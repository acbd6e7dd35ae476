/-
  The contracts of package fault's New, Code and At, and of errors.As at the targets *api.Code and *api.Fault, for the errors nil, api.Code and api.Fault. Conditions: the package-level variable errors.errorType reads as its initialiser laid it. errors.As walked at the targets *api.Code and *api.Fault; fault.New, fault.Code, fault.At by their contracts. Condition: errors.errorType reads as its initialiser laid it. The contract of a law's told: whether an error has a code and an offset.
-/
import Derived.Test.YtipapffpfggmnaaDoorProg
import Derived.WalkKit
import Derived.LaidEql
import Derived.Stop.Asserts
import Derived.RowKitTokens
import Derived.Below
import Derived.Lib.ReflectliteSwap
import Derived.Outline
import Derived.Lib.Hide
namespace Go.Proofs.YtipapffpfggmnaaDoor
open Go.RowKit Go.Extern.Stop Go.Stop Go.Extern

/-- The cell of errors.errorType. -/
def LaidErr (w : World) : Prop := w.cell? ⟨0, 0, none⟩ = some (.iface 131 (.agg #[.pointer (some ⟨3, 31, none⟩)]))

theorem as_nil (t : Value) (w : World) :
    Calls Tryd.prog 56 #[.nilIface, t] w fun e w' => e = .returned (.bool false) ∧ w' = w := by
  go_enter Tryd.func56, Tryd.ntmps56
  go_wp2
  go_ret
  exact ⟨rfl, rfl⟩

/-! ### closed facts on the model's entries for internal/reflectlite -/
theorem c_valueOfP (t : Addr) (w : World) : (ReflectliteValue.unpack (.iface 98 (.pointer (some t)))).run Tryd.prog w
    = .ok (.agg #[.pointer (some ⟨3, 98, none⟩), .pointer (some ⟨w.heap.size, 0, none⟩), .int .u64 150]) (w.alloc (.cells #[.pointer (some t)] 98)) := by kernel_rfl
theorem c_type (a : Addr) (w : World) : (ReflectliteValue.methodAny (ReflectliteValue.valueError "reflectlite.Value.Type" 0) (fun t _ _ _ => ReflectliteType.toType t) #[.agg #[.pointer (some ⟨3, 98, none⟩), .pointer (some a), .int .u64 150]]).run Tryd.prog w
    = .ok (.iface 131 (.agg #[.pointer (some ⟨3, 98, none⟩)])) w := by kernel_rfl
theorem methodKind (h : Value) (w : World) : (Go.method 270 131 (.agg #[h]) "Kind").run Tryd.prog w = .ok (99, h) w := by kernel_rfl
theorem c_kindP (w : World) : ((ReflectliteType.abiMethod fun t => (fun a : Nat => Value.int IntKind.u8 (a : Int)) <$> Rtype.kind t) #[.pointer (some ⟨3, 98, none⟩)]).run Tryd.prog w = .ok (.int .u8 22) w := by kernel_rfl
theorem c_kind (w : World) : ((ReflectliteType.abiMethod fun t => (fun a : Nat => Value.int IntKind.u8 (a : Int)) <$> Rtype.kind t) #[.pointer (some ⟨3, 35, none⟩)]).run Tryd.prog w = .ok (.int .u8 2) w := by kernel_rfl
theorem f_kind (w : World) : ((ReflectliteType.abiMethod fun t => (fun a : Nat => Value.int IntKind.u8 (a : Int)) <$> Rtype.kind t) #[.pointer (some ⟨3, 96, none⟩)]).run Tryd.prog w = .ok (.int .u8 25) w := by kernel_rfl
theorem c_elem (w : World) : (ReflectliteType.method ReflectliteType.elem #[.agg #[.pointer (some ⟨3, 98, none⟩)]]).run Tryd.prog w = .ok (.iface 131 (.agg #[.pointer (some ⟨3, 35, none⟩)])) w := by kernel_rfl
theorem c_mk (p : Addr) (w : World) : (ReflectliteValue.mk 35 p ReflectliteValue.flagAddr).run Tryd.prog w = .ok (.agg #[.pointer (some ⟨3, 35, none⟩), .pointer (some p), .int .u64 386]) w := by kernel_rfl
theorem f_mk (p : Addr) (w : World) : (ReflectliteValue.mk 96 p ReflectliteValue.flagAddr).run Tryd.prog w = .ok (.agg #[.pointer (some ⟨3, 96, none⟩), .pointer (some p), .int .u64 409]) w := by kernel_rfl
theorem c_valueOf (c : Int) (w : World) : (ReflectliteValue.unpack (.iface 35 (.int .i64 c))).run Tryd.prog w
    = .ok (.agg #[.pointer (some ⟨3, 35, none⟩), .pointer (some ⟨w.heap.size, 0, none⟩), .int .u64 130]) (w.alloc (.cells #[.int .i64 c] 35)) := by kernel_rfl
theorem f_valueOf (c a : Int) (w : World) : (ReflectliteValue.unpack (.iface 96 (.agg #[.int .i64 c, .int .i64 a]))).run Tryd.prog w
    = .ok (.agg #[.pointer (some ⟨3, 96, none⟩), .pointer (some ⟨w.heap.size, 0, none⟩), .int .u64 153]) (w.alloc (.cells #[.int .i64 c, .int .i64 a] 96)) := by kernel_rfl
theorem methodElem (h : Value) (w : World) : (Go.method 270 131 (.agg #[h]) "Elem").run Tryd.prog w = .ok (112, .agg #[h]) w := by kernel_rfl
theorem methodImplements (h : Value) (w : World) : (Go.method 270 131 (.agg #[h]) "Implements").run Tryd.prog w = .ok (113, .agg #[h]) w := by kernel_rfl
theorem methodAssignableTo (h : Value) (w : World) : (Go.method 270 131 (.agg #[h]) "AssignableTo").run Tryd.prog w = .ok (110, .agg #[h]) w := by kernel_rfl
theorem c_implements (w : World) : (ReflectliteType.relation "Implements" ReflectliteType.implements_ #[.agg #[.pointer (some ⟨3, 35, none⟩)], .iface 131 (.agg #[.pointer (some ⟨3, 31, none⟩)])]).run Tryd.prog w = .ok (.bool true) w := by kernel_rfl
theorem f_implements (w : World) : (ReflectliteType.relation "Implements" ReflectliteType.implements_ #[.agg #[.pointer (some ⟨3, 96, none⟩)], .iface 131 (.agg #[.pointer (some ⟨3, 31, none⟩)])]).run Tryd.prog w = .ok (.bool true) w := by kernel_rfl
theorem c_typeOf (v : Value) (w : World) : (ReflectliteType.typeOf #[.iface 35 v]).run Tryd.prog w = .ok (.iface 131 (.agg #[.pointer (some ⟨3, 35, none⟩)])) w := by kernel_rfl
theorem f_typeOf (v : Value) (w : World) : (ReflectliteType.typeOf #[.iface 96 v]).run Tryd.prog w = .ok (.iface 131 (.agg #[.pointer (some ⟨3, 96, none⟩)])) w := by kernel_rfl
theorem cc_assignable (w : World) : (ReflectliteType.relation "AssignableTo" ReflectliteType.assignableTo #[.agg #[.pointer (some ⟨3, 35, none⟩)], .iface 131 (.agg #[.pointer (some ⟨3, 35, none⟩)])]).run Tryd.prog w = .ok (.bool true) w := by kernel_rfl
theorem fc_assignable (w : World) : (ReflectliteType.relation "AssignableTo" ReflectliteType.assignableTo #[.agg #[.pointer (some ⟨3, 96, none⟩)], .iface 131 (.agg #[.pointer (some ⟨3, 35, none⟩)])]).run Tryd.prog w = .ok (.bool false) w := by kernel_rfl
theorem cf_assignable (w : World) : (ReflectliteType.relation "AssignableTo" ReflectliteType.assignableTo #[.agg #[.pointer (some ⟨3, 35, none⟩)], .iface 131 (.agg #[.pointer (some ⟨3, 96, none⟩)])]).run Tryd.prog w = .ok (.bool false) w := by kernel_rfl
theorem ff_assignable (w : World) : (ReflectliteType.relation "AssignableTo" ReflectliteType.assignableTo #[.agg #[.pointer (some ⟨3, 96, none⟩)], .iface 131 (.agg #[.pointer (some ⟨3, 96, none⟩)])]).run Tryd.prog w = .ok (.bool true) w := by kernel_rfl
theorem f_unwrap (v : Value) (w : World) : (Go.method 270 96 v "Unwrap").run Tryd.prog w = .ok (105, v) w := by kernel_rfl

theorem f_valueOfP (t : Addr) (w : World) : (ReflectliteValue.unpack (.iface 99 (.pointer (some t)))).run Tryd.prog w
    = .ok (.agg #[.pointer (some ⟨3, 99, none⟩), .pointer (some ⟨w.heap.size, 0, none⟩), .int .u64 150]) (w.alloc (.cells #[.pointer (some t)] 99)) := by kernel_rfl
theorem f_type (a : Addr) (w : World) : (ReflectliteValue.methodAny (ReflectliteValue.valueError "reflectlite.Value.Type" 0) (fun t _ _ _ => ReflectliteType.toType t) #[.agg #[.pointer (some ⟨3, 99, none⟩), .pointer (some a), .int .u64 150]]).run Tryd.prog w
    = .ok (.iface 131 (.agg #[.pointer (some ⟨3, 99, none⟩)])) w := by kernel_rfl
theorem f_kindP (w : World) : ((ReflectliteType.abiMethod fun t => (fun a : Nat => Value.int IntKind.u8 (a : Int)) <$> Rtype.kind t) #[.pointer (some ⟨3, 99, none⟩)]).run Tryd.prog w = .ok (.int .u8 22) w := by kernel_rfl
theorem f_elem (w : World) : (ReflectliteType.method ReflectliteType.elem #[.agg #[.pointer (some ⟨3, 99, none⟩)]]).run Tryd.prog w = .ok (.iface 131 (.agg #[.pointer (some ⟨3, 96, none⟩)])) w := by kernel_rfl
theorem rlm (z : Sem Value) (f : TypeId → Addr → Nat → Nat → Sem Value) (v : Value) :
    ReflectliteValue.method z f #[v] = (do match ← ReflectliteValue.parts v with | none => z | some (t, a, fl) => f t a fl (fl % 32)) := rfl
theorem c_partsP (a : Addr) (w : World) : (ReflectliteValue.parts (.agg #[.pointer (some ⟨3, 98, none⟩), .pointer (some a), .int .u64 150])).run Tryd.prog w = .ok (some (98, a, 150)) w := by kernel_rfl
theorem f_partsP (a : Addr) (w : World) : (ReflectliteValue.parts (.agg #[.pointer (some ⟨3, 99, none⟩), .pointer (some a), .int .u64 150])).run Tryd.prog w = .ok (some (99, a, 150)) w := by kernel_rfl
theorem c_isNil (a p : Addr) (W : World) (ha : W.cell? a = some (.pointer (some p))) :
    (ReflectliteValue.method (ReflectliteValue.valueError "reflectlite.Value.IsNil" 0) ReflectliteValue.isNil #[.agg #[.pointer (some ⟨3, 98, none⟩), .pointer (some a), .int .u64 150]]).run Tryd.prog W = .ok (.bool false) W := by
  rw [rlm]
  simp only [Sem.run_bind, c_partsP, Result.andThen]
  simp [ReflectliteValue.isNil, loadVar, isAgg, underlying, Tryd.underlying98, ha, Result.andThen]
theorem f_isNil (a p : Addr) (W : World) (ha : W.cell? a = some (.pointer (some p))) :
    (ReflectliteValue.method (ReflectliteValue.valueError "reflectlite.Value.IsNil" 0) ReflectliteValue.isNil #[.agg #[.pointer (some ⟨3, 99, none⟩), .pointer (some a), .int .u64 150]]).run Tryd.prog W = .ok (.bool false) W := by
  rw [rlm]
  simp only [Sem.run_bind, f_partsP, Result.andThen]
  simp [ReflectliteValue.isNil, loadVar, isAgg, underlying, Tryd.underlying99, ha, Result.andThen]
theorem c_elemOf (w : World) : (Rtype.elem? 98).run Tryd.prog w = .ok (some 35) w := by kernel_rfl
theorem f_elemOf (w : World) : (Rtype.elem? 99).run Tryd.prog w = .ok (some 96) w := by kernel_rfl
theorem c_elemV (a p : Addr) (W : World) (ha : W.cell? a = some (.pointer (some p))) :
    (ReflectliteValue.method (ReflectliteValue.valueError "reflectlite.Value.Elem" 0) ReflectliteValue.elem #[.agg #[.pointer (some ⟨3, 98, none⟩), .pointer (some a), .int .u64 150]]).run Tryd.prog W
      = .ok (.agg #[.pointer (some ⟨3, 35, none⟩), .pointer (some p), .int .u64 386]) W := by
  rw [rlm]
  simp only [Sem.run_bind, c_partsP, Result.andThen]
  simp [ReflectliteValue.elem, loadVar, isAgg, underlying, Tryd.underlying98, ha, Result.andThen, c_elemOf, c_mk]
theorem f_elemV (a p : Addr) (W : World) (ha : W.cell? a = some (.pointer (some p))) :
    (ReflectliteValue.method (ReflectliteValue.valueError "reflectlite.Value.Elem" 0) ReflectliteValue.elem #[.agg #[.pointer (some ⟨3, 99, none⟩), .pointer (some a), .int .u64 150]]).run Tryd.prog W
      = .ok (.agg #[.pointer (some ⟨3, 96, none⟩), .pointer (some p), .int .u64 409]) W := by
  rw [rlm]
  simp only [Sem.run_bind, f_partsP, Result.andThen]
  simp [ReflectliteValue.elem, loadVar, isAgg, underlying, Tryd.underlying99, ha, Result.andThen, f_elemOf, f_mk]
theorem rls (v x : Value) : ReflectliteValue.set #[v, x] = (do
    let (some (dst, a, fl), some (src, b, _)) := (← ReflectliteValue.parts v, ← ReflectliteValue.parts x)
      | unsupported (.noEntry "extern/(internal/reflectlite.Value).Set.zeroValue")
    if fl / ReflectliteValue.flagAddr % 2 == 0 then unsupported (.noEntry "extern/(internal/reflectlite.Value).Set.unaddressable")
    let val ← loadVar src b
    if ← Rtype.directlyAssignable dst src then storeVar dst a val
    else if ← Rtype.implements dst src then
      if (← Rtype.kind src) == 20 then
        match val with
        | .nilIface => unsupported (.noEntry "extern/reflectlite: a nil value of one interface type handed on as a value of another")
        | _ => storeVar dst a val
      else storeVar dst a (.iface src val)
    else panicString ("reflectlite.Set: value of type " ++ (← Rtype.spelt src) ++ " is not assignable to type " ++ (← Rtype.spelt dst))
    pure (.tuple #[])) := rfl
theorem c_partsA (a : Addr) (w : World) : (ReflectliteValue.parts (.agg #[.pointer (some ⟨3, 35, none⟩), .pointer (some a), .int .u64 386])).run Tryd.prog w = .ok (some (35, a, 386)) w := by kernel_rfl
theorem c_parts (a : Addr) (w : World) : (ReflectliteValue.parts (.agg #[.pointer (some ⟨3, 35, none⟩), .pointer (some a), .int .u64 130])).run Tryd.prog w = .ok (some (35, a, 130)) w := by kernel_rfl
theorem f_partsA (a : Addr) (w : World) : (ReflectliteValue.parts (.agg #[.pointer (some ⟨3, 96, none⟩), .pointer (some a), .int .u64 409])).run Tryd.prog w = .ok (some (96, a, 409)) w := by kernel_rfl
theorem f_parts (a : Addr) (w : World) : (ReflectliteValue.parts (.agg #[.pointer (some ⟨3, 96, none⟩), .pointer (some a), .int .u64 153])).run Tryd.prog w = .ok (some (96, a, 153)) w := by kernel_rfl
theorem c_direct (w : World) : (Rtype.directlyAssignable 35 35).run Tryd.prog w = .ok true w := by kernel_rfl
theorem f_direct (w : World) : (Rtype.directlyAssignable 96 96).run Tryd.prog w = .ok true w := by kernel_rfl
theorem c_loadVar (a : Addr) (c : Int) (w : World) (h : w.cell? a = some (.int .i64 c)) : (loadVar 35 a).run Tryd.prog w = .ok (.int .i64 c) w := by
  simp [loadVar, isAgg, underlying, Tryd.underlying35, h]
theorem c_set (ta b : Addr) (c : Int) (old : Value) (W : World) (hb : W.cell? b = some (.int .i64 c)) (ht : W.cell? ta = some old) (hf : W.frozen? ta = false) :
    (ReflectliteValue.set #[.agg #[.pointer (some ⟨3, 35, none⟩), .pointer (some ta), .int .u64 386], .agg #[.pointer (some ⟨3, 35, none⟩), .pointer (some b), .int .u64 130]]).run Tryd.prog W
      = .ok (.tuple #[]) (W.setCell ta (.int .i64 c)) := by
  rw [rls]
  simp only [Sem.run_bind, c_partsA, c_parts, Result.andThen]
  simp [ReflectliteValue.flagAddr, c_loadVar b c W hb, Result.andThen, c_direct, storeVar, Value.cells, storeCells, Addr.add]
  rw [run_store Tryd.prog W ta _ _ (by rfl)]
  simp [ht, hf]
theorem f_agg (w : World) : (isAgg 96).run Tryd.prog w = .ok true w := by kernel_rfl
theorem f_info : (Tryd.prog.info? 96).map (·.size) = some 2 := by kernel_rfl
theorem f_loadVar (b : Nat) (c a : Int) (w : World) (h0 : w.cell? ⟨b, 0, none⟩ = some (.int .i64 c)) (h1 : w.cell? ⟨b, 1, none⟩ = some (.int .i64 a)) : (loadVar 96 ⟨b, 0, none⟩).run Tryd.prog w = .ok (.agg #[.int .i64 c, .int .i64 a]) w := by
  obtain ⟨ie, hie, hs⟩ := Option.map_eq_some_iff.1 f_info
  refine Lib.rl_loadVar_cells 96 ie hie f_agg b 0 [.int .i64 c, .int .i64 a] (by rw [hs]; rfl) w ?_
  intro k v h
  match k, h with
  | 0, h => simp at h; subst h; exact h0
  | 1, h => simp at h; subst h; exact h1
theorem f_storeVar (b : Nat) (c a : Int) (o0 o1 : Value) (w : World) (h0 : w.cell? ⟨b, 0, none⟩ = some o0) (h1 : w.cell? ⟨b, 1, none⟩ = some o1) (f0 : w.frozen? ⟨b, 0, none⟩ = false) (f1 : w.frozen? ⟨b, 1, none⟩ = false) :
    (storeVar 96 ⟨b, 0, none⟩ (.agg #[.int .i64 c, .int .i64 a])).run Tryd.prog w = .ok () ((w.setCell ⟨b, 0, none⟩ (.int .i64 c)).setCell ⟨b, 1, none⟩ (.int .i64 a)) := by
  obtain ⟨ie, hie, hs⟩ := Option.map_eq_some_iff.1 f_info
  refine Lib.rl_storeVar_cells 96 ie hie b 0 [.int .i64 c, .int .i64 a] (by rw [hs]; rfl) (by intro v hv; simp at hv; rcases hv with rfl | rfl <;> rfl) w ?_ ?_
  · intro k hk
    match k, hk with
    | 0, _ => simp [h0]
    | 1, _ => simp [h1]
  · intro k hk
    match k, hk with
    | 0, _ => simpa using f0
    | 1, _ => simpa using f1
theorem f_set (t b : Nat) (c a : Int) (o0 o1 : Value) (W : World) (hb0 : W.cell? ⟨b, 0, none⟩ = some (.int .i64 c)) (hb1 : W.cell? ⟨b, 1, none⟩ = some (.int .i64 a)) (ht0 : W.cell? ⟨t, 0, none⟩ = some o0) (ht1 : W.cell? ⟨t, 1, none⟩ = some o1) (hf0 : W.frozen? ⟨t, 0, none⟩ = false) (hf1 : W.frozen? ⟨t, 1, none⟩ = false) :
    (ReflectliteValue.set #[.agg #[.pointer (some ⟨3, 96, none⟩), .pointer (some ⟨t, 0, none⟩), .int .u64 409], .agg #[.pointer (some ⟨3, 96, none⟩), .pointer (some ⟨b, 0, none⟩), .int .u64 153]]).run Tryd.prog W
      = .ok (.tuple #[]) ((W.setCell ⟨t, 0, none⟩ (.int .i64 c)).setCell ⟨t, 1, none⟩ (.int .i64 a)) := by
  rw [rls]
  simp only [Sem.run_bind, f_partsA, f_parts, Result.andThen]
  simp [ReflectliteValue.flagAddr, f_loadVar b c a W hb0 hb1, Result.andThen, f_direct, f_storeVar t c a o0 o1 W ht0 ht1 hf0 hf1]
/-! ### the type assertions of errors.as -/
theorem c_noAs (v : Value) (xT : TypeId) (w : World) : (Instr.typeAssert (.iface 35 v) xT 136 true).run Tryd.prog w = .ok (.tuple #[.nilIface, .bool false]) w := run_typeAssert_lacksB Tryd.underlying136 (by kernel_rfl) (by kernel_rfl) v xT w
theorem f_noAs (v : Value) (xT : TypeId) (w : World) : (Instr.typeAssert (.iface 96 v) xT 136 true).run Tryd.prog w = .ok (.tuple #[.nilIface, .bool false]) w := run_typeAssert_lacksB Tryd.underlying136 (by kernel_rfl) (by kernel_rfl) v xT w
theorem c_noUnwrap (v : Value) (xT : TypeId) (w : World) : (Instr.typeAssert (.iface 35 v) xT 139 true).run Tryd.prog w = .ok (.tuple #[.nilIface, .bool false]) w := run_typeAssert_lacksB Tryd.underlying139 (by kernel_rfl) (by kernel_rfl) v xT w
theorem c_noUnwraps (v : Value) (xT : TypeId) (w : World) : (Instr.typeAssert (.iface 35 v) xT 140 true).run Tryd.prog w = .ok (.tuple #[.nilIface, .bool false]) w := run_typeAssert_lacksB Tryd.underlying140 (by kernel_rfl) (by kernel_rfl) v xT w
theorem f_hasUnwrap (v : Value) (xT : TypeId) (w : World) : (Instr.typeAssert (.iface 96 v) xT 139 true).run Tryd.prog w = .ok (.tuple #[.iface 96 v, .bool true]) w := run_typeAssert_hasB Tryd.underlying139 (by kernel_rfl) v xT w

abbrev wAs (w : World) (p : TypeId) (t : Addr) : World := ((w.alloc (.cells #[.pointer (some t)] p)).alloc (.cells #[.pointer (some ⟨3, p, none⟩), .pointer (some ⟨w.heap.size, 0, none⟩), .int .u64 150] 116)).alloc (.cells #[.pointer (some ⟨3, p, none⟩), .pointer (some ⟨w.heap.size, 0, none⟩), .int .u64 150] 116)
end Go.Proofs.YtipapffpfggmnaaDoor
namespace Go.Proofs.YtipapffpfggmnaaDoor
open Go.RowKit Go.Extern.Stop Go.Stop Go.Extern

theorem fault_Unwrap (c a : Int) (w : World) : Calls Tryd.prog 105 #[.agg #[.int .i64 c, .int .i64 a]] w fun e w' => e = .returned (.iface 35 (.int .i64 c)) ∧ w' = w.alloc (.cells #[.int .i64 c, .int .i64 a] 96) := by
  go_enter Tryd.func105, Tryd.ntmps105
  go_wp2
  go_ret
  exact ⟨rfl, rfl⟩

set_option maxHeartbeats 4000000 in
set_option maxRecDepth 100000 in
theorem as_cc (c : Int) (t : Addr) (old : Value) (w : World) (hg : LaidErr w) (ht0 : w.cell? t = some old) (hf0 : w.frozen? t = false) :
    Calls Tryd.prog 56 #[.iface 35 (.int .i64 c), .iface 98 (.pointer (some t))] w fun ev w' => ev = .returned (.bool true) ∧ w' = ((wAs w 98 t).alloc (.cells #[.int .i64 c] 35)).setCell t (.int .i64 c) := by
  have h6 := @run_callFunc_extern Tryd.prog 68 _ (fun args => ReflectliteValue.unpack (args.getD 0 (.tuple #[]))) Tryd.func68 (by kernel_rfl) (by kernel_rfl) (by kernel_rfl) (by kernel_rfl)
  have h7 := @run_callFunc_extern Tryd.prog 69 _ (ReflectliteValue.methodAny (ReflectliteValue.valueError "reflectlite.Value.Type" 0) (fun t _ _ _ => ReflectliteType.toType t)) Tryd.func69 (by kernel_rfl) (by kernel_rfl) (by kernel_rfl) (by kernel_rfl)
  have h8 := @run_callFunc_extern Tryd.prog 70 _ (ReflectliteValue.method (ReflectliteValue.valueError "reflectlite.Value.IsNil" 0) ReflectliteValue.isNil) Tryd.func70 (by kernel_rfl) (by kernel_rfl) (by kernel_rfl) (by kernel_rfl)
  have h27 := @run_callFunc_extern Tryd.prog 99 _ (ReflectliteType.abiMethod fun t => do pure (.int .u8 (← Rtype.kind t))) Tryd.func99 (by kernel_rfl) (by kernel_rfl) (by kernel_rfl) (by kernel_rfl)
  have h37 := @run_callFunc_extern Tryd.prog 112 _ (ReflectliteType.method ReflectliteType.elem) Tryd.func112 (by kernel_rfl) (by kernel_rfl) (by kernel_rfl) (by kernel_rfl)
  have h38 := @run_callFunc_extern Tryd.prog 113 _ (ReflectliteType.relation "Implements" ReflectliteType.implements_) Tryd.func113 (by kernel_rfl) (by kernel_rfl) (by kernel_rfl) (by kernel_rfl)
  have h10 := @run_callFunc_extern Tryd.prog 79 _ ReflectliteType.typeOf Tryd.func79 (by kernel_rfl) (by kernel_rfl) (by kernel_rfl) (by kernel_rfl)
  have h35 := @run_callFunc_extern Tryd.prog 110 _ (ReflectliteType.relation "AssignableTo" ReflectliteType.assignableTo) Tryd.func110 (by kernel_rfl) (by kernel_rfl) (by kernel_rfl) (by kernel_rfl)
  have h11 := @run_callFunc_extern Tryd.prog 80 _ (ReflectliteValue.method (ReflectliteValue.valueError "reflectlite.Value.Elem" 0) ReflectliteValue.elem) Tryd.func80 (by kernel_rfl) (by kernel_rfl) (by kernel_rfl) (by kernel_rfl)
  have h12 := @run_callFunc_extern Tryd.prog 81 _ ReflectliteValue.set Tryd.func81 (by kernel_rfl) (by kernel_rfl) (by kernel_rfl) (by kernel_rfl)
  have q0 := f_typeOf
  have q1 := c_typeOf
  have q2 := methodAssignableTo
  have q3 := cc_assignable
  have q4 := c_valueOf
  have q5 := c_valueOfP
  have q6 := c_type
  have q7 := methodKind
  have q8 := methodElem
  have q9 := methodImplements
  have q10 := c_kindP
  have q11 := c_kind
  have q12 := c_elem
  have q13 := c_implements
  have n8 := c_isNil ⟨w.heap.size, 0, none⟩ t ((w.alloc (.cells #[.pointer (some t)] 98)).alloc (.cells #[.pointer (some ⟨3, 98, none⟩), .pointer (some ⟨w.heap.size, 0, none⟩), .int .u64 150] 116)) (by simp)
  have hlt : 0 < w.heap.size := World.block_lt_of_cell? w ⟨0, 0, none⟩ hg
  have hg2 : ((w.alloc (.cells #[.pointer (some t)] 98)).alloc (.cells #[.pointer (some ⟨3, 98, none⟩), .pointer (some ⟨w.heap.size, 0, none⟩), .int .u64 150] 116)).cell? ⟨0, 0, none⟩ = some (.iface 131 (.agg #[.pointer (some ⟨3, 31, none⟩)])) := by
    rw [World.cell?_alloc_lt _ _ ⟨_, 0, none⟩ (by simp <;> omega), World.cell?_alloc_lt _ _ ⟨_, 0, none⟩ hlt]; exact hg
  have htl : t.block < w.heap.size := World.block_lt_of_cell? w t ht0
  have el := c_elemV ⟨w.heap.size, 0, none⟩ t (wAs w 98 t) (by rw [World.cell?_alloc_lt _ _ ⟨w.heap.size, 0, none⟩ (by simp; omega)]; simp)
  have st := c_set t ⟨w.heap.size + 1 + 1 + 1, 0, none⟩ c old ((wAs w 98 t).alloc (.cells #[.int .i64 c] 35))
    (by rw [World.cell?_alloc_at _ _ _ _ (by simp)]; rfl)
    (by rw [World.cell?_alloc_lt _ _ t (by simp; omega), World.cell?_alloc_lt _ _ t (by simp; omega), World.cell?_alloc_lt _ _ t (by simp; omega), World.cell?_alloc_lt _ _ t htl]; exact ht0)
    (by rw [World.frozen?_alloc_old _ _ t (by simp; omega), World.frozen?_alloc_old _ _ t (by simp; omega), World.frozen?_alloc_old _ _ t (by simp; omega), World.frozen?_alloc_old _ _ t (Nat.ne_of_lt htl)]; exact hf0)
  clear hg hf0 ht0
  go_enter Tryd.func56, Tryd.ntmps56
  go_wp2
  refine wp_loop_rounds 1 ?_
  rw [rounds_succ]
  go_wp2
  go_ret
  exact ⟨rfl, rfl⟩

set_option maxHeartbeats 4000000 in
set_option maxRecDepth 100000 in
theorem as_ff (c a : Int) (t : Nat) (o0 o1 : Value) (w : World) (hg : LaidErr w) (ht0 : w.cell? ⟨t, 0, none⟩ = some o0) (ht1 : w.cell? ⟨t, 1, none⟩ = some o1) (hf0 : w.frozen? ⟨t, 0, none⟩ = false) (hf1 : w.frozen? ⟨t, 1, none⟩ = false) :
    Calls Tryd.prog 56 #[.iface 96 (.agg #[.int .i64 c, .int .i64 a]), .iface 99 (.pointer (some ⟨t, 0, none⟩))] w fun ev w' => ev = .returned (.bool true) ∧ w' = (((wAs w 99 ⟨t, 0, none⟩).alloc (.cells #[.int .i64 c, .int .i64 a] 96)).setCell ⟨t, 0, none⟩ (.int .i64 c)).setCell ⟨t, 1, none⟩ (.int .i64 a) := by
  have h6 := @run_callFunc_extern Tryd.prog 68 _ (fun args => ReflectliteValue.unpack (args.getD 0 (.tuple #[]))) Tryd.func68 (by kernel_rfl) (by kernel_rfl) (by kernel_rfl) (by kernel_rfl)
  have h7 := @run_callFunc_extern Tryd.prog 69 _ (ReflectliteValue.methodAny (ReflectliteValue.valueError "reflectlite.Value.Type" 0) (fun t _ _ _ => ReflectliteType.toType t)) Tryd.func69 (by kernel_rfl) (by kernel_rfl) (by kernel_rfl) (by kernel_rfl)
  have h8 := @run_callFunc_extern Tryd.prog 70 _ (ReflectliteValue.method (ReflectliteValue.valueError "reflectlite.Value.IsNil" 0) ReflectliteValue.isNil) Tryd.func70 (by kernel_rfl) (by kernel_rfl) (by kernel_rfl) (by kernel_rfl)
  have h27 := @run_callFunc_extern Tryd.prog 99 _ (ReflectliteType.abiMethod fun t => do pure (.int .u8 (← Rtype.kind t))) Tryd.func99 (by kernel_rfl) (by kernel_rfl) (by kernel_rfl) (by kernel_rfl)
  have h37 := @run_callFunc_extern Tryd.prog 112 _ (ReflectliteType.method ReflectliteType.elem) Tryd.func112 (by kernel_rfl) (by kernel_rfl) (by kernel_rfl) (by kernel_rfl)
  have h38 := @run_callFunc_extern Tryd.prog 113 _ (ReflectliteType.relation "Implements" ReflectliteType.implements_) Tryd.func113 (by kernel_rfl) (by kernel_rfl) (by kernel_rfl) (by kernel_rfl)
  have h10 := @run_callFunc_extern Tryd.prog 79 _ ReflectliteType.typeOf Tryd.func79 (by kernel_rfl) (by kernel_rfl) (by kernel_rfl) (by kernel_rfl)
  have h35 := @run_callFunc_extern Tryd.prog 110 _ (ReflectliteType.relation "AssignableTo" ReflectliteType.assignableTo) Tryd.func110 (by kernel_rfl) (by kernel_rfl) (by kernel_rfl) (by kernel_rfl)
  have h11 := @run_callFunc_extern Tryd.prog 80 _ (ReflectliteValue.method (ReflectliteValue.valueError "reflectlite.Value.Elem" 0) ReflectliteValue.elem) Tryd.func80 (by kernel_rfl) (by kernel_rfl) (by kernel_rfl) (by kernel_rfl)
  have h12 := @run_callFunc_extern Tryd.prog 81 _ ReflectliteValue.set Tryd.func81 (by kernel_rfl) (by kernel_rfl) (by kernel_rfl) (by kernel_rfl)
  have q0 := f_typeOf
  have q1 := c_typeOf
  have q2 := methodAssignableTo
  have q3 := ff_assignable
  have q4 := f_valueOf
  have q5 := f_valueOfP
  have q6 := f_type
  have q7 := methodKind
  have q8 := methodElem
  have q9 := methodImplements
  have q10 := f_kindP
  have q11 := f_kind
  have q12 := f_elem
  have q13 := f_implements
  have n8 := f_isNil ⟨w.heap.size, 0, none⟩ ⟨t, 0, none⟩ ((w.alloc (.cells #[.pointer (some ⟨t, 0, none⟩)] 99)).alloc (.cells #[.pointer (some ⟨3, 99, none⟩), .pointer (some ⟨w.heap.size, 0, none⟩), .int .u64 150] 116)) (by simp)
  have hlt : 0 < w.heap.size := World.block_lt_of_cell? w ⟨0, 0, none⟩ hg
  have hg2 : ((w.alloc (.cells #[.pointer (some ⟨t, 0, none⟩)] 99)).alloc (.cells #[.pointer (some ⟨3, 99, none⟩), .pointer (some ⟨w.heap.size, 0, none⟩), .int .u64 150] 116)).cell? ⟨0, 0, none⟩ = some (.iface 131 (.agg #[.pointer (some ⟨3, 31, none⟩)])) := by
    rw [World.cell?_alloc_lt _ _ ⟨_, 0, none⟩ (by simp <;> omega), World.cell?_alloc_lt _ _ ⟨_, 0, none⟩ hlt]; exact hg
  have htl : t < w.heap.size := World.block_lt_of_cell? w ⟨t, 0, none⟩ ht0
  have el := f_elemV ⟨w.heap.size, 0, none⟩ ⟨t, 0, none⟩ (wAs w 99 ⟨t, 0, none⟩) (by rw [World.cell?_alloc_lt _ _ ⟨w.heap.size, 0, none⟩ (by simp; omega)]; simp)
  have st := f_set t (w.heap.size + 1 + 1 + 1) c a o0 o1 ((wAs w 99 ⟨t, 0, none⟩).alloc (.cells #[.int .i64 c, .int .i64 a] 96))
    (by rw [World.cell?_alloc_at _ _ _ _ (by simp)]; rfl)
    (by rw [World.cell?_alloc_at _ _ _ _ (by simp)]; rfl)
    (by rw [World.cell?_alloc_lt _ _ ⟨t, 0, none⟩ (by simp; omega), World.cell?_alloc_lt _ _ ⟨t, 0, none⟩ (by simp; omega), World.cell?_alloc_lt _ _ ⟨t, 0, none⟩ (by simp; omega), World.cell?_alloc_lt _ _ ⟨t, 0, none⟩ htl]; exact ht0)
    (by rw [World.cell?_alloc_lt _ _ ⟨t, 1, none⟩ (by simp; omega), World.cell?_alloc_lt _ _ ⟨t, 1, none⟩ (by simp; omega), World.cell?_alloc_lt _ _ ⟨t, 1, none⟩ (by simp; omega), World.cell?_alloc_lt _ _ ⟨t, 1, none⟩ htl]; exact ht1)
    (by rw [World.frozen?_alloc_old _ _ ⟨t, 0, none⟩ (by simp; omega), World.frozen?_alloc_old _ _ ⟨t, 0, none⟩ (by simp; omega), World.frozen?_alloc_old _ _ ⟨t, 0, none⟩ (by simp; omega), World.frozen?_alloc_old _ _ ⟨t, 0, none⟩ (Nat.ne_of_lt htl)]; exact hf0)
    (by rw [World.frozen?_alloc_old _ _ ⟨t, 1, none⟩ (by simp; omega), World.frozen?_alloc_old _ _ ⟨t, 1, none⟩ (by simp; omega), World.frozen?_alloc_old _ _ ⟨t, 1, none⟩ (by simp; omega), World.frozen?_alloc_old _ _ ⟨t, 1, none⟩ (Nat.ne_of_lt htl)]; exact hf1)
  clear hg hf0 ht0 hf1 ht1
  go_enter Tryd.func56, Tryd.ntmps56
  go_wp2
  refine wp_loop_rounds 1 ?_
  rw [rounds_succ]
  go_wp2
  go_ret
  exact ⟨rfl, rfl⟩

set_option maxHeartbeats 4000000 in
set_option maxRecDepth 100000 in
theorem as_cf (c : Int) (t : Nat) (w : World) (hg : LaidErr w) :
    Calls Tryd.prog 56 #[.iface 35 (.int .i64 c), .iface 99 (.pointer (some ⟨t, 0, none⟩))] w fun ev w' => ev = .returned (.bool false) ∧ w' = (wAs w 99 ⟨t, 0, none⟩) := by
  have h6 := @run_callFunc_extern Tryd.prog 68 _ (fun args => ReflectliteValue.unpack (args.getD 0 (.tuple #[]))) Tryd.func68 (by kernel_rfl) (by kernel_rfl) (by kernel_rfl) (by kernel_rfl)
  have h7 := @run_callFunc_extern Tryd.prog 69 _ (ReflectliteValue.methodAny (ReflectliteValue.valueError "reflectlite.Value.Type" 0) (fun t _ _ _ => ReflectliteType.toType t)) Tryd.func69 (by kernel_rfl) (by kernel_rfl) (by kernel_rfl) (by kernel_rfl)
  have h8 := @run_callFunc_extern Tryd.prog 70 _ (ReflectliteValue.method (ReflectliteValue.valueError "reflectlite.Value.IsNil" 0) ReflectliteValue.isNil) Tryd.func70 (by kernel_rfl) (by kernel_rfl) (by kernel_rfl) (by kernel_rfl)
  have h27 := @run_callFunc_extern Tryd.prog 99 _ (ReflectliteType.abiMethod fun t => do pure (.int .u8 (← Rtype.kind t))) Tryd.func99 (by kernel_rfl) (by kernel_rfl) (by kernel_rfl) (by kernel_rfl)
  have h37 := @run_callFunc_extern Tryd.prog 112 _ (ReflectliteType.method ReflectliteType.elem) Tryd.func112 (by kernel_rfl) (by kernel_rfl) (by kernel_rfl) (by kernel_rfl)
  have h38 := @run_callFunc_extern Tryd.prog 113 _ (ReflectliteType.relation "Implements" ReflectliteType.implements_) Tryd.func113 (by kernel_rfl) (by kernel_rfl) (by kernel_rfl) (by kernel_rfl)
  have h10 := @run_callFunc_extern Tryd.prog 79 _ ReflectliteType.typeOf Tryd.func79 (by kernel_rfl) (by kernel_rfl) (by kernel_rfl) (by kernel_rfl)
  have h35 := @run_callFunc_extern Tryd.prog 110 _ (ReflectliteType.relation "AssignableTo" ReflectliteType.assignableTo) Tryd.func110 (by kernel_rfl) (by kernel_rfl) (by kernel_rfl) (by kernel_rfl)
  have h11 := @run_callFunc_extern Tryd.prog 80 _ (ReflectliteValue.method (ReflectliteValue.valueError "reflectlite.Value.Elem" 0) ReflectliteValue.elem) Tryd.func80 (by kernel_rfl) (by kernel_rfl) (by kernel_rfl) (by kernel_rfl)
  have h12 := @run_callFunc_extern Tryd.prog 81 _ ReflectliteValue.set Tryd.func81 (by kernel_rfl) (by kernel_rfl) (by kernel_rfl) (by kernel_rfl)
  have q0 := f_typeOf
  have q1 := c_typeOf
  have q2 := methodAssignableTo
  have q3 := cf_assignable
  have q4 := f_valueOf
  have q5 := f_valueOfP
  have q6 := f_type
  have q7 := methodKind
  have q8 := methodElem
  have q9 := methodImplements
  have q10 := f_kindP
  have q11 := f_kind
  have q12 := f_elem
  have q13 := f_implements
  have q14 := c_noAs
  have q15 := c_noUnwrap
  have q16 := c_noUnwraps
  have n8 := f_isNil ⟨w.heap.size, 0, none⟩ ⟨t, 0, none⟩ ((w.alloc (.cells #[.pointer (some ⟨t, 0, none⟩)] 99)).alloc (.cells #[.pointer (some ⟨3, 99, none⟩), .pointer (some ⟨w.heap.size, 0, none⟩), .int .u64 150] 116)) (by simp)
  have hlt : 0 < w.heap.size := World.block_lt_of_cell? w ⟨0, 0, none⟩ hg
  have hg2 : ((w.alloc (.cells #[.pointer (some ⟨t, 0, none⟩)] 99)).alloc (.cells #[.pointer (some ⟨3, 99, none⟩), .pointer (some ⟨w.heap.size, 0, none⟩), .int .u64 150] 116)).cell? ⟨0, 0, none⟩ = some (.iface 131 (.agg #[.pointer (some ⟨3, 31, none⟩)])) := by
    rw [World.cell?_alloc_lt _ _ ⟨_, 0, none⟩ (by simp <;> omega), World.cell?_alloc_lt _ _ ⟨_, 0, none⟩ hlt]; exact hg
  clear hg
  go_enter Tryd.func56, Tryd.ntmps56
  go_wp2
  refine wp_loop_rounds 1 ?_
  rw [rounds_succ]
  go_wp2
  go_ret
  exact ⟨rfl, rfl⟩

set_option maxHeartbeats 4000000 in
set_option maxRecDepth 100000 in
theorem as_fc (c a : Int) (t : Addr) (old : Value) (w : World) (hg : LaidErr w) (ht0 : w.cell? t = some old) (hf0 : w.frozen? t = false) :
    Calls Tryd.prog 56 #[.iface 96 (.agg #[.int .i64 c, .int .i64 a]), .iface 98 (.pointer (some t))] w fun ev w' => ev = .returned (.bool true) ∧ w' = (((wAs w 98 t).alloc (.cells #[.int .i64 c, .int .i64 a] 96)).alloc (.cells #[.int .i64 c] 35)).setCell t (.int .i64 c) := by
  have h6 := @run_callFunc_extern Tryd.prog 68 _ (fun args => ReflectliteValue.unpack (args.getD 0 (.tuple #[]))) Tryd.func68 (by kernel_rfl) (by kernel_rfl) (by kernel_rfl) (by kernel_rfl)
  have h7 := @run_callFunc_extern Tryd.prog 69 _ (ReflectliteValue.methodAny (ReflectliteValue.valueError "reflectlite.Value.Type" 0) (fun t _ _ _ => ReflectliteType.toType t)) Tryd.func69 (by kernel_rfl) (by kernel_rfl) (by kernel_rfl) (by kernel_rfl)
  have h8 := @run_callFunc_extern Tryd.prog 70 _ (ReflectliteValue.method (ReflectliteValue.valueError "reflectlite.Value.IsNil" 0) ReflectliteValue.isNil) Tryd.func70 (by kernel_rfl) (by kernel_rfl) (by kernel_rfl) (by kernel_rfl)
  have h27 := @run_callFunc_extern Tryd.prog 99 _ (ReflectliteType.abiMethod fun t => do pure (.int .u8 (← Rtype.kind t))) Tryd.func99 (by kernel_rfl) (by kernel_rfl) (by kernel_rfl) (by kernel_rfl)
  have h37 := @run_callFunc_extern Tryd.prog 112 _ (ReflectliteType.method ReflectliteType.elem) Tryd.func112 (by kernel_rfl) (by kernel_rfl) (by kernel_rfl) (by kernel_rfl)
  have h38 := @run_callFunc_extern Tryd.prog 113 _ (ReflectliteType.relation "Implements" ReflectliteType.implements_) Tryd.func113 (by kernel_rfl) (by kernel_rfl) (by kernel_rfl) (by kernel_rfl)
  have h10 := @run_callFunc_extern Tryd.prog 79 _ ReflectliteType.typeOf Tryd.func79 (by kernel_rfl) (by kernel_rfl) (by kernel_rfl) (by kernel_rfl)
  have h35 := @run_callFunc_extern Tryd.prog 110 _ (ReflectliteType.relation "AssignableTo" ReflectliteType.assignableTo) Tryd.func110 (by kernel_rfl) (by kernel_rfl) (by kernel_rfl) (by kernel_rfl)
  have h11 := @run_callFunc_extern Tryd.prog 80 _ (ReflectliteValue.method (ReflectliteValue.valueError "reflectlite.Value.Elem" 0) ReflectliteValue.elem) Tryd.func80 (by kernel_rfl) (by kernel_rfl) (by kernel_rfl) (by kernel_rfl)
  have h12 := @run_callFunc_extern Tryd.prog 81 _ ReflectliteValue.set Tryd.func81 (by kernel_rfl) (by kernel_rfl) (by kernel_rfl) (by kernel_rfl)
  have q0 := f_typeOf
  have q1 := c_typeOf
  have q2 := methodAssignableTo
  have q3 := fc_assignable
  have q4 := cc_assignable
  have q5 := c_valueOf
  have q6 := c_valueOfP
  have q7 := c_type
  have q8 := methodKind
  have q9 := methodElem
  have q10 := methodImplements
  have q11 := c_kindP
  have q12 := c_kind
  have q13 := c_elem
  have q14 := c_implements
  have q15 := f_noAs
  have q16 := f_hasUnwrap
  have q17 := f_unwrap
  have n8 := c_isNil ⟨w.heap.size, 0, none⟩ t ((w.alloc (.cells #[.pointer (some t)] 98)).alloc (.cells #[.pointer (some ⟨3, 98, none⟩), .pointer (some ⟨w.heap.size, 0, none⟩), .int .u64 150] 116)) (by simp)
  have hlt : 0 < w.heap.size := World.block_lt_of_cell? w ⟨0, 0, none⟩ hg
  have hg2 : ((w.alloc (.cells #[.pointer (some t)] 98)).alloc (.cells #[.pointer (some ⟨3, 98, none⟩), .pointer (some ⟨w.heap.size, 0, none⟩), .int .u64 150] 116)).cell? ⟨0, 0, none⟩ = some (.iface 131 (.agg #[.pointer (some ⟨3, 31, none⟩)])) := by
    rw [World.cell?_alloc_lt _ _ ⟨_, 0, none⟩ (by simp <;> omega), World.cell?_alloc_lt _ _ ⟨_, 0, none⟩ hlt]; exact hg
  have htl : t.block < w.heap.size := World.block_lt_of_cell? w t ht0
  have el := c_elemV ⟨w.heap.size, 0, none⟩ t ((wAs w 98 t).alloc (.cells #[.int .i64 c, .int .i64 a] 96)) (by rw [World.cell?_alloc_lt _ _ ⟨w.heap.size, 0, none⟩ (by simp; omega), World.cell?_alloc_lt _ _ ⟨w.heap.size, 0, none⟩ (by simp; omega)]; simp)
  have st := c_set t ⟨w.heap.size + 1 + 1 + 1 + 1, 0, none⟩ c old (((wAs w 98 t).alloc (.cells #[.int .i64 c, .int .i64 a] 96)).alloc (.cells #[.int .i64 c] 35))
    (by rw [World.cell?_alloc_at _ _ _ _ (by simp)]; rfl)
    (by rw [World.cell?_alloc_lt _ _ t (by simp; omega), World.cell?_alloc_lt _ _ t (by simp; omega), World.cell?_alloc_lt _ _ t (by simp; omega), World.cell?_alloc_lt _ _ t (by simp; omega), World.cell?_alloc_lt _ _ t htl]; exact ht0)
    (by rw [World.frozen?_alloc_old _ _ t (by simp; omega), World.frozen?_alloc_old _ _ t (by simp; omega), World.frozen?_alloc_old _ _ t (by simp; omega), World.frozen?_alloc_old _ _ t (by simp; omega), World.frozen?_alloc_old _ _ t (Nat.ne_of_lt htl)]; exact hf0)
  clear hg hf0 ht0
  go_enter Tryd.func56, Tryd.ntmps56
  go_wp2
  refine wp_loop_rounds 2 ?_
  rw [rounds_succ]
  go_wp2_with (first | (go_at_call 105; refine (fault_Unwrap c a _).mono ?_; rintro e w' ⟨rfl, rfl⟩) | go_in)
  rw [rounds_succ]
  go_wp2
  go_ret
  exact ⟨rfl, rfl⟩

/-! ### errors as values: nil, a code, a fault -/
/-- An error: none, an api.Code, or an api.Fault. -/
inductive Er where
  | nil : Er
  | code : Int → Er
  | fault : Int → Int → Er
def erW : Er → Value
  | .nil => .nilIface
  | .code c => .iface 35 (.int .i64 c)
  | .fault c a => .iface 96 (.agg #[.int .i64 c, .int .i64 a])
def Er.c : Er → Int
  | .nil => 0
  | .code c => c
  | .fault c _ => c
def Er.ok : Er → Bool
  | .nil => false
  | _ => true
def Er.a : Er → Int
  | .fault _ a => a
  | _ => 0
def Er.isAt : Er → Bool
  | .fault _ _ => true
  | _ => false
theorem LaidErr.below {w w' : World} (h : LaidErr w) (hb : Below w.heap.size w w') : LaidErr w' := by
  have h' : w.cell? ⟨0, 0, none⟩ = _ := h
  exact (hb.cell (World.block_lt_of_cell? w _ h')).trans h'

theorem fault_New (c a : Int) (w : World) : Calls Tryd.prog 35 #[.int .i64 c, .int .i64 a] w fun e w' => e = .returned (erW (.fault c a)) ∧ w = w' := by
  go_enter Tryd.func35, Tryd.ntmps35
  go_wp2
  go_ret
  exact ⟨rfl, rfl⟩

theorem laidErr_alloc {w : World} (h : LaidErr w) (o : Obj) : LaidErr (w.alloc o) := h.below ((Below.refl _ _).alloc (Nat.le_refl _) _)

set_option maxHeartbeats 4000000 in
set_option maxRecDepth 100000 in
theorem fault_Code (e : Er) (w : World) (hg : LaidErr w) : Calls Tryd.prog 39 #[erW e] w fun ev w' => ev = .returned (.tuple #[.int .i64 e.c, .bool e.ok]) ∧ Below w.heap.size w w' := by
  have hg1 := laidErr_alloc hg (.cells #[.int .i64 0] 35)
  have ht : (w.alloc (.cells #[.int .i64 0] 35)).cell? ⟨w.heap.size, 0, none⟩ = some (.int .i64 0) := by simp
  have hf : (w.alloc (.cells #[.int .i64 0] 35)).frozen? ⟨w.heap.size, 0, none⟩ = false := by simp
  have hB : Below w.heap.size w (w.alloc (.cells #[.int .i64 0] 35)) := (Below.refl _ _).alloc (Nat.le_refl _) _
  cases e with
  | nil =>
    go_enter Tryd.func39, Tryd.ntmps39
    go_wp2_with (go_at_call 56; refine (as_nil _ _).mono ?_; rintro e w' ⟨rfl, rfl⟩)
    go_ret2
    exact ⟨rfl, hB⟩
  | code c =>
    go_enter Tryd.func39, Tryd.ntmps39
    go_wp2_with (go_at_call 56; refine (as_cc c _ _ _ hg1 ht hf).mono ?_; rintro e w' ⟨rfl, rfl⟩)
    go_ret2
    exact ⟨rfl, by (repeat' (first | exact Below.refl _ _ | refine Below.setCell ?_ ?_ _ | refine Below.alloc ?_ ?_ _)) <;> simp <;> omega⟩
  | fault c a =>
    go_enter Tryd.func39, Tryd.ntmps39
    go_wp2_with (go_at_call 56; refine (as_fc c a _ _ _ hg1 ht hf).mono ?_; rintro e w' ⟨rfl, rfl⟩)
    go_ret2
    exact ⟨rfl, by (repeat' (first | exact Below.refl _ _ | refine Below.setCell ?_ ?_ _ | refine Below.alloc ?_ ?_ _)) <;> simp <;> omega⟩

set_option maxHeartbeats 4000000 in
set_option maxRecDepth 100000 in
theorem fault_At (e : Er) (w : World) (hg : LaidErr w) : Calls Tryd.prog 40 #[erW e] w fun ev w' => ev = .returned (.tuple #[.int .i64 e.a, .bool e.isAt]) ∧ Below w.heap.size w w' := by
  have hg1 := laidErr_alloc hg (.cells #[.int .i64 0, .int .i64 0] 96)
  have ht : (w.alloc (.cells #[.int .i64 0, .int .i64 0] 96)).cell? ⟨w.heap.size, 0, none⟩ = some (.int .i64 0) := by simp
  have ht1 : (w.alloc (.cells #[.int .i64 0, .int .i64 0] 96)).cell? ⟨w.heap.size, 1, none⟩ = some (.int .i64 0) := by simp
  have hf : (w.alloc (.cells #[.int .i64 0, .int .i64 0] 96)).frozen? ⟨w.heap.size, 0, none⟩ = false := by simp
  have hf1 : (w.alloc (.cells #[.int .i64 0, .int .i64 0] 96)).frozen? ⟨w.heap.size, 1, none⟩ = false := by simp
  have hB : Below w.heap.size w (w.alloc (.cells #[.int .i64 0, .int .i64 0] 96)) := (Below.refl _ _).alloc (Nat.le_refl _) _
  cases e with
  | nil =>
    go_enter Tryd.func40, Tryd.ntmps40
    go_wp2_with (go_at_call 56; refine (as_nil _ _).mono ?_; rintro e w' ⟨rfl, rfl⟩)
    go_ret2
    exact ⟨rfl, hB⟩
  | code c =>
    go_enter Tryd.func40, Tryd.ntmps40
    go_wp2_with (go_at_call 56; refine (as_cf c _ _ hg1).mono ?_; rintro e w' ⟨rfl, rfl⟩)
    go_ret2
    exact ⟨rfl, by (repeat' (first | exact Below.refl _ _ | refine Below.setCell ?_ ?_ _ | refine Below.alloc ?_ ?_ _)) <;> simp <;> omega⟩
  | fault c a =>
    go_enter Tryd.func40, Tryd.ntmps40
    go_wp2_with (go_at_call 56; refine (as_ff c a _ _ _ _ hg1 ht ht1 hf hf1).mono ?_; rintro e w' ⟨rfl, rfl⟩)
    go_ret2
    exact ⟨rfl, by (repeat' (first | exact Below.refl _ _ | refine Below.setCell ?_ ?_ _ | refine Below.alloc ?_ ?_ _)) <;> simp <;> omega⟩
end Go.Proofs.YtipapffpfggmnaaDoor
namespace Go.Proofs.YtipapffpfggmnaaDoor
open Go.RowKit
set_option linter.unusedVariables false

theorem ret_bool {a b : Bool} (h : a = b) : Ending.returned (.bool a) = .returned (.bool b) := by rw [h]
/-- Does an error have a code and an offset? (0: it is none.) -/
def toldB (er : Er) (c a : Int) : Bool := if c = 0 then !er.ok else er.ok && (decide (er.c = c) && (er.isAt && decide (er.a = a)))
structure BoolPost (w : World) (b : Bool) (e : Ending) (w' : World) : Prop where
  out : e = .returned (.bool b) ∧ Below w.heap.size w w'
theorem er_nil_eq (er : Er) : erW er = .nilIface ↔ er.ok = false := by cases er <;> simp [erW, Er.ok]

set_option maxHeartbeats 2000000 in
theorem told_any (er : Er) (c a : Int) (w : World) (hL : LaidErr w) :
    Calls Tryd.prog 18 #[erW er, .int .i64 c, .int .i64 a] w (BoolPost w (toldB er c a)) := by
  by_cases hc : c = 0
  · have hc1 : (c == 0) = true := by rw [hc]; rfl
    have HC := Lib.hid hc
    clear hc
    cases er with
    | nil =>
      show Calls Tryd.prog 18 #[.nilIface, .int .i64 c, .int .i64 a] w (BoolPost w (toldB .nil c a))
      go_enter Tryd.func18, Tryd.ntmps18
      go_wp2_with fail
      go_ret
      exact ⟨ret_bool (by rw [toldB, if_pos HC.out]; rfl), Below.refl _ _⟩
    | code c1 =>
      show Calls Tryd.prog 18 #[.iface 35 (.int .i64 c1), .int .i64 c, .int .i64 a] w (BoolPost w (toldB (.code c1) c a))
      go_enter Tryd.func18, Tryd.ntmps18
      go_wp2_with fail
      go_ret
      exact ⟨ret_bool (by rw [toldB, if_pos HC.out]; rfl), Below.refl _ _⟩
    | fault c1 a1 =>
      show Calls Tryd.prog 18 #[.iface 96 (.agg #[.int .i64 c1, .int .i64 a1]), .int .i64 c, .int .i64 a] w (BoolPost w (toldB (.fault c1 a1) c a))
      go_enter Tryd.func18, Tryd.ntmps18
      go_wp2_with fail
      go_ret
      exact ⟨ret_bool (by rw [toldB, if_pos HC.out]; rfl), Below.refl _ _⟩
  · have hc1 : (c == 0) = false := by simpa using hc
    have HC := Lib.hid hc
    clear hc
    go_enter Tryd.func18, Tryd.ntmps18
    go_wp2_with fail
    refine (fault_Code er _ hL).mono ?_
    rintro e1 w1 ⟨rfl, hb1⟩
    have HB1 := Lib.hid hb1
    have hL1 := hL.below hb1
    clear hb1
    go_wp2_with fail
    refine (fault_At er _ hL1).mono ?_
    rintro e2 w2 ⟨rfl, hb2⟩
    have HB2 := Lib.hid hb2
    clear hb2 hL1
    have hbf : Below w.heap.size w w2 := HB1.out.trans (HB2.out.mono HB1.out.size)
    have HBF := Lib.hid hbf
    clear hbf hL
    go_wp2_with fail
    all_goals go_ret
    all_goals refine ⟨ret_bool ?_, HBF.out⟩
    all_goals rw [toldB, if_neg HC.out]
    all_goals rw [Bool.eq_iff_iff]
    all_goals simp [*]
end Go.Proofs.YtipapffpfggmnaaDoor
