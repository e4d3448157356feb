import Derived.Test.YtkhdbolnhcfgkaaGreatDoorJ11
import Derived.LaidEql
import Derived.Stop.Asserts
import Derived.RowKitTokens
import Derived.Maps.OwnSet
import Derived.Test.YtkhdbolnhcfgkaaGreatDoorCards
import Derived.Test.YtkhdbolnhcfgkaaGreatDoorTie
import Derived.SliceStrings
import Derived.SizedLaws
import Derived.ProofKit
import Derived.OpenShut
import Derived.Deep.DeepHandedRow
import Derived.Deep.DeepWitnessRowRef
import Derived.Lib.LaidU8
import Derived.Lib.LaidIn
import Derived.LaidHandle
import Derived.LaidLaws
import Derived.PinnedBridge

/- errors.As at the program's two kinds of errors, and at its two targets (after the kit's worked text ToyasAs). -/
namespace Go.Proofs.YtkhdbolnhcfgkaaGreatDoor
open Go Go.RowKit Go.Extern.Stop Go.Stop Go.Extern
set_option maxRecDepth 10000

/-- a type's handle -/
abbrev hdl (t : Nat) : Value := .pointer (some ⟨10, t, none⟩)

theorem as_nil (t : Value) (w : World) : Calls Tryz.prog 31 #[.nilIface, t] w fun e w' => e = .returned (.bool false) ∧ w = w' := by
  go_enter Tryz.func31, Tryz.ntmps31
  go_wp2
  go_ret
  exact ⟨rfl, rfl⟩

theorem rlm (z : Sem Value) (f : TypeId → Addr → Nat → Nat → Sem Value) (v : Value) :
    ReflectliteValue.method z f #[v] = (do match ← ReflectliteValue.parts v with | none => z | some (t, a, fl) => f t a fl (fl % 32)) := rfl
theorem rls (v x : Value) : ReflectliteValue.set #[v, x] = (do
    let (some (dst, a, fl), some (src, b, _)) := (← ReflectliteValue.parts v, ← ReflectliteValue.parts x)
      | unsupported (.noEntry "extern/(internal/reflectlite.Value).Set.zeroValue")
    if fl / ReflectliteValue.flagAddr % 2 == 0 then unsupported (.noEntry "extern/(internal/reflectlite.Value).Set.unaddressable")
    let val ← loadVar src b
    if ← Rtype.directlyAssignable dst src then storeVar dst a val
    else if ← Rtype.implements dst src then
      if (← Rtype.kind src) == 20 then
        match val with
        | .nilIface => unsupported (.noEntry "extern/reflectlite: a nil value of one interface type handed on as a value of another")
        | _ => storeVar dst a val
      else storeVar dst a (.iface src val)
    else panicString ("reflectlite.Set: value of type " ++ (← Rtype.spelt src) ++ " is not assignable to type " ++ (← Rtype.spelt dst))
    pure (.tuple #[])) := rfl


theorem methodKind (h : Value) (w : World) : (Go.method 353 135 (.agg #[h]) "Kind").run Tryz.prog w = .ok (161, h) w := by kernel_rfl
theorem methodElem (h : Value) (w : World) : (Go.method 353 135 (.agg #[h]) "Elem").run Tryz.prog w = .ok (174, .agg #[h]) w := by kernel_rfl
theorem methodImplements (h : Value) (w : World) : (Go.method 353 135 (.agg #[h]) "Implements").run Tryz.prog w = .ok (175, .agg #[h]) w := by kernel_rfl
theorem methodAssignableTo (h : Value) (w : World) : (Go.method 353 135 (.agg #[h]) "AssignableTo").run Tryz.prog w = .ok (172, .agg #[h]) w := by kernel_rfl

theorem valueOf_f (t : Addr) (w : World) : (ReflectliteValue.unpack (.iface 80 (.pointer (some t)))).run Tryz.prog w
    = .ok (.agg #[hdl 80, .pointer (some ⟨w.heap.size, 0, none⟩), .int .u64 150]) (w.alloc (.cells #[.pointer (some t)] 80)) := by kernel_rfl
theorem type_f (a : Addr) (w : World) : (ReflectliteValue.methodAny (ReflectliteValue.valueError "reflectlite.Value.Type" 0) (fun t _ _ _ => ReflectliteType.toType t) #[.agg #[hdl 80, .pointer (some a), .int .u64 150]]).run Tryz.prog w
    = .ok (.iface 135 (.agg #[hdl 80])) w := by kernel_rfl
theorem kindP_f (w : World) : ((ReflectliteType.abiMethod fun t => (fun a : Nat => Value.int IntKind.u8 (a : Int)) <$> Rtype.kind t) #[hdl 80]).run Tryz.prog w = .ok (.int .u8 22) w := by kernel_rfl
theorem kindT_f (w : World) : ((ReflectliteType.abiMethod fun t => (fun a : Nat => Value.int IntKind.u8 (a : Int)) <$> Rtype.kind t) #[hdl 78]).run Tryz.prog w = .ok (.int .u8 22) w := by kernel_rfl
theorem parts_f (a : Addr) (w : World) : (ReflectliteValue.parts (.agg #[hdl 80, .pointer (some a), .int .u64 150])).run Tryz.prog w = .ok (some (80, a, 150)) w := by kernel_rfl
theorem isNil_f (a p : Addr) (W : World) (ha : W.cell? a = some (.pointer (some p))) :
    (ReflectliteValue.method (ReflectliteValue.valueError "reflectlite.Value.IsNil" 0) ReflectliteValue.isNil #[.agg #[hdl 80, .pointer (some a), .int .u64 150]]).run Tryz.prog W = .ok (.bool false) W := by
  rw [rlm]
  simp only [Sem.run_bind, parts_f, Result.andThen]
  simp [ReflectliteValue.isNil, loadVar, isAgg, underlying, Tryz.underlying80, ha, Result.andThen]
theorem elem_f (w : World) : (ReflectliteType.method ReflectliteType.elem #[.agg #[hdl 80]]).run Tryz.prog w = .ok (.iface 135 (.agg #[hdl 78])) w := by kernel_rfl
theorem impl_f (w : World) : (ReflectliteType.relation "Implements" ReflectliteType.implements_ #[.agg #[hdl 78], .iface 135 (.agg #[hdl 49])]).run Tryz.prog w = .ok (.bool true) w := by kernel_rfl
theorem elemOf_f (w : World) : (Rtype.elem? 80).run Tryz.prog w = .ok (some 78) w := by kernel_rfl
theorem mk_f (p : Addr) (w : World) : (ReflectliteValue.mk 78 p ReflectliteValue.flagAddr).run Tryz.prog w = .ok (.agg #[hdl 78, .pointer (some p), .int .u64 406]) w := by kernel_rfl
theorem elemV_f (a p : Addr) (W : World) (ha : W.cell? a = some (.pointer (some p))) :
    (ReflectliteValue.method (ReflectliteValue.valueError "reflectlite.Value.Elem" 0) ReflectliteValue.elem #[.agg #[hdl 80, .pointer (some a), .int .u64 150]]).run Tryz.prog W
      = .ok (.agg #[hdl 78, .pointer (some p), .int .u64 406]) W := by
  rw [rlm]
  simp only [Sem.run_bind, parts_f, Result.andThen]
  simp [ReflectliteValue.elem, loadVar, isAgg, underlying, Tryz.underlying80, ha, Result.andThen, elemOf_f, mk_f]
theorem partsT_f (a : Addr) (w : World) : (ReflectliteValue.parts (.agg #[hdl 78, .pointer (some a), .int .u64 406])).run Tryz.prog w = .ok (some (78, a, 406)) w := by kernel_rfl

theorem valueOf_n (t : Addr) (w : World) : (ReflectliteValue.unpack (.iface 83 (.pointer (some t)))).run Tryz.prog w
    = .ok (.agg #[hdl 83, .pointer (some ⟨w.heap.size, 0, none⟩), .int .u64 150]) (w.alloc (.cells #[.pointer (some t)] 83)) := by kernel_rfl
theorem type_n (a : Addr) (w : World) : (ReflectliteValue.methodAny (ReflectliteValue.valueError "reflectlite.Value.Type" 0) (fun t _ _ _ => ReflectliteType.toType t) #[.agg #[hdl 83, .pointer (some a), .int .u64 150]]).run Tryz.prog w
    = .ok (.iface 135 (.agg #[hdl 83])) w := by kernel_rfl
theorem kindP_n (w : World) : ((ReflectliteType.abiMethod fun t => (fun a : Nat => Value.int IntKind.u8 (a : Int)) <$> Rtype.kind t) #[hdl 83]).run Tryz.prog w = .ok (.int .u8 22) w := by kernel_rfl
theorem kindT_n (w : World) : ((ReflectliteType.abiMethod fun t => (fun a : Nat => Value.int IntKind.u8 (a : Int)) <$> Rtype.kind t) #[hdl 33]).run Tryz.prog w = .ok (.int .u8 2) w := by kernel_rfl
theorem parts_n (a : Addr) (w : World) : (ReflectliteValue.parts (.agg #[hdl 83, .pointer (some a), .int .u64 150])).run Tryz.prog w = .ok (some (83, a, 150)) w := by kernel_rfl
theorem isNil_n (a p : Addr) (W : World) (ha : W.cell? a = some (.pointer (some p))) :
    (ReflectliteValue.method (ReflectliteValue.valueError "reflectlite.Value.IsNil" 0) ReflectliteValue.isNil #[.agg #[hdl 83, .pointer (some a), .int .u64 150]]).run Tryz.prog W = .ok (.bool false) W := by
  rw [rlm]
  simp only [Sem.run_bind, parts_n, Result.andThen]
  simp [ReflectliteValue.isNil, loadVar, isAgg, underlying, Tryz.underlying83, ha, Result.andThen]
theorem elem_n (w : World) : (ReflectliteType.method ReflectliteType.elem #[.agg #[hdl 83]]).run Tryz.prog w = .ok (.iface 135 (.agg #[hdl 33])) w := by kernel_rfl
theorem impl_n (w : World) : (ReflectliteType.relation "Implements" ReflectliteType.implements_ #[.agg #[hdl 33], .iface 135 (.agg #[hdl 49])]).run Tryz.prog w = .ok (.bool true) w := by kernel_rfl
theorem elemOf_n (w : World) : (Rtype.elem? 83).run Tryz.prog w = .ok (some 33) w := by kernel_rfl
theorem mk_n (p : Addr) (w : World) : (ReflectliteValue.mk 33 p ReflectliteValue.flagAddr).run Tryz.prog w = .ok (.agg #[hdl 33, .pointer (some p), .int .u64 386]) w := by kernel_rfl
theorem elemV_n (a p : Addr) (W : World) (ha : W.cell? a = some (.pointer (some p))) :
    (ReflectliteValue.method (ReflectliteValue.valueError "reflectlite.Value.Elem" 0) ReflectliteValue.elem #[.agg #[hdl 83, .pointer (some a), .int .u64 150]]).run Tryz.prog W
      = .ok (.agg #[hdl 33, .pointer (some p), .int .u64 386]) W := by
  rw [rlm]
  simp only [Sem.run_bind, parts_n, Result.andThen]
  simp [ReflectliteValue.elem, loadVar, isAgg, underlying, Tryz.underlying83, ha, Result.andThen, elemOf_n, mk_n]
theorem partsT_n (a : Addr) (w : World) : (ReflectliteValue.parts (.agg #[hdl 33, .pointer (some a), .int .u64 386])).run Tryz.prog w = .ok (some (33, a, 386)) w := by kernel_rfl

theorem typeOf_f (v : Value) (w : World) : (ReflectliteType.typeOf #[.iface 78 v]).run Tryz.prog w = .ok (.iface 135 (.agg #[hdl 78])) w := by kernel_rfl
theorem assign_f (w : World) : (ReflectliteType.relation "AssignableTo" ReflectliteType.assignableTo #[.agg #[hdl 78], .iface 135 (.agg #[hdl 78])]).run Tryz.prog w = .ok (.bool true) w := by kernel_rfl
theorem valueOfT_f (e : Addr) (w : World) : (ReflectliteValue.unpack (.iface 78 (.pointer (some e)))).run Tryz.prog w
    = .ok (.agg #[hdl 78, .pointer (some ⟨w.heap.size, 0, none⟩), .int .u64 150]) (w.alloc (.cells #[.pointer (some e)] 78)) := by kernel_rfl
theorem partsV_f (a : Addr) (w : World) : (ReflectliteValue.parts (.agg #[hdl 78, .pointer (some a), .int .u64 150])).run Tryz.prog w = .ok (some (78, a, 150)) w := by kernel_rfl
theorem direct_f (w : World) : (Rtype.directlyAssignable 78 78).run Tryz.prog w = .ok true w := by kernel_rfl
theorem set_f (ta b : Addr) (e : Addr) (old : Value) (W : World) (hb : W.cell? b = some (.pointer (some e))) (ht : W.cell? ta = some old) (hf : W.frozen? ta = false) :
    (ReflectliteValue.set #[.agg #[hdl 78, .pointer (some ta), .int .u64 406], .agg #[hdl 78, .pointer (some b), .int .u64 150]]).run Tryz.prog W
      = .ok (.tuple #[]) (W.setCell ta (.pointer (some e))) := by
  rw [rls]
  simp only [Sem.run_bind, partsT_f, partsV_f, Result.andThen]
  simp [ReflectliteValue.flagAddr, loadVar, isAgg, underlying, Tryz.underlying78, hb, Result.andThen, direct_f, storeVar, Value.cells, storeCells, Addr.add]
  rw [run_store Tryz.prog W ta _ _ (by rfl)]
  simp [ht, hf]

theorem typeOf_n (v : Value) (w : World) : (ReflectliteType.typeOf #[.iface 33 v]).run Tryz.prog w = .ok (.iface 135 (.agg #[hdl 33])) w := by kernel_rfl
theorem assign_n (w : World) : (ReflectliteType.relation "AssignableTo" ReflectliteType.assignableTo #[.agg #[hdl 33], .iface 135 (.agg #[hdl 33])]).run Tryz.prog w = .ok (.bool true) w := by kernel_rfl
theorem valueOfT_n (e : Int) (w : World) : (ReflectliteValue.unpack (.iface 33 (.int .i64 e))).run Tryz.prog w
    = .ok (.agg #[hdl 33, .pointer (some ⟨w.heap.size, 0, none⟩), .int .u64 130]) (w.alloc (.cells #[.int .i64 e] 33)) := by kernel_rfl
theorem partsV_n (a : Addr) (w : World) : (ReflectliteValue.parts (.agg #[hdl 33, .pointer (some a), .int .u64 130])).run Tryz.prog w = .ok (some (33, a, 130)) w := by kernel_rfl
theorem direct_n (w : World) : (Rtype.directlyAssignable 33 33).run Tryz.prog w = .ok true w := by kernel_rfl
theorem set_n (ta b : Addr) (e : Int) (old : Value) (W : World) (hb : W.cell? b = some (.int .i64 e)) (ht : W.cell? ta = some old) (hf : W.frozen? ta = false) :
    (ReflectliteValue.set #[.agg #[hdl 33, .pointer (some ta), .int .u64 386], .agg #[hdl 33, .pointer (some b), .int .u64 130]]).run Tryz.prog W
      = .ok (.tuple #[]) (W.setCell ta (.int .i64 e)) := by
  rw [rls]
  simp only [Sem.run_bind, partsT_n, partsV_n, Result.andThen]
  simp [ReflectliteValue.flagAddr, loadVar, isAgg, underlying, Tryz.underlying33, hb, Result.andThen, direct_n, storeVar, Value.cells, storeCells, Addr.add]
  rw [run_store Tryz.prog W ta _ _ (by rfl)]
  simp [ht, hf]

/-- an Errno is no *Fault -/
theorem assign_miss (w : World) : (ReflectliteType.relation "AssignableTo" ReflectliteType.assignableTo #[.agg #[hdl 33], .iface 135 (.agg #[hdl 78])]).run Tryz.prog w = .ok (.bool false) w := by kernel_rfl
theorem noAs_n (v : Value) (xT : TypeId) (w : World) : (Instr.typeAssert (.iface 33 v) xT 140 true).run Tryz.prog w = .ok (.tuple #[.nilIface, .bool false]) w := run_typeAssert_lacksB Tryz.underlying140 (by kernel_rfl) (by kernel_rfl) v xT w
theorem noUnwrap_n (v : Value) (xT : TypeId) (w : World) : (Instr.typeAssert (.iface 33 v) xT 143 true).run Tryz.prog w = .ok (.tuple #[.nilIface, .bool false]) w := run_typeAssert_lacksB Tryz.underlying143 (by kernel_rfl) (by kernel_rfl) v xT w
theorem noUnwraps_n (v : Value) (xT : TypeId) (w : World) : (Instr.typeAssert (.iface 33 v) xT 145 true).run Tryz.prog w = .ok (.tuple #[.nilIface, .bool false]) w := run_typeAssert_lacksB Tryz.underlying145 (by kernel_rfl) (by kernel_rfl) v xT w

set_option maxHeartbeats 4000000 in
theorem as_hit_f (e t : Addr) (old : Value) (w : World) (hg : w.cell? ⟨1, 0, none⟩ = some (.iface 135 (.agg #[hdl 49]))) (ht0 : w.cell? t = some old) (hf0 : w.frozen? t = false) :
    Calls Tryz.prog 31 #[.iface 78 (.pointer (some e)), .iface 80 (.pointer (some t))] w fun ev w' => ev = .returned (.bool true) ∧ ∃ o1 o2 o3 o4 : Obj, w' = ((((w.alloc o1).alloc o2).alloc o3).alloc o4).setCell t (.pointer (some e)) := by
  have h0 := @run_callFunc_extern Tryz.prog 41 _ (fun args => ReflectliteValue.unpack (args.getD 0 (.tuple #[]))) Tryz.func41 (by kernel_rfl) (by kernel_rfl) (by kernel_rfl) (by kernel_rfl)
  have h1 := @run_callFunc_extern Tryz.prog 42 _ (ReflectliteValue.methodAny (ReflectliteValue.valueError "reflectlite.Value.Type" 0) (fun t _ _ _ => ReflectliteType.toType t)) Tryz.func42 (by kernel_rfl) (by kernel_rfl) (by kernel_rfl) (by kernel_rfl)
  have h2 := @run_callFunc_extern Tryz.prog 43 _ (ReflectliteValue.method (ReflectliteValue.valueError "reflectlite.Value.IsNil" 0) ReflectliteValue.isNil) Tryz.func43 (by kernel_rfl) (by kernel_rfl) (by kernel_rfl) (by kernel_rfl)
  have h3 := @run_callFunc_extern Tryz.prog 161 _ (ReflectliteType.abiMethod fun t => do pure (.int .u8 (← Rtype.kind t))) Tryz.func161 (by kernel_rfl) (by kernel_rfl) (by kernel_rfl) (by kernel_rfl)
  have h4 := @run_callFunc_extern Tryz.prog 174 _ (ReflectliteType.method ReflectliteType.elem) Tryz.func174 (by kernel_rfl) (by kernel_rfl) (by kernel_rfl) (by kernel_rfl)
  have h5 := @run_callFunc_extern Tryz.prog 175 _ (ReflectliteType.relation "Implements" ReflectliteType.implements_) Tryz.func175 (by kernel_rfl) (by kernel_rfl) (by kernel_rfl) (by kernel_rfl)
  have h6 := @run_callFunc_extern Tryz.prog 64 _ (ReflectliteType.typeOf) Tryz.func64 (by kernel_rfl) (by kernel_rfl) (by kernel_rfl) (by kernel_rfl)
  have h7 := @run_callFunc_extern Tryz.prog 172 _ (ReflectliteType.relation "AssignableTo" ReflectliteType.assignableTo) Tryz.func172 (by kernel_rfl) (by kernel_rfl) (by kernel_rfl) (by kernel_rfl)
  have h8 := @run_callFunc_extern Tryz.prog 65 _ (ReflectliteValue.method (ReflectliteValue.valueError "reflectlite.Value.Elem" 0) ReflectliteValue.elem) Tryz.func65 (by kernel_rfl) (by kernel_rfl) (by kernel_rfl) (by kernel_rfl)
  have h9 := @run_callFunc_extern Tryz.prog 66 _ (ReflectliteValue.set) Tryz.func66 (by kernel_rfl) (by kernel_rfl) (by kernel_rfl) (by kernel_rfl)
  have mK := methodKind
  have mE := methodElem
  have mI := methodImplements
  have mA := methodAssignableTo
  have f1 := valueOf_f
  have f2 := type_f
  have f3 := kindP_f
  have f4 := kindT_f
  have f5 := elem_f
  have f6 := impl_f
  have n8 := isNil_f ⟨w.heap.size, 0, none⟩ t ((w.alloc (.cells #[.pointer (some t)] 80)).alloc (.cells #[hdl 80, .pointer (some ⟨w.heap.size, 0, none⟩), .int .u64 150] 104)) (by simp)
  have hlt : 1 < w.heap.size := by
    rcases Nat.lt_or_ge 1 w.heap.size with h | h
    · exact h
    · exfalso
      rw [World.cell?, Array.getElem?_eq_none h] at hg
      cases hg
  have hg2 : ((w.alloc (.cells #[.pointer (some t)] 80)).alloc (.cells #[hdl 80, .pointer (some ⟨w.heap.size, 0, none⟩), .int .u64 150] 104)).cell? ⟨1, 0, none⟩ = some (.iface 135 (.agg #[hdl 49])) := by
    rw [World.cell?_alloc_lt _ _ ⟨1, 0, none⟩ (by simp <;> omega), World.cell?_alloc_lt _ _ ⟨1, 0, none⟩ hlt]; exact hg
  have htl : t.block < w.heap.size := by
    rcases Nat.lt_or_ge t.block w.heap.size with h | h
    · exact h
    · simp [World.cell?, Array.getElem?_eq_none h] at ht0
  have el := elemV_f ⟨w.heap.size, 0, none⟩ t (((w.alloc (.cells #[.pointer (some t)] 80)).alloc (.cells #[hdl 80, .pointer (some ⟨w.heap.size, 0, none⟩), .int .u64 150] 104)).alloc (.cells #[hdl 80, .pointer (some ⟨w.heap.size, 0, none⟩), .int .u64 150] 104)) (by rw [World.cell?_alloc_lt _ _ ⟨w.heap.size, 0, none⟩ (by simp; omega)]; simp)
  have tO := typeOf_f
  have aT := assign_f
  have vT := valueOfT_f
  have st := set_f t ⟨w.heap.size + 1 + 1 + 1, 0, none⟩ e old ((((w.alloc (.cells #[.pointer (some t)] 80)).alloc (.cells #[hdl 80, .pointer (some ⟨w.heap.size, 0, none⟩), .int .u64 150] 104)).alloc (.cells #[hdl 80, .pointer (some ⟨w.heap.size, 0, none⟩), .int .u64 150] 104)).alloc (.cells #[.pointer (some e)] 78))
    (by rw [World.cell?_alloc_at _ _ _ _ (by simp)]; rfl)
    (by rw [World.cell?_alloc_lt _ _ t (by simp; omega), World.cell?_alloc_lt _ _ t (by simp; omega), World.cell?_alloc_lt _ _ t (by simp; omega), World.cell?_alloc_lt _ _ t htl]; exact ht0)
    (by rw [World.frozen?_alloc_old _ _ t (by simp; omega), World.frozen?_alloc_old _ _ t (by simp; omega), World.frozen?_alloc_old _ _ t (by simp; omega), World.frozen?_alloc_old _ _ t (Nat.ne_of_lt htl)]; exact hf0)
  go_enter Tryz.func31, Tryz.ntmps31
  go_wp2
  refine wp_loop_rounds 1 ?_
  rw [rounds_succ]
  go_wp2
  go_ret
  exact ⟨rfl, _, _, _, _, rfl⟩

set_option maxHeartbeats 4000000 in
theorem as_hit_n (e : Int) (t : Addr) (old : Value) (w : World) (hg : w.cell? ⟨1, 0, none⟩ = some (.iface 135 (.agg #[hdl 49]))) (ht0 : w.cell? t = some old) (hf0 : w.frozen? t = false) :
    Calls Tryz.prog 31 #[.iface 33 (.int .i64 e), .iface 83 (.pointer (some t))] w fun ev w' => ev = .returned (.bool true) ∧ ∃ o1 o2 o3 o4 : Obj, w' = ((((w.alloc o1).alloc o2).alloc o3).alloc o4).setCell t (.int .i64 e) := by
  have h0 := @run_callFunc_extern Tryz.prog 41 _ (fun args => ReflectliteValue.unpack (args.getD 0 (.tuple #[]))) Tryz.func41 (by kernel_rfl) (by kernel_rfl) (by kernel_rfl) (by kernel_rfl)
  have h1 := @run_callFunc_extern Tryz.prog 42 _ (ReflectliteValue.methodAny (ReflectliteValue.valueError "reflectlite.Value.Type" 0) (fun t _ _ _ => ReflectliteType.toType t)) Tryz.func42 (by kernel_rfl) (by kernel_rfl) (by kernel_rfl) (by kernel_rfl)
  have h2 := @run_callFunc_extern Tryz.prog 43 _ (ReflectliteValue.method (ReflectliteValue.valueError "reflectlite.Value.IsNil" 0) ReflectliteValue.isNil) Tryz.func43 (by kernel_rfl) (by kernel_rfl) (by kernel_rfl) (by kernel_rfl)
  have h3 := @run_callFunc_extern Tryz.prog 161 _ (ReflectliteType.abiMethod fun t => do pure (.int .u8 (← Rtype.kind t))) Tryz.func161 (by kernel_rfl) (by kernel_rfl) (by kernel_rfl) (by kernel_rfl)
  have h4 := @run_callFunc_extern Tryz.prog 174 _ (ReflectliteType.method ReflectliteType.elem) Tryz.func174 (by kernel_rfl) (by kernel_rfl) (by kernel_rfl) (by kernel_rfl)
  have h5 := @run_callFunc_extern Tryz.prog 175 _ (ReflectliteType.relation "Implements" ReflectliteType.implements_) Tryz.func175 (by kernel_rfl) (by kernel_rfl) (by kernel_rfl) (by kernel_rfl)
  have h6 := @run_callFunc_extern Tryz.prog 64 _ (ReflectliteType.typeOf) Tryz.func64 (by kernel_rfl) (by kernel_rfl) (by kernel_rfl) (by kernel_rfl)
  have h7 := @run_callFunc_extern Tryz.prog 172 _ (ReflectliteType.relation "AssignableTo" ReflectliteType.assignableTo) Tryz.func172 (by kernel_rfl) (by kernel_rfl) (by kernel_rfl) (by kernel_rfl)
  have h8 := @run_callFunc_extern Tryz.prog 65 _ (ReflectliteValue.method (ReflectliteValue.valueError "reflectlite.Value.Elem" 0) ReflectliteValue.elem) Tryz.func65 (by kernel_rfl) (by kernel_rfl) (by kernel_rfl) (by kernel_rfl)
  have h9 := @run_callFunc_extern Tryz.prog 66 _ (ReflectliteValue.set) Tryz.func66 (by kernel_rfl) (by kernel_rfl) (by kernel_rfl) (by kernel_rfl)
  have mK := methodKind
  have mE := methodElem
  have mI := methodImplements
  have mA := methodAssignableTo
  have f1 := valueOf_n
  have f2 := type_n
  have f3 := kindP_n
  have f4 := kindT_n
  have f5 := elem_n
  have f6 := impl_n
  have n8 := isNil_n ⟨w.heap.size, 0, none⟩ t ((w.alloc (.cells #[.pointer (some t)] 83)).alloc (.cells #[hdl 83, .pointer (some ⟨w.heap.size, 0, none⟩), .int .u64 150] 104)) (by simp)
  have hlt : 1 < w.heap.size := by
    rcases Nat.lt_or_ge 1 w.heap.size with h | h
    · exact h
    · exfalso
      rw [World.cell?, Array.getElem?_eq_none h] at hg
      cases hg
  have hg2 : ((w.alloc (.cells #[.pointer (some t)] 83)).alloc (.cells #[hdl 83, .pointer (some ⟨w.heap.size, 0, none⟩), .int .u64 150] 104)).cell? ⟨1, 0, none⟩ = some (.iface 135 (.agg #[hdl 49])) := by
    rw [World.cell?_alloc_lt _ _ ⟨1, 0, none⟩ (by simp <;> omega), World.cell?_alloc_lt _ _ ⟨1, 0, none⟩ hlt]; exact hg
  have htl : t.block < w.heap.size := by
    rcases Nat.lt_or_ge t.block w.heap.size with h | h
    · exact h
    · simp [World.cell?, Array.getElem?_eq_none h] at ht0
  have el := elemV_n ⟨w.heap.size, 0, none⟩ t (((w.alloc (.cells #[.pointer (some t)] 83)).alloc (.cells #[hdl 83, .pointer (some ⟨w.heap.size, 0, none⟩), .int .u64 150] 104)).alloc (.cells #[hdl 83, .pointer (some ⟨w.heap.size, 0, none⟩), .int .u64 150] 104)) (by rw [World.cell?_alloc_lt _ _ ⟨w.heap.size, 0, none⟩ (by simp; omega)]; simp)
  have tO := typeOf_n
  have aT := assign_n
  have vT := valueOfT_n
  have st := set_n t ⟨w.heap.size + 1 + 1 + 1, 0, none⟩ e old ((((w.alloc (.cells #[.pointer (some t)] 83)).alloc (.cells #[hdl 83, .pointer (some ⟨w.heap.size, 0, none⟩), .int .u64 150] 104)).alloc (.cells #[hdl 83, .pointer (some ⟨w.heap.size, 0, none⟩), .int .u64 150] 104)).alloc (.cells #[.int .i64 e] 33))
    (by rw [World.cell?_alloc_at _ _ _ _ (by simp)]; rfl)
    (by rw [World.cell?_alloc_lt _ _ t (by simp; omega), World.cell?_alloc_lt _ _ t (by simp; omega), World.cell?_alloc_lt _ _ t (by simp; omega), World.cell?_alloc_lt _ _ t htl]; exact ht0)
    (by rw [World.frozen?_alloc_old _ _ t (by simp; omega), World.frozen?_alloc_old _ _ t (by simp; omega), World.frozen?_alloc_old _ _ t (by simp; omega), World.frozen?_alloc_old _ _ t (Nat.ne_of_lt htl)]; exact hf0)
  go_enter Tryz.func31, Tryz.ntmps31
  go_wp2
  refine wp_loop_rounds 1 ?_
  rw [rounds_succ]
  go_wp2
  go_ret
  exact ⟨rfl, _, _, _, _, rfl⟩

set_option maxHeartbeats 4000000 in
theorem as_miss (e : Int) (t : Addr) (old : Value) (w : World) (hg : w.cell? ⟨1, 0, none⟩ = some (.iface 135 (.agg #[hdl 49]))) (ht0 : w.cell? t = some old) (hf0 : w.frozen? t = false) :
    Calls Tryz.prog 31 #[.iface 33 (.int .i64 e), .iface 80 (.pointer (some t))] w fun ev w' => ev = .returned (.bool false) ∧ ∃ o1 o2 o3 : Obj, w' = ((w.alloc o1).alloc o2).alloc o3 := by
  have h0 := @run_callFunc_extern Tryz.prog 41 _ (fun args => ReflectliteValue.unpack (args.getD 0 (.tuple #[]))) Tryz.func41 (by kernel_rfl) (by kernel_rfl) (by kernel_rfl) (by kernel_rfl)
  have h1 := @run_callFunc_extern Tryz.prog 42 _ (ReflectliteValue.methodAny (ReflectliteValue.valueError "reflectlite.Value.Type" 0) (fun t _ _ _ => ReflectliteType.toType t)) Tryz.func42 (by kernel_rfl) (by kernel_rfl) (by kernel_rfl) (by kernel_rfl)
  have h2 := @run_callFunc_extern Tryz.prog 43 _ (ReflectliteValue.method (ReflectliteValue.valueError "reflectlite.Value.IsNil" 0) ReflectliteValue.isNil) Tryz.func43 (by kernel_rfl) (by kernel_rfl) (by kernel_rfl) (by kernel_rfl)
  have h3 := @run_callFunc_extern Tryz.prog 161 _ (ReflectliteType.abiMethod fun t => do pure (.int .u8 (← Rtype.kind t))) Tryz.func161 (by kernel_rfl) (by kernel_rfl) (by kernel_rfl) (by kernel_rfl)
  have h4 := @run_callFunc_extern Tryz.prog 174 _ (ReflectliteType.method ReflectliteType.elem) Tryz.func174 (by kernel_rfl) (by kernel_rfl) (by kernel_rfl) (by kernel_rfl)
  have h5 := @run_callFunc_extern Tryz.prog 175 _ (ReflectliteType.relation "Implements" ReflectliteType.implements_) Tryz.func175 (by kernel_rfl) (by kernel_rfl) (by kernel_rfl) (by kernel_rfl)
  have h6 := @run_callFunc_extern Tryz.prog 64 _ (ReflectliteType.typeOf) Tryz.func64 (by kernel_rfl) (by kernel_rfl) (by kernel_rfl) (by kernel_rfl)
  have h7 := @run_callFunc_extern Tryz.prog 172 _ (ReflectliteType.relation "AssignableTo" ReflectliteType.assignableTo) Tryz.func172 (by kernel_rfl) (by kernel_rfl) (by kernel_rfl) (by kernel_rfl)
  have h8 := @run_callFunc_extern Tryz.prog 65 _ (ReflectliteValue.method (ReflectliteValue.valueError "reflectlite.Value.Elem" 0) ReflectliteValue.elem) Tryz.func65 (by kernel_rfl) (by kernel_rfl) (by kernel_rfl) (by kernel_rfl)
  have h9 := @run_callFunc_extern Tryz.prog 66 _ (ReflectliteValue.set) Tryz.func66 (by kernel_rfl) (by kernel_rfl) (by kernel_rfl) (by kernel_rfl)
  have mK := methodKind
  have mE := methodElem
  have mI := methodImplements
  have mA := methodAssignableTo
  have f1 := valueOf_f
  have f2 := type_f
  have f3 := kindP_f
  have f4 := kindT_f
  have f5 := elem_f
  have f6 := impl_f
  have n8 := isNil_f ⟨w.heap.size, 0, none⟩ t ((w.alloc (.cells #[.pointer (some t)] 80)).alloc (.cells #[hdl 80, .pointer (some ⟨w.heap.size, 0, none⟩), .int .u64 150] 104)) (by simp)
  have hlt : 1 < w.heap.size := by
    rcases Nat.lt_or_ge 1 w.heap.size with h | h
    · exact h
    · exfalso
      rw [World.cell?, Array.getElem?_eq_none h] at hg
      cases hg
  have hg2 : ((w.alloc (.cells #[.pointer (some t)] 80)).alloc (.cells #[hdl 80, .pointer (some ⟨w.heap.size, 0, none⟩), .int .u64 150] 104)).cell? ⟨1, 0, none⟩ = some (.iface 135 (.agg #[hdl 49])) := by
    rw [World.cell?_alloc_lt _ _ ⟨1, 0, none⟩ (by simp <;> omega), World.cell?_alloc_lt _ _ ⟨1, 0, none⟩ hlt]; exact hg
  have htl : t.block < w.heap.size := by
    rcases Nat.lt_or_ge t.block w.heap.size with h | h
    · exact h
    · simp [World.cell?, Array.getElem?_eq_none h] at ht0
  have tO := typeOf_n
  have aT := assign_miss
  have n1 := noAs_n
  have n2 := noUnwrap_n
  have n3 := noUnwraps_n
  go_enter Tryz.func31, Tryz.ntmps31
  go_wp2
  refine wp_loop_rounds 1 ?_
  rw [rounds_succ]
  go_wp2
  go_ret
  exact ⟨rfl, _, _, _, rfl⟩
end Go.Proofs.YtkhdbolnhcfgkaaGreatDoor

/- api.Tell: the number and the place of an error. -/
namespace Go.Proofs.YtkhdbolnhcfgkaaGreatDoor
open Go Go.RowKit
set_option maxRecDepth 10000

/-- the library's variable errors.errorType holds the handle of the type error -/
def ErrT (w : World) : Prop := w.cell? ⟨1, 0, none⟩ = some (.iface 135 (.agg #[hdl 49]))

theorem ErrT.below {w w' : World} (h : ErrT w) (hb : Below w.heap.size w w') : ErrT w' := by
  have hlt := World.block_lt_of_cell? w _ h
  unfold ErrT
  rw [hb.cell (p := ⟨1, 0, none⟩) hlt]
  exact h

/-- an error by its number; 0: none -/
def errV (n : Int) : Value := if n = 0 then .nilIface else .iface 33 (.int .i64 n)

def TellPost (n at_ : Int) (w : World) (e : Ending) (w' : World) : Prop := e = .returned (.tuple #[.int .i64 n, .int .i64 at_]) ∧ Below w.heap.size w w'

set_option maxHeartbeats 1000000 in
theorem tell_nil (w : World) : Calls Tryz.prog 18 #[.nilIface] w (TellPost 0 0 w) := by
  go_enter Tryz.func18, Tryz.ntmps18
  go_wp2
  go_ret2
  exact ⟨rfl, ((Below.refl _ _).alloc (Nat.le_refl _) _).alloc (by simp) _⟩

set_option maxHeartbeats 2000000 in
theorem tell_n (n : Int) (w : World) (hE : ErrT w) : Calls Tryz.prog 18 #[.iface 33 (.int .i64 n)] w (TellPost n 0 w) := by
  have HE := Lib.hid hE
  clear hE
  go_enter Tryz.func18, Tryz.ntmps18
  go_wp2_with fail
  refine calls_gen ?_
  intro W hW
  have hb : Below w.heap.size w W := by rw [hW]; exact ((Below.refl _ _).alloc (Nat.le_refl _) _).alloc (by simp) _
  have hz : w.heap.size + 2 ≤ W.heap.size := by rw [hW]; simp
  have hA : W.cell? ⟨w.heap.size, 0, none⟩ = some (.pointer none) ∧ W.frozen? ⟨w.heap.size, 0, none⟩ = false := by rw [hW]; constructor <;> go_simp
  have hB : W.cell? ⟨w.heap.size + 1, 0, none⟩ = some (.int .i64 0) ∧ W.frozen? ⟨w.heap.size + 1, 0, none⟩ = false := by rw [hW]; constructor <;> go_simp
  clear hW
  refine (as_miss n ⟨w.heap.size, 0, none⟩ _ W (HE.out.below hb) hA.1 hA.2).mono ?_
  rintro e w1 ⟨rfl, o1, o2, o3, hw1⟩
  have hb1 : Below W.heap.size W w1 := by rw [hw1]; exact (((Below.refl _ _).alloc (Nat.le_refl _) _).alloc (by simp) _).alloc (by simp; omega) _
  have hB1 : w1.cell? ⟨w.heap.size + 1, 0, none⟩ = some (.int .i64 0) ∧ w1.frozen? ⟨w.heap.size + 1, 0, none⟩ = false :=
    ⟨by rw [hb1.cell (by simp; omega)]; exact hB.1, by rw [hb1.frozen (by simp; omega)]; exact hB.2⟩
  have hb01 := hb.trans (hb1.mono (by omega))
  have hz1 : w.heap.size + 2 ≤ w1.heap.size := by have := hb1.size; omega
  clear hw1 hA hB hb1 hz
  go_wp2_with fail
  refine (as_hit_n n ⟨w.heap.size + 1, 0, none⟩ _ w1 (HE.out.below hb01) hB1.1 hB1.2).mono ?_
  rintro e w2 ⟨rfl, p1, p2, p3, p4, hw2⟩
  have hb2 : Below (w.heap.size + 1) w1 w2 := by rw [hw2]; exact (((((Below.refl _ _).alloc (by omega) _).alloc (by simp; omega) _).alloc (by simp; omega) _).alloc (by simp; omega) _).setCell (by simp) _
  have hb02 := hb01.trans (hb2.mono (by omega))
  have hC : w2.cell? ⟨w.heap.size + 1, 0, none⟩ = some (.int .i64 n) := by
    rw [hw2, cellSet, if_pos rfl]
    rw [World.cell?_alloc_lt _ _ _ (by simp; omega), World.cell?_alloc_lt _ _ _ (by simp; omega), World.cell?_alloc_lt _ _ _ (by simp; omega), World.cell?_alloc_lt _ _ _ (by show w.heap.size + 1 < _; omega), hB1.1]
    rfl
  clear hw2 hb2 hB1
  go_wp2
  go_ret2
  exact ⟨rfl, hb02⟩

theorem tell_e (n : Int) (w : World) (hE : ErrT w) : Calls Tryz.prog 18 #[errV n] w (TellPost n 0 w) := by
  unfold errV
  by_cases h : n = 0
  · subst h; rw [if_pos rfl]; exact tell_nil w
  · rw [if_neg h]; exact tell_n n w hE
end Go.Proofs.YtkhdbolnhcfgkaaGreatDoor

/- phrases.Category: the category of a number, by rules. -/
namespace Go.Proofs.YtkhdbolnhcfgkaaGreatDoor
open Go Go.RowKit
set_option maxRecDepth 10000

/-- the number that a text is -/
abbrev dgL (s : List UInt8) : Dg := (wholeL s, fracL s)

/-- what Category answers: the name, the error's number -/
def catT (rs : List Rul) (s : List UInt8) : Wd := if ruledL rs && isNumL s then sortL rs (dgL s) else []
def catC (rs : List Rul) (s : List UInt8) : Int := if ruledL rs then if isNumL s then 0 else 10 else 9

theorem num_facts {l : List UInt8} (h : isNumL l = true) : (wholeL l).all isDig = true ∧ (fracL l).all isDig = true ∧ 0 < (wholeL l).length ∧ (wholeL l).length + (fracL l).length ≤ 30 := by
  simp only [isNumL, formL, Bool.and_eq_true, Bool.or_eq_true, decide_eq_true_eq] at h
  have hw := h.1.1.1.1
  have hf := h.1.1.1.2
  simp only [numeralsL, Bool.and_eq_true] at hw
  refine ⟨hw.1, ?_, ?_, h.1.1.2⟩
  · rcases hf with hf | hf
    · have hp : ¬ (absL l).idxOf 46 < (absL l).length := by simpa [pointL] using hf
      have : fracL l = [] := by unfold fracL; exact List.drop_of_length_le (by omega)
      rw [this]; rfl
    · simp only [numeralsL, Bool.and_eq_true] at hf
      exact hf.1
  · have := hw.2
    cases hl : wholeL l with
    | nil => rw [hl] at this; cases this
    | cons a b => simp

theorem num_ok {l : List UInt8} (h : isNumL l = true) : DgOk (dgL l) := by
  obtain ⟨h1, h2, h3, h4⟩ := num_facts h
  exact ⟨h1, h2, (fun q => by rw [show wholeL l = [] from q] at h3; cases h3), by show (wholeL l).length ≤ 100; omega, by show (fracL l).length ≤ 100; omega⟩

theorem num_good {l : List UInt8} (h : isNumL l = true) : Good (dgL l) := by
  obtain ⟨h1, h2, h3, h4⟩ := num_facts h
  simp only [isNumL, Bool.and_eq_true, Bool.not_eq_true', Bool.and_eq_false_iff, decide_eq_false_iff_not] at h
  have hz := h.1.2
  show plainL (wholeL l) = wholeL l
  cases hw : wholeL l with
  | nil => rw [hw] at h3; cases h3
  | cons c t =>
    rw [hw] at hz
    unfold plainL
    rw [if_neg (by simp)]
    cases t with
    | nil => rfl
    | cons d u =>
      have hc : ¬ c = 48 := by
        rcases hz with hz | hz
        · simp at hz
        · simpa using hz
      exact strip_keep hc

def CatPost (rs : List Rul) (s : List UInt8) (w : World) (e : Ending) (w' : World) : Prop := e = .returned (.tuple #[strv (catT rs s), errV (catC rs s)]) ∧ Below w.heap.size w w'

theorem SetR.form0 {lo hi : Nat} {w w' : World} {a : Option Addr} {S : List (Nat × Tst)} (h : SetR lo hi w a S) (hb : Below hi w w') (hh : hi ≤ w.heap.size) : SetR lo hi w' a S :=
  h.keep (keep_below (lo := lo) hb (Nat.le_refl _) hh) (Nat.le_refl _) (Nat.le_refl _)

set_option maxHeartbeats 4000000 in
theorem category_any (rs : List Rul) (v : Value) (s : ByteArray) (w : World) (hv : RulesAt w v rs) (hl : rs.length ≤ 1000000) (hz : ∀ q ∈ rs, q.1.length ≤ 1000000 ∧ q.2.length ≤ 1000000) (hs : s.size ≤ 1000000) (hT : RT0 w) (hN : NamesAt w) :
    Calls Tryz.prog 17 #[v, .string s] w (CatPost rs s.data.toList w) := by
  have HREAD := Lib.hid (read_rules rs v w hv hl hz hT hN)
  have HN := Lib.hid hN
  obtain ⟨va, vn, vc, rfl⟩ : ∃ a n c, v = .slice a n c := by obtain ⟨a, c, rfl, _⟩ := hv; exact ⟨_, _, _, rfl⟩
  have hl0 := Lib.hid hl
  clear hv hz hT hN hl
  go_enter Tryz.func17, Tryz.ntmps17
  go_wp2_with fail
  refine HREAD.out.mono ?_
  rintro e w1 ⟨hq, hb1⟩
  cases hr : readL rs with
  | none =>
    rw [hr] at hq
    subst hq
    have hrl : ruledL rs = false := by rw [ruled_law, hr]; rfl
    have HT := Lib.hid (show catT rs s.data.toList = [] by unfold catT; rw [hrl]; rfl)
    have HC := Lib.hid (show catC rs s.data.toList = 9 by unfold catC; rw [hrl]; rfl)
    clear hr hrl
    go_wp2
    go_ret2
    exact ⟨by rw [HT.out, HC.out]; rfl, hb1⟩
  | some S =>
    rw [hr] at hq
    obtain ⟨a, c, rfl, hset⟩ := hq
    have hrl : ruledL rs = true := by rw [ruled_law, hr]; rfl
    have HSET := Lib.hid hset
    have HR := Lib.hid hr
    have HRL := Lib.hid hrl
    clear hr hrl hset
    go_wp2_with fail
    refine (parse_any s _ hs).mono ?_
    rintro e w2 ⟨b, pv, k, rfl, ⟨pa, pn, pk, rfl⟩, hb2, hres⟩
    have hb02 := hb1.trans (hb2.mono hb1.size)
    cases hn : isNumL s.data.toList
    · have HT := Lib.hid (show catT rs s.data.toList = [] by unfold catT; rw [hn, Bool.and_false]; rfl)
      have HC := Lib.hid (show catC rs s.data.toList = 10 by unfold catC; rw [hn, HRL.out]; rfl)
      clear hn hres
      go_wp2
      go_ret2
      exact ⟨by rw [HT.out, HC.out]; rfl, hb02.alloc hb02.size _⟩
    · obtain ⟨rfl, rfl, hown⟩ := hres hn
      have hgood := num_good hn
      have hok := num_ok hn
      obtain ⟨d1, d2, hwl, h30⟩ := num_facts hn
      obtain ⟨g, cap, hpv, _, _, _, _, _⟩ := own_rowm hown (by omega)
      cases hpv
      have hnv : NumV w2 (.agg #[.bool (negL s.data.toList), .slice (some ⟨g, 0, none⟩) ((wholeL s.data.toList).length + (fracL s.data.toList).length) pk, .int .i64 (dgL s.data.toList).2.length]) (dgL s.data.toList) :=
        num_own (d := wholeL s.data.toList ++ fracL s.data.toList) rfl (by simp) hown hok
      have hlen := read_len HR.out
      have hof : ofL S (dgL s.data.toList) < 6 := by
        unfold ofL
        cases hf : S.find? (fun q => q.2 (dgL s.data.toList)) with
        | some q => exact hlen.2 q (List.mem_of_find?_eq_some hf)
        | none => decide
      have HT := Lib.hid (show catT rs s.data.toList = nmL (ofL S (dgL s.data.toList)) by unfold catT; rw [hn, HRL.out]; exact (sort_law HR.out hgood).symm)
      have HC := Lib.hid (show catC rs s.data.toList = 0 by unfold catC; rw [hn, HRL.out]; rfl)
      obtain ⟨ix, hix⟩ : ∃ ix, ofL S (dgL s.data.toList) = ix := ⟨_, rfl⟩
      have HOF := Lib.hid (show ix < 6 by rw [← hix]; exact hof)
      have HIX := Lib.hid hix
      have HNV := Lib.hid hnv
      have HLEN := Lib.hid hlen.1
      clear hn hres hown hgood hok hnv hlen hof hix d1 d2
      go_wp2_with fail
      refine calls_gen ?_
      intro W hW
      have hbW : Below w2.heap.size w2 W := by rw [hW]; exact (Below.refl _ _).alloc (Nat.le_refl _) _
      clear hW
      have hb1W : Below w1.heap.size w1 W := hb2.trans (hbW.mono hb2.size)
      have hb0W : Below w.heap.size w W := hb02.trans (hbW.mono hb02.size)
      refine (of_any S a c _ (dgL s.data.toList) w.heap.size w1.heap.size W (by rw [HLEN.out]; exact hl0.out) (HSET.out.form0 hb1W (Nat.le_refl _)) hb1W.size (HNV.out.below hbW)).mono ?_
      rintro e w3 ⟨rfl, hb3⟩
      rw [HIX.out]
      have hb03 := hb0W.trans (hb3.mono hb0W.size)
      have hcl := HN.out.below hb03 ix HOF.out
      have HE := Lib.hid (show nmL ix = (catsB.getD ix ByteArray.empty).data.toList from rfl)
      obtain ⟨nm, hnm⟩ : ∃ nm, catsB.getD ix ByteArray.empty = nm := ⟨_, rfl⟩
      rw [hnm] at hcl
      have HNM := Lib.hid hnm
      have hix6 := HOF.out
      clear hnm
      go_wp2
      go_ret2
      exact ⟨by rw [HT.out, HC.out, HIX.out, HE.out, HNM.out]; simp [errV, strv], hb03⟩
end Go.Proofs.YtkhdbolnhcfgkaaGreatDoor

/- Maps from texts to numbers, and to pairs, that a loop makes: what a look-up answers. The last place of a word. -/
namespace Go.Proofs.YtkhdbolnhcfgkaaGreatDoor
open Go Go.RowKit
set_option maxRecDepth 10000

/-- the last place of a word in a list, counted from 1; 0: it is not there -/
def lastN (ws : List Wd) (m : Wd) : Nat := (ws.foldl (fun (p : Nat × Nat) x => (p.1 + 1, if x = m then p.1 + 1 else p.2)) (0, 0)).2

theorem last_fst (ws : List Wd) (m : Wd) : ∀ p : Nat × Nat, (ws.foldl (fun (p : Nat × Nat) x => (p.1 + 1, if x = m then p.1 + 1 else p.2)) p).1 = p.1 + ws.length := by
  induction ws with
  | nil => intro p; rfl
  | cons a t ih => intro p; rw [List.foldl_cons, ih]; simp; omega

theorem last_snoc (ws : List Wd) (x m : Wd) : lastN (ws ++ [x]) m = if x = m then ws.length + 1 else lastN ws m := by
  unfold lastN
  rw [List.foldl_append, List.foldl_cons, List.foldl_nil]
  dsimp only
  rw [last_fst]
  simp

theorem last_take (ws : List Wd) (k : Nat) (hk : k < ws.length) (m : Wd) : lastN (ws.take (k + 1)) m = if ws[k] = m then k + 1 else lastN (ws.take k) m := by
  rw [List.take_succ_eq_append_getElem hk, last_snoc, List.length_take, Nat.min_eq_left (by omega)]

theorem last_le (ws : List Wd) (m : Wd) : lastN ws m ≤ ws.length := by
  induction hn : ws.length generalizing ws with
  | zero => rw [List.eq_nil_of_length_eq_zero hn]; exact Nat.le_refl _
  | succ n ih =>
    have hk : n < ws.length := by omega
    have h := last_take ws n hk m
    rw [List.take_of_length_le (by omega)] at h
    rw [h]
    split
    · omega
    · have := ih (ws.take n) (by simp; omega)
      omega

/-- a map from texts to numbers of the call's own: 0 where the text is none of its keys -/
def MapI (w : World) (b n : Nat) (f : Wd → Nat) : Prop :=
  ∃ D : DataW Unit, w.ownsMap Tryz.prog 9 (plainElem Tryz.prog 3) b n D ∧ Maps.IsMap D ∧ ∀ m : Wd, Maps.has D (.string m) = decide (0 < f m) ∧ D.atKey (.string m) (.lit (.int .i64 0)) = .lit (.int .i64 (f m))

theorem MapI.below {w w' : World} {b n : Nat} {f : Wd → Nat} (h : MapI w b n f) (hb : Below w.heap.size w w') : MapI w' b n f := by
  obtain ⟨D, h1, h2⟩ := h
  exact ⟨D, map_below h1 hb, h2⟩

theorem MapI.made (w : World) : MapI (w.alloc (.map #[] 0)) w.heap.size 0 (fun _ => 0) :=
  ⟨.map [], World.ownsMap_made w _ _ _, ⟨_, rfl⟩, fun m => ⟨rfl, rfl⟩⟩

theorem MapI.look {w : World} {b n : Nat} {f : Wd → Nat} (h : MapI w b n f) (m : Wd) (hm : m.length ≤ 1000000) :
    (Instr.lookup 64 (.map (some b)) (strv m) true).run Tryz.prog w = .ok (.tuple #[.int .i64 (f m), .bool (decide (0 < f m))]) w := by
  obtain ⟨D, h1, h2, h3⟩ := h
  obtain ⟨v, ps, hrun, hv⟩ := h1.look_ok (Maps.string_keyed Tryz.underlying9) Tryz.underlying64 (z := .int .i64 0) (by first | rfl | simp [go_sem]) (plainElem_int Tryz.underlying3 (by decide))
    (key := strv m) (WideMaps.keyOf_string_mk (s := ⟨m.toArray⟩) Tryz.underlying9 (by rw [size_mk]; unfold maxLen; omega))
  rw [toList_mk] at hrun hv
  rw [(h3 m).1] at hrun
  rw [(h3 m).2] at hv
  obtain ⟨c, rfl, hc, _⟩ := plainElem_int_inv Tryz.underlying3 hv
  simp only [Prod.mk.injEq, DataW.lit.injEq, Lit.int.injEq] at hc
  rw [hrun, ← hc.1.2]

theorem MapI.put {w : World} {b n : Nat} {f : Wd → Nat} (h : MapI w b n f) (m : Wd) (hm : m.length ≤ 1000000) (k : Nat) (hk : k ≤ 1000000) (hn : n ≤ 1000000) :
    ∃ w', (Instr.mapUpdate 64 (.map (some b)) (strv m) (.int .i64 ((k : Int) + 1))).run Tryz.prog w = .ok () w' ∧ MapI w' b (n + 1) (fun x => if m = x then k + 1 else f x) ∧ w.grownBy w' (some b) := by
  obtain ⟨D, h1, h2, h3⟩ := h
  obtain ⟨w', hrun, hown, hg⟩ := h1.update (Maps.string_keyed Tryz.underlying9) Tryz.underlying64 (by unfold maxLen; omega) (key := strv m) (WideMaps.keyOf_string_mk (s := ⟨m.toArray⟩) Tryz.underlying9 (by rw [size_mk]; unfold maxLen; omega))
    (plainElem_int Tryz.underlying3 (q := .i64) (a := (k : Int) + 1) (by simp [Lit.wf, IntKind.min, IntKind.max, IntKind.signed, IntKind.bits]; omega))
  rw [toList_mk] at hown
  refine ⟨w', hrun, ⟨_, hown, h2.put _ _, fun x => ?_⟩, hg⟩
  by_cases hx : m = x
  · subst hx
    simp only [↓reduceIte]
    exact ⟨by rw [Maps.has_put_same h2 (show WideAt.IsKeyLit (.string m) from trivial)]; simp, by rw [Maps.atKey_put_same h2 (show WideAt.IsKeyLit (.string m) from trivial)]; simp⟩
  · simp only [hx, ↓reduceIte]
    have hne : (Lit.string x) ≠ .string m := fun q => hx (by cases q; rfl)
    exact ⟨by rw [Maps.has_put_other hne]; exact (h3 x).1, by rw [Maps.atKey_put_other hne]; exact (h3 x).2⟩

/-- how a pair of a text and a number reads -/
def pairE (v : Value) : Option (DataW Unit × List MemPlace) :=
  match v with
  | .agg cs => match cs.toList with
    | [.string s, .int .i64 k] => some (.agg [.lit (.string s.data.toList), .lit (.int .i64 k)], [])
    | _ => none
  | _ => none

theorem pairE_mk (l : Wd) (k : Int) : pairE (.agg #[strv l, .int .i64 k]) = some (.agg [.lit (.string l), .lit (.int .i64 k)], []) := by simp [pairE]

theorem pairE_inv {v : Value} {l : Wd} {k : Int} {ps : List MemPlace} (h : pairE v = some (.agg [.lit (.string l), .lit (.int .i64 k)], ps)) : v = .agg #[strv l, .int .i64 k] := by
  unfold pairE at h
  split at h
  · next cs =>
    split at h
    · next s j hcs =>
      simp only [Option.some.injEq, Prod.mk.injEq, DataW.agg.injEq, List.cons.injEq, DataW.lit.injEq, Lit.string.injEq, Lit.int.injEq, and_true, true_and] at h
      obtain ⟨⟨h1, h2⟩, _⟩ := h
      have e : cs = #[.string s, .int .i64 j] := Array.toList_inj.1 hcs
      rw [e, h2, ← h1]
    · cases h
  · cases h

/-- a map from texts to pairs of the call's own: of a text the text itself and a number -/
def MapP (w : World) (b n : Nat) (f : Wd → Nat) : Prop :=
  ∃ D : DataW Unit, w.ownsMap Tryz.prog 9 pairE b n D ∧ Maps.IsMap D ∧ ∀ m : Wd, Maps.has D (.string m) = decide (0 < f m) ∧
    D.atKey (.string m) (.agg [.lit (.string []), .lit (.int .i64 0)]) = .agg [.lit (.string (if 0 < f m then m else [])), .lit (.int .i64 ((f m - 1 : Nat) : Int))]

theorem MapP.below {w w' : World} {b n : Nat} {f : Wd → Nat} (h : MapP w b n f) (hb : Below w.heap.size w w') : MapP w' b n f := by
  obtain ⟨D, h1, h2⟩ := h
  exact ⟨D, map_below' h1 hb, h2⟩
  where map_below' {k : TypeId} {R : Value → Option (DataW Unit × List MemPlace)} {b n : Nat} {D : DataW Unit} {w w' : World} (h : w.ownsMap Tryz.prog k R b n D) (hb : Below w.heap.size w w') : w'.ownsMap Tryz.prog k R b n D := map_below h hb

theorem MapP.made (w : World) : MapP (w.alloc (.map #[] 0)) w.heap.size 0 (fun _ => 0) :=
  ⟨.map [], World.ownsMap_made w _ _ _, ⟨_, rfl⟩, fun m => ⟨rfl, rfl⟩⟩

theorem MapP.look {w : World} {b n : Nat} {f : Wd → Nat} (h : MapP w b n f) (m : Wd) (hm : m.length ≤ 1000000) :
    (Instr.lookup 54 (.map (some b)) (strv m) true).run Tryz.prog w = .ok (.tuple #[.agg #[strv (if 0 < f m then m else []), .int .i64 ((f m - 1 : Nat) : Int)], .bool (decide (0 < f m))]) w := by
  obtain ⟨D, h1, h2, h3⟩ := h
  obtain ⟨v, ps, hrun, hv⟩ := h1.look_ok (Maps.string_keyed Tryz.underlying9) Tryz.underlying54 (z := .agg #[.string ⟨#[]⟩, .int .i64 0]) (by first | rfl | simp [go_sem]) (pairE_mk [] 0)
    (key := strv m) (WideMaps.keyOf_string_mk (s := ⟨m.toArray⟩) Tryz.underlying9 (by rw [size_mk]; unfold maxLen; omega))
  rw [toList_mk] at hrun hv
  rw [(h3 m).1] at hrun
  rw [(h3 m).2] at hv
  rw [hrun, pairE_inv hv]

theorem MapP.put {w : World} {b n : Nat} {f : Wd → Nat} (h : MapP w b n f) (m : Wd) (hm : m.length ≤ 1000000) (k : Nat) (hn : n ≤ 1000000) :
    ∃ w', (Instr.mapUpdate 54 (.map (some b)) (strv m) (.agg #[strv m, .int .i64 k])).run Tryz.prog w = .ok () w' ∧ MapP w' b (n + 1) (fun x => if m = x then k + 1 else f x) ∧ w.grownBy w' (some b) := by
  obtain ⟨D, h1, h2, h3⟩ := h
  obtain ⟨w', hrun, hown, hg⟩ := h1.update (Maps.string_keyed Tryz.underlying9) Tryz.underlying54 (by unfold maxLen; omega) (key := strv m) (WideMaps.keyOf_string_mk (s := ⟨m.toArray⟩) Tryz.underlying9 (by rw [size_mk]; unfold maxLen; omega))
    (pairE_mk m k)
  rw [toList_mk] at hown
  refine ⟨w', hrun, ⟨_, hown, h2.put _ _, fun x => ?_⟩, hg⟩
  by_cases hx : m = x
  · subst hx
    simp only [↓reduceIte]
    exact ⟨by rw [Maps.has_put_same h2 (show WideAt.IsKeyLit (.string m) from trivial)]; simp, by rw [Maps.atKey_put_same h2 (show WideAt.IsKeyLit (.string m) from trivial)]; simp⟩
  · simp only [hx, ↓reduceIte]
    have hne : (Lit.string x) ≠ .string m := fun q => hx (by cases q; rfl)
    exact ⟨by rw [Maps.has_put_other hne]; exact (h3 x).1, by rw [Maps.atKey_put_other hne]; exact (h3 x).2⟩
end Go.Proofs.YtkhdbolnhcfgkaaGreatDoor

/- plain.Category; phrases.Choose: what a map has for the category of a number. -/
namespace Go.Proofs.YtkhdbolnhcfgkaaGreatDoor
open Go Go.RowKit
set_option maxRecDepth 10000

/-- all that the category of a number wants of a world -/
structure PlurW (w : World) : Prop where
  rt : RT0 w
  names : NamesAt w
  err : ErrT w
theorem PlurW.below {w w' : World} (h : PlurW w) (hb : Below w.heap.size w w') : PlurW w' := ⟨h.rt.below hb, h.names.below hb, h.err.below hb⟩

theorem catC_cases (rs : List Rul) (s : List UInt8) : catC rs s = 0 ∨ catC rs s = 9 ∨ catC rs s = 10 := by
  unfold catC
  split
  · split
    · exact .inl rfl
    · exact .inr (.inr rfl)
  · exact .inr (.inl rfl)

theorem sortL_len {rs : List Rul} (hz : ∀ q ∈ rs, q.1.length ≤ 1000000) (x : Dg) : (sortL rs x).length ≤ 1000000 := by
  induction rs with
  | nil => show othW.length ≤ _; decide
  | cons q t ih =>
    obtain ⟨n, c⟩ := q
    unfold sortL
    split
    · exact hz _ (List.mem_cons_self ..)
    · exact ih (fun q hq => hz q (List.mem_cons_of_mem _ hq))

theorem catT_len {rs : List Rul} (hz : ∀ q ∈ rs, q.1.length ≤ 1000000 ∧ q.2.length ≤ 1000000) (s : List UInt8) : (catT rs s).length ≤ 1000000 := by
  unfold catT
  split
  · exact sortL_len (fun q hq => (hz q hq).1) _
  · decide

set_option maxHeartbeats 2000000 in
theorem pcategory_any (rs : List Rul) (v : Value) (s : ByteArray) (w : World) (hv : RulesAt w v rs) (hl : rs.length ≤ 1000000) (hz : ∀ q ∈ rs, q.1.length ≤ 1000000 ∧ q.2.length ≤ 1000000) (hs : s.size ≤ 1000000) (hP : PlurW w) :
    Calls Tryz.prog 10 #[v, .string s] w fun e w' => e = .returned (.tuple #[strv (catT rs s.data.toList), .int .i64 (catC rs s.data.toList)]) ∧ Below w.heap.size w w' := by
  have hcall := category_any rs v s w hv hl hz hs hP.rt hP.names
  unfold CatPost at hcall
  generalize catT rs s.data.toList = tx at *
  generalize catC rs s.data.toList = cd at *
  have HCALL := Lib.hid hcall
  have HE := Lib.hid hP.err
  clear hcall hP hz hv
  go_enter Tryz.func10, Tryz.ntmps10
  go_wp2_with fail
  refine HCALL.out.mono ?_
  rintro e w1 ⟨rfl, hb1⟩
  go_wp2_with fail
  refine (tell_e cd _ (HE.out.below hb1)).mono ?_
  rintro e w2 ⟨rfl, hb2⟩
  have hb02 := hb1.trans (hb2.mono hb1.size)
  clear hb2 hb1
  go_wp2
  go_ret2
  exact ⟨rfl, hb02⟩

/-- which number is chosen, which error there is: t: the category, c: the error of the category, f: what the map has -/
def chN (c : Int) (t : Wd) (f : Wd → Nat) : Nat := if c = 0 then if 0 < f t then f t else f othW else 0
def chC (c : Int) (t : Wd) (f : Wd → Nat) : Int := if c = 0 then if 0 < f t ∨ 0 < f othW then 0 else 16 else c

theorem eql_err (n : Int) (w : World) : (binOp .neq 49 (.iface 33 (.int .i64 n)) .nilIface).run Tryz.prog w = .ok (.bool true) w := by
  have h : ∀ d : Nat, (Op.equalIn (d + 1) 49 (.iface 33 (.int .i64 n)) .nilIface).run Tryz.prog w = .ok false w := fun d => by
    simp [Op.equalIn, run_underlying Tryz.underlying49]
  simp only [binOp]
  simp [Op.equal, Op.maxDepth, h 9999]

set_option maxHeartbeats 4000000 in
theorem choose_i (rs : List Rul) (v : Value) (s : ByteArray) (b n : Nat) (f : Wd → Nat) (w : World) (hv : RulesAt w v rs) (hl : rs.length ≤ 1000000) (hz : ∀ q ∈ rs, q.1.length ≤ 1000000 ∧ q.2.length ≤ 1000000) (hs : s.size ≤ 1000000) (hP : PlurW w)
    (hM : MapI w b n f) :
    Calls Tryz.prog 27 #[v, .string s, .map (some b)] w fun e w' =>
      e = .returned (.tuple #[.int .i64 (chN (catC rs s.data.toList) (catT rs s.data.toList) f), errV (chC (catC rs s.data.toList) (catT rs s.data.toList) f)]) ∧ Below w.heap.size w w' := by
  have hcall := category_any rs v s w hv hl hz hs hP.rt hP.names
  unfold CatPost at hcall
  have hlen := catT_len hz s.data.toList
  generalize catT rs s.data.toList = tx at *
  generalize catC rs s.data.toList = cd at *
  have HCALL := Lib.hid hcall
  have HM := Lib.hid hM
  have HLEN := Lib.hid hlen
  clear hcall hP hz hv hM hlen
  by_cases hc : cd = 0
  · subst hc
    go_enter Tryz.func27, Tryz.ntmps27
    go_wp2_with fail
    refine HCALL.out.mono ?_
    rintro e w1 ⟨rfl, hb1⟩
    have hl1 := (HM.out.below hb1).look tx HLEN.out
    have hl2 := (HM.out.below hb1).look othW (by decide)
    rw [show strv othW = .string ⟨#[111, 116, 104, 101, 114]⟩ from rfl] at hl2
    rw [show errV 0 = .nilIface from rfl]
    obtain ⟨k, hk⟩ : ∃ k, f tx = k := ⟨_, rfl⟩
    obtain ⟨j, hj⟩ : ∃ j, f othW = j := ⟨_, rfl⟩
    rw [hk] at hl1
    rw [hj] at hl2
    by_cases h1 : 0 < k
    · have g1 : decide (0 < k) = true := decide_eq_true h1
      rw [g1] at hl1
      have HF := Lib.hid (show chN 0 tx f = k by unfold chN; rw [if_pos rfl, hk, if_pos h1])
      have HG := Lib.hid (show chC 0 tx f = 0 by unfold chC; rw [if_pos rfl, hk, if_pos (.inl h1)])
      clear hk hj h1 g1 hl2
      go_wp2
      go_ret2
      exact ⟨by rw [HF.out, HG.out]; rfl, hb1⟩
    · have g1 : decide (0 < k) = false := decide_eq_false h1
      rw [g1] at hl1
      by_cases h2 : 0 < j
      · have g2 : decide (0 < j) = true := decide_eq_true h2
        rw [g2] at hl2
        have HF := Lib.hid (show chN 0 tx f = j by unfold chN; rw [if_pos rfl, hk, if_neg h1, hj])
        have HG := Lib.hid (show chC 0 tx f = 0 by unfold chC; rw [if_pos rfl, hj, if_pos (.inr h2)])
        clear hk hj h1 h2 g1 g2
        go_wp2
        go_ret2
        exact ⟨by rw [HF.out, HG.out]; rfl, hb1⟩
      · have g2 : decide (0 < j) = false := decide_eq_false h2
        rw [g2] at hl2
        have HF := Lib.hid (show chN 0 tx f = j by unfold chN; rw [if_pos rfl, hk, if_neg h1, hj])
        have HG := Lib.hid (show chC 0 tx f = 16 by unfold chC; rw [if_pos rfl, hk, hj, if_neg (by simp; omega)])
        clear hk hj h1 h2 g1 g2
        go_wp2
        go_ret2
        exact ⟨by rw [HF.out, HG.out]; rfl, hb1⟩
  · have hq := eql_err cd
    have HE := Lib.hid (show errV cd = .iface 33 (.int .i64 cd) by unfold errV; rw [if_neg hc])
    have HF := Lib.hid (show chN cd tx f = 0 by unfold chN; rw [if_neg hc])
    have HG := Lib.hid (show chC cd tx f = cd by unfold chC; rw [if_neg hc])
    clear hc
    go_enter Tryz.func27, Tryz.ntmps27
    go_wp2_with fail
    refine HCALL.out.mono ?_
    rintro e w1 ⟨rfl, hb1⟩
    rw [HE.out]
    go_wp2
    go_ret2
    exact ⟨by rw [HF.out, HG.out, HE.out]; rfl, hb1⟩
end Go.Proofs.YtkhdbolnhcfgkaaGreatDoor

/- What the rows' lists of package-level variables give: the tables' cells; a world that holds them (for the witness). -/
namespace Go.Proofs.YtkhdbolnhcfgkaaGreatDoor
open Go.ChangeShapes Go.WideShapes Go.ChangeAt Go.RowKit Go.Lib
set_option maxRecDepth 10000

theorem own : ownKnob Tryz.prog.godebug = none := by kernel_rfl
theorem etG : Tryz.prog.globalNamed "errors.errorType" = some 1 := by kernel_rfl
theorem rtT : (Tryz.prog.cutTypes.find? (·.1 == "internal/reflectlite.rtype")).map (·.2) = some 135 := by kernel_rfl
theorem errRow : ((List.range Tryz.prog.types.size).filter fun t => Tryz.prog.rowNamed t [101, 114, 114, 111, 114]) = [49] := by kernel_rfl

/-- what all rows of this seat list -/
abbrev listed : List (String × DataW Unit) := Rows.categoriesRow.laid
/-- the list without the handle -/
abbrev laidL : List (String × DataW Unit) := listed.filter fun x => x.2.handleName?.isNone

theorem met_parts {W : World} (h : laidMetH Tryz.prog listed W) : laidMet Tryz.prog laidL W ∧ handlesMet Tryz.prog [("errors.errorType", Rows.laid_errors_errorType)] W := h

theorem errT_of {W : World} (h : laidMetH Tryz.prog listed W) : ErrT W := by
  obtain ⟨name, u, ty, e1, e2, e3, e4, e5⟩ := (met_parts h).2 _ (List.mem_singleton.2 rfl)
  have en : name = [101, 114, 114, 111, 114] := (Option.some.inj e1).symm
  subst en
  obtain rfl := Option.some.inj (rtT.symm.trans e2)
  have hm : ty ∈ (List.range Tryz.prog.types.size).filter fun t => Tryz.prog.rowNamed t [101, 114, 114, 111, 114] := List.mem_filter.2 ⟨List.mem_range.2 e3, e4⟩
  rw [errRow] at hm
  obtain rfl := List.mem_singleton.1 hm
  have hh : typeHandle Tryz.prog 49 = hdl 49 := by kernel_rfl
  rw [hh] at e5
  unfold ErrT
  simpa using World.var?_cell etG e5 0

theorem mem_names : ("phrases/plural.Names", Rows.laid_phrases_plural_Names) ∈ laidL := List.mem_filter.2 ⟨.tail _ (.tail _ (.tail _ (.tail _ (.tail _ (.tail _ (.tail _ (.head _))))))), by kernel_rfl⟩
theorem mem_range : ("strconv.ErrRange", Rows.laid_strconv_ErrRange) ∈ laidL := List.mem_filter.2 ⟨.tail _ (.tail _ (.tail _ (.tail _ (.tail _ (.head _))))), by kernel_rfl⟩
theorem mem_syntax : ("strconv.ErrSyntax", Rows.laid_strconv_ErrSyntax) ∈ laidL := List.mem_filter.2 ⟨.tail _ (.tail _ (.tail _ (.tail _ (.tail _ (.tail _ (.head _)))))), by kernel_rfl⟩
theorem gNames : Tryz.prog.globalNamed "phrases/plural.Names" = some 0 := by kernel_rfl
theorem gNamesT : (Tryz.prog.globals[0]?).map (·.type) = some 76 := by kernel_rfl
theorem gRange : Tryz.prog.globalNamed "strconv.ErrRange" = some 4 := by kernel_rfl
theorem gRangeT : (Tryz.prog.globals[4]?).map (·.type) = some 49 := by kernel_rfl
theorem gSyntax : Tryz.prog.globalNamed "strconv.ErrSyntax" = some 3 := by kernel_rfl
theorem gSyntaxT : (Tryz.prog.globals[3]?).map (·.type) = some 49 := by kernel_rfl
theorem cStr : Tryz.prog.cellsOf 9 = 1 := by kernel_rfl

/-- a datum of an interface is read of an interface's value -/
theorem iface_of {H : Type} {enc : TypeId × Value → H} {P : Program} {w : World} {base : Nat} {sp : Nat → Bool} {held : Bool} {fuel : Nat} {t : TypeId} {cs : List Value} {n : String} {d : DataW H} {p : List MemPlace} (ht : ∃ ms, P.underlying t = some (.interface ms))
    (h : DataW.trod enc P w base sp held fuel t cs = some (.iface n d, p)) : ∃ u v, cs = [.iface u v] := by
  cases fuel with
  | zero => simp [DataW.trod] at h
  | succ k =>
    unfold DataW.trod at h
    obtain ⟨ms, ht⟩ := ht
    rw [ht] at h
    split at h <;> simp_all

theorem iface_read {W : World} {n : String} {g : Nat} {nm : String} {d : DataW Unit} (hg : Tryz.prog.globalNamed n = some g) (hT : (Tryz.prog.globals[g]?).map (·.type) = some 49) (h : VarReads Tryz.prog W n (.iface nm d)) :
    ∃ t v, W.cell? ⟨g, 0, none⟩ = some (.iface t v) := by
  obtain ⟨g', t, cs, fuel, p, hg', hty, hvar, hd⟩ := h
  obtain rfl := Option.some.inj (hg.symm.trans hg')
  obtain rfl := Option.some.inj (hT.symm.trans hty)
  obtain ⟨u, v, hcs⟩ := iface_of ⟨_, Tryz.underlying49⟩ hd
  refine ⟨u, v, ?_⟩
  rw [World.var?_cell hg hvar 0, ← Array.getElem?_toList, hcs]
  rfl

theorem rt_of {W : World} (h : laidMetH Tryz.prog listed W) : RT0 W :=
  ⟨iface_read gSyntax gSyntaxT (Lib.laidMet.reads (met_parts h).1 mem_syntax), iface_read gRange gRangeT (Lib.laidMet.reads (met_parts h).1 mem_range)⟩

theorem names_of {W : World} (h : laidMetH Tryz.prog listed W) : NamesAt W := by
  intro j hj
  obtain ⟨g, t, cs, fuel, p, hg, hty, hvar, hd⟩ := Lib.laidMet.reads (met_parts h).1 mem_names
  obtain rfl := Option.some.inj (gNames.symm.trans hg)
  obtain rfl := Option.some.inj (gNamesT.symm.trans hty)
  obtain ⟨fuel2, d, q, hdi, he⟩ := array_elem Tryz.underlying76 hd j hj
  rw [cStr] at he
  obtain ⟨s, hs, hx, _⟩ := DataW.trod_string Tryz.underlying9 he
  have hc : cs.toList[j]? = some (.string s) := by
    have := congrArg (·[0]?) hs
    simpa [List.getElem?_take, List.getElem?_drop] using this
  rw [World.var?_cell hg hvar j, ← Array.getElem?_toList, hc]
  simp only [Prod.mk.injEq] at hx
  obtain ⟨rfl, _⟩ := hx
  have hs2 : (catsB.getD j ByteArray.empty).data.toList = s.data.toList := by
    match j, hj with
    | 0, _ => (simp at hdi; exact hdi)
    | 1, _ => (simp at hdi; exact hdi)
    | 2, _ => (simp at hdi; exact hdi)
    | 3, _ => (simp at hdi; exact hdi)
    | 4, _ => (simp at hdi; exact hdi)
    | 5, _ => (simp at hdi; exact hdi)
  rw [ByteArray.ext (Array.toList_inj.1 hs2)]

theorem plural_of {W : World} (h : laidMetH Tryz.prog listed W) : PlurW W := ⟨rt_of h, names_of h, errT_of h⟩

/-- a list of texts among the arguments -/
theorem strs_weights {P : Program} {H : Type} (t : TypeId) : ∀ (ss : List ByteArray), (∀ n ∈ DataW.weightsAll P t (strs (H := H) ss), n ≤ reachBytes) → ∀ s ∈ ss, s.size ≤ reachBytes
  | [], _, s, hs => by cases hs
  | a :: r, h, s, hs => by
    have e : DataW.weightsAll P t (strs (H := H) (a :: r)) = a.data.toList.length :: DataW.weightsAll P t (strs (H := H) r) := by simp [strs, DataW.weightsAll, DataW.weights]
    rw [e] at h
    rcases List.mem_cons.1 hs with rfl | hs
    · have := h _ (List.mem_cons_self ..)
      simpa using this
    · exact strs_weights t r (fun n hn => h n (List.mem_cons_of_mem _ hn)) s hs

/-- .. lies in memory; its sizes; behind the call it reads as ahead -/
theorem open_list {H : Type} {enc : TypeId × Value → H} {W : World} {v : Value} {d : DataW H} {p : List MemPlace} {ts : List TypeId} {ds : List (DataW H)} {j : Nat} (hval : Value.okWide Tryz.prog W .any 0 22 v ∨ ∃ base, Value.okWide Tryz.prog W .any base 22 v)
    (hx : DataW.Trod enc Tryz.prog W 0 (fun _ => true) true 22 v d p) (hwt : (DataW.weightsEach Tryz.prog ts ds).all (· ≤ reachBytes) = true) (ht : ts[j]? = some 22) (hd : ds[j]? = some d) :
    ∃ ws, StrsAt W v ws ∧ ws.length ≤ 140737488355328 ∧ (∀ m ∈ ws, m.length ≤ 140737488355328) ∧ ∀ x ∈ p, x.block < W.heap.size := by
  obtain ⟨a1, l1, c1, rfl⟩ : ∃ a l c, v = .slice a l c := by
    rcases hval with h | ⟨b, h⟩
    · exact okWide_slice Tryz.underlying22 h
    · exact okWide_slice Tryz.underlying22 h
  obtain ⟨k1, hk1⟩ := hx
  have hr := reachBytes_lt
  rcases open_strings Tryz.underlying22 Tryz.underlying9 cStr hk1 with ⟨hcs, hx⟩ | ⟨a, len, cap, ss, hcs, hb, hl, hm, hz, hx, hc, hsz⟩
  · have hv : Value.slice a1 l1 c1 = .slice none 0 0 := by simpa [Value.cells] using hcs
    rw [hv]
    exact ⟨[], ⟨none, 0, rfl, Nat.le_refl _, Nat.zero_le _, fun _ => rfl, fun j h => absurd h (Nat.not_lt_zero j)⟩, Nat.zero_le _, (fun m hm => by cases hm), fun x hxp => by simp only [Prod.mk.injEq] at hx; rw [hx.2] at hxp; cases hxp⟩
  · have hv : Value.slice a1 l1 c1 = .slice (some a) len cap := by simpa [Value.cells] using hcs
    rw [hv]
    simp only [if_true] at hz
    simp only [Prod.mk.injEq] at hx
    have hmem := DataW.weights_mem_each (P := Tryz.prog) ht hd
    rw [hx.1] at hmem
    simp only [DataW.weights, Tryz.underlying22] at hmem
    have hall : ∀ n, n ∈ (((strs (H := H) (ss.take len)).length + (strs (H := H) (ss.drop len)).length) * Tryz.prog.bytesOf 9 :: (DataW.weightsAll Tryz.prog 9 (strs (H := H) (ss.take len)) ++ DataW.weightsAll Tryz.prog 9 (strs (H := H) (ss.drop len)))) → n ≤ reachBytes := fun n hn => by
      have := List.all_eq_true.1 hwt n (hmem n hn)
      simpa using this
    have h1 := hall _ (List.mem_cons_self ..)
    rw [show Tryz.prog.bytesOf 9 = 16 by kernel_rfl] at h1
    simp [strs] at h1
    have h2 := strs_weights (H := H) (P := Tryz.prog) 9 (ss.take len) (fun n hn => hall n (List.mem_cons_of_mem _ (List.mem_append.2 (.inl hn))))
    refine ⟨(ss.take len).map (fun s => s.data.toList), ⟨some a, cap, by simp; omega, by simp; omega, hm, (fun q => by cases q), fun j hj => ⟨a, rfl, ?_⟩⟩, by simp; omega, ?_, ?_⟩
    · have hj2 : j < ss.length := by simp at hj; omega
      rw [hc j hj2, List.getElem_map, List.getElem_take]
      simp [strv, List.getD_eq_getElem?_getD, hj2]
    · intro m hmm
      obtain ⟨s, hs, rfl⟩ := List.mem_map.1 hmm
      have := h2 s hs
      rw [size_toList]
      omega
    · intro x hxp
      rw [hx.2] at hxp
      obtain ⟨i, hi, rfl⟩ := List.mem_map.1 hxp
      have hi2 : i < ss.length := by simpa using hi
      have := World.block_lt_of_cell? W _ (hc i hi2)
      rw [addr_add] at this
      simpa [MemPlace.block] using this

/-- a datum's cells -/
def flatD : Nat → DataW Unit → List Value
  | 0, _ => []
  | _ + 1, .lit (.int k z) => [.int k z]
  | _ + 1, .lit (.string b) => [.string ⟨b.toArray⟩]
  | n + 1, .agg parts => parts.flatMap (flatD n)
  | _, _ => []

/-- A world for the witness: the settled one, each listed variable holding what its initialiser lays, and the two sentinels' own blocks. -/
noncomputable def laidWorld (os : Os) : World :=
  let N := (World.settled Tryz.prog os).heap.size
  let w0 := World.holding Tryz.prog os ⟨#[.cells #[.string ⟨#[118, 97, 108, 117, 101, 32, 111, 117, 116, 32, 111, 102, 32, 114, 97, 110, 103, 101]⟩] 207, .cells #[.string ⟨#[105, 110, 118, 97, 108, 105, 100, 32, 115, 121, 110, 116, 97, 120]⟩] 207], #[], []⟩
  let put (h : Array Obj) (g : Nat) (cs : List Value) : Array Obj := h.modify g fun
    | .cells _ t frozen => .cells cs.toArray t frozen
    | o => o
  let h1 := put w0.heap 1 [.iface 135 (.agg #[hdl 49])]
  let h2 := put h1 0 (flatD 3 Rows.laid_phrases_plural_Names)
  let h3 := put h2 5 (flatD 3 Rows.laid_unicode_utf8_first)
  let h4 := put h3 6 (flatD 3 Rows.laid_unicode_utf8_acceptRanges)
  let h5 := put h4 4 [.iface 205 (.pointer (some ⟨N, 0, none⟩))]
  let h6 := put h5 3 [.iface 205 (.pointer (some ⟨N + 1, 0, none⟩))]
  let h7 := put h6 7 (flatD 3 Rows.laid_internal_strconv_uint64pow10)
  let h8 := put h7 8 (flatD 3 Rows.laid_math_bits_deBruijn32tab)
  let h9 := put h8 9 (flatD 3 Rows.laid_math_bits_deBruijn64tab)
  { w0 with heap := h9 }

set_option maxRecDepth 1000000 in
theorem laid_met (os : Os) (args : Array Value) : laidMetH Tryz.prog listed ((laidWorld os).forCall (fun _ _ => 0) ⟨#[], args, []⟩).memory :=
  laidMetH_of_parts (laidMet_of_run' 8 (by kernel_rfl) (by kernel_rfl)) (by kernel_rfl)
end Go.Proofs.YtkhdbolnhcfgkaaGreatDoor

/- phrases.Choose of pairs. -/
namespace Go.Proofs.YtkhdbolnhcfgkaaGreatDoor
open Go Go.RowKit
set_option maxRecDepth 10000

/-- the pair that is chosen -/
def chP (c : Int) (t : Wd) (f : Wd → Nat) : Wd × Nat :=
  if c = 0 then if 0 < f t then (t, f t - 1) else if 0 < f othW then (othW, f othW - 1) else ([], 0) else ([], 0)

set_option maxHeartbeats 4000000 in
theorem choose_p (rs : List Rul) (v : Value) (s : ByteArray) (b n : Nat) (f : Wd → Nat) (w : World) (hv : RulesAt w v rs) (hl : rs.length ≤ 1000000) (hz : ∀ q ∈ rs, q.1.length ≤ 1000000 ∧ q.2.length ≤ 1000000) (hs : s.size ≤ 1000000) (hP : PlurW w)
    (hM : MapP w b n f) :
    Calls Tryz.prog 19 #[v, .string s, .map (some b)] w fun e w' =>
      e = .returned (.tuple #[.agg #[strv (chP (catC rs s.data.toList) (catT rs s.data.toList) f).1, .int .i64 (chP (catC rs s.data.toList) (catT rs s.data.toList) f).2], errV (chC (catC rs s.data.toList) (catT rs s.data.toList) f)]) ∧ Below w.heap.size w w' := by
  have hcall := fun W h1 h2 => category_any rs v s W h1 hl hz hs (PlurW.rt h2) (PlurW.names h2)
  unfold CatPost at hcall
  have hlen := catT_len hz s.data.toList
  generalize catT rs s.data.toList = tx at *
  generalize catC rs s.data.toList = cd at *
  have HCALL := Lib.hid hcall
  have HM := Lib.hid hM
  have HLEN := Lib.hid hlen
  have HV := Lib.hid hv
  have HP := Lib.hid hP
  obtain ⟨va, vn, vc, rfl⟩ : ∃ a n c, v = .slice a n c := by obtain ⟨a, c, rfl, _⟩ := hv; exact ⟨_, _, _, rfl⟩
  clear hcall hP hz hv hM hlen
  go_enter Tryz.func19, Tryz.ntmps19
  go_wp2_with fail
  refine calls_gen ?_
  intro W hW
  have hb : Below w.heap.size w W := by rw [hW]; exact (Below.refl _ _).alloc (Nat.le_refl _) _
  have c0 : W.cell? ⟨w.heap.size, 0, none⟩ = some (.string ⟨#[]⟩) := by rw [hW]; exact cell_made _ _ _ _ _
  have c1 : W.cell? ⟨w.heap.size, 1, none⟩ = some (.int .i64 0) := by rw [hW]; exact cell_made _ _ _ _ _
  have z0 : W.frozen? ⟨w.heap.size, 0, none⟩ = false := by rw [hW]; go_simp
  have z1 : W.frozen? ⟨w.heap.size, 1, none⟩ = false := by rw [hW]; go_simp
  clear hW
  refine (HCALL.out W (HV.out.below hb) (HP.out.below hb)).mono ?_
  rintro e w1 ⟨rfl, hb1⟩
  have hB : w.heap.size < W.heap.size := World.block_lt_of_cell? W _ c0
  have c0 := (hb1.cell (p := ⟨w.heap.size, 0, none⟩) hB).trans c0
  have c1 := (hb1.cell (p := ⟨w.heap.size, 1, none⟩) hB).trans c1
  have z0 := (hb1.frozen (p := ⟨w.heap.size, 0, none⟩) hB).trans z0
  have z1 := (hb1.frozen (p := ⟨w.heap.size, 1, none⟩) hB).trans z1
  have hb01 := hb.trans (hb1.mono hb.size)
  have hM1 := HM.out.below hb01
  clear hb hb1 hB
  obtain ⟨B, hBB⟩ : ∃ B, B = w.heap.size := ⟨_, rfl⟩
  rw [← hBB] at c0 c1 z0 z1 ⊢
  have HB := Lib.hid hBB
  clear hBB
  by_cases hc : cd = 0
  · subst hc
    have hl1 := fun W (h : Below w1.heap.size w1 W) => (hM1.below h).look tx HLEN.out
    rw [show errV 0 = .nilIface from rfl]
    obtain ⟨k, hk⟩ : ∃ k, f tx = k := ⟨_, rfl⟩
    obtain ⟨j, hj⟩ : ∃ j, f othW = j := ⟨_, rfl⟩
    rw [hk] at hl1
    by_cases h1 : 0 < k
    · rw [decide_eq_true h1, if_pos h1] at hl1
      have hl1' := hl1 w1 (Below.refl _ _)
      have HF := Lib.hid (show chP 0 tx f = (tx, k - 1) by unfold chP; rw [if_pos rfl, hk, if_pos h1])
      have HG := Lib.hid (show chC 0 tx f = 0 by unfold chC; rw [if_pos rfl, hk, if_pos (.inl h1)])
      clear hk hj hl1 h1 hM1
      go_wp2
      refine bodyPost_ret (v := .tuple #[.agg #[strv tx, .int .i64 ((k - 1 : Nat) : Int)], errV 0]) ?_ rfl ⟨by rw [HF.out, HG.out] <;> rfl, ?_⟩
      · simp [results, Tryz.results19, go_sem, cellSet, c0, c1, errV]
      · (repeat (first | (with_reducible exact hb01) | (with_reducible refine Below.setCell ?_ ?_ _; rotate_left; focus (show w.heap.size ≤ B; have := HB.out; omega)) | (with_reducible refine Below.alloc ?_ ?_ _; rotate_left; focus (simp; exact hb01.size))))
    · rw [decide_eq_false h1, if_neg h1, show k - 1 = 0 by omega] at hl1
      have hl1' := hl1 w1 (Below.refl _ _)
      have hmap : ∀ W, (∀ i, i ≠ B → W.heap[i]? = w1.heap[i]?) → W.heap.size = w1.heap.size → MapP W b n f := by
        intro W h1 h2
        obtain ⟨D, hD, h3⟩ := hM1
        obtain ⟨es, clock, hb0, F, hs0, rfl⟩ := hD
        have hne : b ≠ B := by
          rintro rfl
          unfold World.cell? at c0
          rw [hb0] at c0
          cases c0
        exact ⟨_, ⟨es, clock, (h1 b hne).trans hb0, F, hs0, rfl⟩, h3⟩
      have hl2' := (hmap ((w1.setCell ⟨B, 0, none⟩ (strv [])).setCell ⟨B, 1, none⟩ (.int .i64 0)) (fun i hi => by simp [World.setCell, Array.getElem?_modify, Ne.symm hi]) (by simp [World.setCell])).look othW (by decide)
      rw [hj, show strv othW = .string ⟨#[111, 116, 104, 101, 114]⟩ from rfl] at hl2'
      by_cases h2 : 0 < j
      · rw [decide_eq_true h2, if_pos h2, show strv othW = .string ⟨#[111, 116, 104, 101, 114]⟩ from rfl] at hl2'
        have HF := Lib.hid (show chP 0 tx f = (othW, j - 1) by unfold chP; rw [if_pos rfl, hk, if_neg h1, hj, if_pos h2])
        have HG := Lib.hid (show chC 0 tx f = 0 by unfold chC; rw [if_pos rfl, hj, if_pos (.inr h2)])
        clear hk hj hl1 h1 h2 hM1 hmap
        have e0 : (((((w1.setCell ⟨B, 0, none⟩ (strv [])).setCell ⟨B, 1, none⟩ (.int .i64 0)).setCell ⟨B, 0, none⟩ (.string ⟨#[111, 116, 104, 101, 114]⟩)).setCell ⟨B, 1, none⟩ (.int .i64 ((j - 1 : Nat) : Int)))).cell? ⟨B, 0, none⟩ = some (.string ⟨#[111, 116, 104, 101, 114]⟩) := by simp [cellSet, c0, c1]
        have e1 : (((((w1.setCell ⟨B, 0, none⟩ (strv [])).setCell ⟨B, 1, none⟩ (.int .i64 0)).setCell ⟨B, 0, none⟩ (.string ⟨#[111, 116, 104, 101, 114]⟩)).setCell ⟨B, 1, none⟩ (.int .i64 ((j - 1 : Nat) : Int)))).cell? ⟨B, 1, none⟩ = some (.int .i64 ((j - 1 : Nat) : Int)) := by simp [cellSet, c0, c1]
        go_wp2
        refine bodyPost_ret (v := .tuple #[.agg #[strv othW, .int .i64 ((j - 1 : Nat) : Int)], errV 0]) ?_ rfl ⟨by rw [HF.out, HG.out] <;> rfl, ?_⟩
        · simp [results, Tryz.results19, go_sem, cellSet, c0, c1, errV, othW]
        · (repeat (first | (with_reducible exact hb01) | (with_reducible refine Below.setCell ?_ ?_ _; rotate_left; focus (show w.heap.size ≤ B; have := HB.out; omega)) | (with_reducible refine Below.alloc ?_ ?_ _; rotate_left; focus (simp; exact hb01.size))))
      · rw [decide_eq_false h2, if_neg h2, show j - 1 = 0 by omega] at hl2'
        have HF := Lib.hid (show chP 0 tx f = ([], 0) by unfold chP; rw [if_pos rfl, hk, if_neg h1, hj, if_neg h2])
        have HG := Lib.hid (show chC 0 tx f = 16 by unfold chC; rw [if_pos rfl, hk, hj, if_neg (by simp; omega)])
        clear hk hj hl1 h1 h2 hM1 hmap
        have e0 : (((((w1.setCell ⟨B, 0, none⟩ (strv [])).setCell ⟨B, 1, none⟩ (.int .i64 0)).setCell ⟨B, 0, none⟩ (strv [])).setCell ⟨B, 1, none⟩ (.int .i64 0))).cell? ⟨B, 0, none⟩ = some (strv []) := by simp [cellSet, c0, c1]
        have e1 : (((((w1.setCell ⟨B, 0, none⟩ (strv [])).setCell ⟨B, 1, none⟩ (.int .i64 0)).setCell ⟨B, 0, none⟩ (strv [])).setCell ⟨B, 1, none⟩ (.int .i64 0))).cell? ⟨B, 1, none⟩ = some (.int .i64 0) := by simp [cellSet, c0, c1]
        go_wp2
        refine bodyPost_ret (v := .tuple #[.agg #[strv [], .int .i64 0], errV 16]) ?_ rfl ⟨by rw [HF.out, HG.out] <;> rfl, ?_⟩
        · simp [results, Tryz.results19, go_sem, cellSet, c0, c1, errV]
        · (repeat (first | (with_reducible exact hb01) | (with_reducible refine Below.setCell ?_ ?_ _; rotate_left; focus (show w.heap.size ≤ B; have := HB.out; omega)) | (with_reducible refine Below.alloc ?_ ?_ _; rotate_left; focus (simp; exact hb01.size))))
  · have hq := eql_err cd
    have HE := Lib.hid (show errV cd = .iface 33 (.int .i64 cd) by unfold errV; rw [if_neg hc])
    have HF := Lib.hid (show chP cd tx f = ([], 0) by unfold chP; rw [if_neg hc])
    have HG := Lib.hid (show chC cd tx f = cd by unfold chC; rw [if_neg hc])
    rw [HE.out]
    go_wp2
    refine bodyPost_ret (v := .tuple #[.agg #[strv [], .int .i64 0], errV cd]) ?_ rfl ⟨by rw [HF.out, HG.out] <;> rfl, ?_⟩
    · simp [results, Tryz.results19, go_sem, cellSet, c0, c1, errV, hc]
    · (repeat (first | (with_reducible exact hb01) | (with_reducible refine Below.setCell ?_ ?_ _; rotate_left; focus (show w.heap.size ≤ B; have := HB.out; omega)) | (with_reducible refine Below.alloc ?_ ?_ _; rotate_left; focus (simp; exact hb01.size))))
end Go.Proofs.YtkhdbolnhcfgkaaGreatDoor

/- plain.Choose and plain.Both. -/
namespace Go.Proofs.YtkhdbolnhcfgkaaGreatDoor
open Go Go.RowKit
set_option maxRecDepth 10000

set_option maxHeartbeats 4000000 in
theorem pchoose_any (rs : List Rul) (v : Value) (s : ByteArray) (nv : Value) (ws : List Wd) (w : World) (hv : RulesAt w v rs) (hl : rs.length ≤ 1000000) (hz : ∀ q ∈ rs, q.1.length ≤ 1000000 ∧ q.2.length ≤ 1000000) (hs : s.size ≤ 1000000) (hP : PlurW w)
    (hN : StrsAt w nv ws) (hwl : ws.length ≤ 100000) (hwz : ∀ m ∈ ws, m.length ≤ 1000000) :
    Calls Tryz.prog 15 #[v, .string s, nv] w fun e w' =>
      e = .returned (.tuple #[.int .i64 (chN (catC rs s.data.toList) (catT rs s.data.toList) (lastN ws)), .int .i64 (chC (catC rs s.data.toList) (catT rs s.data.toList) (lastN ws))]) ∧ Below w.heap.size w w' := by
  obtain ⟨na, ncap, rfl, hn1, hn2, hn3, hnc⟩ := hN
  obtain ⟨va, vn, vc, rfl⟩ : ∃ a n c, v = .slice a n c := by obtain ⟨a, c, rfl, _⟩ := hv; exact ⟨_, _, _, rfl⟩
  have HNC := Lib.hid hnc
  have HWZ := Lib.hid hwz
  have HV := Lib.hid hv
  have HP := Lib.hid hP
  have hcall := fun (b n : Nat) (f : Wd → Nat) (W : World) (h1 : Below w.heap.size w W) h2 => choose_i rs (.slice va vn vc) s b n f W (HV.out.below h1) hl hz hs (HP.out.below h1) h2
  generalize catT rs s.data.toList = tx at *
  generalize catC rs s.data.toList = cd at *
  have HCALL := Lib.hid hcall
  have hmm := @run_makeMap Tryz.prog
  clear hnc hwz hv hP hcall hz hs hn1 hn2 hn3
  go_enter Tryz.func15, Tryz.ntmps15
  go_wp2
  refine wp_gen ?_
  intro W hW
  have hb : Below w.heap.size w W := by rw [hW]; exact (Below.refl _ _).alloc (Nat.le_refl _) _
  have hM : MapI W w.heap.size 0 (fun _ => 0) := by rw [hW]; exact MapI.made w
  clear hW hmm
  obtain ⟨B, hB⟩ : ∃ B, B = w.heap.size := ⟨_, rfl⟩
  rw [← hB] at hM ⊢
  have HB := Lib.hid hB
  have HM := Lib.hid hM
  clear hB hM
  go_loopw [18] (fun i wr => ∃ k : Nat, k ≤ ws.length ∧ i = .int .i64 k ∧ MapI wr B k (lastN (ws.take k)) ∧ Below w.heap.size w wr) (fun i _ => ws.length - (intOf i).toNat)
  case atStart => exact ⟨0, Nat.zero_le _, rfl, HM.out, hb⟩
  case round =>
    obtain ⟨k, hk, rfl, hM, hbb⟩ := hrel
    by_cases hlt : k < ws.length
    · obtain ⟨g, rfl, hcell⟩ := HNC.out k hlt
      have hc := (hbb.cell (World.block_lt_of_cell? _ _ hcell)).trans hcell
      obtain ⟨w1, hupd, hM1, hg1⟩ := hM.put ws[k] (HWZ.out _ (List.getElem_mem hlt)) k (by omega) (by omega)
      have HM1 := Lib.hid hM1
      have HF := Lib.hid (show (fun x => if ws[k] = x then k + 1 else lastN (ws.take k) x) = lastN (ws.take (k + 1)) from funext fun x => (last_take ws k hlt x).symm)
      have hb1 := hbb.grown hg1 hbb.size (fun q hq => by cases hq; exact Nat.le_of_eq HB.out.symm)
      obtain ⟨m, hm⟩ : ∃ m, ws[k] = m := ⟨_, rfl⟩
      rw [hm] at hc hupd
      clear hcell hM hM1 hg1 hm
      go_wp2
      go_roundw
      case rel => exact ⟨k + 1, by omega, by go_num, HF.out ▸ HM1.out, hb1⟩
      case measure => simp [intOf]; omega
    · obtain rfl : k = ws.length := by omega
      rw [List.take_length] at hM
      have HM2 := Lib.hid hM
      clear hM
      go_wp2_with fail
      refine (HCALL.out B ws.length _ wr hbb HM2.out).mono ?_
      rintro e w1 ⟨rfl, hb1⟩
      have hb01 := hbb.trans (hb1.mono hbb.size)
      clear HCALL HM2
      obtain ⟨kN, hkN⟩ : ∃ q, chN cd tx (lastN ws) = q := ⟨_, rfl⟩
      obtain ⟨kC, hkC⟩ : ∃ q, chC cd tx (lastN ws) = q := ⟨_, rfl⟩
      rw [hkN, hkC]
      have HKN := Lib.hid hkN
      have HKC := Lib.hid hkC
      clear hkN hkC
      go_wp2_with fail
      refine (tell_e kC _ (HP.out.err.below hb01)).mono ?_
      rintro e w2 ⟨rfl, hb2⟩
      have hb02 := hb01.trans (hb2.mono hb01.size)
      go_wp2
      go_ret2
      exact ⟨by rw [HKN.out, HKC.out]; rfl, hb02⟩

set_option maxHeartbeats 4000000 in
theorem pboth_any (rs : List Rul) (v : Value) (s : ByteArray) (nv : Value) (ws : List Wd) (w : World) (hv : RulesAt w v rs) (hl : rs.length ≤ 1000000) (hz : ∀ q ∈ rs, q.1.length ≤ 1000000 ∧ q.2.length ≤ 1000000) (hs : s.size ≤ 1000000) (hP : PlurW w)
    (hN : StrsAt w nv ws) (hwl : ws.length ≤ 100000) (hwz : ∀ m ∈ ws, m.length ≤ 1000000) :
    Calls Tryz.prog 11 #[v, .string s, nv] w fun e w' =>
      e = .returned (.tuple #[strv (chP (catC rs s.data.toList) (catT rs s.data.toList) (lastN ws)).1, .int .i64 (chP (catC rs s.data.toList) (catT rs s.data.toList) (lastN ws)).2, .int .i64 (chC (catC rs s.data.toList) (catT rs s.data.toList) (lastN ws))]) ∧ Below w.heap.size w w' := by
  obtain ⟨na, ncap, rfl, hn1, hn2, hn3, hnc⟩ := hN
  obtain ⟨va, vn, vc, rfl⟩ : ∃ a n c, v = .slice a n c := by obtain ⟨a, c, rfl, _⟩ := hv; exact ⟨_, _, _, rfl⟩
  have HNC := Lib.hid hnc
  have HWZ := Lib.hid hwz
  have HV := Lib.hid hv
  have HP := Lib.hid hP
  have hcall := fun (b n : Nat) (f : Wd → Nat) (W : World) (h1 : Below w.heap.size w W) h2 => choose_p rs (.slice va vn vc) s b n f W (HV.out.below h1) hl hz hs (HP.out.below h1) h2
  generalize catT rs s.data.toList = tx at *
  generalize catC rs s.data.toList = cd at *
  have HCALL := Lib.hid hcall
  have hmm := @run_makeMap Tryz.prog
  clear hnc hwz hv hP hcall hz hs hn1 hn2 hn3
  go_enter Tryz.func11, Tryz.ntmps11
  go_wp2
  refine wp_gen ?_
  intro W hW
  have hb : Below w.heap.size w W := by rw [hW]; exact (Below.refl _ _).alloc (Nat.le_refl _) _
  have hM : MapP W w.heap.size 0 (fun _ => 0) := by rw [hW]; exact MapP.made w
  clear hW hmm
  obtain ⟨B, hB⟩ : ∃ B, B = w.heap.size := ⟨_, rfl⟩
  rw [← hB] at hM ⊢
  have HB := Lib.hid hB
  have HM := Lib.hid hM
  clear hB hM
  go_loopw [19] (fun i wr => ∃ k : Nat, k ≤ ws.length ∧ i = .int .i64 k ∧ MapP wr B k (lastN (ws.take k)) ∧ Below w.heap.size w wr) (fun i _ => ws.length - (intOf i).toNat)
  case atStart => exact ⟨0, Nat.zero_le _, rfl, HM.out, hb⟩
  case round =>
    obtain ⟨k, hk, rfl, hM, hbb⟩ := hrel
    by_cases hlt : k < ws.length
    · obtain ⟨g, rfl, hcell⟩ := HNC.out k hlt
      have hc := (hbb.cell (World.block_lt_of_cell? _ _ hcell)).trans hcell
      obtain ⟨w1, hupd, hM1, hg1⟩ := hM.put ws[k] (HWZ.out _ (List.getElem_mem hlt)) k (by omega)
      have HM1 := Lib.hid hM1
      have HF := Lib.hid (show (fun x => if ws[k] = x then k + 1 else lastN (ws.take k) x) = lastN (ws.take (k + 1)) from funext fun x => (last_take ws k hlt x).symm)
      have hb1 := hbb.grown hg1 hbb.size (fun q hq => by cases hq; exact Nat.le_of_eq HB.out.symm)
      obtain ⟨m, hm⟩ : ∃ m, ws[k] = m := ⟨_, rfl⟩
      rw [hm] at hc hupd
      clear hcell hM hM1 hg1 hm
      go_wp2
      go_roundw
      case rel => exact ⟨k + 1, by omega, by go_num, HF.out ▸ HM1.out, hb1⟩
      case measure => simp [intOf]; omega
    · obtain rfl : k = ws.length := by omega
      rw [List.take_length] at hM
      have HM2 := Lib.hid hM
      clear hM
      go_wp2_with fail
      refine (HCALL.out B ws.length _ wr hbb HM2.out).mono ?_
      rintro e w1 ⟨rfl, hb1⟩
      have hb01 := hbb.trans (hb1.mono hbb.size)
      clear HCALL HM2
      obtain ⟨kN, hkN⟩ : ∃ q, chP cd tx (lastN ws) = q := ⟨_, rfl⟩
      obtain ⟨kC, hkC⟩ : ∃ q, chC cd tx (lastN ws) = q := ⟨_, rfl⟩
      rw [hkN, hkC]
      obtain ⟨pt, pk⟩ := kN
      dsimp only
      have HKN := Lib.hid hkN
      have HKC := Lib.hid hkC
      clear hkN hkC
      go_wp2_with fail
      refine calls_gen ?_
      intro W3 hW3
      have hb3 : Below w1.heap.size w1 W3 := by rw [hW3]; exact (Below.refl _ _).alloc (Nat.le_refl _) _
      have c0 : W3.cell? ⟨w1.heap.size, 0, none⟩ = some (strv pt) := by rw [hW3]; exact cell_made _ _ _ _ _
      have c1 : W3.cell? ⟨w1.heap.size, 1, none⟩ = some (.int .i64 pk) := by rw [hW3]; exact cell_made _ _ _ _ _
      have hb03 := hb01.trans (hb3.mono hb01.size)
      clear hW3
      have hlt3 : w1.heap.size < W3.heap.size := World.block_lt_of_cell? W3 _ c0
      refine (tell_e kC _ (HP.out.err.below hb03)).mono ?_
      rintro e w2 ⟨rfl, hb2⟩
      have hb02 := hb03.trans (hb2.mono hb03.size)
      have d0 := (hb2.cell (p := ⟨w1.heap.size, 0, none⟩) hlt3).trans c0
      have d1 := (hb2.cell (p := ⟨w1.heap.size, 1, none⟩) hlt3).trans c1
      clear c0 c1
      obtain ⟨G, hG⟩ : ∃ G, G = w1.heap.size := ⟨_, rfl⟩
      rw [← hG] at d0 d1 ⊢
      clear hG
      have hS0 : w2.drew.cell? ⟨G, 0, none⟩ = some (strv pt) ∧ w2.drew.cell? ⟨G, 1, none⟩ = some (.int .i64 pk) := ⟨d0, d1⟩
      go_wp2_with fail
      refine wp_region_takes (fun W' : World => W'.cell? ⟨G, 0, none⟩ = some (strv pt) ∧ W'.cell? ⟨G, 1, none⟩ = some (.int .i64 pk)) [0, 1, 2, 3, 4, 5, 6, 7] 0 (by intro _ _ d _ _ h; cases d <;> exact h) (by kernel_rfl) (by kernel_rfl) hS0 ?_
      (iterate 8 (first | (refine takes_yes (v := ?_) rfl (by rfl) ?_ ?_; rotate_left; (focus ((intro w' hS'; (try dsimp only at hS'); go_simp; try (with_reducible rfl)); done)); (try simp only [Act.put, List.setIfInBounds_toArray, List.set_cons_zero, List.set_cons_succ])) | (refine takes_no rfl (by rfl) ?_; (try simp only [Act.put, List.setIfInBounds_toArray, List.set_cons_zero, List.set_cons_succ]))))
      refine takes_nil ?_
      refine wpAnyH_done (by kernel_rfl) ?_ _
      go_wp2
      refine bodyPost_ret (v := .tuple #[strv pt, .int .i64 pk, .int .i64 kC]) ?_ rfl ⟨by rw [HKN.out, HKC.out], hb02.drew⟩
      simp [results, Tryz.results11, go_sem]
end Go.Proofs.YtkhdbolnhcfgkaaGreatDoor
