import Derived.Test.YtdelpialeajajaaGreatDoorJC23
import Derived.LaidEql
import Derived.Stop.Asserts
import Derived.RowKitTokens

/- errors.As at the program's two kinds of errors, and at its two targets (after the kit's worked text ToyasAs). -/
namespace Go.Proofs.YtdelpialeajajaaGreatDoor
open Go Go.RowKit Go.Extern.Stop Go.Stop Go.Extern
set_option maxRecDepth 10000

/-- a type's handle -/
abbrev hdl (t : Nat) : Value := .pointer (some ⟨12, t, none⟩)

theorem as_nil (t : Value) (w : World) : Calls Tryz.prog 39 #[.nilIface, t] w fun e w' => e = .returned (.bool false) ∧ w = w' := by
  go_enter Tryz.func39, Tryz.ntmps39
  go_wp2
  go_ret
  exact ⟨rfl, rfl⟩

theorem rlm (z : Sem Value) (f : TypeId → Addr → Nat → Nat → Sem Value) (v : Value) :
    ReflectliteValue.method z f #[v] = (do match ← ReflectliteValue.parts v with | none => z | some (t, a, fl) => f t a fl (fl % 32)) := rfl
theorem rls (v x : Value) : ReflectliteValue.set #[v, x] = (do
    let (some (dst, a, fl), some (src, b, _)) := (← ReflectliteValue.parts v, ← ReflectliteValue.parts x)
      | unsupported (.noEntry "extern/(internal/reflectlite.Value).Set.zeroValue")
    if fl / ReflectliteValue.flagAddr % 2 == 0 then unsupported (.noEntry "extern/(internal/reflectlite.Value).Set.unaddressable")
    let val ← loadVar src b
    if ← Rtype.directlyAssignable dst src then storeVar dst a val
    else if ← Rtype.implements dst src then
      if (← Rtype.kind src) == 20 then
        match val with
        | .nilIface => unsupported (.noEntry "extern/reflectlite: a nil value of one interface type handed on as a value of another")
        | _ => storeVar dst a val
      else storeVar dst a (.iface src val)
    else panicString ("reflectlite.Set: value of type " ++ (← Rtype.spelt src) ++ " is not assignable to type " ++ (← Rtype.spelt dst))
    pure (.tuple #[])) := rfl


theorem methodKind (h : Value) (w : World) : (Go.method 500 191 (.agg #[h]) "Kind").run Tryz.prog w = .ok (287, h) w := by kernel_rfl
theorem methodElem (h : Value) (w : World) : (Go.method 500 191 (.agg #[h]) "Elem").run Tryz.prog w = .ok (308, .agg #[h]) w := by kernel_rfl
theorem methodImplements (h : Value) (w : World) : (Go.method 500 191 (.agg #[h]) "Implements").run Tryz.prog w = .ok (309, .agg #[h]) w := by kernel_rfl
theorem methodAssignableTo (h : Value) (w : World) : (Go.method 500 191 (.agg #[h]) "AssignableTo").run Tryz.prog w = .ok (306, .agg #[h]) w := by kernel_rfl

theorem valueOf_f (t : Addr) (w : World) : (ReflectliteValue.unpack (.iface 88 (.pointer (some t)))).run Tryz.prog w
    = .ok (.agg #[hdl 88, .pointer (some ⟨w.heap.size, 0, none⟩), .int .u64 150]) (w.alloc (.cells #[.pointer (some t)] 88)) := by kernel_rfl
theorem type_f (a : Addr) (w : World) : (ReflectliteValue.methodAny (ReflectliteValue.valueError "reflectlite.Value.Type" 0) (fun t _ _ _ => ReflectliteType.toType t) #[.agg #[hdl 88, .pointer (some a), .int .u64 150]]).run Tryz.prog w
    = .ok (.iface 191 (.agg #[hdl 88])) w := by kernel_rfl
theorem kindP_f (w : World) : ((ReflectliteType.abiMethod fun t => (fun a : Nat => Value.int IntKind.u8 (a : Int)) <$> Rtype.kind t) #[hdl 88]).run Tryz.prog w = .ok (.int .u8 22) w := by kernel_rfl
theorem kindT_f (w : World) : ((ReflectliteType.abiMethod fun t => (fun a : Nat => Value.int IntKind.u8 (a : Int)) <$> Rtype.kind t) #[hdl 86]).run Tryz.prog w = .ok (.int .u8 22) w := by kernel_rfl
theorem parts_f (a : Addr) (w : World) : (ReflectliteValue.parts (.agg #[hdl 88, .pointer (some a), .int .u64 150])).run Tryz.prog w = .ok (some (88, a, 150)) w := by kernel_rfl
theorem isNil_f (a p : Addr) (W : World) (ha : W.cell? a = some (.pointer (some p))) :
    (ReflectliteValue.method (ReflectliteValue.valueError "reflectlite.Value.IsNil" 0) ReflectliteValue.isNil #[.agg #[hdl 88, .pointer (some a), .int .u64 150]]).run Tryz.prog W = .ok (.bool false) W := by
  rw [rlm]
  simp only [Sem.run_bind, parts_f, Result.andThen]
  simp [ReflectliteValue.isNil, loadVar, isAgg, underlying, Tryz.underlying88, ha, Result.andThen]
theorem elem_f (w : World) : (ReflectliteType.method ReflectliteType.elem #[.agg #[hdl 88]]).run Tryz.prog w = .ok (.iface 191 (.agg #[hdl 86])) w := by kernel_rfl
theorem impl_f (w : World) : (ReflectliteType.relation "Implements" ReflectliteType.implements_ #[.agg #[hdl 86], .iface 191 (.agg #[hdl 56])]).run Tryz.prog w = .ok (.bool true) w := by kernel_rfl
theorem elemOf_f (w : World) : (Rtype.elem? 88).run Tryz.prog w = .ok (some 86) w := by kernel_rfl
theorem mk_f (p : Addr) (w : World) : (ReflectliteValue.mk 86 p ReflectliteValue.flagAddr).run Tryz.prog w = .ok (.agg #[hdl 86, .pointer (some p), .int .u64 406]) w := by kernel_rfl
theorem elemV_f (a p : Addr) (W : World) (ha : W.cell? a = some (.pointer (some p))) :
    (ReflectliteValue.method (ReflectliteValue.valueError "reflectlite.Value.Elem" 0) ReflectliteValue.elem #[.agg #[hdl 88, .pointer (some a), .int .u64 150]]).run Tryz.prog W
      = .ok (.agg #[hdl 86, .pointer (some p), .int .u64 406]) W := by
  rw [rlm]
  simp only [Sem.run_bind, parts_f, Result.andThen]
  simp [ReflectliteValue.elem, loadVar, isAgg, underlying, Tryz.underlying88, ha, Result.andThen, elemOf_f, mk_f]
theorem partsT_f (a : Addr) (w : World) : (ReflectliteValue.parts (.agg #[hdl 86, .pointer (some a), .int .u64 406])).run Tryz.prog w = .ok (some (86, a, 406)) w := by kernel_rfl

theorem valueOf_n (t : Addr) (w : World) : (ReflectliteValue.unpack (.iface 91 (.pointer (some t)))).run Tryz.prog w
    = .ok (.agg #[hdl 91, .pointer (some ⟨w.heap.size, 0, none⟩), .int .u64 150]) (w.alloc (.cells #[.pointer (some t)] 91)) := by kernel_rfl
theorem type_n (a : Addr) (w : World) : (ReflectliteValue.methodAny (ReflectliteValue.valueError "reflectlite.Value.Type" 0) (fun t _ _ _ => ReflectliteType.toType t) #[.agg #[hdl 91, .pointer (some a), .int .u64 150]]).run Tryz.prog w
    = .ok (.iface 191 (.agg #[hdl 91])) w := by kernel_rfl
theorem kindP_n (w : World) : ((ReflectliteType.abiMethod fun t => (fun a : Nat => Value.int IntKind.u8 (a : Int)) <$> Rtype.kind t) #[hdl 91]).run Tryz.prog w = .ok (.int .u8 22) w := by kernel_rfl
theorem kindT_n (w : World) : ((ReflectliteType.abiMethod fun t => (fun a : Nat => Value.int IntKind.u8 (a : Int)) <$> Rtype.kind t) #[hdl 38]).run Tryz.prog w = .ok (.int .u8 2) w := by kernel_rfl
theorem parts_n (a : Addr) (w : World) : (ReflectliteValue.parts (.agg #[hdl 91, .pointer (some a), .int .u64 150])).run Tryz.prog w = .ok (some (91, a, 150)) w := by kernel_rfl
theorem isNil_n (a p : Addr) (W : World) (ha : W.cell? a = some (.pointer (some p))) :
    (ReflectliteValue.method (ReflectliteValue.valueError "reflectlite.Value.IsNil" 0) ReflectliteValue.isNil #[.agg #[hdl 91, .pointer (some a), .int .u64 150]]).run Tryz.prog W = .ok (.bool false) W := by
  rw [rlm]
  simp only [Sem.run_bind, parts_n, Result.andThen]
  simp [ReflectliteValue.isNil, loadVar, isAgg, underlying, Tryz.underlying91, ha, Result.andThen]
theorem elem_n (w : World) : (ReflectliteType.method ReflectliteType.elem #[.agg #[hdl 91]]).run Tryz.prog w = .ok (.iface 191 (.agg #[hdl 38])) w := by kernel_rfl
theorem impl_n (w : World) : (ReflectliteType.relation "Implements" ReflectliteType.implements_ #[.agg #[hdl 38], .iface 191 (.agg #[hdl 56])]).run Tryz.prog w = .ok (.bool true) w := by kernel_rfl
theorem elemOf_n (w : World) : (Rtype.elem? 91).run Tryz.prog w = .ok (some 38) w := by kernel_rfl
theorem mk_n (p : Addr) (w : World) : (ReflectliteValue.mk 38 p ReflectliteValue.flagAddr).run Tryz.prog w = .ok (.agg #[hdl 38, .pointer (some p), .int .u64 386]) w := by kernel_rfl
theorem elemV_n (a p : Addr) (W : World) (ha : W.cell? a = some (.pointer (some p))) :
    (ReflectliteValue.method (ReflectliteValue.valueError "reflectlite.Value.Elem" 0) ReflectliteValue.elem #[.agg #[hdl 91, .pointer (some a), .int .u64 150]]).run Tryz.prog W
      = .ok (.agg #[hdl 38, .pointer (some p), .int .u64 386]) W := by
  rw [rlm]
  simp only [Sem.run_bind, parts_n, Result.andThen]
  simp [ReflectliteValue.elem, loadVar, isAgg, underlying, Tryz.underlying91, ha, Result.andThen, elemOf_n, mk_n]
theorem partsT_n (a : Addr) (w : World) : (ReflectliteValue.parts (.agg #[hdl 38, .pointer (some a), .int .u64 386])).run Tryz.prog w = .ok (some (38, a, 386)) w := by kernel_rfl

theorem typeOf_f (v : Value) (w : World) : (ReflectliteType.typeOf #[.iface 86 v]).run Tryz.prog w = .ok (.iface 191 (.agg #[hdl 86])) w := by kernel_rfl
theorem assign_f (w : World) : (ReflectliteType.relation "AssignableTo" ReflectliteType.assignableTo #[.agg #[hdl 86], .iface 191 (.agg #[hdl 86])]).run Tryz.prog w = .ok (.bool true) w := by kernel_rfl
theorem valueOfT_f (e : Addr) (w : World) : (ReflectliteValue.unpack (.iface 86 (.pointer (some e)))).run Tryz.prog w
    = .ok (.agg #[hdl 86, .pointer (some ⟨w.heap.size, 0, none⟩), .int .u64 150]) (w.alloc (.cells #[.pointer (some e)] 86)) := by kernel_rfl
theorem partsV_f (a : Addr) (w : World) : (ReflectliteValue.parts (.agg #[hdl 86, .pointer (some a), .int .u64 150])).run Tryz.prog w = .ok (some (86, a, 150)) w := by kernel_rfl
theorem direct_f (w : World) : (Rtype.directlyAssignable 86 86).run Tryz.prog w = .ok true w := by kernel_rfl
theorem set_f (ta b : Addr) (e : Addr) (old : Value) (W : World) (hb : W.cell? b = some (.pointer (some e))) (ht : W.cell? ta = some old) (hf : W.frozen? ta = false) :
    (ReflectliteValue.set #[.agg #[hdl 86, .pointer (some ta), .int .u64 406], .agg #[hdl 86, .pointer (some b), .int .u64 150]]).run Tryz.prog W
      = .ok (.tuple #[]) (W.setCell ta (.pointer (some e))) := by
  rw [rls]
  simp only [Sem.run_bind, partsT_f, partsV_f, Result.andThen]
  simp [ReflectliteValue.flagAddr, loadVar, isAgg, underlying, Tryz.underlying86, hb, Result.andThen, direct_f, storeVar, Value.cells, storeCells, Addr.add]
  rw [run_store Tryz.prog W ta _ _ (by rfl)]
  simp [ht, hf]

theorem typeOf_n (v : Value) (w : World) : (ReflectliteType.typeOf #[.iface 38 v]).run Tryz.prog w = .ok (.iface 191 (.agg #[hdl 38])) w := by kernel_rfl
theorem assign_n (w : World) : (ReflectliteType.relation "AssignableTo" ReflectliteType.assignableTo #[.agg #[hdl 38], .iface 191 (.agg #[hdl 38])]).run Tryz.prog w = .ok (.bool true) w := by kernel_rfl
theorem valueOfT_n (e : Int) (w : World) : (ReflectliteValue.unpack (.iface 38 (.int .i64 e))).run Tryz.prog w
    = .ok (.agg #[hdl 38, .pointer (some ⟨w.heap.size, 0, none⟩), .int .u64 130]) (w.alloc (.cells #[.int .i64 e] 38)) := by kernel_rfl
theorem partsV_n (a : Addr) (w : World) : (ReflectliteValue.parts (.agg #[hdl 38, .pointer (some a), .int .u64 130])).run Tryz.prog w = .ok (some (38, a, 130)) w := by kernel_rfl
theorem direct_n (w : World) : (Rtype.directlyAssignable 38 38).run Tryz.prog w = .ok true w := by kernel_rfl
theorem set_n (ta b : Addr) (e : Int) (old : Value) (W : World) (hb : W.cell? b = some (.int .i64 e)) (ht : W.cell? ta = some old) (hf : W.frozen? ta = false) :
    (ReflectliteValue.set #[.agg #[hdl 38, .pointer (some ta), .int .u64 386], .agg #[hdl 38, .pointer (some b), .int .u64 130]]).run Tryz.prog W
      = .ok (.tuple #[]) (W.setCell ta (.int .i64 e)) := by
  rw [rls]
  simp only [Sem.run_bind, partsT_n, partsV_n, Result.andThen]
  simp [ReflectliteValue.flagAddr, loadVar, isAgg, underlying, Tryz.underlying38, hb, Result.andThen, direct_n, storeVar, Value.cells, storeCells, Addr.add]
  rw [run_store Tryz.prog W ta _ _ (by rfl)]
  simp [ht, hf]

/-- an Errno is no *Fault -/
theorem assign_miss (w : World) : (ReflectliteType.relation "AssignableTo" ReflectliteType.assignableTo #[.agg #[hdl 38], .iface 191 (.agg #[hdl 86])]).run Tryz.prog w = .ok (.bool false) w := by kernel_rfl
theorem noAs_n (v : Value) (xT : TypeId) (w : World) : (Instr.typeAssert (.iface 38 v) xT 196 true).run Tryz.prog w = .ok (.tuple #[.nilIface, .bool false]) w := run_typeAssert_lacksB Tryz.underlying196 (by kernel_rfl) (by kernel_rfl) v xT w
theorem noUnwrap_n (v : Value) (xT : TypeId) (w : World) : (Instr.typeAssert (.iface 38 v) xT 199 true).run Tryz.prog w = .ok (.tuple #[.nilIface, .bool false]) w := run_typeAssert_lacksB Tryz.underlying199 (by kernel_rfl) (by kernel_rfl) v xT w
theorem noUnwraps_n (v : Value) (xT : TypeId) (w : World) : (Instr.typeAssert (.iface 38 v) xT 201 true).run Tryz.prog w = .ok (.tuple #[.nilIface, .bool false]) w := run_typeAssert_lacksB Tryz.underlying201 (by kernel_rfl) (by kernel_rfl) v xT w

set_option maxHeartbeats 4000000 in
theorem as_hit_f (e t : Addr) (old : Value) (w : World) (hg : w.cell? ⟨0, 0, none⟩ = some (.iface 191 (.agg #[hdl 56]))) (ht0 : w.cell? t = some old) (hf0 : w.frozen? t = false) :
    Calls Tryz.prog 39 #[.iface 86 (.pointer (some e)), .iface 88 (.pointer (some t))] w fun ev w' => ev = .returned (.bool true) ∧ ∃ o1 o2 o3 o4 : Obj, w' = ((((w.alloc o1).alloc o2).alloc o3).alloc o4).setCell t (.pointer (some e)) := by
  have h0 := @run_callFunc_extern Tryz.prog 55 _ (fun args => ReflectliteValue.unpack (args.getD 0 (.tuple #[]))) Tryz.func55 (by kernel_rfl) (by kernel_rfl) (by kernel_rfl) (by kernel_rfl)
  have h1 := @run_callFunc_extern Tryz.prog 56 _ (ReflectliteValue.methodAny (ReflectliteValue.valueError "reflectlite.Value.Type" 0) (fun t _ _ _ => ReflectliteType.toType t)) Tryz.func56 (by kernel_rfl) (by kernel_rfl) (by kernel_rfl) (by kernel_rfl)
  have h2 := @run_callFunc_extern Tryz.prog 57 _ (ReflectliteValue.method (ReflectliteValue.valueError "reflectlite.Value.IsNil" 0) ReflectliteValue.isNil) Tryz.func57 (by kernel_rfl) (by kernel_rfl) (by kernel_rfl) (by kernel_rfl)
  have h3 := @run_callFunc_extern Tryz.prog 287 _ (ReflectliteType.abiMethod fun t => do pure (.int .u8 (← Rtype.kind t))) Tryz.func287 (by kernel_rfl) (by kernel_rfl) (by kernel_rfl) (by kernel_rfl)
  have h4 := @run_callFunc_extern Tryz.prog 308 _ (ReflectliteType.method ReflectliteType.elem) Tryz.func308 (by kernel_rfl) (by kernel_rfl) (by kernel_rfl) (by kernel_rfl)
  have h5 := @run_callFunc_extern Tryz.prog 309 _ (ReflectliteType.relation "Implements" ReflectliteType.implements_) Tryz.func309 (by kernel_rfl) (by kernel_rfl) (by kernel_rfl) (by kernel_rfl)
  have h6 := @run_callFunc_extern Tryz.prog 85 _ (ReflectliteType.typeOf) Tryz.func85 (by kernel_rfl) (by kernel_rfl) (by kernel_rfl) (by kernel_rfl)
  have h7 := @run_callFunc_extern Tryz.prog 306 _ (ReflectliteType.relation "AssignableTo" ReflectliteType.assignableTo) Tryz.func306 (by kernel_rfl) (by kernel_rfl) (by kernel_rfl) (by kernel_rfl)
  have h8 := @run_callFunc_extern Tryz.prog 86 _ (ReflectliteValue.method (ReflectliteValue.valueError "reflectlite.Value.Elem" 0) ReflectliteValue.elem) Tryz.func86 (by kernel_rfl) (by kernel_rfl) (by kernel_rfl) (by kernel_rfl)
  have h9 := @run_callFunc_extern Tryz.prog 87 _ (ReflectliteValue.set) Tryz.func87 (by kernel_rfl) (by kernel_rfl) (by kernel_rfl) (by kernel_rfl)
  have mK := methodKind
  have mE := methodElem
  have mI := methodImplements
  have mA := methodAssignableTo
  have f1 := valueOf_f
  have f2 := type_f
  have f3 := kindP_f
  have f4 := kindT_f
  have f5 := elem_f
  have f6 := impl_f
  have n8 := isNil_f ⟨w.heap.size, 0, none⟩ t ((w.alloc (.cells #[.pointer (some t)] 88)).alloc (.cells #[hdl 88, .pointer (some ⟨w.heap.size, 0, none⟩), .int .u64 150] 125)) (by simp)
  have hlt : 0 < w.heap.size := by
    rcases Nat.lt_or_ge 0 w.heap.size with h | h
    · exact h
    · exfalso
      rw [World.cell?, Array.getElem?_eq_none h] at hg
      cases hg
  have hg2 : ((w.alloc (.cells #[.pointer (some t)] 88)).alloc (.cells #[hdl 88, .pointer (some ⟨w.heap.size, 0, none⟩), .int .u64 150] 125)).cell? ⟨0, 0, none⟩ = some (.iface 191 (.agg #[hdl 56])) := by
    rw [World.cell?_alloc_lt _ _ ⟨0, 0, none⟩ (by simp <;> omega), World.cell?_alloc_lt _ _ ⟨0, 0, none⟩ hlt]; exact hg
  have htl : t.block < w.heap.size := by
    rcases Nat.lt_or_ge t.block w.heap.size with h | h
    · exact h
    · simp [World.cell?, Array.getElem?_eq_none h] at ht0
  have el := elemV_f ⟨w.heap.size, 0, none⟩ t (((w.alloc (.cells #[.pointer (some t)] 88)).alloc (.cells #[hdl 88, .pointer (some ⟨w.heap.size, 0, none⟩), .int .u64 150] 125)).alloc (.cells #[hdl 88, .pointer (some ⟨w.heap.size, 0, none⟩), .int .u64 150] 125)) (by rw [World.cell?_alloc_lt _ _ ⟨w.heap.size, 0, none⟩ (by simp; omega)]; simp)
  have tO := typeOf_f
  have aT := assign_f
  have vT := valueOfT_f
  have st := set_f t ⟨w.heap.size + 1 + 1 + 1, 0, none⟩ e old ((((w.alloc (.cells #[.pointer (some t)] 88)).alloc (.cells #[hdl 88, .pointer (some ⟨w.heap.size, 0, none⟩), .int .u64 150] 125)).alloc (.cells #[hdl 88, .pointer (some ⟨w.heap.size, 0, none⟩), .int .u64 150] 125)).alloc (.cells #[.pointer (some e)] 86))
    (by rw [World.cell?_alloc_at _ _ _ _ (by simp)]; rfl)
    (by rw [World.cell?_alloc_lt _ _ t (by simp; omega), World.cell?_alloc_lt _ _ t (by simp; omega), World.cell?_alloc_lt _ _ t (by simp; omega), World.cell?_alloc_lt _ _ t htl]; exact ht0)
    (by rw [World.frozen?_alloc_old _ _ t (by simp; omega), World.frozen?_alloc_old _ _ t (by simp; omega), World.frozen?_alloc_old _ _ t (by simp; omega), World.frozen?_alloc_old _ _ t (Nat.ne_of_lt htl)]; exact hf0)
  go_enter Tryz.func39, Tryz.ntmps39
  go_wp2
  refine wp_loop_rounds 1 ?_
  rw [rounds_succ]
  go_wp2
  go_ret
  exact ⟨rfl, _, _, _, _, rfl⟩

set_option maxHeartbeats 4000000 in
theorem as_hit_n (e : Int) (t : Addr) (old : Value) (w : World) (hg : w.cell? ⟨0, 0, none⟩ = some (.iface 191 (.agg #[hdl 56]))) (ht0 : w.cell? t = some old) (hf0 : w.frozen? t = false) :
    Calls Tryz.prog 39 #[.iface 38 (.int .i64 e), .iface 91 (.pointer (some t))] w fun ev w' => ev = .returned (.bool true) ∧ ∃ o1 o2 o3 o4 : Obj, w' = ((((w.alloc o1).alloc o2).alloc o3).alloc o4).setCell t (.int .i64 e) := by
  have h0 := @run_callFunc_extern Tryz.prog 55 _ (fun args => ReflectliteValue.unpack (args.getD 0 (.tuple #[]))) Tryz.func55 (by kernel_rfl) (by kernel_rfl) (by kernel_rfl) (by kernel_rfl)
  have h1 := @run_callFunc_extern Tryz.prog 56 _ (ReflectliteValue.methodAny (ReflectliteValue.valueError "reflectlite.Value.Type" 0) (fun t _ _ _ => ReflectliteType.toType t)) Tryz.func56 (by kernel_rfl) (by kernel_rfl) (by kernel_rfl) (by kernel_rfl)
  have h2 := @run_callFunc_extern Tryz.prog 57 _ (ReflectliteValue.method (ReflectliteValue.valueError "reflectlite.Value.IsNil" 0) ReflectliteValue.isNil) Tryz.func57 (by kernel_rfl) (by kernel_rfl) (by kernel_rfl) (by kernel_rfl)
  have h3 := @run_callFunc_extern Tryz.prog 287 _ (ReflectliteType.abiMethod fun t => do pure (.int .u8 (← Rtype.kind t))) Tryz.func287 (by kernel_rfl) (by kernel_rfl) (by kernel_rfl) (by kernel_rfl)
  have h4 := @run_callFunc_extern Tryz.prog 308 _ (ReflectliteType.method ReflectliteType.elem) Tryz.func308 (by kernel_rfl) (by kernel_rfl) (by kernel_rfl) (by kernel_rfl)
  have h5 := @run_callFunc_extern Tryz.prog 309 _ (ReflectliteType.relation "Implements" ReflectliteType.implements_) Tryz.func309 (by kernel_rfl) (by kernel_rfl) (by kernel_rfl) (by kernel_rfl)
  have h6 := @run_callFunc_extern Tryz.prog 85 _ (ReflectliteType.typeOf) Tryz.func85 (by kernel_rfl) (by kernel_rfl) (by kernel_rfl) (by kernel_rfl)
  have h7 := @run_callFunc_extern Tryz.prog 306 _ (ReflectliteType.relation "AssignableTo" ReflectliteType.assignableTo) Tryz.func306 (by kernel_rfl) (by kernel_rfl) (by kernel_rfl) (by kernel_rfl)
  have h8 := @run_callFunc_extern Tryz.prog 86 _ (ReflectliteValue.method (ReflectliteValue.valueError "reflectlite.Value.Elem" 0) ReflectliteValue.elem) Tryz.func86 (by kernel_rfl) (by kernel_rfl) (by kernel_rfl) (by kernel_rfl)
  have h9 := @run_callFunc_extern Tryz.prog 87 _ (ReflectliteValue.set) Tryz.func87 (by kernel_rfl) (by kernel_rfl) (by kernel_rfl) (by kernel_rfl)
  have mK := methodKind
  have mE := methodElem
  have mI := methodImplements
  have mA := methodAssignableTo
  have f1 := valueOf_n
  have f2 := type_n
  have f3 := kindP_n
  have f4 := kindT_n
  have f5 := elem_n
  have f6 := impl_n
  have n8 := isNil_n ⟨w.heap.size, 0, none⟩ t ((w.alloc (.cells #[.pointer (some t)] 91)).alloc (.cells #[hdl 91, .pointer (some ⟨w.heap.size, 0, none⟩), .int .u64 150] 125)) (by simp)
  have hlt : 0 < w.heap.size := by
    rcases Nat.lt_or_ge 0 w.heap.size with h | h
    · exact h
    · exfalso
      rw [World.cell?, Array.getElem?_eq_none h] at hg
      cases hg
  have hg2 : ((w.alloc (.cells #[.pointer (some t)] 91)).alloc (.cells #[hdl 91, .pointer (some ⟨w.heap.size, 0, none⟩), .int .u64 150] 125)).cell? ⟨0, 0, none⟩ = some (.iface 191 (.agg #[hdl 56])) := by
    rw [World.cell?_alloc_lt _ _ ⟨0, 0, none⟩ (by simp <;> omega), World.cell?_alloc_lt _ _ ⟨0, 0, none⟩ hlt]; exact hg
  have htl : t.block < w.heap.size := by
    rcases Nat.lt_or_ge t.block w.heap.size with h | h
    · exact h
    · simp [World.cell?, Array.getElem?_eq_none h] at ht0
  have el := elemV_n ⟨w.heap.size, 0, none⟩ t (((w.alloc (.cells #[.pointer (some t)] 91)).alloc (.cells #[hdl 91, .pointer (some ⟨w.heap.size, 0, none⟩), .int .u64 150] 125)).alloc (.cells #[hdl 91, .pointer (some ⟨w.heap.size, 0, none⟩), .int .u64 150] 125)) (by rw [World.cell?_alloc_lt _ _ ⟨w.heap.size, 0, none⟩ (by simp; omega)]; simp)
  have tO := typeOf_n
  have aT := assign_n
  have vT := valueOfT_n
  have st := set_n t ⟨w.heap.size + 1 + 1 + 1, 0, none⟩ e old ((((w.alloc (.cells #[.pointer (some t)] 91)).alloc (.cells #[hdl 91, .pointer (some ⟨w.heap.size, 0, none⟩), .int .u64 150] 125)).alloc (.cells #[hdl 91, .pointer (some ⟨w.heap.size, 0, none⟩), .int .u64 150] 125)).alloc (.cells #[.int .i64 e] 38))
    (by rw [World.cell?_alloc_at _ _ _ _ (by simp)]; rfl)
    (by rw [World.cell?_alloc_lt _ _ t (by simp; omega), World.cell?_alloc_lt _ _ t (by simp; omega), World.cell?_alloc_lt _ _ t (by simp; omega), World.cell?_alloc_lt _ _ t htl]; exact ht0)
    (by rw [World.frozen?_alloc_old _ _ t (by simp; omega), World.frozen?_alloc_old _ _ t (by simp; omega), World.frozen?_alloc_old _ _ t (by simp; omega), World.frozen?_alloc_old _ _ t (Nat.ne_of_lt htl)]; exact hf0)
  go_enter Tryz.func39, Tryz.ntmps39
  go_wp2
  refine wp_loop_rounds 1 ?_
  rw [rounds_succ]
  go_wp2
  go_ret
  exact ⟨rfl, _, _, _, _, rfl⟩

set_option maxHeartbeats 4000000 in
theorem as_miss (e : Int) (t : Addr) (old : Value) (w : World) (hg : w.cell? ⟨0, 0, none⟩ = some (.iface 191 (.agg #[hdl 56]))) (ht0 : w.cell? t = some old) (hf0 : w.frozen? t = false) :
    Calls Tryz.prog 39 #[.iface 38 (.int .i64 e), .iface 88 (.pointer (some t))] w fun ev w' => ev = .returned (.bool false) ∧ ∃ o1 o2 o3 : Obj, w' = ((w.alloc o1).alloc o2).alloc o3 := by
  have h0 := @run_callFunc_extern Tryz.prog 55 _ (fun args => ReflectliteValue.unpack (args.getD 0 (.tuple #[]))) Tryz.func55 (by kernel_rfl) (by kernel_rfl) (by kernel_rfl) (by kernel_rfl)
  have h1 := @run_callFunc_extern Tryz.prog 56 _ (ReflectliteValue.methodAny (ReflectliteValue.valueError "reflectlite.Value.Type" 0) (fun t _ _ _ => ReflectliteType.toType t)) Tryz.func56 (by kernel_rfl) (by kernel_rfl) (by kernel_rfl) (by kernel_rfl)
  have h2 := @run_callFunc_extern Tryz.prog 57 _ (ReflectliteValue.method (ReflectliteValue.valueError "reflectlite.Value.IsNil" 0) ReflectliteValue.isNil) Tryz.func57 (by kernel_rfl) (by kernel_rfl) (by kernel_rfl) (by kernel_rfl)
  have h3 := @run_callFunc_extern Tryz.prog 287 _ (ReflectliteType.abiMethod fun t => do pure (.int .u8 (← Rtype.kind t))) Tryz.func287 (by kernel_rfl) (by kernel_rfl) (by kernel_rfl) (by kernel_rfl)
  have h4 := @run_callFunc_extern Tryz.prog 308 _ (ReflectliteType.method ReflectliteType.elem) Tryz.func308 (by kernel_rfl) (by kernel_rfl) (by kernel_rfl) (by kernel_rfl)
  have h5 := @run_callFunc_extern Tryz.prog 309 _ (ReflectliteType.relation "Implements" ReflectliteType.implements_) Tryz.func309 (by kernel_rfl) (by kernel_rfl) (by kernel_rfl) (by kernel_rfl)
  have h6 := @run_callFunc_extern Tryz.prog 85 _ (ReflectliteType.typeOf) Tryz.func85 (by kernel_rfl) (by kernel_rfl) (by kernel_rfl) (by kernel_rfl)
  have h7 := @run_callFunc_extern Tryz.prog 306 _ (ReflectliteType.relation "AssignableTo" ReflectliteType.assignableTo) Tryz.func306 (by kernel_rfl) (by kernel_rfl) (by kernel_rfl) (by kernel_rfl)
  have h8 := @run_callFunc_extern Tryz.prog 86 _ (ReflectliteValue.method (ReflectliteValue.valueError "reflectlite.Value.Elem" 0) ReflectliteValue.elem) Tryz.func86 (by kernel_rfl) (by kernel_rfl) (by kernel_rfl) (by kernel_rfl)
  have h9 := @run_callFunc_extern Tryz.prog 87 _ (ReflectliteValue.set) Tryz.func87 (by kernel_rfl) (by kernel_rfl) (by kernel_rfl) (by kernel_rfl)
  have mK := methodKind
  have mE := methodElem
  have mI := methodImplements
  have mA := methodAssignableTo
  have f1 := valueOf_f
  have f2 := type_f
  have f3 := kindP_f
  have f4 := kindT_f
  have f5 := elem_f
  have f6 := impl_f
  have n8 := isNil_f ⟨w.heap.size, 0, none⟩ t ((w.alloc (.cells #[.pointer (some t)] 88)).alloc (.cells #[hdl 88, .pointer (some ⟨w.heap.size, 0, none⟩), .int .u64 150] 125)) (by simp)
  have hlt : 0 < w.heap.size := by
    rcases Nat.lt_or_ge 0 w.heap.size with h | h
    · exact h
    · exfalso
      rw [World.cell?, Array.getElem?_eq_none h] at hg
      cases hg
  have hg2 : ((w.alloc (.cells #[.pointer (some t)] 88)).alloc (.cells #[hdl 88, .pointer (some ⟨w.heap.size, 0, none⟩), .int .u64 150] 125)).cell? ⟨0, 0, none⟩ = some (.iface 191 (.agg #[hdl 56])) := by
    rw [World.cell?_alloc_lt _ _ ⟨0, 0, none⟩ (by simp <;> omega), World.cell?_alloc_lt _ _ ⟨0, 0, none⟩ hlt]; exact hg
  have htl : t.block < w.heap.size := by
    rcases Nat.lt_or_ge t.block w.heap.size with h | h
    · exact h
    · simp [World.cell?, Array.getElem?_eq_none h] at ht0
  have tO := typeOf_n
  have aT := assign_miss
  have n1 := noAs_n
  have n2 := noUnwrap_n
  have n3 := noUnwraps_n
  go_enter Tryz.func39, Tryz.ntmps39
  go_wp2
  refine wp_loop_rounds 1 ?_
  rw [rounds_succ]
  go_wp2
  go_ret
  exact ⟨rfl, _, _, _, rfl⟩
end Go.Proofs.YtdelpialeajajaaGreatDoor

/- api.Tell: the number and the place of an error. -/
namespace Go.Proofs.YtdelpialeajajaaGreatDoor
open Go Go.RowKit
set_option maxRecDepth 10000

/-- the library's variable errors.errorType holds the handle of the type error -/
def ErrT (w : World) : Prop := w.cell? ⟨0, 0, none⟩ = some (.iface 191 (.agg #[hdl 56]))

theorem ErrT.below {w w' : World} (h : ErrT w) (hb : Below w.heap.size w w') : ErrT w' := by
  have hlt := World.block_lt_of_cell? w _ h
  unfold ErrT
  rw [hb.cell (p := ⟨0, 0, none⟩) hlt]
  exact h

/-- an error by its number; 0: none -/
def errV (n : Int) : Value := if n = 0 then .nilIface else .iface 38 (.int .i64 n)

def TellPost (n at_ : Int) (w : World) (e : Ending) (w' : World) : Prop := e = .returned (.tuple #[.int .i64 n, .int .i64 at_]) ∧ Below w.heap.size w w'

set_option maxHeartbeats 1000000 in
theorem tell_nil (w : World) : Calls Tryz.prog 25 #[.nilIface] w (TellPost 0 0 w) := by
  go_enter Tryz.func25, Tryz.ntmps25
  go_wp2
  go_ret2
  exact ⟨rfl, ((Below.refl _ _).alloc (Nat.le_refl _) _).alloc (by simp) _⟩

set_option maxHeartbeats 2000000 in
theorem tell_n (n : Int) (w : World) (hE : ErrT w) : Calls Tryz.prog 25 #[.iface 38 (.int .i64 n)] w (TellPost n 0 w) := by
  have HE := Lib.hid hE
  clear hE
  go_enter Tryz.func25, Tryz.ntmps25
  go_wp2_with fail
  refine calls_gen ?_
  intro W hW
  have hb : Below w.heap.size w W := by rw [hW]; exact ((Below.refl _ _).alloc (Nat.le_refl _) _).alloc (by simp) _
  have hz : w.heap.size + 2 ≤ W.heap.size := by rw [hW]; simp
  have hA : W.cell? ⟨w.heap.size, 0, none⟩ = some (.pointer none) ∧ W.frozen? ⟨w.heap.size, 0, none⟩ = false := by rw [hW]; constructor <;> go_simp
  have hB : W.cell? ⟨w.heap.size + 1, 0, none⟩ = some (.int .i64 0) ∧ W.frozen? ⟨w.heap.size + 1, 0, none⟩ = false := by rw [hW]; constructor <;> go_simp
  clear hW
  refine (as_miss n ⟨w.heap.size, 0, none⟩ _ W (HE.out.below hb) hA.1 hA.2).mono ?_
  rintro e w1 ⟨rfl, o1, o2, o3, hw1⟩
  have hb1 : Below W.heap.size W w1 := by rw [hw1]; exact (((Below.refl _ _).alloc (Nat.le_refl _) _).alloc (by simp) _).alloc (by simp; omega) _
  have hB1 : w1.cell? ⟨w.heap.size + 1, 0, none⟩ = some (.int .i64 0) ∧ w1.frozen? ⟨w.heap.size + 1, 0, none⟩ = false :=
    ⟨by rw [hb1.cell (by simp; omega)]; exact hB.1, by rw [hb1.frozen (by simp; omega)]; exact hB.2⟩
  have hb01 := hb.trans (hb1.mono (by omega))
  have hz1 : w.heap.size + 2 ≤ w1.heap.size := by have := hb1.size; omega
  clear hw1 hA hB hb1 hz
  go_wp2_with fail
  refine (as_hit_n n ⟨w.heap.size + 1, 0, none⟩ _ w1 (HE.out.below hb01) hB1.1 hB1.2).mono ?_
  rintro e w2 ⟨rfl, p1, p2, p3, p4, hw2⟩
  have hb2 : Below (w.heap.size + 1) w1 w2 := by rw [hw2]; exact (((((Below.refl _ _).alloc (by omega) _).alloc (by simp; omega) _).alloc (by simp; omega) _).alloc (by simp; omega) _).setCell (by simp) _
  have hb02 := hb01.trans (hb2.mono (by omega))
  have hC : w2.cell? ⟨w.heap.size + 1, 0, none⟩ = some (.int .i64 n) := by
    rw [hw2, cellSet, if_pos rfl]
    rw [World.cell?_alloc_lt _ _ _ (by simp; omega), World.cell?_alloc_lt _ _ _ (by simp; omega), World.cell?_alloc_lt _ _ _ (by simp; omega), World.cell?_alloc_lt _ _ _ (by show w.heap.size + 1 < _; omega), hB1.1]
    rfl
  clear hw2 hb2 hB1
  go_wp2
  go_ret2
  exact ⟨rfl, hb02⟩

theorem tell_e (n : Int) (w : World) (hE : ErrT w) : Calls Tryz.prog 25 #[errV n] w (TellPost n 0 w) := by
  unfold errV
  by_cases h : n = 0
  · subst h; rw [if_pos rfl]; exact tell_nil w
  · rw [if_neg h]; exact tell_n n w hE
end Go.Proofs.YtdelpialeajajaaGreatDoor

/- api.Tell of a fault: its number and its place. -/
namespace Go.Proofs.YtdelpialeajajaaGreatDoor
open Go Go.RowKit
set_option maxRecDepth 10000

set_option maxHeartbeats 2000000 in
theorem tell_f (b : Nat) (n a : Int) (w : World) (hE : ErrT w) (h0 : w.cell? ⟨b, 0, none⟩ = some (.int .i64 n)) (h1 : w.cell? ⟨b, 1, none⟩ = some (.int .i64 a)) :
    Calls Tryz.prog 25 #[.iface 86 (.pointer (some ⟨b, 0, none⟩))] w (TellPost n a w) := by
  have HE := Lib.hid hE
  have H0 := Lib.hid h0
  have H1 := Lib.hid h1
  have hlt : b < w.heap.size := World.block_lt_of_cell? w _ h0
  clear hE h0 h1
  go_enter Tryz.func25, Tryz.ntmps25
  go_wp2_with fail
  refine calls_gen ?_
  intro W hW
  have hb : Below w.heap.size w W := by rw [hW]; exact ((Below.refl _ _).alloc (Nat.le_refl _) _).alloc (by simp) _
  have hz : w.heap.size + 2 ≤ W.heap.size := by rw [hW]; simp
  have hA : W.cell? ⟨w.heap.size, 0, none⟩ = some (.pointer none) ∧ W.frozen? ⟨w.heap.size, 0, none⟩ = false := by rw [hW]; constructor <;> go_simp
  clear hW
  refine (as_hit_f ⟨b, 0, none⟩ ⟨w.heap.size, 0, none⟩ _ W (HE.out.below hb) hA.1 hA.2).mono ?_
  rintro e w2 ⟨rfl, p1, p2, p3, p4, hw2⟩
  have hb2 : Below w.heap.size W w2 := by rw [hw2]; exact (((((Below.refl _ _).alloc (by omega) _).alloc (by simp; omega) _).alloc (by simp; omega) _).alloc (by simp; omega) _).setCell (by simp) _
  have hb02 := hb.trans hb2
  have hC : w2.cell? ⟨w.heap.size, 0, none⟩ = some (.pointer (some ⟨b, 0, none⟩)) := by
    rw [hw2, cellSet, if_pos rfl]
    rw [World.cell?_alloc_lt _ _ _ (by simp; omega), World.cell?_alloc_lt _ _ _ (by simp; omega), World.cell?_alloc_lt _ _ _ (by simp; omega), World.cell?_alloc_lt _ _ _ (by show w.heap.size < _; omega), hA.1]
    rfl
  have d0 := (hb02.cell (p := ⟨b, 0, none⟩) hlt).trans H0.out
  have d1 := (hb02.cell (p := ⟨b, 1, none⟩) hlt).trans H1.out
  clear hw2 hb2 hA
  have hS0 : w2.drew.cell? ⟨w.heap.size, 0, none⟩ = some (.pointer (some ⟨b, 0, none⟩)) ∧ w2.drew.cell? ⟨b, 0, none⟩ = some (.int .i64 n) ∧ w2.drew.cell? ⟨b, 1, none⟩ = some (.int .i64 a) := ⟨hC, d0, d1⟩
  go_wp2_with fail
  refine wp_region_takes (fun W' : World => W'.cell? ⟨w.heap.size, 0, none⟩ = some (.pointer (some ⟨b, 0, none⟩)) ∧ W'.cell? ⟨b, 0, none⟩ = some (.int .i64 n) ∧ W'.cell? ⟨b, 1, none⟩ = some (.int .i64 a)) [0, 1, 2, 3, 4, 5, 6, 7, 8, 9] 0 (by intro _ _ d _ _ h; cases d <;> exact h) (by kernel_rfl) (by kernel_rfl) hS0 ?_
  (iterate 10 (first | (refine takes_yes (v := ?_) rfl (by rfl) ?_ ?_; rotate_left; (focus ((intro w' hS'; (try dsimp only at hS'); go_simp; try (with_reducible rfl)); done)); (try simp only [Act.put, List.setIfInBounds_toArray, List.set_cons_zero, List.set_cons_succ])) | (refine takes_no rfl (by rfl) ?_; (try simp only [Act.put, List.setIfInBounds_toArray, List.set_cons_zero, List.set_cons_succ]))))
  refine takes_nil ?_
  refine wpAnyH_done (by kernel_rfl) ?_ _
  go_wp2
  go_ret2
  exact ⟨rfl, hb02.drew⟩
end Go.Proofs.YtdelpialeajajaaGreatDoor

/- plain.Walk: what its closure does. -/
namespace Go.Proofs.YtdelpialeajajaaGreatDoor
open Go Go.RowKit
set_option maxRecDepth 10000

abbrev WSt := List (Wd × Nat)
def walkF (n : Int) (s : WSt) (nm : Wd) (pl : Nat) : Out WSt := .go (decide (((s.length + 1 : Nat) : Int) < n)) (s ++ [(nm, pl)])

abbrev namesC (s : WSt) : List Value := s.map fun x => strv x.1
abbrev placesC (s : WSt) : List Value := s.map fun x => Value.int .i64 (x.2 : Nat)

/-- what Walk keeps: in blocks b + 1 and b + 2, and in rows from block hi on -/
structure WalkI (b : Nat) (n : Int) (w : World) (hi : Nat) (s : WSt) (room : Nat) (W : World) : Prop where
  low : b + 3 ≤ hi
  hiW : hi ≤ W.heap.size
  nc : W.cell? ⟨b, 0, none⟩ = some (.int .i64 n)
  names : ∃ v, W.cell? ⟨b + 1, 0, none⟩ = some v ∧ W.ownsRow hi 9 1 v s.length (namesC s) ∧ ∃ u, W.cell? ⟨b + 2, 0, none⟩ = some u ∧ W.ownsRow hi 3 1 u s.length (placesC s) ∧ ∀ g, v.ownBlock = some g → u.ownBlock ≠ some g
  z1 : W.frozen? ⟨b + 1, 0, none⟩ = false
  z2 : W.frozen? ⟨b + 2, 0, none⟩ = false
  few : s.length + room ≤ 1000000
  bel : Below b w W

theorem own_alt {W W' : World} {m hi : Nat} {e : TypeId} {size n : Nat} {v : Value} {xs : List Value} (h : W.ownsRow hi e size v n xs) (ha : Alt m hi W W') : W'.ownsRow hi e size v n xs := by
  have hlt := h.lt
  obtain ⟨h1, h2⟩ := h
  refine ⟨h1, ?_⟩
  rcases h2 with h2 | ⟨g, cap, cur, hv, hg, hh, rest⟩
  · exact .inl h2
  · exact .inr ⟨g, cap, cur, hv, hg, (ha.block g (hlt g (by rw [hv]; rfl)).2 (.inr hg)).trans hh, rest⟩

theorem WalkI.same {b : Nat} {n : Int} {w : World} {hi : Nat} {s : WSt} {room : Nat} {W W' : World} (h : WalkI b n w hi s room W) (ha : Alt (b + 3) hi W W') : WalkI b n w hi s room W' := by
  obtain ⟨h1, h2, h3, ⟨v, h4, h5, u, h6, h7, h8⟩, h9, h10, h11, h12⟩ := h
  have l0 : b < W.heap.size := World.block_lt_of_cell? W _ h3
  have l1 : b + 1 < W.heap.size := World.block_lt_of_cell? W _ h4
  have l2 : b + 2 < W.heap.size := World.block_lt_of_cell? W _ h6
  exact ⟨h1, Nat.le_trans h2 ha.size, (World.cell?_of_block (a := ⟨b, 0, none⟩) (ha.block b l0 (.inl (by omega)))).trans h3,
    ⟨v, (World.cell?_of_block (a := ⟨b + 1, 0, none⟩) (ha.block (b + 1) l1 (.inl (by omega)))).trans h4, own_alt h5 ha, u, (World.cell?_of_block (a := ⟨b + 2, 0, none⟩) (ha.block (b + 2) l2 (.inl (by omega)))).trans h6, own_alt h7 ha, h8⟩,
    (World.frozen?_of_block (a := ⟨b + 1, 0, none⟩) (ha.block (b + 1) l1 (.inl (by omega)))).trans h9, (World.frozen?_of_block (a := ⟨b + 2, 0, none⟩) (ha.block (b + 2) l2 (.inl (by omega)))).trans h10, h11,
    h12.trans ⟨ha.os, ha.tape, ha.output, ha.size, fun k hk => ha.block k (by omega) (.inl (by omega))⟩⟩

theorem own_grown {W W' : World} {base : Nat} {row : Option Nat} {e : TypeId} {size n : Nat} {v : Value} {xs : List Value} (h : W.ownsRow base e size v n xs) (hg : W.grownBy W' row) (hne : ∀ g, v.ownBlock = some g → row ≠ some g) : W'.ownsRow base e size v n xs :=
  h.kept hg (by
    cases hv : v.ownBlock with
    | none => exact .inl rfl
    | some g => exact .inr (fun e => hne g hv e.symm))

theorem keep_grown {lo hi : Nat} {w W W' : World} {row : Option Nat} (h : KeepR lo hi w W) (hg : W.grownBy W' row) (hr : ∀ g, row = some g → g < lo ∨ hi ≤ g) : KeepR lo hi w W' :=
  ⟨Nat.le_trans h.1 hg.size, fun k k1 k2 => (hg.block k (Nat.lt_of_lt_of_le k2 h.1) (fun e => by have := hr k e.symm; omega)).trans (h.2 k k1 k2)⟩

set_option maxHeartbeats 4000000 in
theorem walk1_any (b : Nat) (n : Int) (w : World) (hi : Nat) (s : WSt) (room : Nat) (W : World) (nm : Wd) (pl : Nat) (hI : WalkI b n w hi s (room + 1) W) :
    Calls Tryz.prog 24 #[strv nm, .int .i64 (pl : Nat), .pointer (some ⟨b + 1, 0, none⟩), .pointer (some ⟨b + 2, 0, none⟩), .pointer (some ⟨b, 0, none⟩)] W (fun e W' => OutQ (WalkI b n w hi) room (walkF n s nm pl) e W' ∧ KeepR (b + 3) hi W W') := by
  obtain ⟨h1, h2, h3, ⟨v, h4, h5, u, h6, h7, h8⟩, h9, h10, h11, h12⟩ := hI
  obtain ⟨va, vc, rfl⟩ := own_slice h5
  obtain ⟨ua, uc, rfl⟩ := own_slice h7
  obtain ⟨L, hL⟩ : ∃ L, s.length = L := ⟨_, rfl⟩
  rw [hL] at h4 h5 h6 h7 h8 h11
  have H5 := Lib.hid h5
  have H7 := Lib.hid h7
  have H8 := Lib.hid h8
  have H12 := Lib.hid h12
  have HL := Lib.hid hL
  have hB2 : b + 2 < W.heap.size := World.block_lt_of_cell? W _ h6
  clear h5 h7 h8 h12 hL
  go_enter Tryz.func24, Tryz.ntmps24
  go_wp2_with (at_builtin; refine list_gen ?_)
  intro W1 hW1
  have b1 : Below W.heap.size W W1 := by rw [hW1]; exact (Below.refl _ _).alloc (Nat.le_refl _) _
  have c1 := cell_made W #[strv nm] 9 (0, 0) 0
  rw [← hW1] at c1
  have s1 : W1.heap.size = W.heap.size + 1 := by rw [hW1]; simp
  have K1 := Lib.hid ((keep_refl (lo := b + 3) h2).below b1)
  have H5a := Lib.hid (own_alt H5.out (Alt.of (m := b + 3) b1))
  have H7a := Lib.hid (own_alt H7.out (Alt.of (m := b + 3) b1))
  have d0 := (b1.cell (p := ⟨b, 0, none⟩) (by show b < _; omega)).trans h3
  have d1 := (b1.cell (p := ⟨b + 1, 0, none⟩) (by show b + 1 < _; omega)).trans h4
  have d2 := (b1.cell (p := ⟨b + 2, 0, none⟩) (by show b + 2 < _; omega)).trans h6
  have y1 := (b1.frozen (p := ⟨b + 1, 0, none⟩) (by show b + 1 < _; omega)).trans h9
  have y2 := (b1.frozen (p := ⟨b + 2, 0, none⟩) (by show b + 2 < _; omega)).trans h10
  have e1 := H12.out.trans (b1.mono (by omega))
  clear hW1 h3 h4 h6 h9 h10
  refine app_at elem_strs rfl _ _ rfl hi _ L (namesC s) rfl H5a.out ⟨W.heap.size, 0, none⟩ 1 1 [strv nm] rfl rfl ?a1 ?a2 (by omega) (by omega) ?a3
  case a1 => exact cells_one c1
  case a2 =>
    intro x hx
    simp at hx
    subst hx
    rfl
  intro v2 W2 ho2 hg2 hw2
  have hr2 : ∀ g, (Value.slice va L vc).ownBlock = some g → hi ≤ g := fun g hg => (H5.out.lt g hg).1
  have hne2 : ∀ k, k < hi → (some k : Option Nat) ≠ (Value.slice va L vc).ownBlock := fun k q1 q2 => by have := hr2 k q2.symm; omega
  have f0 := hg2.cell d0 (hne2 b (by omega))
  have f1 := hg2.cell d1 (hne2 (b + 1) (by omega))
  have f2 := hg2.cell d2 (hne2 (b + 2) (by omega))
  have x1 : W2.frozen? ⟨b + 1, 0, none⟩ = false := (World.frozen?_of_block (a := ⟨b + 1, 0, none⟩) (hg2.block (b + 1) (by omega) (hne2 _ (by omega)))).trans y1
  have x2 : W2.frozen? ⟨b + 2, 0, none⟩ = false := (World.frozen?_of_block (a := ⟨b + 2, 0, none⟩) (hg2.block (b + 2) (by omega) (hne2 _ (by omega)))).trans y2
  have K2 := Lib.hid (keep_grown K1.out hg2 (fun g hg => .inr (hr2 g hg)))
  have H7b := Lib.hid (own_grown H7a.out hg2 (fun g hg e => H8.out g e hg))
  have e2 := e1.grown hg2 (by omega) (fun g hg => by have := hr2 g hg; omega)
  have s2 := hg2.size
  have hdis : ∀ g, v2.ownBlock = some g → (Value.slice ua L uc).ownBlock ≠ some g := fun g hg e => by
    rcases hw2 with q | q
    · exact H8.out g (q ▸ hg) e
    · rw [q] at hg
      cases hg
      have := (H7.out.lt _ e).2
      omega
  have HD := Lib.hid hdis
  obtain ⟨va2, vc2, rfl⟩ := own_slice ho2
  have HO2 := Lib.hid ho2
  clear ho2 hg2 hw2 hdis d0 d1 d2 y1 y2 e1 c1 hne2
  go_wp2_with (at_builtin; refine list_gen ?_)
  intro W3 hW3
  have t0 : (W2.setCell ⟨b + 1, 0, none⟩ (.slice va2 (L + 1) vc2)).heap.size = W2.heap.size := by simp [World.setCell]
  have g0 : (W2.setCell ⟨b + 1, 0, none⟩ (.slice va2 (L + 1) vc2)).cell? ⟨b, 0, none⟩ = some (.int .i64 n) := by rw [cellSet, if_neg (by simp)]; exact f0
  have g1 : (W2.setCell ⟨b + 1, 0, none⟩ (.slice va2 (L + 1) vc2)).cell? ⟨b + 1, 0, none⟩ = some (.slice va2 (L + 1) vc2) := by rw [cellSet, if_pos rfl, f1]; rfl
  have g2 : (W2.setCell ⟨b + 1, 0, none⟩ (.slice va2 (L + 1) vc2)).cell? ⟨b + 2, 0, none⟩ = some (.slice ua L uc) := by rw [cellSet, if_neg (by simp)]; exact f2
  have y1 : (W2.setCell ⟨b + 1, 0, none⟩ (.slice va2 (L + 1) vc2)).frozen? ⟨b + 1, 0, none⟩ = false := by rw [World.frozen?_setCell]; exact x1
  have y2 : (W2.setCell ⟨b + 1, 0, none⟩ (.slice va2 (L + 1) vc2)).frozen? ⟨b + 2, 0, none⟩ = false := by rw [World.frozen?_setCell]; exact x2
  have o1 := ownsRow_setCell_below HO2.out (a := ⟨b + 1, 0, none⟩) (by show b + 1 < hi; omega) (.slice va2 (L + 1) vc2)
  have o2 := ownsRow_setCell_below H7b.out (a := ⟨b + 1, 0, none⟩) (by show b + 1 < hi; omega) (.slice va2 (L + 1) vc2)
  have K3 := K2.out.put (B := b + 1) (by omega) 0 (.slice va2 (L + 1) vc2)
  have e3 : Below b w (W2.setCell ⟨b + 1, 0, none⟩ (.slice va2 (L + 1) vc2)) := setc_below e2 (by omega)
  obtain ⟨V, hV⟩ : ∃ V, W2.setCell ⟨b + 1, 0, none⟩ (.slice va2 (L + 1) vc2) = V := ⟨_, rfl⟩
  rw [hV] at t0 g0 g1 g2 y1 y2 o1 o2 K3 e3 hW3
  clear f0 f1 f2 x1 x2 hV K2 H7b HO2 e2 H5a H7a
  have b3 : Below V.heap.size V W3 := by rw [hW3]; exact (Below.refl _ _).alloc (Nat.le_refl _) _
  have c3 := cell_made V #[.int .i64 (pl : Nat)] 3 (0, 0) 0
  rw [← hW3, t0] at c3
  have s3 : W3.heap.size = W2.heap.size + 1 := by rw [hW3, ← t0]; simp
  have K4 := Lib.hid (K3.below b3)
  have o3 := Lib.hid (own_alt o1 (Alt.of (m := b + 3) b3))
  have o4 := Lib.hid (own_alt o2 (Alt.of (m := b + 3) b3))
  have d0 := (b3.cell (p := ⟨b, 0, none⟩) (by show b < _; omega)).trans g0
  have d1 := (b3.cell (p := ⟨b + 1, 0, none⟩) (by show b + 1 < _; omega)).trans g1
  have d2 := (b3.cell (p := ⟨b + 2, 0, none⟩) (by show b + 2 < _; omega)).trans g2
  have x1 := (b3.frozen (p := ⟨b + 1, 0, none⟩) (by show b + 1 < _; omega)).trans y1
  have x2 := (b3.frozen (p := ⟨b + 2, 0, none⟩) (by show b + 2 < _; omega)).trans y2
  have e4 := e3.trans (b3.mono (by omega))
  have O1 := Lib.hid o1
  have O2 := Lib.hid o2
  clear hW3 g0 g1 g2 y1 y2 e3 b3 K3 o1 o2 K1
  refine app_at elem_ints rfl _ _ rfl hi _ L (placesC s) rfl o4.out ⟨W2.heap.size, 0, none⟩ 1 1 [.int .i64 (pl : Nat)] rfl rfl ?a4 ?a5 (by omega) (by omega) ?a6
  case a4 => exact cells_one c3
  case a5 =>
    intro x hx
    simp at hx
    subst hx
    rfl
  intro v4 W4 ho4 hg4 hw4
  have hr4 : ∀ g, (Value.slice ua L uc).ownBlock = some g → hi ≤ g := fun g hg => (O2.out.lt g hg).1
  have hne4 : ∀ k, k < hi → (some k : Option Nat) ≠ (Value.slice ua L uc).ownBlock := fun k q1 q2 => by have := hr4 k q2.symm; omega
  have f0 := hg4.cell d0 (hne4 b (by omega))
  have f1 := hg4.cell d1 (hne4 (b + 1) (by omega))
  have f2 := hg4.cell d2 (hne4 (b + 2) (by omega))
  have y1 : W4.frozen? ⟨b + 1, 0, none⟩ = false := (World.frozen?_of_block (a := ⟨b + 1, 0, none⟩) (hg4.block (b + 1) (by omega) (hne4 _ (by omega)))).trans x1
  have y2 : W4.frozen? ⟨b + 2, 0, none⟩ = false := (World.frozen?_of_block (a := ⟨b + 2, 0, none⟩) (hg4.block (b + 2) (by omega) (hne4 _ (by omega)))).trans x2
  have K5 := Lib.hid (keep_grown K4.out hg4 (fun g hg => .inr (hr4 g hg)))
  have o5 := Lib.hid (own_grown o3.out hg4 (fun g hg e => HD.out g hg e))
  have e5 := e4.grown hg4 (by omega) (fun g hg => by have := hr4 g hg; omega)
  have s4 := hg4.size
  have hdis : ∀ g, (Value.slice va2 (L + 1) vc2).ownBlock = some g → v4.ownBlock ≠ some g := fun g hg e => by
    rcases hw4 with q | q
    · exact HD.out g hg (q ▸ e)
    · rw [q] at e
      cases e
      have := (O1.out.lt _ hg).2
      omega
  have HD4 := Lib.hid hdis
  obtain ⟨ua4, uc4, rfl⟩ := own_slice ho4
  have HO4 := Lib.hid ho4
  have hF1 : (W4.setCell ⟨b + 2, 0, none⟩ (.slice ua4 (L + 1) uc4)).cell? ⟨b + 1, 0, none⟩ = some (.slice va2 (L + 1) vc2) := by rw [cellSet, if_neg (by simp)]; exact f1
  have hF0 : (W4.setCell ⟨b + 2, 0, none⟩ (.slice ua4 (L + 1) uc4)).cell? ⟨b, 0, none⟩ = some (.int .i64 n) := by rw [cellSet, if_neg (by simp)]; exact f0
  have hFI : WalkI b n w hi (s ++ [(nm, pl)]) room (W4.setCell ⟨b + 2, 0, none⟩ (.slice ua4 (L + 1) uc4)) := by
    refine ⟨h1, Nat.le_trans K5.out.1 (by simp [World.setCell]), hF0, ⟨_, hF1, ?_, _, by rw [cellSet, if_pos rfl, f2]; rfl, ?_, HD4.out⟩, by rw [World.frozen?_setCell]; exact y1, by rw [World.frozen?_setCell]; exact y2, by simp [HL.out]; omega, setc_below e5 (by omega)⟩
    · have h := ownsRow_setCell_below o5.out (a := ⟨b + 2, 0, none⟩) (by show b + 2 < hi; omega) (.slice ua4 (L + 1) uc4)
      rw [List.length_append, HL.out, show namesC (s ++ [(nm, pl)]) = namesC s ++ [strv nm] from by simp [namesC]]
      exact h
    · have h := ownsRow_setCell_below HO4.out (a := ⟨b + 2, 0, none⟩) (by show b + 2 < hi; omega) (.slice ua4 (L + 1) uc4)
      rw [List.length_append, HL.out, show placesC (s ++ [(nm, pl)]) = placesC s ++ [.int .i64 (pl : Nat)] from by simp [placesC]]
      exact h
  have HFI := Lib.hid hFI
  have KF := Lib.hid (K5.out.put (B := b + 2) (by omega) 0 (.slice ua4 (L + 1) uc4))
  have hwf : walkF n s nm pl = .go (decide (((L + 1 : Nat) : Int) < n)) (s ++ [(nm, pl)]) := by unfold walkF; rw [HL.out]
  have HWF := Lib.hid hwf
  clear ho4 hg4 hw4 hdis hne4 hwf hFI d0 d1 d2 x1 x2 e4 c3
  go_wp2
  go_ret
  rw [HWF.out]
  exact ⟨⟨by simp, HFI.out⟩, KF.out⟩
end Go.Proofs.YtdelpialeajajaaGreatDoor

/- plain.Walk. -/
namespace Go.Proofs.YtdelpialeajajaaGreatDoor
open Go Go.RowKit
set_option maxRecDepth 10000

theorem walk_go (n : Int) : ∀ (f : Fo) (s : WSt), ∃ b s', eachF (askF (walkF n)) f s = .go b s'
  | .nil, s => ⟨true, s, rfl⟩
  | .text _ r, s => walk_go n r s
  | .hash r, s => walk_go n r s
  | .put nm a r, s => by
    rw [eachF, show askF (walkF n) s (.put nm a .nil) = .go (decide (((s.length + 1 : Nat) : Int) < n)) (s ++ [(nm, a)]) from rfl]
    cases decide (((s.length + 1 : Nat) : Int) < n) with
    | false => exact ⟨_, _, rfl⟩
    | true => exact walk_go n r _
  | .num nm a r, s => by
    rw [eachF, show askF (walkF n) s (.num nm a .nil) = .go (decide (((s.length + 1 : Nat) : Int) < n)) (s ++ [(nm, a)]) from rfl]
    cases decide (((s.length + 1 : Nat) : Int) < n) with
    | false => exact ⟨_, _, rfl⟩
    | true => exact walk_go n r _
  | .br nm a f o c bs r, s => by
    rw [eachF, show askF (walkF n) s (.br nm a f o c bs .nil) = .go (decide (((s.length + 1 : Nat) : Int) < n)) (s ++ [(nm, a)]) from rfl]
    cases decide (((s.length + 1 : Nat) : Int) < n) with
    | false => exact ⟨_, _, rfl⟩
    | true =>
      obtain ⟨b, s1, h1⟩ := walk_go n bs (s ++ [(nm, a)])
      show ∃ b s', (eachF (askF (walkF n)) bs (s ++ [(nm, a)])).then _ = _
      rw [h1]
      cases b with
      | false => exact ⟨_, _, rfl⟩
      | true => exact walk_go n r s1
  | .leg k a m r, s => by
    obtain ⟨b, s1, h1⟩ := walk_go n m s
    rw [eachF, h1]
    cases b with
    | false => exact ⟨_, _, rfl⟩
    | true => exact walk_go n r s1

/-- names and places, up to n -/
def walkL (n : Int) (f : Fo) : WSt := match eachF (askF (walkF n)) f [] with | .go _ s => s | .pan _ s => s

def WalkQ (n : Int) (r : Except (Nat × Nat) Fo) (w : World) (e : Ending) (w' : World) : Prop :=
  (match r with
    | .error (k, a) => e = .returned (.tuple #[.slice none 0 0, .slice none 0 0, .int .i64 (k : Nat), .int .i64 (a : Nat)])
    | .ok f => ∃ va vc ua uc, e = .returned (.tuple #[.slice va (walkL n f).length vc, .slice ua (walkL n f).length uc, .int .i64 0, .int .i64 0]) ∧ w'.ownsRow w.heap.size 9 1 (.slice va (walkL n f).length vc) (walkL n f).length (namesC (walkL n f)) ∧
        w'.ownsRow w.heap.size 3 1 (.slice ua (walkL n f).length uc) (walkL n f).length (placesC (walkL n f))) ∧ Below w.heap.size w w'

theorem own_base {w : World} {base base' : Nat} {e : TypeId} {size n : Nat} {v : Value} {xs : List Value} (h : w.ownsRow base e size v n xs) (hb : base' ≤ base) : w.ownsRow base' e size v n xs := by
  obtain ⟨h1, h2⟩ := h
  refine ⟨h1, ?_⟩
  rcases h2 with h2 | ⟨g, cap, cur, hv, hg, rest⟩
  · exact .inl h2
  · exact .inr ⟨g, cap, cur, hv, by omega, rest⟩

theorem frozen_new (X : World) (c : Array Value) (t : TypeId) (i : Nat) : (X.alloc (.cells c t)).frozen? ⟨X.heap.size, i, none⟩ = false := by simp

theorem _root_.Go.World.ownsRow.drewO {w : World} {base : Nat} {e : TypeId} {size n : Nat} {v : Value} {xs : List Value} (h : w.ownsRow base e size v n xs) : w.drew.ownsRow base e size v n xs := h

set_option maxHeartbeats 4000000 in
theorem walk_any (s : ByteArray) (n : Int) (w : World) (hs : s.size ≤ 9223372036854775807) (hE : ErrT w) (hT : Lib.Utf8Tabs 2 3 w) (hN : NamesAt w) :
    Calls Tryz.prog 11 #[.string s, .int .i64 n] w (WalkQ n (readP s.data.toList) w) := by
  have hmf : ∀ (fn : Fn) (first cap : Array Value) (w : World), (Instr.makeFunc fn first cap).run Tryz.prog w = .ok (.func fn first cap) w := fun _ _ _ _ => rfl
  obtain ⟨b, hb⟩ : ∃ b, w.heap.size = b := ⟨_, rfl⟩
  have HB := Lib.hid hb
  have t1 : (w.alloc (.cells #[.int .i64 n] 3)).heap.size = b + 1 := by simp [hb]
  have t2 : ((w.alloc (.cells #[.int .i64 n] 3)).alloc (.cells #[.slice none 0 0] 24)).heap.size = b + 2 := by simp [hb]
  have t3 : (((w.alloc (.cells #[.int .i64 n] 3)).alloc (.cells #[.slice none 0 0] 24)).alloc (.cells #[.slice none 0 0] 25)).heap.size = b + 3 := by simp [hb]
  have q1 : Below w.heap.size w (w.alloc (.cells #[.int .i64 n] 3)) := (Below.refl _ _).alloc (Nat.le_refl _) _
  have q2 : Below (w.alloc (.cells #[.int .i64 n] 3)).heap.size (w.alloc (.cells #[.int .i64 n] 3)) ((w.alloc (.cells #[.int .i64 n] 3)).alloc (.cells #[.slice none 0 0] 24)) := (Below.refl _ _).alloc (Nat.le_refl _) _
  have q3 : Below ((w.alloc (.cells #[.int .i64 n] 3)).alloc (.cells #[.slice none 0 0] 24)).heap.size ((w.alloc (.cells #[.int .i64 n] 3)).alloc (.cells #[.slice none 0 0] 24)) (((w.alloc (.cells #[.int .i64 n] 3)).alloc (.cells #[.slice none 0 0] 24)).alloc (.cells #[.slice none 0 0] 25)) := (Below.refl _ _).alloc (Nat.le_refl _) _
  have hb3 := (q1.trans (q2.mono (by omega))).trans (q3.mono (by omega))
  have c0 := cell_made w #[.int .i64 n] 3 (0, 0) 0
  rw [hb] at c0
  have c0' := (q3.cell (p := ⟨b, 0, none⟩) (by show b < _; omega)).trans ((q2.cell (p := ⟨b, 0, none⟩) (by show b < _; omega)).trans c0)
  have c1 := cell_made (w.alloc (.cells #[.int .i64 n] 3)) #[.slice none 0 0] 24 (0, 0) 0
  rw [t1] at c1
  have c1' := (q3.cell (p := ⟨b + 1, 0, none⟩) (by show b + 1 < _; omega)).trans c1
  have c2 := cell_made ((w.alloc (.cells #[.int .i64 n] 3)).alloc (.cells #[.slice none 0 0] 24)) #[.slice none 0 0] 25 (0, 0) 0
  rw [t2] at c2
  have z1 : (((w.alloc (.cells #[.int .i64 n] 3)).alloc (.cells #[.slice none 0 0] 24)).alloc (.cells #[.slice none 0 0] 25)).frozen? ⟨b + 1, 0, none⟩ = false := by
    rw [q3.frozen (p := ⟨b + 1, 0, none⟩) (by show b + 1 < _; omega), ← t1]
    simp
  have z2 : (((w.alloc (.cells #[.int .i64 n] 3)).alloc (.cells #[.slice none 0 0] 24)).alloc (.cells #[.slice none 0 0] 25)).frozen? ⟨b + 2, 0, none⟩ = false := by
    have h := frozen_new ((w.alloc (.cells #[.int .i64 n] 3)).alloc (.cells #[.slice none 0 0] 24)) #[.slice none 0 0] 25 0
    rw [t2] at h
    exact h
  obtain ⟨W0, hW0⟩ : ∃ W0, ((w.alloc (.cells #[.int .i64 n] 3)).alloc (.cells #[.slice none 0 0] 24)).alloc (.cells #[.slice none 0 0] 25) = W0 := ⟨_, rfl⟩
  rw [hW0] at t3 hb3 c0' c1' c2 z1 z2
  have HW0 := Lib.hid hW0
  have hE0 := hE.below hb3
  have HPE := Lib.hid (peach_any (σ := WSt) s (.func (.func 24) #[] #[.pointer (some ⟨b + 1, 0, none⟩), .pointer (some ⟨b + 2, 0, none⟩), .pointer (some ⟨b, 0, none⟩)]) (fun hi s room W => WalkI b n w hi s room W) (walkF n) [] W0 hs (tabs_keep hT hb3) (hN.below hb3) ⟨_, _, rfl⟩
    (fun hi hh => by
      rw [t3] at hh ⊢
      refine ⟨⟨_, _, rfl, fun args w => enters_of Tryz.func24 (by kernel_rfl) rfl args w, fun s room W nm pl hI _ _ => walk1_any b n w hi s room W nm pl hI⟩, fun s r W W' h ha => h.same ha, fun s r r' W h hr => ⟨h.low, h.hiW, h.nc, h.names, h.z1, h.z2, by have := h.few; omega, h.bel⟩, fun s nm a c s' h => by cases h⟩)
    (fun hi W hh hW hbW => by
      rw [t3] at hh
      have k0 := (hbW.cell (p := ⟨b, 0, none⟩) (by show b < _; omega)).trans c0'
      have k1 := (hbW.cell (p := ⟨b + 1, 0, none⟩) (by show b + 1 < _; omega)).trans c1'
      have k2 := (hbW.cell (p := ⟨b + 2, 0, none⟩) (by show b + 2 < _; omega)).trans c2
      exact ⟨hh, hW, k0, ⟨_, k1, World.ownsRow_nil _ _ _ _, _, k2, World.ownsRow_nil _ _ _ _, fun g hg => by cases hg⟩, (hbW.frozen (p := ⟨b + 1, 0, none⟩) (by show b + 1 < _; omega)).trans z1, (hbW.frozen (p := ⟨b + 2, 0, none⟩) (by show b + 2 < _; omega)).trans z2, by simp,
        by have h := hb3.trans (hbW.mono (by omega)); rw [hb] at h; exact h⟩))
  obtain ⟨r, hr⟩ : ∃ r, readP s.data.toList = r := ⟨_, rfl⟩
  rw [hr] at HPE ⊢
  clear hr q1 q2 q3 c0 c1 hT hN hE hW0 t1 t2 z1 z2 c0'
  go_enter Tryz.func11, Tryz.ntmps11
  go_wp2_with fail
  rw [HW0.out]
  refine HPE.out.mono ?_
  rintro e w1 hq
  cases r with
  | error en =>
    obtain ⟨k, a⟩ := en
    obtain ⟨⟨bf, rfl, f0, f1⟩, hb1⟩ := hq
    have HTE := Lib.hid (tell_f bf (k : Nat) (a : Nat) w1 (hE0.below hb1) f0 f1)
    have m1 := (hb1.cell (p := ⟨b + 1, 0, none⟩) (by show b + 1 < _; omega)).trans c1'
    have m2 := (hb1.cell (p := ⟨b + 2, 0, none⟩) (by show b + 2 < _; omega)).trans c2
    have hbw1 := hb3.trans (hb1.mono (by omega))
    have hs1 := hb1.size
    clear f0 f1 hb1 HPE
    go_wp2_with fail
    refine HTE.out.mono ?_
    rintro e w2 ⟨rfl, hb2⟩
    have n1 := (hb2.cell (p := ⟨b + 1, 0, none⟩) (by show b + 1 < _; omega)).trans m1
    have n2 := (hb2.cell (p := ⟨b + 2, 0, none⟩) (by show b + 2 < _; omega)).trans m2
    have hbw2 := hbw1.trans (hb2.mono (by omega))
    clear m1 m2 HTE
    have hS0 : w2.drew.cell? ⟨b + 1, 0, none⟩ = some (.slice none 0 0) ∧ w2.drew.cell? ⟨b + 2, 0, none⟩ = some (.slice none 0 0) := ⟨n1, n2⟩
    go_wp2_with fail
    refine wp_region_takes (fun W' : World => W'.cell? ⟨b + 1, 0, none⟩ = some (.slice none 0 0) ∧ W'.cell? ⟨b + 2, 0, none⟩ = some (.slice none 0 0)) [0, 1, 2, 3, 4, 5, 6, 7] 0 (by intro _ _ d _ _ h; cases d <;> exact h) (by kernel_rfl) (by kernel_rfl) hS0 ?_
    (iterate 8 (first | (refine takes_yes (v := ?_) rfl (by rfl) ?_ ?_; rotate_left; (focus ((intro w' hS'; (try dsimp only at hS'); go_simp; try (with_reducible rfl)); done)); (try simp only [Act.put, List.setIfInBounds_toArray, List.set_cons_zero, List.set_cons_succ])) | (refine takes_no rfl (by rfl) ?_; (try simp only [Act.put, List.setIfInBounds_toArray, List.set_cons_zero, List.set_cons_succ]))))
    refine takes_nil ?_
    refine wpAnyH_done (by kernel_rfl) ?_ _
    go_wp2
    refine bodyPost_ret (v := .tuple #[.slice none 0 0, .slice none 0 0, .int .i64 (k : Nat), .int .i64 (a : Nat)]) ?_ rfl ?_
    · simp [results, Tryz.results11, go_sem]
    exact ⟨rfl, hbw2.drew⟩
  | ok f =>
    obtain ⟨bo, so, ho⟩ := walk_go n f []
    have hwl : walkL n f = so := by unfold walkL; rw [ho]
    have HWL := Lib.hid hwl
    obtain ⟨hi, hhi, hq⟩ := hq
    rw [ho] at hq
    obtain ⟨rfl, hI⟩ := hq
    have hb1 : Below W0.heap.size W0 W0 := Below.refl _ _
    have hbel := hI.bel
    obtain ⟨vv, m1, r1, uu, m2, r2, _⟩ := hI.names
    obtain ⟨va, vc, rfl⟩ := own_slice r1
    obtain ⟨ua, uc, rfl⟩ := own_slice r2
    have hs1 : b + 2 < w1.heap.size := World.block_lt_of_cell? _ _ m2
    have HTE := Lib.hid (tell_nil w1)
    have HR1 := Lib.hid r1
    have HR2 := Lib.hid r2
    clear hwl ho hI r1 r2 HPE
    obtain ⟨L, hL⟩ : ∃ L, so.length = L := ⟨_, rfl⟩
    rw [hL] at m1 m2
    have HL := Lib.hid hL
    clear hL
    go_wp2_with fail
    refine HTE.out.mono ?_
    rintro e w2 ⟨rfl, hb2⟩
    have n1 := (hb2.cell (p := ⟨b + 1, 0, none⟩) (by show b + 1 < _; omega)).trans m1
    have n2 := (hb2.cell (p := ⟨b + 2, 0, none⟩) (by show b + 2 < _; omega)).trans m2
    clear m1 m2 HTE
    have hS0 : w2.drew.cell? ⟨b + 1, 0, none⟩ = some (.slice va L vc) ∧ w2.drew.cell? ⟨b + 2, 0, none⟩ = some (.slice ua L uc) := ⟨n1, n2⟩
    go_wp2_with fail
    refine wp_region_takes (fun W' : World => W'.cell? ⟨b + 1, 0, none⟩ = some (.slice va L vc) ∧ W'.cell? ⟨b + 2, 0, none⟩ = some (.slice ua L uc)) [0, 1, 2, 3, 4, 5, 6, 7] 0 (by intro _ _ d _ _ h; cases d <;> exact h) (by kernel_rfl) (by kernel_rfl) hS0 ?_
    (iterate 8 (first | (refine takes_yes (v := ?_) rfl (by rfl) ?_ ?_; rotate_left; (focus ((intro w' hS'; (try dsimp only at hS'); go_simp; try (with_reducible rfl)); done)); (try simp only [Act.put, List.setIfInBounds_toArray, List.set_cons_zero, List.set_cons_succ])) | (refine takes_no rfl (by rfl) ?_; (try simp only [Act.put, List.setIfInBounds_toArray, List.set_cons_zero, List.set_cons_succ]))))
    refine takes_nil ?_
    refine wpAnyH_done (by kernel_rfl) ?_ _
    go_wp2
    refine bodyPost_ret (v := .tuple #[.slice va L vc, .slice ua L uc, .int .i64 0, .int .i64 0]) ?_ rfl ?_
    · simp [results, Tryz.results11, go_sem]
    have hbf : Below w.heap.size w w2 := by rw [HB.out]; exact hbel.trans (hb2.mono (by omega))
    have o1 := own_base (own_alt HR1.out (Alt.of (m := hi) hb2)) (base' := w.heap.size) (by rw [HB.out]; omega)
    have o2 := own_base (own_alt HR2.out (Alt.of (m := hi) hb2)) (base' := w.heap.size) (by rw [HB.out]; omega)
    refine ⟨?_, hbf.drew⟩
    refine ⟨va, vc, ua, uc, by rw [HWL.out, HL.out], ?_, ?_⟩
    · rw [HWL.out, HL.out]
      have h := o1.drewO
      rw [HL.out] at h
      exact h
    · rw [HWL.out, HL.out]
      have h := o2.drewO
      rw [HL.out] at h
      exact h
end Go.Proofs.YtdelpialeajajaaGreatDoor

/- plain.Stop. -/
namespace Go.Proofs.YtdelpialeajajaaGreatDoor
open Go Go.RowKit
set_option maxRecDepth 10000

/-- a function that panics at its n-th call -/
def stopF (p : ByteArray) (n : Int) (k : Nat) (_ : Wd) (_ : Nat) : Out Nat :=
  if ((k + 1 : Nat) : Int) = n then .pan [{ v := .iface 9 (.string p), recovered := false }] (k + 1) else .go true (k + 1)

structure StopI (b : Nat) (p : ByteArray) (n : Int) (w : World) (hi : Nat) (k : Nat) (room : Nat) (W : World) : Prop where
  low : b + 3 ≤ hi
  hiW : hi ≤ W.heap.size
  c0 : W.cell? ⟨b, 0, none⟩ = some (.string p)
  c1 : W.cell? ⟨b + 1, 0, none⟩ = some (.int .i64 n)
  c2 : W.cell? ⟨b + 2, 0, none⟩ = some (.int .i64 (k : Nat))
  z2 : W.frozen? ⟨b + 2, 0, none⟩ = false
  few : k + room ≤ 1000000
  bel : Below b w W

theorem StopI.same {b : Nat} {p : ByteArray} {n : Int} {w : World} {hi k room : Nat} {W W' : World} (h : StopI b p n w hi k room W) (ha : Alt (b + 3) hi W W') : StopI b p n w hi k room W' := by
  obtain ⟨h1, h2, h3, h4, h5, h6, h7, h8⟩ := h
  have l0 : b < W.heap.size := World.block_lt_of_cell? W _ h3
  have l1 : b + 1 < W.heap.size := World.block_lt_of_cell? W _ h4
  have l2 : b + 2 < W.heap.size := World.block_lt_of_cell? W _ h5
  exact ⟨h1, Nat.le_trans h2 ha.size, (World.cell?_of_block (a := ⟨b, 0, none⟩) (ha.block b l0 (.inl (by omega)))).trans h3, (World.cell?_of_block (a := ⟨b + 1, 0, none⟩) (ha.block (b + 1) l1 (.inl (by omega)))).trans h4,
    (World.cell?_of_block (a := ⟨b + 2, 0, none⟩) (ha.block (b + 2) l2 (.inl (by omega)))).trans h5, (World.frozen?_of_block (a := ⟨b + 2, 0, none⟩) (ha.block (b + 2) l2 (.inl (by omega)))).trans h6, h7,
    h8.trans ⟨ha.os, ha.tape, ha.output, ha.size, fun k hk => ha.block k (by omega) (.inl (by omega))⟩⟩

theorem stop1_any (b : Nat) (p : ByteArray) (n : Int) (w : World) (hi k room : Nat) (W : World) (nm : Wd) (pl : Nat) (hI : StopI b p n w hi k (room + 1) W) :
    Calls Tryz.prog 41 #[strv nm, .int .i64 (pl : Nat), .pointer (some ⟨b + 2, 0, none⟩), .pointer (some ⟨b + 1, 0, none⟩), .pointer (some ⟨b, 0, none⟩)] W (fun e W' => OutQ (StopI b p n w hi) room (stopF p n k nm pl) e W' ∧ KeepR (b + 3) hi W W') := by
  obtain ⟨h1, h2, h3, h4, h5, h6, h7, h8⟩ := hI
  have f0 : (W.setCell ⟨b + 2, 0, none⟩ (.int .i64 ((k : Int) + 1))).cell? ⟨b, 0, none⟩ = some (.string p) := by rw [cellSet, if_neg (by simp)]; exact h3
  have f1 : (W.setCell ⟨b + 2, 0, none⟩ (.int .i64 ((k : Int) + 1))).cell? ⟨b + 1, 0, none⟩ = some (.int .i64 n) := by rw [cellSet, if_neg (by simp)]; exact h4
  have f2 : (W.setCell ⟨b + 2, 0, none⟩ (.int .i64 ((k : Int) + 1))).cell? ⟨b + 2, 0, none⟩ = some (.int .i64 ((k : Int) + 1)) := by rw [cellSet, if_pos rfl, h5]; rfl
  have hFI : StopI b p n w hi (k + 1) room (W.setCell ⟨b + 2, 0, none⟩ (.int .i64 ((k : Int) + 1))) :=
    ⟨h1, Nat.le_trans h2 (by simp [World.setCell]), f0, f1, by rw [f2]; simp, by rw [World.frozen?_setCell]; exact h6, by omega, setc_below h8 (by omega)⟩
  have hKF : KeepR (b + 3) hi W (W.setCell ⟨b + 2, 0, none⟩ (.int .i64 ((k : Int) + 1))) := (keep_refl h2).put (by omega) 0 _
  have HFI := Lib.hid hFI
  have HKF := Lib.hid hKF
  have hk7 : k ≤ 1000000 := by omega
  clear hFI hKF h1 h2 h8
  by_cases hn : ((k + 1 : Nat) : Int) = n
  · have HS := Lib.hid (show stopF p n k nm pl = .pan [{ v := .iface 9 (.string p), recovered := false }] (k + 1) from if_pos hn)
    have j1 : (((k : Int) + 1) == n) = true := by simp; omega
    clear hn
    go_enter Tryz.func41, Tryz.ntmps41
    go_wp2
    rw [HS.out]
    exact ⟨rfl, ⟨rfl, HFI.out⟩, HKF.out⟩
  · have HS := Lib.hid (show stopF p n k nm pl = .go true (k + 1) from if_neg hn)
    have j1 : (((k : Int) + 1) == n) = false := by simp; omega
    clear hn
    go_enter Tryz.func41, Tryz.ntmps41
    go_wp2
    go_ret
    rw [HS.out]
    exact ⟨⟨rfl, HFI.out⟩, HKF.out⟩

/-- how often it was called; did it panic? -/
def stopO : Out Nat → Nat × Bool | .go _ k => (k, false) | .pan _ k => (k, true)
def stopL (p : ByteArray) (n : Int) (f : Fo) : Nat × Bool := stopO (eachF (askF (stopF p n)) f 0)

def StopQ (p : ByteArray) (n : Int) (r : Except (Nat × Nat) Fo) (w : World) (e : Ending) (w' : World) : Prop :=
  (match r with
    | .error (k, _) => e = .returned (.tuple #[.int .i64 0, .int .i64 (k : Nat)])
    | .ok f => e = .returned (.tuple #[.int .i64 ((stopL p n f).1 : Nat), .int .i64 (if (stopL p n f).2 = true then 15 else 0)])) ∧ Below w.heap.size w w'

set_option maxHeartbeats 4000000 in
theorem stop_any (s : ByteArray) (n : Int) (w : World) (hs : s.size ≤ 9223372036854775807) (hE : ErrT w) (hT : Lib.Utf8Tabs 2 3 w) (hN : NamesAt w) :
    Calls Tryz.prog 27 #[.string s, .int .i64 n] w (StopQ s n (readP s.data.toList) w) := by
  have hmf : ∀ (fn : Fn) (first cap : Array Value) (w : World), (Instr.makeFunc fn first cap).run Tryz.prog w = .ok (.func fn first cap) w := fun _ _ _ _ => rfl
  obtain ⟨b, hb⟩ : ∃ b, w.heap.size = b := ⟨_, rfl⟩
  have HB := Lib.hid hb
  have t1 : (w.alloc (.cells #[.string s] 9)).heap.size = b + 1 := by simp [hb]
  have t2 : ((w.alloc (.cells #[.string s] 9)).alloc (.cells #[.int .i64 n] 3)).heap.size = b + 2 := by simp [hb]
  have t3 : (((w.alloc (.cells #[.string s] 9)).alloc (.cells #[.int .i64 n] 3)).alloc (.cells #[.int .i64 0] 3)).heap.size = b + 3 := by simp [hb]
  have q1 : Below w.heap.size w (w.alloc (.cells #[.string s] 9)) := (Below.refl _ _).alloc (Nat.le_refl _) _
  have q2 : Below (w.alloc (.cells #[.string s] 9)).heap.size (w.alloc (.cells #[.string s] 9)) ((w.alloc (.cells #[.string s] 9)).alloc (.cells #[.int .i64 n] 3)) := (Below.refl _ _).alloc (Nat.le_refl _) _
  have q3 : Below ((w.alloc (.cells #[.string s] 9)).alloc (.cells #[.int .i64 n] 3)).heap.size ((w.alloc (.cells #[.string s] 9)).alloc (.cells #[.int .i64 n] 3)) (((w.alloc (.cells #[.string s] 9)).alloc (.cells #[.int .i64 n] 3)).alloc (.cells #[.int .i64 0] 3)) := (Below.refl _ _).alloc (Nat.le_refl _) _
  have hb3 := (q1.trans (q2.mono (by omega))).trans (q3.mono (by omega))
  have c0 := cell_made w #[.string s] 9 (0, 0) 0
  rw [hb] at c0
  have c0' := (q3.cell (p := ⟨b, 0, none⟩) (by show b < _; omega)).trans ((q2.cell (p := ⟨b, 0, none⟩) (by show b < _; omega)).trans c0)
  have c1 := cell_made (w.alloc (.cells #[.string s] 9)) #[.int .i64 n] 3 (0, 0) 0
  rw [t1] at c1
  have c1' := (q3.cell (p := ⟨b + 1, 0, none⟩) (by show b + 1 < _; omega)).trans c1
  have c2 := cell_made ((w.alloc (.cells #[.string s] 9)).alloc (.cells #[.int .i64 n] 3)) #[.int .i64 0] 3 (0, 0) 0
  rw [t2] at c2
  have z2 := frozen_new ((w.alloc (.cells #[.string s] 9)).alloc (.cells #[.int .i64 n] 3)) #[.int .i64 0] 3 0
  rw [t2] at z2
  obtain ⟨W0, hW0⟩ : ∃ W0, ((w.alloc (.cells #[.string s] 9)).alloc (.cells #[.int .i64 n] 3)).alloc (.cells #[.int .i64 0] 3) = W0 := ⟨_, rfl⟩
  rw [hW0] at t3 hb3 c0' c1' c2 z2
  have HW0 := Lib.hid hW0
  have hE0 := hE.below hb3
  have HEW := Lib.hid hE
  have HPE := Lib.hid (peach_any (σ := Nat) s (.func (.func 41) #[] #[.pointer (some ⟨b + 2, 0, none⟩), .pointer (some ⟨b + 1, 0, none⟩), .pointer (some ⟨b, 0, none⟩)]) (fun hi k room W => StopI b s n w hi k room W) (stopF s n) 0 W0 hs (tabs_keep hT hb3) (hN.below hb3) ⟨_, _, rfl⟩
    (fun hi hh => by
      rw [t3] at hh ⊢
      refine ⟨⟨_, _, rfl, fun args w => enters_of Tryz.func41 (by kernel_rfl) rfl args w, fun k room W nm pl hI _ _ => stop1_any b s n w hi k room W nm pl hI⟩, fun k r W W' h ha => h.same ha, fun k r r' W h hr => ⟨h.low, h.hiW, h.c0, h.c1, h.c2, h.z2, by have := h.few; omega, h.bel⟩, fun k nm a c s' h => ?_⟩
      unfold stopF at h
      split at h
      · cases h
        exact ⟨_, _, rfl⟩
      · cases h)
    (fun hi W hh hW hbW => by
      rw [t3] at hh
      exact ⟨hh, hW, (hbW.cell (p := ⟨b, 0, none⟩) (by show b < _; omega)).trans c0', (hbW.cell (p := ⟨b + 1, 0, none⟩) (by show b + 1 < _; omega)).trans c1', (hbW.cell (p := ⟨b + 2, 0, none⟩) (by show b + 2 < _; omega)).trans c2, (hbW.frozen (p := ⟨b + 2, 0, none⟩) (by show b + 2 < _; omega)).trans z2, by simp,
        by have h := hb3.trans (hbW.mono (by omega)); rw [hb] at h; exact h⟩))
  obtain ⟨r, hr⟩ : ∃ r, readP s.data.toList = r := ⟨_, rfl⟩
  rw [hr] at HPE ⊢
  clear hr q1 q2 q3 c0 c1 hT hN hE t1 t2 z2 c1'
  have hc0 := c0'
  rw [← hW0] at hc0
  clear hW0
  go_enter Tryz.func27, Tryz.ntmps27
  go_wp2_with fail
  clear hc0
  rw [HW0.out]
  refine HPE.out.mono ?_
  rintro e w1 hq
  cases r with
  | error en =>
    obtain ⟨k, a⟩ := en
    obtain ⟨⟨bf, rfl, f0, f1⟩, hb1⟩ := hq
    have HTE := Lib.hid (tell_f bf (k : Nat) (a : Nat) w1 (hE0.below hb1) f0 f1)
    have m2 := (hb1.cell (p := ⟨b + 2, 0, none⟩) (by show b + 2 < _; omega)).trans c2
    have hbw1 := hb3.trans (hb1.mono (by omega))
    have hs1 := hb1.size
    clear f0 f1 hb1 HPE
    go_wp2_with fail
    refine HTE.out.mono ?_
    rintro e w2 ⟨rfl, hb2⟩
    have n2 := (hb2.cell (p := ⟨b + 2, 0, none⟩) (by show b + 2 < _; omega)).trans m2
    have hbw2 := hbw1.trans (hb2.mono (by omega))
    clear m2 HTE
    go_wp2
    go_ret2
    exact ⟨rfl, hbw2⟩
  | ok f =>
    obtain ⟨hi, hhi, hq⟩ := hq
    obtain ⟨o, ho⟩ : ∃ o, eachF (askF (stopF s n)) f 0 = o := ⟨_, rfl⟩
    rw [ho] at hq
    have HST := Lib.hid (show stopL s n f = stopO o by unfold stopL; rw [ho])
    clear ho HPE
    cases o with
    | go bo k =>
      obtain ⟨rfl, hI⟩ := hq
      have hbel := hI.bel
      have m2 := hI.c2
      have hs1 : b + 2 < w1.heap.size := World.block_lt_of_cell? _ _ m2
      have HTE := Lib.hid (tell_nil w1)
      clear hI
      go_wp2_with fail
      refine HTE.out.mono ?_
      rintro e w2 ⟨rfl, hb2⟩
      have n2 := (hb2.cell (p := ⟨b + 2, 0, none⟩) (by show b + 2 < _; omega)).trans m2
      have hbf : Below w.heap.size w w2 := by rw [HB.out]; exact hbel.trans (hb2.mono (by omega))
      clear m2 HTE
      go_wp2
      go_ret2
      refine ⟨?_, hbf⟩
      show Ending.returned _ = Ending.returned (.tuple #[.int .i64 ((stopL s n f).1 : Nat), .int .i64 (if (stopL s n f).2 = true then 15 else 0)])
      rw [HST.out]
      rfl
    | pan c k =>
      obtain ⟨rfl, hI⟩ := hq
      have hbel := hI.bel
      have m2 := hI.c2
      have hs1 : b + 2 < w1.heap.size := World.block_lt_of_cell? _ _ m2
      have HTE := Lib.hid (tell_n 15 w1 (HEW.out.below (by rw [HB.out]; exact hbel)))
      clear hI
      go_wp2_with fail
      refine HTE.out.mono ?_
      rintro e w2 ⟨rfl, hb2⟩
      have n2 := (hb2.cell (p := ⟨b + 2, 0, none⟩) (by show b + 2 < _; omega)).trans m2
      have hbf : Below w.heap.size w w2 := by rw [HB.out]; exact hbel.trans (hb2.mono (by omega))
      clear m2 HTE
      go_wp2
      go_ret2
      refine ⟨?_, hbf⟩
      show Ending.returned _ = Ending.returned (.tuple #[.int .i64 ((stopL s n f).1 : Nat), .int .i64 (if (stopL s n f).2 = true then 15 else 0)])
      rw [HST.out]
      rfl
end Go.Proofs.YtdelpialeajajaaGreatDoor

/- What the parser makes is fit; names and places of a message's arguments; where branches end. -/
namespace Go.Proofs.YtdelpialeajajaaGreatDoor
open Go Go.RowKit
set_option maxRecDepth 10000

theorem Fo.fit_app {N : Nat} : ∀ f g : Fo, f.fit N → g.fit N → (f.app g).fit N
  | .nil, g, _, h => h
  | .text t r, g, h, h2 => Fo.fit_app r g h h2
  | .hash r, g, h, h2 => Fo.fit_app r g h h2
  | .put n a r, g, h, h2 => ⟨h.1, h.2.1, Fo.fit_app r g h.2.2 h2⟩
  | .num n a r, g, h, h2 => ⟨h.1, h.2.1, Fo.fit_app r g h.2.2 h2⟩
  | .br n a f o c b r, g, h, h2 => ⟨h.1, h.2.1, h.2.2.1, h.2.2.2.1, h.2.2.2.2.1, Fo.fit_app r g h.2.2.2.2.2 h2⟩
  | .leg k a m r, g, h, h2 => ⟨h.1, h.2.1, Fo.fit_app r g h.2.2 h2⟩
theorem Fo.fit_addText {N : Nat} (t : Wd) : ∀ f : Fo, f.fit N → (f.addText t).fit N
  | .nil, _ => trivial
  | .text _ .nil, _ => trivial
  | .text _ (.text v r), h => Fo.fit_addText t (.text v r) h
  | .text _ (.hash r), h => Fo.fit_addText t (.hash r) h
  | .text _ (.put n a r), h => Fo.fit_addText t (.put n a r) h
  | .text _ (.num n a r), h => Fo.fit_addText t (.num n a r) h
  | .text _ (.br n a f o c b r), h => Fo.fit_addText t (.br n a f o c b r) h
  | .text _ (.leg k a m r), h => Fo.fit_addText t (.leg k a m r) h
  | .hash r, h => Fo.fit_addText t r h
  | .put n a r, h => ⟨h.1, h.2.1, Fo.fit_addText t r h.2.2⟩
  | .num n a r, h => ⟨h.1, h.2.1, Fo.fit_addText t r h.2.2⟩
  | .br n a f o c b r, h => ⟨h.1, h.2.1, h.2.2.1, h.2.2.2.1, h.2.2.2.2.1, Fo.fit_addText t r h.2.2.2.2.2⟩
  | .leg k a m r, h => ⟨h.1, h.2.1, Fo.fit_addText t r h.2.2⟩

/-- what a parser of messages makes is fit -/
def MsgFit (rs : List Int) (m : MsgP) : Prop := ∀ num i f j, m num i = .ok (f, j) → f.fit rs.length

section
variable {s : ByteArray} {rs : List Int} (E : BpE s rs)
include E
theorem BpE.name_some {i j : Nat} {x : Wd} (h : nameP rs i = .ok (x, j)) : x ≠ [] ∧ i < rs.length := by
  unfold nameP at h
  split at h
  · cases h
  next h0 =>
  cases h
  have hs := (E.nm i).2
  have hi : i < rs.length := by rcases hs.lt with q | q <;> omega
  refine ⟨?_, hi⟩
  unfold pieceL
  rw [bp_drop hi]
  cases hn : nameN rs i with
  | zero => exact absurd hn h0
  | succ n =>
    rw [List.take_succ_cons, List.flatMap_cons]
    intro q
    exact (E.okn hi).ne (List.append_eq_nil_iff.1 q).1
theorem BpE.whole_lt {i j : Nat} {x : Wd} (h : wholeP rs i = .ok (x, j)) : i < rs.length := by
  unfold wholeP at h
  split at h
  · cases h
  next h0 =>
  have hs := (E.wh i).2
  rcases hs.lt with q | q <;> omega
theorem BpE.key_lt {num : Bool} {i j : Nat} {x : Wd} (h : keyP rs num i = .ok (x, j)) : i < rs.length := by
  unfold keyP at h
  split at h
  · next hc => exact bp_next (k := 61) hc.2
  · obtain ⟨a, q, h1, h2⟩ := then_inv h
    exact (E.name_some h1).2
theorem BpE.leg_fit {msg : Option MsgP} {num : Bool} {i j : Nat} {f : Fo} (hm : ∀ m, msg = some m → MsgFit rs m) (h : legP rs msg num i = .ok (f, j)) : f.isLegs = true ∧ f.fit rs.length := by
  unfold legP at h
  obtain ⟨k, a, h1, h2⟩ := then_inv h
  obtain ⟨u, b, h3, h4⟩ := then_inv h2
  cases msg with
  | none => cases h4
  | some m =>
    obtain ⟨g, c, h5, h6⟩ := then_inv (show (m num b).then _ = _ from h4)
    obtain ⟨u2, z, h7, h8⟩ := then_inv h6
    cases h8
    exact ⟨rfl, E.key_lt h1, hm m rfl _ _ _ _ h5, trivial⟩
theorem BpE.legs_fit {msg : Option MsgP} {num : Bool} (hm : ∀ m, msg = some m → MsgFit rs m) : ∀ (n : Nat) (acc : Fo) (i j : Nat) (f : Fo), legsP rs msg num n acc i = .ok (f, j) → acc.isLegs = true → acc.fit rs.length → f.isLegs = true ∧ f.fit rs.length
  | 0, acc, i, j, f, h, _, _ => by cases h
  | n + 1, acc, i, j, f, h, ha, hb => by
    rw [legsP] at h
    split at h
    · cases h
      exact ⟨ha, hb⟩
    · obtain ⟨g, q, h1, h2⟩ := then_inv h
      have hg := E.leg_fit hm h1
      exact BpE.legs_fit hm n _ _ _ _ h2 (Fo.isLegs_app _ _ ha hg.1) (Fo.fit_app _ _ hb hg.2)
theorem BpE.arg_fit {msg : Option MsgP} {i j : Nat} {f : Fo} (hm : ∀ m, msg = some m → MsgFit rs m) (h : argP rs msg i = .ok (f, j)) : f.fit rs.length := by
  unfold argP at h
  obtain ⟨u, a, h1, h2⟩ := then_inv h
  obtain ⟨nm, b, h3, h4⟩ := then_inv h2
  have hi := next_lt (wantP_inv h1).1 (by decide)
  have hn := (E.name_some h3).1
  clear h h1 h2 h3
  split at h4
  · obtain ⟨u, z, h5, h6⟩ := then_inv h4
    cases h6
    exact ⟨hn, hi, trivial⟩
  · obtain ⟨wd, c, h5, h6⟩ := then_inv h4
    clear h4 h5
    split at h6
    · obtain ⟨u, z, h7, h8⟩ := then_inv h6
      cases h8
      exact ⟨hn, hi, trivial⟩
    · split at h6
      · cases h6
      · obtain ⟨u, d, h7, h8⟩ := then_inv h6
        obtain ⟨o, l, h9, h10⟩ := then_inv h8
        obtain ⟨bs, q, h11, h12⟩ := then_inv h10
        obtain ⟨u, z, h13, h14⟩ := then_inv h12
        have hb := E.legs_fit hm _ _ _ _ _ h11 rfl trivial
        have hq := next_lt (wantP_inv h13).1 (by decide)
        cases h14
        exact ⟨hn, hi, hq, hb.1, hb.2, trivial⟩
theorem BpE.msg_fit {msg : Option MsgP} {num : Bool} (hm : ∀ m, msg = some m → MsgFit rs m) : ∀ (n : Nat) (acc : Fo) (i j : Nat) (f : Fo), msgGo rs msg num n acc i = .ok (f, j) → acc.fit rs.length → f.fit rs.length
  | 0, acc, i, j, f, h, _ => by cases h
  | n + 1, acc, i, j, f, h, ha => by
    rw [msgGo] at h
    split at h
    · cases h
      exact ha
    split at h
    · obtain ⟨g, q, h1, h2⟩ := then_inv h
      exact BpE.msg_fit hm n _ _ _ _ h2 (Fo.fit_app _ _ ha (E.arg_fit hm h1))
    split at h
    · exact BpE.msg_fit hm n _ _ _ _ h (Fo.fit_app _ _ ha trivial)
    · exact BpE.msg_fit hm n _ _ _ _ h (Fo.fit_addText _ _ ha)
theorem BpE.msgs_fit : ∀ n, MsgFit rs (msgP rs n)
  | 0, num, i, f, j, h => by
    rw [msgP] at h
    exact E.msg_fit (fun m e => by cases e) _ _ _ _ _ h trivial
  | n + 1, num, i, f, j, h => by
    rw [msgP] at h
    exact E.msg_fit (fun m e => by cases e; exact BpE.msgs_fit n) _ _ _ _ _ h trivial
theorem BpE.parse_fit {f : Fo} {j : Nat} (h : parseL rs = .ok (f, j)) : f.fit rs.length := by
  unfold parseL at h
  obtain ⟨g, q, h1, h2⟩ := then_inv h
  split at h2
  · cases h2
    exact E.msgs_fit 5 _ _ _ _ h1
  · cases h2
end

/-- all arguments: names and places -/
def headsF : Fo → List (Wd × Nat)
  | .nil => []
  | .text _ r => headsF r
  | .hash r => headsF r
  | .put n a r => (n, a) :: headsF r
  | .num n a r => (n, a) :: headsF r
  | .br n a _ _ _ bs r => (n, a) :: (headsF bs ++ headsF r)
  | .leg _ _ m r => headsF m ++ headsF r
def eachH {σ : Type} (G : σ → Wd → Nat → Out σ) : List (Wd × Nat) → σ → Out σ
  | [], s => .go true s
  | x :: t, s => (G s x.1 x.2).then fun s => eachH G t s
theorem out_then {σ : Type} (x : Out σ) (k l : σ → Out σ) : (x.then k).then l = x.then fun s => (k s).then l := by
  cases x with
  | go b s => cases b <;> rfl
  | pan c s => rfl
theorem eachH_app {σ : Type} (G : σ → Wd → Nat → Out σ) : ∀ (a b : List (Wd × Nat)) (s : σ), eachH G (a ++ b) s = (eachH G a s).then fun s => eachH G b s
  | [], b, s => rfl
  | x :: t, b, s => by
    rw [List.cons_append, eachH, eachH, out_then]
    congr 1
    funext u
    exact eachH_app G t b u
theorem eachF_heads {σ : Type} (G : σ → Wd → Nat → Out σ) : ∀ (f : Fo) (s : σ), eachF (askF G) f s = eachH G (headsF f) s
  | .nil, s => rfl
  | .text _ r, s => eachF_heads G r s
  | .hash r, s => eachF_heads G r s
  | .put n a r, s => by
    rw [eachF, headsF, eachH]
    show (G s n a).then _ = _
    congr 1
    funext u
    exact eachF_heads G r u
  | .num n a r, s => by
    rw [eachF, headsF, eachH]
    show (G s n a).then _ = _
    congr 1
    funext u
    exact eachF_heads G r u
  | .br n a fo o c bs r, s => by
    rw [eachF, headsF, eachH]
    show (G s n a).then _ = _
    congr 1
    funext u
    rw [eachF_heads G bs u, eachH_app]
    congr 1
    funext v
    exact eachF_heads G r v
  | .leg k a m r, s => by
    rw [eachF, headsF, eachF_heads G m s, eachH_app]
    congr 1
    funext v
    exact eachF_heads G r v
theorem walkH (n : Int) : ∀ (l acc : List (Wd × Nat)), ∃ b, eachH (walkF n) l acc = .go b (acc ++ l.take (max (n - acc.length) 1).toNat)
  | [], acc => ⟨true, by simp [eachH]⟩
  | x :: t, acc => by
    rw [eachH]
    unfold walkF
    by_cases h : ((acc.length + 1 : Nat) : Int) < n
    · rw [decide_eq_true h]
      obtain ⟨b, hb⟩ := walkH n t (acc ++ [(x.1, x.2)])
      refine ⟨b, ?_⟩
      show eachH (walkF n) t (acc ++ [(x.1, x.2)]) = _
      rw [hb]
      have e : (max (n - acc.length) 1).toNat = (max (n - (acc ++ [(x.1, x.2)]).length) 1).toNat + 1 := by
        simp only [List.length_append, List.length_singleton]
        omega
      rw [e, List.take_succ_cons]
      simp
    · rw [decide_eq_false h]
      refine ⟨false, ?_⟩
      show Out.go false (acc ++ [(x.1, x.2)]) = _
      have e : (max (n - acc.length) 1).toNat = 1 := by omega
      rw [e, List.take_succ_cons, List.take_zero]
theorem walk_law (n : Int) (f : Fo) : walkL n f = (headsF f).take (max n 1).toNat := by
  unfold walkL
  rw [eachF_heads]
  obtain ⟨b, hb⟩ := walkH n (headsF f) []
  rw [hb]
  simp
theorem stopH (p : ByteArray) (n : Int) : ∀ (l : List (Wd × Nat)) (k : Nat), stopO (eachH (stopF p n) l k) = if (k : Int) < n ∧ n ≤ ((k + l.length : Nat) : Int) then (n.toNat, true) else (k + l.length, false)
  | [], k => by
    rw [if_neg (by simp <;> omega)]
    rfl
  | x :: t, k => by
    rw [eachH]
    unfold stopF
    by_cases h : ((k + 1 : Nat) : Int) = n
    · rw [if_pos h, if_pos (by simp; omega)]
      show (k + 1, true) = _
      rw [← h]
      rfl
    · rw [if_neg h]
      show stopO (eachH (stopF p n) t (k + 1)) = _
      rw [stopH p n t (k + 1)]
      have hiff : (((k + 1 : Nat) : Int) < n ∧ n ≤ ((k + 1 + t.length : Nat) : Int)) ↔ ((k : Int) < n ∧ n ≤ ((k + (x :: t).length : Nat) : Int)) := by
        rw [List.length_cons]
        omega
      by_cases hc : ((k : Int) < n ∧ n ≤ ((k + (x :: t).length : Nat) : Int))
      · rw [if_pos hc, if_pos (hiff.2 hc)]
      · rw [if_neg hc, if_neg (fun q => hc (hiff.1 q)), List.length_cons, Nat.add_assoc, Nat.add_comm 1]
theorem stop_law (p : ByteArray) (n : Int) (f : Fo) : stopL p n f = if 1 ≤ n ∧ n ≤ ((headsF f).length : Int) then (n.toNat, true) else ((headsF f).length, false) := by
  unfold stopL
  rw [eachF_heads, stopH, Nat.zero_add]
  have e : ((0 : Nat) : Int) < n ↔ 1 ≤ n := by omega
  simp only [e]

/-- a branching mark's end lies within -/
theorem end_in (rs : List Int) : ∀ (f : Fo) (P Q : List Mk) (i : Nat), P.length ≤ i → i < P.length + (marksF rs f).length → (mkA (P ++ (marksF rs f ++ Q)) i).kind = 40 → endL (P ++ (marksF rs f ++ Q)) i < P.length + (marksF rs f).length
  | .nil, P, Q, i, h1, h2, _ => by simp [marksF] at h2; omega
  | .text t r, P, Q, i, h1, h2, h3 => by
    have e : P ++ (marksF rs (.text t r) ++ Q) = (P ++ [⟨116, t, [], [], [], 0⟩]) ++ (marksF rs r ++ Q) := by simp [marksF]
    have el : P.length + (marksF rs (.text t r)).length = (P ++ [(⟨116, t, [], [], [], 0⟩ : Mk)]).length + (marksF rs r).length := by simp [marksF]; omega
    by_cases hi : i = P.length
    · subst hi
      exfalso
      revert h3
      unfold mkA
      rw [List.getD_eq_getElem?_getD, List.getElem?_append_right (Nat.le_refl _), Nat.sub_self]
      show 116 = 40 → False
      decide
    · rw [e] at h3 ⊢
      rw [el] at h2 ⊢
      exact end_in rs r _ Q i (by simp; omega) h2 h3
  | .hash r, P, Q, i, h1, h2, h3 => by
    have e : P ++ (marksF rs (.hash r) ++ Q) = (P ++ [⟨35, [], [], [], [], 0⟩]) ++ (marksF rs r ++ Q) := by simp [marksF]
    have el : P.length + (marksF rs (.hash r)).length = (P ++ [(⟨35, [], [], [], [], 0⟩ : Mk)]).length + (marksF rs r).length := by simp [marksF]; omega
    by_cases hi : i = P.length
    · subst hi
      exfalso
      revert h3
      unfold mkA
      rw [List.getD_eq_getElem?_getD, List.getElem?_append_right (Nat.le_refl _), Nat.sub_self]
      show 35 = 40 → False
      decide
    · rw [e] at h3 ⊢
      rw [el] at h2 ⊢
      exact end_in rs r _ Q i (by simp; omega) h2 h3
  | .put n a r, P, Q, i, h1, h2, h3 => by
    have e : P ++ (marksF rs (.put n a r) ++ Q) = (P ++ [⟨112, [], n, [], [], offI rs a⟩]) ++ (marksF rs r ++ Q) := by simp [marksF]
    have el : P.length + (marksF rs (.put n a r)).length = (P ++ [(⟨112, [], n, [], [], offI rs a⟩ : Mk)]).length + (marksF rs r).length := by simp [marksF]; omega
    by_cases hi : i = P.length
    · subst hi
      exfalso
      revert h3
      unfold mkA
      rw [List.getD_eq_getElem?_getD, List.getElem?_append_right (Nat.le_refl _), Nat.sub_self]
      show 112 = 40 → False
      decide
    · rw [e] at h3 ⊢
      rw [el] at h2 ⊢
      exact end_in rs r _ Q i (by simp; omega) h2 h3
  | .num n a r, P, Q, i, h1, h2, h3 => by
    have e : P ++ (marksF rs (.num n a r) ++ Q) = (P ++ [⟨110, [], n, numW, [], offI rs a⟩]) ++ (marksF rs r ++ Q) := by simp [marksF]
    have el : P.length + (marksF rs (.num n a r)).length = (P ++ [(⟨110, [], n, numW, [], offI rs a⟩ : Mk)]).length + (marksF rs r).length := by simp [marksF]; omega
    by_cases hi : i = P.length
    · subst hi
      exfalso
      revert h3
      unfold mkA
      rw [List.getD_eq_getElem?_getD, List.getElem?_append_right (Nat.le_refl _), Nat.sub_self]
      show 110 = 40 → False
      decide
    · rw [e] at h3 ⊢
      rw [el] at h2 ⊢
      exact end_in rs r _ Q i (by simp; omega) h2 h3
  | .br n a fo o c bs r, P, Q, i, h1, h2, h3 => by
    obtain ⟨m, hm⟩ : ∃ m : Mk, (⟨40, [], n, formW fo, o, offI rs a⟩ : Mk) = m := ⟨_, rfl⟩
    obtain ⟨z, hz⟩ : ∃ z : Mk, (⟨41, [], [], [], [], offI rs c⟩ : Mk) = z := ⟨_, rfl⟩
    have e1 : P ++ (marksF rs (.br n a fo o c bs r) ++ Q) = P ++ m :: (marksF rs bs ++ z :: (marksF rs r ++ Q)) := by simp [marksF, hm, hz]
    have e2 : P ++ (marksF rs (.br n a fo o c bs r) ++ Q) = (P ++ [m]) ++ (marksF rs bs ++ (z :: (marksF rs r ++ Q))) := by simp [marksF, hm, hz]
    have e3 : P ++ (marksF rs (.br n a fo o c bs r) ++ Q) = (P ++ m :: (marksF rs bs ++ [z])) ++ (marksF rs r ++ Q) := by simp [marksF, hm, hz]
    have el : P.length + (marksF rs (.br n a fo o c bs r)).length = P.length + 1 + (marksF rs bs).length + 1 + (marksF rs r).length := by simp [marksF]; omega
    rw [el] at h2 ⊢
    by_cases hi : i = P.length
    · subst hi
      rw [e1, endL_at rs P _ m z bs (by rw [← hm]; rfl) (by rw [← hz]; rfl) (by rw [← hz]; rfl)]
      omega
    · by_cases hb : i < P.length + 1 + (marksF rs bs).length
      · rw [e2] at h3 ⊢
        have := end_in rs bs (P ++ [m]) (z :: (marksF rs r ++ Q)) i (by simp; omega) (by simp; omega) h3
        simp at this ⊢
        omega
      · by_cases hc : i = P.length + 1 + (marksF rs bs).length
        · exfalso
          rw [e2] at h3
          revert h3
          unfold mkA
          rw [List.getD_eq_getElem?_getD, List.getElem?_append_right (by simp; omega), List.getElem?_append_right (by simp; omega)]
          simp only [List.length_append, List.length_singleton]
          rw [show i - (P.length + 1) - (marksF rs bs).length = 0 by omega, ← hz]
          show 41 = 40 → False
          decide
        · rw [e3] at h3 ⊢
          have := end_in rs r (P ++ m :: (marksF rs bs ++ [z])) Q i (by simp; omega) (by simp; omega) h3
          simp at this ⊢
          omega
  | .leg k a bs r, P, Q, i, h1, h2, h3 => by
    obtain ⟨m, hm⟩ : ∃ m : Mk, (⟨91, k, [], [], [], offI rs a⟩ : Mk) = m := ⟨_, rfl⟩
    obtain ⟨z, hz⟩ : ∃ z : Mk, (⟨93, [], [], [], [], 0⟩ : Mk) = z := ⟨_, rfl⟩
    have e1 : P ++ (marksF rs (.leg k a bs r) ++ Q) = P ++ m :: (marksF rs bs ++ z :: (marksF rs r ++ Q)) := by simp [marksF, hm, hz]
    have e2 : P ++ (marksF rs (.leg k a bs r) ++ Q) = (P ++ [m]) ++ (marksF rs bs ++ (z :: (marksF rs r ++ Q))) := by simp [marksF, hm, hz]
    have e3 : P ++ (marksF rs (.leg k a bs r) ++ Q) = (P ++ m :: (marksF rs bs ++ [z])) ++ (marksF rs r ++ Q) := by simp [marksF, hm, hz]
    have el : P.length + (marksF rs (.leg k a bs r)).length = P.length + 1 + (marksF rs bs).length + 1 + (marksF rs r).length := by simp [marksF]; omega
    rw [el] at h2 ⊢
    by_cases hi : i = P.length
    · exfalso
      subst hi
      rw [e1] at h3
      revert h3
      unfold mkA
      rw [List.getD_eq_getElem?_getD, List.getElem?_append_right (Nat.le_refl _), Nat.sub_self, ← hm]
      show 91 = 40 → False
      decide
    · by_cases hb : i < P.length + 1 + (marksF rs bs).length
      · rw [e2] at h3 ⊢
        have := end_in rs bs (P ++ [m]) (z :: (marksF rs r ++ Q)) i (by simp; omega) (by simp; omega) h3
        simp at this ⊢
        omega
      · by_cases hc : i = P.length + 1 + (marksF rs bs).length
        · exfalso
          rw [e2] at h3
          revert h3
          unfold mkA
          rw [List.getD_eq_getElem?_getD, List.getElem?_append_right (by simp; omega), List.getElem?_append_right (by simp; omega)]
          simp only [List.length_append, List.length_singleton]
          rw [show i - (P.length + 1) - (marksF rs bs).length = 0 by omega, ← hz]
          show 93 = 40 → False
          decide
        · rw [e3] at h3 ⊢
          have := end_in rs r (P ++ m :: (marksF rs bs ++ [z])) Q i (by simp; omega) (by simp; omega) h3
          simp at this ⊢
          omega
end Go.Proofs.YtdelpialeajajaaGreatDoor
