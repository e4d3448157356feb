import Derived.Test.YthpldolmpinnhaaGreatDoorJ21
import Derived.LaidEql
import Derived.Stop.Asserts
import Derived.RowKitTokens
namespace Go.Proofs.YthpldolmpinnhaaGreatDoor
open Go Go.RowKit Go.Extern.Stop Go.Stop Go.Extern
set_option maxRecDepth 10000
abbrev hdl (t:Nat):Value := .pointer (some ⟨12,t,none⟩)
theorem as_nil (t:Value) (w:World):Calls Tryz.prog 46 #[.nilIface,t] w fun e w'=>e = .returned (.bool false)/\w=w':=by
 go_enter Tryz.func46,Tryz.ntmps46
 go_wp2
 go_ret
 exact ⟨rfl,rfl⟩
theorem rlm (z:Sem Value) (f:TypeId->Addr->Nat->Nat->Sem Value) (v:Value) :
  ReflectliteValue.method z f #[v]=(do match ←ReflectliteValue.parts v with | none=>z | some (t,a,fl)=>f t a fl (fl % 32)):=rfl
theorem rls (v x:Value):ReflectliteValue.set #[v,x]=(do
  let (some (dst,a,fl),some (src,b,_)):=(←ReflectliteValue.parts v,←ReflectliteValue.parts x)
   | unsupported (.noEntry "extern/(internal/reflectlite.Value).Set.zeroValue")
  if fl / ReflectliteValue.flagAddr % 2==0 then unsupported (.noEntry "extern/(internal/reflectlite.Value).Set.unaddressable")
  let val ←loadVar src b
  if ←Rtype.directlyAssignable dst src then storeVar dst a val
  else if ←Rtype.implements dst src then
   if (←Rtype.kind src)==20 then
    match val with
    | .nilIface=>unsupported (.noEntry "extern/reflectlite: a nil value of one interface type handed on as a value of another")
    | _=>storeVar dst a val
   else storeVar dst a (.iface src val)
  else panicString ("reflectlite.Set: value of type " ++ (←Rtype.spelt src) ++ " is not assignable to type " ++ (←Rtype.spelt dst))
  pure (.tuple #[])):=rfl
theorem methodKind (h:Value) (w:World):(Go.method 516 231 (.agg #[h]) "Kind").run Tryz.prog w = .ok (300,h) w:=by kernel_rfl
theorem methodElem (h:Value) (w:World):(Go.method 516 231 (.agg #[h]) "Elem").run Tryz.prog w = .ok (316,.agg #[h]) w:=by kernel_rfl
theorem methodImplements (h:Value) (w:World):(Go.method 516 231 (.agg #[h]) "Implements").run Tryz.prog w = .ok (317,.agg #[h]) w:=by kernel_rfl
theorem methodAssignableTo (h:Value) (w:World):(Go.method 516 231 (.agg #[h]) "AssignableTo").run Tryz.prog w = .ok (314,.agg #[h]) w:=by kernel_rfl
theorem valueOf_f (t:Addr) (w:World):(ReflectliteValue.unpack (.iface 103 (.pointer (some t)))).run Tryz.prog w
  = .ok (.agg #[hdl 103,.pointer (some ⟨w.heap.size,0,none⟩),.int .u64 150]) (w.alloc (.cells #[.pointer (some t)] 103)):=by kernel_rfl
theorem type_f (a:Addr) (w:World):(ReflectliteValue.methodAny (ReflectliteValue.valueError "reflectlite.Value.Type" 0) (fun t _ _ _=>ReflectliteType.toType t) #[.agg #[hdl 103,.pointer (some a),.int .u64 150]]).run Tryz.prog w
  = .ok (.iface 231 (.agg #[hdl 103])) w:=by kernel_rfl
theorem kindP_f (w:World):((ReflectliteType.abiMethod fun t=>(fun a:Nat=>Value.int IntKind.u8 (a:Int)) <$> Rtype.kind t) #[hdl 103]).run Tryz.prog w = .ok (.int .u8 22) w:=by kernel_rfl
theorem kindT_f (w:World):((ReflectliteType.abiMethod fun t=>(fun a:Nat=>Value.int IntKind.u8 (a:Int)) <$> Rtype.kind t) #[hdl 101]).run Tryz.prog w = .ok (.int .u8 22) w:=by kernel_rfl
theorem parts_f (a:Addr) (w:World):(ReflectliteValue.parts (.agg #[hdl 103,.pointer (some a),.int .u64 150])).run Tryz.prog w = .ok (some (103,a,150)) w:=by kernel_rfl
theorem isNil_f (a p:Addr) (W:World) (ha:W.cell? a=some (.pointer (some p))) :
  (ReflectliteValue.method (ReflectliteValue.valueError "reflectlite.Value.IsNil" 0) ReflectliteValue.isNil #[.agg #[hdl 103,.pointer (some a),.int .u64 150]]).run Tryz.prog W = .ok (.bool false) W:=by
 rw [rlm];simp only [Sem.run_bind,parts_f,Result.andThen];simp [ReflectliteValue.isNil,loadVar,isAgg,underlying,Tryz.underlying103,ha,Result.andThen]
theorem elem_f (w:World):(ReflectliteType.method ReflectliteType.elem #[.agg #[hdl 103]]).run Tryz.prog w = .ok (.iface 231 (.agg #[hdl 101])) w:=by kernel_rfl
theorem impl_f (w:World):(ReflectliteType.relation "Implements" ReflectliteType.implements_ #[.agg #[hdl 101],.iface 231 (.agg #[hdl 73])]).run Tryz.prog w = .ok (.bool true) w:=by kernel_rfl
theorem elemOf_f (w:World):(Rtype.elem? 103).run Tryz.prog w = .ok (some 101) w:=by kernel_rfl
theorem mk_f (p:Addr) (w:World):(ReflectliteValue.mk 101 p ReflectliteValue.flagAddr).run Tryz.prog w = .ok (.agg #[hdl 101,.pointer (some p),.int .u64 406]) w:=by kernel_rfl
theorem elemV_f (a p:Addr) (W:World) (ha:W.cell? a=some (.pointer (some p))) :
  (ReflectliteValue.method (ReflectliteValue.valueError "reflectlite.Value.Elem" 0) ReflectliteValue.elem #[.agg #[hdl 103,.pointer (some a),.int .u64 150]]).run Tryz.prog W
   = .ok (.agg #[hdl 101,.pointer (some p),.int .u64 406]) W:=by
 rw [rlm];simp only [Sem.run_bind,parts_f,Result.andThen];simp [ReflectliteValue.elem,loadVar,isAgg,underlying,Tryz.underlying103,ha,Result.andThen,elemOf_f,mk_f]
theorem partsT_f (a:Addr) (w:World):(ReflectliteValue.parts (.agg #[hdl 101,.pointer (some a),.int .u64 406])).run Tryz.prog w = .ok (some (101,a,406)) w:=by kernel_rfl
theorem valueOf_n (t:Addr) (w:World):(ReflectliteValue.unpack (.iface 106 (.pointer (some t)))).run Tryz.prog w
  = .ok (.agg #[hdl 106,.pointer (some ⟨w.heap.size,0,none⟩),.int .u64 150]) (w.alloc (.cells #[.pointer (some t)] 106)):=by kernel_rfl
theorem type_n (a:Addr) (w:World):(ReflectliteValue.methodAny (ReflectliteValue.valueError "reflectlite.Value.Type" 0) (fun t _ _ _=>ReflectliteType.toType t) #[.agg #[hdl 106,.pointer (some a),.int .u64 150]]).run Tryz.prog w
  = .ok (.iface 231 (.agg #[hdl 106])) w:=by kernel_rfl
theorem kindP_n (w:World):((ReflectliteType.abiMethod fun t=>(fun a:Nat=>Value.int IntKind.u8 (a:Int)) <$> Rtype.kind t) #[hdl 106]).run Tryz.prog w = .ok (.int .u8 22) w:=by kernel_rfl
theorem kindT_n (w:World):((ReflectliteType.abiMethod fun t=>(fun a:Nat=>Value.int IntKind.u8 (a:Int)) <$> Rtype.kind t) #[hdl 33]).run Tryz.prog w = .ok (.int .u8 2) w:=by kernel_rfl
theorem parts_n (a:Addr) (w:World):(ReflectliteValue.parts (.agg #[hdl 106,.pointer (some a),.int .u64 150])).run Tryz.prog w = .ok (some (106,a,150)) w:=by kernel_rfl
theorem isNil_n (a p:Addr) (W:World) (ha:W.cell? a=some (.pointer (some p))) :
  (ReflectliteValue.method (ReflectliteValue.valueError "reflectlite.Value.IsNil" 0) ReflectliteValue.isNil #[.agg #[hdl 106,.pointer (some a),.int .u64 150]]).run Tryz.prog W = .ok (.bool false) W:=by
 rw [rlm];simp only [Sem.run_bind,parts_n,Result.andThen];simp [ReflectliteValue.isNil,loadVar,isAgg,underlying,Tryz.underlying106,ha,Result.andThen]
theorem elem_n (w:World):(ReflectliteType.method ReflectliteType.elem #[.agg #[hdl 106]]).run Tryz.prog w = .ok (.iface 231 (.agg #[hdl 33])) w:=by kernel_rfl
theorem impl_n (w:World):(ReflectliteType.relation "Implements" ReflectliteType.implements_ #[.agg #[hdl 33],.iface 231 (.agg #[hdl 73])]).run Tryz.prog w = .ok (.bool true) w:=by kernel_rfl
theorem elemOf_n (w:World):(Rtype.elem? 106).run Tryz.prog w = .ok (some 33) w:=by kernel_rfl
theorem mk_n (p:Addr) (w:World):(ReflectliteValue.mk 33 p ReflectliteValue.flagAddr).run Tryz.prog w = .ok (.agg #[hdl 33,.pointer (some p),.int .u64 386]) w:=by kernel_rfl
theorem elemV_n (a p:Addr) (W:World) (ha:W.cell? a=some (.pointer (some p))) :
  (ReflectliteValue.method (ReflectliteValue.valueError "reflectlite.Value.Elem" 0) ReflectliteValue.elem #[.agg #[hdl 106,.pointer (some a),.int .u64 150]]).run Tryz.prog W
   = .ok (.agg #[hdl 33,.pointer (some p),.int .u64 386]) W:=by
 rw [rlm];simp only [Sem.run_bind,parts_n,Result.andThen];simp [ReflectliteValue.elem,loadVar,isAgg,underlying,Tryz.underlying106,ha,Result.andThen,elemOf_n,mk_n]
theorem partsT_n (a:Addr) (w:World):(ReflectliteValue.parts (.agg #[hdl 33,.pointer (some a),.int .u64 386])).run Tryz.prog w = .ok (some (33,a,386)) w:=by kernel_rfl
theorem typeOf_f (v:Value) (w:World):(ReflectliteType.typeOf #[.iface 101 v]).run Tryz.prog w = .ok (.iface 231 (.agg #[hdl 101])) w:=by kernel_rfl
theorem assign_f (w:World):(ReflectliteType.relation "AssignableTo" ReflectliteType.assignableTo #[.agg #[hdl 101],.iface 231 (.agg #[hdl 101])]).run Tryz.prog w = .ok (.bool true) w:=by kernel_rfl
theorem valueOfT_f (e:Addr) (w:World):(ReflectliteValue.unpack (.iface 101 (.pointer (some e)))).run Tryz.prog w
  = .ok (.agg #[hdl 101,.pointer (some ⟨w.heap.size,0,none⟩),.int .u64 150]) (w.alloc (.cells #[.pointer (some e)] 101)):=by kernel_rfl
theorem partsV_f (a:Addr) (w:World):(ReflectliteValue.parts (.agg #[hdl 101,.pointer (some a),.int .u64 150])).run Tryz.prog w = .ok (some (101,a,150)) w:=by kernel_rfl
theorem direct_f (w:World):(Rtype.directlyAssignable 101 101).run Tryz.prog w = .ok true w:=by kernel_rfl
theorem set_f (ta b:Addr) (e:Addr) (old:Value) (W:World) (hb:W.cell? b=some (.pointer (some e))) (ht:W.cell? ta=some old) (hf:W.frozen? ta=false) :
  (ReflectliteValue.set #[.agg #[hdl 101,.pointer (some ta),.int .u64 406],.agg #[hdl 101,.pointer (some b),.int .u64 150]]).run Tryz.prog W
   = .ok (.tuple #[]) (W.setCell ta (.pointer (some e))):=by
 rw [rls];simp only [Sem.run_bind,partsT_f,partsV_f,Result.andThen];simp [ReflectliteValue.flagAddr,loadVar,isAgg,underlying,Tryz.underlying101,hb,Result.andThen,direct_f,storeVar,Value.cells,storeCells,Addr.add];rw [run_store Tryz.prog W ta _ _ (by rfl)];simp [ht,hf]
theorem typeOf_n (v:Value) (w:World):(ReflectliteType.typeOf #[.iface 33 v]).run Tryz.prog w = .ok (.iface 231 (.agg #[hdl 33])) w:=by kernel_rfl
theorem assign_n (w:World):(ReflectliteType.relation "AssignableTo" ReflectliteType.assignableTo #[.agg #[hdl 33],.iface 231 (.agg #[hdl 33])]).run Tryz.prog w = .ok (.bool true) w:=by kernel_rfl
theorem valueOfT_n (e:Int) (w:World):(ReflectliteValue.unpack (.iface 33 (.int .i64 e))).run Tryz.prog w
  = .ok (.agg #[hdl 33,.pointer (some ⟨w.heap.size,0,none⟩),.int .u64 130]) (w.alloc (.cells #[.int .i64 e] 33)):=by kernel_rfl
theorem partsV_n (a:Addr) (w:World):(ReflectliteValue.parts (.agg #[hdl 33,.pointer (some a),.int .u64 130])).run Tryz.prog w = .ok (some (33,a,130)) w:=by kernel_rfl
theorem direct_n (w:World):(Rtype.directlyAssignable 33 33).run Tryz.prog w = .ok true w:=by kernel_rfl
theorem set_n (ta b:Addr) (e:Int) (old:Value) (W:World) (hb:W.cell? b=some (.int .i64 e)) (ht:W.cell? ta=some old) (hf:W.frozen? ta=false) :
  (ReflectliteValue.set #[.agg #[hdl 33,.pointer (some ta),.int .u64 386],.agg #[hdl 33,.pointer (some b),.int .u64 130]]).run Tryz.prog W
   = .ok (.tuple #[]) (W.setCell ta (.int .i64 e)):=by
 rw [rls];simp only [Sem.run_bind,partsT_n,partsV_n,Result.andThen];simp [ReflectliteValue.flagAddr,loadVar,isAgg,underlying,Tryz.underlying33,hb,Result.andThen,direct_n,storeVar,Value.cells,storeCells,Addr.add];rw [run_store Tryz.prog W ta _ _ (by rfl)];simp [ht,hf]
theorem assign_miss (w:World):(ReflectliteType.relation "AssignableTo" ReflectliteType.assignableTo #[.agg #[hdl 33],.iface 231 (.agg #[hdl 101])]).run Tryz.prog w = .ok (.bool false) w:=by kernel_rfl
theorem noAs_n (v:Value) (xT:TypeId) (w:World):(Instr.typeAssert (.iface 33 v) xT 236 true).run Tryz.prog w = .ok (.tuple #[.nilIface,.bool false]) w:=run_typeAssert_lacksB Tryz.underlying236 (by kernel_rfl) (by kernel_rfl) v xT w
theorem noUnwrap_n (v:Value) (xT:TypeId) (w:World):(Instr.typeAssert (.iface 33 v) xT 239 true).run Tryz.prog w = .ok (.tuple #[.nilIface,.bool false]) w:=run_typeAssert_lacksB Tryz.underlying239 (by kernel_rfl) (by kernel_rfl) v xT w
theorem noUnwraps_n (v:Value) (xT:TypeId) (w:World):(Instr.typeAssert (.iface 33 v) xT 241 true).run Tryz.prog w = .ok (.tuple #[.nilIface,.bool false]) w:=run_typeAssert_lacksB Tryz.underlying241 (by kernel_rfl) (by kernel_rfl) v xT w
set_option maxHeartbeats 4000000 in
theorem as_hit_f (e t:Addr) (old:Value) (w:World) (hg:w.cell? ⟨1,0,none⟩=some (.iface 231 (.agg #[hdl 73]))) (ht0:w.cell? t=some old) (hf0:w.frozen? t=false) :
  Calls Tryz.prog 46 #[.iface 101 (.pointer (some e)),.iface 103 (.pointer (some t))] w fun ev w'=>ev = .returned (.bool true)/\∃ o1 o2 o3 o4:Obj,w'=((((w.alloc o1).alloc o2).alloc o3).alloc o4).setCell t (.pointer (some e)):=by
 have h0:=@run_callFunc_extern Tryz.prog 74 _ (fun args=>ReflectliteValue.unpack (args.getD 0 (.tuple #[]))) Tryz.func74 (by kernel_rfl) (by kernel_rfl) (by kernel_rfl) (by kernel_rfl);have h1:=@run_callFunc_extern Tryz.prog 75 _ (ReflectliteValue.methodAny (ReflectliteValue.valueError "reflectlite.Value.Type" 0) (fun t _ _ _=>ReflectliteType.toType t)) Tryz.func75 (by kernel_rfl) (by kernel_rfl) (by kernel_rfl) (by kernel_rfl);have h2:=@run_callFunc_extern Tryz.prog 76 _ (ReflectliteValue.method (ReflectliteValue.valueError "reflectlite.Value.IsNil" 0) ReflectliteValue.isNil) Tryz.func76 (by kernel_rfl) (by kernel_rfl) (by kernel_rfl) (by kernel_rfl);have h3:=@run_callFunc_extern Tryz.prog 300 _ (ReflectliteType.abiMethod fun t=>do pure (.int .u8 (←Rtype.kind t))) Tryz.func300 (by kernel_rfl) (by kernel_rfl) (by kernel_rfl) (by kernel_rfl);have h4:=@run_callFunc_extern Tryz.prog 316 _ (ReflectliteType.method ReflectliteType.elem) Tryz.func316 (by kernel_rfl) (by kernel_rfl) (by kernel_rfl) (by kernel_rfl);have h5:=@run_callFunc_extern Tryz.prog 317 _ (ReflectliteType.relation "Implements" ReflectliteType.implements_) Tryz.func317 (by kernel_rfl) (by kernel_rfl) (by kernel_rfl) (by kernel_rfl);have h6:=@run_callFunc_extern Tryz.prog 106 _ (ReflectliteType.typeOf) Tryz.func106 (by kernel_rfl) (by kernel_rfl) (by kernel_rfl) (by kernel_rfl);have h7:=@run_callFunc_extern Tryz.prog 314 _ (ReflectliteType.relation "AssignableTo" ReflectliteType.assignableTo) Tryz.func314 (by kernel_rfl) (by kernel_rfl) (by kernel_rfl) (by kernel_rfl);have h8:=@run_callFunc_extern Tryz.prog 107 _ (ReflectliteValue.method (ReflectliteValue.valueError "reflectlite.Value.Elem" 0) ReflectliteValue.elem) Tryz.func107 (by kernel_rfl) (by kernel_rfl) (by kernel_rfl) (by kernel_rfl);have h9:=@run_callFunc_extern Tryz.prog 108 _ (ReflectliteValue.set) Tryz.func108 (by kernel_rfl) (by kernel_rfl) (by kernel_rfl) (by kernel_rfl);have mK:=methodKind;have mE:=methodElem;have mI:=methodImplements;have mA:=methodAssignableTo;have f1:=valueOf_f;have f2:=type_f;have f3:=kindP_f;have f4:=kindT_f;have f5:=elem_f;have f6:=impl_f;have n8:=isNil_f ⟨w.heap.size,0,none⟩ t ((w.alloc (.cells #[.pointer (some t)] 103)).alloc (.cells #[hdl 103,.pointer (some ⟨w.heap.size,0,none⟩),.int .u64 150] 162)) (by simp);have hlt:1<w.heap.size:=by
  rcases Nat.lt_or_ge 1 w.heap.size with h | h
  ·exact h
  ·exfalso;rw [World.cell?,Array.getElem?_eq_none h] at hg
   cases hg
 have hg2:((w.alloc (.cells #[.pointer (some t)] 103)).alloc (.cells #[hdl 103,.pointer (some ⟨w.heap.size,0,none⟩),.int .u64 150] 162)).cell? ⟨1,0,none⟩=some (.iface 231 (.agg #[hdl 73])):=by
  rw [World.cell?_alloc_lt _ _ ⟨1,0,none⟩ (by simp<;>omega),World.cell?_alloc_lt _ _ ⟨1,0,none⟩ hlt];exact hg
 have htl:t.block<w.heap.size:=by
  rcases Nat.lt_or_ge t.block w.heap.size with h | h
  ·exact h
  ·simp [World.cell?,Array.getElem?_eq_none h] at ht0
 have el:=elemV_f ⟨w.heap.size,0,none⟩ t (((w.alloc (.cells #[.pointer (some t)] 103)).alloc (.cells #[hdl 103,.pointer (some ⟨w.heap.size,0,none⟩),.int .u64 150] 162)).alloc (.cells #[hdl 103,.pointer (some ⟨w.heap.size,0,none⟩),.int .u64 150] 162)) (by rw [World.cell?_alloc_lt _ _ ⟨w.heap.size,0,none⟩ (by simp;omega)];simp);have tO:=typeOf_f;have aT:=assign_f;have vT:=valueOfT_f;have st:=set_f t ⟨w.heap.size+1+1+1,0,none⟩ e old ((((w.alloc (.cells #[.pointer (some t)] 103)).alloc (.cells #[hdl 103,.pointer (some ⟨w.heap.size,0,none⟩),.int .u64 150] 162)).alloc (.cells #[hdl 103,.pointer (some ⟨w.heap.size,0,none⟩),.int .u64 150] 162)).alloc (.cells #[.pointer (some e)] 101))
  (by rw [World.cell?_alloc_at _ _ _ _ (by simp)];rfl)
  (by rw [World.cell?_alloc_lt _ _ t (by simp;omega),World.cell?_alloc_lt _ _ t (by simp;omega),World.cell?_alloc_lt _ _ t (by simp;omega),World.cell?_alloc_lt _ _ t htl];exact ht0)
  (by rw [World.frozen?_alloc_old _ _ t (by simp;omega),World.frozen?_alloc_old _ _ t (by simp;omega),World.frozen?_alloc_old _ _ t (by simp;omega),World.frozen?_alloc_old _ _ t (Nat.ne_of_lt htl)];exact hf0)
 go_enter Tryz.func46,Tryz.ntmps46
 go_wp2
 refine wp_loop_rounds 1 ?_;rw [rounds_succ];go_wp2
 go_ret
 exact ⟨rfl,_,_,_,_,rfl⟩
set_option maxHeartbeats 4000000 in
theorem as_hit_n (e:Int) (t:Addr) (old:Value) (w:World) (hg:w.cell? ⟨1,0,none⟩=some (.iface 231 (.agg #[hdl 73]))) (ht0:w.cell? t=some old) (hf0:w.frozen? t=false) :
  Calls Tryz.prog 46 #[.iface 33 (.int .i64 e),.iface 106 (.pointer (some t))] w fun ev w'=>ev = .returned (.bool true)/\∃ o1 o2 o3 o4:Obj,w'=((((w.alloc o1).alloc o2).alloc o3).alloc o4).setCell t (.int .i64 e):=by
 have h0:=@run_callFunc_extern Tryz.prog 74 _ (fun args=>ReflectliteValue.unpack (args.getD 0 (.tuple #[]))) Tryz.func74 (by kernel_rfl) (by kernel_rfl) (by kernel_rfl) (by kernel_rfl);have h1:=@run_callFunc_extern Tryz.prog 75 _ (ReflectliteValue.methodAny (ReflectliteValue.valueError "reflectlite.Value.Type" 0) (fun t _ _ _=>ReflectliteType.toType t)) Tryz.func75 (by kernel_rfl) (by kernel_rfl) (by kernel_rfl) (by kernel_rfl);have h2:=@run_callFunc_extern Tryz.prog 76 _ (ReflectliteValue.method (ReflectliteValue.valueError "reflectlite.Value.IsNil" 0) ReflectliteValue.isNil) Tryz.func76 (by kernel_rfl) (by kernel_rfl) (by kernel_rfl) (by kernel_rfl);have h3:=@run_callFunc_extern Tryz.prog 300 _ (ReflectliteType.abiMethod fun t=>do pure (.int .u8 (←Rtype.kind t))) Tryz.func300 (by kernel_rfl) (by kernel_rfl) (by kernel_rfl) (by kernel_rfl);have h4:=@run_callFunc_extern Tryz.prog 316 _ (ReflectliteType.method ReflectliteType.elem) Tryz.func316 (by kernel_rfl) (by kernel_rfl) (by kernel_rfl) (by kernel_rfl);have h5:=@run_callFunc_extern Tryz.prog 317 _ (ReflectliteType.relation "Implements" ReflectliteType.implements_) Tryz.func317 (by kernel_rfl) (by kernel_rfl) (by kernel_rfl) (by kernel_rfl);have h6:=@run_callFunc_extern Tryz.prog 106 _ (ReflectliteType.typeOf) Tryz.func106 (by kernel_rfl) (by kernel_rfl) (by kernel_rfl) (by kernel_rfl);have h7:=@run_callFunc_extern Tryz.prog 314 _ (ReflectliteType.relation "AssignableTo" ReflectliteType.assignableTo) Tryz.func314 (by kernel_rfl) (by kernel_rfl) (by kernel_rfl) (by kernel_rfl);have h8:=@run_callFunc_extern Tryz.prog 107 _ (ReflectliteValue.method (ReflectliteValue.valueError "reflectlite.Value.Elem" 0) ReflectliteValue.elem) Tryz.func107 (by kernel_rfl) (by kernel_rfl) (by kernel_rfl) (by kernel_rfl);have h9:=@run_callFunc_extern Tryz.prog 108 _ (ReflectliteValue.set) Tryz.func108 (by kernel_rfl) (by kernel_rfl) (by kernel_rfl) (by kernel_rfl);have mK:=methodKind;have mE:=methodElem;have mI:=methodImplements;have mA:=methodAssignableTo;have f1:=valueOf_n;have f2:=type_n;have f3:=kindP_n;have f4:=kindT_n;have f5:=elem_n;have f6:=impl_n;have n8:=isNil_n ⟨w.heap.size,0,none⟩ t ((w.alloc (.cells #[.pointer (some t)] 106)).alloc (.cells #[hdl 106,.pointer (some ⟨w.heap.size,0,none⟩),.int .u64 150] 162)) (by simp);have hlt:1<w.heap.size:=by
  rcases Nat.lt_or_ge 1 w.heap.size with h | h
  ·exact h
  ·exfalso;rw [World.cell?,Array.getElem?_eq_none h] at hg
   cases hg
 have hg2:((w.alloc (.cells #[.pointer (some t)] 106)).alloc (.cells #[hdl 106,.pointer (some ⟨w.heap.size,0,none⟩),.int .u64 150] 162)).cell? ⟨1,0,none⟩=some (.iface 231 (.agg #[hdl 73])):=by
  rw [World.cell?_alloc_lt _ _ ⟨1,0,none⟩ (by simp<;>omega),World.cell?_alloc_lt _ _ ⟨1,0,none⟩ hlt];exact hg
 have htl:t.block<w.heap.size:=by
  rcases Nat.lt_or_ge t.block w.heap.size with h | h
  ·exact h
  ·simp [World.cell?,Array.getElem?_eq_none h] at ht0
 have el:=elemV_n ⟨w.heap.size,0,none⟩ t (((w.alloc (.cells #[.pointer (some t)] 106)).alloc (.cells #[hdl 106,.pointer (some ⟨w.heap.size,0,none⟩),.int .u64 150] 162)).alloc (.cells #[hdl 106,.pointer (some ⟨w.heap.size,0,none⟩),.int .u64 150] 162)) (by rw [World.cell?_alloc_lt _ _ ⟨w.heap.size,0,none⟩ (by simp;omega)];simp);have tO:=typeOf_n;have aT:=assign_n;have vT:=valueOfT_n;have st:=set_n t ⟨w.heap.size+1+1+1,0,none⟩ e old ((((w.alloc (.cells #[.pointer (some t)] 106)).alloc (.cells #[hdl 106,.pointer (some ⟨w.heap.size,0,none⟩),.int .u64 150] 162)).alloc (.cells #[hdl 106,.pointer (some ⟨w.heap.size,0,none⟩),.int .u64 150] 162)).alloc (.cells #[.int .i64 e] 33))
  (by rw [World.cell?_alloc_at _ _ _ _ (by simp)];rfl)
  (by rw [World.cell?_alloc_lt _ _ t (by simp;omega),World.cell?_alloc_lt _ _ t (by simp;omega),World.cell?_alloc_lt _ _ t (by simp;omega),World.cell?_alloc_lt _ _ t htl];exact ht0)
  (by rw [World.frozen?_alloc_old _ _ t (by simp;omega),World.frozen?_alloc_old _ _ t (by simp;omega),World.frozen?_alloc_old _ _ t (by simp;omega),World.frozen?_alloc_old _ _ t (Nat.ne_of_lt htl)];exact hf0)
 go_enter Tryz.func46,Tryz.ntmps46
 go_wp2
 refine wp_loop_rounds 1 ?_;rw [rounds_succ];go_wp2
 go_ret
 exact ⟨rfl,_,_,_,_,rfl⟩
set_option maxHeartbeats 4000000 in
theorem as_miss (e:Int) (t:Addr) (old:Value) (w:World) (hg:w.cell? ⟨1,0,none⟩=some (.iface 231 (.agg #[hdl 73]))) (ht0:w.cell? t=some old) (hf0:w.frozen? t=false) :
  Calls Tryz.prog 46 #[.iface 33 (.int .i64 e),.iface 103 (.pointer (some t))] w fun ev w'=>ev = .returned (.bool false)/\∃ o1 o2 o3:Obj,w'=((w.alloc o1).alloc o2).alloc o3:=by
 have h0:=@run_callFunc_extern Tryz.prog 74 _ (fun args=>ReflectliteValue.unpack (args.getD 0 (.tuple #[]))) Tryz.func74 (by kernel_rfl) (by kernel_rfl) (by kernel_rfl) (by kernel_rfl);have h1:=@run_callFunc_extern Tryz.prog 75 _ (ReflectliteValue.methodAny (ReflectliteValue.valueError "reflectlite.Value.Type" 0) (fun t _ _ _=>ReflectliteType.toType t)) Tryz.func75 (by kernel_rfl) (by kernel_rfl) (by kernel_rfl) (by kernel_rfl);have h2:=@run_callFunc_extern Tryz.prog 76 _ (ReflectliteValue.method (ReflectliteValue.valueError "reflectlite.Value.IsNil" 0) ReflectliteValue.isNil) Tryz.func76 (by kernel_rfl) (by kernel_rfl) (by kernel_rfl) (by kernel_rfl);have h3:=@run_callFunc_extern Tryz.prog 300 _ (ReflectliteType.abiMethod fun t=>do pure (.int .u8 (←Rtype.kind t))) Tryz.func300 (by kernel_rfl) (by kernel_rfl) (by kernel_rfl) (by kernel_rfl);have h4:=@run_callFunc_extern Tryz.prog 316 _ (ReflectliteType.method ReflectliteType.elem) Tryz.func316 (by kernel_rfl) (by kernel_rfl) (by kernel_rfl) (by kernel_rfl);have h5:=@run_callFunc_extern Tryz.prog 317 _ (ReflectliteType.relation "Implements" ReflectliteType.implements_) Tryz.func317 (by kernel_rfl) (by kernel_rfl) (by kernel_rfl) (by kernel_rfl);have h6:=@run_callFunc_extern Tryz.prog 106 _ (ReflectliteType.typeOf) Tryz.func106 (by kernel_rfl) (by kernel_rfl) (by kernel_rfl) (by kernel_rfl);have h7:=@run_callFunc_extern Tryz.prog 314 _ (ReflectliteType.relation "AssignableTo" ReflectliteType.assignableTo) Tryz.func314 (by kernel_rfl) (by kernel_rfl) (by kernel_rfl) (by kernel_rfl);have h8:=@run_callFunc_extern Tryz.prog 107 _ (ReflectliteValue.method (ReflectliteValue.valueError "reflectlite.Value.Elem" 0) ReflectliteValue.elem) Tryz.func107 (by kernel_rfl) (by kernel_rfl) (by kernel_rfl) (by kernel_rfl);have h9:=@run_callFunc_extern Tryz.prog 108 _ (ReflectliteValue.set) Tryz.func108 (by kernel_rfl) (by kernel_rfl) (by kernel_rfl) (by kernel_rfl);have mK:=methodKind;have mE:=methodElem;have mI:=methodImplements;have mA:=methodAssignableTo;have f1:=valueOf_f;have f2:=type_f;have f3:=kindP_f;have f4:=kindT_f;have f5:=elem_f;have f6:=impl_f;have n8:=isNil_f ⟨w.heap.size,0,none⟩ t ((w.alloc (.cells #[.pointer (some t)] 103)).alloc (.cells #[hdl 103,.pointer (some ⟨w.heap.size,0,none⟩),.int .u64 150] 162)) (by simp);have hlt:1<w.heap.size:=by
  rcases Nat.lt_or_ge 1 w.heap.size with h | h
  ·exact h
  ·exfalso;rw [World.cell?,Array.getElem?_eq_none h] at hg
   cases hg
 have hg2:((w.alloc (.cells #[.pointer (some t)] 103)).alloc (.cells #[hdl 103,.pointer (some ⟨w.heap.size,0,none⟩),.int .u64 150] 162)).cell? ⟨1,0,none⟩=some (.iface 231 (.agg #[hdl 73])):=by
  rw [World.cell?_alloc_lt _ _ ⟨1,0,none⟩ (by simp<;>omega),World.cell?_alloc_lt _ _ ⟨1,0,none⟩ hlt];exact hg
 have htl:t.block<w.heap.size:=by
  rcases Nat.lt_or_ge t.block w.heap.size with h | h
  ·exact h
  ·simp [World.cell?,Array.getElem?_eq_none h] at ht0
 have tO:=typeOf_n;have aT:=assign_miss;have n1:=noAs_n;have n2:=noUnwrap_n;have n3:=noUnwraps_n;go_enter Tryz.func46,Tryz.ntmps46
 go_wp2
 refine wp_loop_rounds 1 ?_;rw [rounds_succ];go_wp2
 go_ret
 exact ⟨rfl,_,_,_,rfl⟩
end Go.Proofs.YthpldolmpinnhaaGreatDoor
namespace Go.Proofs.YthpldolmpinnhaaGreatDoor
open Go Go.RowKit
set_option maxRecDepth 10000
def ErrT (w:World):Prop:=w.cell? ⟨1,0,none⟩=some (.iface 231 (.agg #[hdl 73]))
theorem ErrT.below {w w':World} (h:ErrT w) (hb:Below w.heap.size w w'):ErrT w':=by
 have hlt:=World.block_lt_of_cell? w _ h;unfold ErrT;rw [hb.cell (p:=⟨1,0,none⟩) hlt];exact h
def errV (n:Int):Value:=if n=0 then .nilIface else .iface 33 (.int .i64 n)
def TellPost (n at_:Int) (w:World) (e:Ending) (w':World):Prop:=e = .returned (.tuple #[.int .i64 n,.int .i64 at_])/\Below w.heap.size w w'
set_option maxHeartbeats 1000000 in
theorem tell_nil (w:World):Calls Tryz.prog 30 #[.nilIface] w (TellPost 0 0 w):=by
 go_enter Tryz.func30,Tryz.ntmps30
 go_wp2
 go_ret2
 exact ⟨rfl,((Below.refl _ _).alloc (Nat.le_refl _) _).alloc (by simp) _⟩
set_option maxHeartbeats 2000000 in
theorem tell_n (n:Int) (w:World) (hE:ErrT w):Calls Tryz.prog 30 #[.iface 33 (.int .i64 n)] w (TellPost n 0 w):=by
 have HE:=Lib.hid hE;clear hE;go_enter Tryz.func30,Tryz.ntmps30
 go_wp2_with fail
 refine calls_gen ?_;intro W hW;have hb:Below w.heap.size w W:=by rw [hW];exact ((Below.refl _ _).alloc (Nat.le_refl _) _).alloc (by simp) _
 have hz:w.heap.size+2<=W.heap.size:=by rw [hW];simp
 have hA:W.cell? ⟨w.heap.size,0,none⟩=some (.pointer none)/\W.frozen? ⟨w.heap.size,0,none⟩=false:=by rw [hW];constructor<;>go_simp
 have hB:W.cell? ⟨w.heap.size+1,0,none⟩=some (.int .i64 0)/\W.frozen? ⟨w.heap.size+1,0,none⟩=false:=by rw [hW];constructor<;>go_simp
 clear hW;refine (as_miss n ⟨w.heap.size,0,none⟩ _ W (HE.out.below hb) hA.1 hA.2).mono ?_;rintro e w1 ⟨rfl,o1,o2,o3,hw1⟩;have hb1:Below W.heap.size W w1:=by rw [hw1];exact (((Below.refl _ _).alloc (Nat.le_refl _) _).alloc (by simp) _).alloc (by simp;omega) _
 have hB1:w1.cell? ⟨w.heap.size+1,0,none⟩=some (.int .i64 0)/\w1.frozen? ⟨w.heap.size+1,0,none⟩=false :=
  ⟨by rw [hb1.cell (by simp;omega)];exact hB.1,by rw [hb1.frozen (by simp;omega)];exact hB.2⟩
 have hb01:=hb.trans (hb1.mono (by omega));have hz1:w.heap.size+2<=w1.heap.size:=by have:=hb1.size;omega
 clear hw1 hA hB hb1 hz;go_wp2_with fail
 refine (as_hit_n n ⟨w.heap.size+1,0,none⟩ _ w1 (HE.out.below hb01) hB1.1 hB1.2).mono ?_;rintro e w2 ⟨rfl,p1,p2,p3,p4,hw2⟩;have hb2:Below (w.heap.size+1) w1 w2:=by rw [hw2];exact (((((Below.refl _ _).alloc (by omega) _).alloc (by simp;omega) _).alloc (by simp;omega) _).alloc (by simp;omega) _).setCell (by simp) _
 have hb02:=hb01.trans (hb2.mono (by omega));have hC:w2.cell? ⟨w.heap.size+1,0,none⟩=some (.int .i64 n):=by
  rw [hw2,cellSet,if_pos rfl];rw [World.cell?_alloc_lt _ _ _ (by simp;omega),World.cell?_alloc_lt _ _ _ (by simp;omega),World.cell?_alloc_lt _ _ _ (by simp;omega),World.cell?_alloc_lt _ _ _ (by show w.heap.size+1<_;omega),hB1.1];rfl
 clear hw2 hb2 hB1;go_wp2
 go_ret2
 exact ⟨rfl,hb02⟩
theorem tell_e (n:Int) (w:World) (hE:ErrT w):Calls Tryz.prog 30 #[errV n] w (TellPost n 0 w):=by
 unfold errV;by_cases h:n=0
 ·subst h;rw [if_pos rfl];exact tell_nil w
 ·rw [if_neg h];exact tell_n n w hE
end Go.Proofs.YthpldolmpinnhaaGreatDoor
