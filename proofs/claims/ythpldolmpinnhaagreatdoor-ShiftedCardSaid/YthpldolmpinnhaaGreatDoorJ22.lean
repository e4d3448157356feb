import Derived.Test.YthpldolmpinnhaaGreatDoorJ21
import Derived.LaidEql
import Derived.Stop.Asserts
import Derived.RowKitTokens
import Derived.Test.YthpldolmpinnhaaGreatDoorShelf
namespace Go.Proofs.YthpldolmpinnhaaGreatDoor
open Go Go.RowKit Go.Extern.Stop Go.Stop Go.Extern
set_option maxRecDepth 10000
abbrev hdl (t:Nat):Value := .pointer (some ⟨12,t,none⟩)
theorem rlm (z:Sem Value) (f:TypeId->Addr->Nat->Nat->Sem Value) (v:Value) :
  ReflectliteValue.method z f #[v]=(do match ←ReflectliteValue.parts v with | none=>z | some (t,a,fl)=>f t a fl (fl % 32)):=rfl
theorem rls (v x:Value):ReflectliteValue.set #[v,x]=(do
  let (some (dst,a,fl),some (src,b,_)):=(←ReflectliteValue.parts v,←ReflectliteValue.parts x)
   | unsupported (.noEntry "extern/(internal/reflectlite.Value).Set.zeroValue")
  if fl / ReflectliteValue.flagAddr % 2==0 then unsupported (.noEntry "extern/(internal/reflectlite.Value).Set.unaddressable")
  let val ←loadVar src b
  if ←Rtype.directlyAssignable dst src then storeVar dst a val
  else if ←Rtype.implements dst src then
   if (←Rtype.kind src)==20 then
    match val with
    | .nilIface=>unsupported (.noEntry "extern/reflectlite: a nil value of one interface type handed on as a value of another")
    | _=>storeVar dst a val
   else storeVar dst a (.iface src val)
  else panicString ("reflectlite.Set: value of type " ++ (←Rtype.spelt src) ++ " is not assignable to type " ++ (←Rtype.spelt dst))
  pure (.tuple #[])):=rfl
theorem methodKind (h:Value) (w:World):(Go.method 516 231 (.agg #[h]) "Kind").run Tryz.prog w = .ok (300,h) w:=by kernel_rfl
theorem methodElem (h:Value) (w:World):(Go.method 516 231 (.agg #[h]) "Elem").run Tryz.prog w = .ok (316,.agg #[h]) w:=by kernel_rfl
theorem methodImplements (h:Value) (w:World):(Go.method 516 231 (.agg #[h]) "Implements").run Tryz.prog w = .ok (317,.agg #[h]) w:=by kernel_rfl
theorem methodAssignableTo (h:Value) (w:World):(Go.method 516 231 (.agg #[h]) "AssignableTo").run Tryz.prog w = .ok (314,.agg #[h]) w:=by kernel_rfl
theorem valueOf_f (t:Addr) (w:World):(ReflectliteValue.unpack (.iface 103 (.pointer (some t)))).run Tryz.prog w
  = .ok (.agg #[hdl 103,.pointer (some ⟨w.heap.size,0,none⟩),.int .u64 150]) (w.alloc (.cells #[.pointer (some t)] 103)):=by kernel_rfl
theorem type_f (a:Addr) (w:World):(ReflectliteValue.methodAny (ReflectliteValue.valueError "reflectlite.Value.Type" 0) (fun t _ _ _=>ReflectliteType.toType t) #[.agg #[hdl 103,.pointer (some a),.int .u64 150]]).run Tryz.prog w
  = .ok (.iface 231 (.agg #[hdl 103])) w:=by kernel_rfl
theorem kindP_f (w:World):((ReflectliteType.abiMethod fun t=>(fun a:Nat=>Value.int IntKind.u8 (a:Int)) <$> Rtype.kind t) #[hdl 103]).run Tryz.prog w = .ok (.int .u8 22) w:=by kernel_rfl
theorem kindT_f (w:World):((ReflectliteType.abiMethod fun t=>(fun a:Nat=>Value.int IntKind.u8 (a:Int)) <$> Rtype.kind t) #[hdl 101]).run Tryz.prog w = .ok (.int .u8 22) w:=by kernel_rfl
theorem parts_f (a:Addr) (w:World):(ReflectliteValue.parts (.agg #[hdl 103,.pointer (some a),.int .u64 150])).run Tryz.prog w = .ok (some (103,a,150)) w:=by kernel_rfl
theorem isNil_f (a p:Addr) (W:World) (ha:W.cell? a=some (.pointer (some p))) :
  (ReflectliteValue.method (ReflectliteValue.valueError "reflectlite.Value.IsNil" 0) ReflectliteValue.isNil #[.agg #[hdl 103,.pointer (some a),.int .u64 150]]).run Tryz.prog W = .ok (.bool false) W:=by
 rw [rlm];simp only [Sem.run_bind,parts_f,Result.andThen];simp [ReflectliteValue.isNil,loadVar,isAgg,underlying,Tryz.underlying103,ha,Result.andThen]
theorem elem_f (w:World):(ReflectliteType.method ReflectliteType.elem #[.agg #[hdl 103]]).run Tryz.prog w = .ok (.iface 231 (.agg #[hdl 101])) w:=by kernel_rfl
theorem impl_f (w:World):(ReflectliteType.relation "Implements" ReflectliteType.implements_ #[.agg #[hdl 101],.iface 231 (.agg #[hdl 73])]).run Tryz.prog w = .ok (.bool true) w:=by kernel_rfl
theorem elemOf_f (w:World):(Rtype.elem? 103).run Tryz.prog w = .ok (some 101) w:=by kernel_rfl
theorem mk_f (p:Addr) (w:World):(ReflectliteValue.mk 101 p ReflectliteValue.flagAddr).run Tryz.prog w = .ok (.agg #[hdl 101,.pointer (some p),.int .u64 406]) w:=by kernel_rfl
theorem elemV_f (a p:Addr) (W:World) (ha:W.cell? a=some (.pointer (some p))) :
  (ReflectliteValue.method (ReflectliteValue.valueError "reflectlite.Value.Elem" 0) ReflectliteValue.elem #[.agg #[hdl 103,.pointer (some a),.int .u64 150]]).run Tryz.prog W
   = .ok (.agg #[hdl 101,.pointer (some p),.int .u64 406]) W:=by
 rw [rlm];simp only [Sem.run_bind,parts_f,Result.andThen];simp [ReflectliteValue.elem,loadVar,isAgg,underlying,Tryz.underlying103,ha,Result.andThen,elemOf_f,mk_f]
theorem partsT_f (a:Addr) (w:World):(ReflectliteValue.parts (.agg #[hdl 101,.pointer (some a),.int .u64 406])).run Tryz.prog w = .ok (some (101,a,406)) w:=by kernel_rfl
theorem valueOf_n (t:Addr) (w:World):(ReflectliteValue.unpack (.iface 106 (.pointer (some t)))).run Tryz.prog w
  = .ok (.agg #[hdl 106,.pointer (some ⟨w.heap.size,0,none⟩),.int .u64 150]) (w.alloc (.cells #[.pointer (some t)] 106)):=by kernel_rfl
theorem type_n (a:Addr) (w:World):(ReflectliteValue.methodAny (ReflectliteValue.valueError "reflectlite.Value.Type" 0) (fun t _ _ _=>ReflectliteType.toType t) #[.agg #[hdl 106,.pointer (some a),.int .u64 150]]).run Tryz.prog w
  = .ok (.iface 231 (.agg #[hdl 106])) w:=by kernel_rfl
theorem kindP_n (w:World):((ReflectliteType.abiMethod fun t=>(fun a:Nat=>Value.int IntKind.u8 (a:Int)) <$> Rtype.kind t) #[hdl 106]).run Tryz.prog w = .ok (.int .u8 22) w:=by kernel_rfl
theorem kindT_n (w:World):((ReflectliteType.abiMethod fun t=>(fun a:Nat=>Value.int IntKind.u8 (a:Int)) <$> Rtype.kind t) #[hdl 33]).run Tryz.prog w = .ok (.int .u8 2) w:=by kernel_rfl
theorem parts_n (a:Addr) (w:World):(ReflectliteValue.parts (.agg #[hdl 106,.pointer (some a),.int .u64 150])).run Tryz.prog w = .ok (some (106,a,150)) w:=by kernel_rfl
theorem isNil_n (a p:Addr) (W:World) (ha:W.cell? a=some (.pointer (some p))) :
  (ReflectliteValue.method (ReflectliteValue.valueError "reflectlite.Value.IsNil" 0) ReflectliteValue.isNil #[.agg #[hdl 106,.pointer (some a),.int .u64 150]]).run Tryz.prog W = .ok (.bool false) W:=by
 rw [rlm];simp only [Sem.run_bind,parts_n,Result.andThen];simp [ReflectliteValue.isNil,loadVar,isAgg,underlying,Tryz.underlying106,ha,Result.andThen]
theorem elem_n (w:World):(ReflectliteType.method ReflectliteType.elem #[.agg #[hdl 106]]).run Tryz.prog w = .ok (.iface 231 (.agg #[hdl 33])) w:=by kernel_rfl
theorem impl_n (w:World):(ReflectliteType.relation "Implements" ReflectliteType.implements_ #[.agg #[hdl 33],.iface 231 (.agg #[hdl 73])]).run Tryz.prog w = .ok (.bool true) w:=by kernel_rfl
theorem elemOf_n (w:World):(Rtype.elem? 106).run Tryz.prog w = .ok (some 33) w:=by kernel_rfl
theorem mk_n (p:Addr) (w:World):(ReflectliteValue.mk 33 p ReflectliteValue.flagAddr).run Tryz.prog w = .ok (.agg #[hdl 33,.pointer (some p),.int .u64 386]) w:=by kernel_rfl
theorem elemV_n (a p:Addr) (W:World) (ha:W.cell? a=some (.pointer (some p))) :
  (ReflectliteValue.method (ReflectliteValue.valueError "reflectlite.Value.Elem" 0) ReflectliteValue.elem #[.agg #[hdl 106,.pointer (some a),.int .u64 150]]).run Tryz.prog W
   = .ok (.agg #[hdl 33,.pointer (some p),.int .u64 386]) W:=by
 rw [rlm];simp only [Sem.run_bind,parts_n,Result.andThen];simp [ReflectliteValue.elem,loadVar,isAgg,underlying,Tryz.underlying106,ha,Result.andThen,elemOf_n,mk_n]
theorem partsT_n (a:Addr) (w:World):(ReflectliteValue.parts (.agg #[hdl 33,.pointer (some a),.int .u64 386])).run Tryz.prog w = .ok (some (33,a,386)) w:=by kernel_rfl
theorem typeOf_f (v:Value) (w:World):(ReflectliteType.typeOf #[.iface 101 v]).run Tryz.prog w = .ok (.iface 231 (.agg #[hdl 101])) w:=by kernel_rfl
theorem assign_f (w:World):(ReflectliteType.relation "AssignableTo" ReflectliteType.assignableTo #[.agg #[hdl 101],.iface 231 (.agg #[hdl 101])]).run Tryz.prog w = .ok (.bool true) w:=by kernel_rfl
theorem valueOfT_f (e:Addr) (w:World):(ReflectliteValue.unpack (.iface 101 (.pointer (some e)))).run Tryz.prog w
  = .ok (.agg #[hdl 101,.pointer (some ⟨w.heap.size,0,none⟩),.int .u64 150]) (w.alloc (.cells #[.pointer (some e)] 101)):=by kernel_rfl
theorem partsV_f (a:Addr) (w:World):(ReflectliteValue.parts (.agg #[hdl 101,.pointer (some a),.int .u64 150])).run Tryz.prog w = .ok (some (101,a,150)) w:=by kernel_rfl
theorem direct_f (w:World):(Rtype.directlyAssignable 101 101).run Tryz.prog w = .ok true w:=by kernel_rfl
theorem set_f (ta b:Addr) (e:Addr) (old:Value) (W:World) (hb:W.cell? b=some (.pointer (some e))) (ht:W.cell? ta=some old) (hf:W.frozen? ta=false) :
  (ReflectliteValue.set #[.agg #[hdl 101,.pointer (some ta),.int .u64 406],.agg #[hdl 101,.pointer (some b),.int .u64 150]]).run Tryz.prog W
   = .ok (.tuple #[]) (W.setCell ta (.pointer (some e))):=by
 rw [rls];simp only [Sem.run_bind,partsT_f,partsV_f,Result.andThen];simp [ReflectliteValue.flagAddr,loadVar,isAgg,underlying,Tryz.underlying101,hb,Result.andThen,direct_f,storeVar,Value.cells,storeCells,Addr.add];rw [run_store Tryz.prog W ta _ _ (by rfl)];simp [ht,hf]
theorem typeOf_n (v:Value) (w:World):(ReflectliteType.typeOf #[.iface 33 v]).run Tryz.prog w = .ok (.iface 231 (.agg #[hdl 33])) w:=by kernel_rfl
theorem assign_n (w:World):(ReflectliteType.relation "AssignableTo" ReflectliteType.assignableTo #[.agg #[hdl 33],.iface 231 (.agg #[hdl 33])]).run Tryz.prog w = .ok (.bool true) w:=by kernel_rfl
theorem valueOfT_n (e:Int) (w:World):(ReflectliteValue.unpack (.iface 33 (.int .i64 e))).run Tryz.prog w
  = .ok (.agg #[hdl 33,.pointer (some ⟨w.heap.size,0,none⟩),.int .u64 130]) (w.alloc (.cells #[.int .i64 e] 33)):=by kernel_rfl
theorem partsV_n (a:Addr) (w:World):(ReflectliteValue.parts (.agg #[hdl 33,.pointer (some a),.int .u64 130])).run Tryz.prog w = .ok (some (33,a,130)) w:=by kernel_rfl
theorem direct_n (w:World):(Rtype.directlyAssignable 33 33).run Tryz.prog w = .ok true w:=by kernel_rfl
theorem set_n (ta b:Addr) (e:Int) (old:Value) (W:World) (hb:W.cell? b=some (.int .i64 e)) (ht:W.cell? ta=some old) (hf:W.frozen? ta=false) :
  (ReflectliteValue.set #[.agg #[hdl 33,.pointer (some ta),.int .u64 386],.agg #[hdl 33,.pointer (some b),.int .u64 130]]).run Tryz.prog W
   = .ok (.tuple #[]) (W.setCell ta (.int .i64 e)):=by
 rw [rls];simp only [Sem.run_bind,partsT_n,partsV_n,Result.andThen];simp [ReflectliteValue.flagAddr,loadVar,isAgg,underlying,Tryz.underlying33,hb,Result.andThen,direct_n,storeVar,Value.cells,storeCells,Addr.add];rw [run_store Tryz.prog W ta _ _ (by rfl)];simp [ht,hf]
theorem assign_miss (w:World):(ReflectliteType.relation "AssignableTo" ReflectliteType.assignableTo #[.agg #[hdl 33],.iface 231 (.agg #[hdl 101])]).run Tryz.prog w = .ok (.bool false) w:=by kernel_rfl
theorem noAs_n (v:Value) (xT:TypeId) (w:World):(Instr.typeAssert (.iface 33 v) xT 236 true).run Tryz.prog w = .ok (.tuple #[.nilIface,.bool false]) w:=run_typeAssert_lacksB Tryz.underlying236 (by kernel_rfl) (by kernel_rfl) v xT w
theorem noUnwrap_n (v:Value) (xT:TypeId) (w:World):(Instr.typeAssert (.iface 33 v) xT 239 true).run Tryz.prog w = .ok (.tuple #[.nilIface,.bool false]) w:=run_typeAssert_lacksB Tryz.underlying239 (by kernel_rfl) (by kernel_rfl) v xT w
theorem noUnwraps_n (v:Value) (xT:TypeId) (w:World):(Instr.typeAssert (.iface 33 v) xT 241 true).run Tryz.prog w = .ok (.tuple #[.nilIface,.bool false]) w:=run_typeAssert_lacksB Tryz.underlying241 (by kernel_rfl) (by kernel_rfl) v xT w
set_option maxHeartbeats 4000000 in
theorem as_hit_f (e t:Addr) (old:Value) (w:World) (hg:w.cell? ⟨1,0,none⟩=some (.iface 231 (.agg #[hdl 73]))) (ht0:w.cell? t=some old) (hf0:w.frozen? t=false) :
  Calls Tryz.prog 46 #[.iface 101 (.pointer (some e)),.iface 103 (.pointer (some t))] w fun ev w'=>ev = .returned (.bool true)/\∃ o1 o2 o3 o4:Obj,w'=((((w.alloc o1).alloc o2).alloc o3).alloc o4).setCell t (.pointer (some e)):=by
 have h0:=@run_callFunc_extern Tryz.prog 74 _ (fun args=>ReflectliteValue.unpack (args.getD 0 (.tuple #[]))) Tryz.func74 (by kernel_rfl) (by kernel_rfl) (by kernel_rfl) (by kernel_rfl);have h1:=@run_callFunc_extern Tryz.prog 75 _ (ReflectliteValue.methodAny (ReflectliteValue.valueError "reflectlite.Value.Type" 0) (fun t _ _ _=>ReflectliteType.toType t)) Tryz.func75 (by kernel_rfl) (by kernel_rfl) (by kernel_rfl) (by kernel_rfl);have h2:=@run_callFunc_extern Tryz.prog 76 _ (ReflectliteValue.method (ReflectliteValue.valueError "reflectlite.Value.IsNil" 0) ReflectliteValue.isNil) Tryz.func76 (by kernel_rfl) (by kernel_rfl) (by kernel_rfl) (by kernel_rfl);have h3:=@run_callFunc_extern Tryz.prog 300 _ (ReflectliteType.abiMethod fun t=>do pure (.int .u8 (←Rtype.kind t))) Tryz.func300 (by kernel_rfl) (by kernel_rfl) (by kernel_rfl) (by kernel_rfl);have h4:=@run_callFunc_extern Tryz.prog 316 _ (ReflectliteType.method ReflectliteType.elem) Tryz.func316 (by kernel_rfl) (by kernel_rfl) (by kernel_rfl) (by kernel_rfl);have h5:=@run_callFunc_extern Tryz.prog 317 _ (ReflectliteType.relation "Implements" ReflectliteType.implements_) Tryz.func317 (by kernel_rfl) (by kernel_rfl) (by kernel_rfl) (by kernel_rfl);have h6:=@run_callFunc_extern Tryz.prog 106 _ (ReflectliteType.typeOf) Tryz.func106 (by kernel_rfl) (by kernel_rfl) (by kernel_rfl) (by kernel_rfl);have h7:=@run_callFunc_extern Tryz.prog 314 _ (ReflectliteType.relation "AssignableTo" ReflectliteType.assignableTo) Tryz.func314 (by kernel_rfl) (by kernel_rfl) (by kernel_rfl) (by kernel_rfl);have h8:=@run_callFunc_extern Tryz.prog 107 _ (ReflectliteValue.method (ReflectliteValue.valueError "reflectlite.Value.Elem" 0) ReflectliteValue.elem) Tryz.func107 (by kernel_rfl) (by kernel_rfl) (by kernel_rfl) (by kernel_rfl);have h9:=@run_callFunc_extern Tryz.prog 108 _ (ReflectliteValue.set) Tryz.func108 (by kernel_rfl) (by kernel_rfl) (by kernel_rfl) (by kernel_rfl);have mK:=methodKind;have mE:=methodElem;have mI:=methodImplements;have mA:=methodAssignableTo;have f1:=valueOf_f;have f2:=type_f;have f3:=kindP_f;have f4:=kindT_f;have f5:=elem_f;have f6:=impl_f;have n8:=isNil_f ⟨w.heap.size,0,none⟩ t ((w.alloc (.cells #[.pointer (some t)] 103)).alloc (.cells #[hdl 103,.pointer (some ⟨w.heap.size,0,none⟩),.int .u64 150] 162)) (by simp);have hlt:1<w.heap.size:=by
  rcases Nat.lt_or_ge 1 w.heap.size with h | h
  ·exact h
  ·exfalso;rw [World.cell?,Array.getElem?_eq_none h] at hg
   cases hg
 have hg2:((w.alloc (.cells #[.pointer (some t)] 103)).alloc (.cells #[hdl 103,.pointer (some ⟨w.heap.size,0,none⟩),.int .u64 150] 162)).cell? ⟨1,0,none⟩=some (.iface 231 (.agg #[hdl 73])):=by
  rw [World.cell?_alloc_lt _ _ ⟨1,0,none⟩ (by simp<;>omega),World.cell?_alloc_lt _ _ ⟨1,0,none⟩ hlt];exact hg
 have htl:t.block<w.heap.size:=by
  rcases Nat.lt_or_ge t.block w.heap.size with h | h
  ·exact h
  ·simp [World.cell?,Array.getElem?_eq_none h] at ht0
 have el:=elemV_f ⟨w.heap.size,0,none⟩ t (((w.alloc (.cells #[.pointer (some t)] 103)).alloc (.cells #[hdl 103,.pointer (some ⟨w.heap.size,0,none⟩),.int .u64 150] 162)).alloc (.cells #[hdl 103,.pointer (some ⟨w.heap.size,0,none⟩),.int .u64 150] 162)) (by rw [World.cell?_alloc_lt _ _ ⟨w.heap.size,0,none⟩ (by simp;omega)];simp);have tO:=typeOf_f;have aT:=assign_f;have vT:=valueOfT_f;have st:=set_f t ⟨w.heap.size+1+1+1,0,none⟩ e old ((((w.alloc (.cells #[.pointer (some t)] 103)).alloc (.cells #[hdl 103,.pointer (some ⟨w.heap.size,0,none⟩),.int .u64 150] 162)).alloc (.cells #[hdl 103,.pointer (some ⟨w.heap.size,0,none⟩),.int .u64 150] 162)).alloc (.cells #[.pointer (some e)] 101))
  (by rw [World.cell?_alloc_at _ _ _ _ (by simp)];rfl)
  (by rw [World.cell?_alloc_lt _ _ t (by simp;omega),World.cell?_alloc_lt _ _ t (by simp;omega),World.cell?_alloc_lt _ _ t (by simp;omega),World.cell?_alloc_lt _ _ t htl];exact ht0)
  (by rw [World.frozen?_alloc_old _ _ t (by simp;omega),World.frozen?_alloc_old _ _ t (by simp;omega),World.frozen?_alloc_old _ _ t (by simp;omega),World.frozen?_alloc_old _ _ t (Nat.ne_of_lt htl)];exact hf0)
 go_enter Tryz.func46,Tryz.ntmps46
 go_wp2
 refine wp_loop_rounds 1 ?_;rw [rounds_succ];go_wp2
 go_ret
 exact ⟨rfl,_,_,_,_,rfl⟩
set_option maxHeartbeats 4000000 in
theorem as_hit_n (e:Int) (t:Addr) (old:Value) (w:World) (hg:w.cell? ⟨1,0,none⟩=some (.iface 231 (.agg #[hdl 73]))) (ht0:w.cell? t=some old) (hf0:w.frozen? t=false) :
  Calls Tryz.prog 46 #[.iface 33 (.int .i64 e),.iface 106 (.pointer (some t))] w fun ev w'=>ev = .returned (.bool true)/\∃ o1 o2 o3 o4:Obj,w'=((((w.alloc o1).alloc o2).alloc o3).alloc o4).setCell t (.int .i64 e):=by
 have h0:=@run_callFunc_extern Tryz.prog 74 _ (fun args=>ReflectliteValue.unpack (args.getD 0 (.tuple #[]))) Tryz.func74 (by kernel_rfl) (by kernel_rfl) (by kernel_rfl) (by kernel_rfl);have h1:=@run_callFunc_extern Tryz.prog 75 _ (ReflectliteValue.methodAny (ReflectliteValue.valueError "reflectlite.Value.Type" 0) (fun t _ _ _=>ReflectliteType.toType t)) Tryz.func75 (by kernel_rfl) (by kernel_rfl) (by kernel_rfl) (by kernel_rfl);have h2:=@run_callFunc_extern Tryz.prog 76 _ (ReflectliteValue.method (ReflectliteValue.valueError "reflectlite.Value.IsNil" 0) ReflectliteValue.isNil) Tryz.func76 (by kernel_rfl) (by kernel_rfl) (by kernel_rfl) (by kernel_rfl);have h3:=@run_callFunc_extern Tryz.prog 300 _ (ReflectliteType.abiMethod fun t=>do pure (.int .u8 (←Rtype.kind t))) Tryz.func300 (by kernel_rfl) (by kernel_rfl) (by kernel_rfl) (by kernel_rfl);have h4:=@run_callFunc_extern Tryz.prog 316 _ (ReflectliteType.method ReflectliteType.elem) Tryz.func316 (by kernel_rfl) (by kernel_rfl) (by kernel_rfl) (by kernel_rfl);have h5:=@run_callFunc_extern Tryz.prog 317 _ (ReflectliteType.relation "Implements" ReflectliteType.implements_) Tryz.func317 (by kernel_rfl) (by kernel_rfl) (by kernel_rfl) (by kernel_rfl);have h6:=@run_callFunc_extern Tryz.prog 106 _ (ReflectliteType.typeOf) Tryz.func106 (by kernel_rfl) (by kernel_rfl) (by kernel_rfl) (by kernel_rfl);have h7:=@run_callFunc_extern Tryz.prog 314 _ (ReflectliteType.relation "AssignableTo" ReflectliteType.assignableTo) Tryz.func314 (by kernel_rfl) (by kernel_rfl) (by kernel_rfl) (by kernel_rfl);have h8:=@run_callFunc_extern Tryz.prog 107 _ (ReflectliteValue.method (ReflectliteValue.valueError "reflectlite.Value.Elem" 0) ReflectliteValue.elem) Tryz.func107 (by kernel_rfl) (by kernel_rfl) (by kernel_rfl) (by kernel_rfl);have h9:=@run_callFunc_extern Tryz.prog 108 _ (ReflectliteValue.set) Tryz.func108 (by kernel_rfl) (by kernel_rfl) (by kernel_rfl) (by kernel_rfl);have mK:=methodKind;have mE:=methodElem;have mI:=methodImplements;have mA:=methodAssignableTo;have f1:=valueOf_n;have f2:=type_n;have f3:=kindP_n;have f4:=kindT_n;have f5:=elem_n;have f6:=impl_n;have n8:=isNil_n ⟨w.heap.size,0,none⟩ t ((w.alloc (.cells #[.pointer (some t)] 106)).alloc (.cells #[hdl 106,.pointer (some ⟨w.heap.size,0,none⟩),.int .u64 150] 162)) (by simp);have hlt:1<w.heap.size:=by
  rcases Nat.lt_or_ge 1 w.heap.size with h | h
  ·exact h
  ·exfalso;rw [World.cell?,Array.getElem?_eq_none h] at hg
   cases hg
 have hg2:((w.alloc (.cells #[.pointer (some t)] 106)).alloc (.cells #[hdl 106,.pointer (some ⟨w.heap.size,0,none⟩),.int .u64 150] 162)).cell? ⟨1,0,none⟩=some (.iface 231 (.agg #[hdl 73])):=by
  rw [World.cell?_alloc_lt _ _ ⟨1,0,none⟩ (by simp<;>omega),World.cell?_alloc_lt _ _ ⟨1,0,none⟩ hlt];exact hg
 have htl:t.block<w.heap.size:=by
  rcases Nat.lt_or_ge t.block w.heap.size with h | h
  ·exact h
  ·simp [World.cell?,Array.getElem?_eq_none h] at ht0
 have el:=elemV_n ⟨w.heap.size,0,none⟩ t (((w.alloc (.cells #[.pointer (some t)] 106)).alloc (.cells #[hdl 106,.pointer (some ⟨w.heap.size,0,none⟩),.int .u64 150] 162)).alloc (.cells #[hdl 106,.pointer (some ⟨w.heap.size,0,none⟩),.int .u64 150] 162)) (by rw [World.cell?_alloc_lt _ _ ⟨w.heap.size,0,none⟩ (by simp;omega)];simp);have tO:=typeOf_n;have aT:=assign_n;have vT:=valueOfT_n;have st:=set_n t ⟨w.heap.size+1+1+1,0,none⟩ e old ((((w.alloc (.cells #[.pointer (some t)] 106)).alloc (.cells #[hdl 106,.pointer (some ⟨w.heap.size,0,none⟩),.int .u64 150] 162)).alloc (.cells #[hdl 106,.pointer (some ⟨w.heap.size,0,none⟩),.int .u64 150] 162)).alloc (.cells #[.int .i64 e] 33))
  (by rw [World.cell?_alloc_at _ _ _ _ (by simp)];rfl)
  (by rw [World.cell?_alloc_lt _ _ t (by simp;omega),World.cell?_alloc_lt _ _ t (by simp;omega),World.cell?_alloc_lt _ _ t (by simp;omega),World.cell?_alloc_lt _ _ t htl];exact ht0)
  (by rw [World.frozen?_alloc_old _ _ t (by simp;omega),World.frozen?_alloc_old _ _ t (by simp;omega),World.frozen?_alloc_old _ _ t (by simp;omega),World.frozen?_alloc_old _ _ t (Nat.ne_of_lt htl)];exact hf0)
 go_enter Tryz.func46,Tryz.ntmps46
 go_wp2
 refine wp_loop_rounds 1 ?_;rw [rounds_succ];go_wp2
 go_ret
 exact ⟨rfl,_,_,_,_,rfl⟩
set_option maxHeartbeats 4000000 in
theorem as_miss (e:Int) (t:Addr) (old:Value) (w:World) (hg:w.cell? ⟨1,0,none⟩=some (.iface 231 (.agg #[hdl 73]))) (ht0:w.cell? t=some old) (hf0:w.frozen? t=false) :
  Calls Tryz.prog 46 #[.iface 33 (.int .i64 e),.iface 103 (.pointer (some t))] w fun ev w'=>ev = .returned (.bool false)/\∃ o1 o2 o3:Obj,w'=((w.alloc o1).alloc o2).alloc o3:=by
 have h0:=@run_callFunc_extern Tryz.prog 74 _ (fun args=>ReflectliteValue.unpack (args.getD 0 (.tuple #[]))) Tryz.func74 (by kernel_rfl) (by kernel_rfl) (by kernel_rfl) (by kernel_rfl);have h1:=@run_callFunc_extern Tryz.prog 75 _ (ReflectliteValue.methodAny (ReflectliteValue.valueError "reflectlite.Value.Type" 0) (fun t _ _ _=>ReflectliteType.toType t)) Tryz.func75 (by kernel_rfl) (by kernel_rfl) (by kernel_rfl) (by kernel_rfl);have h2:=@run_callFunc_extern Tryz.prog 76 _ (ReflectliteValue.method (ReflectliteValue.valueError "reflectlite.Value.IsNil" 0) ReflectliteValue.isNil) Tryz.func76 (by kernel_rfl) (by kernel_rfl) (by kernel_rfl) (by kernel_rfl);have h3:=@run_callFunc_extern Tryz.prog 300 _ (ReflectliteType.abiMethod fun t=>do pure (.int .u8 (←Rtype.kind t))) Tryz.func300 (by kernel_rfl) (by kernel_rfl) (by kernel_rfl) (by kernel_rfl);have h4:=@run_callFunc_extern Tryz.prog 316 _ (ReflectliteType.method ReflectliteType.elem) Tryz.func316 (by kernel_rfl) (by kernel_rfl) (by kernel_rfl) (by kernel_rfl);have h5:=@run_callFunc_extern Tryz.prog 317 _ (ReflectliteType.relation "Implements" ReflectliteType.implements_) Tryz.func317 (by kernel_rfl) (by kernel_rfl) (by kernel_rfl) (by kernel_rfl);have h6:=@run_callFunc_extern Tryz.prog 106 _ (ReflectliteType.typeOf) Tryz.func106 (by kernel_rfl) (by kernel_rfl) (by kernel_rfl) (by kernel_rfl);have h7:=@run_callFunc_extern Tryz.prog 314 _ (ReflectliteType.relation "AssignableTo" ReflectliteType.assignableTo) Tryz.func314 (by kernel_rfl) (by kernel_rfl) (by kernel_rfl) (by kernel_rfl);have h8:=@run_callFunc_extern Tryz.prog 107 _ (ReflectliteValue.method (ReflectliteValue.valueError "reflectlite.Value.Elem" 0) ReflectliteValue.elem) Tryz.func107 (by kernel_rfl) (by kernel_rfl) (by kernel_rfl) (by kernel_rfl);have h9:=@run_callFunc_extern Tryz.prog 108 _ (ReflectliteValue.set) Tryz.func108 (by kernel_rfl) (by kernel_rfl) (by kernel_rfl) (by kernel_rfl);have mK:=methodKind;have mE:=methodElem;have mI:=methodImplements;have mA:=methodAssignableTo;have f1:=valueOf_f;have f2:=type_f;have f3:=kindP_f;have f4:=kindT_f;have f5:=elem_f;have f6:=impl_f;have n8:=isNil_f ⟨w.heap.size,0,none⟩ t ((w.alloc (.cells #[.pointer (some t)] 103)).alloc (.cells #[hdl 103,.pointer (some ⟨w.heap.size,0,none⟩),.int .u64 150] 162)) (by simp);have hlt:1<w.heap.size:=by
  rcases Nat.lt_or_ge 1 w.heap.size with h | h
  ·exact h
  ·exfalso;rw [World.cell?,Array.getElem?_eq_none h] at hg
   cases hg
 have hg2:((w.alloc (.cells #[.pointer (some t)] 103)).alloc (.cells #[hdl 103,.pointer (some ⟨w.heap.size,0,none⟩),.int .u64 150] 162)).cell? ⟨1,0,none⟩=some (.iface 231 (.agg #[hdl 73])):=by
  rw [World.cell?_alloc_lt _ _ ⟨1,0,none⟩ (by simp<;>omega),World.cell?_alloc_lt _ _ ⟨1,0,none⟩ hlt];exact hg
 have htl:t.block<w.heap.size:=by
  rcases Nat.lt_or_ge t.block w.heap.size with h | h
  ·exact h
  ·simp [World.cell?,Array.getElem?_eq_none h] at ht0
 have tO:=typeOf_n;have aT:=assign_miss;have n1:=noAs_n;have n2:=noUnwrap_n;have n3:=noUnwraps_n;go_enter Tryz.func46,Tryz.ntmps46
 go_wp2
 refine wp_loop_rounds 1 ?_;rw [rounds_succ];go_wp2
 go_ret
 exact ⟨rfl,_,_,_,rfl⟩
end Go.Proofs.YthpldolmpinnhaaGreatDoor
namespace Go.Proofs.YthpldolmpinnhaaGreatDoor
open Go Go.RowKit
set_option maxRecDepth 10000
def ErrT (w:World):Prop:=w.cell? ⟨1,0,none⟩=some (.iface 231 (.agg #[hdl 73]))
theorem ErrT.below {w w':World} (h:ErrT w) (hb:Below w.heap.size w w'):ErrT w':=by
 have hlt:=World.block_lt_of_cell? w _ h;unfold ErrT;rw [hb.cell (p:=⟨1,0,none⟩) hlt];exact h
def errV (n:Int):Value:=if n=0 then .nilIface else .iface 33 (.int .i64 n)
def TellPost (n at_:Int) (w:World) (e:Ending) (w':World):Prop:=e = .returned (.tuple #[.int .i64 n,.int .i64 at_])/\Below w.heap.size w w'
set_option maxHeartbeats 1000000 in
theorem tell_nil (w:World):Calls Tryz.prog 30 #[.nilIface] w (TellPost 0 0 w):=by
 go_enter Tryz.func30,Tryz.ntmps30
 go_wp2
 go_ret2
 exact ⟨rfl,((Below.refl _ _).alloc (Nat.le_refl _) _).alloc (by simp) _⟩
set_option maxHeartbeats 2000000 in
theorem tell_n (n:Int) (w:World) (hE:ErrT w):Calls Tryz.prog 30 #[.iface 33 (.int .i64 n)] w (TellPost n 0 w):=by
 have HE:=Lib.hid hE;clear hE;go_enter Tryz.func30,Tryz.ntmps30
 go_wp2_with fail
 refine calls_gen ?_;intro W hW;have hb:Below w.heap.size w W:=by rw [hW];exact ((Below.refl _ _).alloc (Nat.le_refl _) _).alloc (by simp) _
 have hz:w.heap.size+2<=W.heap.size:=by rw [hW];simp
 have hA:W.cell? ⟨w.heap.size,0,none⟩=some (.pointer none)/\W.frozen? ⟨w.heap.size,0,none⟩=false:=by rw [hW];constructor<;>go_simp
 have hB:W.cell? ⟨w.heap.size+1,0,none⟩=some (.int .i64 0)/\W.frozen? ⟨w.heap.size+1,0,none⟩=false:=by rw [hW];constructor<;>go_simp
 clear hW;refine (as_miss n ⟨w.heap.size,0,none⟩ _ W (HE.out.below hb) hA.1 hA.2).mono ?_;rintro e w1 ⟨rfl,o1,o2,o3,hw1⟩;have hb1:Below W.heap.size W w1:=by rw [hw1];exact (((Below.refl _ _).alloc (Nat.le_refl _) _).alloc (by simp) _).alloc (by simp;omega) _
 have hB1:w1.cell? ⟨w.heap.size+1,0,none⟩=some (.int .i64 0)/\w1.frozen? ⟨w.heap.size+1,0,none⟩=false :=
  ⟨by rw [hb1.cell (by simp;omega)];exact hB.1,by rw [hb1.frozen (by simp;omega)];exact hB.2⟩
 have hb01:=hb.trans (hb1.mono (by omega));have hz1:w.heap.size+2<=w1.heap.size:=by have:=hb1.size;omega
 clear hw1 hA hB hb1 hz;go_wp2_with fail
 refine (as_hit_n n ⟨w.heap.size+1,0,none⟩ _ w1 (HE.out.below hb01) hB1.1 hB1.2).mono ?_;rintro e w2 ⟨rfl,p1,p2,p3,p4,hw2⟩;have hb2:Below (w.heap.size+1) w1 w2:=by rw [hw2];exact (((((Below.refl _ _).alloc (by omega) _).alloc (by simp;omega) _).alloc (by simp;omega) _).alloc (by simp;omega) _).setCell (by simp) _
 have hb02:=hb01.trans (hb2.mono (by omega));have hC:w2.cell? ⟨w.heap.size+1,0,none⟩=some (.int .i64 n):=by
  rw [hw2,cellSet,if_pos rfl];rw [World.cell?_alloc_lt _ _ _ (by simp;omega),World.cell?_alloc_lt _ _ _ (by simp;omega),World.cell?_alloc_lt _ _ _ (by simp;omega),World.cell?_alloc_lt _ _ _ (by show w.heap.size+1<_;omega),hB1.1];rfl
 clear hw2 hb2 hB1;go_wp2
 go_ret2
 exact ⟨rfl,hb02⟩
theorem tell_e (n:Int) (w:World) (hE:ErrT w):Calls Tryz.prog 30 #[errV n] w (TellPost n 0 w):=by
 unfold errV;by_cases h:n=0
 ·subst h;rw [if_pos rfl];exact tell_nil w
 ·rw [if_neg h];exact tell_n n w hE
theorem indexByte_eq (c:UInt8):∀ l:List UInt8,Lib.indexByte l c=if l.idxOf c<l.length then ((l.idxOf c:Nat):Int) else -1
 | []=>rfl
 | b::l=>by
  have ih:=indexByte_eq c l;rw [Lib.indexByte,ih,List.idxOf_cons];by_cases h:b==c
  ·simp [h]
  ·simp only [h,cond_false,List.length_cons];by_cases h2:l.idxOf c<l.length
   ·rw [if_pos h2,if_pos (show l.idxOf c+1<l.length+1 by omega)];have h3:(((l.idxOf c:Nat):Int)==-1)=false:=by rw [beq_eq_false_iff_ne];omega
    rw [h3];simp
   ·rw [if_neg h2,if_neg (show ¬(l.idxOf c+1<l.length+1) by omega)];simp
set_option maxHeartbeats 800000 in
theorem liteCut_any (s:ByteArray) (c:UInt8) (w:World) (hs:s.size<=1000000) :
  Calls Tryz.prog 101 #[.string s,.string ⟨#[c]⟩] w fun e w' =>
   e = .returned (.tuple #[.string ⟨(s.data.toList.take (s.data.toList.idxOf c)).toArray⟩,.string ⟨(s.data.toList.drop (s.data.toList.idxOf c+1)).toArray⟩,.bool (decide (s.data.toList.idxOf c<s.size))])/\∃ n,w'=w.drewN n:=by
 have hx:=indexByte_eq c s.data.toList;rw [size_toList] at hx;have HX:=Lib.hid hx;clear hx;go_enter Tryz.func101,Tryz.ntmps101
 go_wp2_with fail
 refine (Tryz.stringslite_Index_one s c _).mono ?_;rw [HX.out];rintro e w' ⟨rfl,rfl⟩;by_cases hlt:s.data.toList.idxOf c<s.size
 ·rw [if_pos hlt];generalize hk:s.data.toList.idxOf c=k at hlt;have HK:=Lib.hid hk;clear hk;have hr:(k+1:Nat)<=s.size:=hlt;go_wp2_with fail
  go_quiet (fail)
  go_wp2
  go_ret3
  rw [extract_take,extract_drop,HK.out];exact ⟨by simp [hlt],nq,rfl⟩
 ·rw [if_neg hlt];have hi:s.data.toList.idxOf c=s.size:=by have:=List.idxOf_le_length (a:=c) (l:=s.data.toList);simp only [size_toList] at this;omega
  have Hi:=Lib.hid hi;clear hi hlt;go_wp2
  go_ret3
  rw [Hi.out,take_all,mk_toList,List.drop_of_length_le (by simp)];exact ⟨by simp,0,rfl⟩

theorem slice_of {w : World} {base size n : Nat} {e : TypeId} {v : Value} {xs : List Value} (h : w.ownsRow base e size v n xs) : ∃ a m k, v = .slice a m k := by
  obtain ⟨a, cap, hv⟩ := own_slice h
  exact ⟨a, n, cap, hv⟩

/-- what decimal.Parse gives back -/
def DecPost (l : List UInt8) (w : World) (e : Ending) (w' : World) : Prop :=
  ∃ (b : Bool) (v : Value) (k : Int), e = .returned (.tuple #[.agg #[.bool b, v, .int .i64 k], .bool (isNumL l)]) ∧ (∃ a n k', v = .slice a n k') ∧ Below w.heap.size w w' ∧
    (isNumL l = true → b = negL l ∧ k = ((fracL l).length : Int) ∧ w'.ownsRow w.heap.size 5 1 v ((wholeL l).length + (fracL l).length) (digs (wholeL l ++ fracL l)))

theorem cutDot_any (s : ByteArray) (l : List UInt8) (hl : s.data.toList = l) (w : World) (hs : s.size ≤ 1000000) :
    Calls Tryz.prog 66 #[.string s, .string ⟨#[46]⟩] w fun e w' =>
      e = .returned (.tuple #[strv (l.take (l.idxOf 46)), strv (l.drop (l.idxOf 46 + 1)), .bool (decide (l.idxOf 46 < l.length))]) ∧ ∃ n, w' = w.drewN n := by
  subst hl
  go_enter Tryz.func66, Tryz.ntmps66
  go_wp2_with fail
  refine (liteCut_any s 46 _ hs).mono ?_
  rintro e w' ⟨rfl, n, rfl⟩
  go_wp2
  go_ret3
  exact ⟨by rw [size_toList]; rfl, n, rfl⟩

theorem prefix_eq (l : List UInt8) : Lib.trimPrefix l [45] = absL l ∧ Lib.hasPrefix l [45] = negL l := by
  cases l with
  | nil => exact ⟨rfl, rfl⟩
  | cons x l =>
    by_cases h : x = 45
    · subst h; simp [Lib.trimPrefix, Lib.hasPrefix, absL, negL, List.isPrefixOf]
    · have h2 : ((45 : UInt8) == x) = false := by rw [beq_eq_false_iff_ne]; exact fun e => h e.symm
      simp [Lib.trimPrefix, Lib.hasPrefix, absL, negL, List.isPrefixOf, h, h2]

theorem own_mono {w : World} {base base' size n : Nat} {e : TypeId} {v : Value} {xs : List Value} (h : w.ownsRow base e size v n xs) (hb : base' ≤ base) : w.ownsRow base' e size v n xs :=
  ⟨h.1, h.2.imp id fun ⟨g, cap, cur, a, b, c⟩ => ⟨g, cap, cur, a, Nat.le_trans hb b, c⟩⟩

/-- digits' values -/
def vals (l : List UInt8) : List Int := l.map fun c => (c.toNat : Int) - 48

theorem zero_eq (l : List UInt8) : (!(vals l).any (· != 0)) = l.all (· == 48) := by
  induction l with
  | nil => rfl
  | cons c l ih =>
    have h : (((c.toNat : Int) - 48) != 0) = !(c == 48) := by
      have h2 := toNat_beq c 48
      have h3 : ((48 : UInt8).toNat : Int) = 48 := rfl
      rw [h3] at h2
      by_cases h4 : c = 48
      · subst h4; rfl
      · have h5 : (c == 48) = false := by simpa using h4
        rw [h5, Bool.not_false, bne_iff_ne]
        intro h6
        have h7 : ((c.toNat : Int) == 48) = true := by rw [beq_iff_eq]; omega
        rw [h7] at h2
        simp [h4] at h2
    simp only [vals, List.map_cons, List.any_cons, List.all_cons] at ih ⊢
    rw [h, ← ih]
    simp

theorem bytesAt_own {w : World} {B n cap : Nat} {ad : Option Addr} {l : List UInt8} (h : w.ownsRow B 5 1 (.slice ad n cap) n (digs l)) (hn : n = l.length) : BytesAt w ad (vals l) := by
  subst hn
  intro j hj
  have hj2 : j < l.length := by simpa [vals] using hj
  obtain ⟨g, cap', hv, _, _, hc⟩ := own_some h (by omega)
  cases hv
  refine ⟨⟨g, 0, none⟩, rfl, ?_⟩
  have := hc j (by omega)
  rw [addr_add0, this]
  simp [digs, vals, hj2]

theorem BytesAt.set {w : World} {a : Option Addr} {l : List Int} (h : BytesAt w a l) {p : Addr} (hp : ∀ b, a = some b → b.block ≠ p.block) (u : Value) : BytesAt (w.setCell p u) a l := fun j hj => by
  obtain ⟨b, hb, hc⟩ := h j hj
  refine ⟨b, hb, ?_⟩
  rw [← hc]
  exact World.cell?_of_block (Below.heap_setCell _ _ _ _ (by rw [addr_add]; exact hp b hb))

theorem zero_list (l : List UInt8) (n : Nat) (hn : n = l.length) (a : Option Addr) (c : Nat) (b : Bool) (sc : Int) (w : World) (hl : l.length ≤ 1000000) (hc : BytesAt w a (vals l)) :
    Calls Tryz.prog 68 #[.agg #[.bool b, .slice a n c, .int .i64 sc]] w fun e w' => e = .returned (.bool (l.all (· == 48))) ∧ Below w.heap.size w w' := by
  subst hn
  have := zero_any (vals l) a c b sc w (by simpa [vals] using hl) hc
  rw [zero_eq] at this
  simpa [vals] using this

theorem own_set {w : World} {base size n : Nat} {e : TypeId} {v : Value} {xs : List Value} (h : w.ownsRow base e size v n xs) {p : Addr} (hp : some p.block ≠ v.ownBlock) (u : Value) : (w.setCell p u).ownsRow base e size v n xs :=
  h.kept (row := some p.block) ⟨rfl, rfl, rfl, by simp, fun i _ hne => Below.heap_setCell _ _ _ _ (fun he => hne (by rw [he]))⟩ (.inr (fun he => hp he.symm))

theorem own_below {w w' : World} {base size n : Nat} {e : TypeId} {v : Value} {xs : List Value} (h : w.ownsRow base e size v n xs) (hb : Below w.heap.size w w') : w'.ownsRow base e size v n xs :=
  h.kept (row := none) ⟨hb.os, hb.tape, hb.output, hb.size, fun i hi _ => hb.block i hi⟩ (by cases v.ownBlock <;> simp)

theorem dec_no {l wh fr : List UInt8} {pt : Bool} (hW : wholeL l = wh) (hF : fracL l = fr) (hP : pointL l = pt) (hN : pt = false → fr = []) (h : ¬ ((wh ++ fr).all isDig = true ∧ wh ≠ [] ∧ (pt = true → fr ≠ []) ∧ wh.length + fr.length ≤ 30)) : isNumL l = false := by
  refine notNum hW hF hP fun ⟨h1, h2, h3⟩ => h ⟨?_, ?_, ?_, h3⟩
  · simp only [numeralsL, Bool.and_eq_true] at h1 h2
    rw [List.all_append, h1.1]
    cases pt with
    | false => rw [hN rfl]; rfl
    | true => simp [(h2 rfl).1]
  · intro e; subst e; simp [numeralsL] at h1
  · intro hp e; subst e; simp [numeralsL] at h2; exact absurd hp (by simpa using h2)

theorem dec_yes {l wh fr : List UInt8} {pt : Bool} (hW : wholeL l = wh) (hF : fracL l = fr) (hP : pointL l = pt) (h1 : (wh ++ fr).all isDig = true) (h2 : wh ≠ []) (h3 : pt = true → fr ≠ []) (h4 : wh.length + fr.length ≤ 30) : figsL l = true := by
  rw [List.all_append, Bool.and_eq_true] at h1
  refine form_of hW hF hP (by simp [numeralsL, h1.1, h2]) (fun hp => by simp [numeralsL, h1.2, h3 hp]) (by omega)

set_option maxHeartbeats 4000000 in
theorem parse_any (s : ByteArray) (w : World) (hs : s.size ≤ 1000000) :
    Calls Tryz.prog 44 #[.string s] w (DecPost s.data.toList w) := by
  have hlen : (absL s.data.toList).length ≤ s.size := by unfold absL; split <;> simp
  have hp := prefix_eq s.data.toList
  have HP0 := Lib.hid hp
  generalize hal : absL s.data.toList = al at hlen
  have Hal := Lib.hid hal
  clear hal hp
  go_enter Tryz.func44, Tryz.ntmps44
  go_wp2_with fail
  refine (Tryz.strings_CutPrefix s _ _).mono ?_
  rintro e w' ⟨rfl, rfl⟩
  have hq1 : Lib.trimPrefix s.data.toList [45] = al := HP0.out.1.trans Hal.out
  have hq2 := HP0.out.2
  rw [show ({ data := #[45] } : ByteArray).data.toList = [45] from rfl, hq1, hq2]
  clear hq1 hq2
  generalize hbq : negL s.data.toList = b
  have HB := Lib.hid hbq
  clear hbq
  go_wp2_with fail
  refine (cutDot_any _ al (toList_mk al) _ (by rw [size_mk]; omega)).mono ?_
  rintro e w' ⟨rfl, nq, rfl⟩
  have hwl : (al.take (al.idxOf 46)).length + (al.drop (al.idxOf 46 + 1)).length ≤ s.size := by simp; omega
  have hW : wholeL s.data.toList = al.take (al.idxOf 46) := by rw [wholeL, Hal.out]
  have hF : fracL s.data.toList = al.drop (al.idxOf 46 + 1) := by rw [fracL, Hal.out]
  have hP : pointL s.data.toList = decide (al.idxOf 46 < al.length) := by rw [pointL, Hal.out]
  have hN : decide (al.idxOf 46 < al.length) = false → al.drop (al.idxOf 46 + 1) = [] := by
    intro h; simp at h; exact List.drop_of_length_le (by omega)
  generalize al.take (al.idxOf 46) = wh at hW hwl ⊢
  generalize al.drop (al.idxOf 46 + 1) = fr at hF hwl hN ⊢
  generalize decide (al.idxOf 46 < al.length) = pt at hP hN ⊢
  have HW := Lib.hid hW
  have HF := Lib.hid hF
  have HP := Lib.hid hP
  have HN := Lib.hid hN
  clear hW hF hP hN
  go_wp2_with fail
  refine (values_any _ _ (by first | (rw [append_mk, size_mk]; simp; omega) | simp; omega)).mono ?_
  rw [append_mk, toList_mk]
  rintro e w' ⟨hv, hb⟩
  have hsz : w.heap.size + 1 ≤ w'.heap.size := by have := hb.size; simpa using this
  have hB : Below w.heap.size w w' := (below_drewN ((Below.refl _ _).alloc (Nat.le_refl _) _) nq).trans (hb.mono (by simp))
  have hc0 : w'.cell? ⟨w.heap.size, 0, none⟩ = some (.bool b) := by rw [hb.cell (by simp)]; go_simp
  have hc1 : w'.cell? ⟨w.heap.size, 1, none⟩ = some (.slice none 0 0) := by rw [hb.cell (by simp)]; go_simp
  have hc2 : w'.cell? ⟨w.heap.size, 2, none⟩ = some (.int .i64 0) := by rw [hb.cell (by simp)]; go_simp
  have hf0 : w'.frozen? ⟨w.heap.size, 0, none⟩ = false := by rw [hb.frozen (by simp)]; go_simp
  have hf1 : w'.frozen? ⟨w.heap.size, 1, none⟩ = false := by rw [hb.frozen (by simp)]; go_simp
  have hf2 : w'.frozen? ⟨w.heap.size, 2, none⟩ = false := by rw [hb.frozen (by simp)]; go_simp
  have hown : ∀ v, w'.ownsRow ((w.alloc (.cells #[.bool b, .slice none 0 0, .int .i64 0] 97)).drewN nq).heap.size 5 1 v (wh ++ fr).length (digs (wh ++ fr)) → w'.ownsRow w.heap.size 5 1 v (wh ++ fr).length (digs (wh ++ fr)) := fun v h => own_mono h (by simp)
  have hlo : ∀ v, w'.ownsRow ((w.alloc (.cells #[.bool b, .slice none 0 0, .int .i64 0] 97)).drewN nq).heap.size 5 1 v (wh ++ fr).length (digs (wh ++ fr)) → some w.heap.size ≠ v.ownBlock := fun v h e => by have := (World.ownsRow.lt h _ e.symm).1; simp at this; omega
  clear hb
  by_cases hall : (wh ++ fr).all isDig = true
  · rw [if_pos hall] at hv
    obtain ⟨v, rfl, hrow⟩ := hv
    have HSV := Lib.hid (slice_of hrow)
    have hrow2 := hown v hrow
    have hnb := hlo v hrow
    clear hown hlo hrow
    obtain ⟨ad, cap, rfl⟩ := own_slice hrow2
    have HALL := Lib.hid hall
    clear hall
    have hln : (wh ++ fr).length = wh.length + fr.length := by simp
    rw [hln] at hrow2 hnb ⊢
    have HROW := Lib.hid hrow2
    clear hln hrow2
    by_cases hbad : ¬ (wh ≠ [] ∧ (pt = true → fr ≠ []) ∧ wh.length + fr.length ≤ 30)
    · have hfin := dec_no HW.out HF.out HP.out HN.out (fun h => hbad h.2)
      have HFIN := Lib.hid hfin
      clear hfin
      go_wp2
      all_goals first
        | (exfalso; refine hbad ⟨by assumption, ?_, ?_⟩ <;> first | (intro h; contradiction) | (intro _; assumption) | omega)
        | (refine bodyPost_ret (v := .tuple #[.agg #[.bool b, .slice none 0 0, .int .i64 0], .bool false]) ?_ rfl ?_
           focus (simp [results, Tryz.results44, go_sem, *])
           refine ⟨b, _, _, by rw [HFIN.out], by first | exact ⟨_, _, _, rfl⟩ | exact HSV.out, ?_, fun h => by rw [HFIN.out] at h; cases h⟩
           refine hB.trans ?_
           (repeat (first | (with_reducible exact Below.refl _ _) | (with_reducible refine below_drewN ?_ _) | (with_reducible refine Below.drew ?_) | (with_reducible refine Below.alloc ?_ ?_ _; rotate_left; focus (first | (simp; done) | (simp; omega))) | (with_reducible refine Below.setCell ?_ ?_ _; rotate_left; focus (first | (simp; done) | (simp; omega)))))
           done)
    · have hgood : wh ≠ [] ∧ (pt = true → fr ≠ []) ∧ wh.length + fr.length ≤ 30 := Classical.not_not.1 hbad
      clear hbad
      obtain ⟨hg1, hg2, hg3⟩ := hgood
      have hfo := dec_yes HW.out HF.out HP.out HALL.out hg1 hg2 hg3
      have HFO := Lib.hid hfo
      clear hfo
      have h30 : ¬ ((30 : Int) < (wh.length : Int) + (fr.length : Int)) := by omega
      have hsz0 : 0 < (ByteArray.mk wh.toArray).size := by
        rw [size_mk]
        cases wh with
        | nil => exact absurd rfl hg1
        | cons x l => simp
      have h48 := head48 wh hsz0
      have H48 := Lib.hid h48
      clear h48
      have hpt : (pt = true ∧ ¬ fr = []) ∨ pt = false := by
        cases pt
        · exact .inr rfl
        · exact .inl ⟨rfl, hg2 rfl⟩
      clear hg2
      rcases hpt with ⟨hpt, hfr⟩ | hpt
      all_goals
        by_cases c1 : (1 : Int) < (wh.length : Int)
        · by_cases c2 : (((ByteArray.mk wh.toArray)[0].toNat : Int) == 48) = true
          · have hfin : isNumL s.data.toList = false := by
              rw [isNum_of HW.out HF.out HB.out HFO.out, H48.out, c2]; simp; omega
            have HFIN := Lib.hid hfin
            clear hfin
            go_wp2
            all_goals first
              | (exfalso; rename_i hh; simp [hg1, hfr] at hh; omega) | (exfalso; rename_i hh; simp [hg1] at hh; omega)
              | skip
            refine bodyPost_ret (v := .tuple #[.agg #[.bool b, .slice ad (wh.length + fr.length) cap, .int .i64 (fr.length : Int)], .bool false]) ?_ rfl ?_
            · simp [results, Tryz.results44, go_sem, cellSet, *]
            · refine ⟨b, _, _, by rw [HFIN.out], by first | exact ⟨_, _, _, rfl⟩ | exact HSV.out, ?_, fun h => by rw [HFIN.out] at h; cases h⟩
              refine hB.trans ?_
              (repeat (first | (with_reducible exact Below.refl _ _) | (with_reducible refine below_drewN ?_ _) | (with_reducible refine Below.drew ?_) | (with_reducible refine Below.alloc ?_ ?_ _; rotate_left; focus (first | (simp; done) | (simp; omega))) | (with_reducible refine Below.setCell ?_ ?_ _; rotate_left; focus (first | (simp; done) | (simp; omega)))))
          · have c2' : (((ByteArray.mk wh.toArray)[0].toNat : Int) == 48) = false := by simpa using c2
            have hfin : isNumL s.data.toList = !(b && (wh ++ fr).all (· == 48)) := by
              rw [isNum_of HW.out HF.out HB.out HFO.out, H48.out, c2']; simp
            have HFIN := Lib.hid hfin
            clear hfin c2
            cases b
            · have HR := HROW
              simp only [Bool.false_and, Bool.not_false] at HFIN
              go_wp2
              all_goals first
                | (exfalso; rename_i hh; simp [hg1, hfr] at hh; omega) | (exfalso; rename_i hh; simp [hg1] at hh; omega)
                | skip
              refine bodyPost_ret (v := .tuple #[.agg #[.bool false, .slice ad (wh.length + fr.length) cap, .int .i64 (fr.length : Int)], .bool true]) ?_ rfl ?_
              · simp [results, Tryz.results44, go_sem, cellSet, *]
              · refine ⟨_, _, _, by rw [HFIN.out], by first | exact ⟨_, _, _, rfl⟩ | exact HSV.out, ?_, ?_⟩
                · refine hB.trans ?_
                  (repeat (first | (with_reducible exact Below.refl _ _) | (with_reducible refine below_drewN ?_ _) | (with_reducible refine Below.drew ?_) | (with_reducible refine Below.alloc ?_ ?_ _; rotate_left; focus (first | (simp; done) | (simp; omega))) | (with_reducible refine Below.setCell ?_ ?_ _; rotate_left; focus (first | (simp; done) | (simp; omega)))))
                · intro _
                  rw [HW.out, HF.out]
                  refine ⟨HB.out.symm, rfl, ?_⟩
                  (repeat (with_reducible refine own_set ?_ hnb _))
                  exact HR.out
            · simp only [Bool.true_and] at HFIN
              go_wp2_with fail
              all_goals first
                | (exfalso; rename_i hh; simp [hg1, hfr] at hh; omega) | (exfalso; rename_i hh; simp [hg1] at hh; omega)
                | skip
              refine (zero_list (wh ++ fr) (wh.length + fr.length) (by simp) ad cap true _ _ (by simp; omega) (((bytesAt_own HROW.out (by simp)).set ?_ _).set ?_ _)).mono ?_
              · intro q hq he; subst hq; exact hnb (by simp [Value.ownBlock]; exact he.symm)
              · intro q hq he; subst hq; exact hnb (by simp [Value.ownBlock]; exact he.symm)
              rintro e w2 ⟨rfl, hb2⟩
              have hsz2 : w.heap.size + 1 ≤ w2.heap.size := by have := hb2.size; simp at this; omega
              have hB2 : Below w.heap.size w w2 := ((hB.setCell (p := ⟨w.heap.size, 1, none⟩) (Nat.le_refl _) _).setCell (p := ⟨w.heap.size, 2, none⟩) (Nat.le_refl _) _).trans (hb2.mono (by simp; omega))
              have hd0 : w2.cell? ⟨w.heap.size, 0, none⟩ = some (.bool true) := by rw [hb2.cell (by simp; omega)]; simp [cellSet, hc0]
              have hd1 : w2.cell? ⟨w.heap.size, 1, none⟩ = some (.slice ad (wh.length + fr.length) cap) := by rw [hb2.cell (by simp; omega)]; simp [cellSet, hc1]
              have hd2 : w2.cell? ⟨w.heap.size, 2, none⟩ = some (.int .i64 (fr.length : Int)) := by rw [hb2.cell (by simp; omega)]; simp [cellSet, hc2]
              have he0 : w2.frozen? ⟨w.heap.size, 0, none⟩ = false := by rw [hb2.frozen (by simp; omega)]; go_simp
              have he1 : w2.frozen? ⟨w.heap.size, 1, none⟩ = false := by rw [hb2.frozen (by simp; omega)]; go_simp
              have he2 : w2.frozen? ⟨w.heap.size, 2, none⟩ = false := by rw [hb2.frozen (by simp; omega)]; go_simp
              have HR := Lib.hid (own_below (own_set (own_set HROW.out hnb _) hnb _) hb2)
              clear hb2 hc0 hc1 hc2 hf0 hf1 hf2
              generalize (wh ++ fr).all (· == 48) = z at HFIN ⊢
              cases z
              · simp only [Bool.not_false] at HFIN
                go_wp2
                refine bodyPost_ret (v := .tuple #[.agg #[.bool true, .slice ad (wh.length + fr.length) cap, .int .i64 (fr.length : Int)], .bool true]) ?_ rfl ?_
                · simp [results, Tryz.results44, go_sem, cellSet, *]
                · refine ⟨_, _, _, by rw [HFIN.out], by first | exact ⟨_, _, _, rfl⟩ | exact HSV.out, ?_, ?_⟩
                  · refine hB2.trans ?_
                    (repeat (first | (with_reducible exact Below.refl _ _) | (with_reducible refine below_drewN ?_ _) | (with_reducible refine Below.drew ?_) | (with_reducible refine Below.alloc ?_ ?_ _; rotate_left; focus (first | (simp; done) | (simp; omega))) | (with_reducible refine Below.setCell ?_ ?_ _; rotate_left; focus (first | (simp; done) | (simp; omega)))))
                  · intro _
                    rw [HW.out, HF.out]
                    refine ⟨HB.out.symm, rfl, ?_⟩
                    (repeat (with_reducible refine own_set ?_ hnb _))
                    exact HR.out
              · simp only [Bool.not_true] at HFIN
                go_wp2
                refine bodyPost_ret (v := .tuple #[.agg #[.bool true, .slice ad (wh.length + fr.length) cap, .int .i64 (fr.length : Int)], .bool false]) ?_ rfl ?_
                · simp [results, Tryz.results44, go_sem, cellSet, *]
                · refine ⟨_, _, _, by rw [HFIN.out], by first | exact ⟨_, _, _, rfl⟩ | exact HSV.out, ?_, ?_⟩
                  · refine hB2.trans ?_
                    (repeat (first | (with_reducible exact Below.refl _ _) | (with_reducible refine below_drewN ?_ _) | (with_reducible refine Below.drew ?_) | (with_reducible refine Below.alloc ?_ ?_ _; rotate_left; focus (first | (simp; done) | (simp; omega))) | (with_reducible refine Below.setCell ?_ ?_ _; rotate_left; focus (first | (simp; done) | (simp; omega)))))
                  · intro h; rw [HFIN.out] at h; cases h
        · have hfin : isNumL s.data.toList = !(b && (wh ++ fr).all (· == 48)) := by
            rw [isNum_of HW.out HF.out HB.out HFO.out, decide_eq_false (by omega)]; simp
          have HFIN := Lib.hid hfin
          clear hfin
          cases b
          · have HR := HROW
            simp only [Bool.false_and, Bool.not_false] at HFIN
            go_wp2
            all_goals first
              | (exfalso; rename_i hh; simp [hg1, hfr] at hh; omega) | (exfalso; rename_i hh; simp [hg1] at hh; omega)
              | skip
            refine bodyPost_ret (v := .tuple #[.agg #[.bool false, .slice ad (wh.length + fr.length) cap, .int .i64 (fr.length : Int)], .bool true]) ?_ rfl ?_
            · simp [results, Tryz.results44, go_sem, cellSet, *]
            · refine ⟨_, _, _, by rw [HFIN.out], by first | exact ⟨_, _, _, rfl⟩ | exact HSV.out, ?_, ?_⟩
              · refine hB.trans ?_
                (repeat (first | (with_reducible exact Below.refl _ _) | (with_reducible refine below_drewN ?_ _) | (with_reducible refine Below.drew ?_) | (with_reducible refine Below.alloc ?_ ?_ _; rotate_left; focus (first | (simp; done) | (simp; omega))) | (with_reducible refine Below.setCell ?_ ?_ _; rotate_left; focus (first | (simp; done) | (simp; omega)))))
              · intro _
                rw [HW.out, HF.out]
                refine ⟨HB.out.symm, rfl, ?_⟩
                (repeat (with_reducible refine own_set ?_ hnb _))
                exact HR.out
          · simp only [Bool.true_and] at HFIN
            go_wp2_with fail
            all_goals first
              | (exfalso; rename_i hh; simp [hg1, hfr] at hh; omega) | (exfalso; rename_i hh; simp [hg1] at hh; omega)
              | skip
            refine (zero_list (wh ++ fr) (wh.length + fr.length) (by simp) ad cap true _ _ (by simp; omega) (((bytesAt_own HROW.out (by simp)).set ?_ _).set ?_ _)).mono ?_
            · intro q hq he; subst hq; exact hnb (by simp [Value.ownBlock]; exact he.symm)
            · intro q hq he; subst hq; exact hnb (by simp [Value.ownBlock]; exact he.symm)
            rintro e w2 ⟨rfl, hb2⟩
            have hsz2 : w.heap.size + 1 ≤ w2.heap.size := by have := hb2.size; simp at this; omega
            have hB2 : Below w.heap.size w w2 := ((hB.setCell (p := ⟨w.heap.size, 1, none⟩) (Nat.le_refl _) _).setCell (p := ⟨w.heap.size, 2, none⟩) (Nat.le_refl _) _).trans (hb2.mono (by simp; omega))
            have hd0 : w2.cell? ⟨w.heap.size, 0, none⟩ = some (.bool true) := by rw [hb2.cell (by simp; omega)]; simp [cellSet, hc0]
            have hd1 : w2.cell? ⟨w.heap.size, 1, none⟩ = some (.slice ad (wh.length + fr.length) cap) := by rw [hb2.cell (by simp; omega)]; simp [cellSet, hc1]
            have hd2 : w2.cell? ⟨w.heap.size, 2, none⟩ = some (.int .i64 (fr.length : Int)) := by rw [hb2.cell (by simp; omega)]; simp [cellSet, hc2]
            have he0 : w2.frozen? ⟨w.heap.size, 0, none⟩ = false := by rw [hb2.frozen (by simp; omega)]; go_simp
            have he1 : w2.frozen? ⟨w.heap.size, 1, none⟩ = false := by rw [hb2.frozen (by simp; omega)]; go_simp
            have he2 : w2.frozen? ⟨w.heap.size, 2, none⟩ = false := by rw [hb2.frozen (by simp; omega)]; go_simp
            have HR := Lib.hid (own_below (own_set (own_set HROW.out hnb _) hnb _) hb2)
            clear hb2 hc0 hc1 hc2 hf0 hf1 hf2
            generalize (wh ++ fr).all (· == 48) = z at HFIN ⊢
            cases z
            · simp only [Bool.not_false] at HFIN
              go_wp2
              refine bodyPost_ret (v := .tuple #[.agg #[.bool true, .slice ad (wh.length + fr.length) cap, .int .i64 (fr.length : Int)], .bool true]) ?_ rfl ?_
              · simp [results, Tryz.results44, go_sem, cellSet, *]
              · refine ⟨_, _, _, by rw [HFIN.out], by first | exact ⟨_, _, _, rfl⟩ | exact HSV.out, ?_, ?_⟩
                · refine hB2.trans ?_
                  (repeat (first | (with_reducible exact Below.refl _ _) | (with_reducible refine below_drewN ?_ _) | (with_reducible refine Below.drew ?_) | (with_reducible refine Below.alloc ?_ ?_ _; rotate_left; focus (first | (simp; done) | (simp; omega))) | (with_reducible refine Below.setCell ?_ ?_ _; rotate_left; focus (first | (simp; done) | (simp; omega)))))
                · intro _
                  rw [HW.out, HF.out]
                  refine ⟨HB.out.symm, rfl, ?_⟩
                  (repeat (with_reducible refine own_set ?_ hnb _))
                  exact HR.out
            · simp only [Bool.not_true] at HFIN
              go_wp2
              refine bodyPost_ret (v := .tuple #[.agg #[.bool true, .slice ad (wh.length + fr.length) cap, .int .i64 (fr.length : Int)], .bool false]) ?_ rfl ?_
              · simp [results, Tryz.results44, go_sem, cellSet, *]
              · refine ⟨_, _, _, by rw [HFIN.out], by first | exact ⟨_, _, _, rfl⟩ | exact HSV.out, ?_, ?_⟩
                · refine hB2.trans ?_
                  (repeat (first | (with_reducible exact Below.refl _ _) | (with_reducible refine below_drewN ?_ _) | (with_reducible refine Below.drew ?_) | (with_reducible refine Below.alloc ?_ ?_ _; rotate_left; focus (first | (simp; done) | (simp; omega))) | (with_reducible refine Below.setCell ?_ ?_ _; rotate_left; focus (first | (simp; done) | (simp; omega)))))
                · intro h; rw [HFIN.out] at h; cases h
  · rw [if_neg hall] at hv
    subst hv
    have hfin := dec_no HW.out HF.out HP.out HN.out (fun h => hall h.1)
    have HFIN := Lib.hid hfin
    clear hfin hall hown hlo
    go_wp2
    refine bodyPost_ret (v := .tuple #[.agg #[.bool b, .slice none 0 0, .int .i64 0], .bool false]) ?_ rfl ?_
    · simp [results, Tryz.results44, go_sem, *]
    · refine ⟨b, _, _, by rw [HFIN.out], by first | exact ⟨_, _, _, rfl⟩ | exact HSV.out, ?_, fun h => by rw [HFIN.out] at h; cases h⟩
      refine hB.trans ?_
      (repeat (first | (with_reducible exact Below.refl _ _) | (with_reducible refine below_drewN ?_ _) | (with_reducible refine Below.drew ?_) | (with_reducible refine Below.alloc ?_ ?_ _; rotate_left; focus (first | (simp; done) | (simp; omega))) | (with_reducible refine Below.setCell ?_ ?_ _; rotate_left; focus (first | (simp; done) | (simp; omega)))))
end Go.Proofs.YthpldolmpinnhaaGreatDoor
