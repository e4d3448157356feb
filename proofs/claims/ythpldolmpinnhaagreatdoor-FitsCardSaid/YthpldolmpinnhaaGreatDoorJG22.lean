import Derived.Test.YthpldolmpinnhaaGreatDoorJG21
import Derived.LaidEql
import Derived.Stop.Asserts
import Derived.RowKitTokens
import Derived.Test.YthpldolmpinnhaaGreatDoorShelf
set_option maxHeartbeats 64000000
open Go.World renaming cell?_alloc_lt→z7,frozen?_alloc_old→z8,cell?→zV,cell?_alloc_at→zI
open Go.Result renaming andThen→zy
open Go.Lib renaming hid→zx,trimPrefix→zQ,hasPrefix→zE
open Go.RowKit.Below renaming refl→zv,setCell→zk,alloc→zj,drew→zg,heap_setCell→zM
open Array renaming getElem?_eq_none→zu
open Nat renaming le_refl→zf,lt_or_ge→zY
open Go.Sem renaming run_bind→zZ
open Bool renaming not_false→zX,and_eq_true→zN,false_and→zR
open Go.Value renaming ownBlock→zU,int→zD
open Go.Instr renaming typeAssert→zJ
open Go.IntKind renaming u8→zG
open ByteArray renaming mk→zF
open List renaming drop_of_length_le→zH,isPrefixOf→zO,all_append→zP
open Go renaming method→zL
open Go.Proofs.Tryz
namespace Go.Proofs.YthpldolmpinnhaaGreatDoor
open Go Go.RowKit Go.Extern.Stop Go.Stop Go.Extern
set_option maxRecDepth 10000
abbrev uo(t:Nat):Value := .pointer (some ⟨12,t,none⟩)
theorem rlm(z:Sem Value)(f:TypeId->Addr->Nat->Nat->Sem Value)(v:Value) :
  ReflectliteValue.method z f #[v]=(do match <-ReflectliteValue.parts v with|none=>z|some (t,a,fl)=>f t a fl (fl % 32)):=rfl
theorem rls(v x:Value):ReflectliteValue.set #[v,x]=(do
  let (some (dst,a,fl),some (src,b,_)):=(<-ReflectliteValue.parts v,<-ReflectliteValue.parts x)
   | unsupported (.noEntry "extern/(internal/reflectlite.Value).Set.zeroValue")
  if fl / ReflectliteValue.flagAddr % 2==0 then unsupported (.noEntry "extern/(internal/reflectlite.Value).Set.unaddressable")
  let val <-loadVar src b
  if <-Rtype.directlyAssignable dst src then storeVar dst a val
  else if <-Rtype.implements dst src then
   if (<-Rtype.kind src)==20 then
    match val with
    | .nilIface=>unsupported (.noEntry "extern/reflectlite: a nil value of one interface type handed on as a value of another")
    | _=>storeVar dst a val
   else storeVar dst a (.iface src val)
  else panicString ("reflectlite.Set: value of type " ++ (<-Rtype.spelt src) ++ " is not assignable to type " ++ (<-Rtype.spelt dst))
  pure (.tuple #[])):=rfl
theorem UY(h:Value)(w:World):(zL 516 231 (.agg #[h]) "Kind").run prog w = .ok (300,h) w:=by kernel_rfl
theorem UX(h:Value)(w:World):(zL 516 231 (.agg #[h]) "Elem").run prog w = .ok (316,.agg #[h]) w:=by kernel_rfl
theorem fP(h:Value)(w:World):(zL 516 231 (.agg #[h]) "Implements").run prog w = .ok (317,.agg #[h]) w:=by kernel_rfl
theorem gg(h:Value)(w:World):(zL 516 231 (.agg #[h]) "AssignableTo").run prog w = .ok (314,.agg #[h]) w:=by kernel_rfl
theorem Bi(t:Addr)(w:World):(ReflectliteValue.unpack (.iface 103 (.pointer (some t)))).run prog w
  = .ok (.agg #[uo 103,.pointer (some ⟨w.heap.size,0,none⟩),.int .u64 150]) (w.alloc (.cells #[.pointer (some t)] 103)):=by kernel_rfl
theorem cS(a:Addr)(w:World):(ReflectliteValue.methodAny (ReflectliteValue.valueError "reflectlite.Value.Type" 0) (fun t _ _ _=>ReflectliteType.toType t) #[.agg #[uo 103,.pointer (some a),.int .u64 150]]).run prog w
  = .ok (.iface 231 (.agg #[uo 103])) w:=by kernel_rfl
theorem RH(w:World):((ReflectliteType.abiMethod fun t=>(fun a:Nat=>zD zG (a:Int)) <$> Rtype.kind t) #[uo 103]).run prog w = .ok (.int .u8 22) w:=by kernel_rfl
theorem RI(w:World):((ReflectliteType.abiMethod fun t=>(fun a:Nat=>zD zG (a:Int)) <$> Rtype.kind t) #[uo 101]).run prog w = .ok (.int .u8 22) w:=by kernel_rfl
theorem RL(a:Addr)(w:World):(ReflectliteValue.parts (.agg #[uo 103,.pointer (some a),.int .u64 150])).run prog w = .ok (some (103,a,150)) w:=by kernel_rfl
theorem RM(a p:Addr)(W:World)(ha:W.cell? a=some (.pointer (some p))) :
  (ReflectliteValue.method (ReflectliteValue.valueError "reflectlite.Value.IsNil" 0) ReflectliteValue.isNil #[.agg #[uo 103,.pointer (some a),.int .u64 150]]).run prog W = .ok (.bool false) W:=by
 rw[rlm];simp only[zZ,RL,zy];simp[ReflectliteValue.isNil,loadVar,isAgg,underlying,underlying103,ha,zy]
theorem cT(w:World):(ReflectliteType.method ReflectliteType.elem #[.agg #[uo 103]]).run prog w = .ok (.iface 231 (.agg #[uo 101])) w:=by kernel_rfl
theorem cr(w:World):(ReflectliteType.relation "Implements" ReflectliteType.implements_ #[.agg #[uo 101],.iface 231 (.agg #[uo 73])]).run prog w = .ok (.bool true) w:=by kernel_rfl
theorem ey(w:World):(Rtype.elem? 103).run prog w = .ok (some 101) w:=by kernel_rfl
theorem ybv(p:Addr)(w:World):(ReflectliteValue.mk 101 p ReflectliteValue.flagAddr).run prog w = .ok (.agg #[uo 101,.pointer (some p),.int .u64 406]) w:=by kernel_rfl
theorem r8(a p:Addr)(W:World)(ha:W.cell? a=some (.pointer (some p))) :
  (ReflectliteValue.method (ReflectliteValue.valueError "reflectlite.Value.Elem" 0) ReflectliteValue.elem #[.agg #[uo 103,.pointer (some a),.int .u64 150]]).run prog W
   = .ok (.agg #[uo 101,.pointer (some p),.int .u64 406]) W:=by
 rw[rlm];simp only[zZ,RL,zy];simp[ReflectliteValue.elem,loadVar,isAgg,underlying,underlying103,ha,zy,ey,ybv]
theorem eu(a:Addr)(w:World):(ReflectliteValue.parts (.agg #[uo 101,.pointer (some a),.int .u64 406])).run prog w = .ok (some (101,a,406)) w:=by kernel_rfl
theorem TC(t:Addr)(w:World):(ReflectliteValue.unpack (.iface 106 (.pointer (some t)))).run prog w
  = .ok (.agg #[uo 106,.pointer (some ⟨w.heap.size,0,none⟩),.int .u64 150]) (w.alloc (.cells #[.pointer (some t)] 106)):=by kernel_rfl
theorem zk3(a:Addr)(w:World):(ReflectliteValue.methodAny (ReflectliteValue.valueError "reflectlite.Value.Type" 0) (fun t _ _ _=>ReflectliteType.toType t) #[.agg #[uo 106,.pointer (some a),.int .u64 150]]).run prog w
  = .ok (.iface 231 (.agg #[uo 106])) w:=by kernel_rfl
theorem r9(w:World):((ReflectliteType.abiMethod fun t=>(fun a:Nat=>zD zG (a:Int)) <$> Rtype.kind t) #[uo 106]).run prog w = .ok (.int .u8 22) w:=by kernel_rfl
theorem rz(w:World):((ReflectliteType.abiMethod fun t=>(fun a:Nat=>zD zG (a:Int)) <$> Rtype.kind t) #[uo 33]).run prog w = .ok (.int .u8 2) w:=by kernel_rfl
theorem RN(a:Addr)(w:World):(ReflectliteValue.parts (.agg #[uo 106,.pointer (some a),.int .u64 150])).run prog w = .ok (some (106,a,150)) w:=by kernel_rfl
theorem ry(a p:Addr)(W:World)(ha:W.cell? a=some (.pointer (some p))) :
  (ReflectliteValue.method (ReflectliteValue.valueError "reflectlite.Value.IsNil" 0) ReflectliteValue.isNil #[.agg #[uo 106,.pointer (some a),.int .u64 150]]).run prog W = .ok (.bool false) W:=by
 rw[rlm];simp only[zZ,RN,zy];simp[ReflectliteValue.isNil,loadVar,isAgg,underlying,underlying106,ha,zy]
theorem zk4(w:World):(ReflectliteType.method ReflectliteType.elem #[.agg #[uo 106]]).run prog w = .ok (.iface 231 (.agg #[uo 33])) w:=by kernel_rfl
theorem zk5(w:World):(ReflectliteType.relation "Implements" ReflectliteType.implements_ #[.agg #[uo 33],.iface 231 (.agg #[uo 73])]).run prog w = .ok (.bool true) w:=by kernel_rfl
theorem ej(w:World):(Rtype.elem? 106).run prog w = .ok (some 33) w:=by kernel_rfl
theorem ybu(p:Addr)(w:World):(ReflectliteValue.mk 33 p ReflectliteValue.flagAddr).run prog w = .ok (.agg #[uo 33,.pointer (some p),.int .u64 386]) w:=by kernel_rfl
theorem ru(a p:Addr)(W:World)(ha:W.cell? a=some (.pointer (some p))) :
  (ReflectliteValue.method (ReflectliteValue.valueError "reflectlite.Value.Elem" 0) ReflectliteValue.elem #[.agg #[uo 106,.pointer (some a),.int .u64 150]]).run prog W
   = .ok (.agg #[uo 33,.pointer (some p),.int .u64 386]) W:=by
 rw[rlm];simp only[zZ,RN,zy];simp[ReflectliteValue.elem,loadVar,isAgg,underlying,underlying106,ha,zy,ej,ybu]
theorem eg(a:Addr)(w:World):(ReflectliteValue.parts (.agg #[uo 33,.pointer (some a),.int .u64 386])).run prog w = .ok (some (33,a,386)) w:=by kernel_rfl
theorem ef(v:Value)(w:World):(ReflectliteType.typeOf #[.iface 101 v]).run prog w = .ok (.iface 231 (.agg #[uo 101])) w:=by kernel_rfl
theorem ed(w:World):(ReflectliteType.relation "AssignableTo" ReflectliteType.assignableTo #[.agg #[uo 101],.iface 231 (.agg #[uo 101])]).run prog w = .ok (.bool true) w:=by kernel_rfl
theorem OH(e:Addr)(w:World):(ReflectliteValue.unpack (.iface 101 (.pointer (some e)))).run prog w
  = .ok (.agg #[uo 101,.pointer (some ⟨w.heap.size,0,none⟩),.int .u64 150]) (w.alloc (.cells #[.pointer (some e)] 101)):=by kernel_rfl
theorem eZ(a:Addr)(w:World):(ReflectliteValue.parts (.agg #[uo 101,.pointer (some a),.int .u64 150])).run prog w = .ok (some (101,a,150)) w:=by kernel_rfl
theorem eY(w:World):(Rtype.directlyAssignable 101 101).run prog w = .ok true w:=by kernel_rfl
theorem znk(ta b:Addr)(e:Addr)(Pl:Value)(W:World)(hb:W.cell? b=some (.pointer (some e)))(ht:W.cell? ta=some Pl)(hf:W.frozen? ta=false) :
  (ReflectliteValue.set #[.agg #[uo 101,.pointer (some ta),.int .u64 406],.agg #[uo 101,.pointer (some b),.int .u64 150]]).run prog W
   = .ok (.tuple #[]) (W.setCell ta (.pointer (some e))):=by
 rw[rls];simp only[zZ,eu,eZ,zy];simp[ReflectliteValue.flagAddr,loadVar,isAgg,underlying,underlying101,hb,zy,eY,storeVar,Value.cells,storeCells,Addr.add];rw[run_store prog W ta _ _ (by rfl)];simp[ht,hf]
theorem LU(v:Value)(w:World):(ReflectliteType.typeOf #[.iface 33 v]).run prog w = .ok (.iface 231 (.agg #[uo 33])) w:=by kernel_rfl
theorem eX(w:World):(ReflectliteType.relation "AssignableTo" ReflectliteType.assignableTo #[.agg #[uo 33],.iface 231 (.agg #[uo 33])]).run prog w = .ok (.bool true) w:=by kernel_rfl
theorem OI(e:Int)(w:World):(ReflectliteValue.unpack (.iface 33 (.int .i64 e))).run prog w
  = .ok (.agg #[uo 33,.pointer (some ⟨w.heap.size,0,none⟩),.int .u64 130]) (w.alloc (.cells #[.int .i64 e] 33)):=by kernel_rfl
theorem eV(a:Addr)(w:World):(ReflectliteValue.parts (.agg #[uo 33,.pointer (some a),.int .u64 130])).run prog w = .ok (some (33,a,130)) w:=by kernel_rfl
theorem eU(w:World):(Rtype.directlyAssignable 33 33).run prog w = .ok true w:=by kernel_rfl
theorem znj(ta b:Addr)(e:Int)(Pl:Value)(W:World)(hb:W.cell? b=some (.int .i64 e))(ht:W.cell? ta=some Pl)(hf:W.frozen? ta=false) :
  (ReflectliteValue.set #[.agg #[uo 33,.pointer (some ta),.int .u64 386],.agg #[uo 33,.pointer (some b),.int .u64 130]]).run prog W
   = .ok (.tuple #[]) (W.setCell ta (.int .i64 e)):=by
 rw[rls];simp only[zZ,eg,eV,zy];simp[ReflectliteValue.flagAddr,loadVar,isAgg,underlying,underlying33,hb,zy,eU,storeVar,Value.cells,storeCells,Addr.add];rw[run_store prog W ta _ _ (by rfl)];simp[ht,hf]
theorem LQ(w:World):(ReflectliteType.relation "AssignableTo" ReflectliteType.assignableTo #[.agg #[uo 33],.iface 231 (.agg #[uo 101])]).run prog w = .ok (.bool false) w:=by kernel_rfl
theorem zk6(v:Value)(xT:TypeId)(w:World):(zJ (.iface 33 v) xT 236 true).run prog w = .ok (.tuple #[.nilIface,.bool false]) w:=run_typeAssert_lacksB underlying236 (by kernel_rfl) (by kernel_rfl) v xT w
theorem OL(v:Value)(xT:TypeId)(w:World):(zJ (.iface 33 v) xT 239 true).run prog w = .ok (.tuple #[.nilIface,.bool false]) w:=run_typeAssert_lacksB underlying239 (by kernel_rfl) (by kernel_rfl) v xT w
theorem LK(v:Value)(xT:TypeId)(w:World):(zJ (.iface 33 v) xT 241 true).run prog w = .ok (.tuple #[.nilIface,.bool false]) w:=run_typeAssert_lacksB underlying241 (by kernel_rfl) (by kernel_rfl) v xT w
theorem eQ(e t:Addr)(Pl:Value)(w:World)(hg:w.cell? ⟨1,0,none⟩=some (.iface 231 (.agg #[uo 73])))(R5:w.cell? t=some Pl)(R4:w.frozen? t=false) :
  Calls prog 46 #[.iface 101 (.pointer (some e)),.iface 103 (.pointer (some t))] w fun ev w'=>ev = .returned (.bool true)/\∃ o1 o2 o3 o4:Obj,w'=((((w.alloc o1).alloc o2).alloc o3).alloc o4).setCell t (.pointer (some e)):=by
 have h0:=@run_callFunc_extern prog 74 _ (fun args=>ReflectliteValue.unpack (args.getD 0 (.tuple #[]))) func74 (by kernel_rfl) (by kernel_rfl) (by kernel_rfl) (by kernel_rfl);have h1:=@run_callFunc_extern prog 75 _ (ReflectliteValue.methodAny (ReflectliteValue.valueError "reflectlite.Value.Type" 0) (fun t _ _ _=>ReflectliteType.toType t)) func75 (by kernel_rfl) (by kernel_rfl) (by kernel_rfl) (by kernel_rfl);have h2:=@run_callFunc_extern prog 76 _ (ReflectliteValue.method (ReflectliteValue.valueError "reflectlite.Value.IsNil" 0) ReflectliteValue.isNil) func76 (by kernel_rfl) (by kernel_rfl) (by kernel_rfl) (by kernel_rfl);have h3:=@run_callFunc_extern prog 300 _ (ReflectliteType.abiMethod fun t=>do pure (.int .u8 (<-Rtype.kind t))) func300 (by kernel_rfl) (by kernel_rfl) (by kernel_rfl) (by kernel_rfl);have h4:=@run_callFunc_extern prog 316 _ (ReflectliteType.method ReflectliteType.elem) func316 (by kernel_rfl) (by kernel_rfl) (by kernel_rfl) (by kernel_rfl);have h5:=@run_callFunc_extern prog 317 _ (ReflectliteType.relation "Implements" ReflectliteType.implements_) func317 (by kernel_rfl) (by kernel_rfl) (by kernel_rfl) (by kernel_rfl);have h6:=@run_callFunc_extern prog 106 _ (ReflectliteType.typeOf) func106 (by kernel_rfl) (by kernel_rfl) (by kernel_rfl) (by kernel_rfl);have h7:=@run_callFunc_extern prog 314 _ (ReflectliteType.relation "AssignableTo" ReflectliteType.assignableTo) func314 (by kernel_rfl) (by kernel_rfl) (by kernel_rfl) (by kernel_rfl);have h8:=@run_callFunc_extern prog 107 _ (ReflectliteValue.method (ReflectliteValue.valueError "reflectlite.Value.Elem" 0) ReflectliteValue.elem) func107 (by kernel_rfl) (by kernel_rfl) (by kernel_rfl) (by kernel_rfl);have h9:=@run_callFunc_extern prog 108 _ (ReflectliteValue.set) func108 (by kernel_rfl) (by kernel_rfl) (by kernel_rfl) (by kernel_rfl);have mK:=UY;have mE:=UX;have mI:=fP;have mA:=gg;have f1:=Bi;have f2:=cS;have f3:=RH;have f4:=RI;have f5:=cT;have f6:=cr;have n8:=RM ⟨w.heap.size,0,none⟩ t ((w.alloc (.cells #[.pointer (some t)] 103)).alloc (.cells #[uo 103,.pointer (some ⟨w.heap.size,0,none⟩),.int .u64 150] 162)) (by simp);have xB:1<w.heap.size:=by
  rcases zY 1 w.heap.size with h|h
  .exact h
  .exfalso;rw[zV,zu h] at hg
   cases hg
 have je:((w.alloc (.cells #[.pointer (some t)] 103)).alloc (.cells #[uo 103,.pointer (some ⟨w.heap.size,0,none⟩),.int .u64 150] 162)).cell? ⟨1,0,none⟩=some (.iface 231 (.agg #[uo 73])):=by
  rw[z7 _ _ ⟨1,0,none⟩ (by simp<;>omega),z7 _ _ ⟨1,0,none⟩ xB];exact hg
 have G7:t.block<w.heap.size:=by
  rcases zY t.block w.heap.size with h|h
  .exact h
  .simp[zV,zu h] at R5
 have el:=r8 ⟨w.heap.size,0,none⟩ t (((w.alloc (.cells #[.pointer (some t)] 103)).alloc (.cells #[uo 103,.pointer (some ⟨w.heap.size,0,none⟩),.int .u64 150] 162)).alloc (.cells #[uo 103,.pointer (some ⟨w.heap.size,0,none⟩),.int .u64 150] 162)) (by rw[z7 _ _ ⟨w.heap.size,0,none⟩ (by simp;omega)];simp);have tO:=ef;have aT:=ed;have vT:=OH;have st:=znk t ⟨w.heap.size+1+1+1,0,none⟩ e Pl ((((w.alloc (.cells #[.pointer (some t)] 103)).alloc (.cells #[uo 103,.pointer (some ⟨w.heap.size,0,none⟩),.int .u64 150] 162)).alloc (.cells #[uo 103,.pointer (some ⟨w.heap.size,0,none⟩),.int .u64 150] 162)).alloc (.cells #[.pointer (some e)] 101))
  (by rw[zI _ _ _ _ (by simp)];rfl)
  (by rw[z7 _ _ t (by simp;omega),z7 _ _ t (by simp;omega),z7 _ _ t (by simp;omega),z7 _ _ t G7];exact R5)
  (by rw[z8 _ _ t (by simp;omega),z8 _ _ t (by simp;omega),z8 _ _ t (by simp;omega),z8 _ _ t (Nat.ne_of_lt G7)];exact R4)
 go_enter func46,ntmps46;go_wp2;refine wp_loop_rounds 1 ?_;rw[rounds_succ];go_wp2;go_ret;exact⟨rfl,_,_,_,_,rfl⟩
theorem eK(e:Int)(t:Addr)(Pl:Value)(w:World)(hg:w.cell? ⟨1,0,none⟩=some (.iface 231 (.agg #[uo 73])))(R5:w.cell? t=some Pl)(R4:w.frozen? t=false) :
  Calls prog 46 #[.iface 33 (.int .i64 e),.iface 106 (.pointer (some t))] w fun ev w'=>ev = .returned (.bool true)/\∃ o1 o2 o3 o4:Obj,w'=((((w.alloc o1).alloc o2).alloc o3).alloc o4).setCell t (.int .i64 e):=by
 have h0:=@run_callFunc_extern prog 74 _ (fun args=>ReflectliteValue.unpack (args.getD 0 (.tuple #[]))) func74 (by kernel_rfl) (by kernel_rfl) (by kernel_rfl) (by kernel_rfl);have h1:=@run_callFunc_extern prog 75 _ (ReflectliteValue.methodAny (ReflectliteValue.valueError "reflectlite.Value.Type" 0) (fun t _ _ _=>ReflectliteType.toType t)) func75 (by kernel_rfl) (by kernel_rfl) (by kernel_rfl) (by kernel_rfl);have h2:=@run_callFunc_extern prog 76 _ (ReflectliteValue.method (ReflectliteValue.valueError "reflectlite.Value.IsNil" 0) ReflectliteValue.isNil) func76 (by kernel_rfl) (by kernel_rfl) (by kernel_rfl) (by kernel_rfl);have h3:=@run_callFunc_extern prog 300 _ (ReflectliteType.abiMethod fun t=>do pure (.int .u8 (<-Rtype.kind t))) func300 (by kernel_rfl) (by kernel_rfl) (by kernel_rfl) (by kernel_rfl);have h4:=@run_callFunc_extern prog 316 _ (ReflectliteType.method ReflectliteType.elem) func316 (by kernel_rfl) (by kernel_rfl) (by kernel_rfl) (by kernel_rfl);have h5:=@run_callFunc_extern prog 317 _ (ReflectliteType.relation "Implements" ReflectliteType.implements_) func317 (by kernel_rfl) (by kernel_rfl) (by kernel_rfl) (by kernel_rfl);have h6:=@run_callFunc_extern prog 106 _ (ReflectliteType.typeOf) func106 (by kernel_rfl) (by kernel_rfl) (by kernel_rfl) (by kernel_rfl);have h7:=@run_callFunc_extern prog 314 _ (ReflectliteType.relation "AssignableTo" ReflectliteType.assignableTo) func314 (by kernel_rfl) (by kernel_rfl) (by kernel_rfl) (by kernel_rfl);have h8:=@run_callFunc_extern prog 107 _ (ReflectliteValue.method (ReflectliteValue.valueError "reflectlite.Value.Elem" 0) ReflectliteValue.elem) func107 (by kernel_rfl) (by kernel_rfl) (by kernel_rfl) (by kernel_rfl);have h9:=@run_callFunc_extern prog 108 _ (ReflectliteValue.set) func108 (by kernel_rfl) (by kernel_rfl) (by kernel_rfl) (by kernel_rfl);have mK:=UY;have mE:=UX;have mI:=fP;have mA:=gg;have f1:=TC;have f2:=zk3;have f3:=r9;have f4:=rz;have f5:=zk4;have f6:=zk5;have n8:=ry ⟨w.heap.size,0,none⟩ t ((w.alloc (.cells #[.pointer (some t)] 106)).alloc (.cells #[uo 106,.pointer (some ⟨w.heap.size,0,none⟩),.int .u64 150] 162)) (by simp);have xB:1<w.heap.size:=by
  rcases zY 1 w.heap.size with h|h
  .exact h
  .exfalso;rw[zV,zu h] at hg
   cases hg
 have je:((w.alloc (.cells #[.pointer (some t)] 106)).alloc (.cells #[uo 106,.pointer (some ⟨w.heap.size,0,none⟩),.int .u64 150] 162)).cell? ⟨1,0,none⟩=some (.iface 231 (.agg #[uo 73])):=by
  rw[z7 _ _ ⟨1,0,none⟩ (by simp<;>omega),z7 _ _ ⟨1,0,none⟩ xB];exact hg
 have G7:t.block<w.heap.size:=by
  rcases zY t.block w.heap.size with h|h
  .exact h
  .simp[zV,zu h] at R5
 have el:=ru ⟨w.heap.size,0,none⟩ t (((w.alloc (.cells #[.pointer (some t)] 106)).alloc (.cells #[uo 106,.pointer (some ⟨w.heap.size,0,none⟩),.int .u64 150] 162)).alloc (.cells #[uo 106,.pointer (some ⟨w.heap.size,0,none⟩),.int .u64 150] 162)) (by rw[z7 _ _ ⟨w.heap.size,0,none⟩ (by simp;omega)];simp);have tO:=LU;have aT:=eX;have vT:=OI;have st:=znj t ⟨w.heap.size+1+1+1,0,none⟩ e Pl ((((w.alloc (.cells #[.pointer (some t)] 106)).alloc (.cells #[uo 106,.pointer (some ⟨w.heap.size,0,none⟩),.int .u64 150] 162)).alloc (.cells #[uo 106,.pointer (some ⟨w.heap.size,0,none⟩),.int .u64 150] 162)).alloc (.cells #[.int .i64 e] 33))
  (by rw[zI _ _ _ _ (by simp)];rfl)
  (by rw[z7 _ _ t (by simp;omega),z7 _ _ t (by simp;omega),z7 _ _ t (by simp;omega),z7 _ _ t G7];exact R5)
  (by rw[z8 _ _ t (by simp;omega),z8 _ _ t (by simp;omega),z8 _ _ t (by simp;omega),z8 _ _ t (Nat.ne_of_lt G7)];exact R4)
 go_enter func46,ntmps46;go_wp2;refine wp_loop_rounds 1 ?_;rw[rounds_succ];go_wp2;go_ret;exact⟨rfl,_,_,_,_,rfl⟩
theorem rq(e:Int)(t:Addr)(Pl:Value)(w:World)(hg:w.cell? ⟨1,0,none⟩=some (.iface 231 (.agg #[uo 73])))(R5:w.cell? t=some Pl)(R4:w.frozen? t=false) :
  Calls prog 46 #[.iface 33 (.int .i64 e),.iface 103 (.pointer (some t))] w fun ev w'=>ev = .returned (.bool false)/\∃ o1 o2 o3:Obj,w'=((w.alloc o1).alloc o2).alloc o3:=by
 have h0:=@run_callFunc_extern prog 74 _ (fun args=>ReflectliteValue.unpack (args.getD 0 (.tuple #[]))) func74 (by kernel_rfl) (by kernel_rfl) (by kernel_rfl) (by kernel_rfl);have h1:=@run_callFunc_extern prog 75 _ (ReflectliteValue.methodAny (ReflectliteValue.valueError "reflectlite.Value.Type" 0) (fun t _ _ _=>ReflectliteType.toType t)) func75 (by kernel_rfl) (by kernel_rfl) (by kernel_rfl) (by kernel_rfl);have h2:=@run_callFunc_extern prog 76 _ (ReflectliteValue.method (ReflectliteValue.valueError "reflectlite.Value.IsNil" 0) ReflectliteValue.isNil) func76 (by kernel_rfl) (by kernel_rfl) (by kernel_rfl) (by kernel_rfl);have h3:=@run_callFunc_extern prog 300 _ (ReflectliteType.abiMethod fun t=>do pure (.int .u8 (<-Rtype.kind t))) func300 (by kernel_rfl) (by kernel_rfl) (by kernel_rfl) (by kernel_rfl);have h4:=@run_callFunc_extern prog 316 _ (ReflectliteType.method ReflectliteType.elem) func316 (by kernel_rfl) (by kernel_rfl) (by kernel_rfl) (by kernel_rfl);have h5:=@run_callFunc_extern prog 317 _ (ReflectliteType.relation "Implements" ReflectliteType.implements_) func317 (by kernel_rfl) (by kernel_rfl) (by kernel_rfl) (by kernel_rfl);have h6:=@run_callFunc_extern prog 106 _ (ReflectliteType.typeOf) func106 (by kernel_rfl) (by kernel_rfl) (by kernel_rfl) (by kernel_rfl);have h7:=@run_callFunc_extern prog 314 _ (ReflectliteType.relation "AssignableTo" ReflectliteType.assignableTo) func314 (by kernel_rfl) (by kernel_rfl) (by kernel_rfl) (by kernel_rfl);have h8:=@run_callFunc_extern prog 107 _ (ReflectliteValue.method (ReflectliteValue.valueError "reflectlite.Value.Elem" 0) ReflectliteValue.elem) func107 (by kernel_rfl) (by kernel_rfl) (by kernel_rfl) (by kernel_rfl);have h9:=@run_callFunc_extern prog 108 _ (ReflectliteValue.set) func108 (by kernel_rfl) (by kernel_rfl) (by kernel_rfl) (by kernel_rfl);have mK:=UY;have mE:=UX;have mI:=fP;have mA:=gg;have f1:=Bi;have f2:=cS;have f3:=RH;have f4:=RI;have f5:=cT;have f6:=cr;have n8:=RM ⟨w.heap.size,0,none⟩ t ((w.alloc (.cells #[.pointer (some t)] 103)).alloc (.cells #[uo 103,.pointer (some ⟨w.heap.size,0,none⟩),.int .u64 150] 162)) (by simp);have xB:1<w.heap.size:=by
  rcases zY 1 w.heap.size with h|h
  .exact h
  .exfalso;rw[zV,zu h] at hg
   cases hg
 have je:((w.alloc (.cells #[.pointer (some t)] 103)).alloc (.cells #[uo 103,.pointer (some ⟨w.heap.size,0,none⟩),.int .u64 150] 162)).cell? ⟨1,0,none⟩=some (.iface 231 (.agg #[uo 73])):=by
  rw[z7 _ _ ⟨1,0,none⟩ (by simp<;>omega),z7 _ _ ⟨1,0,none⟩ xB];exact hg
 have G7:t.block<w.heap.size:=by
  rcases zY t.block w.heap.size with h|h
  .exact h
  .simp[zV,zu h] at R5
 have tO:=LU;have aT:=LQ;have n1:=zk6;have n2:=OL;have n3:=LK;go_enter func46,ntmps46;go_wp2;refine wp_loop_rounds 1 ?_;rw[rounds_succ];go_wp2;go_ret;exact⟨rfl,_,_,_,rfl⟩
end Go.Proofs.YthpldolmpinnhaaGreatDoor
namespace Go.Proofs.YthpldolmpinnhaaGreatDoor
open Go Go.RowKit
set_option maxRecDepth 10000
def QG(w:World):Prop:=w.cell? ⟨1,0,none⟩=some (.iface 231 (.agg #[uo 73]))
theorem QG.below{w w':World}(h:QG w)(hb:Below w.heap.size w w'):QG w':=by
 have xB:=World.block_lt_of_cell? w _ h;unfold QG;rw[hb.cell (p:=⟨1,0,none⟩) xB];exact h
def TE(n:Int):Value:=if n=0 then .nilIface else .iface 33 (.int .i64 n)
def Xi(n at_:Int)(w:World)(e:Ending)(w':World):Prop:=e = .returned (.tuple #[.int .i64 n,.int .i64 at_])/\Below w.heap.size w w'
theorem QF(w:World):Calls prog 30 #[.nilIface] w (Xi 0 0 w):=by
 go_enter func30,ntmps30;go_wp2;go_ret2
 exact⟨rfl,((zv _ _).alloc (zf _) _).alloc (by simp) _⟩
theorem eJ(n:Int)(w:World)(hE:QG w):Calls prog 30 #[.iface 33 (.int .i64 n)] w (Xi n 0 w):=by
 have HE:=zx hE;clear hE;go_enter func30,ntmps30;go_wp2_with fail;refine vB ?_;intro W hW;have hb:Below w.heap.size w W:=by rw[hW];exact((zv _ _).alloc (zf _) _).alloc (by simp) _
 have hz:w.heap.size+2<=W.heap.size:=by rw[hW];simp
 have hA:W.cell? ⟨w.heap.size,0,none⟩=some (.pointer none)/\W.frozen? ⟨w.heap.size,0,none⟩=false:=by rw[hW];constructor<;>go_simp
 have hB:W.cell? ⟨w.heap.size+1,0,none⟩=some (.int .i64 0)/\W.frozen? ⟨w.heap.size+1,0,none⟩=false:=by rw[hW];constructor<;>go_simp
 clear hW;refine(rq n ⟨w.heap.size,0,none⟩ _ W (HE.out.below hb) hA.1 hA.2).mono ?_;rintro e w1 ⟨rfl,o1,o2,o3,SK⟩;have xG:Below W.heap.size W w1:=by rw[SK];exact(((zv _ _).alloc (zf _) _).alloc (by simp) _).alloc (by simp;omega) _
 have XF:w1.cell? ⟨w.heap.size+1,0,none⟩=some (.int .i64 0)/\w1.frozen? ⟨w.heap.size+1,0,none⟩=false :=
  ⟨by rw[xG.cell (by simp;omega)];exact hB.1,by rw[xG.frozen (by simp;omega)];exact hB.2⟩
 have uv:=hb.trans (xG.mono (by omega));have Qv:w.heap.size+2<=w1.heap.size:=by have:=xG.size;omega
 clear SK hA hB xG hz;go_wp2_with fail;refine(eK n ⟨w.heap.size+1,0,none⟩ _ w1 (HE.out.below uv) XF.1 XF.2).mono ?_;rintro e w2 ⟨rfl,p1,p2,p3,p4,K7⟩;have xJ:Below (w.heap.size+1) w1 w2:=by rw[K7];exact(((((zv _ _).alloc (by omega) _).alloc (by simp;omega) _).alloc (by simp;omega) _).alloc (by simp;omega) _).setCell (by simp) _
 have uG:=uv.trans (xJ.mono (by omega));have hC:w2.cell? ⟨w.heap.size+1,0,none⟩=some (.int .i64 n):=by
  rw[K7,xk,if_pos rfl];rw[z7 _ _ _ (by simp;omega),z7 _ _ _ (by simp;omega),z7 _ _ _ (by simp;omega),z7 _ _ _ (by show w.heap.size+1<_;omega),XF.1];rfl
 clear K7 xJ XF;go_wp2;go_ret2
 exact⟨rfl,uG⟩
theorem OM(n:Int)(w:World)(hE:QG w):Calls prog 30 #[TE n] w (Xi n 0 w):=by
 unfold TE;by_cases h:n=0
 .subst h;rw[if_pos rfl];exact QF w
 .rw[if_neg h];exact eJ n w hE
theorem QD(c:UInt8):∀ l:List UInt8,Lib.indexByte l c=if l.idxOf c<l.length then ((l.idxOf c:Nat):Int) else -1
 | []=>rfl
 | b::l=>by
  have ih:=QD c l;rw[Lib.indexByte,ih,List.idxOf_cons];by_cases h:b==c
  .simp[h]
  .simp only[h,cond_false,List.length_cons];by_cases h2:l.idxOf c<l.length
   .rw[if_pos h2,if_pos (show l.idxOf c+1<l.length+1 by omega)];have h3:(((l.idxOf c:Nat):Int)==-1)=false:=by rw[beq_eq_false_iff_ne];omega
    rw[h3];simp
   .rw[if_neg h2,if_neg (show ¬(l.idxOf c+1<l.length+1) by omega)];simp
theorem JX(s:ByteArray)(c:UInt8)(w:World)(hs:s.size<=1000000) :
  Calls prog 101 #[.string s,.string ⟨#[c]⟩] w fun e w' =>
   e = .returned (.tuple #[.string ⟨(s.data.toList.take (s.data.toList.idxOf c)).toArray⟩,.string ⟨(s.data.toList.drop (s.data.toList.idxOf c+1)).toArray⟩,.bool (decide (s.data.toList.idxOf c<s.size))])/\∃ n,w'=w.drewN n:=by
 have hx:=QD c s.data.toList;rw[xc] at hx;have HX:=zx hx;clear hx;go_enter func101,ntmps101;go_wp2_with fail;refine(Tryz.stringslite_Index_one s c _).mono ?_;rw[HX.out];rintro e w' ⟨rfl,rfl⟩;by_cases xB:s.data.toList.idxOf c<s.size
 .rw[if_pos xB];generalize hk:s.data.toList.idxOf c=k at xB;have HK:=zx hk;clear hk;have hr:(k+1:Nat)<=s.size:=xB;go_wp2_with fail;go_quiet (fail)
  go_wp2;go_ret3
  rw[qE,qH,HK.out];exact⟨by simp[xB],nq,rfl⟩
 .rw[if_neg xB];have hi:s.data.toList.idxOf c=s.size:=by have:=List.idxOf_le_length (a:=c) (l:=s.data.toList);simp only[xc] at this;omega
  have Hi:=zx hi;clear hi xB;go_wp2;go_ret3
  rw[Hi.out,GX,Sg,zH (by simp)];exact⟨by simp,0,rfl⟩
theorem eG{w:World}{base size n:Nat}{e:TypeId}{v:Value}{xs:List Value}(h:w.ownsRow base e size v n xs):∃ a m k,v = .slice a m k:=by
 obtain⟨a,cap,hv⟩:=xf h;exact⟨a,n,cap,hv⟩
def rj(l:List UInt8)(w:World)(e:Ending)(w':World):Prop :=
 ∃ (b:Bool) (v:Value) (k:Int),e = .returned (.tuple #[.agg #[.bool b,v,.int .i64 k],.bool (uB l)])/\(∃ a n k',v = .slice a n k')/\Below w.heap.size w w' /\
  (uB l=true->b=YA l/\k=((u9 l).length:Int)/\w'.ownsRow w.heap.size 5 1 v ((vN l).length+(u9 l).length) (vz (vN l++u9 l)))
theorem ON(s:ByteArray)(l:List UInt8)(hl:s.data.toList=l)(w:World)(hs:s.size<=1000000) :
  Calls prog 66 #[.string s,.string ⟨#[46]⟩] w fun e w' =>
   e = .returned (.tuple #[xg (l.take (l.idxOf 46)),xg (l.drop (l.idxOf 46+1)),.bool (decide (l.idxOf 46<l.length))])/\∃ n,w'=w.drewN n:=by
 subst hl;go_enter func66,ntmps66;go_wp2_with fail;refine(JX s 46 _ hs).mono ?_;rintro e w' ⟨rfl,n,rfl⟩;go_wp2;go_ret3
 exact⟨by rw[xc];rfl,n,rfl⟩
theorem TH(l:List UInt8):zQ l [45]=VM l/\zE l [45]=YA l:=by
 cases l with
 | nil=>exact⟨rfl,rfl⟩
 | cons x l =>
  by_cases h:x=45
  .subst h;simp[zQ,zE,VM,YA,zO]
  .have h2:((45:UInt8)==x)=false:=by rw[beq_eq_false_iff_ne];exact fun e=>h e.symm
   simp[zQ,zE,VM,YA,zO,h,h2]
theorem gp{w:World}{base base' size n:Nat}{e:TypeId}{v:Value}{xs:List Value}(h:w.ownsRow base e size v n xs)(hb:base'<=base):w.ownsRow base' e size v n xs :=
 ⟨h.1,h.2.imp id fun ⟨g,cap,cur,a,b,c⟩=>⟨g,cap,cur,a,Nat.le_trans hb b,c⟩⟩
def xl(l:List UInt8):List Int:=l.map fun c=>(c.toNat:Int) - 48
theorem zero_eq(l:List UInt8):(!(xl l).any (· != 0))=l.all (· == 48):=by
 induction l with
 | nil=>rfl
 | cons c l ih =>
  have h:(((c.toNat:Int) - 48) !=0) = !(c==48):=by
   have h2:=bK c 48;have h3:((48:UInt8).toNat:Int)=48:=rfl;rw[h3] at h2;by_cases h4:c=48
   .subst h4;rfl
   .have h5:(c==48)=false:=by simpa using h4
    rw[h5,zX,bne_iff_ne];intro h6;have h7:((c.toNat:Int)==48)=true:=by rw[beq_iff_eq];omega
    rw[h7] at h2;simp[h4] at h2
  simp only[xl,List.map_cons,List.any_cons,List.all_cons] at ih |-
  rw[h,<-ih];simp
theorem qO{w:World}{B n cap:Nat}{ad:Option Addr}{l:List UInt8}(h:w.ownsRow B 5 1 (.slice ad n cap) n (vz l))(hn:n=l.length):xK w ad (xl l):=by
 subst hn;intro j hj;have Iu:j<l.length:=by simpa[xl] using hj
 obtain⟨g,vw,hv,_,_,hc⟩:=vZ h (by omega)
 cases hv;refine⟨⟨g,0,none⟩,rfl,?_⟩;have:=hc j (by omega);rw[uR,this];simp[vz,xl,Iu]
theorem xK.set{w:World}{a:Option Addr}{l:List Int}(h:xK w a l){p:Addr}(hp:∀ b,a=some b->b.block≠p.block)(u:Value):xK (w.setCell p u) a l:=fun j hj=>by
 obtain⟨b,hb,hc⟩:=h j hj;refine⟨b,hb,?_⟩;rw[<-hc];exact World.cell?_of_block (zM _ _ _ _ (by rw[addr_add];exact hp b hb))
theorem KO(l:List UInt8)(n:Nat)(hn:n=l.length)(a:Option Addr)(c:Nat)(b:Bool)(sc:Int)(w:World)(hl:l.length<=1000000)(hc:xK w a (xl l)) :
  Calls prog 68 #[.agg #[.bool b,.slice a n c,.int .i64 sc]] w fun e w'=>e = .returned (.bool (l.all (· == 48)))/\Below w.heap.size w w':=by
 subst hn;have:=cY (xl l) a c b sc w (by simpa[xl] using hl) hc;rw[zero_eq] at this;simpa[xl] using this
theorem xp{w:World}{base size n:Nat}{e:TypeId}{v:Value}{xs:List Value}(h:w.ownsRow base e size v n xs){p:Addr}(hp:some p.block≠v.ownBlock)(u:Value):(w.setCell p u).ownsRow base e size v n xs :=
 h.kept (row:=some p.block) ⟨rfl,rfl,rfl,by simp,fun i _ vy=>zM _ _ _ _ (fun he=>vy (by rw[he]))⟩ (.inr (fun he=>hp he.symm))
theorem fR{w w':World}{base size n:Nat}{e:TypeId}{v:Value}{xs:List Value}(h:w.ownsRow base e size v n xs)(hb:Below w.heap.size w w'):w'.ownsRow base e size v n xs :=
 h.kept (row:=none) ⟨hb.os,hb.tape,hb.output,hb.size,fun i hi _=>hb.block i hi⟩ (by cases v.ownBlock<;>simp)
theorem eF{l wh fr:List UInt8}{pt:Bool}(hW:vN l=wh)(hF:u9 l=fr)(hP:Ya l=pt)(hN:pt=false->fr=[])(h:¬((wh++fr).all xF=true/\wh≠[]/\(pt=true->fr≠[])/\wh.length+fr.length<=30)):uB l=false:=by
 refine zq9 hW hF hP fun ⟨h1,h2,h3⟩=>h ⟨?_,?_,?_,h3⟩
 .simp only[vA,zN] at h1 h2;rw[zP,h1.1]
  cases pt with
  | false=>rw[hN rfl];rfl
  | true=>simp[(h2 rfl).1]
 .intro e;subst e;simp[vA] at h1
 .intro hp e;subst e;simp[vA] at h2;exact absurd hp (by simpa using h2)
theorem rf{l wh fr:List UInt8}{pt:Bool}(hW:vN l=wh)(hF:u9 l=fr)(hP:Ya l=pt)(h1:(wh++fr).all xF=true)(h2:wh≠[])(h3:pt=true->fr≠[])(h4:wh.length+fr.length<=30):QZ l=true:=by
 rw[zP,zN] at h1;refine pN hW hF hP (by simp[vA,h1.1,h2]) (fun hp=>by simp[vA,h1.2,h3 hp]) (by omega)
theorem Yq(s:ByteArray)(w:World)(hs:s.size<=1000000) :
  Calls prog 44 #[.string s] w (rj s.data.toList w):=by
 have hlen:(VM s.data.toList).length<=s.size:=by unfold VM;split<;>simp
 have hp:=TH s.data.toList;have oz:=zx hp;generalize uN:VM s.data.toList=al at hlen;have Hal:=zx uN;clear uN hp;go_enter func44,ntmps44;go_wp2_with fail;refine(Tryz.strings_CutPrefix s _ _).mono ?_;rintro e w' ⟨rfl,rfl⟩;have UP:zQ s.data.toList [45]=al:=oz.out.1.trans Hal.out;have kh:=oz.out.2;rw[show({ data:=#[45] }:ByteArray).data.toList=[45] from rfl,UP,kh];clear UP kh;generalize hbq:YA s.data.toList=b;have HB:=zx hbq;clear hbq;go_wp2_with fail;refine(ON _ al (toList_mk al) _ (by rw[size_mk];omega)).mono ?_;rintro e w' ⟨rfl,nq,rfl⟩;have Rj:(al.take (al.idxOf 46)).length+(al.drop (al.idxOf 46+1)).length<=s.size:=by simp;omega
 have hW:vN s.data.toList=al.take (al.idxOf 46):=by rw[vN,Hal.out]
 have hF:u9 s.data.toList=al.drop (al.idxOf 46+1):=by rw[u9,Hal.out]
 have hP:Ya s.data.toList=decide (al.idxOf 46<al.length):=by rw[Ya,Hal.out]
 have hN:decide (al.idxOf 46<al.length)=false->al.drop (al.idxOf 46+1)=[]:=by
  intro h;simp at h;exact zH (by omega)
 generalize al.take (al.idxOf 46)=wh at hW Rj |-
 generalize al.drop (al.idxOf 46+1)=fr at hF Rj hN |-
 generalize decide (al.idxOf 46<al.length)=pt at hP hN |-
 have HW:=zx hW;have HF:=zx hF;have HP:=zx hP;have HN:=zx hN;clear hW hF hP hN;go_wp2_with fail;refine(Ob _ _ (by first|(rw[Vu,size_mk];simp;omega)|simp;omega)).mono ?_;rw[Vu,toList_mk];rintro e w' ⟨hv,hb⟩;have qc:w.heap.size+1<=w'.heap.size:=by have:=hb.size;simpa using this
 have hB:Below w.heap.size w w':=(below_drewN ((zv _ _).alloc (zf _) _) nq).trans (hb.mono (by simp));have ff:w'.cell? ⟨w.heap.size,0,none⟩=some (.bool b):=by rw[hb.cell (by simp)];go_simp
 have qK:w'.cell? ⟨w.heap.size,1,none⟩=some (.slice none 0 0):=by rw[hb.cell (by simp)];go_simp
 have jT:w'.cell? ⟨w.heap.size,2,none⟩=some (.int .i64 0):=by rw[hb.cell (by simp)];go_simp
 have R4:w'.frozen? ⟨w.heap.size,0,none⟩=false:=by rw[hb.frozen (by simp)];go_simp
 have ug:w'.frozen? ⟨w.heap.size,1,none⟩=false:=by rw[hb.frozen (by simp)];go_simp
 have vU:w'.frozen? ⟨w.heap.size,2,none⟩=false:=by rw[hb.frozen (by simp)];go_simp
 have xV:∀ v,w'.ownsRow ((w.alloc (.cells #[.bool b,.slice none 0 0,.int .i64 0] 97)).drewN nq).heap.size 5 1 v (wh++fr).length (vz (wh++fr))->w'.ownsRow w.heap.size 5 1 v (wh++fr).length (vz (wh++fr)):=fun v h=>gp h (by simp)
 have Hz:∀ v,w'.ownsRow ((w.alloc (.cells #[.bool b,.slice none 0 0,.int .i64 0] 97)).drewN nq).heap.size 5 1 v (wh++fr).length (vz (wh++fr))->some w.heap.size≠v.ownBlock:=fun v h e=>by have:=(World.ownsRow.lt h _ e.symm).1;simp at this;omega
 clear hb;by_cases qQ:(wh++fr).all xF=true
 .rw[if_pos qQ] at hv;obtain⟨v,rfl,xi⟩:=hv;have LJ:=zx (eG xi);have Qx:=xV v xi;have Ef:=Hz v xi;clear xV Hz xi;obtain⟨ad,cap,rfl⟩:=xf Qx;have Xl:=zx qQ;clear qQ;have kR:(wh++fr).length=wh.length+fr.length:=by simp
  rw[kR] at Qx Ef |-
  have qb:=zx Qx;clear kR Qx;by_cases IW:¬(wh≠[]/\(pt=true->fr≠[])/\wh.length+fr.length<=30)
  .have ve:=eF HW.out HF.out HP.out HN.out (fun h=>IW h.2);have kW:=zx ve;clear ve;go_wp2;all_goals first
    |(exfalso;refine IW ⟨by assumption,?_,?_⟩<;>first|(intro h;contradiction)|(intro _;assumption)|omega)
    |(refine bodyPost_ret (v := .tuple #[.agg #[.bool b,.slice none 0 0,.int .i64 0],.bool false]) ?_ rfl ?_
      focus(simp[results,results44,go_sem, *])
      refine⟨b,_,_,by rw[kW.out],by first|exact⟨_,_,_,rfl⟩|exact LJ.out,?_,fun h=>by rw[kW.out] at h;cases h⟩;refine hB.trans ?_;(repeat(first|(with_reducible exact zv _ _)|(with_reducible refine below_drewN ?_ _)|(with_reducible refine zg ?_)|(with_reducible refine zj ?_ ?_ _;rotate_left;focus(first|(simp;done)|(simp;omega)))|(with_reducible refine zk ?_ ?_ _;rotate_left;focus(first|(simp;done)|(simp;omega)))))
      done)
  .have di:wh≠[]/\(pt=true->fr≠[])/\wh.length+fr.length<=30:=Classical.not_not.1 IW;clear IW;obtain⟨Zw,je,hg3⟩:=di;have Jj:=rf HW.out HF.out HP.out Xl.out Zw je hg3;have HFO:=zx Jj;clear Jj;have h30:¬((30:Int)<(wh.length:Int)+(fr.length:Int)):=by omega
   have zqq:0<(zF wh.toArray).size:=by
    rw[size_mk]
    cases wh with
    | nil=>exact absurd rfl Zw
    | cons x l=>simp
   have TI:=zqz wh zqq;have H48:=zx TI;clear TI;have Uv:(pt=true/\¬fr=[])\/pt=false:=by
    cases pt
    .exact .inr rfl
    .exact .inl ⟨rfl,je rfl⟩
   clear je;rcases Uv with⟨Uv,YG⟩|Uv;all_goals
    by_cases c1:(1:Int)<(wh.length:Int)
    .by_cases c2:(((zF wh.toArray)[0].toNat:Int)==48)=true
     .have ve:uB s.data.toList=false:=by
       rw[Fg HW.out HF.out HB.out HFO.out,H48.out,c2];simp;omega
      have kW:=zx ve;clear ve;go_wp2;all_goals first
       |(exfalso;rename_i hh;simp[Zw,YG] at hh;omega)|(exfalso;rename_i hh;simp[Zw] at hh;omega)
       | skip
      refine bodyPost_ret (v := .tuple #[.agg #[.bool b,.slice ad (wh.length+fr.length) cap,.int .i64 (fr.length:Int)],.bool false]) ?_ rfl ?_
      .simp[results,results44,go_sem,xk, *]
      .refine⟨b,_,_,by rw[kW.out],by first|exact⟨_,_,_,rfl⟩|exact LJ.out,?_,fun h=>by rw[kW.out] at h;cases h⟩;refine hB.trans ?_;(repeat(first|(with_reducible exact zv _ _)|(with_reducible refine below_drewN ?_ _)|(with_reducible refine zg ?_)|(with_reducible refine zj ?_ ?_ _;rotate_left;focus(first|(simp;done)|(simp;omega)))|(with_reducible refine zk ?_ ?_ _;rotate_left;focus(first|(simp;done)|(simp;omega)))))
     .have c2':(((zF wh.toArray)[0].toNat:Int)==48)=false:=by simpa using c2
      have ve:uB s.data.toList = !(b && (wh++fr).all (· == 48)):=by
       rw[Fg HW.out HF.out HB.out HFO.out,H48.out,c2'];simp
      have kW:=zx ve;clear ve c2
      cases b
      .have HR:=qb;simp only[zR,zX] at kW;go_wp2;all_goals first
        |(exfalso;rename_i hh;simp[Zw,YG] at hh;omega)|(exfalso;rename_i hh;simp[Zw] at hh;omega)
        | skip
       refine bodyPost_ret (v := .tuple #[.agg #[.bool false,.slice ad (wh.length+fr.length) cap,.int .i64 (fr.length:Int)],.bool true]) ?_ rfl ?_
       .simp[results,results44,go_sem,xk, *]
       .refine⟨_,_,_,by rw[kW.out],by first|exact⟨_,_,_,rfl⟩|exact LJ.out,?_,?_⟩
        .refine hB.trans ?_;(repeat(first|(with_reducible exact zv _ _)|(with_reducible refine below_drewN ?_ _)|(with_reducible refine zg ?_)|(with_reducible refine zj ?_ ?_ _;rotate_left;focus(first|(simp;done)|(simp;omega)))|(with_reducible refine zk ?_ ?_ _;rotate_left;focus(first|(simp;done)|(simp;omega)))))
        .intro _;rw[HW.out,HF.out];refine⟨HB.out.symm,rfl,?_⟩;(repeat(with_reducible refine xp ?_ Ef _))
         exact HR.out
      .simp only[Bool.true_and] at kW;go_wp2_with fail;all_goals first
        |(exfalso;rename_i hh;simp[Zw,YG] at hh;omega)|(exfalso;rename_i hh;simp[Zw] at hh;omega)
        | skip
       refine(KO (wh++fr) (wh.length+fr.length) (by simp) ad cap true _ _ (by simp;omega) (((qO qb.out (by simp)).set ?_ _).set ?_ _)).mono ?_
       .intro q hq he;subst hq;exact Ef (by simp[zU];exact he.symm)
       .intro q hq he;subst hq;exact Ef (by simp[zU];exact he.symm)
       rintro e w2 ⟨rfl,xJ⟩;have KZ:w.heap.size+1<=w2.heap.size:=by have:=xJ.size;simp at this;omega
       have Kw:Below w.heap.size w w2:=((hB.setCell (p:=⟨w.heap.size,1,none⟩) (zf _) _).setCell (p:=⟨w.heap.size,2,none⟩) (zf _) _).trans (xJ.mono (by simp;omega));have ah:w2.cell? ⟨w.heap.size,0,none⟩=some (.bool true):=by rw[xJ.cell (by simp;omega)];simp[xk,ff]
       have Hy:w2.cell? ⟨w.heap.size,1,none⟩=some (.slice ad (wh.length+fr.length) cap):=by rw[xJ.cell (by simp;omega)];simp[xk,qK]
       have DI:w2.cell? ⟨w.heap.size,2,none⟩=some (.int .i64 (fr.length:Int)):=by rw[xJ.cell (by simp;omega)];simp[xk,jT]
       have he0:w2.frozen? ⟨w.heap.size,0,none⟩=false:=by rw[xJ.frozen (by simp;omega)];go_simp
       have Ch:w2.frozen? ⟨w.heap.size,1,none⟩=false:=by rw[xJ.frozen (by simp;omega)];go_simp
       have Ct:w2.frozen? ⟨w.heap.size,2,none⟩=false:=by rw[xJ.frozen (by simp;omega)];go_simp
       have HR:=zx (fR (xp (xp qb.out Ef _) Ef _) xJ);clear xJ ff qK jT R4 ug vU;generalize (wh++fr).all (· == 48)=z at kW |-
       cases z
       .simp only[zX] at kW;go_wp2;refine bodyPost_ret (v := .tuple #[.agg #[.bool true,.slice ad (wh.length+fr.length) cap,.int .i64 (fr.length:Int)],.bool true]) ?_ rfl ?_
        .simp[results,results44,go_sem,xk, *]
        .refine⟨_,_,_,by rw[kW.out],by first|exact⟨_,_,_,rfl⟩|exact LJ.out,?_,?_⟩
         .refine Kw.trans ?_;(repeat(first|(with_reducible exact zv _ _)|(with_reducible refine below_drewN ?_ _)|(with_reducible refine zg ?_)|(with_reducible refine zj ?_ ?_ _;rotate_left;focus(first|(simp;done)|(simp;omega)))|(with_reducible refine zk ?_ ?_ _;rotate_left;focus(first|(simp;done)|(simp;omega)))))
         .intro _;rw[HW.out,HF.out];refine⟨HB.out.symm,rfl,?_⟩;(repeat(with_reducible refine xp ?_ Ef _))
          exact HR.out
       .simp only[Bool.not_true] at kW;go_wp2;refine bodyPost_ret (v := .tuple #[.agg #[.bool true,.slice ad (wh.length+fr.length) cap,.int .i64 (fr.length:Int)],.bool false]) ?_ rfl ?_
        .simp[results,results44,go_sem,xk, *]
        .refine⟨_,_,_,by rw[kW.out],by first|exact⟨_,_,_,rfl⟩|exact LJ.out,?_,?_⟩
         .refine Kw.trans ?_;(repeat(first|(with_reducible exact zv _ _)|(with_reducible refine below_drewN ?_ _)|(with_reducible refine zg ?_)|(with_reducible refine zj ?_ ?_ _;rotate_left;focus(first|(simp;done)|(simp;omega)))|(with_reducible refine zk ?_ ?_ _;rotate_left;focus(first|(simp;done)|(simp;omega)))))
         .intro h;rw[kW.out] at h;cases h
    .have ve:uB s.data.toList = !(b && (wh++fr).all (· == 48)):=by
      rw[Fg HW.out HF.out HB.out HFO.out,decide_eq_false (by omega)];simp
     have kW:=zx ve;clear ve
     cases b
     .have HR:=qb;simp only[zR,zX] at kW;go_wp2;all_goals first
       |(exfalso;rename_i hh;simp[Zw,YG] at hh;omega)|(exfalso;rename_i hh;simp[Zw] at hh;omega)
       | skip
      refine bodyPost_ret (v := .tuple #[.agg #[.bool false,.slice ad (wh.length+fr.length) cap,.int .i64 (fr.length:Int)],.bool true]) ?_ rfl ?_
      .simp[results,results44,go_sem,xk, *]
      .refine⟨_,_,_,by rw[kW.out],by first|exact⟨_,_,_,rfl⟩|exact LJ.out,?_,?_⟩
       .refine hB.trans ?_;(repeat(first|(with_reducible exact zv _ _)|(with_reducible refine below_drewN ?_ _)|(with_reducible refine zg ?_)|(with_reducible refine zj ?_ ?_ _;rotate_left;focus(first|(simp;done)|(simp;omega)))|(with_reducible refine zk ?_ ?_ _;rotate_left;focus(first|(simp;done)|(simp;omega)))))
       .intro _;rw[HW.out,HF.out];refine⟨HB.out.symm,rfl,?_⟩;(repeat(with_reducible refine xp ?_ Ef _))
        exact HR.out
     .simp only[Bool.true_and] at kW;go_wp2_with fail;all_goals first
       |(exfalso;rename_i hh;simp[Zw,YG] at hh;omega)|(exfalso;rename_i hh;simp[Zw] at hh;omega)
       | skip
      refine(KO (wh++fr) (wh.length+fr.length) (by simp) ad cap true _ _ (by simp;omega) (((qO qb.out (by simp)).set ?_ _).set ?_ _)).mono ?_
      .intro q hq he;subst hq;exact Ef (by simp[zU];exact he.symm)
      .intro q hq he;subst hq;exact Ef (by simp[zU];exact he.symm)
      rintro e w2 ⟨rfl,xJ⟩;have KZ:w.heap.size+1<=w2.heap.size:=by have:=xJ.size;simp at this;omega
      have Kw:Below w.heap.size w w2:=((hB.setCell (p:=⟨w.heap.size,1,none⟩) (zf _) _).setCell (p:=⟨w.heap.size,2,none⟩) (zf _) _).trans (xJ.mono (by simp;omega));have ah:w2.cell? ⟨w.heap.size,0,none⟩=some (.bool true):=by rw[xJ.cell (by simp;omega)];simp[xk,ff]
      have Hy:w2.cell? ⟨w.heap.size,1,none⟩=some (.slice ad (wh.length+fr.length) cap):=by rw[xJ.cell (by simp;omega)];simp[xk,qK]
      have DI:w2.cell? ⟨w.heap.size,2,none⟩=some (.int .i64 (fr.length:Int)):=by rw[xJ.cell (by simp;omega)];simp[xk,jT]
      have he0:w2.frozen? ⟨w.heap.size,0,none⟩=false:=by rw[xJ.frozen (by simp;omega)];go_simp
      have Ch:w2.frozen? ⟨w.heap.size,1,none⟩=false:=by rw[xJ.frozen (by simp;omega)];go_simp
      have Ct:w2.frozen? ⟨w.heap.size,2,none⟩=false:=by rw[xJ.frozen (by simp;omega)];go_simp
      have HR:=zx (fR (xp (xp qb.out Ef _) Ef _) xJ);clear xJ ff qK jT R4 ug vU;generalize (wh++fr).all (· == 48)=z at kW |-
      cases z
      .simp only[zX] at kW;go_wp2;refine bodyPost_ret (v := .tuple #[.agg #[.bool true,.slice ad (wh.length+fr.length) cap,.int .i64 (fr.length:Int)],.bool true]) ?_ rfl ?_
       .simp[results,results44,go_sem,xk, *]
       .refine⟨_,_,_,by rw[kW.out],by first|exact⟨_,_,_,rfl⟩|exact LJ.out,?_,?_⟩
        .refine Kw.trans ?_;(repeat(first|(with_reducible exact zv _ _)|(with_reducible refine below_drewN ?_ _)|(with_reducible refine zg ?_)|(with_reducible refine zj ?_ ?_ _;rotate_left;focus(first|(simp;done)|(simp;omega)))|(with_reducible refine zk ?_ ?_ _;rotate_left;focus(first|(simp;done)|(simp;omega)))))
        .intro _;rw[HW.out,HF.out];refine⟨HB.out.symm,rfl,?_⟩;(repeat(with_reducible refine xp ?_ Ef _))
         exact HR.out
      .simp only[Bool.not_true] at kW;go_wp2;refine bodyPost_ret (v := .tuple #[.agg #[.bool true,.slice ad (wh.length+fr.length) cap,.int .i64 (fr.length:Int)],.bool false]) ?_ rfl ?_
       .simp[results,results44,go_sem,xk, *]
       .refine⟨_,_,_,by rw[kW.out],by first|exact⟨_,_,_,rfl⟩|exact LJ.out,?_,?_⟩
        .refine Kw.trans ?_;(repeat(first|(with_reducible exact zv _ _)|(with_reducible refine below_drewN ?_ _)|(with_reducible refine zg ?_)|(with_reducible refine zj ?_ ?_ _;rotate_left;focus(first|(simp;done)|(simp;omega)))|(with_reducible refine zk ?_ ?_ _;rotate_left;focus(first|(simp;done)|(simp;omega)))))
        .intro h;rw[kW.out] at h;cases h
 .rw[if_neg qQ] at hv;subst hv;have ve:=eF HW.out HF.out HP.out HN.out (fun h=>qQ h.1);have kW:=zx ve;clear ve qQ xV Hz;go_wp2;refine bodyPost_ret (v := .tuple #[.agg #[.bool b,.slice none 0 0,.int .i64 0],.bool false]) ?_ rfl ?_
  .simp[results,results44,go_sem, *]
  .refine⟨b,_,_,by rw[kW.out],by first|exact⟨_,_,_,rfl⟩|exact LJ.out,?_,fun h=>by rw[kW.out] at h;cases h⟩;refine hB.trans ?_;(repeat(first|(with_reducible exact zv _ _)|(with_reducible refine below_drewN ?_ _)|(with_reducible refine zg ?_)|(with_reducible refine zj ?_ ?_ _;rotate_left;focus(first|(simp;done)|(simp;omega)))|(with_reducible refine zk ?_ ?_ _;rotate_left;focus(first|(simp;done)|(simp;omega)))))
end Go.Proofs.YthpldolmpinnhaaGreatDoor
