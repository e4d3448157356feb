import Derived.Test.YthpldolmpinnhaaGreatDoorJF21
import Derived.LaidEql
import Derived.Stop.Asserts
import Derived.RowKitTokens
import Derived.Test.YthpldolmpinnhaaGreatDoorShelf
set_option maxHeartbeats 64000000
open Go.World renaming cell?_alloc_lt→z7,frozen?_alloc_old→z8,cell?→zV,cell?_alloc_at→zI
open Go.Result renaming andThen→zy
open Go.Lib renaming hid→zx,trimPrefix→zQ,hasPrefix→zE
open Go.RowKit.Below renaming refl→zv,setCell→zk,alloc→zj,drew→zg,heap_setCell→zM
open Array renaming getElem?_eq_none→zu
open Nat renaming le_refl→zf,lt_or_ge→zY
open Go.Sem renaming run_bind→zZ
open Bool renaming not_false→zX,and_eq_true→zN,false_and→zR
open Go.Value renaming ownBlock→zU,int→zD
open Go.Instr renaming typeAssert→zJ
open Go.IntKind renaming u8→zG
open ByteArray renaming mk→zF
open List renaming drop_of_length_le→zH,isPrefixOf→zO,all_append→zP
open Go renaming method→zL
open Go.Proofs.Tryz
namespace Go.Proofs.YthpldolmpinnhaaGreatDoor
open Go Go.RowKit Go.Extern.Stop Go.Stop Go.Extern
set_option maxRecDepth 10000
abbrev uO(t:Nat):Value := .pointer (some ⟨12,t,none⟩)
theorem rlm(z:Sem Value)(f:TypeId->Addr->Nat->Nat->Sem Value)(v:Value) :
  ReflectliteValue.method z f #[v]=(do match ←ReflectliteValue.parts v with|none=>z|some (t,a,fl)=>f t a fl (fl % 32)):=rfl
theorem rls(v x:Value):ReflectliteValue.set #[v,x]=(do
  let (some (dst,a,fl),some (src,b,_)):=(←ReflectliteValue.parts v,←ReflectliteValue.parts x)
   | unsupported (.noEntry "extern/(internal/reflectlite.Value).Set.zeroValue")
  if fl / ReflectliteValue.flagAddr % 2==0 then unsupported (.noEntry "extern/(internal/reflectlite.Value).Set.unaddressable")
  let val ←loadVar src b
  if ←Rtype.directlyAssignable dst src then storeVar dst a val
  else if ←Rtype.implements dst src then
   if (←Rtype.kind src)==20 then
    match val with
    | .nilIface=>unsupported (.noEntry "extern/reflectlite: a nil value of one interface type handed on as a value of another")
    | _=>storeVar dst a val
   else storeVar dst a (.iface src val)
  else panicString ("reflectlite.Set: value of type " ++ (←Rtype.spelt src) ++ " is not assignable to type " ++ (←Rtype.spelt dst))
  pure (.tuple #[])):=rfl
theorem UY(h:Value)(w:World):(zL 516 231 (.agg #[h]) "Kind").run prog w = .ok (300,h) w:=by kernel_rfl
theorem UX(h:Value)(w:World):(zL 516 231 (.agg #[h]) "Elem").run prog w = .ok (316,.agg #[h]) w:=by kernel_rfl
theorem fE(h:Value)(w:World):(zL 516 231 (.agg #[h]) "Implements").run prog w = .ok (317,.agg #[h]) w:=by kernel_rfl
theorem jt(h:Value)(w:World):(zL 516 231 (.agg #[h]) "AssignableTo").run prog w = .ok (314,.agg #[h]) w:=by kernel_rfl
theorem BI(t:Addr)(w:World):(ReflectliteValue.unpack (.iface 103 (.pointer (some t)))).run prog w
  = .ok (.agg #[uO 103,.pointer (some ⟨w.heap.size,0,none⟩),.int .u64 150]) (w.alloc (.cells #[.pointer (some t)] 103)):=by kernel_rfl
theorem cV(a:Addr)(w:World):(ReflectliteValue.methodAny (ReflectliteValue.valueError "reflectlite.Value.Type" 0) (fun t _ _ _=>ReflectliteType.toType t) #[.agg #[uO 103,.pointer (some a),.int .u64 150]]).run prog w
  = .ok (.iface 231 (.agg #[uO 103])) w:=by kernel_rfl
theorem RZ(w:World):((ReflectliteType.abiMethod fun t=>(fun a:Nat=>zD zG (a:Int)) <$> Rtype.kind t) #[uO 103]).run prog w = .ok (.int .u8 22) w:=by kernel_rfl
theorem RY(w:World):((ReflectliteType.abiMethod fun t=>(fun a:Nat=>zD zG (a:Int)) <$> Rtype.kind t) #[uO 101]).run prog w = .ok (.int .u8 22) w:=by kernel_rfl
theorem RX(a:Addr)(w:World):(ReflectliteValue.parts (.agg #[uO 103,.pointer (some a),.int .u64 150])).run prog w = .ok (some (103,a,150)) w:=by kernel_rfl
theorem RV(a p:Addr)(W:World)(ha:W.cell? a=some (.pointer (some p))) :
  (ReflectliteValue.method (ReflectliteValue.valueError "reflectlite.Value.IsNil" 0) ReflectliteValue.isNil #[.agg #[uO 103,.pointer (some a),.int .u64 150]]).run prog W = .ok (.bool false) W:=by
 rw[rlm];simp only[zZ,RX,zy];simp[ReflectliteValue.isNil,loadVar,isAgg,underlying,underlying103,ha,zy]
theorem cK(w:World):(ReflectliteType.method ReflectliteType.elem #[.agg #[uO 103]]).run prog w = .ok (.iface 231 (.agg #[uO 101])) w:=by kernel_rfl
theorem cJ(w:World):(ReflectliteType.relation "Implements" ReflectliteType.implements_ #[.agg #[uO 101],.iface 231 (.agg #[uO 73])]).run prog w = .ok (.bool true) w:=by kernel_rfl
theorem cG(w:World):(Rtype.elem? 103).run prog w = .ok (some 101) w:=by kernel_rfl
theorem ybk(p:Addr)(w:World):(ReflectliteValue.mk 101 p ReflectliteValue.flagAddr).run prog w = .ok (.agg #[uO 101,.pointer (some p),.int .u64 406]) w:=by kernel_rfl
theorem pA(a p:Addr)(W:World)(ha:W.cell? a=some (.pointer (some p))) :
  (ReflectliteValue.method (ReflectliteValue.valueError "reflectlite.Value.Elem" 0) ReflectliteValue.elem #[.agg #[uO 103,.pointer (some a),.int .u64 150]]).run prog W
   = .ok (.agg #[uO 101,.pointer (some p),.int .u64 406]) W:=by
 rw[rlm];simp only[zZ,RX,zy];simp[ReflectliteValue.elem,loadVar,isAgg,underlying,underlying103,ha,zy,cG,ybk]
theorem cD(a:Addr)(w:World):(ReflectliteValue.parts (.agg #[uO 101,.pointer (some a),.int .u64 406])).run prog w = .ok (some (101,a,406)) w:=by kernel_rfl
theorem Tb(t:Addr)(w:World):(ReflectliteValue.unpack (.iface 106 (.pointer (some t)))).run prog w
  = .ok (.agg #[uO 106,.pointer (some ⟨w.heap.size,0,none⟩),.int .u64 150]) (w.alloc (.cells #[.pointer (some t)] 106)):=by kernel_rfl
theorem zkz(a:Addr)(w:World):(ReflectliteValue.methodAny (ReflectliteValue.valueError "reflectlite.Value.Type" 0) (fun t _ _ _=>ReflectliteType.toType t) #[.agg #[uO 106,.pointer (some a),.int .u64 150]]).run prog w
  = .ok (.iface 231 (.agg #[uO 106])) w:=by kernel_rfl
theorem r6(w:World):((ReflectliteType.abiMethod fun t=>(fun a:Nat=>zD zG (a:Int)) <$> Rtype.kind t) #[uO 106]).run prog w = .ok (.int .u8 22) w:=by kernel_rfl
theorem r7(w:World):((ReflectliteType.abiMethod fun t=>(fun a:Nat=>zD zG (a:Int)) <$> Rtype.kind t) #[uO 33]).run prog w = .ok (.int .u8 2) w:=by kernel_rfl
theorem RU(a:Addr)(w:World):(ReflectliteValue.parts (.agg #[uO 106,.pointer (some a),.int .u64 150])).run prog w = .ok (some (106,a,150)) w:=by kernel_rfl
theorem r8(a p:Addr)(W:World)(ha:W.cell? a=some (.pointer (some p))) :
  (ReflectliteValue.method (ReflectliteValue.valueError "reflectlite.Value.IsNil" 0) ReflectliteValue.isNil #[.agg #[uO 106,.pointer (some a),.int .u64 150]]).run prog W = .ok (.bool false) W:=by
 rw[rlm];simp only[zZ,RU,zy];simp[ReflectliteValue.isNil,loadVar,isAgg,underlying,underlying106,ha,zy]
theorem zky(w:World):(ReflectliteType.method ReflectliteType.elem #[.agg #[uO 106]]).run prog w = .ok (.iface 231 (.agg #[uO 33])) w:=by kernel_rfl
theorem zkx(w:World):(ReflectliteType.relation "Implements" ReflectliteType.implements_ #[.agg #[uO 33],.iface 231 (.agg #[uO 73])]).run prog w = .ok (.bool true) w:=by kernel_rfl
theorem cE(w:World):(Rtype.elem? 106).run prog w = .ok (some 33) w:=by kernel_rfl
theorem ybj(p:Addr)(w:World):(ReflectliteValue.mk 33 p ReflectliteValue.flagAddr).run prog w = .ok (.agg #[uO 33,.pointer (some p),.int .u64 386]) w:=by kernel_rfl
theorem r9(a p:Addr)(W:World)(ha:W.cell? a=some (.pointer (some p))) :
  (ReflectliteValue.method (ReflectliteValue.valueError "reflectlite.Value.Elem" 0) ReflectliteValue.elem #[.agg #[uO 106,.pointer (some a),.int .u64 150]]).run prog W
   = .ok (.agg #[uO 33,.pointer (some p),.int .u64 386]) W:=by
 rw[rlm];simp only[zZ,RU,zy];simp[ReflectliteValue.elem,loadVar,isAgg,underlying,underlying106,ha,zy,cE,ybj]
theorem cH(a:Addr)(w:World):(ReflectliteValue.parts (.agg #[uO 33,.pointer (some a),.int .u64 386])).run prog w = .ok (some (33,a,386)) w:=by kernel_rfl
theorem cL(v:Value)(w:World):(ReflectliteType.typeOf #[.iface 101 v]).run prog w = .ok (.iface 231 (.agg #[uO 101])) w:=by kernel_rfl
theorem cM(w:World):(ReflectliteType.relation "AssignableTo" ReflectliteType.assignableTo #[.agg #[uO 101],.iface 231 (.agg #[uO 101])]).run prog w = .ok (.bool true) w:=by kernel_rfl
theorem OU(e:Addr)(w:World):(ReflectliteValue.unpack (.iface 101 (.pointer (some e)))).run prog w
  = .ok (.agg #[uO 101,.pointer (some ⟨w.heap.size,0,none⟩),.int .u64 150]) (w.alloc (.cells #[.pointer (some e)] 101)):=by kernel_rfl
theorem cN(a:Addr)(w:World):(ReflectliteValue.parts (.agg #[uO 101,.pointer (some a),.int .u64 150])).run prog w = .ok (some (101,a,150)) w:=by kernel_rfl
theorem cO(w:World):(Rtype.directlyAssignable 101 101).run prog w = .ok true w:=by kernel_rfl
theorem znf(ta b:Addr)(e:Addr)(PN:Value)(W:World)(hb:W.cell? b=some (.pointer (some e)))(ht:W.cell? ta=some PN)(hf:W.frozen? ta=false) :
  (ReflectliteValue.set #[.agg #[uO 101,.pointer (some ta),.int .u64 406],.agg #[uO 101,.pointer (some b),.int .u64 150]]).run prog W
   = .ok (.tuple #[]) (W.setCell ta (.pointer (some e))):=by
 rw[rls];simp only[zZ,cD,cN,zy];simp[ReflectliteValue.flagAddr,loadVar,isAgg,underlying,underlying101,hb,zy,cO,storeVar,Value.cells,storeCells,Addr.add];rw[run_store prog W ta _ _ (by rfl)];simp[ht,hf]
theorem Lf(v:Value)(w:World):(ReflectliteType.typeOf #[.iface 33 v]).run prog w = .ok (.iface 231 (.agg #[uO 33])) w:=by kernel_rfl
theorem cP(w:World):(ReflectliteType.relation "AssignableTo" ReflectliteType.assignableTo #[.agg #[uO 33],.iface 231 (.agg #[uO 33])]).run prog w = .ok (.bool true) w:=by kernel_rfl
theorem OQ(e:Int)(w:World):(ReflectliteValue.unpack (.iface 33 (.int .i64 e))).run prog w
  = .ok (.agg #[uO 33,.pointer (some ⟨w.heap.size,0,none⟩),.int .u64 130]) (w.alloc (.cells #[.int .i64 e] 33)):=by kernel_rfl
theorem cR(a:Addr)(w:World):(ReflectliteValue.parts (.agg #[uO 33,.pointer (some a),.int .u64 130])).run prog w = .ok (some (33,a,130)) w:=by kernel_rfl
theorem cS(w:World):(Rtype.directlyAssignable 33 33).run prog w = .ok true w:=by kernel_rfl
theorem znd(ta b:Addr)(e:Int)(PN:Value)(W:World)(hb:W.cell? b=some (.int .i64 e))(ht:W.cell? ta=some PN)(hf:W.frozen? ta=false) :
  (ReflectliteValue.set #[.agg #[uO 33,.pointer (some ta),.int .u64 386],.agg #[uO 33,.pointer (some b),.int .u64 130]]).run prog W
   = .ok (.tuple #[]) (W.setCell ta (.int .i64 e)):=by
 rw[rls];simp only[zZ,cH,cR,zy];simp[ReflectliteValue.flagAddr,loadVar,isAgg,underlying,underlying33,hb,zy,cS,storeVar,Value.cells,storeCells,Addr.add];rw[run_store prog W ta _ _ (by rfl)];simp[ht,hf]
theorem Ld(w:World):(ReflectliteType.relation "AssignableTo" ReflectliteType.assignableTo #[.agg #[uO 33],.iface 231 (.agg #[uO 101])]).run prog w = .ok (.bool false) w:=by kernel_rfl
theorem zkv(v:Value)(xT:TypeId)(w:World):(zJ (.iface 33 v) xT 236 true).run prog w = .ok (.tuple #[.nilIface,.bool false]) w:=run_typeAssert_lacksB underlying236 (by kernel_rfl) (by kernel_rfl) v xT w
theorem OK(v:Value)(xT:TypeId)(w:World):(zJ (.iface 33 v) xT 239 true).run prog w = .ok (.tuple #[.nilIface,.bool false]) w:=run_typeAssert_lacksB underlying239 (by kernel_rfl) (by kernel_rfl) v xT w
theorem Lb(v:Value)(xT:TypeId)(w:World):(zJ (.iface 33 v) xT 241 true).run prog w = .ok (.tuple #[.nilIface,.bool false]) w:=run_typeAssert_lacksB underlying241 (by kernel_rfl) (by kernel_rfl) v xT w
theorem cT(e t:Addr)(PN:Value)(w:World)(hg:w.cell? ⟨1,0,none⟩=some (.iface 231 (.agg #[uO 73])))(Pr:w.cell? t=some PN)(NV:w.frozen? t=false) :
  Calls prog 46 #[.iface 101 (.pointer (some e)),.iface 103 (.pointer (some t))] w fun ev w'=>ev = .returned (.bool true)/\∃ o1 o2 o3 o4:Obj,w'=((((w.alloc o1).alloc o2).alloc o3).alloc o4).setCell t (.pointer (some e)):=by
 have h0:=@run_callFunc_extern prog 74 _ (fun args=>ReflectliteValue.unpack (args.getD 0 (.tuple #[]))) func74 (by kernel_rfl) (by kernel_rfl) (by kernel_rfl) (by kernel_rfl);have h1:=@run_callFunc_extern prog 75 _ (ReflectliteValue.methodAny (ReflectliteValue.valueError "reflectlite.Value.Type" 0) (fun t _ _ _=>ReflectliteType.toType t)) func75 (by kernel_rfl) (by kernel_rfl) (by kernel_rfl) (by kernel_rfl);have h2:=@run_callFunc_extern prog 76 _ (ReflectliteValue.method (ReflectliteValue.valueError "reflectlite.Value.IsNil" 0) ReflectliteValue.isNil) func76 (by kernel_rfl) (by kernel_rfl) (by kernel_rfl) (by kernel_rfl);have h3:=@run_callFunc_extern prog 300 _ (ReflectliteType.abiMethod fun t=>do pure (.int .u8 (←Rtype.kind t))) func300 (by kernel_rfl) (by kernel_rfl) (by kernel_rfl) (by kernel_rfl);have h4:=@run_callFunc_extern prog 316 _ (ReflectliteType.method ReflectliteType.elem) func316 (by kernel_rfl) (by kernel_rfl) (by kernel_rfl) (by kernel_rfl);have h5:=@run_callFunc_extern prog 317 _ (ReflectliteType.relation "Implements" ReflectliteType.implements_) func317 (by kernel_rfl) (by kernel_rfl) (by kernel_rfl) (by kernel_rfl);have h6:=@run_callFunc_extern prog 106 _ (ReflectliteType.typeOf) func106 (by kernel_rfl) (by kernel_rfl) (by kernel_rfl) (by kernel_rfl);have h7:=@run_callFunc_extern prog 314 _ (ReflectliteType.relation "AssignableTo" ReflectliteType.assignableTo) func314 (by kernel_rfl) (by kernel_rfl) (by kernel_rfl) (by kernel_rfl);have h8:=@run_callFunc_extern prog 107 _ (ReflectliteValue.method (ReflectliteValue.valueError "reflectlite.Value.Elem" 0) ReflectliteValue.elem) func107 (by kernel_rfl) (by kernel_rfl) (by kernel_rfl) (by kernel_rfl);have h9:=@run_callFunc_extern prog 108 _ (ReflectliteValue.set) func108 (by kernel_rfl) (by kernel_rfl) (by kernel_rfl) (by kernel_rfl);have mK:=UY;have mE:=UX;have mI:=fE;have mA:=jt;have f1:=BI;have f2:=cV;have f3:=RZ;have f4:=RY;have f5:=cK;have f6:=cJ;have n8:=RV ⟨w.heap.size,0,none⟩ t ((w.alloc (.cells #[.pointer (some t)] 103)).alloc (.cells #[uO 103,.pointer (some ⟨w.heap.size,0,none⟩),.int .u64 150] 162)) (by simp);have xD:1<w.heap.size:=by
  rcases zY 1 w.heap.size with h|h
  ·exact h
  ·exfalso;rw[zV,zu h] at hg
   cases hg
 have ft:((w.alloc (.cells #[.pointer (some t)] 103)).alloc (.cells #[uO 103,.pointer (some ⟨w.heap.size,0,none⟩),.int .u64 150] 162)).cell? ⟨1,0,none⟩=some (.iface 231 (.agg #[uO 73])):=by
  rw[z7 _ _ ⟨1,0,none⟩ (by simp<;>omega),z7 _ _ ⟨1,0,none⟩ xD];exact hg
 have Ja:t.block<w.heap.size:=by
  rcases zY t.block w.heap.size with h|h
  ·exact h
  ·simp[zV,zu h] at Pr
 have el:=pA ⟨w.heap.size,0,none⟩ t (((w.alloc (.cells #[.pointer (some t)] 103)).alloc (.cells #[uO 103,.pointer (some ⟨w.heap.size,0,none⟩),.int .u64 150] 162)).alloc (.cells #[uO 103,.pointer (some ⟨w.heap.size,0,none⟩),.int .u64 150] 162)) (by rw[z7 _ _ ⟨w.heap.size,0,none⟩ (by simp;omega)];simp);have tO:=cL;have aT:=cM;have vT:=OU;have st:=znf t ⟨w.heap.size+1+1+1,0,none⟩ e PN ((((w.alloc (.cells #[.pointer (some t)] 103)).alloc (.cells #[uO 103,.pointer (some ⟨w.heap.size,0,none⟩),.int .u64 150] 162)).alloc (.cells #[uO 103,.pointer (some ⟨w.heap.size,0,none⟩),.int .u64 150] 162)).alloc (.cells #[.pointer (some e)] 101))
  (by rw[zI _ _ _ _ (by simp)];rfl)
  (by rw[z7 _ _ t (by simp;omega),z7 _ _ t (by simp;omega),z7 _ _ t (by simp;omega),z7 _ _ t Ja];exact Pr)
  (by rw[z8 _ _ t (by simp;omega),z8 _ _ t (by simp;omega),z8 _ _ t (by simp;omega),z8 _ _ t (Nat.ne_of_lt Ja)];exact NV)
 go_enter func46,ntmps46;go_wp2;refine wp_loop_rounds 1 ?_;rw[rounds_succ];go_wp2;go_ret;exact⟨rfl,_,_,_,_,rfl⟩
theorem cr(e:Int)(t:Addr)(PN:Value)(w:World)(hg:w.cell? ⟨1,0,none⟩=some (.iface 231 (.agg #[uO 73])))(Pr:w.cell? t=some PN)(NV:w.frozen? t=false) :
  Calls prog 46 #[.iface 33 (.int .i64 e),.iface 106 (.pointer (some t))] w fun ev w'=>ev = .returned (.bool true)/\∃ o1 o2 o3 o4:Obj,w'=((((w.alloc o1).alloc o2).alloc o3).alloc o4).setCell t (.int .i64 e):=by
 have h0:=@run_callFunc_extern prog 74 _ (fun args=>ReflectliteValue.unpack (args.getD 0 (.tuple #[]))) func74 (by kernel_rfl) (by kernel_rfl) (by kernel_rfl) (by kernel_rfl);have h1:=@run_callFunc_extern prog 75 _ (ReflectliteValue.methodAny (ReflectliteValue.valueError "reflectlite.Value.Type" 0) (fun t _ _ _=>ReflectliteType.toType t)) func75 (by kernel_rfl) (by kernel_rfl) (by kernel_rfl) (by kernel_rfl);have h2:=@run_callFunc_extern prog 76 _ (ReflectliteValue.method (ReflectliteValue.valueError "reflectlite.Value.IsNil" 0) ReflectliteValue.isNil) func76 (by kernel_rfl) (by kernel_rfl) (by kernel_rfl) (by kernel_rfl);have h3:=@run_callFunc_extern prog 300 _ (ReflectliteType.abiMethod fun t=>do pure (.int .u8 (←Rtype.kind t))) func300 (by kernel_rfl) (by kernel_rfl) (by kernel_rfl) (by kernel_rfl);have h4:=@run_callFunc_extern prog 316 _ (ReflectliteType.method ReflectliteType.elem) func316 (by kernel_rfl) (by kernel_rfl) (by kernel_rfl) (by kernel_rfl);have h5:=@run_callFunc_extern prog 317 _ (ReflectliteType.relation "Implements" ReflectliteType.implements_) func317 (by kernel_rfl) (by kernel_rfl) (by kernel_rfl) (by kernel_rfl);have h6:=@run_callFunc_extern prog 106 _ (ReflectliteType.typeOf) func106 (by kernel_rfl) (by kernel_rfl) (by kernel_rfl) (by kernel_rfl);have h7:=@run_callFunc_extern prog 314 _ (ReflectliteType.relation "AssignableTo" ReflectliteType.assignableTo) func314 (by kernel_rfl) (by kernel_rfl) (by kernel_rfl) (by kernel_rfl);have h8:=@run_callFunc_extern prog 107 _ (ReflectliteValue.method (ReflectliteValue.valueError "reflectlite.Value.Elem" 0) ReflectliteValue.elem) func107 (by kernel_rfl) (by kernel_rfl) (by kernel_rfl) (by kernel_rfl);have h9:=@run_callFunc_extern prog 108 _ (ReflectliteValue.set) func108 (by kernel_rfl) (by kernel_rfl) (by kernel_rfl) (by kernel_rfl);have mK:=UY;have mE:=UX;have mI:=fE;have mA:=jt;have f1:=Tb;have f2:=zkz;have f3:=r6;have f4:=r7;have f5:=zky;have f6:=zkx;have n8:=r8 ⟨w.heap.size,0,none⟩ t ((w.alloc (.cells #[.pointer (some t)] 106)).alloc (.cells #[uO 106,.pointer (some ⟨w.heap.size,0,none⟩),.int .u64 150] 162)) (by simp);have xD:1<w.heap.size:=by
  rcases zY 1 w.heap.size with h|h
  ·exact h
  ·exfalso;rw[zV,zu h] at hg
   cases hg
 have ft:((w.alloc (.cells #[.pointer (some t)] 106)).alloc (.cells #[uO 106,.pointer (some ⟨w.heap.size,0,none⟩),.int .u64 150] 162)).cell? ⟨1,0,none⟩=some (.iface 231 (.agg #[uO 73])):=by
  rw[z7 _ _ ⟨1,0,none⟩ (by simp<;>omega),z7 _ _ ⟨1,0,none⟩ xD];exact hg
 have Ja:t.block<w.heap.size:=by
  rcases zY t.block w.heap.size with h|h
  ·exact h
  ·simp[zV,zu h] at Pr
 have el:=r9 ⟨w.heap.size,0,none⟩ t (((w.alloc (.cells #[.pointer (some t)] 106)).alloc (.cells #[uO 106,.pointer (some ⟨w.heap.size,0,none⟩),.int .u64 150] 162)).alloc (.cells #[uO 106,.pointer (some ⟨w.heap.size,0,none⟩),.int .u64 150] 162)) (by rw[z7 _ _ ⟨w.heap.size,0,none⟩ (by simp;omega)];simp);have tO:=Lf;have aT:=cP;have vT:=OQ;have st:=znd t ⟨w.heap.size+1+1+1,0,none⟩ e PN ((((w.alloc (.cells #[.pointer (some t)] 106)).alloc (.cells #[uO 106,.pointer (some ⟨w.heap.size,0,none⟩),.int .u64 150] 162)).alloc (.cells #[uO 106,.pointer (some ⟨w.heap.size,0,none⟩),.int .u64 150] 162)).alloc (.cells #[.int .i64 e] 33))
  (by rw[zI _ _ _ _ (by simp)];rfl)
  (by rw[z7 _ _ t (by simp;omega),z7 _ _ t (by simp;omega),z7 _ _ t (by simp;omega),z7 _ _ t Ja];exact Pr)
  (by rw[z8 _ _ t (by simp;omega),z8 _ _ t (by simp;omega),z8 _ _ t (by simp;omega),z8 _ _ t (Nat.ne_of_lt Ja)];exact NV)
 go_enter func46,ntmps46;go_wp2;refine wp_loop_rounds 1 ?_;rw[rounds_succ];go_wp2;go_ret;exact⟨rfl,_,_,_,_,rfl⟩
theorem rz(e:Int)(t:Addr)(PN:Value)(w:World)(hg:w.cell? ⟨1,0,none⟩=some (.iface 231 (.agg #[uO 73])))(Pr:w.cell? t=some PN)(NV:w.frozen? t=false) :
  Calls prog 46 #[.iface 33 (.int .i64 e),.iface 103 (.pointer (some t))] w fun ev w'=>ev = .returned (.bool false)/\∃ o1 o2 o3:Obj,w'=((w.alloc o1).alloc o2).alloc o3:=by
 have h0:=@run_callFunc_extern prog 74 _ (fun args=>ReflectliteValue.unpack (args.getD 0 (.tuple #[]))) func74 (by kernel_rfl) (by kernel_rfl) (by kernel_rfl) (by kernel_rfl);have h1:=@run_callFunc_extern prog 75 _ (ReflectliteValue.methodAny (ReflectliteValue.valueError "reflectlite.Value.Type" 0) (fun t _ _ _=>ReflectliteType.toType t)) func75 (by kernel_rfl) (by kernel_rfl) (by kernel_rfl) (by kernel_rfl);have h2:=@run_callFunc_extern prog 76 _ (ReflectliteValue.method (ReflectliteValue.valueError "reflectlite.Value.IsNil" 0) ReflectliteValue.isNil) func76 (by kernel_rfl) (by kernel_rfl) (by kernel_rfl) (by kernel_rfl);have h3:=@run_callFunc_extern prog 300 _ (ReflectliteType.abiMethod fun t=>do pure (.int .u8 (←Rtype.kind t))) func300 (by kernel_rfl) (by kernel_rfl) (by kernel_rfl) (by kernel_rfl);have h4:=@run_callFunc_extern prog 316 _ (ReflectliteType.method ReflectliteType.elem) func316 (by kernel_rfl) (by kernel_rfl) (by kernel_rfl) (by kernel_rfl);have h5:=@run_callFunc_extern prog 317 _ (ReflectliteType.relation "Implements" ReflectliteType.implements_) func317 (by kernel_rfl) (by kernel_rfl) (by kernel_rfl) (by kernel_rfl);have h6:=@run_callFunc_extern prog 106 _ (ReflectliteType.typeOf) func106 (by kernel_rfl) (by kernel_rfl) (by kernel_rfl) (by kernel_rfl);have h7:=@run_callFunc_extern prog 314 _ (ReflectliteType.relation "AssignableTo" ReflectliteType.assignableTo) func314 (by kernel_rfl) (by kernel_rfl) (by kernel_rfl) (by kernel_rfl);have h8:=@run_callFunc_extern prog 107 _ (ReflectliteValue.method (ReflectliteValue.valueError "reflectlite.Value.Elem" 0) ReflectliteValue.elem) func107 (by kernel_rfl) (by kernel_rfl) (by kernel_rfl) (by kernel_rfl);have h9:=@run_callFunc_extern prog 108 _ (ReflectliteValue.set) func108 (by kernel_rfl) (by kernel_rfl) (by kernel_rfl) (by kernel_rfl);have mK:=UY;have mE:=UX;have mI:=fE;have mA:=jt;have f1:=BI;have f2:=cV;have f3:=RZ;have f4:=RY;have f5:=cK;have f6:=cJ;have n8:=RV ⟨w.heap.size,0,none⟩ t ((w.alloc (.cells #[.pointer (some t)] 103)).alloc (.cells #[uO 103,.pointer (some ⟨w.heap.size,0,none⟩),.int .u64 150] 162)) (by simp);have xD:1<w.heap.size:=by
  rcases zY 1 w.heap.size with h|h
  ·exact h
  ·exfalso;rw[zV,zu h] at hg
   cases hg
 have ft:((w.alloc (.cells #[.pointer (some t)] 103)).alloc (.cells #[uO 103,.pointer (some ⟨w.heap.size,0,none⟩),.int .u64 150] 162)).cell? ⟨1,0,none⟩=some (.iface 231 (.agg #[uO 73])):=by
  rw[z7 _ _ ⟨1,0,none⟩ (by simp<;>omega),z7 _ _ ⟨1,0,none⟩ xD];exact hg
 have Ja:t.block<w.heap.size:=by
  rcases zY t.block w.heap.size with h|h
  ·exact h
  ·simp[zV,zu h] at Pr
 have tO:=Lf;have aT:=Ld;have n1:=zkv;have n2:=OK;have n3:=Lb;go_enter func46,ntmps46;go_wp2;refine wp_loop_rounds 1 ?_;rw[rounds_succ];go_wp2;go_ret;exact⟨rfl,_,_,_,rfl⟩
end Go.Proofs.YthpldolmpinnhaaGreatDoor
namespace Go.Proofs.YthpldolmpinnhaaGreatDoor
open Go Go.RowKit
set_option maxRecDepth 10000
def KQ(w:World):Prop:=w.cell? ⟨1,0,none⟩=some (.iface 231 (.agg #[uO 73]))
theorem KQ.below{w w':World}(h:KQ w)(hb:Below w.heap.size w w'):KQ w':=by
 have xD:=World.block_lt_of_cell? w _ h;unfold KQ;rw[hb.cell (p:=⟨1,0,none⟩) xD];exact h
def OJ(n:Int):Value:=if n=0 then .nilIface else .iface 33 (.int .i64 n)
def XT(n at_:Int)(w:World)(e:Ending)(w':World):Prop:=e = .returned (.tuple #[.int .i64 n,.int .i64 at_])/\Below w.heap.size w w'
theorem F9(w:World):Calls prog 30 #[.nilIface] w (XT 0 0 w):=by
 go_enter func30,ntmps30;go_wp2;go_ret2
 exact⟨rfl,((zv _ _).alloc (zf _) _).alloc (by simp) _⟩
theorem ey(n:Int)(w:World)(hE:KQ w):Calls prog 30 #[.iface 33 (.int .i64 n)] w (XT n 0 w):=by
 have HE:=zx hE;clear hE;go_enter func30,ntmps30;go_wp2_with fail;refine vZ ?_;intro W hW;have hb:Below w.heap.size w W:=by rw[hW];exact((zv _ _).alloc (zf _) _).alloc (by simp) _
 have hz:w.heap.size+2<=W.heap.size:=by rw[hW];simp
 have hA:W.cell? ⟨w.heap.size,0,none⟩=some (.pointer none)/\W.frozen? ⟨w.heap.size,0,none⟩=false:=by rw[hW];constructor<;>go_simp
 have hB:W.cell? ⟨w.heap.size+1,0,none⟩=some (.int .i64 0)/\W.frozen? ⟨w.heap.size+1,0,none⟩=false:=by rw[hW];constructor<;>go_simp
 clear hW;refine(rz n ⟨w.heap.size,0,none⟩ _ W (HE.out.below hb) hA.1 hA.2).mono ?_;rintro e w1 ⟨rfl,o1,o2,o3,Sg⟩;have xB:Below W.heap.size W w1:=by rw[Sg];exact(((zv _ _).alloc (zf _) _).alloc (by simp) _).alloc (by simp;omega) _
 have XX:w1.cell? ⟨w.heap.size+1,0,none⟩=some (.int .i64 0)/\w1.frozen? ⟨w.heap.size+1,0,none⟩=false :=
  ⟨by rw[xB.cell (by simp;omega)];exact hB.1,by rw[xB.frozen (by simp;omega)];exact hB.2⟩
 have vO:=hb.trans (xB.mono (by omega));have Uu:w.heap.size+2<=w1.heap.size:=by have:=xB.size;omega
 clear Sg hA hB xB hz;go_wp2_with fail;refine(cr n ⟨w.heap.size+1,0,none⟩ _ w1 (HE.out.below vO) XX.1 XX.2).mono ?_;rintro e w2 ⟨rfl,p1,p2,p3,p4,DU⟩;have xF:Below (w.heap.size+1) w1 w2:=by rw[DU];exact(((((zv _ _).alloc (by omega) _).alloc (by simp;omega) _).alloc (by simp;omega) _).alloc (by simp;omega) _).setCell (by simp) _
 have uK:=vO.trans (xF.mono (by omega));have hC:w2.cell? ⟨w.heap.size+1,0,none⟩=some (.int .i64 n):=by
  rw[DU,xg,if_pos rfl];rw[z7 _ _ _ (by simp;omega),z7 _ _ _ (by simp;omega),z7 _ _ _ (by simp;omega),z7 _ _ _ (by show w.heap.size+1<_;omega),XX.1];rfl
 clear DU xF XX;go_wp2;go_ret2
 exact⟨rfl,uK⟩
theorem Ev(n:Int)(w:World)(hE:KQ w):Calls prog 30 #[OJ n] w (XT n 0 w):=by
 unfold OJ;by_cases h:n=0
 ·subst h;rw[if_pos rfl];exact F9 w
 ·rw[if_neg h];exact ey n w hE
theorem QX(c:UInt8):∀ l:List UInt8,Lib.indexByte l c=if l.idxOf c<l.length then ((l.idxOf c:Nat):Int) else -1
 | []=>rfl
 | b::l=>by
  have ih:=QX c l;rw[Lib.indexByte,ih,List.idxOf_cons];by_cases h:b==c
  ·simp[h]
  ·simp only[h,cond_false,List.length_cons];by_cases h2:l.idxOf c<l.length
   ·rw[if_pos h2,if_pos (show l.idxOf c+1<l.length+1 by omega)];have h3:(((l.idxOf c:Nat):Int)==-1)=false:=by rw[beq_eq_false_iff_ne];omega
    rw[h3];simp
   ·rw[if_neg h2,if_neg (show ¬(l.idxOf c+1<l.length+1) by omega)];simp
theorem J0(s:ByteArray)(c:UInt8)(w:World)(hs:s.size<=1000000) :
  Calls prog 101 #[.string s,.string ⟨#[c]⟩] w fun e w' =>
   e = .returned (.tuple #[.string ⟨(s.data.toList.take (s.data.toList.idxOf c)).toArray⟩,.string ⟨(s.data.toList.drop (s.data.toList.idxOf c+1)).toArray⟩,.bool (decide (s.data.toList.idxOf c<s.size))])/\∃ n,w'=w.drewN n:=by
 have hx:=QX c s.data.toList;rw[xA] at hx;have HX:=zx hx;clear hx;go_enter func101,ntmps101;go_wp2_with fail;refine(Tryz.stringslite_Index_one s c _).mono ?_;rw[HX.out];rintro e w' ⟨rfl,rfl⟩;by_cases xD:s.data.toList.idxOf c<s.size
 ·rw[if_pos xD];generalize hk:s.data.toList.idxOf c=k at xD;have HK:=zx hk;clear hk;have hr:(k+1:Nat)<=s.size:=xD;go_wp2_with fail;go_quiet (fail)
  go_wp2;go_ret3
  rw[qD,qB,HK.out];exact⟨by simp[xD],nq,rfl⟩
 ·rw[if_neg xD];have hi:s.data.toList.idxOf c=s.size:=by have:=List.idxOf_le_length (a:=c) (l:=s.data.toList);simp only[xA] at this;omega
  have Hi:=zx hi;clear hi xD;go_wp2;go_ret3
  rw[Hi.out,G9,S8,zH (by simp)];exact⟨by simp,0,rfl⟩
theorem eu{w:World}{base size n:Nat}{e:TypeId}{v:Value}{xs:List Value}(h:w.ownsRow base e size v n xs):∃ a m k,v = .slice a m k:=by
 obtain⟨a,cap,hv⟩:=xd h;exact⟨a,n,cap,hv⟩
def ry(l:List UInt8)(w:World)(e:Ending)(w':World):Prop :=
 ∃ (b:Bool) (v:Value) (k:Int),e = .returned (.tuple #[.agg #[.bool b,v,.int .i64 k],.bool (uD l)])/\(∃ a n k',v = .slice a n k')/\Below w.heap.size w w' /\
  (uD l=true->b=YH l/\k=((u9 l).length:Int)/\w'.ownsRow w.heap.size 5 1 v ((vL l).length+(u9 l).length) (xw (vL l++u9 l)))
theorem OG(s:ByteArray)(l:List UInt8)(hl:s.data.toList=l)(w:World)(hs:s.size<=1000000) :
  Calls prog 66 #[.string s,.string ⟨#[46]⟩] w fun e w' =>
   e = .returned (.tuple #[xk (l.take (l.idxOf 46)),xk (l.drop (l.idxOf 46+1)),.bool (decide (l.idxOf 46<l.length))])/\∃ n,w'=w.drewN n:=by
 subst hl;go_enter func66,ntmps66;go_wp2_with fail;refine(J0 s 46 _ hs).mono ?_;rintro e w' ⟨rfl,n,rfl⟩;go_wp2;go_ret3
 exact⟨by rw[xA];rfl,n,rfl⟩
theorem TZ(l:List UInt8):zQ l [45]=VL l/\zE l [45]=YH l:=by
 cases l with
 | nil=>exact⟨rfl,rfl⟩
 | cons x l =>
  by_cases h:x=45
  ·subst h;simp[zQ,zE,VL,YH,zO]
  ·have h2:((45:UInt8)==x)=false:=by rw[beq_eq_false_iff_ne];exact fun e=>h e.symm
   simp[zQ,zE,VL,YH,zO,h,h2]
theorem gP{w:World}{base zz6 size n:Nat}{e:TypeId}{v:Value}{xs:List Value}(h:w.ownsRow base e size v n xs)(hb:zz6<=base):w.ownsRow zz6 e size v n xs :=
 ⟨h.1,h.2.imp id fun ⟨g,cap,cur,a,b,c⟩=>⟨g,cap,cur,a,Nat.le_trans hb b,c⟩⟩
def xW(l:List UInt8):List Int:=l.map fun c=>(c.toNat:Int) - 48
theorem zero_eq(l:List UInt8):(!(xW l).any (· != 0))=l.all (· == 48):=by
 induction l with
 | nil=>rfl
 | cons c l ih =>
  have h:(((c.toNat:Int) - 48) !=0) = !(c==48):=by
   have h2:=bY c 48;have h3:((48:UInt8).toNat:Int)=48:=rfl;rw[h3] at h2;by_cases h4:c=48
   ·subst h4;rfl
   ·have h5:(c==48)=false:=by simpa using h4
    rw[h5,zX,bne_iff_ne];intro h6;have h7:((c.toNat:Int)==48)=true:=by rw[beq_iff_eq];omega
    rw[h7] at h2;simp[h4] at h2
  simp only[xW,List.map_cons,List.any_cons,List.all_cons] at ih ⊢;rw[h,←ih];simp
theorem qM{w:World}{B n cap:Nat}{ad:Option Addr}{l:List UInt8}(h:w.ownsRow B 5 1 (.slice ad n cap) n (xw l))(hn:n=l.length):xK w ad (xW l):=by
 subst hn;intro j hj;have H8:j<l.length:=by simpa[xW] using hj
 obtain⟨g,ve,hv,_,_,hc⟩:=xl h (by omega)
 cases hv;refine⟨⟨g,0,none⟩,rfl,?_⟩;have:=hc j (by omega);rw[vS,this];simp[xw,xW,H8]
theorem xK.set{w:World}{a:Option Addr}{l:List Int}(h:xK w a l){p:Addr}(hp:∀ b,a=some b->b.block≠p.block)(u:Value):xK (w.setCell p u) a l:=fun j hj=>by
 obtain⟨b,hb,hc⟩:=h j hj;refine⟨b,hb,?_⟩;rw[←hc];exact World.cell?_of_block (zM _ _ _ _ (by rw[addr_add];exact hp b hb))
theorem KK(l:List UInt8)(n:Nat)(hn:n=l.length)(a:Option Addr)(c:Nat)(b:Bool)(sc:Int)(w:World)(hl:l.length<=1000000)(hc:xK w a (xW l)) :
  Calls prog 68 #[.agg #[.bool b,.slice a n c,.int .i64 sc]] w fun e w'=>e = .returned (.bool (l.all (· == 48)))/\Below w.heap.size w w':=by
 subst hn;have:=aP (xW l) a c b sc w (by simpa[xW] using hl) hc;rw[zero_eq] at this;simpa[xW] using this
theorem xp{w:World}{base size n:Nat}{e:TypeId}{v:Value}{xs:List Value}(h:w.ownsRow base e size v n xs){p:Addr}(hp:some p.block≠v.ownBlock)(u:Value):(w.setCell p u).ownsRow base e size v n xs :=
 h.kept (row:=some p.block) ⟨rfl,rfl,rfl,by simp,fun i _ xc=>zM _ _ _ _ (fun he=>xc (by rw[he]))⟩ (.inr (fun he=>hp he.symm))
theorem fH{w w':World}{base size n:Nat}{e:TypeId}{v:Value}{xs:List Value}(h:w.ownsRow base e size v n xs)(hb:Below w.heap.size w w'):w'.ownsRow base e size v n xs :=
 h.kept (row:=none) ⟨hb.os,hb.tape,hb.output,hb.size,fun i hi _=>hb.block i hi⟩ (by cases v.ownBlock<;>simp)
theorem ej{l wh fr:List UInt8}{pt:Bool}(hW:vL l=wh)(hF:u9 l=fr)(hP:YI l=pt)(hN:pt=false->fr=[])(h:¬((wh++fr).all xJ=true/\wh≠[]/\(pt=true->fr≠[])/\wh.length+fr.length<=30)):uD l=false:=by
 refine zqk hW hF hP fun ⟨h1,h2,h3⟩=>h ⟨?_,?_,?_,h3⟩
 ·simp only[vW,zN] at h1 h2;rw[zP,h1.1]
  cases pt with
  | false=>rw[hN rfl];rfl
  | true=>simp[(h2 rfl).1]
 ·intro e;subst e;simp[vW] at h1
 ·intro hp e;subst e;simp[vW] at h2;exact absurd hp (by simpa using h2)
theorem ru{l wh fr:List UInt8}{pt:Bool}(hW:vL l=wh)(hF:u9 l=fr)(hP:YI l=pt)(h1:(wh++fr).all xJ=true)(h2:wh≠[])(h3:pt=true->fr≠[])(h4:wh.length+fr.length<=30):Qj l=true:=by
 rw[zP,zN] at h1;refine pI hW hF hP (by simp[vW,h1.1,h2]) (fun hp=>by simp[vW,h1.2,h3 hp]) (by omega)
theorem Y4(s:ByteArray)(w:World)(hs:s.size<=1000000) :
  Calls prog 44 #[.string s] w (ry s.data.toList w):=by
 have hlen:(VL s.data.toList).length<=s.size:=by unfold VL;split<;>simp
 have hp:=TZ s.data.toList;have o6:=zx hp;generalize um:VL s.data.toList=al at hlen;have Hal:=zx um;clear um hp;go_enter func44,ntmps44;go_wp2_with fail;refine(Tryz.strings_CutPrefix s _ _).mono ?_;rintro e w' ⟨rfl,rfl⟩;have K6:zQ s.data.toList [45]=al:=o6.out.1.trans Hal.out;have j9:=o6.out.2;rw[show({ data:=#[45] }:ByteArray).data.toList=[45] from rfl,K6,j9];clear K6 j9;generalize hbq:YH s.data.toList=b;have HB:=zx hbq;clear hbq;go_wp2_with fail;refine(OG _ al (toList_mk al) _ (by rw[size_mk];omega)).mono ?_;rintro e w' ⟨rfl,nq,rfl⟩;have wH:(al.take (al.idxOf 46)).length+(al.drop (al.idxOf 46+1)).length<=s.size:=by simp;omega
 have hW:vL s.data.toList=al.take (al.idxOf 46):=by rw[vL,Hal.out]
 have hF:u9 s.data.toList=al.drop (al.idxOf 46+1):=by rw[u9,Hal.out]
 have hP:YI s.data.toList=decide (al.idxOf 46<al.length):=by rw[YI,Hal.out]
 have hN:decide (al.idxOf 46<al.length)=false->al.drop (al.idxOf 46+1)=[]:=by
  intro h;simp at h;exact zH (by omega)
 generalize al.take (al.idxOf 46)=wh at hW wH ⊢;generalize al.drop (al.idxOf 46+1)=fr at hF wH hN ⊢;generalize decide (al.idxOf 46<al.length)=pt at hP hN ⊢;have HW:=zx hW;have HF:=zx hF;have HP:=zx hP;have HN:=zx hN;clear hW hF hP hN;go_wp2_with fail;refine(Ox _ _ (by first|(rw[V9,size_mk];simp;omega)|simp;omega)).mono ?_;rw[V9,toList_mk];rintro e w' ⟨hv,hb⟩;have qP:w.heap.size+1<=w'.heap.size:=by have:=hb.size;simpa using this
 have hB:Below w.heap.size w w':=(below_drewN ((zv _ _).alloc (zf _) _) nq).trans (hb.mono (by simp));have gh:w'.cell? ⟨w.heap.size,0,none⟩=some (.bool b):=by rw[hb.cell (by simp)];go_simp
 have qX:w'.cell? ⟨w.heap.size,1,none⟩=some (.slice none 0 0):=by rw[hb.cell (by simp)];go_simp
 have jJ:w'.cell? ⟨w.heap.size,2,none⟩=some (.int .i64 0):=by rw[hb.cell (by simp)];go_simp
 have NV:w'.frozen? ⟨w.heap.size,0,none⟩=false:=by rw[hb.frozen (by simp)];go_simp
 have uy:w'.frozen? ⟨w.heap.size,1,none⟩=false:=by rw[hb.frozen (by simp)];go_simp
 have vu:w'.frozen? ⟨w.heap.size,2,none⟩=false:=by rw[hb.frozen (by simp)];go_simp
 have xV:∀ v,w'.ownsRow ((w.alloc (.cells #[.bool b,.slice none 0 0,.int .i64 0] 97)).drewN nq).heap.size 5 1 v (wh++fr).length (xw (wh++fr))->w'.ownsRow w.heap.size 5 1 v (wh++fr).length (xw (wh++fr)):=fun v h=>gP h (by simp)
 have QT:∀ v,w'.ownsRow ((w.alloc (.cells #[.bool b,.slice none 0 0,.int .i64 0] 97)).drewN nq).heap.size 5 1 v (wh++fr).length (xw (wh++fr))->some w.heap.size≠v.ownBlock:=fun v h e=>by have:=(World.ownsRow.lt h _ e.symm).1;simp at this;omega
 clear hb;by_cases qY:(wh++fr).all xJ=true
 ·rw[if_pos qY] at hv;obtain⟨v,rfl,vD⟩:=hv;have JH:=zx (eu vD);have Bj:=xV v vD;have DK:=QT v vD;clear xV QT vD;obtain⟨ad,cap,rfl⟩:=xd Bj;have XW:=zx qY;clear qY;have kS:(wh++fr).length=wh.length+fr.length:=by simp
  rw[kS] at Bj DK ⊢;have qV:=zx Bj;clear kS Bj;by_cases ZZ:¬(wh≠[]/\(pt=true->fr≠[])/\wh.length+fr.length<=30)
  ·have vA:=ej HW.out HF.out HP.out HN.out (fun h=>ZZ h.2);have kM:=zx vA;clear vA;go_wp2;all_goals first
    |(exfalso;refine ZZ ⟨by assumption,?_,?_⟩<;>first|(intro h;contradiction)|(intro _;assumption)|omega)
    |(refine bodyPost_ret (v := .tuple #[.agg #[.bool b,.slice none 0 0,.int .i64 0],.bool false]) ?_ rfl ?_
      focus(simp[results,results44,go_sem, *])
      refine⟨b,_,_,by rw[kM.out],by first|exact⟨_,_,_,rfl⟩|exact JH.out,?_,fun h=>by rw[kM.out] at h;cases h⟩;refine hB.trans ?_;(repeat(first|(with_reducible exact zv _ _)|(with_reducible refine below_drewN ?_ _)|(with_reducible refine zg ?_)|(with_reducible refine zj ?_ ?_ _;rotate_left;focus(first|(simp;done)|(simp;omega)))|(with_reducible refine zk ?_ ?_ _;rotate_left;focus(first|(simp;done)|(simp;omega)))))
      done)
  ·have Q6:wh≠[]/\(pt=true->fr≠[])/\wh.length+fr.length<=30:=Classical.not_not.1 ZZ;clear ZZ;obtain⟨Ze,ft,hg3⟩:=Q6;have Uw:=ru HW.out HF.out HP.out XW.out Ze ft hg3;have nG:=zx Uw;clear Uw;have h30:¬((30:Int)<(wh.length:Int)+(fr.length:Int)):=by omega
   have zk0:0<(zF wh.toArray).size:=by
    rw[size_mk]
    cases wh with
    | nil=>exact absurd rfl Ze
    | cons x l=>simp
   have TY:=zqj wh zk0;have H48:=zx TY;clear TY;have Uv:(pt=true/\¬fr=[])\/pt=false:=by
    cases pt
    ·exact .inr rfl
    ·exact .inl ⟨rfl,ft rfl⟩
   clear ft;rcases Uv with⟨Uv,Zu⟩|Uv;all_goals
    by_cases c1:(1:Int)<(wh.length:Int)
    ·by_cases c2:(((zF wh.toArray)[0].toNat:Int)==48)=true
     ·have vA:uD s.data.toList=false:=by
       rw[Gs HW.out HF.out HB.out nG.out,H48.out,c2];simp;omega
      have kM:=zx vA;clear vA;go_wp2;all_goals first
       |(exfalso;rename_i hh;simp[Ze,Zu] at hh;omega)|(exfalso;rename_i hh;simp[Ze] at hh;omega)
       | skip
      refine bodyPost_ret (v := .tuple #[.agg #[.bool b,.slice ad (wh.length+fr.length) cap,.int .i64 (fr.length:Int)],.bool false]) ?_ rfl ?_
      ·simp[results,results44,go_sem,xg, *]
      ·refine⟨b,_,_,by rw[kM.out],by first|exact⟨_,_,_,rfl⟩|exact JH.out,?_,fun h=>by rw[kM.out] at h;cases h⟩;refine hB.trans ?_;(repeat(first|(with_reducible exact zv _ _)|(with_reducible refine below_drewN ?_ _)|(with_reducible refine zg ?_)|(with_reducible refine zj ?_ ?_ _;rotate_left;focus(first|(simp;done)|(simp;omega)))|(with_reducible refine zk ?_ ?_ _;rotate_left;focus(first|(simp;done)|(simp;omega)))))
     ·have c2':(((zF wh.toArray)[0].toNat:Int)==48)=false:=by simpa using c2
      have vA:uD s.data.toList = !(b && (wh++fr).all (· == 48)):=by
       rw[Gs HW.out HF.out HB.out nG.out,H48.out,c2'];simp
      have kM:=zx vA;clear vA c2
      cases b
      ·have HR:=qV;simp only[zR,zX] at kM;go_wp2;all_goals first
        |(exfalso;rename_i hh;simp[Ze,Zu] at hh;omega)|(exfalso;rename_i hh;simp[Ze] at hh;omega)
        | skip
       refine bodyPost_ret (v := .tuple #[.agg #[.bool false,.slice ad (wh.length+fr.length) cap,.int .i64 (fr.length:Int)],.bool true]) ?_ rfl ?_
       ·simp[results,results44,go_sem,xg, *]
       ·refine⟨_,_,_,by rw[kM.out],by first|exact⟨_,_,_,rfl⟩|exact JH.out,?_,?_⟩
        ·refine hB.trans ?_;(repeat(first|(with_reducible exact zv _ _)|(with_reducible refine below_drewN ?_ _)|(with_reducible refine zg ?_)|(with_reducible refine zj ?_ ?_ _;rotate_left;focus(first|(simp;done)|(simp;omega)))|(with_reducible refine zk ?_ ?_ _;rotate_left;focus(first|(simp;done)|(simp;omega)))))
        ·intro _;rw[HW.out,HF.out];refine⟨HB.out.symm,rfl,?_⟩;(repeat(with_reducible refine xp ?_ DK _))
         exact HR.out
      ·simp only[Bool.true_and] at kM;go_wp2_with fail;all_goals first
        |(exfalso;rename_i hh;simp[Ze,Zu] at hh;omega)|(exfalso;rename_i hh;simp[Ze] at hh;omega)
        | skip
       refine(KK (wh++fr) (wh.length+fr.length) (by simp) ad cap true _ _ (by simp;omega) (((qM qV.out (by simp)).set ?_ _).set ?_ _)).mono ?_
       ·intro q hq he;subst hq;exact DK (by simp[zU];exact he.symm)
       ·intro q hq he;subst hq;exact DK (by simp[zU];exact he.symm)
       rintro e w2 ⟨rfl,xF⟩;have Kv:w.heap.size+1<=w2.heap.size:=by have:=xF.size;simp at this;omega
       have JV:Below w.heap.size w w2:=((hB.setCell (p:=⟨w.heap.size,1,none⟩) (zf _) _).setCell (p:=⟨w.heap.size,2,none⟩) (zf _) _).trans (xF.mono (by simp;omega));have aE:w2.cell? ⟨w.heap.size,0,none⟩=some (.bool true):=by rw[xF.cell (by simp;omega)];simp[xg,gh]
       have H7:w2.cell? ⟨w.heap.size,1,none⟩=some (.slice ad (wh.length+fr.length) cap):=by rw[xF.cell (by simp;omega)];simp[xg,qX]
       have Df:w2.cell? ⟨w.heap.size,2,none⟩=some (.int .i64 (fr.length:Int)):=by rw[xF.cell (by simp;omega)];simp[xg,jJ]
       have he0:w2.frozen? ⟨w.heap.size,0,none⟩=false:=by rw[xF.frozen (by simp;omega)];go_simp
       have Cp:w2.frozen? ⟨w.heap.size,1,none⟩=false:=by rw[xF.frozen (by simp;omega)];go_simp
       have Co:w2.frozen? ⟨w.heap.size,2,none⟩=false:=by rw[xF.frozen (by simp;omega)];go_simp
       have HR:=zx (fH (xp (xp qV.out DK _) DK _) xF);clear xF gh qX jJ NV uy vu;generalize (wh++fr).all (· == 48)=z at kM ⊢
       cases z
       ·simp only[zX] at kM;go_wp2;refine bodyPost_ret (v := .tuple #[.agg #[.bool true,.slice ad (wh.length+fr.length) cap,.int .i64 (fr.length:Int)],.bool true]) ?_ rfl ?_
        ·simp[results,results44,go_sem,xg, *]
        ·refine⟨_,_,_,by rw[kM.out],by first|exact⟨_,_,_,rfl⟩|exact JH.out,?_,?_⟩
         ·refine JV.trans ?_;(repeat(first|(with_reducible exact zv _ _)|(with_reducible refine below_drewN ?_ _)|(with_reducible refine zg ?_)|(with_reducible refine zj ?_ ?_ _;rotate_left;focus(first|(simp;done)|(simp;omega)))|(with_reducible refine zk ?_ ?_ _;rotate_left;focus(first|(simp;done)|(simp;omega)))))
         ·intro _;rw[HW.out,HF.out];refine⟨HB.out.symm,rfl,?_⟩;(repeat(with_reducible refine xp ?_ DK _))
          exact HR.out
       ·simp only[Bool.not_true] at kM;go_wp2;refine bodyPost_ret (v := .tuple #[.agg #[.bool true,.slice ad (wh.length+fr.length) cap,.int .i64 (fr.length:Int)],.bool false]) ?_ rfl ?_
        ·simp[results,results44,go_sem,xg, *]
        ·refine⟨_,_,_,by rw[kM.out],by first|exact⟨_,_,_,rfl⟩|exact JH.out,?_,?_⟩
         ·refine JV.trans ?_;(repeat(first|(with_reducible exact zv _ _)|(with_reducible refine below_drewN ?_ _)|(with_reducible refine zg ?_)|(with_reducible refine zj ?_ ?_ _;rotate_left;focus(first|(simp;done)|(simp;omega)))|(with_reducible refine zk ?_ ?_ _;rotate_left;focus(first|(simp;done)|(simp;omega)))))
         ·intro h;rw[kM.out] at h;cases h
    ·have vA:uD s.data.toList = !(b && (wh++fr).all (· == 48)):=by
      rw[Gs HW.out HF.out HB.out nG.out,decide_eq_false (by omega)];simp
     have kM:=zx vA;clear vA
     cases b
     ·have HR:=qV;simp only[zR,zX] at kM;go_wp2;all_goals first
       |(exfalso;rename_i hh;simp[Ze,Zu] at hh;omega)|(exfalso;rename_i hh;simp[Ze] at hh;omega)
       | skip
      refine bodyPost_ret (v := .tuple #[.agg #[.bool false,.slice ad (wh.length+fr.length) cap,.int .i64 (fr.length:Int)],.bool true]) ?_ rfl ?_
      ·simp[results,results44,go_sem,xg, *]
      ·refine⟨_,_,_,by rw[kM.out],by first|exact⟨_,_,_,rfl⟩|exact JH.out,?_,?_⟩
       ·refine hB.trans ?_;(repeat(first|(with_reducible exact zv _ _)|(with_reducible refine below_drewN ?_ _)|(with_reducible refine zg ?_)|(with_reducible refine zj ?_ ?_ _;rotate_left;focus(first|(simp;done)|(simp;omega)))|(with_reducible refine zk ?_ ?_ _;rotate_left;focus(first|(simp;done)|(simp;omega)))))
       ·intro _;rw[HW.out,HF.out];refine⟨HB.out.symm,rfl,?_⟩;(repeat(with_reducible refine xp ?_ DK _))
        exact HR.out
     ·simp only[Bool.true_and] at kM;go_wp2_with fail;all_goals first
       |(exfalso;rename_i hh;simp[Ze,Zu] at hh;omega)|(exfalso;rename_i hh;simp[Ze] at hh;omega)
       | skip
      refine(KK (wh++fr) (wh.length+fr.length) (by simp) ad cap true _ _ (by simp;omega) (((qM qV.out (by simp)).set ?_ _).set ?_ _)).mono ?_
      ·intro q hq he;subst hq;exact DK (by simp[zU];exact he.symm)
      ·intro q hq he;subst hq;exact DK (by simp[zU];exact he.symm)
      rintro e w2 ⟨rfl,xF⟩;have Kv:w.heap.size+1<=w2.heap.size:=by have:=xF.size;simp at this;omega
      have JV:Below w.heap.size w w2:=((hB.setCell (p:=⟨w.heap.size,1,none⟩) (zf _) _).setCell (p:=⟨w.heap.size,2,none⟩) (zf _) _).trans (xF.mono (by simp;omega));have aE:w2.cell? ⟨w.heap.size,0,none⟩=some (.bool true):=by rw[xF.cell (by simp;omega)];simp[xg,gh]
      have H7:w2.cell? ⟨w.heap.size,1,none⟩=some (.slice ad (wh.length+fr.length) cap):=by rw[xF.cell (by simp;omega)];simp[xg,qX]
      have Df:w2.cell? ⟨w.heap.size,2,none⟩=some (.int .i64 (fr.length:Int)):=by rw[xF.cell (by simp;omega)];simp[xg,jJ]
      have he0:w2.frozen? ⟨w.heap.size,0,none⟩=false:=by rw[xF.frozen (by simp;omega)];go_simp
      have Cp:w2.frozen? ⟨w.heap.size,1,none⟩=false:=by rw[xF.frozen (by simp;omega)];go_simp
      have Co:w2.frozen? ⟨w.heap.size,2,none⟩=false:=by rw[xF.frozen (by simp;omega)];go_simp
      have HR:=zx (fH (xp (xp qV.out DK _) DK _) xF);clear xF gh qX jJ NV uy vu;generalize (wh++fr).all (· == 48)=z at kM ⊢
      cases z
      ·simp only[zX] at kM;go_wp2;refine bodyPost_ret (v := .tuple #[.agg #[.bool true,.slice ad (wh.length+fr.length) cap,.int .i64 (fr.length:Int)],.bool true]) ?_ rfl ?_
       ·simp[results,results44,go_sem,xg, *]
       ·refine⟨_,_,_,by rw[kM.out],by first|exact⟨_,_,_,rfl⟩|exact JH.out,?_,?_⟩
        ·refine JV.trans ?_;(repeat(first|(with_reducible exact zv _ _)|(with_reducible refine below_drewN ?_ _)|(with_reducible refine zg ?_)|(with_reducible refine zj ?_ ?_ _;rotate_left;focus(first|(simp;done)|(simp;omega)))|(with_reducible refine zk ?_ ?_ _;rotate_left;focus(first|(simp;done)|(simp;omega)))))
        ·intro _;rw[HW.out,HF.out];refine⟨HB.out.symm,rfl,?_⟩;(repeat(with_reducible refine xp ?_ DK _))
         exact HR.out
      ·simp only[Bool.not_true] at kM;go_wp2;refine bodyPost_ret (v := .tuple #[.agg #[.bool true,.slice ad (wh.length+fr.length) cap,.int .i64 (fr.length:Int)],.bool false]) ?_ rfl ?_
       ·simp[results,results44,go_sem,xg, *]
       ·refine⟨_,_,_,by rw[kM.out],by first|exact⟨_,_,_,rfl⟩|exact JH.out,?_,?_⟩
        ·refine JV.trans ?_;(repeat(first|(with_reducible exact zv _ _)|(with_reducible refine below_drewN ?_ _)|(with_reducible refine zg ?_)|(with_reducible refine zj ?_ ?_ _;rotate_left;focus(first|(simp;done)|(simp;omega)))|(with_reducible refine zk ?_ ?_ _;rotate_left;focus(first|(simp;done)|(simp;omega)))))
        ·intro h;rw[kM.out] at h;cases h
 ·rw[if_neg qY] at hv;subst hv;have vA:=ej HW.out HF.out HP.out HN.out (fun h=>qY h.1);have kM:=zx vA;clear vA qY xV QT;go_wp2;refine bodyPost_ret (v := .tuple #[.agg #[.bool b,.slice none 0 0,.int .i64 0],.bool false]) ?_ rfl ?_
  ·simp[results,results44,go_sem, *]
  ·refine⟨b,_,_,by rw[kM.out],by first|exact⟨_,_,_,rfl⟩|exact JH.out,?_,fun h=>by rw[kM.out] at h;cases h⟩;refine hB.trans ?_;(repeat(first|(with_reducible exact zv _ _)|(with_reducible refine below_drewN ?_ _)|(with_reducible refine zg ?_)|(with_reducible refine zj ?_ ?_ _;rotate_left;focus(first|(simp;done)|(simp;omega)))|(with_reducible refine zk ?_ ?_ _;rotate_left;focus(first|(simp;done)|(simp;omega)))))
end Go.Proofs.YthpldolmpinnhaaGreatDoor
