import Derived.Test.YthpldolmpinnhaaGreatDoorJK21
import Derived.LaidEql
import Derived.Stop.Asserts
import Derived.RowKitTokens
import Derived.Test.YthpldolmpinnhaaGreatDoorShelf
set_option maxHeartbeats 64000000
open Go.World renaming cell?_alloc_lt→z7,frozen?_alloc_old→z8,cell?→zV,cell?_alloc_at→zI
open Go.Result renaming andThen→zy
open Go.Lib renaming hid→zx,trimPrefix→zQ,hasPrefix→zE
open Go.RowKit.Below renaming refl→zv,setCell→zk,alloc→zj,drew→zg,heap_setCell→zM
open Array renaming getElem?_eq_none→zu
open Nat renaming le_refl→zf,lt_or_ge→zY
open Go.Sem renaming run_bind→zZ
open Bool renaming not_false→zX,and_eq_true→zN,false_and→zR
open Go.Value renaming ownBlock→zU,int→zD
open Go.Instr renaming typeAssert→zJ
open Go.IntKind renaming u8→zG
open ByteArray renaming mk→zF
open List renaming drop_of_length_le→zH,isPrefixOf→zO,all_append→zP
open Go renaming method→zL
open Go.Proofs.Tryz
namespace Go.Proofs.YthpldolmpinnhaaGreatDoor
open Go Go.RowKit Go.Extern.Stop Go.Stop Go.Extern
set_option maxRecDepth 10000
abbrev uA(t:Nat):Value := .pointer (some ⟨12,t,none⟩)
theorem rlm(z:Sem Value)(f:TypeId->Addr->Nat->Nat->Sem Value)(v:Value) :
  ReflectliteValue.method z f #[v]=(do match ←ReflectliteValue.parts v with|none=>z|some (t,a,fl)=>f t a fl (fl % 32)):=rfl
theorem rls(v x:Value):ReflectliteValue.set #[v,x]=(do
  let (some (dst,a,fl),some (src,b,_)):=(←ReflectliteValue.parts v,←ReflectliteValue.parts x)
   | unsupported (.noEntry "extern/(internal/reflectlite.Value).Set.zeroValue")
  if fl / ReflectliteValue.flagAddr % 2==0 then unsupported (.noEntry "extern/(internal/reflectlite.Value).Set.unaddressable")
  let val ←loadVar src b
  if ←Rtype.directlyAssignable dst src then storeVar dst a val
  else if ←Rtype.implements dst src then
   if (←Rtype.kind src)==20 then
    match val with
    | .nilIface=>unsupported (.noEntry "extern/reflectlite: a nil value of one interface type handed on as a value of another")
    | _=>storeVar dst a val
   else storeVar dst a (.iface src val)
  else panicString ("reflectlite.Set: value of type " ++ (←Rtype.spelt src) ++ " is not assignable to type " ++ (←Rtype.spelt dst))
  pure (.tuple #[])):=rfl
theorem Vm(h:Value)(w:World):(zL 516 231 (.agg #[h]) "Kind").run prog w = .ok (300,h) w:=by kernel_rfl
theorem Vn(h:Value)(w:World):(zL 516 231 (.agg #[h]) "Elem").run prog w = .ok (316,.agg #[h]) w:=by kernel_rfl
theorem fZ(h:Value)(w:World):(zL 516 231 (.agg #[h]) "Implements").run prog w = .ok (317,.agg #[h]) w:=by kernel_rfl
theorem jn(h:Value)(w:World):(zL 516 231 (.agg #[h]) "AssignableTo").run prog w = .ok (314,.agg #[h]) w:=by kernel_rfl
theorem Dw(t:Addr)(w:World):(ReflectliteValue.unpack (.iface 103 (.pointer (some t)))).run prog w
  = .ok (.agg #[uA 103,.pointer (some ⟨w.heap.size,0,none⟩),.int .u64 150]) (w.alloc (.cells #[.pointer (some t)] 103)):=by kernel_rfl
theorem AN(a:Addr)(w:World):(ReflectliteValue.methodAny (ReflectliteValue.valueError "reflectlite.Value.Type" 0) (fun t _ _ _=>ReflectliteType.toType t) #[.agg #[uA 103,.pointer (some a),.int .u64 150]]).run prog w
  = .ok (.iface 231 (.agg #[uA 103])) w:=by kernel_rfl
theorem Pv(w:World):((ReflectliteType.abiMethod fun t=>(fun a:Nat=>zD zG (a:Int)) <$> Rtype.kind t) #[uA 103]).run prog w = .ok (.int .u8 22) w:=by kernel_rfl
theorem Pu(w:World):((ReflectliteType.abiMethod fun t=>(fun a:Nat=>zD zG (a:Int)) <$> Rtype.kind t) #[uA 101]).run prog w = .ok (.int .u8 22) w:=by kernel_rfl
theorem Pq(a:Addr)(w:World):(ReflectliteValue.parts (.agg #[uA 103,.pointer (some a),.int .u64 150])).run prog w = .ok (some (103,a,150)) w:=by kernel_rfl
theorem Pk(a p:Addr)(W:World)(ha:W.cell? a=some (.pointer (some p))) :
  (ReflectliteValue.method (ReflectliteValue.valueError "reflectlite.Value.IsNil" 0) ReflectliteValue.isNil #[.agg #[uA 103,.pointer (some a),.int .u64 150]]).run prog W = .ok (.bool false) W:=by
 rw[rlm];simp only[zZ,Pq,zy];simp[ReflectliteValue.isNil,loadVar,isAgg,underlying,underlying103,ha,zy]
theorem AO(w:World):(ReflectliteType.method ReflectliteType.elem #[.agg #[uA 103]]).run prog w = .ok (.iface 231 (.agg #[uA 101])) w:=by kernel_rfl
theorem AP(w:World):(ReflectliteType.relation "Implements" ReflectliteType.implements_ #[.agg #[uA 101],.iface 231 (.agg #[uA 73])]).run prog w = .ok (.bool true) w:=by kernel_rfl
theorem AR(w:World):(Rtype.elem? 103).run prog w = .ok (some 101) w:=by kernel_rfl
theorem ykv(p:Addr)(w:World):(ReflectliteValue.mk 101 p ReflectliteValue.flagAddr).run prog w = .ok (.agg #[uA 101,.pointer (some p),.int .u64 406]) w:=by kernel_rfl
theorem nN(a p:Addr)(W:World)(ha:W.cell? a=some (.pointer (some p))) :
  (ReflectliteValue.method (ReflectliteValue.valueError "reflectlite.Value.Elem" 0) ReflectliteValue.elem #[.agg #[uA 103,.pointer (some a),.int .u64 150]]).run prog W
   = .ok (.agg #[uA 101,.pointer (some p),.int .u64 406]) W:=by
 rw[rlm];simp only[zZ,Pq,zy];simp[ReflectliteValue.elem,loadVar,isAgg,underlying,underlying103,ha,zy,AR,ykv]
theorem AS(a:Addr)(w:World):(ReflectliteValue.parts (.agg #[uA 101,.pointer (some a),.int .u64 406])).run prog w = .ok (some (101,a,406)) w:=by kernel_rfl
theorem S4(t:Addr)(w:World):(ReflectliteValue.unpack (.iface 106 (.pointer (some t)))).run prog w
  = .ok (.agg #[uA 106,.pointer (some ⟨w.heap.size,0,none⟩),.int .u64 150]) (w.alloc (.cells #[.pointer (some t)] 106)):=by kernel_rfl
theorem zx8(a:Addr)(w:World):(ReflectliteValue.methodAny (ReflectliteValue.valueError "reflectlite.Value.Type" 0) (fun t _ _ _=>ReflectliteType.toType t) #[.agg #[uA 106,.pointer (some a),.int .u64 150]]).run prog w
  = .ok (.iface 231 (.agg #[uA 106])) w:=by kernel_rfl
theorem nO(w:World):((ReflectliteType.abiMethod fun t=>(fun a:Nat=>zD zG (a:Int)) <$> Rtype.kind t) #[uA 106]).run prog w = .ok (.int .u8 22) w:=by kernel_rfl
theorem nR(w:World):((ReflectliteType.abiMethod fun t=>(fun a:Nat=>zD zG (a:Int)) <$> Rtype.kind t) #[uA 33]).run prog w = .ok (.int .u8 2) w:=by kernel_rfl
theorem Pj(a:Addr)(w:World):(ReflectliteValue.parts (.agg #[uA 106,.pointer (some a),.int .u64 150])).run prog w = .ok (some (106,a,150)) w:=by kernel_rfl
theorem nS(a p:Addr)(W:World)(ha:W.cell? a=some (.pointer (some p))) :
  (ReflectliteValue.method (ReflectliteValue.valueError "reflectlite.Value.IsNil" 0) ReflectliteValue.isNil #[.agg #[uA 106,.pointer (some a),.int .u64 150]]).run prog W = .ok (.bool false) W:=by
 rw[rlm];simp only[zZ,Pj,zy];simp[ReflectliteValue.isNil,loadVar,isAgg,underlying,underlying106,ha,zy]
theorem zx9(w:World):(ReflectliteType.method ReflectliteType.elem #[.agg #[uA 106]]).run prog w = .ok (.iface 231 (.agg #[uA 33])) w:=by kernel_rfl
theorem zxz(w:World):(ReflectliteType.relation "Implements" ReflectliteType.implements_ #[.agg #[uA 33],.iface 231 (.agg #[uA 73])]).run prog w = .ok (.bool true) w:=by kernel_rfl
theorem AT(w:World):(Rtype.elem? 106).run prog w = .ok (some 33) w:=by kernel_rfl
theorem yku(p:Addr)(w:World):(ReflectliteValue.mk 33 p ReflectliteValue.flagAddr).run prog w = .ok (.agg #[uA 33,.pointer (some p),.int .u64 386]) w:=by kernel_rfl
theorem nT(a p:Addr)(W:World)(ha:W.cell? a=some (.pointer (some p))) :
  (ReflectliteValue.method (ReflectliteValue.valueError "reflectlite.Value.Elem" 0) ReflectliteValue.elem #[.agg #[uA 106,.pointer (some a),.int .u64 150]]).run prog W
   = .ok (.agg #[uA 33,.pointer (some p),.int .u64 386]) W:=by
 rw[rlm];simp only[zZ,Pj,zy];simp[ReflectliteValue.elem,loadVar,isAgg,underlying,underlying106,ha,zy,AT,yku]
theorem AW(a:Addr)(w:World):(ReflectliteValue.parts (.agg #[uA 33,.pointer (some a),.int .u64 386])).run prog w = .ok (some (33,a,386)) w:=by kernel_rfl
theorem AA(v:Value)(w:World):(ReflectliteType.typeOf #[.iface 101 v]).run prog w = .ok (.iface 231 (.agg #[uA 101])) w:=by kernel_rfl
theorem Aa(w:World):(ReflectliteType.relation "AssignableTo" ReflectliteType.assignableTo #[.agg #[uA 101],.iface 231 (.agg #[uA 101])]).run prog w = .ok (.bool true) w:=by kernel_rfl
theorem Nk(e:Addr)(w:World):(ReflectliteValue.unpack (.iface 101 (.pointer (some e)))).run prog w
  = .ok (.agg #[uA 101,.pointer (some ⟨w.heap.size,0,none⟩),.int .u64 150]) (w.alloc (.cells #[.pointer (some e)] 101)):=by kernel_rfl
theorem Ac(a:Addr)(w:World):(ReflectliteValue.parts (.agg #[uA 101,.pointer (some a),.int .u64 150])).run prog w = .ok (some (101,a,150)) w:=by kernel_rfl
theorem Ae(w:World):(Rtype.directlyAssignable 101 101).run prog w = .ok true w:=by kernel_rfl
theorem ze7(ta b:Addr)(e:Addr)(OV:Value)(W:World)(hb:W.cell? b=some (.pointer (some e)))(ht:W.cell? ta=some OV)(hf:W.frozen? ta=false) :
  (ReflectliteValue.set #[.agg #[uA 101,.pointer (some ta),.int .u64 406],.agg #[uA 101,.pointer (some b),.int .u64 150]]).run prog W
   = .ok (.tuple #[]) (W.setCell ta (.pointer (some e))):=by
 rw[rls];simp only[zZ,AS,Ac,zy];simp[ReflectliteValue.flagAddr,loadVar,isAgg,underlying,underlying101,hb,zy,Ae,storeVar,Value.cells,storeCells,Addr.add];rw[run_store prog W ta _ _ (by rfl)];simp[ht,hf]
theorem Ik(v:Value)(w:World):(ReflectliteType.typeOf #[.iface 33 v]).run prog w = .ok (.iface 231 (.agg #[uA 33])) w:=by kernel_rfl
theorem Ai(w:World):(ReflectliteType.relation "AssignableTo" ReflectliteType.assignableTo #[.agg #[uA 33],.iface 231 (.agg #[uA 33])]).run prog w = .ok (.bool true) w:=by kernel_rfl
theorem Nj(e:Int)(w:World):(ReflectliteValue.unpack (.iface 33 (.int .i64 e))).run prog w
  = .ok (.agg #[uA 33,.pointer (some ⟨w.heap.size,0,none⟩),.int .u64 130]) (w.alloc (.cells #[.int .i64 e] 33)):=by kernel_rfl
theorem Al(a:Addr)(w:World):(ReflectliteValue.parts (.agg #[uA 33,.pointer (some a),.int .u64 130])).run prog w = .ok (some (33,a,130)) w:=by kernel_rfl
theorem Am(w:World):(Rtype.directlyAssignable 33 33).run prog w = .ok true w:=by kernel_rfl
theorem ze8(ta b:Addr)(e:Int)(OV:Value)(W:World)(hb:W.cell? b=some (.int .i64 e))(ht:W.cell? ta=some OV)(hf:W.frozen? ta=false) :
  (ReflectliteValue.set #[.agg #[uA 33,.pointer (some ta),.int .u64 386],.agg #[uA 33,.pointer (some b),.int .u64 130]]).run prog W
   = .ok (.tuple #[]) (W.setCell ta (.int .i64 e)):=by
 rw[rls];simp only[zZ,AW,Al,zy];simp[ReflectliteValue.flagAddr,loadVar,isAgg,underlying,underlying33,hb,zy,Am,storeVar,Value.cells,storeCells,Addr.add];rw[run_store prog W ta _ _ (by rfl)];simp[ht,hf]
theorem Ij(w:World):(ReflectliteType.relation "AssignableTo" ReflectliteType.assignableTo #[.agg #[uA 33],.iface 231 (.agg #[uA 101])]).run prog w = .ok (.bool false) w:=by kernel_rfl
theorem zxy(v:Value)(xT:TypeId)(w:World):(zJ (.iface 33 v) xT 236 true).run prog w = .ok (.tuple #[.nilIface,.bool false]) w:=run_typeAssert_lacksB underlying236 (by kernel_rfl) (by kernel_rfl) v xT w
theorem Ng(v:Value)(xT:TypeId)(w:World):(zJ (.iface 33 v) xT 239 true).run prog w = .ok (.tuple #[.nilIface,.bool false]) w:=run_typeAssert_lacksB underlying239 (by kernel_rfl) (by kernel_rfl) v xT w
theorem Ig(v:Value)(xT:TypeId)(w:World):(zJ (.iface 33 v) xT 241 true).run prog w = .ok (.tuple #[.nilIface,.bool false]) w:=run_typeAssert_lacksB underlying241 (by kernel_rfl) (by kernel_rfl) v xT w
theorem An(e t:Addr)(OV:Value)(w:World)(hg:w.cell? ⟨1,0,none⟩=some (.iface 231 (.agg #[uA 73])))(OP:w.cell? t=some OV)(TD:w.frozen? t=false) :
  Calls prog 46 #[.iface 101 (.pointer (some e)),.iface 103 (.pointer (some t))] w fun ev w'=>ev = .returned (.bool true)/\∃ o1 o2 o3 o4:Obj,w'=((((w.alloc o1).alloc o2).alloc o3).alloc o4).setCell t (.pointer (some e)):=by
 have h0:=@run_callFunc_extern prog 74 _ (fun args=>ReflectliteValue.unpack (args.getD 0 (.tuple #[]))) func74 (by kernel_rfl) (by kernel_rfl) (by kernel_rfl) (by kernel_rfl);have h1:=@run_callFunc_extern prog 75 _ (ReflectliteValue.methodAny (ReflectliteValue.valueError "reflectlite.Value.Type" 0) (fun t _ _ _=>ReflectliteType.toType t)) func75 (by kernel_rfl) (by kernel_rfl) (by kernel_rfl) (by kernel_rfl);have h2:=@run_callFunc_extern prog 76 _ (ReflectliteValue.method (ReflectliteValue.valueError "reflectlite.Value.IsNil" 0) ReflectliteValue.isNil) func76 (by kernel_rfl) (by kernel_rfl) (by kernel_rfl) (by kernel_rfl);have h3:=@run_callFunc_extern prog 300 _ (ReflectliteType.abiMethod fun t=>do pure (.int .u8 (←Rtype.kind t))) func300 (by kernel_rfl) (by kernel_rfl) (by kernel_rfl) (by kernel_rfl);have h4:=@run_callFunc_extern prog 316 _ (ReflectliteType.method ReflectliteType.elem) func316 (by kernel_rfl) (by kernel_rfl) (by kernel_rfl) (by kernel_rfl);have h5:=@run_callFunc_extern prog 317 _ (ReflectliteType.relation "Implements" ReflectliteType.implements_) func317 (by kernel_rfl) (by kernel_rfl) (by kernel_rfl) (by kernel_rfl);have h6:=@run_callFunc_extern prog 106 _ (ReflectliteType.typeOf) func106 (by kernel_rfl) (by kernel_rfl) (by kernel_rfl) (by kernel_rfl);have h7:=@run_callFunc_extern prog 314 _ (ReflectliteType.relation "AssignableTo" ReflectliteType.assignableTo) func314 (by kernel_rfl) (by kernel_rfl) (by kernel_rfl) (by kernel_rfl);have h8:=@run_callFunc_extern prog 107 _ (ReflectliteValue.method (ReflectliteValue.valueError "reflectlite.Value.Elem" 0) ReflectliteValue.elem) func107 (by kernel_rfl) (by kernel_rfl) (by kernel_rfl) (by kernel_rfl);have h9:=@run_callFunc_extern prog 108 _ (ReflectliteValue.set) func108 (by kernel_rfl) (by kernel_rfl) (by kernel_rfl) (by kernel_rfl);have mK:=Vm;have mE:=Vn;have mI:=fZ;have mA:=jn;have f1:=Dw;have f2:=AN;have f3:=Pv;have f4:=Pu;have f5:=AO;have f6:=AP;have n8:=Pk ⟨w.heap.size,0,none⟩ t ((w.alloc (.cells #[.pointer (some t)] 103)).alloc (.cells #[uA 103,.pointer (some ⟨w.heap.size,0,none⟩),.int .u64 150] 162)) (by simp);have xC:1<w.heap.size:=by
  rcases zY 1 w.heap.size with h|h
  ·exact h
  ·exfalso;rw[zV,zu h] at hg
   cases hg
 have dV:((w.alloc (.cells #[.pointer (some t)] 103)).alloc (.cells #[uA 103,.pointer (some ⟨w.heap.size,0,none⟩),.int .u64 150] 162)).cell? ⟨1,0,none⟩=some (.iface 231 (.agg #[uA 73])):=by
  rw[z7 _ _ ⟨1,0,none⟩ (by simp<;>omega),z7 _ _ ⟨1,0,none⟩ xC];exact hg
 have Jd:t.block<w.heap.size:=by
  rcases zY t.block w.heap.size with h|h
  ·exact h
  ·simp[zV,zu h] at OP
 have el:=nN ⟨w.heap.size,0,none⟩ t (((w.alloc (.cells #[.pointer (some t)] 103)).alloc (.cells #[uA 103,.pointer (some ⟨w.heap.size,0,none⟩),.int .u64 150] 162)).alloc (.cells #[uA 103,.pointer (some ⟨w.heap.size,0,none⟩),.int .u64 150] 162)) (by rw[z7 _ _ ⟨w.heap.size,0,none⟩ (by simp;omega)];simp);have tO:=AA;have aT:=Aa;have vT:=Nk;have st:=ze7 t ⟨w.heap.size+1+1+1,0,none⟩ e OV ((((w.alloc (.cells #[.pointer (some t)] 103)).alloc (.cells #[uA 103,.pointer (some ⟨w.heap.size,0,none⟩),.int .u64 150] 162)).alloc (.cells #[uA 103,.pointer (some ⟨w.heap.size,0,none⟩),.int .u64 150] 162)).alloc (.cells #[.pointer (some e)] 101))
  (by rw[zI _ _ _ _ (by simp)];rfl)
  (by rw[z7 _ _ t (by simp;omega),z7 _ _ t (by simp;omega),z7 _ _ t (by simp;omega),z7 _ _ t Jd];exact OP)
  (by rw[z8 _ _ t (by simp;omega),z8 _ _ t (by simp;omega),z8 _ _ t (by simp;omega),z8 _ _ t (Nat.ne_of_lt Jd)];exact TD)
 go_enter func46,ntmps46;go_wp2;refine wp_loop_rounds 1 ?_;rw[rounds_succ];go_wp2;go_ret;exact⟨rfl,_,_,_,_,rfl⟩
theorem Ao(e:Int)(t:Addr)(OV:Value)(w:World)(hg:w.cell? ⟨1,0,none⟩=some (.iface 231 (.agg #[uA 73])))(OP:w.cell? t=some OV)(TD:w.frozen? t=false) :
  Calls prog 46 #[.iface 33 (.int .i64 e),.iface 106 (.pointer (some t))] w fun ev w'=>ev = .returned (.bool true)/\∃ o1 o2 o3 o4:Obj,w'=((((w.alloc o1).alloc o2).alloc o3).alloc o4).setCell t (.int .i64 e):=by
 have h0:=@run_callFunc_extern prog 74 _ (fun args=>ReflectliteValue.unpack (args.getD 0 (.tuple #[]))) func74 (by kernel_rfl) (by kernel_rfl) (by kernel_rfl) (by kernel_rfl);have h1:=@run_callFunc_extern prog 75 _ (ReflectliteValue.methodAny (ReflectliteValue.valueError "reflectlite.Value.Type" 0) (fun t _ _ _=>ReflectliteType.toType t)) func75 (by kernel_rfl) (by kernel_rfl) (by kernel_rfl) (by kernel_rfl);have h2:=@run_callFunc_extern prog 76 _ (ReflectliteValue.method (ReflectliteValue.valueError "reflectlite.Value.IsNil" 0) ReflectliteValue.isNil) func76 (by kernel_rfl) (by kernel_rfl) (by kernel_rfl) (by kernel_rfl);have h3:=@run_callFunc_extern prog 300 _ (ReflectliteType.abiMethod fun t=>do pure (.int .u8 (←Rtype.kind t))) func300 (by kernel_rfl) (by kernel_rfl) (by kernel_rfl) (by kernel_rfl);have h4:=@run_callFunc_extern prog 316 _ (ReflectliteType.method ReflectliteType.elem) func316 (by kernel_rfl) (by kernel_rfl) (by kernel_rfl) (by kernel_rfl);have h5:=@run_callFunc_extern prog 317 _ (ReflectliteType.relation "Implements" ReflectliteType.implements_) func317 (by kernel_rfl) (by kernel_rfl) (by kernel_rfl) (by kernel_rfl);have h6:=@run_callFunc_extern prog 106 _ (ReflectliteType.typeOf) func106 (by kernel_rfl) (by kernel_rfl) (by kernel_rfl) (by kernel_rfl);have h7:=@run_callFunc_extern prog 314 _ (ReflectliteType.relation "AssignableTo" ReflectliteType.assignableTo) func314 (by kernel_rfl) (by kernel_rfl) (by kernel_rfl) (by kernel_rfl);have h8:=@run_callFunc_extern prog 107 _ (ReflectliteValue.method (ReflectliteValue.valueError "reflectlite.Value.Elem" 0) ReflectliteValue.elem) func107 (by kernel_rfl) (by kernel_rfl) (by kernel_rfl) (by kernel_rfl);have h9:=@run_callFunc_extern prog 108 _ (ReflectliteValue.set) func108 (by kernel_rfl) (by kernel_rfl) (by kernel_rfl) (by kernel_rfl);have mK:=Vm;have mE:=Vn;have mI:=fZ;have mA:=jn;have f1:=S4;have f2:=zx8;have f3:=nO;have f4:=nR;have f5:=zx9;have f6:=zxz;have n8:=nS ⟨w.heap.size,0,none⟩ t ((w.alloc (.cells #[.pointer (some t)] 106)).alloc (.cells #[uA 106,.pointer (some ⟨w.heap.size,0,none⟩),.int .u64 150] 162)) (by simp);have xC:1<w.heap.size:=by
  rcases zY 1 w.heap.size with h|h
  ·exact h
  ·exfalso;rw[zV,zu h] at hg
   cases hg
 have dV:((w.alloc (.cells #[.pointer (some t)] 106)).alloc (.cells #[uA 106,.pointer (some ⟨w.heap.size,0,none⟩),.int .u64 150] 162)).cell? ⟨1,0,none⟩=some (.iface 231 (.agg #[uA 73])):=by
  rw[z7 _ _ ⟨1,0,none⟩ (by simp<;>omega),z7 _ _ ⟨1,0,none⟩ xC];exact hg
 have Jd:t.block<w.heap.size:=by
  rcases zY t.block w.heap.size with h|h
  ·exact h
  ·simp[zV,zu h] at OP
 have el:=nT ⟨w.heap.size,0,none⟩ t (((w.alloc (.cells #[.pointer (some t)] 106)).alloc (.cells #[uA 106,.pointer (some ⟨w.heap.size,0,none⟩),.int .u64 150] 162)).alloc (.cells #[uA 106,.pointer (some ⟨w.heap.size,0,none⟩),.int .u64 150] 162)) (by rw[z7 _ _ ⟨w.heap.size,0,none⟩ (by simp;omega)];simp);have tO:=Ik;have aT:=Ai;have vT:=Nj;have st:=ze8 t ⟨w.heap.size+1+1+1,0,none⟩ e OV ((((w.alloc (.cells #[.pointer (some t)] 106)).alloc (.cells #[uA 106,.pointer (some ⟨w.heap.size,0,none⟩),.int .u64 150] 162)).alloc (.cells #[uA 106,.pointer (some ⟨w.heap.size,0,none⟩),.int .u64 150] 162)).alloc (.cells #[.int .i64 e] 33))
  (by rw[zI _ _ _ _ (by simp)];rfl)
  (by rw[z7 _ _ t (by simp;omega),z7 _ _ t (by simp;omega),z7 _ _ t (by simp;omega),z7 _ _ t Jd];exact OP)
  (by rw[z8 _ _ t (by simp;omega),z8 _ _ t (by simp;omega),z8 _ _ t (by simp;omega),z8 _ _ t (Nat.ne_of_lt Jd)];exact TD)
 go_enter func46,ntmps46;go_wp2;refine wp_loop_rounds 1 ?_;rw[rounds_succ];go_wp2;go_ret;exact⟨rfl,_,_,_,_,rfl⟩
theorem ni(e:Int)(t:Addr)(OV:Value)(w:World)(hg:w.cell? ⟨1,0,none⟩=some (.iface 231 (.agg #[uA 73])))(OP:w.cell? t=some OV)(TD:w.frozen? t=false) :
  Calls prog 46 #[.iface 33 (.int .i64 e),.iface 103 (.pointer (some t))] w fun ev w'=>ev = .returned (.bool false)/\∃ o1 o2 o3:Obj,w'=((w.alloc o1).alloc o2).alloc o3:=by
 have h0:=@run_callFunc_extern prog 74 _ (fun args=>ReflectliteValue.unpack (args.getD 0 (.tuple #[]))) func74 (by kernel_rfl) (by kernel_rfl) (by kernel_rfl) (by kernel_rfl);have h1:=@run_callFunc_extern prog 75 _ (ReflectliteValue.methodAny (ReflectliteValue.valueError "reflectlite.Value.Type" 0) (fun t _ _ _=>ReflectliteType.toType t)) func75 (by kernel_rfl) (by kernel_rfl) (by kernel_rfl) (by kernel_rfl);have h2:=@run_callFunc_extern prog 76 _ (ReflectliteValue.method (ReflectliteValue.valueError "reflectlite.Value.IsNil" 0) ReflectliteValue.isNil) func76 (by kernel_rfl) (by kernel_rfl) (by kernel_rfl) (by kernel_rfl);have h3:=@run_callFunc_extern prog 300 _ (ReflectliteType.abiMethod fun t=>do pure (.int .u8 (←Rtype.kind t))) func300 (by kernel_rfl) (by kernel_rfl) (by kernel_rfl) (by kernel_rfl);have h4:=@run_callFunc_extern prog 316 _ (ReflectliteType.method ReflectliteType.elem) func316 (by kernel_rfl) (by kernel_rfl) (by kernel_rfl) (by kernel_rfl);have h5:=@run_callFunc_extern prog 317 _ (ReflectliteType.relation "Implements" ReflectliteType.implements_) func317 (by kernel_rfl) (by kernel_rfl) (by kernel_rfl) (by kernel_rfl);have h6:=@run_callFunc_extern prog 106 _ (ReflectliteType.typeOf) func106 (by kernel_rfl) (by kernel_rfl) (by kernel_rfl) (by kernel_rfl);have h7:=@run_callFunc_extern prog 314 _ (ReflectliteType.relation "AssignableTo" ReflectliteType.assignableTo) func314 (by kernel_rfl) (by kernel_rfl) (by kernel_rfl) (by kernel_rfl);have h8:=@run_callFunc_extern prog 107 _ (ReflectliteValue.method (ReflectliteValue.valueError "reflectlite.Value.Elem" 0) ReflectliteValue.elem) func107 (by kernel_rfl) (by kernel_rfl) (by kernel_rfl) (by kernel_rfl);have h9:=@run_callFunc_extern prog 108 _ (ReflectliteValue.set) func108 (by kernel_rfl) (by kernel_rfl) (by kernel_rfl) (by kernel_rfl);have mK:=Vm;have mE:=Vn;have mI:=fZ;have mA:=jn;have f1:=Dw;have f2:=AN;have f3:=Pv;have f4:=Pu;have f5:=AO;have f6:=AP;have n8:=Pk ⟨w.heap.size,0,none⟩ t ((w.alloc (.cells #[.pointer (some t)] 103)).alloc (.cells #[uA 103,.pointer (some ⟨w.heap.size,0,none⟩),.int .u64 150] 162)) (by simp);have xC:1<w.heap.size:=by
  rcases zY 1 w.heap.size with h|h
  ·exact h
  ·exfalso;rw[zV,zu h] at hg
   cases hg
 have dV:((w.alloc (.cells #[.pointer (some t)] 103)).alloc (.cells #[uA 103,.pointer (some ⟨w.heap.size,0,none⟩),.int .u64 150] 162)).cell? ⟨1,0,none⟩=some (.iface 231 (.agg #[uA 73])):=by
  rw[z7 _ _ ⟨1,0,none⟩ (by simp<;>omega),z7 _ _ ⟨1,0,none⟩ xC];exact hg
 have Jd:t.block<w.heap.size:=by
  rcases zY t.block w.heap.size with h|h
  ·exact h
  ·simp[zV,zu h] at OP
 have tO:=Ik;have aT:=Ij;have n1:=zxy;have n2:=Ng;have n3:=Ig;go_enter func46,ntmps46;go_wp2;refine wp_loop_rounds 1 ?_;rw[rounds_succ];go_wp2;go_ret;exact⟨rfl,_,_,_,rfl⟩
end Go.Proofs.YthpldolmpinnhaaGreatDoor
namespace Go.Proofs.YthpldolmpinnhaaGreatDoor
open Go Go.RowKit
set_option maxRecDepth 10000
def Qh(w:World):Prop:=w.cell? ⟨1,0,none⟩=some (.iface 231 (.agg #[uA 73]))
theorem Qh.below{w w':World}(h:Qh w)(hb:Below w.heap.size w w'):Qh w':=by
 have xC:=World.block_lt_of_cell? w _ h;unfold Qh;rw[hb.cell (p:=⟨1,0,none⟩) xC];exact h
def Ap(n:Int):Value:=if n=0 then .nilIface else .iface 33 (.int .i64 n)
def XX(n at_:Int)(w:World)(e:Ending)(w':World):Prop:=e = .returned (.tuple #[.int .i64 n,.int .i64 at_])/\Below w.heap.size w w'
theorem GF(w:World):Calls prog 30 #[.nilIface] w (XX 0 0 w):=by
 go_enter func30,ntmps30;go_wp2;go_ret2
 exact⟨rfl,((zv _ _).alloc (zf _) _).alloc (by simp) _⟩
theorem Ar(n:Int)(w:World)(hE:Qh w):Calls prog 30 #[.iface 33 (.int .i64 n)] w (XX n 0 w):=by
 have HE:=zx hE;clear hE;go_enter func30,ntmps30;go_wp2_with fail;refine vN ?_;intro W hW;have hb:Below w.heap.size w W:=by rw[hW];exact((zv _ _).alloc (zf _) _).alloc (by simp) _
 have hz:w.heap.size+2<=W.heap.size:=by rw[hW];simp
 have hA:W.cell? ⟨w.heap.size,0,none⟩=some (.pointer none)/\W.frozen? ⟨w.heap.size,0,none⟩=false:=by rw[hW];constructor<;>go_simp
 have hB:W.cell? ⟨w.heap.size+1,0,none⟩=some (.int .i64 0)/\W.frozen? ⟨w.heap.size+1,0,none⟩=false:=by rw[hW];constructor<;>go_simp
 clear hW;refine(ni n ⟨w.heap.size,0,none⟩ _ W (HE.out.below hb) hA.1 hA.2).mono ?_;rintro e w1 ⟨rfl,o1,o2,o3,R3⟩;have xB:Below W.heap.size W w1:=by rw[R3];exact(((zv _ _).alloc (zf _) _).alloc (by simp) _).alloc (by simp;omega) _
 have Yh:w1.cell? ⟨w.heap.size+1,0,none⟩=some (.int .i64 0)/\w1.frozen? ⟨w.heap.size+1,0,none⟩=false :=
  ⟨by rw[xB.cell (by simp;omega)];exact hB.1,by rw[xB.frozen (by simp;omega)];exact hB.2⟩
 have uH:=hb.trans (xB.mono (by omega));have UL:w.heap.size+2<=w1.heap.size:=by have:=xB.size;omega
 clear R3 hA hB xB hz;go_wp2_with fail;refine(Ao n ⟨w.heap.size+1,0,none⟩ _ w1 (HE.out.below uH) Yh.1 Yh.2).mono ?_;rintro e w2 ⟨rfl,p1,p2,p3,p4,FO⟩;have xD:Below (w.heap.size+1) w1 w2:=by rw[FO];exact(((((zv _ _).alloc (by omega) _).alloc (by simp;omega) _).alloc (by simp;omega) _).alloc (by simp;omega) _).setCell (by simp) _
 have qX:=uH.trans (xD.mono (by omega));have hC:w2.cell? ⟨w.heap.size+1,0,none⟩=some (.int .i64 n):=by
  rw[FO,xf,if_pos rfl];rw[z7 _ _ _ (by simp;omega),z7 _ _ _ (by simp;omega),z7 _ _ _ (by simp;omega),z7 _ _ _ (by show w.heap.size+1<_;omega),Yh.1];rfl
 clear FO xD Yh;go_wp2;go_ret2
 exact⟨rfl,qX⟩
theorem At(n:Int)(w:World)(hE:Qh w):Calls prog 30 #[Ap n] w (XX n 0 w):=by
 unfold Ap;by_cases h:n=0
 ·subst h;rw[if_pos rfl];exact GF w
 ·rw[if_neg h];exact Ar n w hE
theorem Up(c:UInt8):∀ l:List UInt8,Lib.indexByte l c=if l.idxOf c<l.length then ((l.idxOf c:Nat):Int) else -1
 | []=>rfl
 | b::l=>by
  have ih:=Up c l;rw[Lib.indexByte,ih,List.idxOf_cons];by_cases h:b==c
  ·simp[h]
  ·simp only[h,cond_false,List.length_cons];by_cases h2:l.idxOf c<l.length
   ·rw[if_pos h2,if_pos (show l.idxOf c+1<l.length+1 by omega)];have h3:(((l.idxOf c:Nat):Int)==-1)=false:=by rw[beq_eq_false_iff_ne];omega
    rw[h3];simp
   ·rw[if_neg h2,if_neg (show ¬(l.idxOf c+1<l.length+1) by omega)];simp
theorem KM(s:ByteArray)(c:UInt8)(w:World)(hs:s.size<=1000000) :
  Calls prog 101 #[.string s,.string ⟨#[c]⟩] w fun e w' =>
   e = .returned (.tuple #[.string ⟨(s.data.toList.take (s.data.toList.idxOf c)).toArray⟩,.string ⟨(s.data.toList.drop (s.data.toList.idxOf c+1)).toArray⟩,.bool (decide (s.data.toList.idxOf c<s.size))])/\∃ n,w'=w.drewN n:=by
 have hx:=Up c s.data.toList;rw[xi] at hx;have HX:=zx hx;clear hx;go_enter func101,ntmps101;go_wp2_with fail;refine(Tryz.stringslite_Index_one s c _).mono ?_;rw[HX.out];rintro e w' ⟨rfl,rfl⟩;by_cases xC:s.data.toList.idxOf c<s.size
 ·rw[if_pos xC];generalize hk:s.data.toList.idxOf c=k at xC;have HK:=zx hk;clear hk;have hr:(k+1:Nat)<=s.size:=xC;go_wp2_with fail;go_quiet (fail)
  go_wp2;go_ret3
  rw[qD,qB,HK.out];exact⟨by simp[xC],nq,rfl⟩
 ·rw[if_neg xC];have hi:s.data.toList.idxOf c=s.size:=by have:=List.idxOf_le_length (a:=c) (l:=s.data.toList);simp only[xi] at this;omega
  have Hi:=zx hi;clear hi xC;go_wp2;go_ret3
  rw[Hi.out,JI,Po,zH (by simp)];exact⟨by simp,0,rfl⟩
theorem Ah{w:World}{base size n:Nat}{e:TypeId}{v:Value}{xs:List Value}(h:w.ownsRow base e size v n xs):∃ a m k,v = .slice a m k:=by
 obtain⟨a,cap,hv⟩:=xZ h;exact⟨a,n,cap,hv⟩
def nl(l:List UInt8)(w:World)(e:Ending)(w':World):Prop :=
 ∃ (b:Bool) (v:Value) (k:Int),e = .returned (.tuple #[.agg #[.bool b,v,.int .i64 k],.bool (qg l)])/\(∃ a n k',v = .slice a n k')/\Below w.heap.size w w' /\
  (qg l=true->b=Vz l/\k=((ua l).length:Int)/\w'.ownsRow w.heap.size 5 1 v ((uv l).length+(ua l).length) (xh (uv l++ua l)))
theorem Nf(s:ByteArray)(l:List UInt8)(hl:s.data.toList=l)(w:World)(hs:s.size<=1000000) :
  Calls prog 66 #[.string s,.string ⟨#[46]⟩] w fun e w' =>
   e = .returned (.tuple #[xk (l.take (l.idxOf 46)),xk (l.drop (l.idxOf 46+1)),.bool (decide (l.idxOf 46<l.length))])/\∃ n,w'=w.drewN n:=by
 subst hl;go_enter func66,ntmps66;go_wp2_with fail;refine(KM s 46 _ hs).mono ?_;rintro e w' ⟨rfl,n,rfl⟩;go_wp2;go_ret3
 exact⟨by rw[xi];rfl,n,rfl⟩
theorem S5(l:List UInt8):zQ l [45]=V9 l/\zE l [45]=Vz l:=by
 cases l with
 | nil=>exact⟨rfl,rfl⟩
 | cons x l =>
  by_cases h:x=45
  ·subst h;simp[zQ,zE,V9,Vz,zO]
  ·have h2:((45:UInt8)==x)=false:=by rw[beq_eq_false_iff_ne];exact fun e=>h e.symm
   simp[zQ,zE,V9,Vz,zO,h,h2]
theorem gH{w:World}{base sx size n:Nat}{e:TypeId}{v:Value}{xs:List Value}(h:w.ownsRow base e size v n xs)(hb:sx<=base):w.ownsRow sx e size v n xs :=
 ⟨h.1,h.2.imp id fun ⟨g,cap,cur,a,b,c⟩=>⟨g,cap,cur,a,Nat.le_trans hb b,c⟩⟩
def xl(l:List UInt8):List Int:=l.map fun c=>(c.toNat:Int) - 48
theorem zero_eq(l:List UInt8):(!(xl l).any (· != 0))=l.all (· == 48):=by
 induction l with
 | nil=>rfl
 | cons c l ih =>
  have h:(((c.toNat:Int) - 48) !=0) = !(c==48):=by
   have h2:=dh c 48;have h3:((48:UInt8).toNat:Int)=48:=rfl;rw[h3] at h2;by_cases h4:c=48
   ·subst h4;rfl
   ·have h5:(c==48)=false:=by simpa using h4
    rw[h5,zX,bne_iff_ne];intro h6;have h7:((c.toNat:Int)==48)=true:=by rw[beq_iff_eq];omega
    rw[h7] at h2;simp[h4] at h2
  simp only[xl,List.map_cons,List.any_cons,List.all_cons] at ih ⊢;rw[h,←ih];simp
theorem qL{w:World}{B n cap:Nat}{ad:Option Addr}{l:List UInt8}(h:w.ownsRow B 5 1 (.slice ad n cap) n (xh l))(hn:n=l.length):xK w ad (xl l):=by
 subst hn;intro j hj;have TU:j<l.length:=by simpa[xl] using hj
 obtain⟨g,vh,hv,_,_,hc⟩:=vU h (by omega)
 cases hv;refine⟨⟨g,0,none⟩,rfl,?_⟩;have:=hc j (by omega);rw[ur,this];simp[xh,xl,TU]
theorem xK.set{w:World}{a:Option Addr}{l:List Int}(h:xK w a l){p:Addr}(hp:∀ b,a=some b->b.block≠p.block)(u:Value):xK (w.setCell p u) a l:=fun j hj=>by
 obtain⟨b,hb,hc⟩:=h j hj;refine⟨b,hb,?_⟩;rw[←hc];exact World.cell?_of_block (zM _ _ _ _ (by rw[addr_add];exact hp b hb))
theorem Qw(l:List UInt8)(n:Nat)(hn:n=l.length)(a:Option Addr)(c:Nat)(b:Bool)(sc:Int)(w:World)(hl:l.length<=1000000)(hc:xK w a (xl l)) :
  Calls prog 68 #[.agg #[.bool b,.slice a n c,.int .i64 sc]] w fun e w'=>e = .returned (.bool (l.all (· == 48)))/\Below w.heap.size w w':=by
 subst hn;have:=AY (xl l) a c b sc w (by simpa[xl] using hl) hc;rw[zero_eq] at this;simpa[xl] using this
theorem xc{w:World}{base size n:Nat}{e:TypeId}{v:Value}{xs:List Value}(h:w.ownsRow base e size v n xs){p:Addr}(hp:some p.block≠v.ownBlock)(u:Value):(w.setCell p u).ownsRow base e size v n xs :=
 h.kept (row:=some p.block) ⟨rfl,rfl,rfl,by simp,fun i _ vx=>zM _ _ _ _ (fun he=>vx (by rw[he]))⟩ (.inr (fun he=>hp he.symm))
theorem bu{w w':World}{base size n:Nat}{e:TypeId}{v:Value}{xs:List Value}(h:w.ownsRow base e size v n xs)(hb:Below w.heap.size w w'):w'.ownsRow base e size v n xs :=
 h.kept (row:=none) ⟨hb.os,hb.tape,hb.output,hb.size,fun i hi _=>hb.block i hi⟩ (by cases v.ownBlock<;>simp)
theorem Aw{l wh fr:List UInt8}{pt:Bool}(hW:uv l=wh)(hF:ua l=fr)(hP:Yf l=pt)(hN:pt=false->fr=[])(h:¬((wh++fr).all xF=true/\wh≠[]/\(pt=true->fr≠[])/\wh.length+fr.length<=30)):qg l=false:=by
 refine zyu hW hF hP fun ⟨h1,h2,h3⟩=>h ⟨?_,?_,?_,h3⟩
 ·simp only[vO,zN] at h1 h2;rw[zP,h1.1]
  cases pt with
  | false=>rw[hN rfl];rfl
  | true=>simp[(h2 rfl).1]
 ·intro e;subst e;simp[vO] at h1
 ·intro hp e;subst e;simp[vO] at h2;exact absurd hp (by simpa using h2)
theorem o6{l wh fr:List UInt8}{pt:Bool}(hW:uv l=wh)(hF:ua l=fr)(hP:Yf l=pt)(h1:(wh++fr).all xF=true)(h2:wh≠[])(h3:pt=true->fr≠[])(h4:wh.length+fr.length<=30):Uc l=true:=by
 rw[zP,zN] at h1;refine nU hW hF hP (by simp[vO,h1.1,h2]) (fun hp=>by simp[vO,h1.2,h3 hp]) (by omega)
theorem Xh(s:ByteArray)(w:World)(hs:s.size<=1000000) :
  Calls prog 44 #[.string s] w (nl s.data.toList w):=by
 have hlen:(V9 s.data.toList).length<=s.size:=by unfold V9;split<;>simp
 have hp:=S5 s.data.toList;have ly:=zx hp;generalize qz:V9 s.data.toList=al at hlen;have Hal:=zx qz;clear qz hp;go_enter func44,ntmps44;go_wp2_with fail;refine(Tryz.strings_CutPrefix s _ _).mono ?_;rintro e w' ⟨rfl,rfl⟩;have QL:zQ s.data.toList [45]=al:=ly.out.1.trans Hal.out;have j4:=ly.out.2;rw[show({ data:=#[45] }:ByteArray).data.toList=[45] from rfl,QL,j4];clear QL j4;generalize su:Vz s.data.toList=b;have HB:=zx su;clear su;go_wp2_with fail;refine(Nf _ al (toList_mk al) _ (by rw[size_mk];omega)).mono ?_;rintro e w' ⟨rfl,nq,rfl⟩;have rE:(al.take (al.idxOf 46)).length+(al.drop (al.idxOf 46+1)).length<=s.size:=by simp;omega
 have hW:uv s.data.toList=al.take (al.idxOf 46):=by rw[uv,Hal.out]
 have hF:ua s.data.toList=al.drop (al.idxOf 46+1):=by rw[ua,Hal.out]
 have hP:Yf s.data.toList=decide (al.idxOf 46<al.length):=by rw[Yf,Hal.out]
 have hN:decide (al.idxOf 46<al.length)=false->al.drop (al.idxOf 46+1)=[]:=by
  intro h;simp at h;exact zH (by omega)
 generalize al.take (al.idxOf 46)=wh at hW rE ⊢;generalize al.drop (al.idxOf 46+1)=fr at hF rE hN ⊢;generalize decide (al.idxOf 46<al.length)=pt at hP hN ⊢;have HW:=zx hW;have HF:=zx hF;have HP:=zx hP;have HN:=zx hN;clear hW hF hP hN;go_wp2_with fail;refine(N1 _ _ (by first|(rw[Xa,size_mk];simp;omega)|simp;omega)).mono ?_;rw[Xa,toList_mk];rintro e w' ⟨hv,hb⟩;have qa:w.heap.size+1<=w'.heap.size:=by have:=hb.size;simpa using this
 have hB:Below w.heap.size w w':=(below_drewN ((zv _ _).alloc (zf _) _) nq).trans (hb.mono (by simp));have gP:w'.cell? ⟨w.heap.size,0,none⟩=some (.bool b):=by rw[hb.cell (by simp)];go_simp
 have qY:w'.cell? ⟨w.heap.size,1,none⟩=some (.slice none 0 0):=by rw[hb.cell (by simp)];go_simp
 have jD:w'.cell? ⟨w.heap.size,2,none⟩=some (.int .i64 0):=by rw[hb.cell (by simp)];go_simp
 have TD:w'.frozen? ⟨w.heap.size,0,none⟩=false:=by rw[hb.frozen (by simp)];go_simp
 have uq:w'.frozen? ⟨w.heap.size,1,none⟩=false:=by rw[hb.frozen (by simp)];go_simp
 have vG:w'.frozen? ⟨w.heap.size,2,none⟩=false:=by rw[hb.frozen (by simp)];go_simp
 have xV:∀ v,w'.ownsRow ((w.alloc (.cells #[.bool b,.slice none 0 0,.int .i64 0] 97)).drewN nq).heap.size 5 1 v (wh++fr).length (xh (wh++fr))->w'.ownsRow w.heap.size 5 1 v (wh++fr).length (xh (wh++fr)):=fun v h=>gH h (by simp)
 have Ex:∀ v,w'.ownsRow ((w.alloc (.cells #[.bool b,.slice none 0 0,.int .i64 0] 97)).drewN nq).heap.size 5 1 v (wh++fr).length (xh (wh++fr))->some w.heap.size≠v.ownBlock:=fun v h e=>by have:=(World.ownsRow.lt h _ e.symm).1;simp at this;omega
 clear hb;by_cases qC:(wh++fr).all xF=true
 ·rw[if_pos qC] at hv;obtain⟨v,rfl,vE⟩:=hv;have If:=zx (Ah vE);have DM:=xV v vE;have CU:=Ex v vE;clear xV Ex vE;obtain⟨ad,cap,rfl⟩:=xZ DM;have XV:=zx qC;clear qC;have j5:(wh++fr).length=wh.length+fr.length:=by simp
  rw[j5] at DM CU ⊢;have qV:=zx DM;clear j5 DM;by_cases Hx:¬(wh≠[]/\(pt=true->fr≠[])/\wh.length+fr.length<=30)
  ·have vS:=Aw HW.out HF.out HP.out HN.out (fun h=>Hx h.2);have kI:=zx vS;clear vS;go_wp2;all_goals first
    |(exfalso;refine Hx ⟨by assumption,?_,?_⟩<;>first|(intro h;contradiction)|(intro _;assumption)|omega)
    |(refine bodyPost_ret (v := .tuple #[.agg #[.bool b,.slice none 0 0,.int .i64 0],.bool false]) ?_ rfl ?_
      focus(simp[results,results44,go_sem, *])
      refine⟨b,_,_,by rw[kI.out],by first|exact⟨_,_,_,rfl⟩|exact If.out,?_,fun h=>by rw[kI.out] at h;cases h⟩;refine hB.trans ?_;(repeat(first|(with_reducible exact zv _ _)|(with_reducible refine below_drewN ?_ _)|(with_reducible refine zg ?_)|(with_reducible refine zj ?_ ?_ _;rotate_left;focus(first|(simp;done)|(simp;omega)))|(with_reducible refine zk ?_ ?_ _;rotate_left;focus(first|(simp;done)|(simp;omega)))))
      done)
  ·have UI:wh≠[]/\(pt=true->fr≠[])/\wh.length+fr.length<=30:=Classical.not_not.1 Hx;clear Hx;obtain⟨Y9,dV,hg3⟩:=UI;have KB:=o6 HW.out HF.out HP.out XV.out Y9 dV hg3;have tN:=zx KB;clear KB;have h30:¬((30:Int)<(wh.length:Int)+(fr.length:Int)):=by omega
   have zyd:0<(zF wh.toArray).size:=by
    rw[size_mk]
    cases wh with
    | nil=>exact absurd rfl Y9
    | cons x l=>simp
   have S6:=zyq wh zyd;have H48:=zx S6;clear S6;have VS:(pt=true/\¬fr=[])\/pt=false:=by
    cases pt
    ·exact .inr rfl
    ·exact .inl ⟨rfl,dV rfl⟩
   clear dV;rcases VS with⟨VS,Y2⟩|VS;all_goals
    by_cases c1:(1:Int)<(wh.length:Int)
    ·by_cases c2:(((zF wh.toArray)[0].toNat:Int)==48)=true
     ·have vS:qg s.data.toList=false:=by
       rw[GY HW.out HF.out HB.out tN.out,H48.out,c2];simp;omega
      have kI:=zx vS;clear vS;go_wp2;all_goals first
       |(exfalso;rename_i hh;simp[Y9,Y2] at hh;omega)|(exfalso;rename_i hh;simp[Y9] at hh;omega)
       | skip
      refine bodyPost_ret (v := .tuple #[.agg #[.bool b,.slice ad (wh.length+fr.length) cap,.int .i64 (fr.length:Int)],.bool false]) ?_ rfl ?_
      ·simp[results,results44,go_sem,xf, *]
      ·refine⟨b,_,_,by rw[kI.out],by first|exact⟨_,_,_,rfl⟩|exact If.out,?_,fun h=>by rw[kI.out] at h;cases h⟩;refine hB.trans ?_;(repeat(first|(with_reducible exact zv _ _)|(with_reducible refine below_drewN ?_ _)|(with_reducible refine zg ?_)|(with_reducible refine zj ?_ ?_ _;rotate_left;focus(first|(simp;done)|(simp;omega)))|(with_reducible refine zk ?_ ?_ _;rotate_left;focus(first|(simp;done)|(simp;omega)))))
     ·have TO:(((zF wh.toArray)[0].toNat:Int)==48)=false:=by simpa using c2
      have vS:qg s.data.toList = !(b && (wh++fr).all (· == 48)):=by
       rw[GY HW.out HF.out HB.out tN.out,H48.out,TO];simp
      have kI:=zx vS;clear vS c2
      cases b
      ·have HR:=qV;simp only[zR,zX] at kI;go_wp2;all_goals first
        |(exfalso;rename_i hh;simp[Y9,Y2] at hh;omega)|(exfalso;rename_i hh;simp[Y9] at hh;omega)
        | skip
       refine bodyPost_ret (v := .tuple #[.agg #[.bool false,.slice ad (wh.length+fr.length) cap,.int .i64 (fr.length:Int)],.bool true]) ?_ rfl ?_
       ·simp[results,results44,go_sem,xf, *]
       ·refine⟨_,_,_,by rw[kI.out],by first|exact⟨_,_,_,rfl⟩|exact If.out,?_,?_⟩
        ·refine hB.trans ?_;(repeat(first|(with_reducible exact zv _ _)|(with_reducible refine below_drewN ?_ _)|(with_reducible refine zg ?_)|(with_reducible refine zj ?_ ?_ _;rotate_left;focus(first|(simp;done)|(simp;omega)))|(with_reducible refine zk ?_ ?_ _;rotate_left;focus(first|(simp;done)|(simp;omega)))))
        ·intro _;rw[HW.out,HF.out];refine⟨HB.out.symm,rfl,?_⟩;(repeat(with_reducible refine xc ?_ CU _))
         exact HR.out
      ·simp only[Bool.true_and] at kI;go_wp2_with fail;all_goals first
        |(exfalso;rename_i hh;simp[Y9,Y2] at hh;omega)|(exfalso;rename_i hh;simp[Y9] at hh;omega)
        | skip
       refine(Qw (wh++fr) (wh.length+fr.length) (by simp) ad cap true _ _ (by simp;omega) (((qL qV.out (by simp)).set ?_ _).set ?_ _)).mono ?_
       ·intro q hq he;subst hq;exact CU (by simp[zU];exact he.symm)
       ·intro q hq he;subst hq;exact CU (by simp[zU];exact he.symm)
       rintro e w2 ⟨rfl,xD⟩;have QR:w.heap.size+1<=w2.heap.size:=by have:=xD.size;simp at this;omega
       have Ki:Below w.heap.size w w2:=((hB.setCell (p:=⟨w.heap.size,1,none⟩) (zf _) _).setCell (p:=⟨w.heap.size,2,none⟩) (zf _) _).trans (xD.mono (by simp;omega));have Aj:w2.cell? ⟨w.heap.size,0,none⟩=some (.bool true):=by rw[xD.cell (by simp;omega)];simp[xf,gP]
       have Ev:w2.cell? ⟨w.heap.size,1,none⟩=some (.slice ad (wh.length+fr.length) cap):=by rw[xD.cell (by simp;omega)];simp[xf,qY]
       have FE:w2.cell? ⟨w.heap.size,2,none⟩=some (.int .i64 (fr.length:Int)):=by rw[xD.cell (by simp;omega)];simp[xf,jD]
       have he0:w2.frozen? ⟨w.heap.size,0,none⟩=false:=by rw[xD.frozen (by simp;omega)];go_simp
       have Cx:w2.frozen? ⟨w.heap.size,1,none⟩=false:=by rw[xD.frozen (by simp;omega)];go_simp
       have Cy:w2.frozen? ⟨w.heap.size,2,none⟩=false:=by rw[xD.frozen (by simp;omega)];go_simp
       have HR:=zx (bu (xc (xc qV.out CU _) CU _) xD);clear xD gP qY jD TD uq vG;generalize (wh++fr).all (· == 48)=z at kI ⊢
       cases z
       ·simp only[zX] at kI;go_wp2;refine bodyPost_ret (v := .tuple #[.agg #[.bool true,.slice ad (wh.length+fr.length) cap,.int .i64 (fr.length:Int)],.bool true]) ?_ rfl ?_
        ·simp[results,results44,go_sem,xf, *]
        ·refine⟨_,_,_,by rw[kI.out],by first|exact⟨_,_,_,rfl⟩|exact If.out,?_,?_⟩
         ·refine Ki.trans ?_;(repeat(first|(with_reducible exact zv _ _)|(with_reducible refine below_drewN ?_ _)|(with_reducible refine zg ?_)|(with_reducible refine zj ?_ ?_ _;rotate_left;focus(first|(simp;done)|(simp;omega)))|(with_reducible refine zk ?_ ?_ _;rotate_left;focus(first|(simp;done)|(simp;omega)))))
         ·intro _;rw[HW.out,HF.out];refine⟨HB.out.symm,rfl,?_⟩;(repeat(with_reducible refine xc ?_ CU _))
          exact HR.out
       ·simp only[Bool.not_true] at kI;go_wp2;refine bodyPost_ret (v := .tuple #[.agg #[.bool true,.slice ad (wh.length+fr.length) cap,.int .i64 (fr.length:Int)],.bool false]) ?_ rfl ?_
        ·simp[results,results44,go_sem,xf, *]
        ·refine⟨_,_,_,by rw[kI.out],by first|exact⟨_,_,_,rfl⟩|exact If.out,?_,?_⟩
         ·refine Ki.trans ?_;(repeat(first|(with_reducible exact zv _ _)|(with_reducible refine below_drewN ?_ _)|(with_reducible refine zg ?_)|(with_reducible refine zj ?_ ?_ _;rotate_left;focus(first|(simp;done)|(simp;omega)))|(with_reducible refine zk ?_ ?_ _;rotate_left;focus(first|(simp;done)|(simp;omega)))))
         ·intro h;rw[kI.out] at h;cases h
    ·have vS:qg s.data.toList = !(b && (wh++fr).all (· == 48)):=by
      rw[GY HW.out HF.out HB.out tN.out,decide_eq_false (by omega)];simp
     have kI:=zx vS;clear vS
     cases b
     ·have HR:=qV;simp only[zR,zX] at kI;go_wp2;all_goals first
       |(exfalso;rename_i hh;simp[Y9,Y2] at hh;omega)|(exfalso;rename_i hh;simp[Y9] at hh;omega)
       | skip
      refine bodyPost_ret (v := .tuple #[.agg #[.bool false,.slice ad (wh.length+fr.length) cap,.int .i64 (fr.length:Int)],.bool true]) ?_ rfl ?_
      ·simp[results,results44,go_sem,xf, *]
      ·refine⟨_,_,_,by rw[kI.out],by first|exact⟨_,_,_,rfl⟩|exact If.out,?_,?_⟩
       ·refine hB.trans ?_;(repeat(first|(with_reducible exact zv _ _)|(with_reducible refine below_drewN ?_ _)|(with_reducible refine zg ?_)|(with_reducible refine zj ?_ ?_ _;rotate_left;focus(first|(simp;done)|(simp;omega)))|(with_reducible refine zk ?_ ?_ _;rotate_left;focus(first|(simp;done)|(simp;omega)))))
       ·intro _;rw[HW.out,HF.out];refine⟨HB.out.symm,rfl,?_⟩;(repeat(with_reducible refine xc ?_ CU _))
        exact HR.out
     ·simp only[Bool.true_and] at kI;go_wp2_with fail;all_goals first
       |(exfalso;rename_i hh;simp[Y9,Y2] at hh;omega)|(exfalso;rename_i hh;simp[Y9] at hh;omega)
       | skip
      refine(Qw (wh++fr) (wh.length+fr.length) (by simp) ad cap true _ _ (by simp;omega) (((qL qV.out (by simp)).set ?_ _).set ?_ _)).mono ?_
      ·intro q hq he;subst hq;exact CU (by simp[zU];exact he.symm)
      ·intro q hq he;subst hq;exact CU (by simp[zU];exact he.symm)
      rintro e w2 ⟨rfl,xD⟩;have QR:w.heap.size+1<=w2.heap.size:=by have:=xD.size;simp at this;omega
      have Ki:Below w.heap.size w w2:=((hB.setCell (p:=⟨w.heap.size,1,none⟩) (zf _) _).setCell (p:=⟨w.heap.size,2,none⟩) (zf _) _).trans (xD.mono (by simp;omega));have Aj:w2.cell? ⟨w.heap.size,0,none⟩=some (.bool true):=by rw[xD.cell (by simp;omega)];simp[xf,gP]
      have Ev:w2.cell? ⟨w.heap.size,1,none⟩=some (.slice ad (wh.length+fr.length) cap):=by rw[xD.cell (by simp;omega)];simp[xf,qY]
      have FE:w2.cell? ⟨w.heap.size,2,none⟩=some (.int .i64 (fr.length:Int)):=by rw[xD.cell (by simp;omega)];simp[xf,jD]
      have he0:w2.frozen? ⟨w.heap.size,0,none⟩=false:=by rw[xD.frozen (by simp;omega)];go_simp
      have Cx:w2.frozen? ⟨w.heap.size,1,none⟩=false:=by rw[xD.frozen (by simp;omega)];go_simp
      have Cy:w2.frozen? ⟨w.heap.size,2,none⟩=false:=by rw[xD.frozen (by simp;omega)];go_simp
      have HR:=zx (bu (xc (xc qV.out CU _) CU _) xD);clear xD gP qY jD TD uq vG;generalize (wh++fr).all (· == 48)=z at kI ⊢
      cases z
      ·simp only[zX] at kI;go_wp2;refine bodyPost_ret (v := .tuple #[.agg #[.bool true,.slice ad (wh.length+fr.length) cap,.int .i64 (fr.length:Int)],.bool true]) ?_ rfl ?_
       ·simp[results,results44,go_sem,xf, *]
       ·refine⟨_,_,_,by rw[kI.out],by first|exact⟨_,_,_,rfl⟩|exact If.out,?_,?_⟩
        ·refine Ki.trans ?_;(repeat(first|(with_reducible exact zv _ _)|(with_reducible refine below_drewN ?_ _)|(with_reducible refine zg ?_)|(with_reducible refine zj ?_ ?_ _;rotate_left;focus(first|(simp;done)|(simp;omega)))|(with_reducible refine zk ?_ ?_ _;rotate_left;focus(first|(simp;done)|(simp;omega)))))
        ·intro _;rw[HW.out,HF.out];refine⟨HB.out.symm,rfl,?_⟩;(repeat(with_reducible refine xc ?_ CU _))
         exact HR.out
      ·simp only[Bool.not_true] at kI;go_wp2;refine bodyPost_ret (v := .tuple #[.agg #[.bool true,.slice ad (wh.length+fr.length) cap,.int .i64 (fr.length:Int)],.bool false]) ?_ rfl ?_
       ·simp[results,results44,go_sem,xf, *]
       ·refine⟨_,_,_,by rw[kI.out],by first|exact⟨_,_,_,rfl⟩|exact If.out,?_,?_⟩
        ·refine Ki.trans ?_;(repeat(first|(with_reducible exact zv _ _)|(with_reducible refine below_drewN ?_ _)|(with_reducible refine zg ?_)|(with_reducible refine zj ?_ ?_ _;rotate_left;focus(first|(simp;done)|(simp;omega)))|(with_reducible refine zk ?_ ?_ _;rotate_left;focus(first|(simp;done)|(simp;omega)))))
        ·intro h;rw[kI.out] at h;cases h
 ·rw[if_neg qC] at hv;subst hv;have vS:=Aw HW.out HF.out HP.out HN.out (fun h=>qC h.1);have kI:=zx vS;clear vS qC xV Ex;go_wp2;refine bodyPost_ret (v := .tuple #[.agg #[.bool b,.slice none 0 0,.int .i64 0],.bool false]) ?_ rfl ?_
  ·simp[results,results44,go_sem, *]
  ·refine⟨b,_,_,by rw[kI.out],by first|exact⟨_,_,_,rfl⟩|exact If.out,?_,fun h=>by rw[kI.out] at h;cases h⟩;refine hB.trans ?_;(repeat(first|(with_reducible exact zv _ _)|(with_reducible refine below_drewN ?_ _)|(with_reducible refine zg ?_)|(with_reducible refine zj ?_ ?_ _;rotate_left;focus(first|(simp;done)|(simp;omega)))|(with_reducible refine zk ?_ ?_ _;rotate_left;focus(first|(simp;done)|(simp;omega)))))
end Go.Proofs.YthpldolmpinnhaaGreatDoor
