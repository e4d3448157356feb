import Derived.Test.YthpldolmpinnhaaGreatDoorJP19
import Derived.LaidEql
import Derived.Stop.Asserts
import Derived.RowKitTokens
import Derived.Test.YthpldolmpinnhaaGreatDoorShelf
set_option maxHeartbeats 64000000
open Go.World renaming cell?_alloc_lt→z7,frozen?_alloc_old→z8,cell?→zV,cell?_alloc_at→zL
open Go.Result renaming andThen→zy
open Go.Lib renaming hid→zx,trimPrefix→zQ,hasPrefix→zE
open Go.RowKit.Below renaming refl→zv,setCell→zk,alloc→zj,drew→zg,heap_setCell→zN
open Array renaming getElem?_eq_none→zu
open Nat renaming le_refl→zf,lt_or_ge→zY
open Go.Sem renaming run_bind→zZ
open Bool renaming not_false→zX,and_eq_true→zO,false_and→zS
open Go.Value renaming ownBlock→zU,int→zD
open Go.Instr renaming typeAssert→zJ
open Go.IntKind renaming u8→zG
open ByteArray renaming mk→zF
open List renaming drop_of_length_le→zH,isPrefixOf→zP,all_append→zR
open Go renaming method→zM
open Go.Proofs.Tryz
namespace Go.Proofs.YthpldolmpinnhaaGreatDoor
open Go Go.RowKit Go.Extern.Stop Go.Stop Go.Extern
set_option maxRecDepth 10000
abbrev qz(t:Nat):Value := .pointer (some ⟨12,t,none⟩)
theorem rlm(z:Sem Value)(f:TypeId->Addr->Nat->Nat->Sem Value)(v:Value) :
  ReflectliteValue.method z f #[v]=(do match ←ReflectliteValue.parts v with|none=>z|some (t,a,fl)=>f t a fl (fl % 32)):=rfl
theorem rls(v x:Value):ReflectliteValue.set #[v,x]=(do
  let (some (dst,a,fl),some (src,b,_)):=(←ReflectliteValue.parts v,←ReflectliteValue.parts x)
   | unsupported (.noEntry "extern/(internal/reflectlite.Value).Set.zeroValue")
  if fl / ReflectliteValue.flagAddr % 2==0 then unsupported (.noEntry "extern/(internal/reflectlite.Value).Set.unaddressable")
  let val ←loadVar src b
  if ←Rtype.directlyAssignable dst src then storeVar dst a val
  else if ←Rtype.implements dst src then
   if (←Rtype.kind src)==20 then
    match val with
    | .nilIface=>unsupported (.noEntry "extern/reflectlite: a nil value of one interface type handed on as a value of another")
    | _=>storeVar dst a val
   else storeVar dst a (.iface src val)
  else panicString ("reflectlite.Set: value of type " ++ (←Rtype.spelt src) ++ " is not assignable to type " ++ (←Rtype.spelt dst))
  pure (.tuple #[])):=rfl
theorem U9(h:Value)(w:World):(zM 516 231 (.agg #[h]) "Kind").run prog w = .ok (300,h) w:=by kernel_rfl
theorem Uz(h:Value)(w:World):(zM 516 231 (.agg #[h]) "Elem").run prog w = .ok (316,.agg #[h]) w:=by kernel_rfl
theorem fM(h:Value)(w:World):(zM 516 231 (.agg #[h]) "Implements").run prog w = .ok (317,.agg #[h]) w:=by kernel_rfl
theorem gy(h:Value)(w:World):(zM 516 231 (.agg #[h]) "AssignableTo").run prog w = .ok (314,.agg #[h]) w:=by kernel_rfl
theorem Bk(t:Addr)(w:World):(ReflectliteValue.unpack (.iface 103 (.pointer (some t)))).run prog w
  = .ok (.agg #[qz 103,.pointer (some ⟨w.heap.size,0,none⟩),.int .u64 150]) (w.alloc (.cells #[.pointer (some t)] 103)):=by kernel_rfl
theorem aC(a:Addr)(w:World):(ReflectliteValue.methodAny (ReflectliteValue.valueError "reflectlite.Value.Type" 0) (fun t _ _ _=>ReflectliteType.toType t) #[.agg #[qz 103,.pointer (some a),.int .u64 150]]).run prog w
  = .ok (.iface 231 (.agg #[qz 103])) w:=by kernel_rfl
theorem Pl(w:World):((ReflectliteType.abiMethod fun t=>(fun a:Nat=>zD zG (a:Int)) <$> Rtype.kind t) #[qz 103]).run prog w = .ok (.int .u8 22) w:=by kernel_rfl
theorem Pm(w:World):((ReflectliteType.abiMethod fun t=>(fun a:Nat=>zD zG (a:Int)) <$> Rtype.kind t) #[qz 101]).run prog w = .ok (.int .u8 22) w:=by kernel_rfl
theorem Pn(a:Addr)(w:World):(ReflectliteValue.parts (.agg #[qz 103,.pointer (some a),.int .u64 150])).run prog w = .ok (some (103,a,150)) w:=by kernel_rfl
theorem Po(a p:Addr)(W:World)(ha:W.cell? a=some (.pointer (some p))) :
  (ReflectliteValue.method (ReflectliteValue.valueError "reflectlite.Value.IsNil" 0) ReflectliteValue.isNil #[.agg #[qz 103,.pointer (some a),.int .u64 150]]).run prog W = .ok (.bool false) W:=by
 rw[rlm];simp only[zZ,Pn,zy];simp[ReflectliteValue.isNil,loadVar,isAgg,underlying,underlying103,ha,zy]
theorem aE(w:World):(ReflectliteType.method ReflectliteType.elem #[.agg #[qz 103]]).run prog w = .ok (.iface 231 (.agg #[qz 101])) w:=by kernel_rfl
theorem aH(w:World):(ReflectliteType.relation "Implements" ReflectliteType.implements_ #[.agg #[qz 101],.iface 231 (.agg #[qz 73])]).run prog w = .ok (.bool true) w:=by kernel_rfl
theorem aI(w:World):(Rtype.elem? 103).run prog w = .ok (some 101) w:=by kernel_rfl
theorem yff(p:Addr)(w:World):(ReflectliteValue.mk 101 p ReflectliteValue.flagAddr).run prog w = .ok (.agg #[qz 101,.pointer (some p),.int .u64 406]) w:=by kernel_rfl
theorem ot(a p:Addr)(W:World)(ha:W.cell? a=some (.pointer (some p))) :
  (ReflectliteValue.method (ReflectliteValue.valueError "reflectlite.Value.Elem" 0) ReflectliteValue.elem #[.agg #[qz 103,.pointer (some a),.int .u64 150]]).run prog W
   = .ok (.agg #[qz 101,.pointer (some p),.int .u64 406]) W:=by
 rw[rlm];simp only[zZ,Pn,zy];simp[ReflectliteValue.elem,loadVar,isAgg,underlying,underlying103,ha,zy,aI,yff]
theorem aL(a:Addr)(w:World):(ReflectliteValue.parts (.agg #[qz 101,.pointer (some a),.int .u64 406])).run prog w = .ok (some (101,a,406)) w:=by kernel_rfl
theorem SS(t:Addr)(w:World):(ReflectliteValue.unpack (.iface 106 (.pointer (some t)))).run prog w
  = .ok (.agg #[qz 106,.pointer (some ⟨w.heap.size,0,none⟩),.int .u64 150]) (w.alloc (.cells #[.pointer (some t)] 106)):=by kernel_rfl
theorem zug(a:Addr)(w:World):(ReflectliteValue.methodAny (ReflectliteValue.valueError "reflectlite.Value.Type" 0) (fun t _ _ _=>ReflectliteType.toType t) #[.agg #[qz 106,.pointer (some a),.int .u64 150]]).run prog w
  = .ok (.iface 231 (.agg #[qz 106])) w:=by kernel_rfl
theorem oh(w:World):((ReflectliteType.abiMethod fun t=>(fun a:Nat=>zD zG (a:Int)) <$> Rtype.kind t) #[qz 106]).run prog w = .ok (.int .u8 22) w:=by kernel_rfl
theorem ow(w:World):((ReflectliteType.abiMethod fun t=>(fun a:Nat=>zD zG (a:Int)) <$> Rtype.kind t) #[qz 33]).run prog w = .ok (.int .u8 2) w:=by kernel_rfl
theorem Pp(a:Addr)(w:World):(ReflectliteValue.parts (.agg #[qz 106,.pointer (some a),.int .u64 150])).run prog w = .ok (some (106,a,150)) w:=by kernel_rfl
theorem p6(a p:Addr)(W:World)(ha:W.cell? a=some (.pointer (some p))) :
  (ReflectliteValue.method (ReflectliteValue.valueError "reflectlite.Value.IsNil" 0) ReflectliteValue.isNil #[.agg #[qz 106,.pointer (some a),.int .u64 150]]).run prog W = .ok (.bool false) W:=by
 rw[rlm];simp only[zZ,Pp,zy];simp[ReflectliteValue.isNil,loadVar,isAgg,underlying,underlying106,ha,zy]
theorem zuf(w:World):(ReflectliteType.method ReflectliteType.elem #[.agg #[qz 106]]).run prog w = .ok (.iface 231 (.agg #[qz 33])) w:=by kernel_rfl
theorem zud(w:World):(ReflectliteType.relation "Implements" ReflectliteType.implements_ #[.agg #[qz 33],.iface 231 (.agg #[qz 73])]).run prog w = .ok (.bool true) w:=by kernel_rfl
theorem aN(w:World):(Rtype.elem? 106).run prog w = .ok (some 33) w:=by kernel_rfl
theorem yfd(p:Addr)(w:World):(ReflectliteValue.mk 33 p ReflectliteValue.flagAddr).run prog w = .ok (.agg #[qz 33,.pointer (some p),.int .u64 386]) w:=by kernel_rfl
theorem p7(a p:Addr)(W:World)(ha:W.cell? a=some (.pointer (some p))) :
  (ReflectliteValue.method (ReflectliteValue.valueError "reflectlite.Value.Elem" 0) ReflectliteValue.elem #[.agg #[qz 106,.pointer (some a),.int .u64 150]]).run prog W
   = .ok (.agg #[qz 33,.pointer (some p),.int .u64 386]) W:=by
 rw[rlm];simp only[zZ,Pp,zy];simp[ReflectliteValue.elem,loadVar,isAgg,underlying,underlying106,ha,zy,aN,yfd]
theorem aO(a:Addr)(w:World):(ReflectliteValue.parts (.agg #[qz 33,.pointer (some a),.int .u64 386])).run prog w = .ok (some (33,a,386)) w:=by kernel_rfl
theorem aP(v:Value)(w:World):(ReflectliteType.typeOf #[.iface 101 v]).run prog w = .ok (.iface 231 (.agg #[qz 101])) w:=by kernel_rfl
theorem aR(w:World):(ReflectliteType.relation "AssignableTo" ReflectliteType.assignableTo #[.agg #[qz 101],.iface 231 (.agg #[qz 101])]).run prog w = .ok (.bool true) w:=by kernel_rfl
theorem NS(e:Addr)(w:World):(ReflectliteValue.unpack (.iface 101 (.pointer (some e)))).run prog w
  = .ok (.agg #[qz 101,.pointer (some ⟨w.heap.size,0,none⟩),.int .u64 150]) (w.alloc (.cells #[.pointer (some e)] 101)):=by kernel_rfl
theorem aS(a:Addr)(w:World):(ReflectliteValue.parts (.agg #[qz 101,.pointer (some a),.int .u64 150])).run prog w = .ok (some (101,a,150)) w:=by kernel_rfl
theorem aW(w:World):(Rtype.directlyAssignable 101 101).run prog w = .ok true w:=by kernel_rfl
theorem zm4(ta b:Addr)(e:Addr)(P7:Value)(W:World)(hb:W.cell? b=some (.pointer (some e)))(ht:W.cell? ta=some P7)(hf:W.frozen? ta=false) :
  (ReflectliteValue.set #[.agg #[qz 101,.pointer (some ta),.int .u64 406],.agg #[qz 101,.pointer (some b),.int .u64 150]]).run prog W
   = .ok (.tuple #[]) (W.setCell ta (.pointer (some e))):=by
 rw[rls];simp only[zZ,aL,aS,zy];simp[ReflectliteValue.flagAddr,loadVar,isAgg,underlying,underlying101,hb,zy,aW,storeVar,Value.cells,storeCells,Addr.add];rw[run_store prog W ta _ _ (by rfl)];simp[ht,hf]
theorem ID(v:Value)(w:World):(ReflectliteType.typeOf #[.iface 33 v]).run prog w = .ok (.iface 231 (.agg #[qz 33])) w:=by kernel_rfl
theorem aA(w:World):(ReflectliteType.relation "AssignableTo" ReflectliteType.assignableTo #[.agg #[qz 33],.iface 231 (.agg #[qz 33])]).run prog w = .ok (.bool true) w:=by kernel_rfl
theorem NT(e:Int)(w:World):(ReflectliteValue.unpack (.iface 33 (.int .i64 e))).run prog w
  = .ok (.agg #[qz 33,.pointer (some ⟨w.heap.size,0,none⟩),.int .u64 130]) (w.alloc (.cells #[.int .i64 e] 33)):=by kernel_rfl
theorem aa(a:Addr)(w:World):(ReflectliteValue.parts (.agg #[qz 33,.pointer (some a),.int .u64 130])).run prog w = .ok (some (33,a,130)) w:=by kernel_rfl
theorem ae(w:World):(Rtype.directlyAssignable 33 33).run prog w = .ok true w:=by kernel_rfl
theorem zm5(ta b:Addr)(e:Int)(P7:Value)(W:World)(hb:W.cell? b=some (.int .i64 e))(ht:W.cell? ta=some P7)(hf:W.frozen? ta=false) :
  (ReflectliteValue.set #[.agg #[qz 33,.pointer (some ta),.int .u64 386],.agg #[qz 33,.pointer (some b),.int .u64 130]]).run prog W
   = .ok (.tuple #[]) (W.setCell ta (.int .i64 e)):=by
 rw[rls];simp only[zZ,aO,aa,zy];simp[ReflectliteValue.flagAddr,loadVar,isAgg,underlying,underlying33,hb,zy,ae,storeVar,Value.cells,storeCells,Addr.add];rw[run_store prog W ta _ _ (by rfl)];simp[ht,hf]
theorem IB(w:World):(ReflectliteType.relation "AssignableTo" ReflectliteType.assignableTo #[.agg #[qz 33],.iface 231 (.agg #[qz 101])]).run prog w = .ok (.bool false) w:=by kernel_rfl
theorem zub(v:Value)(xT:TypeId)(w:World):(zJ (.iface 33 v) xT 236 true).run prog w = .ok (.tuple #[.nilIface,.bool false]) w:=run_typeAssert_lacksB underlying236 (by kernel_rfl) (by kernel_rfl) v xT w
theorem NW(v:Value)(xT:TypeId)(w:World):(zJ (.iface 33 v) xT 239 true).run prog w = .ok (.tuple #[.nilIface,.bool false]) w:=run_typeAssert_lacksB underlying239 (by kernel_rfl) (by kernel_rfl) v xT w
theorem IC(v:Value)(xT:TypeId)(w:World):(zJ (.iface 33 v) xT 241 true).run prog w = .ok (.tuple #[.nilIface,.bool false]) w:=run_typeAssert_lacksB underlying241 (by kernel_rfl) (by kernel_rfl) v xT w
theorem ai(e t:Addr)(P7:Value)(w:World)(hg:w.cell? ⟨1,0,none⟩=some (.iface 231 (.agg #[qz 73])))(PZ:w.cell? t=some P7)(WX:w.frozen? t=false) :
  Calls prog 46 #[.iface 101 (.pointer (some e)),.iface 103 (.pointer (some t))] w fun ev w'=>ev = .returned (.bool true)/\∃ o1 o2 o3 o4:Obj,w'=((((w.alloc o1).alloc o2).alloc o3).alloc o4).setCell t (.pointer (some e)):=by
 have h0:=@run_callFunc_extern prog 74 _ (fun args=>ReflectliteValue.unpack (args.getD 0 (.tuple #[]))) func74 (by kernel_rfl) (by kernel_rfl) (by kernel_rfl) (by kernel_rfl);have h1:=@run_callFunc_extern prog 75 _ (ReflectliteValue.methodAny (ReflectliteValue.valueError "reflectlite.Value.Type" 0) (fun t _ _ _=>ReflectliteType.toType t)) func75 (by kernel_rfl) (by kernel_rfl) (by kernel_rfl) (by kernel_rfl);have h2:=@run_callFunc_extern prog 76 _ (ReflectliteValue.method (ReflectliteValue.valueError "reflectlite.Value.IsNil" 0) ReflectliteValue.isNil) func76 (by kernel_rfl) (by kernel_rfl) (by kernel_rfl) (by kernel_rfl);have h3:=@run_callFunc_extern prog 300 _ (ReflectliteType.abiMethod fun t=>do pure (.int .u8 (←Rtype.kind t))) func300 (by kernel_rfl) (by kernel_rfl) (by kernel_rfl) (by kernel_rfl);have h4:=@run_callFunc_extern prog 316 _ (ReflectliteType.method ReflectliteType.elem) func316 (by kernel_rfl) (by kernel_rfl) (by kernel_rfl) (by kernel_rfl);have h5:=@run_callFunc_extern prog 317 _ (ReflectliteType.relation "Implements" ReflectliteType.implements_) func317 (by kernel_rfl) (by kernel_rfl) (by kernel_rfl) (by kernel_rfl);have h6:=@run_callFunc_extern prog 106 _ (ReflectliteType.typeOf) func106 (by kernel_rfl) (by kernel_rfl) (by kernel_rfl) (by kernel_rfl);have h7:=@run_callFunc_extern prog 314 _ (ReflectliteType.relation "AssignableTo" ReflectliteType.assignableTo) func314 (by kernel_rfl) (by kernel_rfl) (by kernel_rfl) (by kernel_rfl);have h8:=@run_callFunc_extern prog 107 _ (ReflectliteValue.method (ReflectliteValue.valueError "reflectlite.Value.Elem" 0) ReflectliteValue.elem) func107 (by kernel_rfl) (by kernel_rfl) (by kernel_rfl) (by kernel_rfl);have h9:=@run_callFunc_extern prog 108 _ (ReflectliteValue.set) func108 (by kernel_rfl) (by kernel_rfl) (by kernel_rfl) (by kernel_rfl);have mK:=U9;have mE:=Uz;have mI:=fM;have mA:=gy;have f1:=Bk;have f2:=aC;have f3:=Pl;have f4:=Pm;have f5:=aE;have f6:=aH;have n8:=Po ⟨w.heap.size,0,none⟩ t ((w.alloc (.cells #[.pointer (some t)] 103)).alloc (.cells #[qz 103,.pointer (some ⟨w.heap.size,0,none⟩),.int .u64 150] 162)) (by simp);have xC:1<w.heap.size:=by
  rcases zY 1 w.heap.size with h|h
  ·exact h
  ·exfalso;rw[zV,zu h] at hg
   cases hg
 have dy:((w.alloc (.cells #[.pointer (some t)] 103)).alloc (.cells #[qz 103,.pointer (some ⟨w.heap.size,0,none⟩),.int .u64 150] 162)).cell? ⟨1,0,none⟩=some (.iface 231 (.agg #[qz 73])):=by
  rw[z7 _ _ ⟨1,0,none⟩ (by simp<;>omega),z7 _ _ ⟨1,0,none⟩ xC];exact hg
 have JC:t.block<w.heap.size:=by
  rcases zY t.block w.heap.size with h|h
  ·exact h
  ·simp[zV,zu h] at PZ
 have el:=ot ⟨w.heap.size,0,none⟩ t (((w.alloc (.cells #[.pointer (some t)] 103)).alloc (.cells #[qz 103,.pointer (some ⟨w.heap.size,0,none⟩),.int .u64 150] 162)).alloc (.cells #[qz 103,.pointer (some ⟨w.heap.size,0,none⟩),.int .u64 150] 162)) (by rw[z7 _ _ ⟨w.heap.size,0,none⟩ (by simp;omega)];simp);have tO:=aP;have aT:=aR;have vT:=NS;have st:=zm4 t ⟨w.heap.size+1+1+1,0,none⟩ e P7 ((((w.alloc (.cells #[.pointer (some t)] 103)).alloc (.cells #[qz 103,.pointer (some ⟨w.heap.size,0,none⟩),.int .u64 150] 162)).alloc (.cells #[qz 103,.pointer (some ⟨w.heap.size,0,none⟩),.int .u64 150] 162)).alloc (.cells #[.pointer (some e)] 101))
  (by rw[zL _ _ _ _ (by simp)];rfl)
  (by rw[z7 _ _ t (by simp;omega),z7 _ _ t (by simp;omega),z7 _ _ t (by simp;omega),z7 _ _ t JC];exact PZ)
  (by rw[z8 _ _ t (by simp;omega),z8 _ _ t (by simp;omega),z8 _ _ t (by simp;omega),z8 _ _ t (Nat.ne_of_lt JC)];exact WX)
 go_enter func46,ntmps46;go_wp2;refine wp_loop_rounds 1 ?_;rw[rounds_succ];go_wp2;go_ret;exact⟨rfl,_,_,_,_,rfl⟩
theorem ar(e:Int)(t:Addr)(P7:Value)(w:World)(hg:w.cell? ⟨1,0,none⟩=some (.iface 231 (.agg #[qz 73])))(PZ:w.cell? t=some P7)(WX:w.frozen? t=false) :
  Calls prog 46 #[.iface 33 (.int .i64 e),.iface 106 (.pointer (some t))] w fun ev w'=>ev = .returned (.bool true)/\∃ o1 o2 o3 o4:Obj,w'=((((w.alloc o1).alloc o2).alloc o3).alloc o4).setCell t (.int .i64 e):=by
 have h0:=@run_callFunc_extern prog 74 _ (fun args=>ReflectliteValue.unpack (args.getD 0 (.tuple #[]))) func74 (by kernel_rfl) (by kernel_rfl) (by kernel_rfl) (by kernel_rfl);have h1:=@run_callFunc_extern prog 75 _ (ReflectliteValue.methodAny (ReflectliteValue.valueError "reflectlite.Value.Type" 0) (fun t _ _ _=>ReflectliteType.toType t)) func75 (by kernel_rfl) (by kernel_rfl) (by kernel_rfl) (by kernel_rfl);have h2:=@run_callFunc_extern prog 76 _ (ReflectliteValue.method (ReflectliteValue.valueError "reflectlite.Value.IsNil" 0) ReflectliteValue.isNil) func76 (by kernel_rfl) (by kernel_rfl) (by kernel_rfl) (by kernel_rfl);have h3:=@run_callFunc_extern prog 300 _ (ReflectliteType.abiMethod fun t=>do pure (.int .u8 (←Rtype.kind t))) func300 (by kernel_rfl) (by kernel_rfl) (by kernel_rfl) (by kernel_rfl);have h4:=@run_callFunc_extern prog 316 _ (ReflectliteType.method ReflectliteType.elem) func316 (by kernel_rfl) (by kernel_rfl) (by kernel_rfl) (by kernel_rfl);have h5:=@run_callFunc_extern prog 317 _ (ReflectliteType.relation "Implements" ReflectliteType.implements_) func317 (by kernel_rfl) (by kernel_rfl) (by kernel_rfl) (by kernel_rfl);have h6:=@run_callFunc_extern prog 106 _ (ReflectliteType.typeOf) func106 (by kernel_rfl) (by kernel_rfl) (by kernel_rfl) (by kernel_rfl);have h7:=@run_callFunc_extern prog 314 _ (ReflectliteType.relation "AssignableTo" ReflectliteType.assignableTo) func314 (by kernel_rfl) (by kernel_rfl) (by kernel_rfl) (by kernel_rfl);have h8:=@run_callFunc_extern prog 107 _ (ReflectliteValue.method (ReflectliteValue.valueError "reflectlite.Value.Elem" 0) ReflectliteValue.elem) func107 (by kernel_rfl) (by kernel_rfl) (by kernel_rfl) (by kernel_rfl);have h9:=@run_callFunc_extern prog 108 _ (ReflectliteValue.set) func108 (by kernel_rfl) (by kernel_rfl) (by kernel_rfl) (by kernel_rfl);have mK:=U9;have mE:=Uz;have mI:=fM;have mA:=gy;have f1:=SS;have f2:=zug;have f3:=oh;have f4:=ow;have f5:=zuf;have f6:=zud;have n8:=p6 ⟨w.heap.size,0,none⟩ t ((w.alloc (.cells #[.pointer (some t)] 106)).alloc (.cells #[qz 106,.pointer (some ⟨w.heap.size,0,none⟩),.int .u64 150] 162)) (by simp);have xC:1<w.heap.size:=by
  rcases zY 1 w.heap.size with h|h
  ·exact h
  ·exfalso;rw[zV,zu h] at hg
   cases hg
 have dy:((w.alloc (.cells #[.pointer (some t)] 106)).alloc (.cells #[qz 106,.pointer (some ⟨w.heap.size,0,none⟩),.int .u64 150] 162)).cell? ⟨1,0,none⟩=some (.iface 231 (.agg #[qz 73])):=by
  rw[z7 _ _ ⟨1,0,none⟩ (by simp<;>omega),z7 _ _ ⟨1,0,none⟩ xC];exact hg
 have JC:t.block<w.heap.size:=by
  rcases zY t.block w.heap.size with h|h
  ·exact h
  ·simp[zV,zu h] at PZ
 have el:=p7 ⟨w.heap.size,0,none⟩ t (((w.alloc (.cells #[.pointer (some t)] 106)).alloc (.cells #[qz 106,.pointer (some ⟨w.heap.size,0,none⟩),.int .u64 150] 162)).alloc (.cells #[qz 106,.pointer (some ⟨w.heap.size,0,none⟩),.int .u64 150] 162)) (by rw[z7 _ _ ⟨w.heap.size,0,none⟩ (by simp;omega)];simp);have tO:=ID;have aT:=aA;have vT:=NT;have st:=zm5 t ⟨w.heap.size+1+1+1,0,none⟩ e P7 ((((w.alloc (.cells #[.pointer (some t)] 106)).alloc (.cells #[qz 106,.pointer (some ⟨w.heap.size,0,none⟩),.int .u64 150] 162)).alloc (.cells #[qz 106,.pointer (some ⟨w.heap.size,0,none⟩),.int .u64 150] 162)).alloc (.cells #[.int .i64 e] 33))
  (by rw[zL _ _ _ _ (by simp)];rfl)
  (by rw[z7 _ _ t (by simp;omega),z7 _ _ t (by simp;omega),z7 _ _ t (by simp;omega),z7 _ _ t JC];exact PZ)
  (by rw[z8 _ _ t (by simp;omega),z8 _ _ t (by simp;omega),z8 _ _ t (by simp;omega),z8 _ _ t (Nat.ne_of_lt JC)];exact WX)
 go_enter func46,ntmps46;go_wp2;refine wp_loop_rounds 1 ?_;rw[rounds_succ];go_wp2;go_ret;exact⟨rfl,_,_,_,_,rfl⟩
theorem p8(e:Int)(t:Addr)(P7:Value)(w:World)(hg:w.cell? ⟨1,0,none⟩=some (.iface 231 (.agg #[qz 73])))(PZ:w.cell? t=some P7)(WX:w.frozen? t=false) :
  Calls prog 46 #[.iface 33 (.int .i64 e),.iface 103 (.pointer (some t))] w fun ev w'=>ev = .returned (.bool false)/\∃ o1 o2 o3:Obj,w'=((w.alloc o1).alloc o2).alloc o3:=by
 have h0:=@run_callFunc_extern prog 74 _ (fun args=>ReflectliteValue.unpack (args.getD 0 (.tuple #[]))) func74 (by kernel_rfl) (by kernel_rfl) (by kernel_rfl) (by kernel_rfl);have h1:=@run_callFunc_extern prog 75 _ (ReflectliteValue.methodAny (ReflectliteValue.valueError "reflectlite.Value.Type" 0) (fun t _ _ _=>ReflectliteType.toType t)) func75 (by kernel_rfl) (by kernel_rfl) (by kernel_rfl) (by kernel_rfl);have h2:=@run_callFunc_extern prog 76 _ (ReflectliteValue.method (ReflectliteValue.valueError "reflectlite.Value.IsNil" 0) ReflectliteValue.isNil) func76 (by kernel_rfl) (by kernel_rfl) (by kernel_rfl) (by kernel_rfl);have h3:=@run_callFunc_extern prog 300 _ (ReflectliteType.abiMethod fun t=>do pure (.int .u8 (←Rtype.kind t))) func300 (by kernel_rfl) (by kernel_rfl) (by kernel_rfl) (by kernel_rfl);have h4:=@run_callFunc_extern prog 316 _ (ReflectliteType.method ReflectliteType.elem) func316 (by kernel_rfl) (by kernel_rfl) (by kernel_rfl) (by kernel_rfl);have h5:=@run_callFunc_extern prog 317 _ (ReflectliteType.relation "Implements" ReflectliteType.implements_) func317 (by kernel_rfl) (by kernel_rfl) (by kernel_rfl) (by kernel_rfl);have h6:=@run_callFunc_extern prog 106 _ (ReflectliteType.typeOf) func106 (by kernel_rfl) (by kernel_rfl) (by kernel_rfl) (by kernel_rfl);have h7:=@run_callFunc_extern prog 314 _ (ReflectliteType.relation "AssignableTo" ReflectliteType.assignableTo) func314 (by kernel_rfl) (by kernel_rfl) (by kernel_rfl) (by kernel_rfl);have h8:=@run_callFunc_extern prog 107 _ (ReflectliteValue.method (ReflectliteValue.valueError "reflectlite.Value.Elem" 0) ReflectliteValue.elem) func107 (by kernel_rfl) (by kernel_rfl) (by kernel_rfl) (by kernel_rfl);have h9:=@run_callFunc_extern prog 108 _ (ReflectliteValue.set) func108 (by kernel_rfl) (by kernel_rfl) (by kernel_rfl) (by kernel_rfl);have mK:=U9;have mE:=Uz;have mI:=fM;have mA:=gy;have f1:=Bk;have f2:=aC;have f3:=Pl;have f4:=Pm;have f5:=aE;have f6:=aH;have n8:=Po ⟨w.heap.size,0,none⟩ t ((w.alloc (.cells #[.pointer (some t)] 103)).alloc (.cells #[qz 103,.pointer (some ⟨w.heap.size,0,none⟩),.int .u64 150] 162)) (by simp);have xC:1<w.heap.size:=by
  rcases zY 1 w.heap.size with h|h
  ·exact h
  ·exfalso;rw[zV,zu h] at hg
   cases hg
 have dy:((w.alloc (.cells #[.pointer (some t)] 103)).alloc (.cells #[qz 103,.pointer (some ⟨w.heap.size,0,none⟩),.int .u64 150] 162)).cell? ⟨1,0,none⟩=some (.iface 231 (.agg #[qz 73])):=by
  rw[z7 _ _ ⟨1,0,none⟩ (by simp<;>omega),z7 _ _ ⟨1,0,none⟩ xC];exact hg
 have JC:t.block<w.heap.size:=by
  rcases zY t.block w.heap.size with h|h
  ·exact h
  ·simp[zV,zu h] at PZ
 have tO:=ID;have aT:=IB;have n1:=zub;have n2:=NW;have n3:=IC;go_enter func46,ntmps46;go_wp2;refine wp_loop_rounds 1 ?_;rw[rounds_succ];go_wp2;go_ret;exact⟨rfl,_,_,_,rfl⟩
end Go.Proofs.YthpldolmpinnhaaGreatDoor
namespace Go.Proofs.YthpldolmpinnhaaGreatDoor
open Go Go.RowKit
set_option maxRecDepth 10000
def Kj(w:World):Prop:=w.cell? ⟨1,0,none⟩=some (.iface 231 (.agg #[qz 73]))
theorem Kj.below{w w':World}(h:Kj w)(hb:Below w.heap.size w w'):Kj w':=by
 have xC:=World.block_lt_of_cell? w _ h;unfold Kj;rw[hb.cell (p:=⟨1,0,none⟩) xC];exact h
def p9(n:Int):Value:=if n=0 then .nilIface else .iface 33 (.int .i64 n)
def XL(n at_:Int)(w:World)(e:Ending)(w':World):Prop:=e = .returned (.tuple #[.int .i64 n,.int .i64 at_])/\Below w.heap.size w w'
theorem Ge(w:World):Calls prog 30 #[.nilIface] w (XL 0 0 w):=by
 go_enter func30,ntmps30;go_wp2;go_ret2
 exact⟨rfl,((zv _ _).alloc (zf _) _).alloc (by simp) _⟩
theorem ah(n:Int)(w:World)(hE:Kj w):Calls prog 30 #[.iface 33 (.int .i64 n)] w (XL n 0 w):=by
 have HE:=zx hE;clear hE;go_enter func30,ntmps30;go_wp2_with fail;refine vz ?_;intro W hW;have hb:Below w.heap.size w W:=by rw[hW];exact((zv _ _).alloc (zf _) _).alloc (by simp) _
 have hz:w.heap.size+2<=W.heap.size:=by rw[hW];simp
 have hA:W.cell? ⟨w.heap.size,0,none⟩=some (.pointer none)/\W.frozen? ⟨w.heap.size,0,none⟩=false:=by rw[hW];constructor<;>go_simp
 have hB:W.cell? ⟨w.heap.size+1,0,none⟩=some (.int .i64 0)/\W.frozen? ⟨w.heap.size+1,0,none⟩=false:=by rw[hW];constructor<;>go_simp
 clear hW;refine(p8 n ⟨w.heap.size,0,none⟩ _ W (HE.out.below hb) hA.1 hA.2).mono ?_;rintro e w1 ⟨rfl,o1,o2,o3,Rc⟩;have xH:Below W.heap.size W w1:=by rw[Rc];exact(((zv _ _).alloc (zf _) _).alloc (by simp) _).alloc (by simp;omega) _
 have Xj:w1.cell? ⟨w.heap.size+1,0,none⟩=some (.int .i64 0)/\w1.frozen? ⟨w.heap.size+1,0,none⟩=false :=
  ⟨by rw[xH.cell (by simp;omega)];exact hB.1,by rw[xH.frozen (by simp;omega)];exact hB.2⟩
 have uf:=hb.trans (xH.mono (by omega));have Ul:w.heap.size+2<=w1.heap.size:=by have:=xH.size;omega
 clear Rc hA hB xH hz;go_wp2_with fail;refine(ar n ⟨w.heap.size+1,0,none⟩ _ w1 (HE.out.below uf) Xj.1 Xj.2).mono ?_;rintro e w2 ⟨rfl,p1,p2,p3,p4,D7⟩;have xB:Below (w.heap.size+1) w1 w2:=by rw[D7];exact(((((zv _ _).alloc (by omega) _).alloc (by simp;omega) _).alloc (by simp;omega) _).alloc (by simp;omega) _).setCell (by simp) _
 have qf:=uf.trans (xB.mono (by omega));have hC:w2.cell? ⟨w.heap.size+1,0,none⟩=some (.int .i64 n):=by
  rw[D7,xd,if_pos rfl];rw[z7 _ _ _ (by simp;omega),z7 _ _ _ (by simp;omega),z7 _ _ _ (by simp;omega),z7 _ _ _ (by show w.heap.size+1<_;omega),Xj.1];rfl
 clear D7 xB Xj;go_wp2;go_ret2
 exact⟨rfl,qf⟩
theorem aw(n:Int)(w:World)(hE:Kj w):Calls prog 30 #[p9 n] w (XL n 0 w):=by
 unfold p9;by_cases h:n=0
 ·subst h;rw[if_pos rfl];exact Ge w
 ·rw[if_neg h];exact ah n w hE
theorem Qq(c:UInt8):∀ l:List UInt8,Lib.indexByte l c=if l.idxOf c<l.length then ((l.idxOf c:Nat):Int) else -1
 | []=>rfl
 | b::l=>by
  have ih:=Qq c l;rw[Lib.indexByte,ih,List.idxOf_cons];by_cases h:b==c
  ·simp[h]
  ·simp only[h,cond_false,List.length_cons];by_cases h2:l.idxOf c<l.length
   ·rw[if_pos h2,if_pos (show l.idxOf c+1<l.length+1 by omega)];have h3:(((l.idxOf c:Nat):Int)==-1)=false:=by rw[beq_eq_false_iff_ne];omega
    rw[h3];simp
   ·rw[if_neg h2,if_neg (show ¬(l.idxOf c+1<l.length+1) by omega)];simp
theorem Km(s:ByteArray)(c:UInt8)(w:World)(hs:s.size<=1000000) :
  Calls prog 101 #[.string s,.string ⟨#[c]⟩] w fun e w' =>
   e = .returned (.tuple #[.string ⟨(s.data.toList.take (s.data.toList.idxOf c)).toArray⟩,.string ⟨(s.data.toList.drop (s.data.toList.idxOf c+1)).toArray⟩,.bool (decide (s.data.toList.idxOf c<s.size))])/\∃ n,w'=w.drewN n:=by
 have hx:=Qq c s.data.toList;rw[xN] at hx;have HX:=zx hx;clear hx;go_enter func101,ntmps101;go_wp2_with fail;refine(Tryz.stringslite_Index_one s c _).mono ?_;rw[HX.out];rintro e w' ⟨rfl,rfl⟩;by_cases xC:s.data.toList.idxOf c<s.size
 ·rw[if_pos xC];generalize hk:s.data.toList.idxOf c=k at xC;have HK:=zx hk;clear hk;have hr:(k+1:Nat)<=s.size:=xC;go_wp2_with fail;go_quiet (fail)
  go_wp2;go_ret3
  rw[qM,qO,HK.out];exact⟨by simp[xC],nq,rfl⟩
 ·rw[if_neg xC];have hi:s.data.toList.idxOf c=s.size:=by have:=List.idxOf_le_length (a:=c) (l:=s.data.toList);simp only[xN] at this;omega
  have Hi:=zx hi;clear hi xC;go_wp2;go_ret3
  rw[Hi.out,Ji,RI,zH (by simp)];exact⟨by simp,0,rfl⟩
theorem cy{w:World}{base size n:Nat}{e:TypeId}{v:Value}{xs:List Value}(h:w.ownsRow base e size v n xs):∃ a m k,v = .slice a m k:=by
 obtain⟨a,cap,hv⟩:=xY h;exact⟨a,n,cap,hv⟩
def pz(l:List UInt8)(w:World)(e:Ending)(w':World):Prop :=
 ∃ (b:Bool) (v:Value) (k:Int),e = .returned (.tuple #[.agg #[.bool b,v,.int .i64 k],.bool (vr l)])/\(∃ a n k',v = .slice a n k')/\Below w.heap.size w w' /\
  (vr l=true->b=fI l/\k=((vW l).length:Int)/\w'.ownsRow w.heap.size 5 1 v ((vN l).length+(vW l).length) (vy (vN l++vW l)))
theorem NA(s:ByteArray)(l:List UInt8)(hl:s.data.toList=l)(w:World)(hs:s.size<=1000000) :
  Calls prog 66 #[.string s,.string ⟨#[46]⟩] w fun e w' =>
   e = .returned (.tuple #[xf (l.take (l.idxOf 46)),xf (l.drop (l.idxOf 46+1)),.bool (decide (l.idxOf 46<l.length))])/\∃ n,w'=w.drewN n:=by
 subst hl;go_enter func66,ntmps66;go_wp2_with fail;refine(Km s 46 _ hs).mono ?_;rintro e w' ⟨rfl,n,rfl⟩;go_wp2;go_ret3
 exact⟨by rw[xN];rfl,n,rfl⟩
theorem SW(l:List UInt8):zQ l [45]=VV l/\zE l [45]=fI l:=by
 cases l with
 | nil=>exact⟨rfl,rfl⟩
 | cons x l =>
  by_cases h:x=45
  ·subst h;simp[zQ,zE,VV,fI,zP]
  ·have h2:((45:UInt8)==x)=false:=by rw[beq_eq_false_iff_ne];exact fun e=>h e.symm
   simp[zQ,zE,VV,fI,zP,h,h2]
theorem gW{w:World}{base tN size n:Nat}{e:TypeId}{v:Value}{xs:List Value}(h:w.ownsRow base e size v n xs)(hb:tN<=base):w.ownsRow tN e size v n xs :=
 ⟨h.1,h.2.imp id fun ⟨g,cap,cur,a,b,c⟩=>⟨g,cap,cur,a,Nat.le_trans hb b,c⟩⟩
def xW(l:List UInt8):List Int:=l.map fun c=>(c.toNat:Int) - 48
theorem zero_eq(l:List UInt8):(!(xW l).any (· != 0))=l.all (· == 48):=by
 induction l with
 | nil=>rfl
 | cons c l ih =>
  have h:(((c.toNat:Int) - 48) !=0) = !(c==48):=by
   have h2:=bU c 48;have h3:((48:UInt8).toNat:Int)=48:=rfl;rw[h3] at h2;by_cases h4:c=48
   ·subst h4;rfl
   ·have h5:(c==48)=false:=by simpa using h4
    rw[h5,zX,bne_iff_ne];intro h6;have h7:((c.toNat:Int)==48)=true:=by rw[beq_iff_eq];omega
    rw[h7] at h2;simp[h4] at h2
  simp only[xW,List.map_cons,List.any_cons,List.all_cons] at ih ⊢;rw[h,←ih];simp
theorem qA{w:World}{B n cap:Nat}{ad:Option Addr}{l:List UInt8}(h:w.ownsRow B 5 1 (.slice ad n cap) n (vy l))(hn:n=l.length):xF w ad (xW l):=by
 subst hn;intro j hj;have MF:j<l.length:=by simpa[xW] using hj
 obtain⟨g,uy,hv,_,_,hc⟩:=vQ h (by omega)
 cases hv;refine⟨⟨g,0,none⟩,rfl,?_⟩;have:=hc j (by omega);rw[ua,this];simp[vy,xW,MF]
theorem xF.set{w:World}{a:Option Addr}{l:List Int}(h:xF w a l){p:Addr}(hp:∀ b,a=some b->b.block≠p.block)(u:Value):xF (w.setCell p u) a l:=fun j hj=>by
 obtain⟨b,hb,hc⟩:=h j hj;refine⟨b,hb,?_⟩;rw[←hc];exact World.cell?_of_block (zN _ _ _ _ (by rw[addr_add];exact hp b hb))
theorem Kg(l:List UInt8)(n:Nat)(hn:n=l.length)(a:Option Addr)(c:Nat)(b:Bool)(sc:Int)(w:World)(hl:l.length<=1000000)(hc:xF w a (xW l)) :
  Calls prog 68 #[.agg #[.bool b,.slice a n c,.int .i64 sc]] w fun e w'=>e = .returned (.bool (l.all (· == 48)))/\Below w.heap.size w w':=by
 subst hn;have:=au (xW l) a c b sc w (by simpa[xW] using hl) hc;rw[zero_eq] at this;simpa[xW] using this
theorem xh{w:World}{base size n:Nat}{e:TypeId}{v:Value}{xs:List Value}(h:w.ownsRow base e size v n xs){p:Addr}(hp:some p.block≠v.ownBlock)(u:Value):(w.setCell p u).ownsRow base e size v n xs :=
 h.kept (row:=some p.block) ⟨rfl,rfl,rfl,by simp,fun i _ xw=>zN _ _ _ _ (fun he=>xw (by rw[he]))⟩ (.inr (fun he=>hp he.symm))
theorem fN{w w':World}{base size n:Nat}{e:TypeId}{v:Value}{xs:List Value}(h:w.ownsRow base e size v n xs)(hb:Below w.heap.size w w'):w'.ownsRow base e size v n xs :=
 h.kept (row:=none) ⟨hb.os,hb.tape,hb.output,hb.size,fun i hi _=>hb.block i hi⟩ (by cases v.ownBlock<;>simp)
theorem cu{l wh fr:List UInt8}{pt:Bool}(hW:vN l=wh)(hF:vW l=fr)(hP:dN l=pt)(hN:pt=false->fr=[])(h:¬((wh++fr).all xQ=true/\wh≠[]/\(pt=true->fr≠[])/\wh.length+fr.length<=30)):vr l=false:=by
 refine zu2 hW hF hP fun ⟨h1,h2,h3⟩=>h ⟨?_,?_,?_,h3⟩
 ·simp only[ux,zO] at h1 h2;rw[zR,h1.1]
  cases pt with
  | false=>rw[hN rfl];rfl
  | true=>simp[(h2 rfl).1]
 ·intro e;subst e;simp[ux] at h1
 ·intro hp e;subst e;simp[ux] at h2;exact absurd hp (by simpa using h2)
theorem py{l wh fr:List UInt8}{pt:Bool}(hW:vN l=wh)(hF:vW l=fr)(hP:dN l=pt)(h1:(wh++fr).all xQ=true)(h2:wh≠[])(h3:pt=true->fr≠[])(h4:wh.length+fr.length<=30):Q8 l=true:=by
 rw[zR,zO] at h1;refine oM hW hF hP (by simp[ux,h1.1,h2]) (fun hp=>by simp[ux,h1.2,h3 hp]) (by omega)
theorem Vv(s:ByteArray)(w:World)(hs:s.size<=1000000) :
  Calls prog 44 #[.string s] w (pz s.data.toList w):=by
 have hlen:(VV s.data.toList).length<=s.size:=by unfold VV;split<;>simp
 have hp:=SW s.data.toList;have mH:=zx hp;generalize qd:VV s.data.toList=al at hlen;have Hal:=zx qd;clear qd hp;go_enter func44,ntmps44;go_wp2_with fail;refine(Tryz.strings_CutPrefix s _ _).mono ?_;rintro e w' ⟨rfl,rfl⟩;have Ql:zQ s.data.toList [45]=al:=mH.out.1.trans Hal.out;have ju:=mH.out.2;rw[show({ data:=#[45] }:ByteArray).data.toList=[45] from rfl,Ql,ju];clear Ql ju;generalize Pr:fI s.data.toList=b;have HB:=zx Pr;clear Pr;go_wp2_with fail;refine(NA _ al (toList_mk al) _ (by rw[size_mk];omega)).mono ?_;rintro e w' ⟨rfl,nq,rfl⟩;have hwl:(al.take (al.idxOf 46)).length+(al.drop (al.idxOf 46+1)).length<=s.size:=by simp;omega
 have hW:vN s.data.toList=al.take (al.idxOf 46):=by rw[vN,Hal.out]
 have hF:vW s.data.toList=al.drop (al.idxOf 46+1):=by rw[vW,Hal.out]
 have hP:dN s.data.toList=decide (al.idxOf 46<al.length):=by rw[dN,Hal.out]
 have hN:decide (al.idxOf 46<al.length)=false->al.drop (al.idxOf 46+1)=[]:=by
  intro h;simp at h;exact zH (by omega)
 generalize al.take (al.idxOf 46)=wh at hW hwl ⊢;generalize al.drop (al.idxOf 46+1)=fr at hF hwl hN ⊢;generalize decide (al.idxOf 46<al.length)=pt at hP hN ⊢;have HW:=zx hW;have HF:=zx hF;have HP:=zx hP;have HN:=zx hN;clear hW hF hP hN;go_wp2_with fail;refine(NK _ _ (by first|(rw[Xw,size_mk];simp;omega)|simp;omega)).mono ?_;rw[Xw,toList_mk];rintro e w' ⟨hv,hb⟩;have qs:w.heap.size+1<=w'.heap.size:=by have:=hb.size;simpa using this
 have hB:Below w.heap.size w w':=(below_drewN ((zv _ _).alloc (zf _) _) nq).trans (hb.mono (by simp));have fk:w'.cell? ⟨w.heap.size,0,none⟩=some (.bool b):=by rw[hb.cell (by simp)];go_simp
 have qD:w'.cell? ⟨w.heap.size,1,none⟩=some (.slice none 0 0):=by rw[hb.cell (by simp)];go_simp
 have jJ:w'.cell? ⟨w.heap.size,2,none⟩=some (.int .i64 0):=by rw[hb.cell (by simp)];go_simp
 have WX:w'.frozen? ⟨w.heap.size,0,none⟩=false:=by rw[hb.frozen (by simp)];go_simp
 have uZ:w'.frozen? ⟨w.heap.size,1,none⟩=false:=by rw[hb.frozen (by simp)];go_simp
 have vF:w'.frozen? ⟨w.heap.size,2,none⟩=false:=by rw[hb.frozen (by simp)];go_simp
 have xJ:∀ v,w'.ownsRow ((w.alloc (.cells #[.bool b,.slice none 0 0,.int .i64 0] 97)).drewN nq).heap.size 5 1 v (wh++fr).length (vy (wh++fr))->w'.ownsRow w.heap.size 5 1 v (wh++fr).length (vy (wh++fr)):=fun v h=>gW h (by simp)
 have ED:∀ v,w'.ownsRow ((w.alloc (.cells #[.bool b,.slice none 0 0,.int .i64 0] 97)).drewN nq).heap.size 5 1 v (wh++fr).length (vy (wh++fr))->some w.heap.size≠v.ownBlock:=fun v h e=>by have:=(World.ownsRow.lt h _ e.symm).1;simp at this;omega
 clear hb;by_cases uN:(wh++fr).all xQ=true
 ·rw[if_pos uN] at hv;obtain⟨v,rfl,vL⟩:=hv;have IE:=zx (cy vL);have Ds:=xJ v vL;have CS:=ED v vL;clear xJ ED vL;obtain⟨ad,cap,rfl⟩:=xY Ds;have Y9:=zx uN;clear uN;have jq:(wh++fr).length=wh.length+fr.length:=by simp
  rw[jq] at Ds CS ⊢;have qB:=zx Ds;clear jq Ds;by_cases Hr:¬(wh≠[]/\(pt=true->fr≠[])/\wh.length+fr.length<=30)
  ·have ve:=cu HW.out HF.out HP.out HN.out (fun h=>Hr h.2);have kS:=zx ve;clear ve;go_wp2;all_goals first
    |(exfalso;refine Hr ⟨by assumption,?_,?_⟩<;>first|(intro h;contradiction)|(intro _;assumption)|omega)
    |(refine bodyPost_ret (v := .tuple #[.agg #[.bool b,.slice none 0 0,.int .i64 0],.bool false]) ?_ rfl ?_
      focus(simp[results,results44,go_sem, *])
      refine⟨b,_,_,by rw[kS.out],by first|exact⟨_,_,_,rfl⟩|exact IE.out,?_,fun h=>by rw[kS.out] at h;cases h⟩;refine hB.trans ?_;(repeat(first|(with_reducible exact zv _ _)|(with_reducible refine below_drewN ?_ _)|(with_reducible refine zg ?_)|(with_reducible refine zj ?_ ?_ _;rotate_left;focus(first|(simp;done)|(simp;omega)))|(with_reducible refine zk ?_ ?_ _;rotate_left;focus(first|(simp;done)|(simp;omega)))))
      done)
  ·have Ui:wh≠[]/\(pt=true->fr≠[])/\wh.length+fr.length<=30:=Classical.not_not.1 Hr;clear Hr;obtain⟨Zp,dy,hg3⟩:=Ui;have KA:=py HW.out HF.out HP.out Y9.out Zp dy hg3;have HFO:=zx KA;clear KA;have h30:¬((30:Int)<(wh.length:Int)+(fr.length:Int)):=by omega
   have zu8:0<(zF wh.toArray).size:=by
    rw[size_mk]
    cases wh with
    | nil=>exact absurd rfl Zp
    | cons x l=>simp
   have Bj:=zu3 wh zu8;have H48:=zx Bj;clear Bj;have U0:(pt=true/\¬fr=[])\/pt=false:=by
    cases pt
    ·exact .inr rfl
    ·exact .inl ⟨rfl,dy rfl⟩
   clear dy;rcases U0 with⟨U0,YY⟩|U0;all_goals
    by_cases c1:(1:Int)<(wh.length:Int)
    ·by_cases c2:(((zF wh.toArray)[0].toNat:Int)==48)=true
     ·have ve:vr s.data.toList=false:=by
       rw[GL HW.out HF.out HB.out HFO.out,H48.out,c2];simp;omega
      have kS:=zx ve;clear ve;go_wp2;all_goals first
       |(exfalso;rename_i hh;simp[Zp,YY] at hh;omega)|(exfalso;rename_i hh;simp[Zp] at hh;omega)
       | skip
      refine bodyPost_ret (v := .tuple #[.agg #[.bool b,.slice ad (wh.length+fr.length) cap,.int .i64 (fr.length:Int)],.bool false]) ?_ rfl ?_
      ·simp[results,results44,go_sem,xd, *]
      ·refine⟨b,_,_,by rw[kS.out],by first|exact⟨_,_,_,rfl⟩|exact IE.out,?_,fun h=>by rw[kS.out] at h;cases h⟩;refine hB.trans ?_;(repeat(first|(with_reducible exact zv _ _)|(with_reducible refine below_drewN ?_ _)|(with_reducible refine zg ?_)|(with_reducible refine zj ?_ ?_ _;rotate_left;focus(first|(simp;done)|(simp;omega)))|(with_reducible refine zk ?_ ?_ _;rotate_left;focus(first|(simp;done)|(simp;omega)))))
     ·have c2':(((zF wh.toArray)[0].toNat:Int)==48)=false:=by simpa using c2
      have ve:vr s.data.toList = !(b && (wh++fr).all (· == 48)):=by
       rw[GL HW.out HF.out HB.out HFO.out,H48.out,c2'];simp
      have kS:=zx ve;clear ve c2
      cases b
      ·have HR:=qB;simp only[zS,zX] at kS;go_wp2;all_goals first
        |(exfalso;rename_i hh;simp[Zp,YY] at hh;omega)|(exfalso;rename_i hh;simp[Zp] at hh;omega)
        | skip
       refine bodyPost_ret (v := .tuple #[.agg #[.bool false,.slice ad (wh.length+fr.length) cap,.int .i64 (fr.length:Int)],.bool true]) ?_ rfl ?_
       ·simp[results,results44,go_sem,xd, *]
       ·refine⟨_,_,_,by rw[kS.out],by first|exact⟨_,_,_,rfl⟩|exact IE.out,?_,?_⟩
        ·refine hB.trans ?_;(repeat(first|(with_reducible exact zv _ _)|(with_reducible refine below_drewN ?_ _)|(with_reducible refine zg ?_)|(with_reducible refine zj ?_ ?_ _;rotate_left;focus(first|(simp;done)|(simp;omega)))|(with_reducible refine zk ?_ ?_ _;rotate_left;focus(first|(simp;done)|(simp;omega)))))
        ·intro _;rw[HW.out,HF.out];refine⟨HB.out.symm,rfl,?_⟩;(repeat(with_reducible refine xh ?_ CS _))
         exact HR.out
      ·simp only[Bool.true_and] at kS;go_wp2_with fail;all_goals first
        |(exfalso;rename_i hh;simp[Zp,YY] at hh;omega)|(exfalso;rename_i hh;simp[Zp] at hh;omega)
        | skip
       refine(Kg (wh++fr) (wh.length+fr.length) (by simp) ad cap true _ _ (by simp;omega) (((qA qB.out (by simp)).set ?_ _).set ?_ _)).mono ?_
       ·intro q hq he;subst hq;exact CS (by simp[zU];exact he.symm)
       ·intro q hq he;subst hq;exact CS (by simp[zU];exact he.symm)
       rintro e w2 ⟨rfl,xB⟩;have Qw:w.heap.size+1<=w2.heap.size:=by have:=xB.size;simp at this;omega
       have Jv:Below w.heap.size w w2:=((hB.setCell (p:=⟨w.heap.size,1,none⟩) (zf _) _).setCell (p:=⟨w.heap.size,2,none⟩) (zf _) _).trans (xB.mono (by simp;omega));have Ah:w2.cell? ⟨w.heap.size,0,none⟩=some (.bool true):=by rw[xB.cell (by simp;omega)];simp[xd,fk]
       have EB:w2.cell? ⟨w.heap.size,1,none⟩=some (.slice ad (wh.length+fr.length) cap):=by rw[xB.cell (by simp;omega)];simp[xd,qD]
       have D0:w2.cell? ⟨w.heap.size,2,none⟩=some (.int .i64 (fr.length:Int)):=by rw[xB.cell (by simp;omega)];simp[xd,jJ]
       have he0:w2.frozen? ⟨w.heap.size,0,none⟩=false:=by rw[xB.frozen (by simp;omega)];go_simp
       have CK:w2.frozen? ⟨w.heap.size,1,none⟩=false:=by rw[xB.frozen (by simp;omega)];go_simp
       have CQ:w2.frozen? ⟨w.heap.size,2,none⟩=false:=by rw[xB.frozen (by simp;omega)];go_simp
       have HR:=zx (fN (xh (xh qB.out CS _) CS _) xB);clear xB fk qD jJ WX uZ vF;generalize (wh++fr).all (· == 48)=z at kS ⊢
       cases z
       ·simp only[zX] at kS;go_wp2;refine bodyPost_ret (v := .tuple #[.agg #[.bool true,.slice ad (wh.length+fr.length) cap,.int .i64 (fr.length:Int)],.bool true]) ?_ rfl ?_
        ·simp[results,results44,go_sem,xd, *]
        ·refine⟨_,_,_,by rw[kS.out],by first|exact⟨_,_,_,rfl⟩|exact IE.out,?_,?_⟩
         ·refine Jv.trans ?_;(repeat(first|(with_reducible exact zv _ _)|(with_reducible refine below_drewN ?_ _)|(with_reducible refine zg ?_)|(with_reducible refine zj ?_ ?_ _;rotate_left;focus(first|(simp;done)|(simp;omega)))|(with_reducible refine zk ?_ ?_ _;rotate_left;focus(first|(simp;done)|(simp;omega)))))
         ·intro _;rw[HW.out,HF.out];refine⟨HB.out.symm,rfl,?_⟩;(repeat(with_reducible refine xh ?_ CS _))
          exact HR.out
       ·simp only[Bool.not_true] at kS;go_wp2;refine bodyPost_ret (v := .tuple #[.agg #[.bool true,.slice ad (wh.length+fr.length) cap,.int .i64 (fr.length:Int)],.bool false]) ?_ rfl ?_
        ·simp[results,results44,go_sem,xd, *]
        ·refine⟨_,_,_,by rw[kS.out],by first|exact⟨_,_,_,rfl⟩|exact IE.out,?_,?_⟩
         ·refine Jv.trans ?_;(repeat(first|(with_reducible exact zv _ _)|(with_reducible refine below_drewN ?_ _)|(with_reducible refine zg ?_)|(with_reducible refine zj ?_ ?_ _;rotate_left;focus(first|(simp;done)|(simp;omega)))|(with_reducible refine zk ?_ ?_ _;rotate_left;focus(first|(simp;done)|(simp;omega)))))
         ·intro h;rw[kS.out] at h;cases h
    ·have ve:vr s.data.toList = !(b && (wh++fr).all (· == 48)):=by
      rw[GL HW.out HF.out HB.out HFO.out,decide_eq_false (by omega)];simp
     have kS:=zx ve;clear ve
     cases b
     ·have HR:=qB;simp only[zS,zX] at kS;go_wp2;all_goals first
       |(exfalso;rename_i hh;simp[Zp,YY] at hh;omega)|(exfalso;rename_i hh;simp[Zp] at hh;omega)
       | skip
      refine bodyPost_ret (v := .tuple #[.agg #[.bool false,.slice ad (wh.length+fr.length) cap,.int .i64 (fr.length:Int)],.bool true]) ?_ rfl ?_
      ·simp[results,results44,go_sem,xd, *]
      ·refine⟨_,_,_,by rw[kS.out],by first|exact⟨_,_,_,rfl⟩|exact IE.out,?_,?_⟩
       ·refine hB.trans ?_;(repeat(first|(with_reducible exact zv _ _)|(with_reducible refine below_drewN ?_ _)|(with_reducible refine zg ?_)|(with_reducible refine zj ?_ ?_ _;rotate_left;focus(first|(simp;done)|(simp;omega)))|(with_reducible refine zk ?_ ?_ _;rotate_left;focus(first|(simp;done)|(simp;omega)))))
       ·intro _;rw[HW.out,HF.out];refine⟨HB.out.symm,rfl,?_⟩;(repeat(with_reducible refine xh ?_ CS _))
        exact HR.out
     ·simp only[Bool.true_and] at kS;go_wp2_with fail;all_goals first
       |(exfalso;rename_i hh;simp[Zp,YY] at hh;omega)|(exfalso;rename_i hh;simp[Zp] at hh;omega)
       | skip
      refine(Kg (wh++fr) (wh.length+fr.length) (by simp) ad cap true _ _ (by simp;omega) (((qA qB.out (by simp)).set ?_ _).set ?_ _)).mono ?_
      ·intro q hq he;subst hq;exact CS (by simp[zU];exact he.symm)
      ·intro q hq he;subst hq;exact CS (by simp[zU];exact he.symm)
      rintro e w2 ⟨rfl,xB⟩;have Qw:w.heap.size+1<=w2.heap.size:=by have:=xB.size;simp at this;omega
      have Jv:Below w.heap.size w w2:=((hB.setCell (p:=⟨w.heap.size,1,none⟩) (zf _) _).setCell (p:=⟨w.heap.size,2,none⟩) (zf _) _).trans (xB.mono (by simp;omega));have Ah:w2.cell? ⟨w.heap.size,0,none⟩=some (.bool true):=by rw[xB.cell (by simp;omega)];simp[xd,fk]
      have EB:w2.cell? ⟨w.heap.size,1,none⟩=some (.slice ad (wh.length+fr.length) cap):=by rw[xB.cell (by simp;omega)];simp[xd,qD]
      have D0:w2.cell? ⟨w.heap.size,2,none⟩=some (.int .i64 (fr.length:Int)):=by rw[xB.cell (by simp;omega)];simp[xd,jJ]
      have he0:w2.frozen? ⟨w.heap.size,0,none⟩=false:=by rw[xB.frozen (by simp;omega)];go_simp
      have CK:w2.frozen? ⟨w.heap.size,1,none⟩=false:=by rw[xB.frozen (by simp;omega)];go_simp
      have CQ:w2.frozen? ⟨w.heap.size,2,none⟩=false:=by rw[xB.frozen (by simp;omega)];go_simp
      have HR:=zx (fN (xh (xh qB.out CS _) CS _) xB);clear xB fk qD jJ WX uZ vF;generalize (wh++fr).all (· == 48)=z at kS ⊢
      cases z
      ·simp only[zX] at kS;go_wp2;refine bodyPost_ret (v := .tuple #[.agg #[.bool true,.slice ad (wh.length+fr.length) cap,.int .i64 (fr.length:Int)],.bool true]) ?_ rfl ?_
       ·simp[results,results44,go_sem,xd, *]
       ·refine⟨_,_,_,by rw[kS.out],by first|exact⟨_,_,_,rfl⟩|exact IE.out,?_,?_⟩
        ·refine Jv.trans ?_;(repeat(first|(with_reducible exact zv _ _)|(with_reducible refine below_drewN ?_ _)|(with_reducible refine zg ?_)|(with_reducible refine zj ?_ ?_ _;rotate_left;focus(first|(simp;done)|(simp;omega)))|(with_reducible refine zk ?_ ?_ _;rotate_left;focus(first|(simp;done)|(simp;omega)))))
        ·intro _;rw[HW.out,HF.out];refine⟨HB.out.symm,rfl,?_⟩;(repeat(with_reducible refine xh ?_ CS _))
         exact HR.out
      ·simp only[Bool.not_true] at kS;go_wp2;refine bodyPost_ret (v := .tuple #[.agg #[.bool true,.slice ad (wh.length+fr.length) cap,.int .i64 (fr.length:Int)],.bool false]) ?_ rfl ?_
       ·simp[results,results44,go_sem,xd, *]
       ·refine⟨_,_,_,by rw[kS.out],by first|exact⟨_,_,_,rfl⟩|exact IE.out,?_,?_⟩
        ·refine Jv.trans ?_;(repeat(first|(with_reducible exact zv _ _)|(with_reducible refine below_drewN ?_ _)|(with_reducible refine zg ?_)|(with_reducible refine zj ?_ ?_ _;rotate_left;focus(first|(simp;done)|(simp;omega)))|(with_reducible refine zk ?_ ?_ _;rotate_left;focus(first|(simp;done)|(simp;omega)))))
        ·intro h;rw[kS.out] at h;cases h
 ·rw[if_neg uN] at hv;subst hv;have ve:=cu HW.out HF.out HP.out HN.out (fun h=>uN h.1);have kS:=zx ve;clear ve uN xJ ED;go_wp2;refine bodyPost_ret (v := .tuple #[.agg #[.bool b,.slice none 0 0,.int .i64 0],.bool false]) ?_ rfl ?_
  ·simp[results,results44,go_sem, *]
  ·refine⟨b,_,_,by rw[kS.out],by first|exact⟨_,_,_,rfl⟩|exact IE.out,?_,fun h=>by rw[kS.out] at h;cases h⟩;refine hB.trans ?_;(repeat(first|(with_reducible exact zv _ _)|(with_reducible refine below_drewN ?_ _)|(with_reducible refine zg ?_)|(with_reducible refine zj ?_ ?_ _;rotate_left;focus(first|(simp;done)|(simp;omega)))|(with_reducible refine zk ?_ ?_ _;rotate_left;focus(first|(simp;done)|(simp;omega)))))
end Go.Proofs.YthpldolmpinnhaaGreatDoor
