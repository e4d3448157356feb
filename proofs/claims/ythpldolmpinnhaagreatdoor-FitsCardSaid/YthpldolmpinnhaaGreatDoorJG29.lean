import Derived.Test.YthpldolmpinnhaaGreatDoorJG28
import Derived.Test.YthpldolmpinnhaaGreatDoorCards
import Derived.Test.YthpldolmpinnhaaGreatDoorTie
import Derived.ProofKit
import Derived.OpenShut
import Derived.Deep.DeepHandedRow
import Derived.Deep.DeepWitnessRowRef
import Derived.Lib.LaidU8
import Derived.Lib.LaidIn
import Derived.LaidHandle
import Derived.LaidLaws
import Derived.PinnedBridge
open Option.some renaming inj→z7
open Array renaming getElem?_toList→z8
open List renaming mem_filter→zy,getElem?_take→zv,getElem?_drop→zu,mem_singleton→zk
open Go.Lib.laidMet renaming reads→zx
open Go.DataW renaming trod_string→zj
open Prod.mk renaming injEq→zg
open Go.Proofs.Tryz
namespace Go.Proofs.YthpldolmpinnhaaGreatDoor
open Go.ChangeShapes Go.WideShapes Go.ChangeAt Go.RowKit Go.Lib
theorem own:ownKnob prog.godebug=none:=by kernel_rfl
theorem etG:prog.globalNamed "errors.errorType" = some 1:=by kernel_rfl
theorem rtT:(prog.cutTypes.find? (·.1 == "internal/reflectlite.rtype")).map (·.2)=some 231:=by kernel_rfl
theorem zj5:((List.range prog.types.size).filter fun t=>prog.rowNamed t [101,114,114,111,114])=[73]:=by kernel_rfl
abbrev listed:List (String×DataW Unit):=Rows.plainRow.laid
abbrev FN:List (String×DataW Unit):=listed.filter fun x=>x.2.handleName?.isNone
theorem bB{W:World}(h:laidMetH prog listed W):laidMet prog FN W/\handlesMet prog [("errors.errorType",Rows.laid_errors_errorType)] W:=h
theorem rX{W:World}(h:laidMetH prog listed W):QG W:=by
 obtain⟨name,u,ty,e1,e2,e3,e4,e5⟩:=(bB h).2 _ (zk.2 rfl);have en:name=[101,114,114,111,114]:=(z7 e1).symm;subst en;obtain rfl:=z7 (rtT.symm.trans e2);have hm:ty∈(List.range prog.types.size).filter fun t=>prog.rowNamed t [101,114,114,111,114]:=zy.2 ⟨List.mem_range.2 e3,e4⟩
 rw[zj5] at hm;obtain rfl:=zk.1 hm;have hh:typeHandle prog 73=uo 73:=by kernel_rfl
 rw[hh] at e5;unfold QG;simpa using World.var?_cell etG e5 0
theorem TT:("unicode/utf8.first",Rows.laid_unicode_utf8_first)∈FN:=zy.2 ⟨.tail _ (.tail _ (.tail _ (.tail _ (.tail _ (.tail _ (.tail _ (.tail _ (.tail _ (.head _))))))))),by kernel_rfl⟩
theorem On:("unicode/utf8.acceptRanges",Rows.laid_unicode_utf8_acceptRanges)∈FN:=zy.2 ⟨.tail _ (.tail _ (.tail _ (.head _))),by kernel_rfl⟩
theorem eh:Rows.laid_unicode_utf8_first=firstData:=Pinned.utf8First_eq
theorem TW:(Rows.laid_unicode_utf8_acceptRanges:DataW Unit)=acceptData:=by kernel_rfl
theorem zj6:prog.globalNamed "unicode/utf8.first" = some 3:=by kernel_rfl
theorem rV:(prog.globals[3]?).map (·.type)=some 222:=by kernel_rfl
theorem rU:prog.globalNamed "unicode/utf8.acceptRanges" = some 4:=by kernel_rfl
theorem iz:(prog.globals[4]?).map (·.type)=some 225:=by kernel_rfl
theorem cU8:prog.cellsOf 5=1:=by kernel_rfl
theorem zj7:prog.cellsOf 222=256:=by kernel_rfl
theorem iy:prog.cellsOf 224=2:=by kernel_rfl
theorem rQ{W:World}(h:laidMetH prog listed W):Lib.Utf8Tabs 3 4 W:=by
 have hm:=(bB h).1;have h3:=zx hm TT;rw[eh] at h3;have h4:=zx hm On;rw[TW] at h4;constructor
 .intro c hc;obtain⟨g,t,cs,fuel,p,hg,MW,Bq,hd⟩:=h3;obtain rfl:=z7 (zj6.symm.trans hg);obtain rfl:=z7 (rV.symm.trans MW);have dT:=cells_of_tab underlying222 underlying5 cU8 zj7 hd;rw[World.var?_cell hg Bq c,<-z8,dT];simp[firstTab,hc]
 .intro i hi;obtain⟨g,t,cs,fuel,p,hg,MW,Bq,hd⟩:=h4;obtain rfl:=z7 (rU.symm.trans hg);obtain rfl:=z7 (iz.symm.trans MW);obtain⟨zz6,d,q,YD,he⟩:=array_elem underlying225 hd i hi;simp only[List.getElem?_map,List.getElem?_range hi,Option.map_some,Option.some.injEq] at YD;subst YD;rw[iy] at he;have dT:=ints_of_struct underlying224 (fun j f hj=>by
   match j,hj with
   | 0,hj=>simp at hj;subst hj;exact⟨underlying5,rfl,cU8⟩
   | 1,hj=>simp at hj;subst hj;exact⟨underlying5,rfl,cU8⟩
   | j+2,hj=>simp at hj) (by rw[iy];rfl) he
  have e0:=congrArg (·[0]?) dT;have e1:=congrArg (·[1]?) dT;simp only[zv,zu] at e0 e1;refine⟨?_,?_⟩
  .rw[World.var?_cell hg Bq (2*i),<-z8];simpa[Nat.mul_comm] using e0
  .rw[World.var?_cell hg Bq (2*i+1),<-z8];simpa[Nat.mul_comm] using e1
theorem rK{W:World}(h:laidMetH prog listed W):Ol W:=⟨rQ h,rX h⟩
theorem TA:("phrases/plural.Names",Rows.laid_phrases_plural_Names)∈FN:=zy.2 ⟨.tail _ (.tail _ (.tail _ (.tail _ (.tail _ (.tail _ (.tail _ (.head _))))))),by kernel_rfl⟩
theorem Ta:("phrases/code.forms",Rows.laid_phrases_code_forms)∈FN:=zy.2 ⟨.tail _ (.tail _ (.tail _ (.tail _ (.tail _ (.tail _ (.tail _ (.tail _ (.head _)))))))),by kernel_rfl⟩
theorem zj8:prog.globalNamed "phrases/plural.Names" = some 0:=by kernel_rfl
theorem rJ:(prog.globals[0]?).map (·.type)=some 138:=by kernel_rfl
theorem zj9:prog.globalNamed "phrases/code.forms" = some 2:=by kernel_rfl
theorem rG:(prog.globals[2]?).map (·.type)=some 202:=by kernel_rfl
theorem zov:prog.cellsOf 9=1:=by kernel_rfl
theorem iu{W:World}(h:laidMetH prog listed W):uS W:=by
 intro j hj;obtain⟨g,t,cs,fuel,p,hg,MW,Bq,hd⟩:=zx (bB h).1 TA;obtain rfl:=z7 (zj8.symm.trans hg);obtain rfl:=z7 (rJ.symm.trans MW);obtain⟨zz6,d,q,YD,he⟩:=array_elem underlying138 hd j hj;rw[zov] at he;obtain⟨s,hs,hx,_⟩:=zj underlying9 he;have hc:cs.toList[j]? = some (.string s):=by
  have:=congrArg (·[0]?) hs;simpa[zv,zu] using this
 rw[World.var?_cell hg Bq j,<-z8,hc];simp only[zg] at hx;obtain⟨rfl,_⟩:=hx;have qf:(ZK.getD j ByteArray.empty).data.toList=s.data.toList:=by
  match j,hj with
  | 0,_=>(simp at YD;exact YD)
  | 1,_=>(simp at YD;exact YD)
  | 2,_=>(simp at YD;exact YD)
  | 3,_=>(simp at YD;exact YD)
  | 4,_=>(simp at YD;exact YD)
  | 5,_=>(simp at YD;exact YD)
 rw[ByteArray.ext (Array.toList_inj.1 qf)]
theorem iq{W:World}(h:laidMetH prog listed W):gy W:=by
 intro j hj;obtain⟨g,t,cs,fuel,p,hg,MW,Bq,hd⟩:=zx (bB h).1 Ta;obtain rfl:=z7 (zj9.symm.trans hg);obtain rfl:=z7 (rG.symm.trans MW);obtain⟨zz6,d,q,YD,he⟩:=array_elem underlying202 hd j hj;rw[zov] at he;obtain⟨s,hs,hx,_⟩:=zj underlying9 he;have hc:cs.toList[j]? = some (.string s):=by
  have:=congrArg (·[0]?) hs;simpa[zv,zu] using this
 rw[World.var?_cell hg Bq j,<-z8,hc];simp only[zg] at hx;obtain⟨rfl,_⟩:=hx;have qf:fZ j=s.data.toList:=by
  match j,hj with
  | 0,_=>(simp at YD;exact YD.symm▸rfl)
  | 1,_=>(simp at YD;exact YD)
  | 2,_=>(simp at YD;exact YD)
  | 3,_=>(simp at YD;exact YD)
  | 4,_=>(simp at YD;exact YD)
  | 5,_=>(simp at YD;exact YD.symm▸rfl)
  | 6,_=>(simp at YD;exact YD.symm▸rfl)
  | 7,_=>(simp at YD;exact YD)
  | 8,_=>(simp at YD;exact YD)
  | 9,_=>(simp at YD;exact YD)
  | 10,_=>(simp at YD;exact YD)
  | 11,_=>(simp at YD;exact YD)
 rw[qf]
theorem zjz{W:World}(h:laidMetH prog listed W):Yp W:=⟨rK h,iu h,iq h⟩
def JV:Nat->DataW Unit->List Value
 | 0,_=>[]
 | _+1,.lit (.int k z)=>[.int k z]
 | _+1,.lit (.string b)=>[.string ⟨b.toArray⟩]
 | n+1,.agg parts=>parts.flatMap (JV n)
 | _,_=>[]
noncomputable def Ki(os:Os):World :=
 let N:=(World.settled prog os).heap.size
 let w0:=World.holding prog os ⟨#[.cells #[.string ⟨#[118,97,108,117,101,32,111,117,116,32,111,102,32,114,97,110,103,101]⟩] 385,.cells #[.string ⟨#[105,110,118,97,108,105,100,32,115,121,110,116,97,120]⟩] 385],#[],[]⟩
 let put (h:Array Obj) (g:Nat) (cs:List Value):Array Obj:=h.modify g fun
  | .cells _ t frozen => .cells cs.toArray t frozen
  | o=>o
 let h1:=put w0.heap 1 [.iface 231 (.agg #[uo 73])]
 let h2:=put h1 0 (JV 3 Rows.laid_phrases_plural_Names)
 let h3:=put h2 3 (JV 3 Rows.laid_unicode_utf8_first)
 let h4:=put h3 4 (JV 3 Rows.laid_unicode_utf8_acceptRanges)
 let h5:=put h4 8 [.iface 383 (.pointer (some ⟨N,0,none⟩))]
 let h6:=put h5 7 [.iface 383 (.pointer (some ⟨N+1,0,none⟩))]
 let h7:=put h6 9 (JV 3 Rows.laid_internal_strconv_uint64pow10)
 let h8:=put h7 10 (JV 3 Rows.laid_math_bits_deBruijn32tab)
 let h9:=put h8 11 (JV 3 Rows.laid_math_bits_deBruijn64tab)
 let du:=put h9 2 (JV 3 Rows.laid_phrases_code_forms)
 { w0 with heap:=du }
set_option maxRecDepth 1000000 in
theorem ik(os:Os)(args:Array Value):laidMetH prog listed ((Ki os).forCall (fun _ _=>0) ⟨#[],args,[]⟩).memory :=
 laidMetH_of_parts (laidMet_of_run' 8 (by kernel_rfl) (by kernel_rfl)) (by kernel_rfl)
end Go.Proofs.YthpldolmpinnhaaGreatDoor
namespace Go.Proofs.YthpldolmpinnhaaGreatDoor
open Go
end Go.Proofs.YthpldolmpinnhaaGreatDoor
namespace Go.Proofs.YthpldolmpinnhaaGreatDoor
open Go
structure Fig(l:List UInt8):Prop where
 dig:l.all xF=true
 ne:l≠[]
 lead:l.length=1\/l.headD 0≠48
theorem Fig.of{l:List UInt8}(h:Fq l=true):Fig l/\l.length<=9:=by
 simp only[Fq,vA,Bool.and_eq_true,Bool.or_eq_true,decide_eq_true_eq,Bool.not_eq_true'] at h;refine⟨⟨h.1.1,fun e=>?_,h.2.2⟩,h.2.1⟩;rw[e] at h;exact absurd h.1.2 (by decide)
theorem Tc(x y:List UInt8):cmpL x y = -1\/cmpL x y=0\/cmpL x y=1:=by
 unfold cmpL;split
 .exact .inl rfl
 split
 .exact .inr (.inl rfl)
 .exact .inr (.inr rfl)
end Go.Proofs.YthpldolmpinnhaaGreatDoor
namespace Go.Proofs.YthpldolmpinnhaaGreatDoor
open Go
abbrev yax:Wd:=[97,110,100]
abbrev wOr:Wd:=[111,114]
def Stop(rest:List Wd):Prop:=∀ c,rest.head? = some c->c=yax\/c=wOr
theorem LO(w c:Wd)(t:List Wd):Yy w (c::t)=(c==w):=by
 unfold Yy;rw[List.head?_cons,Bool.eq_iff_iff];simp
end Go.Proofs.YthpldolmpinnhaaGreatDoor
namespace Go.Proofs.YthpldolmpinnhaaGreatDoor
open Go
end Go.Proofs.YthpldolmpinnhaaGreatDoor
