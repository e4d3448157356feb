import Derived.Test.YthpldolmpinnhaaGreatDoorJF28
import Derived.Test.YthpldolmpinnhaaGreatDoorCards
import Derived.Test.YthpldolmpinnhaaGreatDoorTie
import Derived.ProofKit
import Derived.OpenShut
import Derived.Deep.DeepHandedRow
import Derived.Deep.DeepWitnessRowRef
import Derived.Lib.LaidU8
import Derived.Lib.LaidIn
import Derived.LaidHandle
import Derived.LaidLaws
import Derived.PinnedBridge
open Option.some renaming inj→z7
open Array renaming getElem?_toList→z8
open List renaming mem_filter→zy,getElem?_take→zv,getElem?_drop→zu,mem_singleton→zk
open Go.Lib.laidMet renaming reads→zx
open Go.DataW renaming trod_string→zj
open Prod.mk renaming injEq→zg
open Go.Proofs.Tryz
namespace Go.Proofs.YthpldolmpinnhaaGreatDoor
open Go.ChangeShapes Go.WideShapes Go.ChangeAt Go.RowKit Go.Lib
theorem own:ownKnob prog.godebug=none:=by kernel_rfl
theorem etG:prog.globalNamed "errors.errorType" = some 1:=by kernel_rfl
theorem rtT:(prog.cutTypes.find? (·.1 == "internal/reflectlite.rtype")).map (·.2)=some 231:=by kernel_rfl
theorem zjy:((List.range prog.types.size).filter fun t=>prog.rowNamed t [101,114,114,111,114])=[73]:=by kernel_rfl
abbrev listed:List (String×DataW Unit):=Rows.plainRow.laid
abbrev Fb:List (String×DataW Unit):=listed.filter fun x=>x.2.handleName?.isNone
theorem bG{W:World}(h:laidMetH prog listed W):laidMet prog Fb W/\handlesMet prog [("errors.errorType",Rows.laid_errors_errorType)] W:=h
theorem rY{W:World}(h:laidMetH prog listed W):KQ W:=by
 obtain⟨name,u,ty,e1,e2,e3,e4,e5⟩:=(bG h).2 _ (zk.2 rfl);have en:name=[101,114,114,111,114]:=(z7 e1).symm;subst en;obtain rfl:=z7 (rtT.symm.trans e2);have hm:ty∈(List.range prog.types.size).filter fun t=>prog.rowNamed t [101,114,114,111,114]:=zy.2 ⟨List.mem_range.2 e3,e4⟩
 rw[zjy] at hm;obtain rfl:=zk.1 hm;have hh:typeHandle prog 73=uO 73:=by kernel_rfl
 rw[hh] at e5;unfold KQ;simpa using World.var?_cell etG e5 0
theorem TF:("unicode/utf8.first",Rows.laid_unicode_utf8_first)∈Fb:=zy.2 ⟨.tail _ (.tail _ (.tail _ (.tail _ (.tail _ (.tail _ (.tail _ (.tail _ (.tail _ (.head _))))))))),by kernel_rfl⟩
theorem OS:("unicode/utf8.acceptRanges",Rows.laid_unicode_utf8_acceptRanges)∈Fb:=zy.2 ⟨.tail _ (.tail _ (.tail _ (.head _))),by kernel_rfl⟩
theorem eC:Rows.laid_unicode_utf8_first=firstData:=Pinned.utf8First_eq
theorem TD:(Rows.laid_unicode_utf8_acceptRanges:DataW Unit)=acceptData:=by kernel_rfl
theorem zjx:prog.globalNamed "unicode/utf8.first" = some 3:=by kernel_rfl
theorem rX:(prog.globals[3]?).map (·.type)=some 222:=by kernel_rfl
theorem rV:prog.globalNamed "unicode/utf8.acceptRanges" = some 4:=by kernel_rfl
theorem eE:(prog.globals[4]?).map (·.type)=some 225:=by kernel_rfl
theorem cU8:prog.cellsOf 5=1:=by kernel_rfl
theorem zjv:prog.cellsOf 222=256:=by kernel_rfl
theorem eH:prog.cellsOf 224=2:=by kernel_rfl
theorem rU{W:World}(h:laidMetH prog listed W):Lib.Utf8Tabs 3 4 W:=by
 have hm:=(bG h).1;have h3:=zx hm TF;rw[eC] at h3;have h4:=zx hm OS;rw[TD] at h4;constructor
 ·intro c hc;obtain⟨g,t,cs,fuel,p,hg,MW,Dw,hd⟩:=h3;obtain rfl:=z7 (zjx.symm.trans hg);obtain rfl:=z7 (rX.symm.trans MW);have dB:=cells_of_tab underlying222 underlying5 cU8 zjv hd;rw[World.var?_cell hg Dw c,←z8,dB];simp[firstTab,hc]
 ·intro i hi;obtain⟨g,t,cs,fuel,p,hg,MW,Dw,hd⟩:=h4;obtain rfl:=z7 (rV.symm.trans hg);obtain rfl:=z7 (eE.symm.trans MW);obtain⟨zzz,d,q,Yg,he⟩:=array_elem underlying225 hd i hi;simp only[List.getElem?_map,List.getElem?_range hi,Option.map_some,Option.some.injEq] at Yg;subst Yg;rw[eH] at he;have dB:=ints_of_struct underlying224 (fun j f hj=>by
   match j,hj with
   | 0,hj=>simp at hj;subst hj;exact⟨underlying5,rfl,cU8⟩
   | 1,hj=>simp at hj;subst hj;exact⟨underlying5,rfl,cU8⟩
   | j+2,hj=>simp at hj) (by rw[eH];rfl) he
  have e0:=congrArg (·[0]?) dB;have e1:=congrArg (·[1]?) dB;simp only[zv,zu] at e0 e1;refine⟨?_,?_⟩
  ·rw[World.var?_cell hg Dw (2*i),←z8];simpa[Nat.mul_comm] using e0
  ·rw[World.var?_cell hg Dw (2*i+1),←z8];simpa[Nat.mul_comm] using e1
theorem rQ{W:World}(h:laidMetH prog listed W):Ef W:=⟨rU h,rY h⟩
theorem TB:("phrases/plural.Names",Rows.laid_phrases_plural_Names)∈Fb:=zy.2 ⟨.tail _ (.tail _ (.tail _ (.tail _ (.tail _ (.tail _ (.tail _ (.head _))))))),by kernel_rfl⟩
theorem TC:("phrases/code.forms",Rows.laid_phrases_code_forms)∈Fb:=zy.2 ⟨.tail _ (.tail _ (.tail _ (.tail _ (.tail _ (.tail _ (.tail _ (.tail _ (.head _)))))))),by kernel_rfl⟩
theorem zju:prog.globalNamed "phrases/plural.Names" = some 0:=by kernel_rfl
theorem rK:(prog.globals[0]?).map (·.type)=some 138:=by kernel_rfl
theorem zjq:prog.globalNamed "phrases/code.forms" = some 2:=by kernel_rfl
theorem rJ:(prog.globals[2]?).map (·.type)=some 202:=by kernel_rfl
theorem zoj:prog.cellsOf 9=1:=by kernel_rfl
theorem eI{W:World}(h:laidMetH prog listed W):qd W:=by
 intro j hj;obtain⟨g,t,cs,fuel,p,hg,MW,Dw,hd⟩:=zx (bG h).1 TB;obtain rfl:=z7 (zju.symm.trans hg);obtain rfl:=z7 (rK.symm.trans MW);obtain⟨zzz,d,q,Yg,he⟩:=array_elem underlying138 hd j hj;rw[zoj] at he;obtain⟨s,hs,hx,_⟩:=zj underlying9 he;have hc:cs.toList[j]? = some (.string s):=by
  have:=congrArg (·[0]?) hs;simpa[zv,zu] using this
 rw[World.var?_cell hg Dw j,←z8,hc];simp only[zg] at hx;obtain⟨rfl,_⟩:=hx;have ue:(ZQ.getD j ByteArray.empty).data.toList=s.data.toList:=by
  match j,hj with
  | 0,_=>(simp at Yg;exact Yg)
  | 1,_=>(simp at Yg;exact Yg)
  | 2,_=>(simp at Yg;exact Yg)
  | 3,_=>(simp at Yg;exact Yg)
  | 4,_=>(simp at Yg;exact Yg)
  | 5,_=>(simp at Yg;exact Yg)
 rw[ByteArray.ext (Array.toList_inj.1 ue)]
theorem eL{W:World}(h:laidMetH prog listed W):jk W:=by
 intro j hj;obtain⟨g,t,cs,fuel,p,hg,MW,Dw,hd⟩:=zx (bG h).1 TC;obtain rfl:=z7 (zjq.symm.trans hg);obtain rfl:=z7 (rJ.symm.trans MW);obtain⟨zzz,d,q,Yg,he⟩:=array_elem underlying202 hd j hj;rw[zoj] at he;obtain⟨s,hs,hx,_⟩:=zj underlying9 he;have hc:cs.toList[j]? = some (.string s):=by
  have:=congrArg (·[0]?) hs;simpa[zv,zu] using this
 rw[World.var?_cell hg Dw j,←z8,hc];simp only[zg] at hx;obtain⟨rfl,_⟩:=hx;have ue:gB j=s.data.toList:=by
  match j,hj with
  | 0,_=>(simp at Yg;exact Yg.symm▸rfl)
  | 1,_=>(simp at Yg;exact Yg)
  | 2,_=>(simp at Yg;exact Yg)
  | 3,_=>(simp at Yg;exact Yg)
  | 4,_=>(simp at Yg;exact Yg)
  | 5,_=>(simp at Yg;exact Yg.symm▸rfl)
  | 6,_=>(simp at Yg;exact Yg.symm▸rfl)
  | 7,_=>(simp at Yg;exact Yg)
  | 8,_=>(simp at Yg;exact Yg)
  | 9,_=>(simp at Yg;exact Yg)
  | 10,_=>(simp at Yg;exact Yg)
  | 11,_=>(simp at Yg;exact Yg)
 rw[ue]
theorem zjk{W:World}(h:laidMetH prog listed W):Ya W:=⟨rQ h,eI h,eL h⟩
def Jy:Nat->DataW Unit->List Value
 | 0,_=>[]
 | _+1,.lit (.int k z)=>[.int k z]
 | _+1,.lit (.string b)=>[.string ⟨b.toArray⟩]
 | n+1,.agg parts=>parts.flatMap (Jy n)
 | _,_=>[]
noncomputable def KL(os:Os):World :=
 let N:=(World.settled prog os).heap.size
 let w0:=World.holding prog os ⟨#[.cells #[.string ⟨#[118,97,108,117,101,32,111,117,116,32,111,102,32,114,97,110,103,101]⟩] 385,.cells #[.string ⟨#[105,110,118,97,108,105,100,32,115,121,110,116,97,120]⟩] 385],#[],[]⟩
 let put (h:Array Obj) (g:Nat) (cs:List Value):Array Obj:=h.modify g fun
  | .cells _ t frozen => .cells cs.toArray t frozen
  | o=>o
 let h1:=put w0.heap 1 [.iface 231 (.agg #[uO 73])]
 let h2:=put h1 0 (Jy 3 Rows.laid_phrases_plural_Names)
 let h3:=put h2 3 (Jy 3 Rows.laid_unicode_utf8_first)
 let h4:=put h3 4 (Jy 3 Rows.laid_unicode_utf8_acceptRanges)
 let h5:=put h4 8 [.iface 383 (.pointer (some ⟨N,0,none⟩))]
 let h6:=put h5 7 [.iface 383 (.pointer (some ⟨N+1,0,none⟩))]
 let h7:=put h6 9 (Jy 3 Rows.laid_internal_strconv_uint64pow10)
 let h8:=put h7 10 (Jy 3 Rows.laid_math_bits_deBruijn32tab)
 let h9:=put h8 11 (Jy 3 Rows.laid_math_bits_deBruijn64tab)
 let dw:=put h9 2 (Jy 3 Rows.laid_phrases_code_forms)
 { w0 with heap:=dw }
set_option maxRecDepth 1000000 in
theorem eM(os:Os)(args:Array Value):laidMetH prog listed ((KL os).forCall (fun _ _=>0) ⟨#[],args,[]⟩).memory :=
 laidMetH_of_parts (laidMet_of_run' 8 (by kernel_rfl) (by kernel_rfl)) (by kernel_rfl)
end Go.Proofs.YthpldolmpinnhaaGreatDoor
namespace Go.Proofs.YthpldolmpinnhaaGreatDoor
open Go
end Go.Proofs.YthpldolmpinnhaaGreatDoor
namespace Go.Proofs.YthpldolmpinnhaaGreatDoor
open Go
structure Fig(l:List UInt8):Prop where
 dig:l.all xJ=true
 ne:l≠[]
 lead:l.length=1\/l.headD 0≠48
theorem Fig.of{l:List UInt8}(h:Gn l=true):Fig l/\l.length<=9:=by
 simp only[Gn,vW,Bool.and_eq_true,Bool.or_eq_true,decide_eq_true_eq,Bool.not_eq_true'] at h;refine⟨⟨h.1.1,fun e=>?_,h.2.2⟩,h.2.1⟩;rw[e] at h;exact absurd h.1.2 (by decide)
theorem TE(x y:List UInt8):cmpL x y = -1\/cmpL x y=0\/cmpL x y=1:=by
 unfold cmpL;split
 ·exact .inl rfl
 split
 ·exact .inr (.inl rfl)
 ·exact .inr (.inr rfl)
end Go.Proofs.YthpldolmpinnhaaGreatDoor
namespace Go.Proofs.YthpldolmpinnhaaGreatDoor
open Go
abbrev yaj:Wd:=[97,110,100]
abbrev wOr:Wd:=[111,114]
def Stop(rest:List Wd):Prop:=∀ c,rest.head? = some c->c=yaj\/c=wOr
theorem LD(w c:Wd)(t:List Wd):Y0 w (c::t)=(c==w):=by
 unfold Y0;rw[List.head?_cons,Bool.eq_iff_iff];simp
end Go.Proofs.YthpldolmpinnhaaGreatDoor
namespace Go.Proofs.YthpldolmpinnhaaGreatDoor
open Go
end Go.Proofs.YthpldolmpinnhaaGreatDoor
