import Derived.Test.YthpldolmpinnhaaGreatDoorJK28
import Derived.Test.YthpldolmpinnhaaGreatDoorCards
import Derived.Test.YthpldolmpinnhaaGreatDoorTie
import Derived.ProofKit
import Derived.OpenShut
import Derived.Deep.DeepHandedRow
import Derived.Deep.DeepWitnessRowRef
import Derived.Lib.LaidU8
import Derived.Lib.LaidIn
import Derived.LaidHandle
import Derived.LaidLaws
import Derived.PinnedBridge
open Option.some renaming inj→z7
open Array renaming getElem?_toList→z8
open List renaming mem_filter→zy,getElem?_take→zv,getElem?_drop→zu,mem_singleton→zk
open Go.Lib.laidMet renaming reads→zx
open Go.DataW renaming trod_string→zj
open Prod.mk renaming injEq→zg
open Go.Proofs.Tryz
namespace Go.Proofs.YthpldolmpinnhaaGreatDoor
open Go.ChangeShapes Go.WideShapes Go.ChangeAt Go.RowKit Go.Lib
theorem own:ownKnob prog.godebug=none:=by kernel_rfl
theorem etG:prog.globalNamed "errors.errorType" = some 1:=by kernel_rfl
theorem rtT:(prog.cutTypes.find? (·.1 == "internal/reflectlite.rtype")).map (·.2)=some 231:=by kernel_rfl
theorem zv7:((List.range prog.types.size).filter fun t=>prog.rowNamed t [101,114,114,111,114])=[73]:=by kernel_rfl
abbrev listed:List (String×DataW Unit):=Rows.plainRow.laid
abbrev VF:List (String×DataW Unit):=listed.filter fun x=>x.2.handleName?.isNone
theorem bq{W:World}(h:laidMetH prog listed W):laidMet prog VF W/\handlesMet prog [("errors.errorType",Rows.laid_errors_errorType)] W:=h
theorem og{W:World}(h:laidMetH prog listed W):Qh W:=by
 obtain⟨name,u,ty,e1,e2,e3,e4,e5⟩:=(bq h).2 _ (zk.2 rfl);have en:name=[101,114,114,111,114]:=(z7 e1).symm;subst en;obtain rfl:=z7 (rtT.symm.trans e2);have hm:ty∈(List.range prog.types.size).filter fun t=>prog.rowNamed t [101,114,114,111,114]:=zy.2 ⟨List.mem_range.2 e3,e4⟩
 rw[zv7] at hm;obtain rfl:=zk.1 hm;have hh:typeHandle prog 73=uA 73:=by kernel_rfl
 rw[hh] at e5;unfold Qh;simpa using World.var?_cell etG e5 0
theorem Su:("unicode/utf8.first",Rows.laid_unicode_utf8_first)∈VF:=zy.2 ⟨.tail _ (.tail _ (.tail _ (.tail _ (.tail _ (.tail _ (.tail _ (.tail _ (.tail _ (.head _))))))))),by kernel_rfl⟩
theorem NF:("unicode/utf8.acceptRanges",Rows.laid_unicode_utf8_acceptRanges)∈VF:=zy.2 ⟨.tail _ (.tail _ (.tail _ (.head _))),by kernel_rfl⟩
theorem aJ:Rows.laid_unicode_utf8_first=firstData:=Pinned.utf8First_eq
theorem Sq:(Rows.laid_unicode_utf8_acceptRanges:DataW Unit)=acceptData:=by kernel_rfl
theorem zv8:prog.globalNamed "unicode/utf8.first" = some 3:=by kernel_rfl
theorem oZ:(prog.globals[3]?).map (·.type)=some 222:=by kernel_rfl
theorem oY:prog.globalNamed "unicode/utf8.acceptRanges" = some 4:=by kernel_rfl
theorem aG:(prog.globals[4]?).map (·.type)=some 225:=by kernel_rfl
theorem cU8:prog.cellsOf 5=1:=by kernel_rfl
theorem zv9:prog.cellsOf 222=256:=by kernel_rfl
theorem aF:prog.cellsOf 224=2:=by kernel_rfl
theorem oX{W:World}(h:laidMetH prog listed W):Lib.Utf8Tabs 3 4 W:=by
 have hm:=(bq h).1;have h3:=zx hm Su;rw[aJ] at h3;have h4:=zx hm NF;rw[Sq] at h4;constructor
 ·intro c hc;obtain⟨g,t,cs,fuel,p,hg,LH,Db,hd⟩:=h3;obtain rfl:=z7 (zv8.symm.trans hg);obtain rfl:=z7 (oZ.symm.trans LH);have dJ:=cells_of_tab underlying222 underlying5 cU8 zv9 hd;rw[World.var?_cell hg Db c,←z8,dJ];simp[firstTab,hc]
 ·intro i hi;obtain⟨g,t,cs,fuel,p,hg,LH,Db,hd⟩:=h4;obtain rfl:=z7 (oY.symm.trans hg);obtain rfl:=z7 (aG.symm.trans LH);obtain⟨sg,d,q,Y4,he⟩:=array_elem underlying225 hd i hi;simp only[List.getElem?_map,List.getElem?_range hi,Option.map_some,Option.some.injEq] at Y4;subst Y4;rw[aF] at he;have dJ:=ints_of_struct underlying224 (fun j f hj=>by
   match j,hj with
   | 0,hj=>simp at hj;subst hj;exact⟨underlying5,rfl,cU8⟩
   | 1,hj=>simp at hj;subst hj;exact⟨underlying5,rfl,cU8⟩
   | j+2,hj=>simp at hj) (by rw[aF];rfl) he
  have e0:=congrArg (·[0]?) dJ;have e1:=congrArg (·[1]?) dJ;simp only[zv,zu] at e0 e1;refine⟨?_,?_⟩
  ·rw[World.var?_cell hg Db (2*i),←z8];simpa[Nat.mul_comm] using e0
  ·rw[World.var?_cell hg Db (2*i+1),←z8];simpa[Nat.mul_comm] using e1
theorem oV{W:World}(h:laidMetH prog listed W):aU W:=⟨oX h,og h⟩
theorem Sk:("phrases/plural.Names",Rows.laid_phrases_plural_Names)∈VF:=zy.2 ⟨.tail _ (.tail _ (.tail _ (.tail _ (.tail _ (.tail _ (.tail _ (.head _))))))),by kernel_rfl⟩
theorem Sj:("phrases/code.forms",Rows.laid_phrases_code_forms)∈VF:=zy.2 ⟨.tail _ (.tail _ (.tail _ (.tail _ (.tail _ (.tail _ (.tail _ (.tail _ (.head _)))))))),by kernel_rfl⟩
theorem zvz:prog.globalNamed "phrases/plural.Names" = some 0:=by kernel_rfl
theorem oU:(prog.globals[0]?).map (·.type)=some 138:=by kernel_rfl
theorem zvy:prog.globalNamed "phrases/code.forms" = some 2:=by kernel_rfl
theorem oQ:(prog.globals[2]?).map (·.type)=some 202:=by kernel_rfl
theorem zi5:prog.cellsOf 9=1:=by kernel_rfl
theorem aD{W:World}(h:laidMetH prog listed W):ui W:=by
 intro j hj;obtain⟨g,t,cs,fuel,p,hg,LH,Db,hd⟩:=zx (bq h).1 Sk;obtain rfl:=z7 (zvz.symm.trans hg);obtain rfl:=z7 (oU.symm.trans LH);obtain⟨sg,d,q,Y4,he⟩:=array_elem underlying138 hd j hj;rw[zi5] at he;obtain⟨s,hs,hx,_⟩:=zj underlying9 he;have hc:cs.toList[j]? = some (.string s):=by
  have:=congrArg (·[0]?) hs;simpa[zv,zu] using this
 rw[World.var?_cell hg Db j,←z8,hc];simp only[zg] at hx;obtain⟨rfl,_⟩:=hx;have uw:(Zx.getD j ByteArray.empty).data.toList=s.data.toList:=by
  match j,hj with
  | 0,_=>(simp at Y4;exact Y4)
  | 1,_=>(simp at Y4;exact Y4)
  | 2,_=>(simp at Y4;exact Y4)
  | 3,_=>(simp at Y4;exact Y4)
  | 4,_=>(simp at Y4;exact Y4)
  | 5,_=>(simp at Y4;exact Y4)
 rw[ByteArray.ext (Array.toList_inj.1 uw)]
theorem aB{W:World}(h:laidMetH prog listed W):jc W:=by
 intro j hj;obtain⟨g,t,cs,fuel,p,hg,LH,Db,hd⟩:=zx (bq h).1 Sj;obtain rfl:=z7 (zvy.symm.trans hg);obtain rfl:=z7 (oQ.symm.trans LH);obtain⟨sg,d,q,Y4,he⟩:=array_elem underlying202 hd j hj;rw[zi5] at he;obtain⟨s,hs,hx,_⟩:=zj underlying9 he;have hc:cs.toList[j]? = some (.string s):=by
  have:=congrArg (·[0]?) hs;simpa[zv,zu] using this
 rw[World.var?_cell hg Db j,←z8,hc];simp only[zg] at hx;obtain⟨rfl,_⟩:=hx;have uw:gR j=s.data.toList:=by
  match j,hj with
  | 0,_=>(simp at Y4;exact Y4.symm▸rfl)
  | 1,_=>(simp at Y4;exact Y4)
  | 2,_=>(simp at Y4;exact Y4)
  | 3,_=>(simp at Y4;exact Y4)
  | 4,_=>(simp at Y4;exact Y4)
  | 5,_=>(simp at Y4;exact Y4.symm▸rfl)
  | 6,_=>(simp at Y4;exact Y4.symm▸rfl)
  | 7,_=>(simp at Y4;exact Y4)
  | 8,_=>(simp at Y4;exact Y4)
  | 9,_=>(simp at Y4;exact Y4)
  | 10,_=>(simp at Y4;exact Y4)
  | 11,_=>(simp at Y4;exact Y4)
 rw[uw]
theorem zvx{W:World}(h:laidMetH prog listed W):ZG W:=⟨oV h,aD h,aB h⟩
def Ut:Nat->DataW Unit->List Value
 | 0,_=>[]
 | _+1,.lit (.int k z)=>[.int k z]
 | _+1,.lit (.string b)=>[.string ⟨b.toArray⟩]
 | n+1,.agg parts=>parts.flatMap (Ut n)
 | _,_=>[]
end Go.Proofs.YthpldolmpinnhaaGreatDoor
namespace Go.Proofs.YthpldolmpinnhaaGreatDoor
open Go
end Go.Proofs.YthpldolmpinnhaaGreatDoor
namespace Go.Proofs.YthpldolmpinnhaaGreatDoor
open Go
structure Fig(l:List UInt8):Prop where
 dig:l.all xF=true
 ne:l≠[]
 lead:l.length=1\/l.headD 0≠48
theorem Fig.of{l:List UInt8}(h:Gd l=true):Fig l/\l.length<=9:=by
 simp only[Gd,vO,Bool.and_eq_true,Bool.or_eq_true,decide_eq_true_eq,Bool.not_eq_true'] at h;refine⟨⟨h.1.1,fun e=>?_,h.2.2⟩,h.2.1⟩;rw[e] at h;exact absurd h.1.2 (by decide)
theorem Sg(x y:List UInt8):cmpL x y = -1\/cmpL x y=0\/cmpL x y=1:=by
 unfold cmpL;split
 ·exact .inl rfl
 split
 ·exact .inr (.inl rfl)
 ·exact .inr (.inr rfl)
end Go.Proofs.YthpldolmpinnhaaGreatDoor
namespace Go.Proofs.YthpldolmpinnhaaGreatDoor
open Go
abbrev yjv:Wd:=[97,110,100]
abbrev wOr:Wd:=[111,114]
def Stop(rest:List Wd):Prop:=∀ c,rest.head? = some c->c=yjv\/c=wOr
theorem IQ(w c:Wd)(t:List Wd):ZA w (c::t)=(c==w):=by
 unfold ZA;rw[List.head?_cons,Bool.eq_iff_iff];simp
end Go.Proofs.YthpldolmpinnhaaGreatDoor
namespace Go.Proofs.YthpldolmpinnhaaGreatDoor
open Go
end Go.Proofs.YthpldolmpinnhaaGreatDoor
