import Derived.Test.YthpldolmpinnhaaGreatDoorJ30
import Derived.Test.YthpldolmpinnhaaGreatDoorCards
import Derived.Test.YthpldolmpinnhaaGreatDoorTie
import Derived.ProofKit
import Derived.OpenShut
import Derived.Deep.DeepHandedRow
import Derived.Deep.DeepWitnessRowRef
import Derived.Lib.LaidU8
import Derived.Lib.LaidIn
import Derived.LaidHandle
import Derived.LaidLaws
import Derived.PinnedBridge
namespace Go.Proofs.YthpldolmpinnhaaGreatDoor
open Go.ChangeShapes Go.WideShapes Go.ChangeAt Go.RowKit Go.Lib
theorem own:ownKnob Tryz.prog.godebug=none:=by kernel_rfl
theorem etG:Tryz.prog.globalNamed "errors.errorType" = some 1:=by kernel_rfl
theorem rtT:(Tryz.prog.cutTypes.find? (·.1 == "internal/reflectlite.rtype")).map (·.2)=some 231:=by kernel_rfl
theorem errRow:((List.range Tryz.prog.types.size).filter fun t=>Tryz.prog.rowNamed t [101,114,114,111,114])=[73]:=by kernel_rfl
abbrev listed:List (String×DataW Unit):=Rows.plainRow.laid
abbrev laidL:List (String×DataW Unit):=listed.filter fun x=>x.2.handleName?.isNone
theorem met_parts {W:World} (h:laidMetH Tryz.prog listed W):laidMet Tryz.prog laidL W/\handlesMet Tryz.prog [("errors.errorType",Rows.laid_errors_errorType)] W:=h
theorem errT_of {W:World} (h:laidMetH Tryz.prog listed W):ErrT W:=by
 obtain ⟨name,u,ty,e1,e2,e3,e4,e5⟩:=(met_parts h).2 _ (List.mem_singleton.2 rfl);have en:name=[101,114,114,111,114]:=(Option.some.inj e1).symm;subst en;obtain rfl:=Option.some.inj (rtT.symm.trans e2);have hm:ty∈(List.range Tryz.prog.types.size).filter fun t=>Tryz.prog.rowNamed t [101,114,114,111,114]:=List.mem_filter.2 ⟨List.mem_range.2 e3,e4⟩
 rw [errRow] at hm;obtain rfl:=List.mem_singleton.1 hm;have hh:typeHandle Tryz.prog 73=hdl 73:=by kernel_rfl
 rw [hh] at e5;unfold ErrT;simpa using World.var?_cell etG e5 0
theorem mem_first:("unicode/utf8.first",Rows.laid_unicode_utf8_first)∈laidL:=List.mem_filter.2 ⟨.tail _ (.tail _ (.tail _ (.tail _ (.tail _ (.tail _ (.tail _ (.tail _ (.tail _ (.head _))))))))),by kernel_rfl⟩
theorem mem_accept:("unicode/utf8.acceptRanges",Rows.laid_unicode_utf8_acceptRanges)∈laidL:=List.mem_filter.2 ⟨.tail _ (.tail _ (.tail _ (.head _))),by kernel_rfl⟩
theorem first_eq:Rows.laid_unicode_utf8_first=firstData:=Pinned.utf8First_eq
theorem accept_eq:(Rows.laid_unicode_utf8_acceptRanges:DataW Unit)=acceptData:=by kernel_rfl
theorem gFirst:Tryz.prog.globalNamed "unicode/utf8.first" = some 3:=by kernel_rfl
theorem gFirstT:(Tryz.prog.globals[3]?).map (·.type)=some 222:=by kernel_rfl
theorem gAccept:Tryz.prog.globalNamed "unicode/utf8.acceptRanges" = some 4:=by kernel_rfl
theorem gAcceptT:(Tryz.prog.globals[4]?).map (·.type)=some 225:=by kernel_rfl
theorem cU8:Tryz.prog.cellsOf 5=1:=by kernel_rfl
theorem cFirst:Tryz.prog.cellsOf 222=256:=by kernel_rfl
theorem cRange:Tryz.prog.cellsOf 224=2:=by kernel_rfl
theorem utf8_of {W:World} (h:laidMetH Tryz.prog listed W):Lib.Utf8Tabs 3 4 W:=by
 have hm:=(met_parts h).1;have h3:=Lib.laidMet.reads hm mem_first;rw [first_eq] at h3;have h4:=Lib.laidMet.reads hm mem_accept;rw [accept_eq] at h4;constructor
 ·intro c hc;obtain ⟨g,t,cs,fuel,p,hg,hty,hvar,hd⟩:=h3;obtain rfl:=Option.some.inj (gFirst.symm.trans hg);obtain rfl:=Option.some.inj (gFirstT.symm.trans hty);have hcs:=cells_of_tab Tryz.underlying222 Tryz.underlying5 cU8 cFirst hd;rw [World.var?_cell hg hvar c,←Array.getElem?_toList,hcs];simp [firstTab,hc]
 ·intro i hi;obtain ⟨g,t,cs,fuel,p,hg,hty,hvar,hd⟩:=h4;obtain rfl:=Option.some.inj (gAccept.symm.trans hg);obtain rfl:=Option.some.inj (gAcceptT.symm.trans hty);obtain ⟨fuel2,d,q,hdi,he⟩:=array_elem Tryz.underlying225 hd i hi;simp only [List.getElem?_map,List.getElem?_range hi,Option.map_some,Option.some.injEq] at hdi;subst hdi;rw [cRange] at he;have hcs:=ints_of_struct Tryz.underlying224 (fun j f hj=>by
   match j,hj with
   | 0,hj=>simp at hj;subst hj;exact ⟨Tryz.underlying5,rfl,cU8⟩
   | 1,hj=>simp at hj;subst hj;exact ⟨Tryz.underlying5,rfl,cU8⟩
   | j+2,hj=>simp at hj) (by rw [cRange];rfl) he
  have e0:=congrArg (·[0]?) hcs;have e1:=congrArg (·[1]?) hcs;simp only [List.getElem?_take,List.getElem?_drop] at e0 e1;refine ⟨?_,?_⟩
  ·rw [World.var?_cell hg hvar (2*i),←Array.getElem?_toList];simpa [Nat.mul_comm] using e0
  ·rw [World.var?_cell hg hvar (2*i+1),←Array.getElem?_toList];simpa [Nat.mul_comm] using e1
theorem tabs_of {W:World} (h:laidMetH Tryz.prog listed W):Tabs W:=⟨utf8_of h,errT_of h⟩
theorem mem_names:("phrases/plural.Names",Rows.laid_phrases_plural_Names)∈laidL:=List.mem_filter.2 ⟨.tail _ (.tail _ (.tail _ (.tail _ (.tail _ (.tail _ (.tail _ (.head _))))))),by kernel_rfl⟩
theorem mem_forms:("phrases/code.forms",Rows.laid_phrases_code_forms)∈laidL:=List.mem_filter.2 ⟨.tail _ (.tail _ (.tail _ (.tail _ (.tail _ (.tail _ (.tail _ (.tail _ (.head _)))))))),by kernel_rfl⟩
theorem gNames:Tryz.prog.globalNamed "phrases/plural.Names" = some 0:=by kernel_rfl
theorem gNamesT:(Tryz.prog.globals[0]?).map (·.type)=some 138:=by kernel_rfl
theorem gForms:Tryz.prog.globalNamed "phrases/code.forms" = some 2:=by kernel_rfl
theorem gFormsT:(Tryz.prog.globals[2]?).map (·.type)=some 202:=by kernel_rfl
theorem cStr:Tryz.prog.cellsOf 9=1:=by kernel_rfl
theorem names_of {W:World} (h:laidMetH Tryz.prog listed W):NamesAt W:=by
 intro j hj;obtain ⟨g,t,cs,fuel,p,hg,hty,hvar,hd⟩:=Lib.laidMet.reads (met_parts h).1 mem_names;obtain rfl:=Option.some.inj (gNames.symm.trans hg);obtain rfl:=Option.some.inj (gNamesT.symm.trans hty);obtain ⟨fuel2,d,q,hdi,he⟩:=array_elem Tryz.underlying138 hd j hj;rw [cStr] at he;obtain ⟨s,hs,hx,_⟩:=DataW.trod_string Tryz.underlying9 he;have hc:cs.toList[j]? = some (.string s):=by
  have:=congrArg (·[0]?) hs;simpa [List.getElem?_take,List.getElem?_drop] using this
 rw [World.var?_cell hg hvar j,←Array.getElem?_toList,hc];simp only [Prod.mk.injEq] at hx;obtain ⟨rfl,_⟩:=hx;have hs2:(catsB.getD j ByteArray.empty).data.toList=s.data.toList:=by
  match j,hj with
  | 0,_=>(simp at hdi;exact hdi)
  | 1,_=>(simp at hdi;exact hdi)
  | 2,_=>(simp at hdi;exact hdi)
  | 3,_=>(simp at hdi;exact hdi)
  | 4,_=>(simp at hdi;exact hdi)
  | 5,_=>(simp at hdi;exact hdi)
 rw [ByteArray.ext (Array.toList_inj.1 hs2)]
theorem forms_of {W:World} (h:laidMetH Tryz.prog listed W):FrmsAt W:=by
 intro j hj;obtain ⟨g,t,cs,fuel,p,hg,hty,hvar,hd⟩:=Lib.laidMet.reads (met_parts h).1 mem_forms;obtain rfl:=Option.some.inj (gForms.symm.trans hg);obtain rfl:=Option.some.inj (gFormsT.symm.trans hty);obtain ⟨fuel2,d,q,hdi,he⟩:=array_elem Tryz.underlying202 hd j hj;rw [cStr] at he;obtain ⟨s,hs,hx,_⟩:=DataW.trod_string Tryz.underlying9 he;have hc:cs.toList[j]? = some (.string s):=by
  have:=congrArg (·[0]?) hs;simpa [List.getElem?_take,List.getElem?_drop] using this
 rw [World.var?_cell hg hvar j,←Array.getElem?_toList,hc];simp only [Prod.mk.injEq] at hx;obtain ⟨rfl,_⟩:=hx;have hs2:frmL j=s.data.toList:=by
  match j,hj with
  | 0,_=>(simp at hdi;exact hdi.symm▸rfl)
  | 1,_=>(simp at hdi;exact hdi)
  | 2,_=>(simp at hdi;exact hdi)
  | 3,_=>(simp at hdi;exact hdi)
  | 4,_=>(simp at hdi;exact hdi)
  | 5,_=>(simp at hdi;exact hdi.symm▸rfl)
  | 6,_=>(simp at hdi;exact hdi.symm▸rfl)
  | 7,_=>(simp at hdi;exact hdi)
  | 8,_=>(simp at hdi;exact hdi)
  | 9,_=>(simp at hdi;exact hdi)
  | 10,_=>(simp at hdi;exact hdi)
  | 11,_=>(simp at hdi;exact hdi)
 rw [hs2]
theorem cmp_of {W:World} (h:laidMetH Tryz.prog listed W):CmpEnv W:=⟨tabs_of h,names_of h,forms_of h⟩
def flatD:Nat->DataW Unit->List Value
 | 0,_=>[]
 | _+1,.lit (.int k z)=>[.int k z]
 | _+1,.lit (.string b)=>[.string ⟨b.toArray⟩]
 | n+1,.agg parts=>parts.flatMap (flatD n)
 | _,_=>[]
noncomputable def laidWorld (os:Os):World :=
 let N:=(World.settled Tryz.prog os).heap.size
 let w0:=World.holding Tryz.prog os ⟨#[.cells #[.string ⟨#[118,97,108,117,101,32,111,117,116,32,111,102,32,114,97,110,103,101]⟩] 385,.cells #[.string ⟨#[105,110,118,97,108,105,100,32,115,121,110,116,97,120]⟩] 385],#[],[]⟩
 let put (h:Array Obj) (g:Nat) (cs:List Value):Array Obj:=h.modify g fun
  | .cells _ t frozen => .cells cs.toArray t frozen
  | o=>o
 let h1:=put w0.heap 1 [.iface 231 (.agg #[hdl 73])]
 let h2:=put h1 0 (flatD 3 Rows.laid_phrases_plural_Names)
 let h3:=put h2 3 (flatD 3 Rows.laid_unicode_utf8_first)
 let h4:=put h3 4 (flatD 3 Rows.laid_unicode_utf8_acceptRanges)
 let h5:=put h4 8 [.iface 383 (.pointer (some ⟨N,0,none⟩))]
 let h6:=put h5 7 [.iface 383 (.pointer (some ⟨N+1,0,none⟩))]
 let h7:=put h6 9 (flatD 3 Rows.laid_internal_strconv_uint64pow10)
 let h8:=put h7 10 (flatD 3 Rows.laid_math_bits_deBruijn32tab)
 let h9:=put h8 11 (flatD 3 Rows.laid_math_bits_deBruijn64tab)
 let h10:=put h9 2 (flatD 3 Rows.laid_phrases_code_forms)
 { w0 with heap:=h10 }
set_option maxRecDepth 1000000 in
theorem laid_met (os:Os) (args:Array Value):laidMetH Tryz.prog listed ((laidWorld os).forCall (fun _ _=>0) ⟨#[],args,[]⟩).memory :=
 laidMetH_of_parts (laidMet_of_run' 8 (by kernel_rfl) (by kernel_rfl)) (by kernel_rfl)
end Go.Proofs.YthpldolmpinnhaaGreatDoor
