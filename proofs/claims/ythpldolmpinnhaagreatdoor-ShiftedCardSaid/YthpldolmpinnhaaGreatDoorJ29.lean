import Derived.Test.YthpldolmpinnhaaGreatDoorJ28
import Derived.Test.YthpldolmpinnhaaGreatDoorCards
import Derived.Test.YthpldolmpinnhaaGreatDoorTie
import Derived.ProofKit
import Derived.OpenShut
import Derived.Deep.DeepHandedRow
import Derived.Deep.DeepWitnessRowRef
import Derived.Lib.LaidU8
import Derived.Lib.LaidIn
import Derived.LaidHandle
import Derived.LaidLaws
import Derived.PinnedBridge
namespace Go.Proofs.YthpldolmpinnhaaGreatDoor
open Go.ChangeShapes Go.WideShapes Go.ChangeAt Go.RowKit Go.Lib
theorem own:ownKnob Tryz.prog.godebug=none:=by kernel_rfl
theorem etG:Tryz.prog.globalNamed "errors.errorType" = some 1:=by kernel_rfl
theorem rtT:(Tryz.prog.cutTypes.find? (·.1 == "internal/reflectlite.rtype")).map (·.2)=some 231:=by kernel_rfl
theorem errRow:((List.range Tryz.prog.types.size).filter fun t=>Tryz.prog.rowNamed t [101,114,114,111,114])=[73]:=by kernel_rfl
abbrev listed:List (String×DataW Unit):=Rows.plainRow.laid
abbrev laidL:List (String×DataW Unit):=listed.filter fun x=>x.2.handleName?.isNone
theorem met_parts {W:World} (h:laidMetH Tryz.prog listed W):laidMet Tryz.prog laidL W/\handlesMet Tryz.prog [("errors.errorType",Rows.laid_errors_errorType)] W:=h
theorem errT_of {W:World} (h:laidMetH Tryz.prog listed W):ErrT W:=by
 obtain ⟨name,u,ty,e1,e2,e3,e4,e5⟩:=(met_parts h).2 _ (List.mem_singleton.2 rfl);have en:name=[101,114,114,111,114]:=(Option.some.inj e1).symm;subst en;obtain rfl:=Option.some.inj (rtT.symm.trans e2);have hm:ty∈(List.range Tryz.prog.types.size).filter fun t=>Tryz.prog.rowNamed t [101,114,114,111,114]:=List.mem_filter.2 ⟨List.mem_range.2 e3,e4⟩
 rw [errRow] at hm;obtain rfl:=List.mem_singleton.1 hm;have hh:typeHandle Tryz.prog 73=hdl 73:=by kernel_rfl
 rw [hh] at e5;unfold ErrT;simpa using World.var?_cell etG e5 0
theorem mem_first:("unicode/utf8.first",Rows.laid_unicode_utf8_first)∈laidL:=List.mem_filter.2 ⟨.tail _ (.tail _ (.tail _ (.tail _ (.tail _ (.tail _ (.tail _ (.tail _ (.tail _ (.head _))))))))),by kernel_rfl⟩
theorem mem_accept:("unicode/utf8.acceptRanges",Rows.laid_unicode_utf8_acceptRanges)∈laidL:=List.mem_filter.2 ⟨.tail _ (.tail _ (.tail _ (.head _))),by kernel_rfl⟩
theorem first_eq:Rows.laid_unicode_utf8_first=firstData:=Pinned.utf8First_eq
theorem accept_eq:(Rows.laid_unicode_utf8_acceptRanges:DataW Unit)=acceptData:=by kernel_rfl
theorem gFirst:Tryz.prog.globalNamed "unicode/utf8.first" = some 3:=by kernel_rfl
theorem gFirstT:(Tryz.prog.globals[3]?).map (·.type)=some 222:=by kernel_rfl
theorem gAccept:Tryz.prog.globalNamed "unicode/utf8.acceptRanges" = some 4:=by kernel_rfl
theorem gAcceptT:(Tryz.prog.globals[4]?).map (·.type)=some 225:=by kernel_rfl
theorem cU8:Tryz.prog.cellsOf 5=1:=by kernel_rfl
theorem cFirst:Tryz.prog.cellsOf 222=256:=by kernel_rfl
theorem cRange:Tryz.prog.cellsOf 224=2:=by kernel_rfl
theorem utf8_of {W:World} (h:laidMetH Tryz.prog listed W):Lib.Utf8Tabs 3 4 W:=by
 have hm:=(met_parts h).1;have h3:=Lib.laidMet.reads hm mem_first;rw [first_eq] at h3;have h4:=Lib.laidMet.reads hm mem_accept;rw [accept_eq] at h4;constructor
 ·intro c hc;obtain ⟨g,t,cs,fuel,p,hg,hty,hvar,hd⟩:=h3;obtain rfl:=Option.some.inj (gFirst.symm.trans hg);obtain rfl:=Option.some.inj (gFirstT.symm.trans hty);have hcs:=cells_of_tab Tryz.underlying222 Tryz.underlying5 cU8 cFirst hd;rw [World.var?_cell hg hvar c,←Array.getElem?_toList,hcs];simp [firstTab,hc]
 ·intro i hi;obtain ⟨g,t,cs,fuel,p,hg,hty,hvar,hd⟩:=h4;obtain rfl:=Option.some.inj (gAccept.symm.trans hg);obtain rfl:=Option.some.inj (gAcceptT.symm.trans hty);obtain ⟨fuel2,d,q,hdi,he⟩:=array_elem Tryz.underlying225 hd i hi;simp only [List.getElem?_map,List.getElem?_range hi,Option.map_some,Option.some.injEq] at hdi;subst hdi;rw [cRange] at he;have hcs:=ints_of_struct Tryz.underlying224 (fun j f hj=>by
   match j,hj with
   | 0,hj=>simp at hj;subst hj;exact ⟨Tryz.underlying5,rfl,cU8⟩
   | 1,hj=>simp at hj;subst hj;exact ⟨Tryz.underlying5,rfl,cU8⟩
   | j+2,hj=>simp at hj) (by rw [cRange];rfl) he
  have e0:=congrArg (·[0]?) hcs;have e1:=congrArg (·[1]?) hcs;simp only [List.getElem?_take,List.getElem?_drop] at e0 e1;refine ⟨?_,?_⟩
  ·rw [World.var?_cell hg hvar (2*i),←Array.getElem?_toList];simpa [Nat.mul_comm] using e0
  ·rw [World.var?_cell hg hvar (2*i+1),←Array.getElem?_toList];simpa [Nat.mul_comm] using e1
theorem tabs_of {W:World} (h:laidMetH Tryz.prog listed W):Tabs W:=⟨utf8_of h,errT_of h⟩
theorem mem_names:("phrases/plural.Names",Rows.laid_phrases_plural_Names)∈laidL:=List.mem_filter.2 ⟨.tail _ (.tail _ (.tail _ (.tail _ (.tail _ (.tail _ (.tail _ (.head _))))))),by kernel_rfl⟩
theorem mem_forms:("phrases/code.forms",Rows.laid_phrases_code_forms)∈laidL:=List.mem_filter.2 ⟨.tail _ (.tail _ (.tail _ (.tail _ (.tail _ (.tail _ (.tail _ (.tail _ (.head _)))))))),by kernel_rfl⟩
theorem gNames:Tryz.prog.globalNamed "phrases/plural.Names" = some 0:=by kernel_rfl
theorem gNamesT:(Tryz.prog.globals[0]?).map (·.type)=some 138:=by kernel_rfl
theorem gForms:Tryz.prog.globalNamed "phrases/code.forms" = some 2:=by kernel_rfl
theorem gFormsT:(Tryz.prog.globals[2]?).map (·.type)=some 202:=by kernel_rfl
theorem cStr:Tryz.prog.cellsOf 9=1:=by kernel_rfl
theorem names_of {W:World} (h:laidMetH Tryz.prog listed W):NamesAt W:=by
 intro j hj;obtain ⟨g,t,cs,fuel,p,hg,hty,hvar,hd⟩:=Lib.laidMet.reads (met_parts h).1 mem_names;obtain rfl:=Option.some.inj (gNames.symm.trans hg);obtain rfl:=Option.some.inj (gNamesT.symm.trans hty);obtain ⟨fuel2,d,q,hdi,he⟩:=array_elem Tryz.underlying138 hd j hj;rw [cStr] at he;obtain ⟨s,hs,hx,_⟩:=DataW.trod_string Tryz.underlying9 he;have hc:cs.toList[j]? = some (.string s):=by
  have:=congrArg (·[0]?) hs;simpa [List.getElem?_take,List.getElem?_drop] using this
 rw [World.var?_cell hg hvar j,←Array.getElem?_toList,hc];simp only [Prod.mk.injEq] at hx;obtain ⟨rfl,_⟩:=hx;have hs2:(catsB.getD j ByteArray.empty).data.toList=s.data.toList:=by
  match j,hj with
  | 0,_=>(simp at hdi;exact hdi)
  | 1,_=>(simp at hdi;exact hdi)
  | 2,_=>(simp at hdi;exact hdi)
  | 3,_=>(simp at hdi;exact hdi)
  | 4,_=>(simp at hdi;exact hdi)
  | 5,_=>(simp at hdi;exact hdi)
 rw [ByteArray.ext (Array.toList_inj.1 hs2)]
theorem forms_of {W:World} (h:laidMetH Tryz.prog listed W):FrmsAt W:=by
 intro j hj;obtain ⟨g,t,cs,fuel,p,hg,hty,hvar,hd⟩:=Lib.laidMet.reads (met_parts h).1 mem_forms;obtain rfl:=Option.some.inj (gForms.symm.trans hg);obtain rfl:=Option.some.inj (gFormsT.symm.trans hty);obtain ⟨fuel2,d,q,hdi,he⟩:=array_elem Tryz.underlying202 hd j hj;rw [cStr] at he;obtain ⟨s,hs,hx,_⟩:=DataW.trod_string Tryz.underlying9 he;have hc:cs.toList[j]? = some (.string s):=by
  have:=congrArg (·[0]?) hs;simpa [List.getElem?_take,List.getElem?_drop] using this
 rw [World.var?_cell hg hvar j,←Array.getElem?_toList,hc];simp only [Prod.mk.injEq] at hx;obtain ⟨rfl,_⟩:=hx;have hs2:frmL j=s.data.toList:=by
  match j,hj with
  | 0,_=>(simp at hdi;exact hdi.symm▸rfl)
  | 1,_=>(simp at hdi;exact hdi)
  | 2,_=>(simp at hdi;exact hdi)
  | 3,_=>(simp at hdi;exact hdi)
  | 4,_=>(simp at hdi;exact hdi)
  | 5,_=>(simp at hdi;exact hdi.symm▸rfl)
  | 6,_=>(simp at hdi;exact hdi.symm▸rfl)
  | 7,_=>(simp at hdi;exact hdi)
  | 8,_=>(simp at hdi;exact hdi)
  | 9,_=>(simp at hdi;exact hdi)
  | 10,_=>(simp at hdi;exact hdi)
  | 11,_=>(simp at hdi;exact hdi)
 rw [hs2]
theorem cmp_of {W:World} (h:laidMetH Tryz.prog listed W):CmpEnv W:=⟨tabs_of h,names_of h,forms_of h⟩
def flatD:Nat->DataW Unit->List Value
 | 0,_=>[]
 | _+1,.lit (.int k z)=>[.int k z]
 | _+1,.lit (.string b)=>[.string ⟨b.toArray⟩]
 | n+1,.agg parts=>parts.flatMap (flatD n)
 | _,_=>[]
noncomputable def laidWorld (os:Os):World :=
 let N:=(World.settled Tryz.prog os).heap.size
 let w0:=World.holding Tryz.prog os ⟨#[.cells #[.string ⟨#[118,97,108,117,101,32,111,117,116,32,111,102,32,114,97,110,103,101]⟩] 385,.cells #[.string ⟨#[105,110,118,97,108,105,100,32,115,121,110,116,97,120]⟩] 385],#[],[]⟩
 let put (h:Array Obj) (g:Nat) (cs:List Value):Array Obj:=h.modify g fun
  | .cells _ t frozen => .cells cs.toArray t frozen
  | o=>o
 let h1:=put w0.heap 1 [.iface 231 (.agg #[hdl 73])]
 let h2:=put h1 0 (flatD 3 Rows.laid_phrases_plural_Names)
 let h3:=put h2 3 (flatD 3 Rows.laid_unicode_utf8_first)
 let h4:=put h3 4 (flatD 3 Rows.laid_unicode_utf8_acceptRanges)
 let h5:=put h4 8 [.iface 383 (.pointer (some ⟨N,0,none⟩))]
 let h6:=put h5 7 [.iface 383 (.pointer (some ⟨N+1,0,none⟩))]
 let h7:=put h6 9 (flatD 3 Rows.laid_internal_strconv_uint64pow10)
 let h8:=put h7 10 (flatD 3 Rows.laid_math_bits_deBruijn32tab)
 let h9:=put h8 11 (flatD 3 Rows.laid_math_bits_deBruijn64tab)
 let h10:=put h9 2 (flatD 3 Rows.laid_phrases_code_forms)
 { w0 with heap:=h10 }
set_option maxRecDepth 1000000 in
theorem laid_met (os:Os) (args:Array Value):laidMetH Tryz.prog listed ((laidWorld os).forCall (fun _ _=>0) ⟨#[],args,[]⟩).memory :=
 laidMetH_of_parts (laidMet_of_run' 8 (by kernel_rfl) (by kernel_rfl)) (by kernel_rfl)
end Go.Proofs.YthpldolmpinnhaaGreatDoor
namespace Go.Proofs.YthpldolmpinnhaaGreatDoor
open Go Go.RowKit
set_option maxRecDepth 10000
theorem pnx {rs r:List Int} {i:Nat} {x:Int} (h:rs.drop i=x::r):nextL rs i=x:=by
 have:rs[i]? = some x:=by
  have h2:(rs.drop i)[0]? = some x:=by rw [h];rfl
  rw [List.getElem?_drop] at h2;exact h2
 unfold nextL;rw [List.getD_eq_getElem?_getD,this];rfl
theorem pnx0 {rs:List Int} {i:Nat} (h:rs.drop i=[]):nextL rs i = -1:=by
 have:rs.length<=i:=List.drop_eq_nil_iff.1 h;unfold nextL;rw [List.getD_eq_getElem?_getD,List.getElem?_eq_none this];rfl
theorem pdx {rs r:List Int} {i:Nat} {x:Int} (h:rs.drop i=x::r):rs.drop (i+1)=r:=by
 rw [←List.drop_drop,h];rfl
theorem pdxn {rs r:List Int} {i:Nat} (a:List Int) (h:rs.drop i=a++r):rs.drop (i+a.length)=r:=by
 rw [←List.drop_drop,h];simp
theorem pnxk {rs l:List Int} {i:Nat} (h:rs.drop i=l) (k:Nat):nextL rs (i+k)=l.getD k (-1):=by
 unfold nextL;rw [List.getD_eq_getElem?_getD,List.getD_eq_getElem?_getD,←h,List.getElem?_drop]
theorem skip_d {rs:List Int} {i:Nat} (S r:List Int) (h:rs.drop i=S++r) (hS:S.all blankL=true) (hr:blankL (r.headD (-1))=false):skipL rs i=i+S.length:=by
 unfold skipL;rw [h];congr 1;clear h;induction S with
 | nil =>
  cases r with
  | nil=>rfl
  | cons x r=>rw [List.headD_cons] at hr;rw [List.nil_append,List.takeWhile_cons,hr];rfl
 | cons x S ih =>
  rw [List.all_cons,Bool.and_eq_true] at hS;rw [List.cons_append,List.takeWhile_cons,hS.1];simp only [if_true,List.length_cons];rw [ih hS.2]
theorem runGo_d {F:Int->Nat->Bool} {rs:List Int} {i n:Nat} (hF:∀ k,k<n->F (nextL rs (i+k)) k=true) (he:F (nextL rs (i+n)) n=false):∀ f k,k<=n->n<f+k->runGo F rs i f k=n
 | 0,k,h1,h2=>by omega
 | f+1,k,h1,h2=>by
  rw [runGo];by_cases hk:k=n
  ·subst hk;rw [if_neg (by rw [he];decide)]
  ·rw [if_pos (hF k (by omega)),runGo_d hF he f (k+1) (by omega) (by omega)]
theorem run_d {F:Int->Nat->Bool} {rs:List Int} {i:Nat} (N r:List Int) (h:rs.drop i=N++r) (hF:∀ k,k<N.length->F (N.getD k (-1)) k=true) (he:F (r.headD (-1)) N.length=false):runN F rs i=N.length:=by
 have hl:N.length<=rs.length:=by
  have:=congrArg List.length h;rw [List.length_drop,List.length_append] at this;omega
 refine runGo_d (fun k hk=>?_) ?_ _ 0 (Nat.zero_le _) (by omega)
 ·rw [pnxk h,List.getD_eq_getElem?_getD,List.getElem?_append_left hk,←List.getD_eq_getElem?_getD];exact hF k hk
 ·rw [pnxk h,List.getD_eq_getElem?_getD,List.getElem?_append_right (Nat.le_refl _),Nat.sub_self]
  cases r<;>simpa using he
theorem piece_d {rs:List Int} {i:Nat} (N r:List Int) (h:rs.drop i=N++r):pieceL rs i N.length=N.flatMap enc:=by
 unfold pieceL;rw [h];simp
def nameOk (N:List Int) (c:Int):Bool := !N.isEmpty && ((List.range N.length).all fun k=>nameF (N.getD k (-1)) k) && !nameF c N.length
theorem name_d {rs:List Int} {i:Nat} (N r:List Int) (h:rs.drop i=N++r) (hk:nameOk N (r.headD (-1))=true):nameP rs i = .ok (N.flatMap enc,i+N.length):=by
 unfold nameOk at hk;simp only [Bool.and_eq_true,Bool.not_eq_true',List.all_eq_true,List.mem_range] at hk;have hn:nameN rs i=N.length:=run_d N r h (fun k hk2=>hk.1.2 k hk2) hk.2;unfold nameP;rw [hn,if_neg (by cases N<;>simp at hk ⊢),piece_d N r h]
theorem name_e {rs:List Int} {i n:Nat} (N:List Int) (W:Wd) {r:List Int} (h:rs.drop i=N++r) (hk:nameOk N (r.headD (-1))=true) (hW:N.flatMap enc=W) (hn:i+N.length=n):nameP rs i = .ok (W,n):=by
 rw [name_d N r h hk,hW,hn]
def wholeOk (D:List Int) (c:Int):Bool := !D.isEmpty && decide (D.length<=9) && D.all digitL && (decide (D.length=1) || D.headD 0 !=48) && !digitL c
theorem whole_d {rs:List Int} {i:Nat} (D r:List Int) (h:rs.drop i=D++r) (hk:wholeOk D (r.headD (-1))=true):wholeP rs i = .ok (D.flatMap enc,i+D.length):=by
 unfold wholeOk at hk;simp only [Bool.and_eq_true,Bool.not_eq_true',List.all_eq_true,decide_eq_true_eq,Bool.or_eq_true] at hk;obtain ⟨⟨⟨⟨h1,h2⟩,h3⟩,h4⟩,h5⟩:=hk;have hh:nextL rs i=D.headD 0:=by
  cases D with
  | nil=>simp at h1
  | cons x D=>exact pnx h
 have hn:wholeN rs i=D.length:=by
  refine run_d D r h (fun k hk2=>?_) (by unfold wholeF;rw [h5];simp);have hm:digitL (D.getD k (-1))=true:=by
   rw [List.getD_eq_getElem?_getD,List.getElem?_eq_getElem hk2];exact h3 _ (List.getElem_mem hk2)
  unfold wholeF;rw [hm,hh];rcases h4 with h4 | h4
  ·have:k=0:=by omega
   subst this;simp
  ·rw [h4];simp;omega
 unfold wholeP;rw [hn,if_neg (by cases D<;>simp at h1 ⊢),piece_d D r h]
theorem want_d {rs r:List Int} {i:Nat} {x:Int} (h:rs.drop i=x::r):wantP rs x i = .ok ((),i+1):=by
 unfold wantP;rw [if_pos (pnx h)]
theorem skip0 {rs r:List Int} {i:Nat} {x:Int} (h:rs.drop i=x::r) (hx:blankL x=false):skipL rs i=i:=skip_d [] _ h rfl hx
theorem skip1 {rs r:List Int} {i:Nat} {x:Int} (h:rs.drop i=32::x::r) (hx:blankL x=false):skipL rs i=i+1:=skip_d [32] _ h (by decide) hx
theorem put_d {rs r:List Int} {i:Nat} {m:Option MsgP} {x:Int} (N:List Int) (h:rs.drop i=123::x::(N++125::r)) (hx:blankL x=false) (hk:nameOk (x::N) 125=true):argP rs m i = .ok (.put ((x::N).flatMap enc) i .nil,i+N.length+3):=by
 have h1:=pdx h;have h2:rs.drop (i+1+(x::N).length)=125::r:=pdxn (x::N) h1;have k2:=skip0 h2 (by decide);unfold argP;rw [want_d h,then_ok,skip0 h1 hx,name_d (x::N) (125::r) h1 hk,then_ok,k2,if_pos (by rw [pnx h2];decide),want_d h2,then_ok];rw [show i+1+(x::N).length+1=i+N.length+3 by simp;omega]
theorem leg_d {rs r:List Int} {i l j z:Nat} {m:MsgP} {num:Bool} {k:Wd} {f:Fo} (hkey:keyP rs num i = .ok (k,j)) (hb:rs.drop (skipL rs j)=123::r) (hl:l=skipL rs j+1) (hm:m num l = .ok (f,z)) (hz:nextL rs z=125):legP rs (some m) num i = .ok (.leg k i f .nil,skipL rs (z+1)):=by
 subst hl;unfold legP;rw [hkey,then_ok,want_d hb,then_ok];show (m num (skipL rs j+1)).then _=_;rw [hm,then_ok];unfold wantP;rw [if_pos hz];rfl
theorem legs_end {rs:List Int} {i n:Nat} {m:Option MsgP} {num:Bool} {acc:Fo} (h:nextL rs i=125) (ha:acc.len≠0):legsP rs m num (n+1) acc i = .ok (acc,i):=by
 rw [legsP,if_pos ⟨h,ha⟩]
theorem legs_one {rs:List Int} {i j n:Nat} {m:Option MsgP} {num:Bool} {acc f:Fo} (h:nextL rs i≠125) (hf:legP rs m num i = .ok (f,j)):legsP rs m num (n+1) acc i=legsP rs m num n (acc.app f) j:=by
 rw [legsP,if_neg (by intro q;exact h q.1),hf,then_ok]
theorem go_end {rs:List Int} {i n:Nat} {m:Option MsgP} {num:Bool} {acc:Fo} (h:nextL rs i = -1\/nextL rs i=125):msgGo rs m num (n+1) acc i = .ok (acc,i):=by
 rw [msgGo,if_pos h]
theorem go_arg {rs r:List Int} {i j n:Nat} {m:Option MsgP} {num:Bool} {acc f:Fo} (h:rs.drop i=123::r) (hf:argP rs m i = .ok (f,j)):msgGo rs m num (n+1) acc i=msgGo rs m num n (acc.app f) j:=by
 rw [msgGo,if_neg (by rw [pnx h];decide),if_pos (pnx h),hf,then_ok]
theorem go_hash {rs r:List Int} {i n:Nat} {m:Option MsgP} {acc:Fo} (h:rs.drop i=35::r):msgGo rs m true (n+1) acc i=msgGo rs m true n (acc.app (.hash .nil)) (i+1):=by
 rw [msgGo,if_neg (by rw [pnx h];decide),if_neg (by rw [pnx h];decide),if_pos ⟨pnx h,rfl⟩]
theorem plural_d {rs r:List Int} {i l q:Nat} {o:Wd} {m:Option MsgP} {bs:Fo} (h:rs.drop i=[123,110,44,32,112,108,117,114,97,108,44,32]++r) (hr:blankL (r.headD (-1))=false) (ho:offP rs 1 (i+12) = .ok (o,l)) (hb:legsP rs m true (rs.length+1) .nil l = .ok (bs,q)) (hq:nextL rs q=125) :
  argP rs m i = .ok (.br [110] i 1 o q bs .nil,q+1):=by
 have h1:=pdx h;have h2:=pdx h1;have h3:=pdx h2;have h4:=pdx h3;have h10:rs.drop (i+4+6)=44::32::r:=pdxn [112,108,117,114,97,108] h4;have h11:=pdx h10;have h12:=pdx h11;unfold argP;rw [want_d h,then_ok,skip0 h1 (by decide),name_e [110] [110] h1 (by rfl) (by decide) (n:=i+2) rfl,then_ok,show skipL rs (i+2)=i+2 from skip0 h2 (by decide),if_neg (by rw [show nextL rs (i+2)=44 from pnx h2];decide),show skipL rs (i+2+1)=i+4 from skip1 h3 (by decide),name_e [112,108,117,114,97,108] pluW h4 (by rfl) (by decide) (n:=i+10) rfl,then_ok];rw [if_neg (by decide),show formL pluW=some 1 by decide];show (wantP rs 44 (skipL rs (i+10))).then _=_;rw [show skipL rs (i+10)=i+10 from skip0 h10 (by decide),show wantP rs 44 (i+10) = .ok ((),i+10+1) from want_d h10,then_ok,show skipL rs (i+10+1)=i+12 from skip_d [32] r h11 (by decide) hr,ho,then_ok];show (legsP rs m true (rs.length+1) .nil l).then _=_;rw [hb,then_ok];unfold wantP;rw [if_pos hq,then_ok]
end Go.Proofs.YthpldolmpinnhaaGreatDoor
namespace Go.Proofs.YthpldolmpinnhaaGreatDoor
open Go
end Go.Proofs.YthpldolmpinnhaaGreatDoor
namespace Go.Proofs.YthpldolmpinnhaaGreatDoor
open Go
theorem val_foldl (l:List UInt8):∀ a:Nat,l.foldl (fun v c=>10*v+(c.toNat - 48)) a=a*10 ^ l.length+valL l:=by
 induction l with
 | nil=>intro a;simp [valL]
 | cons c t ih =>
  intro a;unfold valL;rw [List.foldl_cons,List.foldl_cons,ih,ih,List.length_cons,Nat.pow_succ,Nat.mul_zero,Nat.zero_add,Nat.add_mul,Nat.add_assoc];congr 1;rw [Nat.mul_comm 10 a,Nat.mul_assoc,Nat.mul_comm 10]
theorem valL_cons (c:UInt8) (t:List UInt8):valL (c::t)=(c.toNat - 48)*10 ^ t.length+valL t:=by
 show (c::t).foldl (fun v c=>10*v+(c.toNat - 48)) 0=_;rw [List.foldl_cons,val_foldl];simp
structure Fig (l:List UInt8):Prop where
 dig:l.all isDig=true
 ne:l≠[]
 lead:l.length=1\/l.headD 0≠48
theorem Fig.of {l:List UInt8} (h:figB l=true):Fig l/\l.length<=9:=by
 simp only [figB,numeralsL,Bool.and_eq_true,Bool.or_eq_true,decide_eq_true_eq,Bool.not_eq_true'] at h;refine ⟨⟨h.1.1,fun e=>?_,h.2.2⟩,h.2.1⟩;rw [e] at h;exact absurd h.1.2 (by decide)
theorem valL_low {c:UInt8} {t:List UInt8} (hc:isDig c=true) (h:c≠48):10 ^ t.length<=valL (c::t):=by
 rw [valL_cons];have h1:=(isDig_iff c).1 hc;have h2:c.toNat≠48:=fun e=>h (UInt8.toNat_inj.1 (by rw [e];rfl))
 have:1*10 ^ t.length<=(c.toNat - 48)*10 ^ t.length:=Nat.mul_le_mul_right _ (by omega);omega
theorem dchar_of {c:UInt8} (hc:isDig c=true):dchar (c.toNat - 48)=c:=by
 have h1:=(isDig_iff c).1 hc;unfold dchar;apply UInt8.toNat_inj.1;rw [UInt8.toNat_ofNat'];omega
theorem decL_valL:∀ (n:Nat) (l:List UInt8),l.length=n->Fig l->decL (valL l)=l:=by
 intro n;induction n with
 | zero=>intro l hl h;exact absurd (List.eq_nil_of_length_eq_zero hl) h.ne
 | succ n ih =>
  intro l hl h;obtain ⟨t,c,rfl⟩:∃ t c,l=t++[c]:=⟨l.dropLast,l.getLast h.ne,by rw [List.dropLast_concat_getLast]⟩;have hd:=h.dig;rw [List.all_append,Bool.and_eq_true] at hd;have hc:isDig c=true:=by simpa using hd.2
  have h1:=(isDig_iff c).1 hc;rw [valL_snoc];by_cases ht:t=[]
  ·subst ht;have:(10*valL []+(c.toNat - 48))=c.toNat - 48:=by simp [valL]
   rw [this,decL_small (by omega),dchar_of hc];rfl
  ·have hlen:t.length=n:=by simpa using hl
   have hlead:(t++[c]).headD 0≠48:=by
    rcases h.lead with q | q
    ·exact absurd (List.eq_nil_of_length_eq_zero (by simpa using q)) ht
    ·exact q
   obtain ⟨e,u,rfl⟩:∃ e u,t=e::u:=by cases t with | nil=>exact absurd rfl ht | cons e u=>exact ⟨e,u,rfl⟩
   have he:e≠48:=by simpa using hlead
   have hde:isDig e=true:=by have:=hd.1;simp at this;exact this.1
   have hlow:=valL_low (t:=u) hde he;have:0<10 ^ u.length:=Nat.pow_pos (by decide);rw [decL_big (by omega),show (10*valL (e::u)+(c.toNat - 48)) / 10=valL (e::u) by omega,show (10*valL (e::u)+(c.toNat - 48)) % 10=c.toNat - 48 by omega,dchar_of hc,
    ih (e::u) hlen ⟨hd.1,by simp,.inr (by simpa using he)⟩]
theorem Fig.val {l:List UInt8} (h:Fig l):decL (valL l)=l:=decL_valL _ l rfl h
theorem cmp_cases (x y:List UInt8):cmpL x y = -1\/cmpL x y=0\/cmpL x y=1:=by
 unfold cmpL;split
 ·exact .inl rfl
 split
 ·exact .inr (.inl rfl)
 ·exact .inr (.inr rfl)
end Go.Proofs.YthpldolmpinnhaaGreatDoor
namespace Go.Proofs.YthpldolmpinnhaaGreatDoor
open Go
abbrev wAnd:Wd:=[97,110,100]
abbrev wOr:Wd:=[111,114]
def OutR {α:Type} (R:Option (α×List Wd)) (seg rest:List Wd) (good:α->Prop) (bad:Prop):Prop :=
 (∃ a,R=some (a,rest)/\good a)\/(bad/\(R=none\/∃ a h t,h∈seg/\R=some (a,h::(t++rest))))
theorem OutR.imp {α:Type} {R:Option (α×List Wd)} {seg rest:List Wd} {g g':α->Prop} {b b':Prop} (h:OutR R seg rest g b) (hg:∀ a,g a->g' a) (hb:b->b'):OutR R seg rest g' b':=by
 rcases h with ⟨a,r,q⟩ | ⟨q,r⟩
 ·exact .inl ⟨a,r,hg a q⟩
 ·exact .inr ⟨hb q,r⟩
theorem OutR.map {α β:Type} {R:Option (α×List Wd)} {seg rest:List Wd} {g:α->Prop} {b:Prop} (f:α->β) {g':β->Prop} (h:OutR R seg rest g b) (hg:∀ a,g a->g' (f a)) :
  OutR (R.map fun q=>(f q.1,q.2)) seg rest g' b:=by
 rcases h with ⟨a,r,q⟩ | ⟨q,r | ⟨a,h,t,hm,r⟩⟩
 ·exact .inl ⟨f a,by rw [r];rfl,hg a q⟩
 ·exact .inr ⟨q,.inl (by rw [r];rfl)⟩
 ·exact .inr ⟨q,.inr ⟨f a,h,t,hm,by rw [r];rfl⟩⟩
def Stop (rest:List Wd):Prop:=∀ c,rest.head? = some c->c=wAnd\/c=wOr
end Go.Proofs.YthpldolmpinnhaaGreatDoor
namespace Go.Proofs.YthpldolmpinnhaaGreatDoor
open Go
end Go.Proofs.YthpldolmpinnhaaGreatDoor
