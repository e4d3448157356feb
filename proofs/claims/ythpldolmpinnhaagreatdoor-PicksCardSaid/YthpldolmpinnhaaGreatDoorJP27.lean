import Derived.Test.YthpldolmpinnhaaGreatDoorJP26
import Derived.Test.YthpldolmpinnhaaGreatDoorCards
import Derived.Test.YthpldolmpinnhaaGreatDoorTie
import Derived.ProofKit
import Derived.OpenShut
import Derived.Deep.DeepHandedRow
import Derived.Deep.DeepWitnessRowRef
import Derived.Lib.LaidU8
import Derived.Lib.LaidIn
import Derived.LaidHandle
import Derived.LaidLaws
import Derived.PinnedBridge
open Option.some renaming inj→z7
open Array renaming getElem?_toList→z8
open List renaming mem_filter→zy,getElem?_take→zv,getElem?_drop→zu,eq_nil_of_length_eq_zero→zj,foldl_cons→zg,mem_singleton→zf
open Go.Lib.laidMet renaming reads→zx
open Nat renaming mul_comm→zk
open Go.DataW renaming trod_string→zZ
open UInt8 renaming toNat_inj→zY
open Prod.mk renaming injEq→zX
open Bool renaming and_eq_true→zV
open Go.Proofs.Tryz
namespace Go.Proofs.YthpldolmpinnhaaGreatDoor
open Go.ChangeShapes Go.WideShapes Go.ChangeAt Go.RowKit Go.Lib
theorem own:ownKnob prog.godebug=none:=by kernel_rfl
theorem etG:prog.globalNamed "errors.errorType" = some 1:=by kernel_rfl
theorem rtT:(prog.cutTypes.find? (·.1 == "internal/reflectlite.rtype")).map (·.2)=some 231:=by kernel_rfl
theorem zqf:((List.range prog.types.size).filter fun t=>prog.rowNamed t [101,114,114,111,114])=[73]:=by kernel_rfl
abbrev listed:List (String×DataW Unit):=Rows.plainRow.laid
abbrev F8:List (String×DataW Unit):=listed.filter fun x=>x.2.handleName?.isNone
theorem bB{W:World}(h:laidMetH prog listed W):laidMet prog F8 W/\handlesMet prog [("errors.errorType",Rows.laid_errors_errorType)] W:=h
theorem pV{W:World}(h:laidMetH prog listed W):Kj W:=by
 obtain⟨name,u,ty,e1,e2,e3,e4,e5⟩:=(bB h).2 _ (zf.2 rfl);have en:name=[101,114,114,111,114]:=(z7 e1).symm;subst en;obtain rfl:=z7 (rtT.symm.trans e2);have hm:ty∈(List.range prog.types.size).filter fun t=>prog.rowNamed t [101,114,114,111,114]:=zy.2 ⟨List.mem_range.2 e3,e4⟩
 rw[zqf] at hm;obtain rfl:=zf.1 hm;have hh:typeHandle prog 73=qz 73:=by kernel_rfl
 rw[hh] at e5;unfold Kj;simpa using World.var?_cell etG e5 0
theorem St:("unicode/utf8.first",Rows.laid_unicode_utf8_first)∈F8:=zy.2 ⟨.tail _ (.tail _ (.tail _ (.tail _ (.tail _ (.tail _ (.tail _ (.tail _ (.tail _ (.head _))))))))),by kernel_rfl⟩
theorem O4:("unicode/utf8.acceptRanges",Rows.laid_unicode_utf8_acceptRanges)∈F8:=zy.2 ⟨.tail _ (.tail _ (.tail _ (.head _))),by kernel_rfl⟩
theorem cP:Rows.laid_unicode_utf8_first=firstData:=Pinned.utf8First_eq
theorem Sh:(Rows.laid_unicode_utf8_acceptRanges:DataW Unit)=acceptData:=by kernel_rfl
theorem zqd:prog.globalNamed "unicode/utf8.first" = some 3:=by kernel_rfl
theorem pU:(prog.globals[3]?).map (·.type)=some 222:=by kernel_rfl
theorem pQ:prog.globalNamed "unicode/utf8.acceptRanges" = some 4:=by kernel_rfl
theorem cR:(prog.globals[4]?).map (·.type)=some 225:=by kernel_rfl
theorem cU8:prog.cellsOf 5=1:=by kernel_rfl
theorem zqb:prog.cellsOf 222=256:=by kernel_rfl
theorem cS:prog.cellsOf 224=2:=by kernel_rfl
theorem pK{W:World}(h:laidMetH prog listed W):Lib.Utf8Tabs 3 4 W:=by
 have hm:=(bB h).1;have h3:=zx hm St;rw[cP] at h3;have h4:=zx hm O4;rw[Sh] at h4;constructor
 ·intro c hc;obtain⟨g,t,cs,fuel,p,hg,M3,DN,hd⟩:=h3;obtain rfl:=z7 (zqd.symm.trans hg);obtain rfl:=z7 (pU.symm.trans M3);have dT:=cells_of_tab underlying222 underlying5 cU8 zqb hd;rw[World.var?_cell hg DN c,←z8,dT];simp[firstTab,hc]
 ·intro i hi;obtain⟨g,t,cs,fuel,p,hg,M3,DN,hd⟩:=h4;obtain rfl:=z7 (pQ.symm.trans hg);obtain rfl:=z7 (cR.symm.trans M3);obtain⟨th,d,q,YV,he⟩:=array_elem underlying225 hd i hi;simp only[List.getElem?_map,List.getElem?_range hi,Option.map_some,Option.some.injEq] at YV;subst YV;rw[cS] at he;have dT:=ints_of_struct underlying224 (fun j f hj=>by
   match j,hj with
   | 0,hj=>simp at hj;subst hj;exact⟨underlying5,rfl,cU8⟩
   | 1,hj=>simp at hj;subst hj;exact⟨underlying5,rfl,cU8⟩
   | j+2,hj=>simp at hj) (by rw[cS];rfl) he
  have e0:=congrArg (·[0]?) dT;have e1:=congrArg (·[1]?) dT;simp only[zv,zu] at e0 e1;refine⟨?_,?_⟩
  ·rw[World.var?_cell hg DN (2*i),←z8];simpa[zk] using e0
  ·rw[World.var?_cell hg DN (2*i+1),←z8];simpa[zk] using e1
theorem pJ{W:World}(h:laidMetH prog listed W):O1 W:=⟨pK h,pV h⟩
theorem Sw:("phrases/plural.Names",Rows.laid_phrases_plural_Names)∈F8:=zy.2 ⟨.tail _ (.tail _ (.tail _ (.tail _ (.tail _ (.tail _ (.tail _ (.head _))))))),by kernel_rfl⟩
theorem T4:("phrases/code.forms",Rows.laid_phrases_code_forms)∈F8:=zy.2 ⟨.tail _ (.tail _ (.tail _ (.tail _ (.tail _ (.tail _ (.tail _ (.tail _ (.head _)))))))),by kernel_rfl⟩
theorem zk0:prog.globalNamed "phrases/plural.Names" = some 0:=by kernel_rfl
theorem pG:(prog.globals[0]?).map (·.type)=some 138:=by kernel_rfl
theorem zk1:prog.globalNamed "phrases/code.forms" = some 2:=by kernel_rfl
theorem pF:(prog.globals[2]?).map (·.type)=some 202:=by kernel_rfl
theorem zn4:prog.cellsOf 9=1:=by kernel_rfl
theorem cT{W:World}(h:laidMetH prog listed W):qP W:=by
 intro j hj;obtain⟨g,t,cs,fuel,p,hg,M3,DN,hd⟩:=zx (bB h).1 Sw;obtain rfl:=z7 (zk0.symm.trans hg);obtain rfl:=z7 (pG.symm.trans M3);obtain⟨th,d,q,YV,he⟩:=array_elem underlying138 hd j hj;rw[zn4] at he;obtain⟨s,hs,hx,_⟩:=zZ underlying9 he;have hc:cs.toList[j]? = some (.string s):=by
  have:=congrArg (·[0]?) hs;simpa[zv,zu] using this
 rw[World.var?_cell hg DN j,←z8,hc];simp only[zX] at hx;obtain⟨rfl,_⟩:=hx;have qU:(Xb.getD j ByteArray.empty).data.toList=s.data.toList:=by
  match j,hj with
  | 0,_=>(simp at YV;exact YV)
  | 1,_=>(simp at YV;exact YV)
  | 2,_=>(simp at YV;exact YV)
  | 3,_=>(simp at YV;exact YV)
  | 4,_=>(simp at YV;exact YV)
  | 5,_=>(simp at YV;exact YV)
 rw[ByteArray.ext (Array.toList_inj.1 qU)]
theorem cr{W:World}(h:laidMetH prog listed W):jr W:=by
 intro j hj;obtain⟨g,t,cs,fuel,p,hg,M3,DN,hd⟩:=zx (bB h).1 T4;obtain rfl:=z7 (zk1.symm.trans hg);obtain rfl:=z7 (pF.symm.trans M3);obtain⟨th,d,q,YV,he⟩:=array_elem underlying202 hd j hj;rw[zn4] at he;obtain⟨s,hs,hx,_⟩:=zZ underlying9 he;have hc:cs.toList[j]? = some (.string s):=by
  have:=congrArg (·[0]?) hs;simpa[zv,zu] using this
 rw[World.var?_cell hg DN j,←z8,hc];simp only[zX] at hx;obtain⟨rfl,_⟩:=hx;have qU:fJ j=s.data.toList:=by
  match j,hj with
  | 0,_=>(simp at YV;exact YV.symm▸rfl)
  | 1,_=>(simp at YV;exact YV)
  | 2,_=>(simp at YV;exact YV)
  | 3,_=>(simp at YV;exact YV)
  | 4,_=>(simp at YV;exact YV)
  | 5,_=>(simp at YV;exact YV.symm▸rfl)
  | 6,_=>(simp at YV;exact YV.symm▸rfl)
  | 7,_=>(simp at YV;exact YV)
  | 8,_=>(simp at YV;exact YV)
  | 9,_=>(simp at YV;exact YV)
  | 10,_=>(simp at YV;exact YV)
  | 11,_=>(simp at YV;exact YV)
 rw[qU]
theorem zk2{W:World}(h:laidMetH prog listed W):Ya W:=⟨pJ h,cT h,cr h⟩
def Kp:Nat->DataW Unit->List Value
 | 0,_=>[]
 | _+1,.lit (.int k z)=>[.int k z]
 | _+1,.lit (.string b)=>[.string ⟨b.toArray⟩]
 | n+1,.agg parts=>parts.flatMap (Kp n)
 | _,_=>[]
noncomputable def KG(os:Os):World :=
 let N:=(World.settled prog os).heap.size
 let w0:=World.holding prog os ⟨#[.cells #[.string ⟨#[118,97,108,117,101,32,111,117,116,32,111,102,32,114,97,110,103,101]⟩] 385,.cells #[.string ⟨#[105,110,118,97,108,105,100,32,115,121,110,116,97,120]⟩] 385],#[],[]⟩
 let put (h:Array Obj) (g:Nat) (cs:List Value):Array Obj:=h.modify g fun
  | .cells _ t frozen => .cells cs.toArray t frozen
  | o=>o
 let h1:=put w0.heap 1 [.iface 231 (.agg #[qz 73])]
 let h2:=put h1 0 (Kp 3 Rows.laid_phrases_plural_Names)
 let h3:=put h2 3 (Kp 3 Rows.laid_unicode_utf8_first)
 let h4:=put h3 4 (Kp 3 Rows.laid_unicode_utf8_acceptRanges)
 let h5:=put h4 8 [.iface 383 (.pointer (some ⟨N,0,none⟩))]
 let h6:=put h5 7 [.iface 383 (.pointer (some ⟨N+1,0,none⟩))]
 let h7:=put h6 9 (Kp 3 Rows.laid_internal_strconv_uint64pow10)
 let h8:=put h7 10 (Kp 3 Rows.laid_math_bits_deBruijn32tab)
 let h9:=put h8 11 (Kp 3 Rows.laid_math_bits_deBruijn64tab)
 let dV:=put h9 2 (Kp 3 Rows.laid_phrases_code_forms)
 { w0 with heap:=dV }
set_option maxRecDepth 1000000 in
theorem ey(os:Os)(args:Array Value):laidMetH prog listed ((KG os).forCall (fun _ _=>0) ⟨#[],args,[]⟩).memory :=
 laidMetH_of_parts (laidMet_of_run' 8 (by kernel_rfl) (by kernel_rfl)) (by kernel_rfl)
end Go.Proofs.YthpldolmpinnhaaGreatDoor
namespace Go.Proofs.YthpldolmpinnhaaGreatDoor
open Go
end Go.Proofs.YthpldolmpinnhaaGreatDoor
namespace Go.Proofs.YthpldolmpinnhaaGreatDoor
open Go
theorem T5(l:List UInt8):∀ a:Nat,l.foldl (fun v c=>10*v+(c.toNat - 48)) a=a*10 ^ l.length+bo l:=by
 induction l with
 | nil=>intro a;simp[bo]
 | cons c t ih =>
  intro a;unfold bo;rw[zg,zg,ih,ih,List.length_cons,Nat.pow_succ,Nat.mul_zero,Nat.zero_add,Nat.add_mul,Nat.add_assoc];congr 1;rw[zk 10 a,Nat.mul_assoc,zk 10]
theorem T6(c:UInt8)(t:List UInt8):bo (c::t)=(c.toNat - 48)*10 ^ t.length+bo t:=by
 show(c::t).foldl (fun v c=>10*v+(c.toNat - 48)) 0=_;rw[zg,T5];simp
structure Fig(l:List UInt8):Prop where
 dig:l.all xQ=true
 ne:l≠[]
 lead:l.length=1\/l.headD 0≠48
theorem Fig.of{l:List UInt8}(h:GC l=true):Fig l/\l.length<=9:=by
 simp only[GC,ux,zV,Bool.or_eq_true,decide_eq_true_eq,Bool.not_eq_true'] at h;refine⟨⟨h.1.1,fun e=>?_,h.2.2⟩,h.2.1⟩;rw[e] at h;exact absurd h.1.2 (by decide)
theorem eu{c:UInt8}{t:List UInt8}(hc:xQ c=true)(h:c≠48):10 ^ t.length<=bo (c::t):=by
 rw[T6];have h1:=(vM c).1 hc;have h2:c.toNat≠48:=fun e=>h (zY.1 (by rw[e];rfl))
 have:1*10 ^ t.length<=(c.toNat - 48)*10 ^ t.length:=Nat.mul_le_mul_right _ (by omega);omega
theorem Ie{c:UInt8}(hc:xQ c=true):qk (c.toNat - 48)=c:=by
 have h1:=(vM c).1 hc;unfold qk;apply zY.1;rw[UInt8.toNat_ofNat'];omega
theorem T7:∀ (n:Nat) (l:List UInt8),l.length=n->Fig l->xK (bo l)=l:=by
 intro n;induction n with
 | zero=>intro l hl h;exact absurd (zj hl) h.ne
 | succ n ih =>
  intro l hl h;obtain⟨t,c,rfl⟩:∃ t c,l=t++[c]:=⟨l.dropLast,l.getLast h.ne,by rw[List.dropLast_concat_getLast]⟩;have hd:=h.dig;rw[List.all_append,zV] at hd;have hc:xQ c=true:=by simpa using hd.2
  have h1:=(vM c).1 hc;rw[B8];by_cases ht:t=[]
  ·subst ht;have:(10*bo []+(c.toNat - 48))=c.toNat - 48:=by simp[bo]
   rw[this,uk (by omega),Ie hc];rfl
  ·have hlen:t.length=n:=by simpa using hl
   have zn5:(t++[c]).headD 0≠48:=by
    rcases h.lead with q|q
    ·exact absurd (zj (by simpa using q)) ht
    ·exact q
   obtain⟨e,u,rfl⟩:∃ e u,t=e::u:=by cases t with|nil=>exact absurd rfl ht|cons e u=>exact⟨e,u,rfl⟩
   have he:e≠48:=by simpa using zn5
   have hde:xQ e=true:=by have:=hd.1;simp at this;exact this.1
   have xqk:=eu (t:=u) hde he;have:0<10 ^ u.length:=Nat.pow_pos (by decide);rw[jg (by omega),show(10*bo (e::u)+(c.toNat - 48)) / 10=bo (e::u) by omega,show(10*bo (e::u)+(c.toNat - 48)) % 10=c.toNat - 48 by omega,Ie hc,
    ih (e::u) hlen ⟨hd.1,by simp,.inr (by simpa using he)⟩]
theorem Fig.val{l:List UInt8}(h:Fig l):xK (bo l)=l:=T7 _ l rfl h
theorem T8(x y:List UInt8):cmpL x y = -1\/cmpL x y=0\/cmpL x y=1:=by
 unfold cmpL;split
 ·exact .inl rfl
 split
 ·exact .inr (.inl rfl)
 ·exact .inr (.inr rfl)
end Go.Proofs.YthpldolmpinnhaaGreatDoor
namespace Go.Proofs.YthpldolmpinnhaaGreatDoor
open Go
abbrev ydd:Wd:=[97,110,100]
abbrev wOr:Wd:=[111,114]
def T9{α:Type}(R:Option (α×List Wd))(seg rest:List Wd)(ydb:α->Prop)(bad:Prop):Prop :=
 (∃ a,R=some (a,rest)/\ydb a)\/(bad/\(R=none\/∃ a h t,h∈seg/\R=some (a,h::(t++rest))))
theorem T9.imp{α:Type}{R:Option (α×List Wd)}{seg rest:List Wd}{g g':α->Prop}{b b':Prop}(h:T9 R seg rest g b)(hg:∀ a,g a->g' a)(hb:b->b'):T9 R seg rest g' b':=by
 rcases h with⟨a,r,q⟩|⟨q,r⟩
 ·exact .inl ⟨a,r,hg a q⟩
 ·exact .inr ⟨hb q,r⟩
theorem T9.map{α β:Type}{R:Option (α×List Wd)}{seg rest:List Wd}{g:α->Prop}{b:Prop}(f:α->β){g':β->Prop}(h:T9 R seg rest g b)(hg:∀ a,g a->g' (f a)) :
  T9 (R.map fun q=>(f q.1,q.2)) seg rest g' b:=by
 rcases h with⟨a,r,q⟩|⟨q,r|⟨a,h,t,hm,r⟩⟩
 ·exact .inl ⟨f a,by rw[r];rfl,hg a q⟩
 ·exact .inr ⟨q,.inl (by rw[r];rfl)⟩
 ·exact .inr ⟨q,.inr ⟨f a,h,t,hm,by rw[r];rfl⟩⟩
def Stop(rest:List Wd):Prop:=∀ c,rest.head? = some c->c=ydd\/c=wOr
theorem Ii(w c:Wd)(t:List Wd):Y5 w (c::t)=(c==w):=by
 unfold Y5;rw[List.head?_cons,Bool.eq_iff_iff];simp
end Go.Proofs.YthpldolmpinnhaaGreatDoor
namespace Go.Proofs.YthpldolmpinnhaaGreatDoor
open Go
end Go.Proofs.YthpldolmpinnhaaGreatDoor
