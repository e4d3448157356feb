import Derived.Test.YtpggmjffejgakaaGreatDoorJG7
import Derived.Deep.DeepHandedRow
import Derived.LaidLaws
import Derived.Lib.LaidIn
import Derived.Lib.LaidTab
import Derived.Lib.LaidU8
import Derived.OpenShut
import Derived.ProofKit
import Derived.Shelf.Vars
import Derived.SizedLaws
import Derived.SliceStrings
import Derived.Test.YtpggmjffejgakaaGreatDoorCards
import Derived.Test.YtpggmjffejgakaaGreatDoorTie
set_option linter.defProp false
open Go renaming Addr->yM,Program->VI,TypeId->xm,World->z8,laidMetH->fB,reachBytes->xu8
open Go.Addr renaming add->bW
open Array renaming getElem?_toList->jA
open ByteArray renaming empty->Y5
open Go.DataW.lit renaming injEq->EI
open Go.DataW renaming trod->wG,weightsAll->Dq
open Go.Lib renaming TabIs->YI,Utf8Tabs->du,pow10Tab->Zh
open Go.Lib.laidMet renaming reads->jg
open List renaming all_eq_true->zi,getD_eq_getElem?_getD->ze,getElem?_drop->TR,getElem?_eq_getElem->zk,getElem?_eq_some_iff->zF,getElem?_map->og,getElem?_take->OY,mem_append->zS,mem_cons->yX,mem_cons_of_mem->uk,mem_cons_self->qI,mem_filter->ux,mem_map->uQ,mem_range->Y0,mem_singleton->zJ,range->xB
open Go.Lit.string renaming injEq->vz5
open Nat renaming mul_comm->dY,zero_le->zQ
open Option renaming map_some->QM
open Option.some renaming inj->zL,injEq->vA
open Prod.mk renaming injEq->Hi
open Go.Value renaming cells->Jc,okWide->vz9,slice->vL
open Go.World renaming block_lt_of_cell?->X,cell?->Fu
open Go.Proofs.Tryz
namespace Go.Proofs.YtpggmjffejgakaaGreatDoor
open Go Go.RowKit
set_option maxRecDepth 10000
end Go.Proofs.YtpggmjffejgakaaGreatDoor
namespace Go.Proofs.YtpggmjffejgakaaGreatDoor
open Go.ChangeShapes Go.WideShapes Go.ChangeAt Go.RowKit Go.Lib
set_option maxRecDepth 10000
variable{cs:List Value}{j n:Nat}{P:VI}{v:Value}{W w:z8}
def own:ownKnob prog.godebug=none:=yq
def etG:prog.globalNamed "errors.errorType" = some 1:=yq
def rtT:(prog.cutTypes.find? (·.1 == "internal/reflectlite.rtype")).map (·.2)=some 224:=yq
def xv3:((xB prog.types.size).filter λt=>prog.rowNamed t [101,114,114,111,114])=[49]:=yq
abbrev listed:List (String×DataW Unit):=Rows.againRow.laid
abbrev QH:List (String×DataW Unit):=listed.filter λx=>x.2.handleName?.isNone
def ZF(h:fB prog listed W):laidMet prog QH W/\handlesMet prog [("errors.errorType",Rows.laid_errors_errorType)] W:=h
def ygx(h:fB prog listed W):JF W:=by
 obtain⟨name,u,ty,e1,e2,e3,e4,e5⟩:=(ZF h).2 _ (zJ.2 rfl);have en:name=[101,114,114,111,114]:=(zL e1).symm;subst en;obtain rfl:=zL (rtT.symm.trans e2);have hm:ty∈(xB prog.types.size).filter λt=>prog.rowNamed t [101,114,114,111,114]:=ux.2 ⟨Y0.2 e3,e4⟩
 rw[xv3]at hm;obtain rfl:=zJ.1 hm;have hh:typeHandle prog 49=uR 49:=yq;rw[hh]at e5;unfold JF;simpa using World.var?_cell etG e5 0
def tT:("unicode/utf8.first",Rows.laid_unicode_utf8_first)∈QH:=ux.2 ⟨.tail _ (.tail _ (.tail _ (.tail _ (.tail _ (.tail _ (.tail _ (.tail _ (.tail _ (.tail _ (.head _)))))))))),yq⟩
def ei:("unicode/utf8.acceptRanges",Rows.laid_unicode_utf8_acceptRanges)∈QH:=ux.2 ⟨.tail _ (.tail _ (.tail _ (.head _))),yq⟩
def zp9:Rows.laid_unicode_utf8_first=firstData:=Pinned.utf8First_eq
def tW:(Rows.laid_unicode_utf8_acceptRanges:DataW Unit)=acceptData:=yq
def xv4:prog.globalNamed "unicode/utf8.first" = some 3:=yq
def ygv:(prog.globals[3]?).map (·.type)=some 238:=yq
def ygu:prog.globalNamed "unicode/utf8.acceptRanges" = some 4:=yq
def zpz:(prog.globals[4]?).map (·.type)=some 241:=yq
def cU8:prog.cellsOf 5=1:=yq
def xv5:prog.cellsOf 238=256:=yq
def zpy:prog.cellsOf 240=2:=yq
def ygq(h:fB prog listed W):du 3 4 W:=by
 have hm:=(ZF h).1;have h3:=jg hm tT;rw[zp9]at h3;have h4:=jg hm ei;rw[tW]at h4;constructor
 .intro c hc;obtain⟨g,t,cs,fuel,p,hg,TH,Hc,hd⟩:=h3;obtain rfl:=zL (xv4.symm.trans hg);obtain rfl:=zL (ygv.symm.trans TH);have IQ:=cells_of_tab underlying238 underlying5 cU8 xv5 hd;rw[World.var?_cell hg Hc c,<-jA,IQ];simp[firstTab,hc]
 .intro i hi;obtain⟨g,t,cs,fuel,p,hg,TH,Hc,hd⟩:=h4;obtain rfl:=zL (ygu.symm.trans hg);obtain rfl:=zL (zpz.symm.trans TH);obtain⟨xry,d,q,hdi,he⟩:=array_elem underlying241 hd i hi;simp only[og,List.getElem?_range hi,QM,vA]at hdi;subst hdi;rw[zpy]at he;have IQ:=ints_of_struct underlying240 (λj f hj=>by
   match j,hj with
   | 0,hj=>simp at hj;subst hj;exact⟨underlying5,rfl,cU8⟩
   | 1,hj=>simp at hj;subst hj;exact⟨underlying5,rfl,cU8⟩
   |j+2,hj=>simp at hj) (by rw[zpy];rfl) he
  have e0:=congrArg (·[0]?) IQ;have e1:=congrArg (·[1]?) IQ;simp only[OY,TR]at e0 e1;refine⟨?_,?_⟩
  .rw[World.var?_cell hg Hc (2*i),<-jA];simpa[dY]using e0
  .rw[World.var?_cell hg Hc (2*i+1),<-jA];simpa[dY]using e1
def ygk(h:fB prog listed W):cu W:=⟨ygq h,ygx h⟩
def th:("phrases/plural.Names",Rows.laid_phrases_plural_Names)∈QH:=ux.2 ⟨.tail _ (.tail _ (.tail _ (.tail _ (.tail _ (.tail _ (.tail _ (.head _))))))),yq⟩
def hU:("phrases/code.forms",Rows.laid_phrases_code_forms)∈QH:=ux.2 ⟨.tail _ (.tail _ (.tail _ (.tail _ (.tail _ (.tail _ (.tail _ (.tail _ (.tail _ (.head _))))))))),yq⟩
def xv6:prog.globalNamed "phrases/plural.Names" = some 0:=yq
def ygj:(prog.globals[0]?).map (·.type)=some 107:=yq
def xv7:prog.globalNamed "phrases/code.forms" = some 2:=yq
def ygg:(prog.globals[2]?).map (·.type)=some 147:=yq
def xrx:prog.cellsOf 9=1:=yq
def E9{nm:String}{ds:List (DataW Unit)}{g:Nat}{t:xm}(F:Nat->Wd)(h:fB prog listed W)(hm:(nm,.agg ds)∈QH)(hg:prog.globalNamed nm=some g)(hT:(prog.globals[g]?).map (·.type)=some t)(hu:prog.underlying t=some (.array n 9))
  (hF:∀j,j<n->ds[j]? = some (.lit (.string (F j)))):∀j,j<n->zu W g j (zM (F j)):=by
 intro j hj;obtain⟨g',t',cs,fuel,p,hg',TH,Hc,hd⟩:=jg (ZF h).1 hm;obtain rfl:=zL (hg.symm.trans hg');obtain rfl:=zL (hT.symm.trans TH);obtain⟨xry,d,q,hdi,he⟩:=array_elem hu hd j hj;rw[xrx]at he;obtain⟨s,hs,hx,_⟩:=DataW.trod_string underlying9 he;have hc:cs.toList[j]? = some (.string s):=by
  have:=congrArg (·[0]?) hs;simpa[OY,TR]using this
 rw[World.var?_cell hg Hc j,<-jA,hc];rw[hF j hj]at hdi;simp only[Hi]at hx;obtain⟨rfl,_⟩:=hx;simp only[vA,EI,vz5]at hdi;rw[hdi]
def zpx(h:fB prog listed W):qx W:=λj hj=>by
 rw[E9 (λj=>(Yq.getD j Y5).data.toList) h th xv6 ygj underlying107 (λj hj=>by(iterate 6 (rcases j with _|j;· rfl));omega) j hj]
def zpv(h:fB prog listed W):qj W :=
 E9 uW h hU xv7 ygg underlying147 (λj hj=>by(iterate 12 (rcases j with _|j;· rfl));omega)
def xv8(h:fB prog listed W):Zn W:=⟨ygk h,zpx h,zpv h⟩
def wz:("phrases/syntax.words",Rows.laid_phrases_syntax_words)∈QH:=ux.2 ⟨.tail _ (.tail _ (.tail _ (.tail _ (.tail _ (.tail _ (.tail _ (.tail _ (.head _)))))))),yq⟩
def xv9:prog.globalNamed "phrases/syntax.words" = some 5:=yq
def ygf:(prog.globals[5]?).map (·.type)=some 275:=yq
def zpu(h:fB prog listed W):DH W :=
 E9 qF h wz xv9 ygf underlying275 (λj hj=>by(iterate 3 (rcases j with _|j;· rfl));omega)
def ygd:("internal/strconv.uint64pow10",Rows.laid_internal_strconv_uint64pow10)∈QH:=ux.2 ⟨.tail _ (.tail _ (.head _)),yq⟩
def pow_eq:(Rows.laid_internal_strconv_uint64pow10:DataW Unit)=Lib.tabData .u64 Zh:=yq
def xrv:(prog.globals[7]?).map (·.type)=some 347:=yq
def voj:prog.cellsOf 276=1:=yq
def vog:prog.cellsOf 347=20:=yq
def xvz(h:fB prog listed W):YI prog W "internal/strconv.uint64pow10" .u64 Zh:=by
 have h3:=jg (ZF h).1 ygd;rw[pow_eq]at h3;obtain⟨g,t,cs,fuel,p,hg,TH,Hc,hd⟩:=h3;obtain rfl:=zL (xrv.symm.trans (by rw[show g=7 from(zL (KZ.symm.trans hg)).symm]at TH;exact TH));unfold YI;rw[Hc,<-cells_of_tab underlying347 underlying276 voj vog hd]
def xvy(h:W.ShapedOpen prog):∃m,W.cell? (6,0)=some (.int .i64 m) :=
 cell_of_shapedOpen_int (zero:=#[.int .i64 0]) (t:=3) h (of_decide_eq_true yq) yq rfl yq yq underlying3
def mem_range:("strconv.ErrRange",Rows.laid_strconv_ErrRange)∈QH:=ux.2 ⟨.tail _ (.tail _ (.tail _ (.tail _ (.tail _ (.head _))))),yq⟩
def eo:("strconv.ErrSyntax",Rows.laid_strconv_ErrSyntax)∈QH:=ux.2 ⟨.tail _ (.tail _ (.tail _ (.tail _ (.tail _ (.tail _ (.head _)))))),yq⟩
def xvx:prog.globalNamed "strconv.ErrRange" = some 9:=yq
def ygb:(prog.globals[9]?).map (·.type)=some 49:=yq
def yf0:prog.globalNamed "strconv.ErrSyntax" = some 8:=yq
def zpq:(prog.globals[8]?).map (·.type)=some 49:=yq
def zpk{H:Type}{enc:xm×Value->H}{base:Nat}{sp:Nat->Bool}{held:Bool}{fuel:Nat}{t:xm}{n:String}{d:DataW H}{p:List MemPlace}(ht:∃ms,P.underlying t=some (.interface ms))
  (h:wG enc P w base sp held fuel t cs=some (.iface n d,p)):∃u v,cs=[.iface u v]:=by
 cases fuel with
 |zero=>simp[wG]at h
 |succ k =>
  unfold wG at h;obtain⟨ms,ht⟩:=ht;rw[ht]at h;split at h<;>simp_all
def Ez{n:String}{g:Nat}{nm:String}{d:DataW Unit}(hg:prog.globalNamed n=some g)(hT:(prog.globals[g]?).map (·.type)=some 49)(h:VarReads prog W n (.iface nm d)) :
  ∃t v,zu W g 0 (.iface t v):=by
 obtain⟨g',t,cs,fuel,p,hg',TH,Hc,hd⟩:=h;obtain rfl:=zL (hg.symm.trans hg');obtain rfl:=zL (hT.symm.trans TH);obtain⟨u,v,IQ⟩:=zpk ⟨_,underlying49⟩ hd;refine⟨u,v,?_⟩;rw[World.var?_cell hg Hc 0,<-jA,IQ];rfl
def xru(h:fB prog listed W):mr W :=
 ⟨Ez yf0 zpq (jg (ZF h).1 eo),Ez xvx ygb (jg (ZF h).1 mem_range)⟩
def yf1(h:fB prog listed W):gO W:=⟨xv8 h,xru h⟩
def xvv(h:fB prog listed W)(hs:W.ShapedOpen prog):Zt W:=⟨xvy hs,zpu h,xvz h⟩
def JT{H:Type}(t:xm):∀(ss:List ByteArray),(∀n∈Dq P t (strs (H:=H) ss),n<=xu8)->∀s∈ss,s.size<=xu8
 |[],_,s,hs=>by cases hs
 |a::r,h,s,hs=>by
  have e:DataW.weightsAll P t (strs (H:=H) (a::r))=a.data.toList.length::DataW.weightsAll P t (strs (H:=H) r):=by simp[strs,DataW.weightsAll,DataW.weights]
  rw[e]at h;rcases yX.1 hs with rfl|hs
  .have:=h _ (qI ..);simpa using this
  .exact JT t r (λn hn=>h n (uk _ hn)) s hs
def wy{H:Type}{enc:xm×Value->H}{d:DataW H}{p:List MemPlace}{ts:List xm}{ds:List (DataW H)}(hval:vz9 prog W .any 0 22 v\/∃base,vz9 prog W .any base 22 v)
  (hx:DataW.Trod enc prog W 0 (λ_=>true) true 22 v d p) (hwt:(DataW.weightsEach prog ts ds).all (· ≤ xu8)=true) (ht:ts[j]? = some 22) (hd:ds[j]? = some d) :
  ∃a n c ws,v = .slice a n c/\YG W a ws/\ws.length=n/\n<=140737488355328/\(∀m∈ws,m.length<=140737488355328)/\∀x∈p,x.block<(W:Nat):=by
 obtain⟨a1,l1,c1,rfl⟩:∃a l c,v = .slice a l c:=by
  rcases hval with h|⟨b,h⟩
  .exact okWide_slice underlying22 h
  .exact okWide_slice underlying22 h
 obtain⟨k1,hk1⟩:=hx;have hr:=reachBytes_lt;rcases open_strings underlying22 underlying9 xrx hk1 with⟨IQ,hx⟩|⟨a,len,cap,ss,IQ,hb,hl,hm,hz,hx,hc,bh⟩
 .have hv:vL a1 l1 c1 = .slice none 0 0:=by simpa[Jc]using IQ
  rw[hv];exact⟨none,0,0,[],rfl,(λh=>absurd rfl h),rfl,zQ _,(λm hm=>by cases hm),λx hxp=>by simp only[Hi]at hx;rw[hx.2]at hxp;cases hxp⟩
 .have hv:vL a1 l1 c1 = .slice (some a) len cap:=by simpa[Jc]using IQ
  rw[hv];simp only[if_true]at hz;simp only[Hi]at hx;have xvu:=DataW.weights_mem_each (P:=prog) ht hd;rw[hx.1]at xvu;simp only[DataW.weights,underlying22]at xvu;have LC:∀n,n∈(((strs (H:=H) (ss.take len)).length+(strs (H:=H) (ss.drop len)).length)*prog.bytesOf 9::(Dq prog 9 (strs (H:=H) (ss.take len))++Dq prog 9 (strs (H:=H) (ss.drop len))))->n<=xu8:=λn hn=>by
   have:=zi.1 hwt n (xvu n hn);simpa using this
  have h1:=LC _ (qI ..);rw[show prog.bytesOf 9=16 by kernel_rfl]at h1;simp[strs]at h1;have h2:=JT (H:=H) (P:=prog) 9 (ss.take len) (λn hn=>LC n (uk _ (zS.2 (.inl hn))));refine⟨some a,len,cap,(ss.take len).map (λs=>s.data.toList),rfl,(λgM=>?_),yJ,J,?_,?_⟩
  .have h0:0<ss.length:=by
    cases ss with
    |nil=>simp at gM
    |cons x y=>simp
   have hsp:a.spot=none:=by
    have h5:=hc 0 h0;rw[show a.add 0=a from rfl]at h5;unfold Fu at h5;split at h5
    .split at h5
     .cases h5
     .rename_i hx;simpa using hx
    .cases h5
   obtain⟨b,o,sp⟩:=a;simp only at hsp;subst hsp;refine⟨b,o,rfl,λj t ht=>?_⟩;have hj2:j<(ss.take len).length:=by
    have:=(zF.1 ht).1;simpa using this
   have hj3:j<ss.length:=(by simp at hj2;omega);rw[og,zk hj2,List.getElem_take]at ht;obtain rfl:=zL ht;have h4:=hc j hj3;rw[show(⟨b,o,none⟩:yM).add j=⟨b,o+j,none⟩ by
    unfold bW;split<;>simp_all]at h4
   rw[h4];simp[zM,ze,hj3]
  .intro m Em;obtain⟨s,hs,rfl⟩:=uQ.1 Em;have:=h2 s hs;exact Gu
  .intro x hxp;rw[hx.2]at hxp;obtain⟨i,hi,rfl⟩:=uQ.1 hxp;have hi2:i<ss.length:=(by simpa using hi);have:=X W _ (hc i hi2);rw[addr_add]at this;simpa[MemPlace.block]using this
def JW:Nat->DataW Unit->List Value
 | 0,_=>[]
 |_+1,.lit (.int k z)=>[.int k z]
 |_+1,.lit (.string b)=>[.string ⟨b.toArray⟩]
 |n+1,.agg parts=>parts.flatMap (JW n)
 |_,_=>[]
noncomputable def Fx(os:Os):z8 :=
 let N:=(World.settled prog os).heap.size
 let w0:=World.holding prog os ⟨#[.cells #[.string ⟨#[118,97,108,117,101,32,111,117,116,32,111,102,32,114,97,110,103,101]⟩] 366,.cells #[.string ⟨#[105,110,118,97,108,105,100,32,115,121,110,116,97,120]⟩] 366],#[],[]⟩
 let put (h:Array Obj) (g:Nat) (cs:List Value):Array Obj:=h.modify g fun
  |.cells _ t frozen => .cells cs.toArray t frozen
  |o=>o
 let h1:=put w0.heap 1 [.iface 224 (.agg #[uR 49])]
 let h2:=put h1 0 (JW 3 Rows.laid_phrases_plural_Names)
 let h3:=put h2 3 (JW 3 Rows.laid_unicode_utf8_first)
 let h4:=put h3 4 (JW 3 Rows.laid_unicode_utf8_acceptRanges)
 let h5:=put h4 9 [.iface 364 (N,0)]
 let h6:=put h5 8 [.iface 364 (N+1,0)]
 let h7:=put h6 7 (JW 3 Rows.laid_internal_strconv_uint64pow10)
 let h8:=put h7 10 (JW 3 Rows.laid_math_bits_deBruijn32tab)
 let h9:=put h8 11 (JW 3 Rows.laid_math_bits_deBruijn64tab)
 let wB:=put h9 2 (JW 3 Rows.laid_phrases_code_forms)
 let h11:=put wB 5 (JW 3 Rows.laid_phrases_syntax_words)
 { w0 with heap:=h11 }
set_option maxRecDepth 1000000 in
def zpj(os:Os)(args:Array Value):fB prog listed ((Fx os).forCall (λ_ _=>0) ⟨#[],args,[]⟩).memory :=
 laidMetH_of_parts (laidMet_of_run' 8 yq yq) yq
end Go.Proofs.YtpggmjffejgakaaGreatDoor
