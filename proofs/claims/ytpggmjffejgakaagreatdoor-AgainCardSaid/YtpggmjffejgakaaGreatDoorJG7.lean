import Derived.Test.YtpggmjffejgakaaGreatDoorJG6
import Derived.Deep.DeepHandedRow
import Derived.LaidLaws
import Derived.Lib.LaidIn
import Derived.Lib.LaidTab
import Derived.Lib.LaidU8
import Derived.OpenShut
import Derived.ProofKit
import Derived.Shelf.Vars
import Derived.SizedLaws
import Derived.SliceStrings
import Derived.Test.YtpggmjffejgakaaGreatDoorCards
import Derived.Test.YtpggmjffejgakaaGreatDoorTie
set_option linter.defProp false
open Go renaming Addr->yI,DataW->ib,Program->Gz,TypeId->xM,Value->zx,World->z8,laidMetH->fH,reachBytes->xu9
open Go.Addr renaming add->fG
open Array renaming getElem?_toList->ji
open ByteArray renaming empty->Y7
open Go.DataW.lit renaming injEq->EW
open Go.DataW renaming trod->wH,weightsAll->DK
open Go.Lib renaming TabIs->YO,Utf8Tabs->Yv,pow10Tab->Y1
open Go.Lib.laidMet renaming reads->jb
open List renaming all_eq_true->zm,getD_eq_getElem?_getD->zA,getElem?_drop->Uw,getElem?_eq_getElem->zj,getElem?_eq_some_iff->zD,getElem?_map->Ql,getElem?_take->OJ,mem_append->zS,mem_cons->yV,mem_cons_of_mem->uj,mem_cons_self->qO,mem_filter->uv,mem_map->uy,mem_range->Y2,mem_singleton->zG,range->xH
open Go.Lit.string renaming injEq->vz7
open Nat renaming mul_comm->dU,zero_le->zJ
open Option renaming map_some->Y8
open Option.some renaming inj->zL,injEq->vr
open Prod.mk renaming injEq->Ht
open Go.Value renaming cells->Js,okWide->vzy,slice->ux
open Go.World renaming block_lt_of_cell?->X,cell?->FK
open Go.Proofs.Tryz
namespace Go.Proofs.YtpggmjffejgakaaGreatDoor
open Go Go.RowKit
set_option maxRecDepth 10000
end Go.Proofs.YtpggmjffejgakaaGreatDoor
namespace Go.Proofs.YtpggmjffejgakaaGreatDoor
open Go.ChangeShapes Go.WideShapes Go.ChangeAt Go.RowKit Go.Lib
set_option maxRecDepth 10000
variable{cs:List zx}{j n:Nat}{P:Gz}{v:zx}{W w:z8}
def own:ownKnob prog.godebug=none:=yg
def etG:prog.globalNamed "errors.errorType" = some 1:=yg
def rtT:(prog.cutTypes.find? (·.1 == "internal/reflectlite.rtype")).map (·.2)=some 224:=yg
def xv3:((xH prog.types.size).filter λt=>prog.rowNamed t [101,114,114,111,114])=[49]:=yg
abbrev listed:List (String×ib Unit):=Rows.againRow.laid
abbrev Qe:List (String×ib Unit):=listed.filter λx=>x.2.handleName?.isNone
def ZC(h:fH prog listed W):laidMet prog Qe W/\handlesMet prog [("errors.errorType",Rows.laid_errors_errorType)] W:=h
def ygu(h:fH prog listed W):JM W:=by
 obtain⟨name,u,ty,e1,e2,e3,e4,e5⟩:=(ZC h).2 _ (zG.2 rfl);have en:name=[101,114,114,111,114]:=(zL e1).symm;subst en;obtain rfl:=zL (rtT.symm.trans e2);have hm:ty∈(xH prog.types.size).filter λt=>prog.rowNamed t [101,114,114,111,114]:=uv.2 ⟨Y2.2 e3,e4⟩
 rw[xv3]at hm;obtain rfl:=zG.1 hm;have hh:typeHandle prog 49=uS 49:=yg;rw[hh]at e5;unfold JM;simpa using World.var?_cell etG e5 0
def wy:("unicode/utf8.first",Rows.laid_unicode_utf8_first)∈Qe:=uv.2 ⟨.tail _ (.tail _ (.tail _ (.tail _ (.tail _ (.tail _ (.tail _ (.tail _ (.tail _ (.tail _ (.head _)))))))))),yg⟩
def iq:("unicode/utf8.acceptRanges",Rows.laid_unicode_utf8_acceptRanges)∈Qe:=uv.2 ⟨.tail _ (.tail _ (.tail _ (.head _))),yg⟩
def zpv:Rows.laid_unicode_utf8_first=firstData:=Pinned.utf8First_eq
def wx:(Rows.laid_unicode_utf8_acceptRanges:ib Unit)=acceptData:=yg
def xv4:prog.globalNamed "unicode/utf8.first" = some 3:=yg
def ygq:(prog.globals[3]?).map (·.type)=some 238:=yg
def ygk:prog.globalNamed "unicode/utf8.acceptRanges" = some 4:=yg
def zpu:(prog.globals[4]?).map (·.type)=some 241:=yg
def cU8:prog.cellsOf 5=1:=yg
def xv5:prog.cellsOf 238=256:=yg
def zpq:prog.cellsOf 240=2:=yg
def ygj(h:fH prog listed W):Yv 3 4 W:=by
 have hm:=(ZC h).1;have h3:=jb hm wy;rw[zpv]at h3;have h4:=jb hm iq;rw[wx]at h4;constructor
 .intro c hc;obtain⟨g,t,cs,fuel,p,hg,TR,Hr,hd⟩:=h3;obtain rfl:=zL (xv4.symm.trans hg);obtain rfl:=zL (ygq.symm.trans TR);have IH:=cells_of_tab underlying238 underlying5 cU8 xv5 hd;rw[World.var?_cell hg Hr c,<-ji,IH];simp[firstTab,hc]
 .intro i hi;obtain⟨g,t,cs,fuel,p,hg,TR,Hr,hd⟩:=h4;obtain rfl:=zL (ygk.symm.trans hg);obtain rfl:=zL (zpu.symm.trans TR);obtain⟨xrx,d,q,hdi,he⟩:=array_elem underlying241 hd i hi;simp only[Ql,List.getElem?_range hi,Y8,vr]at hdi;subst hdi;rw[zpq]at he;have IH:=ints_of_struct underlying240 (λj f hj=>by
   match j,hj with
   | 0,hj=>simp at hj;subst hj;exact⟨underlying5,rfl,cU8⟩
   | 1,hj=>simp at hj;subst hj;exact⟨underlying5,rfl,cU8⟩
   |j+2,hj=>simp at hj) (by rw[zpq];rfl) he
  have e0:=congrArg (·[0]?) IH;have e1:=congrArg (·[1]?) IH;simp only[OJ,Uw]at e0 e1;refine⟨?_,?_⟩
  .rw[World.var?_cell hg Hr (2*i),<-ji];simpa[dU]using e0
  .rw[World.var?_cell hg Hr (2*i+1),<-ji];simpa[dU]using e1
def ygg(h:fH prog listed W):cJ W:=⟨ygj h,ygu h⟩
def wu:("phrases/plural.Names",Rows.laid_phrases_plural_Names)∈Qe:=uv.2 ⟨.tail _ (.tail _ (.tail _ (.tail _ (.tail _ (.tail _ (.tail _ (.head _))))))),yg⟩
def wk:("phrases/code.forms",Rows.laid_phrases_code_forms)∈Qe:=uv.2 ⟨.tail _ (.tail _ (.tail _ (.tail _ (.tail _ (.tail _ (.tail _ (.tail _ (.tail _ (.head _))))))))),yg⟩
def xv6:prog.globalNamed "phrases/plural.Names" = some 0:=yg
def ygf:(prog.globals[0]?).map (·.type)=some 107:=yg
def xv7:prog.globalNamed "phrases/code.forms" = some 2:=yg
def ygd:(prog.globals[2]?).map (·.type)=some 147:=yg
def xrv:prog.cellsOf 9=1:=yg
def EX{nm:String}{ds:List (ib Unit)}{g:Nat}{t:xM}(F:Nat->Wd)(h:fH prog listed W)(hm:(nm,.agg ds)∈Qe)(hg:prog.globalNamed nm=some g)(hT:(prog.globals[g]?).map (·.type)=some t)(hu:prog.underlying t=some (.array n 9))
  (hF:∀j,j<n->ds[j]? = some (.lit (.string (F j)))):∀j,j<n->zk W g j (zO (F j)):=by
 intro j hj;obtain⟨g',t',cs,fuel,p,hg',TR,Hr,hd⟩:=jb (ZC h).1 hm;obtain rfl:=zL (hg.symm.trans hg');obtain rfl:=zL (hT.symm.trans TR);obtain⟨xrx,d,q,hdi,he⟩:=array_elem hu hd j hj;rw[xrv]at he;obtain⟨s,hs,hx,_⟩:=DataW.trod_string underlying9 he;have hc:cs.toList[j]? = some (.string s):=by
  have:=congrArg (·[0]?) hs;simpa[OJ,Uw]using this
 rw[World.var?_cell hg Hr j,<-ji,hc];rw[hF j hj]at hdi;simp only[Ht]at hx;obtain⟨rfl,_⟩:=hx;simp only[vr,EW,vz7]at hdi;rw[hdi]
def zpk(h:fH prog listed W):qu W:=λj hj=>by
 rw[EX (λj=>(Yd.getD j Y7).data.toList) h wu xv6 ygf underlying107 (λj hj=>by(iterate 6 (rcases j with _|j;· rfl));omega) j hj]
def zpj(h:fH prog listed W):qg W :=
 EX uA h wk xv7 ygd underlying147 (λj hj=>by(iterate 12 (rcases j with _|j;· rfl));omega)
def xv8(h:fH prog listed W):Zr W:=⟨ygg h,zpk h,zpj h⟩
def wj:("phrases/syntax.words",Rows.laid_phrases_syntax_words)∈Qe:=uv.2 ⟨.tail _ (.tail _ (.tail _ (.tail _ (.tail _ (.tail _ (.tail _ (.tail _ (.head _)))))))),yg⟩
def xv9:prog.globalNamed "phrases/syntax.words" = some 5:=yg
def ygb:(prog.globals[5]?).map (·.type)=some 275:=yg
def zpg(h:fH prog listed W):Dc W :=
 EX qC h wj xv9 ygb underlying275 (λj hj=>by(iterate 3 (rcases j with _|j;· rfl));omega)
def yf0:("internal/strconv.uint64pow10",Rows.laid_internal_strconv_uint64pow10)∈Qe:=uv.2 ⟨.tail _ (.tail _ (.head _)),yg⟩
def pow_eq:(Rows.laid_internal_strconv_uint64pow10:ib Unit)=Lib.tabData .u64 Y1:=yg
def xru:(prog.globals[7]?).map (·.type)=some 347:=yg
def vof:prog.cellsOf 276=1:=yg
def vod:prog.cellsOf 347=20:=yg
def xvz(h:fH prog listed W):YO prog W "internal/strconv.uint64pow10" .u64 Y1:=by
 have h3:=jb (ZC h).1 yf0;rw[pow_eq]at h3;obtain⟨g,t,cs,fuel,p,hg,TR,Hr,hd⟩:=h3;obtain rfl:=zL (xru.symm.trans (by rw[show g=7 from(zL (KE.symm.trans hg)).symm]at TR;exact TR));unfold YO;rw[Hr,<-cells_of_tab underlying347 underlying276 vof vod hd]
def xvy(h:W.ShapedOpen prog):∃m,W.cell? (6,0)=some (.int .i64 m) :=
 cell_of_shapedOpen_int (zero:=#[.int .i64 0]) (t:=3) h (of_decide_eq_true yg) yg rfl yg yg underlying3
def mem_range:("strconv.ErrRange",Rows.laid_strconv_ErrRange)∈Qe:=uv.2 ⟨.tail _ (.tail _ (.tail _ (.tail _ (.tail _ (.head _))))),yg⟩
def ik:("strconv.ErrSyntax",Rows.laid_strconv_ErrSyntax)∈Qe:=uv.2 ⟨.tail _ (.tail _ (.tail _ (.tail _ (.tail _ (.tail _ (.head _)))))),yg⟩
def xvx:prog.globalNamed "strconv.ErrRange" = some 9:=yg
def yf1:(prog.globals[9]?).map (·.type)=some 49:=yg
def yf2:prog.globalNamed "strconv.ErrSyntax" = some 8:=yg
def zpf:(prog.globals[8]?).map (·.type)=some 49:=yg
def zpd{H:Type}{enc:xM×zx->H}{base:Nat}{sp:Nat->Bool}{held:Bool}{fuel:Nat}{t:xM}{n:String}{d:ib H}{p:List MemPlace}(ht:∃ms,P.underlying t=some (.interface ms))
  (h:wH enc P w base sp held fuel t cs=some (.iface n d,p)):∃u v,cs=[.iface u v]:=by
 cases fuel with
 |zero=>simp[wH]at h
 |succ k =>
  unfold wH at h;obtain⟨ms,ht⟩:=ht;rw[ht]at h;split at h<;>simp_all
def EV{n:String}{g:Nat}{nm:String}{d:ib Unit}(hg:prog.globalNamed n=some g)(hT:(prog.globals[g]?).map (·.type)=some 49)(h:VarReads prog W n (.iface nm d)) :
  ∃t v,zk W g 0 (.iface t v):=by
 obtain⟨g',t,cs,fuel,p,hg',TR,Hr,hd⟩:=h;obtain rfl:=zL (hg.symm.trans hg');obtain rfl:=zL (hT.symm.trans TR);obtain⟨u,v,IH⟩:=zpd ⟨_,underlying49⟩ hd;refine⟨u,v,?_⟩;rw[World.var?_cell hg Hr 0,<-ji,IH];rfl
def xrq(h:fH prog listed W):nZ W :=
 ⟨EV yf2 zpf (jb (ZC h).1 ik),EV xvx yf1 (jb (ZC h).1 mem_range)⟩
def yf3(h:fH prog listed W):gP W:=⟨xv8 h,xrq h⟩
def xvv(h:fH prog listed W)(hs:W.ShapedOpen prog):Y0 W:=⟨xvy hs,zpg h,xvz h⟩
def Jm{H:Type}(t:xM):∀(ss:List ByteArray),(∀n∈DK P t (strs (H:=H) ss),n<=xu9)->∀s∈ss,s.size<=xu9
 |[],_,s,hs=>by cases hs
 |a::r,h,s,hs=>by
  have e:DataW.weightsAll P t (strs (H:=H) (a::r))=a.data.toList.length::DataW.weightsAll P t (strs (H:=H) r):=by simp[strs,DataW.weightsAll,DataW.weights]
  rw[e]at h;rcases yV.1 hs with rfl|hs
  .have:=h _ (qO ..);simpa using this
  .exact Jm t r (λn hn=>h n (uj _ hn)) s hs
def wg{H:Type}{enc:xM×zx->H}{d:ib H}{p:List MemPlace}{ts:List xM}{ds:List (ib H)}(hval:vzy prog W .any 0 22 v\/∃base,vzy prog W .any base 22 v)
  (hx:DataW.Trod enc prog W 0 (λ_=>true) true 22 v d p) (hwt:(DataW.weightsEach prog ts ds).all (· ≤ xu9)=true) (ht:ts[j]? = some 22) (hd:ds[j]? = some d) :
  ∃a n c ws,v = .slice a n c/\YC W a ws/\ws.length=n/\n<=140737488355328/\(∀m∈ws,m.length<=140737488355328)/\∀x∈p,x.block<(W:Nat):=by
 obtain⟨a1,l1,c1,rfl⟩:∃a l c,v = .slice a l c:=by
  rcases hval with h|⟨b,h⟩
  .exact okWide_slice underlying22 h
  .exact okWide_slice underlying22 h
 obtain⟨k1,hk1⟩:=hx;have hr:=reachBytes_lt;rcases open_strings underlying22 underlying9 xrv hk1 with⟨IH,hx⟩|⟨a,len,cap,ss,IH,hb,hl,hm,hz,hx,hc,Z0⟩
 .have hv:ux a1 l1 c1 = .slice none 0 0:=by simpa[Js]using IH
  rw[hv];exact⟨none,0,0,[],rfl,(λh=>absurd rfl h),rfl,zJ _,(λm hm=>by cases hm),λx hxp=>by simp only[Ht]at hx;rw[hx.2]at hxp;cases hxp⟩
 .have hv:ux a1 l1 c1 = .slice (some a) len cap:=by simpa[Js]using IH
  rw[hv];simp only[if_true]at hz;simp only[Ht]at hx;have xvu:=DataW.weights_mem_each (P:=prog) ht hd;rw[hx.1]at xvu;simp only[DataW.weights,underlying22]at xvu;have LR:∀n,n∈(((strs (H:=H) (ss.take len)).length+(strs (H:=H) (ss.drop len)).length)*prog.bytesOf 9::(DK prog 9 (strs (H:=H) (ss.take len))++DK prog 9 (strs (H:=H) (ss.drop len))))->n<=xu9:=λn hn=>by
   have:=zm.1 hwt n (xvu n hn);simpa using this
  have h1:=LR _ (qO ..);rw[show prog.bytesOf 9=16 by kernel_rfl]at h1;simp[strs]at h1;have h2:=Jm (H:=H) (P:=prog) 9 (ss.take len) (λn hn=>LR n (uj _ (zS.2 (.inl hn))));refine⟨some a,len,cap,(ss.take len).map (λs=>s.data.toList),rfl,(λgN=>?_),yF,J,?_,?_⟩
  .have h0:0<ss.length:=by
    cases ss with
    |nil=>simp at gN
    |cons x y=>simp
   have hsp:a.spot=none:=by
    have h5:=hc 0 h0;rw[show a.add 0=a from rfl]at h5;unfold FK at h5;split at h5
    .split at h5
     .cases h5
     .rename_i hx;simpa using hx
    .cases h5
   obtain⟨b,o,sp⟩:=a;simp only at hsp;subst hsp;refine⟨b,o,rfl,λj t ht=>?_⟩;have hj2:j<(ss.take len).length:=by
    have:=(zD.1 ht).1;simpa using this
   have hj3:j<ss.length:=(by simp at hj2;omega);rw[Ql,zj hj2,List.getElem_take]at ht;obtain rfl:=zL ht;have h4:=hc j hj3;rw[show(⟨b,o,none⟩:yI).add j=⟨b,o+j,none⟩ by
    unfold fG;split<;>simp_all]at h4
   rw[h4];simp[zO,zA,hj3]
  .intro m Ew;obtain⟨s,hs,rfl⟩:=uy.1 Ew;have:=h2 s hs;exact GQ
  .intro x hxp;rw[hx.2]at hxp;obtain⟨i,hi,rfl⟩:=uy.1 hxp;have hi2:i<ss.length:=(by simpa using hi);have:=X W _ (hc i hi2);rw[addr_add]at this;simpa[MemPlace.block]using this
def Jn:Nat->ib Unit->List zx
 | 0,_=>[]
 |_+1,.lit (.int k z)=>[.int k z]
 |_+1,.lit (.string b)=>[.string ⟨b.toArray⟩]
 |n+1,.agg parts=>parts.flatMap (Jn n)
 |_,_=>[]
noncomputable def FU(os:Os):z8 :=
 let N:=(World.settled prog os).heap.size
 let w0:=World.holding prog os ⟨#[.cells #[.string ⟨#[118,97,108,117,101,32,111,117,116,32,111,102,32,114,97,110,103,101]⟩] 366,.cells #[.string ⟨#[105,110,118,97,108,105,100,32,115,121,110,116,97,120]⟩] 366],#[],[]⟩
 let put (h:Array Obj) (g:Nat) (cs:List zx):Array Obj:=h.modify g fun
  |.cells _ t frozen => .cells cs.toArray t frozen
  |o=>o
 let h1:=put w0.heap 1 [.iface 224 (.agg #[uS 49])]
 let h2:=put h1 0 (Jn 3 Rows.laid_phrases_plural_Names)
 let h3:=put h2 3 (Jn 3 Rows.laid_unicode_utf8_first)
 let h4:=put h3 4 (Jn 3 Rows.laid_unicode_utf8_acceptRanges)
 let h5:=put h4 9 [.iface 364 (N,0)]
 let h6:=put h5 8 [.iface 364 (N+1,0)]
 let h7:=put h6 7 (Jn 3 Rows.laid_internal_strconv_uint64pow10)
 let h8:=put h7 10 (Jn 3 Rows.laid_math_bits_deBruijn32tab)
 let h9:=put h8 11 (Jn 3 Rows.laid_math_bits_deBruijn64tab)
 let wL:=put h9 2 (Jn 3 Rows.laid_phrases_code_forms)
 let h11:=put wL 5 (Jn 3 Rows.laid_phrases_syntax_words)
 { w0 with heap:=h11 }
set_option maxRecDepth 1000000 in
def zpb(os:Os)(args:Array zx):fH prog listed ((FU os).forCall (λ_ _=>0) ⟨#[],args,[]⟩).memory :=
 laidMetH_of_parts (laidMet_of_run' 8 yg yg) yg
end Go.Proofs.YtpggmjffejgakaaGreatDoor
