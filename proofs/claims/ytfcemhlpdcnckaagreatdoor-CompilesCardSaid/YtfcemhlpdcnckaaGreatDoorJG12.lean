import Derived.Test.YtfcemhlpdcnckaaGreatDoorJG11
import Derived.Deep.DeepHandedRow
import Derived.LaidLaws
import Derived.Lib.LaidIn
import Derived.Lib.LaidTab
import Derived.Lib.LaidU8
import Derived.OpenShut
import Derived.ProofKit
import Derived.Shelf.Vars
import Derived.SizedLaws
import Derived.SliceStrings
import Derived.Test.YtfcemhlpdcnckaaGreatDoorCards
import Derived.Test.YtfcemhlpdcnckaaGreatDoorTie
set_option linter.defProp false
open Array renaming getElem?_toList->jL
open ByteArray renaming empty->Mc
open Go.DataW renaming Trod->iw,trod->E8,weightsAll->FG
open Go.DataW.lit renaming injEq->Hs
open Go.Lib renaming Utf8Tabs->XL
open Go.Lib.laidMet renaming reads->gB
open List renaming all_eq_true->Yl,getD_eq_getElem?_getD->zM,getElem?_drop->MM,getElem_take->ypu,length_take->xr,mem_append->xY,mem_cons->yp,mem_cons_of_mem->yo,mem_cons_self->xB,mem_filter->kY,mem_map->yk5,mem_singleton->uG,range->Um
open Nat renaming le_refl->X,min_eq_left->zeu,not_lt_zero->uf,zero_le->zG
open Option renaming map_some->MH
open Option.some renaming inj->zR,injEq->vw
open Prod.mk renaming injEq->Yg
open Go renaming Program->Me,TypeId->uP,Value->zx,World->z7,laidMetH->Yf,reachBytes->ykz
open Go.Value renaming cells->Xl,okWide->WE,slice->yI
open Go.World renaming block_lt_of_cell?->Y
open Go.Proofs.Tryz
namespace Go.Proofs.YtfcemhlpdcnckaaGreatDoor
open Go Go.RowKit
set_option maxRecDepth 10000
end Go.Proofs.YtfcemhlpdcnckaaGreatDoor
namespace Go.Proofs.YtfcemhlpdcnckaaGreatDoor
open Go.ChangeShapes Go.WideShapes Go.ChangeAt Go.RowKit Go.Lib
set_option maxRecDepth 10000
variable{j n:Nat}{P:Me}{v v1:zx}{W w:z7}
def own:ownKnob prog.godebug=none:=yy
def etG:prog.globalNamed "errors.errorType" = some 0:=yy
def rtT:(prog.cutTypes.find? (·.1 == "internal/reflectlite.rtype")).map (·.2)=some 183:=yy
def yqk:((Um prog.types.size).filter λt=>prog.rowNamed t [101,114,114,111,114])=[49]:=yy
abbrev listed:List (String×DataW Unit):=Rows.compilesRow.laid
abbrev Gh:List (String×DataW Unit):=listed.filter λx=>x.2.handleName?.isNone
def YT(h:Yf prog listed W):laidMet prog Gh W/\handlesMet prog [("errors.errorType",Rows.laid_errors_errorType)] W:=h
def zcq(h:Yf prog listed W):Cn W:=by
 obtain⟨name,u,ty,e1,e2,e3,e4,e5⟩:=(YT h).2 _ (uG.2 rfl);have en:name=[101,114,114,111,114]:=(zR e1).symm;subst en;obtain rfl:=zR (rtT.symm.trans e2);have hm:ty∈(Um prog.types.size).filter λt=>prog.rowNamed t [101,114,114,111,114]:=kY.2 ⟨List.mem_range.2 e3,e4⟩
 rw[yqk]at hm;obtain rfl:=uG.1 hm;have hh:typeHandle prog 49=uw 49:=yy;rw[hh]at e5;unfold Cn;simpa using World.var?_cell etG e5 0
def iO:("unicode/utf8.first",Rows.laid_unicode_utf8_first)∈Gh:=kY.2 ⟨.tail _ (.tail _ (.tail _ (.tail _ (.tail _ (.tail _ (.tail _ (.tail _ (.tail _ (.head _))))))))),yy⟩
def WU:("unicode/utf8.acceptRanges",Rows.laid_unicode_utf8_acceptRanges)∈Gh:=kY.2 ⟨.tail _ (.tail _ (.tail _ (.head _))),yy⟩
def zu1:Rows.laid_unicode_utf8_first=firstData:=Pinned.utf8First_eq
def iP:(Rows.laid_unicode_utf8_acceptRanges:DataW Unit)=acceptData:=yy
def yqj:prog.globalNamed "unicode/utf8.first" = some 2:=yy
def zck:(prog.globals[2]?).map (·.type)=some 136:=yy
def zcj:prog.globalNamed "unicode/utf8.acceptRanges" = some 3:=yy
def zu2:(prog.globals[3]?).map (·.type)=some 139:=yy
def cU8:prog.cellsOf 5=1:=yy
def yqg:prog.cellsOf 136=256:=yy
def zu3:prog.cellsOf 138=2:=yy
def zcg(h:Yf prog listed W):XL 2 3 W:=by
 have hm:=(YT h).1;have h3:=gB hm iO;rw[zu1]at h3;have h4:=gB hm WU;rw[iP]at h4;constructor
 .intro c hc;obtain⟨g,t,cs,fuel,p,hg,hty,PQ,hd⟩:=h3;obtain rfl:=zR (yqj.symm.trans hg);obtain rfl:=zR (zck.symm.trans hty);have EO:=cells_of_tab underlying136 underlying5 cU8 yqg hd;rw[World.var?_cell hg PQ c,<-jL,EO];simp[firstTab,hc]
 .intro i hi;obtain⟨g,t,cs,fuel,p,hg,hty,PQ,hd⟩:=h4;obtain rfl:=zR (zcj.symm.trans hg);obtain rfl:=zR (zu2.symm.trans hty);obtain⟨yp4,d,q,hdi,he⟩:=array_elem underlying139 hd i hi;simp only[List.getElem?_map,List.getElem?_range hi,MH,vw]at hdi;subst hdi;rw[zu3]at he;have EO:=ints_of_struct underlying138 (λj f hj=>by
   match j,hj with
   | 0,hj=>simp at hj;subst hj;exact⟨underlying5,rfl,cU8⟩
   | 1,hj=>simp at hj;subst hj;exact⟨underlying5,rfl,cU8⟩
   |j+2,hj=>simp at hj) (by rw[zu3];rfl) he
  have e0:=congrArg (·[0]?) EO;have e1:=congrArg (·[1]?) EO;simp only[List.getElem?_take,MM]at e0 e1;refine⟨?_,?_⟩
  .rw[World.var?_cell hg PQ (2*i),<-jL];simpa[Nat.mul_comm]using e0
  .rw[World.var?_cell hg PQ (2*i+1),<-jL];simpa[Nat.mul_comm]using e1
def zcf(h:Yf prog listed W):zxy W:=⟨zcg h,zcq h⟩
def iR:("phrases/plural.Names",Rows.laid_phrases_plural_Names)∈Gh:=kY.2 ⟨.tail _ (.tail _ (.tail _ (.tail _ (.tail _ (.tail _ (.tail _ (.head _))))))),yy⟩
def iT:("phrases/code.forms",Rows.laid_phrases_code_forms)∈Gh:=kY.2 ⟨.tail _ (.tail _ (.tail _ (.tail _ (.tail _ (.tail _ (.tail _ (.tail _ (.head _)))))))),yy⟩
def yqf:prog.globalNamed "phrases/plural.Names" = some 1:=yy
def zcd:(prog.globals[1]?).map (·.type)=some 130:=yy
def yqd:prog.globalNamed "phrases/code.forms" = some 4:=yy
def zcb:(prog.globals[4]?).map (·.type)=some 231:=yy
def yp5:prog.cellsOf 9=1:=yy
def PK{nm:String}{ds:List (DataW Unit)}{g:Nat}{t:uP}(F:Nat->Wd)(h:Yf prog listed W)(hm:(nm,.agg ds)∈Gh)(hg:prog.globalNamed nm=some g)(hT:(prog.globals[g]?).map (·.type)=some t)(hu:prog.underlying t=some (.array n 9))
  (hF:∀j,j<n->ds[j]? = some (.lit (.string (F j)))):∀j,j<n->zy W g j (zv (F j)):=by
 intro j hj;obtain⟨g',t',cs,fuel,p,hg',hty,PQ,hd⟩:=gB (YT h).1 hm;obtain rfl:=zR (hg.symm.trans hg');obtain rfl:=zR (hT.symm.trans hty);obtain⟨yp4,d,q,hdi,he⟩:=array_elem hu hd j hj;rw[yp5]at he;obtain⟨s,hs,hx,_⟩:=DataW.trod_string underlying9 he;have hc:cs.toList[j]? = some (.string s):=by
  have:=congrArg (·[0]?) hs;simpa[List.getElem?_take,MM]using this
 rw[World.var?_cell hg PQ j,<-jL,hc];rw[hF j hj]at hdi;simp only[Yg]at hx;obtain⟨rfl,_⟩:=hx;simp only[vw,Hs,Lit.string.injEq]at hdi;rw[hdi]
def zu4(h:Yf prog listed W):kb W:=λj hj=>by
 rw[PK (λj=>(XW.getD j Mc).data.toList) h iR yqf zcd underlying130 (λj hj=>by(iterate 6 (rcases j with _|j;· rfl));omega) j hj]
def zu5(h:Yf prog listed W):gQ W :=
 PK YK h iT yqd zcb underlying231 (λj hj=>by(iterate 12 (rcases j with _|j;· rfl));omega)
def yqb(h:Yf prog listed W):Vl W:=⟨zcf h,zu4 h,zu5 h⟩
def mem_range:("strconv.ErrRange",Rows.laid_strconv_ErrRange)∈Gh:=kY.2 ⟨.tail _ (.tail _ (.tail _ (.tail _ (.tail _ (.head _))))),yy⟩
def WQ:("strconv.ErrSyntax",Rows.laid_strconv_ErrSyntax)∈Gh:=kY.2 ⟨.tail _ (.tail _ (.tail _ (.tail _ (.tail _ (.tail _ (.head _)))))),yy⟩
def yk0:prog.globalNamed "strconv.ErrRange" = some 6:=yy
def ze0:(prog.globals[6]?).map (·.type)=some 49:=yy
def ze1:prog.globalNamed "strconv.ErrSyntax" = some 5:=yy
def zu6:(prog.globals[5]?).map (·.type)=some 49:=yy
def zu7{H:Type}{enc:uP×zx->H}{base:Nat}{sp:Nat->Bool}{held:Bool}{fuel:Nat}{t:uP}{cs:List zx}{n:String}{d:DataW H}{p:List MemPlace}(ht:∃ms,P.underlying t=some (.interface ms))
  (h:E8 enc P w base sp held fuel t cs=some (.iface n d,p)):∃u v,cs=[.iface u v]:=by
 cases fuel with
 |zero=>simp[E8]at h
 |succ k =>
  unfold E8 at h;obtain⟨ms,ht⟩:=ht;rw[ht]at h;split at h<;>simp_all
def Bt{n:String}{g:Nat}{nm:String}{d:DataW Unit}(hg:prog.globalNamed n=some g)(hT:(prog.globals[g]?).map (·.type)=some 49)(h:VarReads prog W n (.iface nm d)) :
  ∃t v,zy W g 0 (.iface t v):=by
 obtain⟨g',t,cs,fuel,p,hg',hty,PQ,hd⟩:=h;obtain rfl:=zR (hg.symm.trans hg');obtain rfl:=zR (hT.symm.trans hty);obtain⟨u,v,EO⟩:=zu7 ⟨_,underlying49⟩ hd;refine⟨u,v,?_⟩;rw[World.var?_cell hg PQ 0,<-jL,EO];rfl
def yp6(h:Yf prog listed W):tN W :=
 ⟨Bt ze1 zu6 (gB (YT h).1 WQ),Bt yk0 ze0 (gB (YT h).1 mem_range)⟩
def yk1(h:Yf prog listed W):zu0 W:=⟨yqb h,yp6 h⟩
def Ki{H:Type}(t:uP):∀(ss:List ByteArray),(∀n∈FG P t (strs (H:=H) ss),n<=ykz)->∀s∈ss,s.size<=ykz
 |[],_,s,hs=>by cases hs
 |a::r,h,s,hs=>by
  have e:DataW.weightsAll P t (strs (H:=H) (a::r))=a.data.toList.length::DataW.weightsAll P t (strs (H:=H) r):=by simp[strs,DataW.weightsAll,DataW.weights]
  rw[e]at h;rcases yp.1 hs with rfl|hs
  .have:=h _ (xB ..);simpa using this
  .exact Ki t r (λn hn=>h n (yo _ hn)) s hs
def Ho{H:Type}{enc:uP×zx->H}{d:DataW H}{p:List MemPlace}{ts:List uP}{ds:List (DataW H)}(hval:WE prog W .any 0 22 v\/∃base,WE prog W .any base 22 v)
  (hx:iw enc prog W 0 (λ_=>true) true 22 v d p) (hwt:(DataW.weightsEach prog ts ds).all (· ≤ ykz)=true) (ht:ts[j]? = some 22) (hd:ds[j]? = some d) :
  ∃ws,yM W v ws/\ws.length<=140737488355328/\(∀m∈ws,m.length<=140737488355328)/\∀x∈p,x.block<(W:Nat):=by
 obtain⟨a1,l1,c1,rfl⟩:∃a l c,v = .slice a l c:=by
  rcases hval with h|⟨b,h⟩
  .exact okWide_slice underlying22 h
  .exact okWide_slice underlying22 h
 obtain⟨k1,Fv⟩:=hx;have hr:=reachBytes_lt;rcases open_strings underlying22 underlying9 yp5 Fv with⟨EO,hx⟩|⟨a,len,cap,ss,EO,hb,hl,hm,hz,hx,hc,dw⟩
 .have hv:yI a1 l1 c1 = .slice none 0 0:=by simpa[Xl]using EO
  rw[hv];exact⟨[],⟨none,0,rfl,X _,zG _,λ_=>rfl,λj h=>absurd h (uf j)⟩,zG _,(λm hm=>JV),λx hxp=>by simp only[Yg]at hx;rw[hx.2]at hxp;cases hxp⟩
 .have hv:yI a1 l1 c1 = .slice (some a) len cap:=by simpa[Xl]using EO
  rw[hv];simp only[if_true]at hz;simp only[Yg]at hx;have yk3:=DataW.weights_mem_each (P:=prog) ht hd;rw[hx.1]at yk3;simp only[DataW.weights,underlying22]at yk3;have Zw:∀n,n∈(((strs (H:=H) (ss.take len)).length+(strs (H:=H) (ss.drop len)).length)*prog.bytesOf 9::(FG prog 9 (strs (H:=H) (ss.take len))++FG prog 9 (strs (H:=H) (ss.drop len))))->n<=ykz:=λn hn=>by
   have:=Yl.1 hwt n (yk3 n hn);simpa using this
  have h1:=Zw _ (xB ..);rw[show prog.bytesOf 9=16 by kernel_rfl]at h1;simp[strs]at h1;have h2:=Ki (H:=H) (P:=prog) 9 (ss.take len) (λn hn=>Zw n (yo _ (xY.2 (.inl hn))));refine⟨(ss.take len).map (λs=>s.data.toList),⟨some a,cap,zV,zV,hm,(λq=>by cases q),λj hj=>⟨a,rfl,?_⟩⟩,zV,?_,?_⟩
  .have hj2:j<ss.length:=(by simp at hj;omega);rw[hc j hj2,List.getElem_map,ypu];simp[zv,zM,hj2]
  .intro m lY;obtain⟨s,hs,rfl⟩:=yk5.1 lY;have:=h2 s hs;exact Jd
  .intro x hxp;rw[hx.2]at hxp;obtain⟨i,hi,rfl⟩:=yk5.1 hxp;have lV:i<ss.length:=(by simpa using hi);have:=Y W _ (hc i lV);rw[addr_add]at this;simpa[MemPlace.block]using this
def cI:prog.cellsOf 3=1:=yy
def WK{H:Type}{enc:uP×zx->H}{base:Nat}{d1:DataW H}{p1:List MemPlace}(hv1:WE prog W .any base 23 v1)(h1:iw enc prog W 0 (λ_=>true) true 23 v1 d1 p1) :
  ∃xs,XZ W v1 xs/\∀W',zJ W W'->iw enc prog W' 0 (λb=>decide (b<(W:Nat))) true 23 v1 d1 p1:=by
 obtain⟨a1,l1,c1,rfl⟩:=okWide_slice underlying23 hv1;obtain⟨k1,Fv⟩:=h1;rcases open_ints underlying23 underlying3 cI Fv with⟨EO,hx⟩|⟨a,len,cap,zs,EO,hb,hl,hm,hz,hx,hc,hw⟩
 .have hv:yI a1 l1 c1 = .slice none 0 0:=by simpa[Xl]using EO
  rw[hv];simp only[Yg]at hx;obtain⟨rfl,rfl⟩:=hx;exact⟨[],⟨none,0,rfl,zG _,λj h=>absurd h (uf j)⟩,λW' _=>⟨1,by simp[E8,Xl,underlying23]⟩⟩
 .have hv:yI a1 l1 c1 = .slice (some a) len cap:=by simpa[Xl]using EO
  rw[hv];simp only[Yg]at hx;obtain⟨rfl,rfl⟩:=hx;simp only[if_true]at hz;have XS:∀j (h:j<(zs.take len).length),∃b,some a=some b/\W.cell? (b.add j)=some (.int .i64 (zs.take len)[j]):=by
   intro j h;have hj:j<zs.length:=Jq;refine⟨a,rfl,?_⟩;rw[hc j hj,ypu];simp[zM,hj]
  refine⟨zs.take len,⟨some a,cap,by rw[xr,zeu J],by rw[xr];omega,XS⟩,λW' Cm=>⟨2,?_⟩⟩;refine shut_ints 0 underlying23 underlying3 cI (zG _) hl hm ?_ ?_ hw
  .by_cases h0:0<cap
   .have ud:a.block<(W:Nat):=by
     have:=Y W _ (hc 0 J);rwa [block_add]at this
    simp[ud,hz]
   .simp[hz];omega
  .intro i hi;have h:=hc i hi;rw[Cm.cell (Y W _ h)];exact h
def Gw:Nat->DataW Unit->List zx
 | 0,_=>[]
 |_+1,.lit (.int k z)=>[.int k z]
 |_+1,.lit (.string b)=>[.string ⟨b.toArray⟩]
 |n+1,.agg parts=>parts.flatMap (Gw n)
 |_,_=>[]
noncomputable def Gk(os:Os):z7 :=
 let N:=(World.settled prog os).heap.size
 let w0:=World.holding prog os ⟨#[.cells #[.string ⟨#[118,97,108,117,101,32,111,117,116,32,111,102,32,114,97,110,103,101]⟩] 310,.cells #[.string ⟨#[105,110,118,97,108,105,100,32,115,121,110,116,97,120]⟩] 310],#[],[]⟩
 let put (h:Array Obj) (g:Nat) (cs:List zx):Array Obj:=h.modify g fun
  |.cells _ t frozen => .cells cs.toArray t frozen
  |o=>o
 let h1:=put w0.heap 0 [.iface 183 (.agg #[uw 49])]
 let h2:=put h1 1 (Gw 3 Rows.laid_phrases_plural_Names)
 let h3:=put h2 2 (Gw 3 Rows.laid_unicode_utf8_first)
 let h4:=put h3 3 (Gw 3 Rows.laid_unicode_utf8_acceptRanges)
 let h5:=put h4 6 [.iface 308 (N,0)]
 let h6:=put h5 5 [.iface 308 (N+1,0)]
 let h7:=put h6 8 (Gw 3 Rows.laid_internal_strconv_uint64pow10)
 let h8:=put h7 9 (Gw 3 Rows.laid_math_bits_deBruijn32tab)
 let h9:=put h8 10 (Gw 3 Rows.laid_math_bits_deBruijn64tab)
 let lz:=put h9 4 (Gw 3 Rows.laid_phrases_code_forms)
 { w0 with heap:=lz }
set_option maxRecDepth 1000000 in
def zu8(os:Os)(args:Array zx):Yf prog listed ((Gk os).forCall (λ_ _=>0) ⟨#[],args,[]⟩).memory :=
 laidMetH_of_parts (laidMet_of_run' 8 yy yy) yy
end Go.Proofs.YtfcemhlpdcnckaaGreatDoor
