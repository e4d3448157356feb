import Derived.Test.YtfcemhlpdcnckaaGreatDoorJG2
import Derived.Laws.Externs
import Derived.Lib.BufferMore
import Derived.Shelf.SlicesE.Reverse
import Derived.Lib.Bytealg
import Derived.Deep.LoopGhost
import Derived.Maps.AppendAt
set_option linter.defProp false
set_option maxHeartbeats 64000000
open Go.Act renaming put->ZP
open Go renaming Addr->yi,Calls->zE,Ending->gG,Oper->fG,Program->Me,TypeId->uP,Value->zx,World->z7,bodyPost_ret->zU,results->yk
open Go.Addr renaming add->xM
open Go.AllReadyH renaming cons->uv,nil->Ye
open Array renaming getElem?_modify->Zt
open Go.RowKit renaming Below->yX
open Go.RowKit.Below renaming heap_alloc->xA,heap_setCell->zh,refl->z8
open Bool renaming and_eq_true->zQ,eq_iff_iff->vF,false_and->Hr,or_assoc->lI,true_and->ze8
open ByteArray renaming mk->jW
open Go.Extern.BytealgCompare renaming cmp->im,compare->Yn
open Go.Extern.Bytes renaming bytesOf->Ym,loadBytes->xv0
open Go.Instr renaming makeFunc->gP
open Go.Lib renaming atoiAll->Gj,bytesOf->bT,compareBytes->zez,decFrom->zey,hid->Z
open List renaming all_append->ie,all_cons->kP,all_eq_true->Yl,any_eq_true->Mn,append_nil->vu,cons_append->yw,dropWhile_cons_of_neg->uS,dropWhile_cons_of_pos->kj,dropWhile_sublist->dh,drop_of_length_le->yq,eq_nil_of_length_eq_zero->zF,foldl_cons->QA,getElem?_append_left->qM,getElem?_append_right->zc,getElem?_eq_getElem->zw,getElem?_eq_none->Xe,getElem?_eq_some_iff->vq,getElem_append_left->lH,getElem_mem->xd,length->qj,length_append->zI,length_pos_iff->xI,map_cons->ve,map_nil->YW,mem_map->yk5,mem_of_mem_tail->vB,mem_reverse->zk4,nil_append->kr,setIfInBounds_toArray->yb,set_cons_succ->xq,set_cons_zero->xu,take_length->kp,take_of_length_le->xJ,take_succ_eq_append_getElem->zr
open Nat renaming add_sub_cancel->Vs,le_refl->X,le_succ->bG,le_trans->zZ,lt_of_lt_of_le->ze,lt_succ_self->xf,mul_le_mul->Gf,not_lt_zero->uf,pow_le_pow_right->zux,zero_add->V9,zero_le->zG
open Go.Op renaming bytesLess->gV
open Option renaming map_some->MH
open Option.some renaming inj->zR,injEq->vw
open Prod.mk renaming injEq->Yg
open Go.Result renaming andThen->xO
open Go.Sem renaming run_bind->gF
open Go.Sort renaming ahead->lL
open UInt8 renaming toNat_inj->Ul,toNat_ofNat'->vO
open Go.Value renaming int->yF,ownBlock->qb,slice->yI
open Go.Value.slice renaming injEq->F4
open Go.World renaming block_lt_of_cell?->Y,cell?_alloc_lt->za,cell?_alloc_some->dB,cell?_of_block->yZ,cell?_setCell_other->yx,cell?_setCell_same->uk,frozen?_of_block->zb,ownsRow_lit->znu,ownsRow_nil->yr,setCell->xW
open Go.World.ownsRow renaming drew->bS
open Go.Proofs.Tryz
namespace Go.Proofs.YtfcemhlpdcnckaaGreatDoor
open Go Go.RowKit
set_option maxRecDepth 10000
end Go.Proofs.YtfcemhlpdcnckaaGreatDoor
namespace Go.Proofs.YtfcemhlpdcnckaaGreatDoor
open Go
set_option maxRecDepth 10000
variable{wi:Bool}{Vx t:List Wd}{n:Nat}
def ED(l:List Wd)(a f:Wd)(h:l.length<2):xm l a f=none:=by
 have b:∀a f wi one,uj [] a f wi one=none:=by
  intro a f wi one;unfold uj;have:yY [44] []=[[]]:=rfl;rw[this];split
  .rfl
  .rfl
 match l,h with
 |[],_=>rfl
 |[k],_ =>
  unfold xm;have d:∀n,n≠0->List.drop n [k]=([]:List Wd):=λn h=>by
   cases n with
   |zero=>exact absurd rfl h
   |succ m=>simp
  cases hm:zH ([k].getD 0 []) ([k].getD 1 []) with
  |mk e q=>cases q with
   |mk wi q=>cases q with
    |mk one n =>
     dsimp only;by_cases c:n=0
     .rw[zl c]
     .rw[zL c,d n c,b];rfl
def Uu(u:List Wd)(a f:Wd)(c wi:Bool)(n:Nat)(hn:n≠0)(one:Bool)(l:List Wd)(h:zH (u.getD 0 []) (u.getD 1 [])=(c,wi,one,n))(d:u.drop n=l) :
  xm u a f=(uj l a f wi one).map (λb=>b !=c):=by
 unfold xm;rw[h];dsimp only;rw[zL hn,d]
def NF{u rest:List Wd}{c:Bool}(hn:n≠0)(hm:zH (u.getD 0 []) (u.getD 1 [])=(c,wi,false,n))(hd:u.drop n=Vx)(b:∀x∈Vx,x∈u)(hr:Stop rest) :
  ZI ((qF wi (Vx++rest)).map λq=>((q.1,c),q.2)) u rest (λ(i:gx×Bool)=>∀a f,xm u a f=some (i.1 (a,f) !=i.2)) (∀a f,xm u a f=none):=by
 refine(((cV wi Vx rest hr).wider b).map (λT=>(T,c)) ?_).imp (λ_ q=>q) ?_
 .intro T d a f;rw[Uu u a f c wi n hn false Vx hm hd,d];rfl
 .intro d a f;rw[Uu u a f c wi n hn false Vx hm hd,d];rfl
def LC{u rest:List Wd}{c:Bool}(hn:n≠0)(hm:zH (u.getD 0 []) (u.getD 1 [])=(c,false,true,n))(hd:u.drop n=Vx)(b:∀x∈Vx,x∈u)(hr:Stop rest) :
  ZI ((uE (Vx++rest)).map λq=>((uA q.1 q.1 false,c),q.2)) u rest (λ(i:gx×Bool)=>∀a f,xm u a f=some (i.1 (a,f) !=i.2)) (∀a f,xm u a f=none):=by
 refine(((zgv Vx rest hr).wider b).map (λv=>(uA v v false,c)) ?_).imp (λ_ q=>q) ?_
 .intro T d a f;rw[Uu u a f c false n hn true Vx hm hd,d];rfl
 .intro d a f;rw[Uu u a f c false n hn true Vx hm hd,d];rfl
def Kf{u:List Wd}(h:(zH (u.getD 0 []) (u.getD 1 [])).2.2.2=0)(a f:Wd):xm u a f=none:=by
 unfold xm;cases hm:zH (u.getD 0 []) (u.getD 1 []) with
 |mk b q=>cases q with
  |mk wi q=>cases q with
   |mk one n =>
    rw[hm]at h;dsimp only at h|-;rw[zl h]
def SX(u rest:List Wd)(hr:Stop rest) :
  ZI (ya (u++rest)) u rest (λ(i:gx×Bool)=>∀a f,xm u a f=some (i.1 (a,f) !=i.2)) (∀a f,xm u a f=none):=by
 have g:=hr.three;have w1:=Zf (w:=[61]) g zj zj zj;have w2:=Zf (w:=[33,61]) g zj (by decide) (by decide);have w3:=Zf (w:=[105,115]) g (by decide) (by decide) (by decide);have m:=Zf (w:=[110,111,116]) g (by decide) (by decide) (by decide);have o:=Zf (w:=[119,105,116,104,105,110]) g (by decide) (by decide) (by decide);have p:=Zf (w:=[105,110]) g (by decide) (by decide) (by decide);match u with
 |[] =>
  refine .inr ⟨λa f=>Kf zj a f,.inl ?_⟩;simp[ya,w1,w2,w3,m,o,p]
 |k::b =>
  have g0:(k::b).getD 0 []=k:=rfl;by_cases k1:k=[61]
  .subst k1;have e:ya ([61]::b++rest)=(qF false (b++rest)).map λq=>((q.1,false),q.2):=by simp[ya,vy]
   exact Lz
  by_cases k2:k=[33,61]
  .subst k2;have e:ya ([33,61]::b++rest)=(qF false (b++rest)).map λq=>((q.1,true),q.2):=by simp[ya,vy]
   exact Lz
  by_cases k3:k=[105,110]
  .subst k3;have e:ya ([105,110]::b++rest)=(qF false (b++rest)).map λq=>((q.1,false),q.2):=by simp[ya,vy]
   exact Lz
  by_cases k4:k=[119,105,116,104,105,110]
  .subst k4;have e:ya ([119,105,116,104,105,110]::b++rest)=(qF true (b++rest)).map λq=>((q.1,false),q.2):=by simp[ya,vy]
   exact Lz
  by_cases j:k=[105,115]
  .subst j;match b with
   |[] =>
    have e:ya ([[105,115]]++rest)=(uE ([]++rest)).map λq=>((uA q.1 q.1 false,false),q.2):=by simp[ya,vy,m]
    rw[e];exact LC (n:=1) zj (by simp[zH]) zY (λx h=>by simp at h) hr
   |z::v =>
    by_cases c:z=[110,111,116]
    .subst c;have e:ya ([105,115]::[110,111,116]::v++rest)=(uE (v++rest)).map λq=>((uA q.1 q.1 false,true),q.2):=by simp[ya,vy]
     rw[e];exact LC (n:=2) zj (by simp[zH]) zY (λx h=>by simp[h]) hr
    .have r:(z==[110,111,116])=false:=(by simpa using c);have e:ya ([105,115]::z::v++rest)=(uE ((z::v)++rest)).map λq=>((uA q.1 q.1 false,false),q.2):=by simp[ya,vy,r]
     rw[e];exact LC (n:=1) zj (by simp[zH,c]) zY (λx h=>by simp at h;simp[h]) hr
  by_cases l:k=[110,111,116]
  .subst l;match b with
   |[] =>
    refine .inr ⟨λa f=>Kf zj a f,.inl ?_⟩;simp[ya,vy,o,p]
   |z::v =>
    by_cases c:z=[105,110]
    .subst c;have e:ya ([110,111,116]::[105,110]::v++rest)=(qF false (v++rest)).map λq=>((q.1,true),q.2):=by simp[ya,vy]
     exact sQ
    by_cases d:z=[119,105,116,104,105,110]
    .subst d;have e:ya ([110,111,116]::[119,105,116,104,105,110]::v++rest)=(qF true (v++rest)).map λq=>((q.1,true),q.2):=by simp[ya,vy]
     exact sQ
    .refine .inr ⟨λa f=>Kf (by simp[zH,c,d]) a f,.inl ?_⟩;simp[ya,vy,c,d]
  .refine .inr ⟨λa f=>Kf (by simp[zH,k1,k2,k3,k4,j,l]) a f,.inl ?_⟩;simp[ya,vy,k1,k2,k3,k4,j,l]
def Good(x:Dg):Prop:=uY x.1=x.1
def Qd{x:Dg}(h:Good x)(c:Wd):uX x.1 x.2 c=(xF c).map (λf=>f x):=by
 unfold uX xF;split
 .rfl
 split
 .show some (x.1,[])=some (uY x.1,[]);rw[show uY x.1=x.1 from h]
 split
 .rfl
 split
 .rfl
 split
 .rfl
 split
 .rfl
 .rfl
def Ff{c:Wd}(h:xF c=none)(x:Dg):uX x.1 x.2 c=none:=by
 unfold xF at h;unfold uX;split at h
 .cases h
 split at h
 .cases h
 split at h
 .cases h
 split at h
 .cases h
 split at h
 .cases h
 split at h
 .cases h
 .rename_i h1 h2 a b d e;rw[zL h1,zL h2,zL a,zL b,zL d,zL e]
def NW{s:List Wd}(h:xF (s.headD [])=none)(x:Dg):bN s x=none:=by
 unfold bN;rw[Ff h x];split<;>rfl
def EB{w:Wd}{of:Dg->Dg}(b:xF w=some of)(hm:Y5 (t.headD [])=false){x:Dg}(hx:Good x):bN (w::t) x=xm t (of x).1 (of x).2:=by
 unfold bN;have a:(w::t).headD []=w:=rfl;have h1:(w::t).getD 1 []=t.headD []:=by cases t<;>rfl
 rw[a,Qd hx,b,h1,hm];by_cases hl:(w::t).length<3
 .rw[zl hl,ED t _ _ IY]
 .rw[zL hl];simp
def zgu{w c m:Wd}{u:List Wd}{of:Dg->Dg}(d:xF w=some of)(hm:Y5 c=true){x:Dg}(hx:Good x)(hf:vW m=true)(a:m≠[48]) :
  bN (w::c::m::u) x=xm u (xv (j9 (of x).1 (xG m))) (of x).2:=by
 unfold bN;have b:(w::c::m::u).headD []=w:=rfl;have h1:(w::c::m::u).getD 1 []=c:=rfl;have h2:(w::c::m::u).getD 2 []=m:=rfl;rw[b,Qd hx,d,h1,h2,hm,zL zY];dsimp only[MH];rw[zl rfl];by_cases hl:5<=(w::c::m::u).length
 .rw[zl ⟨hf,a,hl⟩];rfl
 .rw[zL (λq=>hl q.2.2),ED u _ _ IY]
def VB{w c:Wd}{of:Dg->Dg}(b:xF w=some of)(hm:Y5 c=true){x:Dg}(hx:Good x)(hb:¬(vW (t.headD [])=true/\t.headD []≠[48])) :
  bN (w::c::t) x=none:=by
 unfold bN;have a:(w::c::t).headD []=w:=rfl;have h1:(w::c::t).getD 1 []=c:=rfl;have h2:(w::c::t).getD 2 []=t.headD []:=by cases t<;>rfl
 rw[a,Qd hx,b,h1,h2,hm];split
 .rfl
 .dsimp only[MH];rw[zl rfl,zL (λq=>hb ⟨q.1,q.2.1⟩)]
def val_zero{m:Wd}(h:vW m=true):xG m=0 ↔ m=[48]:=by
 have hf:=(CC.of h).1;constructor
 .intro e;have:=hf.val;rw[e]at this;rw[<-this,qx zj];rfl
 .rintro rfl;rfl
def cK{rest:List Wd}(h:Stop rest):Y5 (rest.headD [])=false:=by
 cases rest with
 |nil=>rfl
 |cons c t =>
  rcases h c rfl with rfl|rfl<;>rfl
def Dl{u rest:List Wd}{a:Dg->Dg}(hr:Stop rest)(c:∀x∈u,x∈Vx)(hrel:∀x,Good x->bN Vx x=xm u (a x).1 (a x).2) :
  ZI (match ya (u++rest) with
    |none=>none
    |some ((i,d),v)=>some ((λx=>i (a x) !=d),v)) Vx rest (λT=>∀x,Good x->bN Vx x=some (T x)) (∀x,Good x->bN Vx x=none):=by
 rcases (SX u rest hr) with⟨⟨i,d⟩,b,e⟩|⟨hb,b|⟨⟨i,d⟩,h,t,hm,b⟩⟩
 .refine .inl ⟨_,by rw[b],λx hx=>?_⟩;rw[hrel x hx,e]
 .exact .inr ⟨λx hx=>by rw[hrel x hx,hb],.inl (by rw[b])⟩
 .exact .inr ⟨λx hx=>by rw[hrel x hx,hb],.inr ⟨_,h,t,c h hm,by rw[b]⟩⟩
def zgq(s rest:List Wd)(hr:Stop rest) :
  ZI (bI (s++rest)) s rest (λT=>∀x,Good x->bN s x=some (T x)) (∀x,Good x->bN s x=none):=by
 match s with
 |[] =>
  refine .inr ⟨λx _=>rfl,.inl ?_⟩;cases rest with
  |nil=>rfl
  |cons c t =>
   have:xF c=none:=(by rcases hr c rfl with rfl|rfl<;>decide);simp[bI,this]
 |w::t =>
  cases a:xF w with
  |none=>exact .inr ⟨λx _=>NW (s:=w::t) a x,.inl (by simp[bI,a])⟩
  |some of =>
   have hp:bI (w::t++rest)=match Us of (t++rest) with
     |none=>none
     |some (g,u)=>match ya u with
      |none=>none
      |some ((i,j),v)=>some ((λx=>i (g x) !=j),v):=by
    rw[yw,bI,a]<;>rfl
   rw[hp];match t with
   |[] =>
    have:Us of ([]++rest)=some (of,[]++rest):=(by unfold Us;rw[kr,cK hr];rfl);rw[this];exact Dl hr (λx h=>JC) (λx hx=>EB a rfl hx)
   |c::t' =>
    by_cases hc:Y5 c=true
    .have b:Us of (c::t'++rest)=match uE (t'++rest) with
       |none=>none
       |some (m,u)=>if m=0 then none else some (RI of m,u):=by
      unfold Us;rw[show((c::t'++rest).headD [])=c from rfl,hc,zl rfl];rfl
     rw[b];match t' with
     |[] =>
      rw[kr,Kj hr.three];exact .inr ⟨λx hx=>VB a hc hx zj,.inl rfl⟩
     |m::u =>
      by_cases hf:vW m=true
      .have hn:uE (m::u++rest)=some (xG m,u++rest):=(by simp[uE,hf]);rw[hn];dsimp only;by_cases f:m=[48]
       .rw[zl ((val_zero hf).2 f)];exact .inr ⟨λx hx=>VB a hc hx (λq=>q.2 f),.inl rfl⟩
       .rw[zL (λe=>f ((val_zero hf).1 e))];exact Dl hr (λx h=>Uw) (λx hx=>zgu a hc hx hf f)
      .have hn:uE (m::u++rest)=none:=(by simp[uE,hf]);rw[hn];exact .inr ⟨λx hx=>VB a hc hx (λq=>hf q.1),.inl rfl⟩
    .have d:Y5 c=false:=(by simpa using hc);have b:Us of (c::t'++rest)=some (of,c::t'++rest):=by
      unfold Us;rw[show((c::t'++rest).headD [])=c from rfl,d];rfl
     rw[b];exact Dl hr (λx h=>by simp at h;simp[h]) (λx hx=>EB (t:=c::t') a d hx)
def YJ(c:Bool->Bool->Bool)(ev:List Wd->Dg->Option Bool)(x:Dg):List (List Wd)->Bool->Option Bool
 |[],b=>some b
 |s::t,b=>match ev s x with
  |none=>none
  |some h=>YJ c ev x t (c b h)
def LH(m:Wd)(stop:Wd->Prop)(one:Parser)(ev:List Wd->Dg->Option Bool)(c:Bool->Bool->Bool)
  (d:∀s rest,m ∉ s->(∀w∈s,¬stop w)->(∀w,rest.head? = some w->w=m\/stop w)->ZI (one (s++rest)) s rest (λT=>∀x,Good x->ev s x=some (T x)) (∀x,Good x->ev s x=none)) (hm:¬stop m) :
  ∀(n:Nat) (Vx rest:List Wd) (acc:List gx),Vx.length<n->(∀w∈Vx,¬stop w)->(∀w,rest.head? = some w->stop w) ->
   ZI (qs m one n acc (Vx++rest)) Vx rest (λts=>∃new,ts=acc++new/\∀x,Good x->∀b,YJ c ev x (yY m Vx) b=some (new.foldl (λb T=>c b (T x)) b))
    (∀x,Good x->∀b,YJ c ev x (yY m Vx) b=none)
 | 0,_,_,_,h,_,_=>absurd h (uf _)
 |n+1,Vx,rest,acc,hl,hs,hr=>by
  have i:Zg m rest=false:=by
   cases rest with
   |nil=>rfl
   |cons w t =>
    rw[vy,beq_eq_false_iff_ne];rintro rfl;exact hm (hr w rfl)
  rcases Uv m Vx with hc|⟨s,r,rfl,f⟩
  .rw[dv hc];rcases d Vx rest hc hs (λw hw => .inr (hr w hw)) with⟨T,hq,j⟩|⟨hb,hq|⟨T,h,t,a,hq⟩⟩
   .refine .inl ⟨acc++[T],by rw[qs,hq];simp[i],[T],rfl,λx hx b=>?_⟩;rw[YJ,j x hx];rfl
   .exact oJ
   .refine .inr ⟨λx hx b=>by rw[YJ,hb x hx],.inr ⟨acc++[T],h,t,a,?_⟩⟩;have g:¬h=m:=λe=>hc (e▸a)
    rw[qs,hq];simp[vy,g]
  .rw[Ux r f];have k:s++m::r++rest=s++(m::(r++rest)):=(by simp);rw[k];rcases d s (m::(r++rest)) f (λw hw=>hs w (by simp[hw])) (λw hw => .inl (by simpa using hw.symm)) with⟨T,hq,j⟩|⟨hb,hq|⟨T,h,t,a,hq⟩⟩
   .have o:=LH m stop one ev c d hm n r rest (acc++[T]) IY (λw hw=>hs w (by simp[hw])) hr;have l:qs m one (n+1) acc (s++m::(r++rest))=qs m one n (acc++[T]) (r++rest):=by
     rw[qs,hq];simp[vy]
    rw[l];refine(o.imp ?_ ?_).wider (λx hx=>by simp[hx])
    .rintro ts ⟨new,rfl,hn⟩;refine⟨T::new,zY,λx hx b=>?_⟩;rw[YJ,j x hx];dsimp only;rw[hn x hx];rfl
    .intro hn x hx b;rw[YJ,j x hx];dsimp only;rw[hn x hx]
   .exact oJ
   .refine .inr ⟨λx hx b=>by rw[YJ,hb x hx],.inr ⟨acc++[T],h,t++m::r,by simp[a],?_⟩⟩;have g:¬h=m:=λe=>f (e▸a)
    rw[qs,hq];simp[vy,g]
def NA(x:Dg):∀(l:List gx) (b:Bool),l.foldl (λb T=>b && T x) b=(b && allT l x)
 |[],b=>by simp[allT]
 |T::l,b=>by rw[QA,NA x l];simp[allT,Bool.and_assoc]
def Aj(x:Dg):∀(l:List gx) (b:Bool),l.foldl (λb T=>b ||T x) b=(b ||gv l x)
 |[],b=>by simp[gv]
 |T::l,b=>by rw[QA,Aj x l];simp[gv,lI]
def Dm(x:Dg):∀(l:List (List Wd)) (b:Bool),kU x l b=YJ (λa b=>a && b) bN x l b
 |[],b=>rfl
 |s::t,b=>by
  rw[kU,YJ];cases bN s x with
  |none=>rfl
  |some h=>exact Dm x t _
def Na(o:List Wd)(x:Dg):Option Bool:=kU x (yY tu o) true
def LI(x:Dg):∀(l:List (List Wd)) (b:Bool),gI x l b=YJ (λa b=>a ||b) Na x l b
 |[],b=>rfl
 |s::t,b=>by
  rw[gI,YJ];show _=match Na s x with|none=>none|some h=>_
  unfold Na;cases kU x (yY [97,110,100] s) true with
  |none=>rfl
  |some h=>exact LI x t _
def zgk(o rest:List Wd)(hs:∀w∈o,¬w=wOr)(hr:∀w,rest.head? = some w->w=wOr) :
  ZI (De (o++rest)) o rest (λT=>∀x,Good x->Na o x=some (T x)) (∀x,Good x->Na o x=none):=by
 have h:=LH tu (λw=>w=wOr) bI bN (λa b=>a && b) (λs rest _ _ h=>zgq s rest h) zj ((o++rest).length+1) o rest [] zV hs hr;unfold De Dc;refine(h.map allT ?_).imp (λ_ q=>q) ?_
 .rintro ts ⟨new,rfl,hn⟩ x hx;unfold Na;rw[Dm,hn x hx,NA];simp
 .intro hn x hx;unfold Na;rw[Dm,hn x hx]
def zr9(ws:List Wd):ZI (pOr ws) ws [] (λT=>∀x,Good x->gI x (yY wOr ws) false=some (T x)) (∀x,Good x->gI x (yY wOr ws) false=none):=by
 have h:=LH wOr (λ_=>False) De Na (λa b=>a ||b) (λs rest hm _ h=>zgk s rest (λw hw e=>hm (e▸hw)) (λw hw=>(h w hw).elim id False.elim)) (λq=>q) (ws.length+1) ws [] [] J (λ_ _ q=>q) (λw hw=>by cases hw);rw[vu]at h;unfold pOr Dc;refine(h.map gv ?_).imp (λ_ q=>q) ?_
 .rintro ts ⟨new,rfl,hn⟩ x hx;rw[LI,hn x hx,Aj];simp
 .intro hn x hx;rw[LI,hn x hx]
def tj(s:List UInt8){x:Dg}(hx:Good x):JT s x=(VD s).map (λT=>T x):=by
 unfold JT VD;by_cases h:200<s.length
 .rw[zl h,zl h];rfl
 .rw[zL h,zL h,Aq];cases Y6 s with
  |none=>rfl
  |some ws =>
   dsimp only;rcases zr9 ws with⟨T,a,b⟩|⟨hb,a|⟨T,h,t,hm,a⟩⟩
   .rw[a,b x hx];rfl
   .rw[a,hb x hx];rfl
   .rw[a,hb x hx];rfl
end Go.Proofs.YtfcemhlpdcnckaaGreatDoor
namespace Go.Proofs.YtfcemhlpdcnckaaGreatDoor
open Go Go.RowKit
set_option maxRecDepth 10000
variable{w w':z7}
def SV{b:yi}{x:Int}{l:List Int}(h:yc w (some b) (x::l)):w.cell? b=some (.int .u8 x):=by
 obtain⟨c,hc,hx⟩:=h 0 zY;cases hc;simpa[xM]using hx
def SU{b:yi}{x:Int}{l:List Int}(h:yc w (some b) (x::l)):yc w (some (b.add 1)) l:=λj a=>by
 obtain⟨c,hc,hx⟩:=h (j+1) zV;cases hc;refine⟨_,rfl,?_⟩;rw[add_add,Nat.add_comm 1 j];simpa using hx
def yc.below{a:Option yi}{l:List Int}(h:yc w a l)(hb:zJ w w'):yc w' a l:=λj c=>by
 obtain⟨b,h1,h2⟩:=h j c;refine⟨b,h1,?_⟩;exact ow
def Zl(w:z7)(a:Option yi):yc w a []:=λj b=>absurd b (uf j)
def Nc(a:Option yi)(l:List Int)(w:z7)(e:gG)(w':z7):Prop :=
 (∃a' zgj,e = .returned (.slice a' (l.dropWhile (· == 0)).length zgj)/\yc w a' (l.dropWhile (· == 0))/\(l.dropWhile (· == 0)).length<=zgj/\(∀q,a'=some q->∃p,a=some p/\q.block=p.block))/\w'=w
def Jc(l:List Int)(a:Option yi)(cap:Nat)(w:z7)(C:l.length<=1000000)(i:l.length<=cap)(z:cap<=9223372036854775807)(hB:yc w a l) :
  zE prog 190 #[.slice a l.length cap,.int .u8 0] w (Nc a l w):=by
 go_enter func190,ntmps190;go_wp2;go_loop [0] (λv=>∃(a':Option yi) (c:Nat) (r:List Int),v = .slice a' r.length c/\r.length<=c/\c<=9223372036854775807/\r.length<=1000000/\yc w a' r/\r.dropWhile (· == 0)=l.dropWhile (· == 0)/\(∀q,a'=some q->∃p,a=some p/\q.block=p.block)) (λv=>match v with |.slice _ n _=>n|_=>0)
 case atStart=>exact⟨a,cap,l,rfl,i,z,C,hB,rfl,λq h=>⟨q,h,rfl⟩⟩
 case round =>
  obtain⟨a',c,r,rfl,h1,h2,A,g,hd,B⟩:=hrel;have f:=Z hd;have m:=Z g;have u:=Z B;clear hd g B;cases r with
  |nil =>
   go_wp2;go_ret;refine⟨⟨none,0,?_,?_,?_,λq h=>xp⟩,rfl⟩
   .rw[<-f.o];rfl
   .rw[<-f.o];exact Zl _ _
   .rw[<-f.o];exact VX
  |cons x t =>
   have hx:=m.o 0 zY;obtain⟨b,rfl,k⟩:=hx;have F:=SV m.o;have d:(x::t).length=t.length+1:=rfl;clear k;by_cases s:x=0
   .subst s;by_cases y:c=1
    .have E:t=[]:=by
      apply zF;rw[d]at h1;omega
     subst E;subst y;go_wp2;refine⟨⟨some b,0,[],rfl,X _,zj,zj,Zl _ _,?_,u.o⟩,?_⟩
     .rw[<-f.o];rfl
     .show 0<[0].length;simp
    .have e1:((0:Int)<=(t.length+1:Nat) - 1):=(by omega);have D:¬(c:Int)=1:=J;rw[d]at h1 A|-;go_wp2;refine⟨⟨some (b.add 1),c - 1,t,rfl,J,J,J,SU m.o,?_,λq h=>?_⟩,?_⟩
     .rw[<-f.o];rfl
     .cases h;exact u.o b rfl
     .show t.length<t.length+1;omega
   .have k:(x==0)=false:=(by simpa using s);rw[d]at h1 A|-;have j:l.dropWhile (· == 0)=x::t:=(by rw[<-f.o,uS (by simpa using s)]);have e:=Z j;clear j s;go_wp2;go_ret;refine⟨⟨some b,c,?_,?_,?_,u.o⟩,rfl⟩
    .rw[e.o];rfl
    .rw[e.o];exact m.o
    .rw[e.o];simpa using h1
def LL(l:List Int)(a:Option yi)(cap:Nat)(w:z7)(s:l.length<=1000000)(b:l.length<=cap)(d:cap<=9223372036854775807)(hB:yc w a l) :
  zE prog 174 #[.slice a l.length cap,.string ⟨#[0]⟩] w (Nc a l w):=by
 have m:=Z hB;clear hB;by_cases c:l=[]
 .subst c;go_enter func174,ntmps174;go_wp2;go_ret;exact⟨⟨none,0,rfl,Zl _ _,X _,λq h=>xp⟩,rfl⟩
 .obtain⟨n,hn⟩:∃n,l.length=n+1:=⟨l.length - 1,by have:=xI.2 c;omega⟩;have h1:((l.length:Int)==0)=false:=by simp;omega
  have i:=Jc l a cap w s b d m.o;have p:=Z i;clear i c hn;go_enter func174,ntmps174;go_wp2_with fail;refine p.o.mono ?_;rintro e w1 ⟨⟨a',f,rfl,h2,r,g⟩,rfl⟩;have j:=Z h2;have k:=Z g;clear h2 g;go_wp2;go_ret;exact⟨⟨_,_,rfl,j.o,r,k.o⟩,rfl⟩
def Rv(l:List UInt8):jO l=(vJ l).map (Value.int .u8):=by simp[jO,vJ]
def cJ(l:List UInt8)(a:yi)(cap:Nat)(w:z7)(k:l.length<=1000000)(hB:yc w (some a) (vJ l)) :
  zE prog 175 #[.slice (some a) l.length cap] w λe w'=>(∃v,e = .returned v/\w'.ownsRow (w:Nat) 5 1 v l.length (jO l))/\zJ w w':=by
 have h:=Z hB;clear hB;have g:∀W,(binOp .eql 180 (.slice (some a) l.length cap) (.slice none 0 0)).run prog W = .ok (.bool false) W:=λW=>Lib.run_eql_slice_some_nil W _ _ _ underlying180
 go_enter func175,ntmps175;go_wp2_with (at_builtin;refine vY qG rfl _ _ rfl (w:Nat) _ 0 [] rfl (by exact znu w _ 0 (X _) zj rfl) a l.length cap (jO l) rfl (by simp[jO]) ?c2 ?c3 J zY ?_)
 case c2 =>
  intro j u hu;have hj:j<(vJ l).length:=oR;obtain⟨b,hb,hc⟩:=h.o j hj;cases hb;rw[dB _ _ _ (by rw[hc];rfl),hc];exact og
 case c3 =>
  exact oG
 intro v' w1 f d;have hb:zJ w w1:=((z8 _ _).alloc (X _) _).grown d zY (λq i=>by cases i;exact X _);clear d;go_wp2;go_ret;exact⟨⟨_,rfl,by simpa using f⟩,hb⟩
end Go.Proofs.YtfcemhlpdcnckaaGreatDoor
namespace Go.Proofs.YtfcemhlpdcnckaaGreatDoor
open Go Go.RowKit Go.Shelf Go.Sort
set_option maxRecDepth 10000
variable{xs:List zx}{B cap d n:Nat}{e:uP}{w:z7}
def cG{base g:Nat}{zs:List Int}(h:w.ownsRow base e 1 (.slice (g,0) zs.length cap) zs.length (zs.map (yF .u8))):Holds (yF .u8) w g 0 zs.toArray:=by
 intro j hj;have hj':j<zs.length:=D9;refine⟨?_,?_⟩
 .rw[V9,h.cellAt j J];simp[hj',getElem!_pos]
 .exact h.frozenAt _
def SQ{base g:Nat}{zs:List Int}(h:w.ownsRow base e 1 (.slice (g,0) n cap) n xs)(hz:zs.length=n) :
  (putRow (yF .u8) w g 0 zs.toArray).ownsRow base e 1 (.slice (g,0) n cap) n (zs.map (yF .u8)):=by
 refine⟨by simp[hz],?_⟩;rcases h.2 with⟨hv,_⟩|⟨g2,IN,cur,hv,hg,hh,h1,h2,h3,ht⟩
 .cases hv
 .simp only[F4,vw,Addr.mk.injEq]at hv;obtain⟨⟨rfl,-⟩,-,rfl⟩:=hv;refine .inr ⟨g,cap,putCells (yF .u8) 0 zs.toArray cur,rfl,hg,?_,h1,h2,by simpa[putCells]using h3,?_⟩
  .simp[putRow,mapBlock,Zt,hh,onCells]
  .apply List.ext_getElem?;intro j;by_cases hj:j<n
   .have hjc:j<cur.size:=(by omega);simp[putCells,List.getElem?_take,hj,hjc,hz]
   .rw[Xe zV,Xe zV]
def LN{a:z7}(h:yX B a w){g:Nat}(hg:B<=g)(d:Array Int):yX B a (putRow (yF .u8) w g 0 d):=by
 refine h.trans ⟨rfl,rfl,rfl,by simp[putRow,mapBlock],λk hk=>?_⟩;simp only[putRow,mapBlock,Zt];rw[zL J]
def Ni(g cap base:Nat)(zs:List Int)(w:z7)(hz:zs.length<=2000000000)(h:w.ownsRow base 5 1 (.slice (g,0) zs.length cap) zs.length (zs.map (yF .u8))) :
  zE prog 176 #[.slice (g,0) zs.length cap] w λe w'=>e = .returned (.tuple #[])/\w'.ownsRow base 5 1 (.slice (g,0) zs.length cap) zs.length (zs.reverse.map (yF .u8)) /\
   (w':Nat)=(w:Nat)/\(∀k,k≠g->w'.heap[k]? = w.heap[k]?)/\yX base w w':=by
 have hg:base<=g:=(h.lt g rfl).1;refine(AnyE.slices_Reverse Tryz.laysRev (yF .u8) (λ_=>rfl) g 0 cap zs w (cG h) J).mono ?_;rintro e w' ⟨rfl,n,rfl⟩;have ha:(lL w n).ownsRow base 5 1 (.slice (zX g 0) zs.length cap) zs.length (zs.map (yF .u8)):=h;refine⟨rfl,SQ ha zY,by simp[putRow,mapBlock,lL],λk hk=>?_,LN (show yX base w (lL w n) from⟨rfl,rfl,rfl,X _,λ_ _=>rfl⟩) hg _⟩;simp only[putRow,mapBlock,Zt];rw[zL J];rfl
def EC(l:List UInt8):jO l=(vJ l).map (Value.int .u8):=by simp[jO,vJ]
def EE(h:d<10):((Yd d).toNat:Int) - 48=d:=by
 unfold Yd;rw[vO];omega
def cD(v:Nat)(w:z7)(e:gG)(w':z7):Prop :=
 (∃g cap,e = .returned (.agg #[.bool false,.slice (some ⟨g,0,none⟩) (xv v).length cap,.int .i64 0])/\w'.ownsRow (w:Nat) 5 1 (.slice (some ⟨g,0,none⟩) (xv v).length cap) (xv v).length (jO (xv v)))/\zJ w w'
def Uq(v:Nat)(w:z7)(hv:v<=1000000000):zE prog 151 #[v] w (cD v w):=by
 have hL:=ZS v;obtain⟨i,hi,hz,h2,h3⟩:=qG.info;go_enter func151,ntmps151;go_wp2;refine fP ?_;intro W hW;have F:(W:Nat)=(w:Nat)+1/\zJ w W/\zy W (w:Nat) 0 (.bool false)/\zy W (w:Nat) 1 (.slice none 0 0)/\zy W (w:Nat) 2 (.int .i64 0)/\W.frozen? (w,1)=false/\W.frozen? (w,0)=false/\W.frozen? (w,2)=false:=by
  subst hW;exact⟨zY,(z8 _ _).alloc (X _) _,qk,qk,qk,by go_simp,by go_simp,by go_simp⟩
 obtain⟨f1,f2,f3,f4,f5,f6,f7,f8⟩:=F;clear hW;go_loopw [0,3] (λn ok wr=>∃(m:Nat) (acc:List UInt8) (sv:zx) (b:Bool),n = .int .i64 m/\ok = .bool b/\m<=v/\wr.ownsRow ((w:Nat)+1) 5 1 sv acc.length (jO acc)/\zJ w wr/\(w:Nat)<wr.heap.size /\
   wr.cell? (w,0)=some (.bool false)/\zy wr (w:Nat) 1 sv/\zy wr (w:Nat) 2 (.int .i64 0)/\wr.frozen? (w,1)=false/\wr.frozen? (w,0)=false/\wr.frozen? (w,2)=false /\
   (b=true->xv v=xv m++acc.reverse)/\(b=false->xv v=acc.reverse)) (λn ok _=>(intOf n).toNat+match ok with |.bool true=>1|_=>0)
 case atStart=>exact⟨v,[],.slice none 0 0,true,rfl,rfl,X _,yr _ _ _ _,f2,J,f3,f4,f5,f6,f7,f8,λ_=>zY,λh=>xp⟩
 case round =>
  obtain⟨m,acc,sv,b,rfl,rfl,hm,uT,hb,hs,g0,g1,g2,g3,g4,g5,ht,hf⟩:=hrel;clear f2 f3 f4 f5 f6 f7 f8;cases b with
  |false =>
   have hd:=hf rfl;clear ht hf;have zgg:acc.length=(xv v).length:=(by rw[hd];simp);have hlen:0<acc.length:=by
    rw[zgg];by_cases lz:v<10
    .rw[qx lz];simp
    .rw[dR lz];simp
   obtain⟨g,cap,rfl,hg0,hg1,hgc⟩:=vK uT hlen;have hR:=Ni g cap ((w:Nat)+1) (vJ acc) wr (by simp[vJ];omega) (by rw[<-EC];simpa[vJ]using uT);have hvl:(vJ acc).length=acc.length:=(by simp[vJ]);have hrd:(vJ acc).reverse.map (yF .u8)=jO (xv v):=(by rw[hd,EC];simp[vJ,List.map_reverse]);rw[hvl,hrd,zgg]at hR;rw[zgg]at g1;have HR:=Z hR;clear hR hrd hd zgg hvl hgc uT;go_wp2_with fail;refine HR.o.mono ?_;rintro e w1 ⟨rfl,Nl,dw,SK,qV⟩;have fH:(w:Nat)≠g:=J;have e0:zy w1 (w:Nat) 0 (.bool false):=(yZ (SK _ fH)).trans g0;have e1:zy w1 (w:Nat) 1 (.slice (g,0) (xv v).length cap):=(yZ (SK _ fH)).trans g1;have e2:zy w1 (w:Nat) 2 (.int .i64 0):=(yZ (SK _ fH)).trans g2;have Cz:zJ w w1:=hb.trans (qV.mono J);have z1:w1.frozen? (w,1)=false:=(zb (SK _ fH)).trans g3;have z0:w1.frozen? (w,0)=false:=(zb (SK _ fH)).trans g4;have z2:w1.frozen? (w,2)=false:=(zb (SK _ fH)).trans g5;clear SK g0 g1 g2 g3 g4 g5;go_wp2;refine zU (v := .agg #[.bool false,.slice (g,0) (xv v).length cap,.int .i64 0]) ?_ rfl ?_
   .simp[yk,results151,go_sem,e0,e1,e2]
   have hn:some (w:Nat)≠(yI (g,0) (xv v).length cap).ownBlock:=λe=>fH (by simpa[qb]using e)
   exact⟨⟨g,cap,rfl,gZ (gZ (gZ (Qw Nl (bG _)) hn _) hn _) hn _⟩,((Cz.setCell (X _) _).setCell (X _) _).setCell (X _) _⟩
  |true =>
   have hd:=ht rfl;have HD:=Z hd;clear ht hf hd;go_wp2_with (at_builtin;refine vY qG rfl _ _ rfl ((w:Nat)+1) sv acc.length (jO acc) rfl (uT.alloc _) ⟨(wr:Nat),0,none⟩ 1 1 [.int .u8 ((m:Int) % 10)] rfl rfl Xq jr ?c3 zV ?_)
   case c3 =>
    have:=congrArg qj HD.o;simp at this;omega
   intro RN w1 Nl jA;have qV:zJ w w1:=(hb.alloc hb.size _).grown jA j7 (λq hq=>by have:=(uT.lt q hq).1;omega);have fH:some (w:Nat)≠sv.ownBlock:=λe=>by have:=(uT.lt _ e.symm).1;omega
   have k0:zy w1 (w:Nat) 0 (.bool false):=jA.cell ((za _ _ _ hs).trans g0) fH;have k1:zy w1 (w:Nat) 1 sv:=jA.cell ((za _ _ _ hs).trans g1) fH;have k2:zy w1 (w:Nat) 2 (.int .i64 0):=jA.cell ((za _ _ _ hs).trans g2) fH;have k3:w1.frozen? (zX (w:Nat) 1)=false:=(zb (jA.block (w:Nat) zV fH)).trans ((zb (xA _ _ _ hs)).trans g3);have k4:w1.frozen? (zX (w:Nat) 0)=false:=(zb (jA.block (w:Nat) zV fH)).trans ((zb (xA _ _ _ hs)).trans g4);have k5:w1.frozen? (zX (w:Nat) 2)=false:=(zb (jA.block (w:Nat) zV fH)).trans ((zb (xA _ _ _ hs)).trans g5);have ZE:(w:Nat)<(w1:Nat):=Y w1 _ k0;have hq:((m:Int).tdiv 10)=((m / 10:Nat):Int):=(by rw[Int.tdiv_eq_ediv_of_nonneg J];rfl);obtain⟨a1,c1,rfl⟩:=zD Nl;clear jA uT g0 g1 g2 g3 g4 g5 hb hs;go_wp2;have ybd:(w1.setCell (w,1) (.slice a1 (acc.length+1) c1)).ownsRow ((w:Nat)+1) 5 1 (.slice a1 (acc.length+1) c1) (acc.length+1) (jO acc++[.int .u8 ((m:Int) % 10)]) :=
    gZ Nl (λe=>by have:=(Nl.lt _ e.symm).1;simp at this;omega) _
   have l7:jO (acc++[Yd (m % 10)])=jO acc++[.int .u8 ((m:Int) % 10)]:=by
    have lz:=EE (d:=m % 10) J;simp only[jO,List.map_append,ve,YW,lz];rfl
   refine⟨⟨m / 10,acc++[Yd (m % 10)],.slice a1 (acc.length+1) c1,decide (0<m / 10),xi,?_,J,?_,qV.setCell (X _) _,by simpa[xW]using ZE,?_,?_,?_,?_,?_,?_,?_,?_⟩,?_⟩
   .congr 1;exact decide_eq_decide.2 J
   .rw[l7];simpa using ybd
   .go_simp
   .go_simp
   .go_simp
   .go_simp
   .go_simp
   .go_simp
   .intro h;have lz:0<m / 10:=of_decide_eq_true h;rw[HD.o,dR J];simp
   .intro h;have lz:¬0<m / 10:=of_decide_eq_false h;have:m % 10=m:=(by omega);rw[HD.o,qx J,this];simp
   .by_cases lz:0<m / 10
    .have:decide (0<(m:Int) / 10)=true:=decide_eq_true J;rw[this];simp[intOf];omega
    .have:decide (0<(m:Int) / 10)=false:=decide_eq_false J;rw[this];simp[intOf];omega
end Go.Proofs.YtfcemhlpdcnckaaGreatDoor
namespace Go.Proofs.YtfcemhlpdcnckaaGreatDoor
open Go Go.RowKit
set_option maxRecDepth 10000
variable{l:List UInt8}{cap n:Nat}{v:zx}{w w':z7}
structure zrz(x:Dg):Prop where
 zry:x.1.all yn=true
 zpk:x.2.all yn=true
 ne:x.1≠[]
 LO:x.1.length<=100
 CE:x.2.length<=100
def qR(w:z7)(v:zx)(x:Dg):Prop :=
 ∃b g o cap,v = .agg #[.bool b,.slice (some ⟨g,o,none⟩) (x.1.length+x.2.length) cap,.int .i64 x.2.length]/\x.1.length+x.2.length<=cap/\cap<=maxLen/\(∃c,zy w g 0 (.int .u8 c))/\yc w (some ⟨g,o,none⟩) (vJ (x.1++x.2))/\zrz x
def qR.below{x:Dg}(h:qR w v x)(hb:zJ w w'):qR w' v x:=by
 obtain⟨b,g,o,cap,h1,h2,a,c,d,e⟩:=h;exact⟨b,g,o,cap,h1,h2,a,c.imp λ_ hc=>(hb.cell (Y w _ hc)).trans hc,d.below hb,e⟩
def qR.ok{x:Dg}(h:qR w v x):zrz x:=by
 obtain⟨b,g,o,cap,h1,h2,c,d,e,a⟩:=h;exact a
def GC(a b:List UInt8):vJ (a++b)=vJ a++vJ b:=by simp[vJ]
def xC(a:List UInt8):(vJ a).length=a.length:=by simp[vJ]
def cE(l:List UInt8):(vJ l).dropWhile (· == 0)=vJ (l.dropWhile (· == 48)):=by
 induction l with
 |nil=>rfl
 |cons c t d =>
  have h2:=vZ c 48;have b:((48:UInt8).toNat:Int)=48:=rfl;rw[b]at h2;have a:(((c.toNat:Int) - 48)==0)=(c==48):=nL;rw[show vJ (c::t)=((c.toNat:Int) - 48)::vJ t from rfl];by_cases hc:(c==48)=true
  .rw[kj (p:=λx:Int=>x==0) (a.trans hc),kj (p:=λx:UInt8=>x==48) hc,d]
  .rw[uS (p:=λx:Int=>x==0) (by rw[a];exact hc),uS (p:=λx:UInt8=>x==48) hc];rfl
def Qb(l:List UInt8):uY l=if l.dropWhile (· == 48)=[]then [48]else l.dropWhile (· == 48):=by
 unfold uY;by_cases h:l=[]
 .subst h;rfl
 .rw[zL h];induction l with
  |nil=>exact absurd rfl h
  |cons c t b =>
   by_cases hc:c=48
   .subst hc;rw[kj zj];by_cases a:t=[]
    .subst a;rfl
    .rw[DW a rfl,b a]
   .rw[DA hc,uS (by simpa using hc),zL zY]
def Uk(h:l.all yn=true):(uY l).all yn=true:=by
 rw[Qb];split
 .decide
 .rw[Yl]at h|-;exactλc hc=>h c ((dh _).subset hc)
def Uj(l:List UInt8):(uY l).length<=l.length\/(uY l).length=1:=by
 rw[Qb];split
 .exact .inr rfl
 .exact .inl (dh (· == 48) (l:=l)).length_le
def K0(n:Nat):(xv n).all yn=true:=by
 induction n using Nat.strongRecOn with
 |_ n a =>
  have hd:∀d,d<10->yn (Yd d)=true:=by
   intro d h;rw[xe];have:=EE h;omega
  by_cases h:n<10
  .rw[qx h];simp[hd n h]
  .rw[dR h,ie,a (n / 10) J];simp[hd (n % 10) J]
def Qs(n:Nat):xv n≠[]:=by
 by_cases h:n<10
 .rw[qx h];simp
 .rw[dR h];simp
def jF:∀(k n:Nat),n<10 ^ (k+1)->(xv n).length<=k+1
 | 0,n,h=>by rw[qx Y3];simp
 |k+1,n,h=>by
  by_cases a:n<10
  .rw[qx a];simp
  .rw[dR a];have:=jF k (n / 10) (by rw[Nat.pow_succ]at h;omega);simp;omega
def kK(x:Dg)(w:z7)(e:gG)(w':z7):Prop:=(∃v,e = .returned v/\qR w' v x)/\zJ w w'
def FH{g:Nat}{b:Bool}{d:List UInt8}{x:Dg}(hx:x.1++x.2=d)(hn:n=d.length)(h:w'.ownsRow (w:Nat) 5 1 (.slice (g,0) n cap) n (jO d))(a:zrz x) :
  qR w' (.agg #[.bool b,.slice (g,0) n cap,.int .i64 x.2.length]) x:=by
 subst hn;have i:x.1.length+x.2.length=d.length:=by rw[<-hx];simp
 have hB:=GG h rfl;rw[<-hx]at hB;have e:∃c,zy w' g 0 (.int .u8 c):=by
  obtain⟨q,j,hc⟩:=hB 0 (by rw[xC,zI];have:=xI.2 a.ne;omega);cases j;exact⟨_,hc⟩
 refine⟨b,g,0,cap,by rw[i],?_,?_,e,hB,a⟩;all_goals
  rcases h.2 with⟨hv,_⟩|⟨g2,f,cur,hv,_,_,h1,h2,_⟩
  .cases hv
  .cases hv;omega
def EH(v:Nat)(w:z7)(hv:v<=1000000000):zE prog 151 #[v] w (kK (xv v,[]) w):=by
 refine(Uq v w hv).mono ?_;rintro e w' ⟨⟨g,cap,rfl,a⟩,hb⟩;have:=jF 9 v J;exact⟨⟨_,rfl,FH (x:=(xv v,[])) (vu _) rfl a ⟨K0 v,rfl,Qs v,by show(xv v).length<=100;omega,zY⟩⟩,hb⟩
def Dn(l:List UInt8)(a:Option yi)(cap:Nat)(w:z7)(hd:l.all yn=true)(T:l.length<=100)(s:l.length<=cap)(H:cap<=maxLen)(hB:yc w a (vJ l)) :
  zE prog 148 #[.slice a l.length cap] w (kK (uY l,[]) w):=by
 have z:=xC l;have E:=LL (vJ l) a cap;rw[z]at E;have M:=Z E;have L:=Z hB;obtain⟨r,hr⟩:=zo (l.dropWhile (· == 48));have y:(vJ l).dropWhile (· == 0)=vJ r:=by rw[cE,hr]
 have u:uY l=if r=[]then [48]else r:=by rw[Qb,hr]
 have j:=Uk hd;have Q:=Uj l;have n:=Z u;have D:=Z y;have B:=Z j;clear E hB z hr y u j;go_enter func148,ntmps148;go_wp2_with fail;refine(M.o _ J s (by unfold maxLen at H;omega) ?_).mono ?_
 .exact L.o.alloc _
 rintro e w1 ⟨⟨a',q,rfl,h2,R,S⟩,rfl⟩;rw[D.o,xC]at *;obtain⟨W,G⟩:∃W,W=w.alloc (.cells #[.bool false,.slice none 0 0,.int .i64 0] 247):=⟨_,rfl⟩;have F:W.heap.size=(w:Nat)+1/\zJ w W/\zy W (w:Nat) 0 (.bool false)/\zy W (w:Nat) 1 (.slice none 0 0)/\W.cell? (zX (w:Nat) 2)=some (.int .i64 0) /\
   W.frozen? (w,0)=false/\W.frozen? (w,1)=false/\W.frozen? (w,2)=false:=by
  subst G;exact⟨zY,(z8 _ _).alloc (X _) _,qk,qk,qk,by go_simp,by go_simp,by go_simp⟩
 obtain⟨f1,f2,f3,f4,f5,f6,f7,f8⟩:=F;rw[<-G]at h2|-;clear G;have f:(w:Nat)<(W:Nat):=J;by_cases i:r=[]
 .have hp:=n.o;rw[zl i]at hp;have A:=Z hp;clear hp;subst i;go_wp2_with fail;refine(Uq 0 _ J).mono ?_;rintro e w2 ⟨⟨g,h,rfl,t⟩,c⟩;have c0:=(c.cell (p:=(zX (w:Nat) 0)) f).trans f3;have c1:=(c.cell (p:=(zX (w:Nat) 1)) f).trans f4;have c2:=(c.cell (p:=(zX (w:Nat) 2)) f).trans f5;have z0:=(c.frozen (p:=(zX (w:Nat) 0)) f).trans f6;have z1:=(c.frozen (p:=(zX (w:Nat) 1)) f).trans f7;have z2:=(c.frozen (p:=(zX (w:Nat) 2)) f).trans f8;have N:=(t.lt g rfl).1;have m:zJ w w2:=f2.trans (c.mono J);clear f3 f4 f5 f6 f7 f8 c f2;go_wp2;refine zU (v := .agg #[.bool false,.slice (zX g 0) (xv 0).length h,.int .i64 0]) ?_ rfl ?_
  .simp[yk,results148,go_sem,c0,c1,c2]
  have hn:some (w:Nat)≠(yI (g,0) (xv 0).length h).ownBlock:=λe=>by simp[qb]at e;omega
  rw[A.o];exact⟨⟨_,rfl,FH (w:=w) (x:=([48],[])) (d:=xv 0) (by rw[qx zj];rfl) rfl (gZ (gZ (gZ (Qw t J) hn _) hn _) hn _) ⟨zj,rfl,zY,zY,by simp⟩⟩,((m.setCell (X _) _).setCell (X _) _).setCell (X _) _⟩
 .have hp:=n.o;rw[zL i]at hp;have A:=Z hp;clear hp;have k:0<r.length:=xI.2 i;obtain⟨b,rfl,_⟩:=h2 0 (by rw[xC];exact k);have P:((r.length:Int)==0)=false:=by simp;omega
  have I:r.length<=100:=by rw[<-A.o];omega
  have K:=Z h2;have C:=Z i;clear h2 i;go_wp2_with fail;refine(cJ r b q _ J K.o).mono ?_;rintro e w2 ⟨⟨v,rfl,t⟩,c⟩;obtain⟨g,h,rfl,N,O,_⟩:=vK t k;have c0:=(c.cell (p:=(w,0)) f).trans f3;have c1:=(c.cell (p:=(w,1)) f).trans f4;have c2:=(c.cell (p:=(w,2)) f).trans f5;have z0:=(c.frozen (p:=(w,0)) f).trans f6;have z1:=(c.frozen (p:=(w,1)) f).trans f7;have z2:=(c.frozen (p:=(w,2)) f).trans f8;have m:zJ w w2:=f2.trans (c.mono J);clear f3 f4 f5 f6 f7 f8 c f2;go_wp2;refine zU (v := .agg #[.bool false,.slice (g,0) r.length h,.int .i64 0]) ?_ rfl ?_
  .simp[yk,results148,go_sem,c0,c1,c2]
  have hn:some (w:Nat)≠(yI (g,0) r.length h).ownBlock:=λe=>by simp[qb]at e;omega
  have j:=B.o;rw[A.o]at j|-;exact⟨⟨_,rfl,FH (w:=w) (x:=(r,[])) (vu _) rfl (gZ (gZ (gZ (Qw t J) hn _) hn _) hn _) ⟨j,rfl,C.o,I,zY⟩⟩,((m.setCell (X _) _).setCell (X _) _).setCell (X _) _⟩
def zgf(l:List UInt8):(vJ l).any (· != 0)=CB l:=by
 have:=zero_eq l;unfold CB;have h2:(l.all (· == 48)) = !(l.any (· != 48)):=by
  rw[List.all_eq_not_any_not];rfl
 rw[h2]at this;simpa using congrArg (λb => !b) this
def td(g o:Nat)(n cap sc:Nat)(b:Bool)(l:List Int)(w:z7)(i:l.length=n)(hs:sc<=n)(d:n<=cap)(hn:n<=1000000)(hB:yc w (some ⟨g,o,none⟩) l) :
  zE prog 149 #[.agg #[.bool b,.slice (g,o) n cap,sc]] w λe w'=>(∃c a,e = .returned (.slice c (n - sc) a)/\n - sc<=a/\a<=cap/\yc w' c (l.take (n - sc)))/\zJ w w':=by
 obtain⟨k,f⟩:∃k,n=k+sc:=⟨n - sc,J⟩;subst f;rw[show k+sc - sc=k from J];have h:(0:Int)<=((k+sc:Nat):Int) - (sc:Int):=J;have h1:((k+sc:Nat):Int) - (sc:Int)=(k:Int):=J;have h2:k<=cap:=J;go_enter func149,ntmps149;go_wp2;go_ret;exact⟨⟨_,_,rfl,J,J,(hB.alloc _).take k⟩,(z8 _ _).alloc (X _) _⟩
def cH(g o:Nat)(n cap sc:Nat)(b:Bool)(l:List Int)(w:z7)(q:l.length=n)(hs:sc<=n)(d:n<=cap)(hn:n<=1000000)(hB:yc w (some ⟨g,o,none⟩) l) :
  zE prog 155 #[.agg #[.bool b,.slice (g,o) n cap,sc]] w λe w'=>(∃c a,e = .returned (.slice (some c) sc a)/\sc<=a/\a<=cap/\yc w' (some c) (l.drop (n - sc)))/\zJ w w':=by
 obtain⟨k,p⟩:∃k,n=k+sc:=⟨n - sc,J⟩;subst p;rw[show k+sc - sc=k from J];have h1:((k+sc:Nat):Int) - (sc:Int)=(k:Int):=J;have h2:k<=cap:=J;go_enter func155,ntmps155;by_cases i:cap=k
 .have f:l.drop k=[]:=yq J;have h:=Z f;clear f;go_wp2;go_ret;refine⟨⟨_,_,rfl,J,J,?_⟩,(z8 _ _).alloc (X _) _⟩;rw[h.o];intro j m;simp at m
 .go_wp2;go_ret;exact⟨⟨_,_,rfl,J,J,(hB.alloc _).drop k⟩,(z8 _ _).alloc (X _) _⟩
def Je(v:zx)(x:Dg)(w:z7)(h:qR w v x) :
  zE prog 155 #[v] w λe w'=>(∃c a,e = .returned (.slice (some c) x.2.length a)/\x.2.length<=a/\a<=maxLen/\yc w' (some c) (vJ x.2))/\zJ w w':=by
 obtain⟨b,g,go,cap,rfl,h2,m,n,i,f⟩:=h;have j:=f.LO;have k:=f.CE;refine(cH g go (x.1.length+x.2.length) cap x.2.length b (vJ (x.1++x.2)) w (by rw[xC];simp) J h2 J i).mono ?_;rintro e w' ⟨⟨c,a,rfl,d,l,hB⟩,hb⟩;refine⟨⟨c,a,rfl,d,J,?_⟩,hb⟩;have:(vJ (x.1++x.2)).drop (x.1.length+x.2.length - x.2.length)=vJ x.2:=by
  rw[Vs,GC,List.drop_append_of_le_length (by rw[xC];exact X _),yq (by rw[xC];exact X _),kr]
 rw[this]at hB;exact hB
def Dp(v:zx)(x:Dg)(w:z7)(h:qR w v x) :
  zE prog 155 #[v] w λe w'=>(∃d b,e = .returned (.slice d x.2.length b)/\x.2.length<=b/\b<=maxLen/\yc w' d (vJ x.2))/\zJ w w' :=
 (Je v x w h).mono λ_ _ ⟨⟨a,c,h1,h2,f,g⟩,hb⟩=>⟨⟨some a,c,h1,h2,f,g⟩,hb⟩
def LR(v:zx)(x:Dg)(w:z7)(h:qR w v x) :
  zE prog 149 #[v] w λe w'=>(∃c a,e = .returned (.slice c x.1.length a)/\x.1.length<=a/\a<=maxLen/\yc w' c (vJ x.1))/\zJ w w':=by
 obtain⟨b,g,go,cap,rfl,h2,m,n,i,f⟩:=h;have j:=f.LO;have k:=f.CE;refine(td g go (x.1.length+x.2.length) cap x.2.length b (vJ (x.1++x.2)) w (by rw[xC];simp) J h2 J i).mono ?_;rintro e w' ⟨⟨c,a,rfl,d,l,hB⟩,hb⟩;rw[Vs]at hB d|-;refine⟨⟨c,a,rfl,d,J,?_⟩,hb⟩;have:(vJ (x.1++x.2)).take x.1.length=vJ x.1:=by
  rw[GC,List.take_append_of_le_length (by rw[xC];exact X _),xJ (by rw[xC];exact X _)]
 rw[this]at hB;exact hB
def Dr(v:zx)(x:Dg)(w:z7)(h:qR w v x) :
  zE prog 179 #[v] w λe w'=>e = .returned (.bool (CB x.2))/\zJ w w':=by
 have hb:=zgf x.2;have p:=h.ok.CE;have hF:=λW (n:qR W v x)=>Dp v x W n
 have l:=Z hF;have m:=Z h;have j:=Z hb;obtain⟨b,g,go,cap,rfl,_,_,_,_,_⟩:=h;clear hF hb;go_enter func179,ntmps179;go_wp2_with fail;refine(l.o _ (m.o.below ((z8 _ _).alloc (X _) _))).mono ?_;rintro e w1 ⟨⟨d,a,rfl,_,_,hB⟩,c⟩;have i:zJ w w1:=((z8 _ _).alloc (X _) _).trans (c.mono zY);have f:=DR (vJ x.2) d a w1 (by rw[xC];omega) hB;rw[xC,j.o]at f;have k:=Z f;clear f hB c;go_wp2_with fail;refine k.o.mono ?_;rintro e w2 ⟨rfl,rfl⟩;go_wp2;go_ret;exact⟨rfl,i⟩
def zgd(v:zx)(x:Dg)(w:z7)(h:qR w v x):zE prog 146 #[v] w (kK x w):=by
 have f:=Z h;obtain⟨b,g,go,cap,rfl,h2,a,c,d,e⟩:=h;go_enter func146,ntmps146;go_wp2;refine zU (v := .agg #[.bool false,.slice (g,go) (x.1.length+x.2.length) cap,.int .i64 x.2.length]) ?_ rfl ?_
 .simp[yk,results146,go_sem]
 have hb:yX w w ((w.alloc (.cells #[.bool false,.slice (g,go) (x.1.length+x.2.length) cap,.int .i64 x.2.length] 247)).alloc (.cells #[.bool false,.slice (g,go) (x.1.length+x.2.length) cap,.int .i64 x.2.length] 247)):=((z8 _ _).alloc (X _) _).alloc zY _;exact⟨⟨_,rfl,false,g,go,cap,rfl,h2,a,c.imp λ_ hc=>(hb.cell (Y w _ hc)).trans hc,d.below hb,e⟩,hb⟩
variable{k:Nat}
def SJ{a:Option yi}{l:List Int}(h:yc w a l)(k:Nat):yc w a (l.take k):=λj hj=>by
 obtain⟨b,h1,h2⟩:=h j Jb;exact⟨b,h1,by simpa using h2⟩
def SG(a:k<l.length)(h:l[k]=48):yE (l.take (k+1))=yE (l.take k):=by
 rw[zr a,h,short_zero]
def SF(a:k<l.length)(h:¬l[k]=48):yE (l.take (k+1))=l.take (k+1):=by
 rw[zr a,D0 _ _ h]
def LS(c:UInt8):(((c.toNat:Int) - 48)==0)=(c==48):=by
 have h2:=vZ c 48;have a:((48:UInt8).toNat:Int)=48:=rfl;rw[a]at h2;exact nL
def EI(v:zx)(x:Dg)(w:z7)(h:qR w v x) :
  zE prog 153 #[v] w λe w'=>(∃ad cap,e = .returned (.slice ad (yE x.2).length cap)/\yc w' ad (vJ (yE x.2))/\(yE x.2).length<=cap/\cap<=maxLen)/\zJ w w':=by
 have M:=h.ok.CE;have hF:=λW (K:qR W v x)=>Dp v x W K
 have F:=Z hF;have G:=Z h;obtain⟨b,g,go,cap,rfl,_,_,_,_,_⟩:=h;clear hF;go_enter func153,ntmps153;go_wp2_with fail;refine(F.o _ (G.o.below ((z8 _ _).alloc (X _) _))).mono ?_;rintro e w1 ⟨⟨r,i,rfl,y,D,hB⟩,s⟩;have t:zJ w w1:=((z8 _ _).alloc (X _) _).trans (s.mono zY);have B:=Z hB;have L:i<=9223372036854775807:=by unfold maxLen at D;omega
 clear s hB;obtain⟨f,hf⟩:∃f,f=x.2:=⟨_,rfl⟩;rw[<-hf]at M y B|-;have q:=Z hf;clear hf;go_wp2_with fail;go_loop [3] (λu=>∃k a:Nat,k<=f.length/\u = .slice r k a/\k<=a/\a<=i/\yE (f.take k)=yE f) (λu=>match u with |.slice _ n _=>n|_=>0)
 case atStart=>exact⟨f.length,i,X _,rfl,y,X _,by rw[kp]⟩
 case round =>
  obtain⟨k,a,O,rfl,h1,h2,hs⟩:=hrel;have C:=Z hs;clear hs;by_cases I:k=0
  .subst I;have l:yE f=[]:=(by rw[<-C.o];rfl);have H:=Z l;clear l;go_wp2;go_ret;rw[<-q.o,H.o];exact⟨⟨r,a,rfl,Zl _ _,zG _,J⟩,t⟩
  .obtain⟨m,rfl⟩:∃m,k=m+1:=⟨k - 1,J⟩;have hm:m<f.length:=(by omega);obtain⟨p,rfl,hc⟩:=B.o m (by rw[xC];exact hm);have A:(vJ f)[m]'(by rw[xC];exact hm)=(f[m].toNat:Int) - 48:=(by simp[vJ]);rw[A]at hc;have l:=LS f[m];have N:((m+1:Nat):Int) - 1=(m:Int):=J;have e1:(0:Int)<=((m+1:Nat):Int) - 1:=J;clear A;by_cases d:f[m]=48
   .have E:(((f[m].toNat:Int) - 48)==0)=true:=(by rw[l,d];rfl);have c:=SG hm d;rw[C.o]at c;have j:=Z c;clear c l d;go_wp2;exact⟨⟨m,a,J,rfl,J,h2,j.o.symm⟩,xf _⟩
   .have E:(((f[m].toNat:Int) - 48)==0)=false:=(by rw[l];simpa using d);have c:=SF hm d;rw[C.o]at c;have j:=Z c;clear c l d;go_wp2;go_ret;have z:(yE f).length=m+1:=(by rw[j.o];simp;omega);rw[<-q.o,z];refine⟨⟨some p,a,rfl,?_,h1,J⟩,t⟩;rw[j.o,show vJ (f.take (m+1))=(vJ f).take (m+1)by simp[vJ]];exact SJ B.o _
def EL(h:l.all yn=true):(yE l).all yn=true:=by
 unfold yE;rw[Yl]at h|-;intro c hc;exact h c (zk4.1 ((dh _).subset (zk4.1 hc)))
def Ji(l:List UInt8):(yE l).length<=l.length:=by
 unfold yE;have:=(dh (· == 48) (l:=l.reverse)).length_le;simpa using this
variable{q:Nat}{W W':z7}
structure Kd(W:z7)(q:Nat):Prop where
 c0:zy W q 0 (.bool false)
 c1:zy W q 1 (.slice none 0 0)
 c2:zy W q 2 (.int .i64 0)
 z0:W.frozen? (q,0)=false
 z1:W.frozen? (q,1)=false
 z2:W.frozen? (q,2)=false
 lt:q<(W:Nat)
def Kd.below(h:Kd W q)(hb:zJ W W'):Kd W' q :=
 ⟨(hb.cell h.lt).trans h.c0,(hb.cell h.lt).trans h.c1,(hb.cell h.lt).trans h.c2,(hb.frozen h.lt).trans h.z0,(hb.frozen h.lt).trans h.z1,(hb.frozen h.lt).trans h.z2,ze h.lt hb.size⟩
def du(w:z7)(o:Obj):yX w w ((w.alloc o).alloc (.cells #[.bool false,.slice none 0 0,.int .i64 0] 247))/\Kd ((w.alloc o).alloc (.cells #[.bool false,.slice none 0 0,.int .i64 0] 247)) ((w:Nat)+1):=by
 have hs:(w.alloc o).heap.size=(w:Nat)+1:=zY;refine⟨((z8 _ _).alloc (X _) _).alloc J _,?_⟩;rw[<-hs];exact⟨zg _ _ _ _ _,zg _ _ _ _ _,zg _ _ _ _ _,zY,zY,zY,zY⟩
def qR.set{x:Dg}{b:Bool}(h:qR w v x)(l:zy w q 0 (.bool b))(j:Nat)(u:zx):qR (w.setCell (q,j) u) v x:=by
 obtain⟨e,g,go,cap,h1,h2,f,d,i,k⟩:=h;have a:g≠q:=by
  rintro rfl;obtain⟨c,hc⟩:=d;rw[l]at hc;cases hc
 exact⟨e,g,go,cap,h1,h2,f,d.imp λ_ hc=>by rw[yx (h:=by simp[a,Ne.symm a])];exact hc,i.set (λb hb=>by cases hb;exact a) u,k⟩
def JQ{x:Dg}{b:Bool}{s k:zx}(h:qR W (.agg #[.bool b,s,k]) x)(hr:Kd W q)(a:(w:Nat)<=q)(hb:zJ w W) :
  kK x w (.returned (.agg #[.bool b,s,k])) (((W.setCell (q,0) (.bool b)).setCell (q,1) s).setCell (q,2) k):=by
 have c:zy (W.setCell (zX q 0) (.bool b)) q 0 (.bool b):=by rw[uk (h:=hr.c0)]
 have e1:zy ((W.setCell (zX q 0) (.bool b)).setCell (zX q 1) s) q 0 (.bool b):=by rw[yx (h:=zY)];exact c
 exact⟨⟨_,rfl,((h.set hr.c0 0 _).set c 1 _).set e1 2 _⟩,((hb.setCell a _).setCell a _).setCell a _⟩
def qR.form{x:Dg}(h:qR w v x):∃b g go cap n k,v = .agg #[.bool b,.slice (some ⟨g,go,none⟩) n cap,.int .i64 k]:=by
 obtain⟨b,g,go,cap,h1,_⟩:=h;exact⟨b,g,go,cap,_,_,h1⟩
def xqj(v:zx)(x:Dg)(w:z7)(h:qR w v x):zE prog 150 #[v] w (kK (xv x.2.length,[]) w):=by
 have a:=h.ok;have k:=a.LO;have l:=a.CE;have n:=Z h;have p:=Z a;obtain⟨b,g,go,cap,rfl,_,_,_,_,_⟩:=h;clear a;obtain⟨FL,i⟩:=du w (.cells #[.bool b,.slice (g,go) (x.1.length+x.2.length) cap,.int .i64 x.2.length] 247);go_enter func150,ntmps150;go_wp2_with fail;generalize (w.alloc (.cells #[.bool b,.slice (g,go) (x.1.length+x.2.length) cap,.int .i64 x.2.length] 247)).alloc (.cells #[.bool false,.slice none 0 0,.int .i64 0] 247)=W at FL i|-;refine(EH x.2.length _ J).mono ?_;rintro e w2 ⟨⟨v2,rfl,c⟩,f⟩;have hr:=i.below f;have Cz:zJ w w2:=FL.trans (f.mono DJ);have c0:=hr.c0;have c1:=hr.c1;have c2:=hr.c2;have z0:=hr.z0;have z1:=hr.z1;have z2:=hr.z2;have HNV:=Z c;obtain⟨b2,g2,j,d,m,k2,rfl⟩:=c.form;clear c;go_wp2;refine zU (v := .agg #[.bool b2,.slice (g2,j) m d,k2]) ?_ rfl ?_
 .simp[yk,results150,go_sem,c0,c1,c2]
 exact DK
def xqg(v:zx)(x:Dg)(w:z7)(h:qR w v x):zE prog 147 #[v] w (kK (uY x.1,[]) w):=by
 have a:=h.ok;have u:=a.LO;have y:=a.CE;have s:=Z h;have t:=Z a;obtain⟨b,g,go,cap,rfl,_,_,_,_,_⟩:=h;clear a;obtain⟨FL,k⟩:=du w (.cells #[.bool b,.slice (g,go) (x.1.length+x.2.length) cap,.int .i64 x.2.length] 247);go_enter func147,ntmps147;go_wp2_with fail;generalize (w.alloc (.cells #[.bool b,.slice (g,go) (x.1.length+x.2.length) cap,.int .i64 x.2.length] 247)).alloc (.cells #[.bool false,.slice none 0 0,.int .i64 0] 247)=W at FL k|-;refine(LR _ x _ (s.o.below FL)).mono ?_;rintro e w1 ⟨⟨l,d,rfl,n,p,hB⟩,i⟩;have q:=k.below i;have NC:zJ w w1:=FL.trans (i.mono DJ);have r:=Z hB;clear hB;go_wp2_with fail;refine(Dn x.1 l d _ t.o.zry J n p r.o).mono ?_;rintro e w2 ⟨⟨v2,rfl,c⟩,j⟩;have hr:=q.below j;have Cz:zJ w w2:=NC.trans (j.mono Lg);have c0:=hr.c0;have c1:=hr.c1;have c2:=hr.c2;have z0:=hr.z0;have z1:=hr.z1;have z2:=hr.z2;have HNV:=Z c;obtain⟨b2,g2,m,f,z,k2,rfl⟩:=c.form;clear c;go_wp2;refine zU (v := .agg #[.bool b2,.slice (g2,m) z f,k2]) ?_ rfl ?_
 .simp[yk,results147,go_sem,c0,c1,c2]
 exact DK
def xqf(v:zx)(x:Dg)(w:z7)(h:qR w v x):zE prog 152 #[v] w (kK (xv (yE x.2).length,[]) w):=by
 have a:=h.ok;have s:=a.LO;have t:=a.CE;have n:=Z h;have z:=Z a;have u:=Ji x.2;obtain⟨b,g,go,cap,rfl,_,_,_,_,_⟩:=h;clear a;obtain⟨FL,j⟩:=du w (.cells #[.bool b,.slice (g,go) (x.1.length+x.2.length) cap,.int .i64 x.2.length] 247);go_enter func152,ntmps152;go_wp2_with fail;generalize (w.alloc (.cells #[.bool b,.slice (g,go) (x.1.length+x.2.length) cap,.int .i64 x.2.length] 247)).alloc (.cells #[.bool false,.slice none 0 0,.int .i64 0] 247)=W at FL j|-;refine(EI _ x _ (n.o.below FL)).mono ?_;rintro e w1 ⟨⟨p,m,rfl,hB,q,r⟩,f⟩;have l:=j.below f;have NC:zJ w w1:=FL.trans (f.mono DJ);clear hB;go_wp2_with fail;refine(EH (yE x.2).length _ J).mono ?_;rintro e w2 ⟨⟨v2,rfl,c⟩,i⟩;have hr:=l.below i;have Cz:zJ w w2:=NC.trans (i.mono Lg);have c0:=hr.c0;have c1:=hr.c1;have c2:=hr.c2;have z0:=hr.z0;have z1:=hr.z1;have z2:=hr.z2;have HNV:=Z c;obtain⟨b2,g2,k,d,y,k2,rfl⟩:=c.form;clear c;go_wp2;refine zU (v := .agg #[.bool b2,.slice (g2,k) y d,k2]) ?_ rfl ?_
 .simp[yk,results152,go_sem,c0,c1,c2]
 exact DK
def xqd(v:zx)(x:Dg)(w:z7)(h:qR w v x):zE prog 154 #[v] w (kK (uY x.2,[]) w):=by
 have a:=h.ok;have u:=a.LO;have y:=a.CE;have s:=Z h;have t:=Z a;obtain⟨b,g,go,cap,rfl,_,_,_,_,_⟩:=h;clear a;obtain⟨FL,k⟩:=du w (.cells #[.bool b,.slice (g,go) (x.1.length+x.2.length) cap,.int .i64 x.2.length] 247);go_enter func154,ntmps154;go_wp2_with fail;generalize (w.alloc (.cells #[.bool b,.slice (g,go) (x.1.length+x.2.length) cap,.int .i64 x.2.length] 247)).alloc (.cells #[.bool false,.slice none 0 0,.int .i64 0] 247)=W at FL k|-;refine(Dp _ x _ (s.o.below FL)).mono ?_;rintro e w1 ⟨⟨l,d,rfl,n,p,hB⟩,i⟩;have q:=k.below i;have NC:zJ w w1:=FL.trans (i.mono DJ);have r:=Z hB;clear hB;go_wp2_with fail;refine(Dn x.2 l d _ t.o.zpk J n p r.o).mono ?_;rintro e w2 ⟨⟨v2,rfl,c⟩,j⟩;have hr:=q.below j;have Cz:zJ w w2:=NC.trans (j.mono Lg);have c0:=hr.c0;have c1:=hr.c1;have c2:=hr.c2;have z0:=hr.z0;have z1:=hr.z1;have z2:=hr.z2;have HNV:=Z c;obtain⟨b2,g2,m,f,z,k2,rfl⟩:=c.form;clear c;go_wp2;refine zU (v := .agg #[.bool b2,.slice (g2,m) z f,k2]) ?_ rfl ?_
 .simp[yk,results154,go_sem,c0,c1,c2]
 exact DK
def xqb(v:zx)(x:Dg)(w:z7)(h:qR w v x):zE prog 156 #[v] w (kK (uY (yE x.2),[]) w):=by
 have a:=h.ok;have u:=a.LO;have y:=a.CE;have s:=Z h;have t:=Z a;have z:=Ji x.2;obtain⟨b,g,go,cap,rfl,_,_,_,_,_⟩:=h;clear a;obtain⟨FL,k⟩:=du w (.cells #[.bool b,.slice (g,go) (x.1.length+x.2.length) cap,.int .i64 x.2.length] 247);go_enter func156,ntmps156;go_wp2_with fail;generalize (w.alloc (.cells #[.bool b,.slice (g,go) (x.1.length+x.2.length) cap,.int .i64 x.2.length] 247)).alloc (.cells #[.bool false,.slice none 0 0,.int .i64 0] 247)=W at FL k|-;refine(EI _ x _ (s.o.below FL)).mono ?_;rintro e w1 ⟨⟨l,d,rfl,hB,n,p⟩,i⟩;have q:=k.below i;have NC:zJ w w1:=FL.trans (i.mono DJ);have r:=Z hB;clear hB;go_wp2_with fail;refine(Dn (yE x.2) l d _ (EL t.o.zpk) J n p r.o).mono ?_;rintro e w2 ⟨⟨v2,rfl,c⟩,j⟩;have hr:=q.below j;have Cz:zJ w w2:=NC.trans (j.mono Lg);have c0:=hr.c0;have c1:=hr.c1;have c2:=hr.c2;have z0:=hr.z0;have z1:=hr.z1;have z2:=hr.z2;have HNV:=Z c;obtain⟨b2,g2,m,f,A,k2,rfl⟩:=c.form;clear c;go_wp2;refine zU (v := .agg #[.bool b2,.slice (g2,m) A f,k2]) ?_ rfl ?_
 .simp[yk,results156,go_sem,c0,c1,c2]
 exact DK
def Nn(a b:List UInt8):Int:=if gV a b=true then -1 else if a=b then 0 else 1
def Ds{c:UInt8}(h:yn c=true):(((c.toNat:Int) - 48).toNat.toUInt8).toNat=c.toNat - 48:=by
 have h1:=(xe c).1 h;have h2:=c.toNat_lt;simp only[Nat.toUInt8,vO];omega
def Kb:∀(a b:List UInt8),a.length=b.length->a.all yn=true->b.all yn=true->zez (bT (vJ a)) (bT (vJ b))=Nn a b
 |[],[],_,_,_=>rfl
 |c::a,d::b,hl,ha,hb=>by
  simp only[kP,zQ]at ha hb;have h:=Kb a b JB ha.2 hb.2;have h1:=Ds ha.1;have h2:=Ds hb.1;have e1:=(xe c).1 ha.1;have e2:=(xe d).1 hb.1;have hx:bT (vJ (c::a))=((c.toNat:Int) - 48).toNat.toUInt8::bT (vJ a):=rfl;have hy:bT (vJ (d::b))=((d.toNat:Int) - 48).toNat.toUInt8::bT (vJ b):=rfl;rw[hx,hy,zez,h];unfold Nn;rw[gV];simp only[UInt8.lt_iff_toNat_lt,h1,h2];by_cases q1:c.toNat<d.toNat
  .rw[zl J,zl (by simp[q1])]
  .by_cases q2:d.toNat<c.toNat
   .have f:¬c=d:=λe=>by rw[e]at q2;omega
    rw[zL J,zl J,zL (by simp[q1,f]),zL (by simp[f])]
   .have g:c=d:=Ul.1 J;subst g;rw[zL J,zL J];simp
def EM(l:List UInt8)(n c:Nat)(a:yi)(w:z7)(hn:n=l.length)(h:yc w (some a) (vJ l)):(Ym (.slice (some a) n c)).run prog w = .ok ⟨(bT (vJ l)).toArray⟩ w:=by
 subst hn;have:=Lib.run_loadBytesX (P:=prog) w (vJ l) a .empty (λj x hx=>by
  have d:=(vq.1 hx).1;obtain⟨b,hb,hc⟩:=h j d;cases hb;rw[hc];have:=(vq.1 hx).2;rw[this])
 rw[xC]at this;show(xv0 a l.length .empty).run prog w=_;rw[this];congr 2;simp
def Np(c d:List UInt8)(f c1 g c2:Nat)(a b:yi)(w:z7)(e1:f=c.length)(e2:g=d.length)(h1:yc w (some a) (vJ c))(h2:yc w (some b) (vJ d))(h:c.length=d.length)(d1:c.all yn=true)(d2:d.all yn=true) :
  (callFunc 205 #[.slice (some a) f c1,.slice (some b) g c2]).run prog w = .ok (.value (.int .i64 (Nn c d))) w:=by
 rw[run_callFunc_extern func205 yy yy yy (e:=Yn) (by kernel_rfl)];have:(Yn #[.slice (some a) f c1,.slice (some b) g c2]).run prog w = .ok (.int .i64 (Nn c d)) w:=by
  change (Sem.run prog (do pure (goInt (im (<-Ym (.slice (some a) f c1)) (<-Ym (.slice (some b) g c2))))) w)=_
  simp only[gF,EM c f c1 a w e1 h1,xO,EM d g c2 b w e2 h2,Lib.cmp_eq,Kb c d h d1 d2];rfl
 rw[this];rfl
def Jl(c d:List UInt8)(f c1 g c2:Nat)(a b:yi)(w:z7)(e1:f=c.length)(e2:g=d.length)(h1:yc w (some a) (vJ c))(h2:yc w (some b) (vJ d))(h:c.length=d.length)(d1:c.all yn=true)(d2:d.all yn=true) :
  zE prog 194 #[.slice (some a) f c1,.slice (some b) g c2] w λe w'=>e = .returned (.int .i64 (Nn c d))/\w=w':=by
 have i:=Np c d f c1 g c2 a b w e1 e2 h1 h2 h d1 d2;clear e1 e2 h d1 d2 h1 h2;go_enter func194,ntmps194;go_wp2;go_ret;exact⟨rfl,rfl⟩
def cL{a b:List UInt8}(h:a.length=b.length):Nn a b=cmpL a b:=by
 unfold Nn cmpL;rw[h];simp
def LW(b:Bool)(s k:zx)(w:z7):(Instr.field 247 (.agg #[.bool b,s,k]) 1).run prog w = .ok s w:=by
 kernel_rfl
def Nr(v:zx)(x:Dg)(m:Nat)(w:z7)(h:qR w v x)(hm:m<=1000000000) :
  zE prog 178 #[v,m] w λe w'=>e = .returned (.int .i64 (Fg x m))/\zJ w w':=by
 have n:=h.ok;have cM:=n.LO;have M:=Z h;have N:=Z n;have A:=λW (O:qR W v x)=>Dr v x W O
 have H:=Z A;have O:=jF 9 m J;obtain⟨b,g,go,cap,rfl,_,_,_,_,_⟩:=h;have hfd:=LW;clear n A;go_enter func178,ntmps178;go_wp2_with fail;refine(LR _ x _ (M.o.below ((z8 _ _).alloc (X _) _))).mono ?_;rintro e w1 ⟨⟨T,t,rfl,U,V,hB⟩,a⟩;have i:(w.alloc (.cells #[.bool b,.slice (g,go) (x.1.length+x.2.length) cap,.int .i64 x.2.length] 247)).heap.size=(w:Nat)+1:=zY;have k0:zy w1 (w:Nat) 0 (.bool b):=(a.cell zY).trans (zg _ _ _ _ _);have k1:zy w1 (w:Nat) 1 (.slice (zX g go) (x.1.length+x.2.length) cap):=(a.cell zY).trans (zg _ _ _ _ _);have k2:zy w1 (w:Nat) 2 (.int .i64 x.2.length):=(a.cell zY).trans (zg _ _ _ _ _);have y:zJ w w1:=((z8 _ _).alloc (X _) _).trans (a.mono zY);have s:(w:Nat)<(w1:Nat):=by have:=a.size;rw[i]at this;omega
 clear a i;obtain⟨p,rfl,_⟩:=hB 0 (by rw[xC];exact xI.2 N.o.ne);have R:=Z hB;clear hB;go_wp2_with fail;refine(Uq m _ hm).mono ?_;rintro e w2 ⟨⟨g2,u,rfl,P⟩,c⟩;have j0:=(c.cell (p:=(zX (w:Nat) 0)) s).trans k0;have j1:=(c.cell (p:=(zX (w:Nat) 1)) s).trans k1;have j2:=(c.cell (p:=(zX (w:Nat) 2)) s).trans k2;have bj:zJ w w2:=y.trans (c.mono J);have D:=Z (R.o.below c);have E:=Z (GG P rfl);have I:=Z (M.o.below bj);clear P c k0 k1 k2 y;have uw:=Qs m;by_cases h1:x.1.length<(xv m).length
 .have hc:cmpL x.1 (xv m) = -1:=by
   unfold cmpL;rw[zl (.inl h1)]
  have hf:Fg x m = -1:=by
   unfold Fg;rw[hc];rfl
  have HF:=Z hf;have g1:((x.1.length:Int) - ((xv m).length:Int)==0)=false:=zV;have K:decide ((x.1.length:Int) - ((xv m).length:Int)<0)=true:=zV;exact rY
 .by_cases h2:(xv m).length<x.1.length
  .have hc:cmpL x.1 (xv m)=1:=by
    unfold cmpL;rw[zL (λq=>q.elim h1 (λq=>J)),zL (λe=>by rw[e]at h2;omega)]
   have hf:Fg x m=1:=by
    unfold Fg;rw[hc];simp
   have HF:=Z hf;have g1:((x.1.length:Int) - ((xv m).length:Int)==0)=false:=zV;have K:decide ((x.1.length:Int) - ((xv m).length:Int)<0)=false:=zV;have g3:decide (0<(x.1.length:Int) - ((xv m).length:Int))=true:=zV;exact rY
  .have he:x.1.length=(xv m).length:=(by omega);have g1:((x.1.length:Int) - ((xv m).length:Int)==0)=true:=zV;have B:=cL he;have z:=Jl x.1 (xv m) x.1.length t (xv m).length u p ⟨g2,0,none⟩ w2 rfl rfl D.o E.o he N.o.zry (K0 m);have F:=Z z;obtain⟨r,hr⟩:=zo (Nn x.1 (xv m));have l:cmpL x.1 (xv m)=r:=(by rw[<-B,hr]);have C:=Ja x.1 (xv m);rw[l]at C;have j:Fg x m=if r<0 then -1 else if 0<r\/CB x.2=true then 1 else 0:=by unfold Fg;rw[l]
   have d:=Z j;have S:=Z hr;clear z hr l B j he h1 h2;go_wp2_with fail;refine F.o.mono ?_;rw[S.o];rintro e w3 ⟨rfl,rfl⟩;rcases C with rfl|rfl|rfl
   .have hf:=d.o;rw[zl zj]at hf;exact sK
   .have hf:=d.o;rw[zL zj]at hf;have k:=H.o w2 I.o;obtain⟨q,Q⟩:=zo (CB x.2);rw[Q]at hf k;have HF:=Z hf;have G:=Z k;clear hf k Q;go_wp2_with fail;refine G.o.mono ?_;rintro e w4 ⟨rfl,L⟩;have f:zJ w w4:=bj.trans (L.mono bj.size);cases q
    .go_wp2;go_ret;exact⟨uZ,f⟩
    .go_wp2;go_ret;exact⟨uZ,f⟩
   .have hf:=d.o;rw[zL zj,zl (.inl zj)]at hf;exact sK
variable{xs:List zx}{e:uP}
def Kd.grown{row:Option Nat}(h:Kd W q)(b:W.grownBy W' row)(a:some q≠row):Kd W' q :=
 ⟨b.cell h.c0 a,b.cell h.c1 a,b.cell h.c2 a,(zb (b.block q h.lt a)).trans h.z0,(zb (b.block q h.lt a)).trans h.z1,(zb (b.block q h.lt a)).trans h.z2,ze h.lt b.size⟩
def Kd.set(h:Kd W q){a:yi}(ha:a.block≠q)(u:zx):Kd (W.setCell a u) q :=
 have hb:(W.setCell a u).heap[q]? = W.heap[q]? := zh _ _ _ _ (λe=>ha e.symm);⟨(yZ hb).trans h.c0,(yZ hb).trans h.c1,(yZ hb).trans h.c2,(zb hb).trans h.z0,(zb hb).trans h.z1,(zb hb).trans h.z2,by simpa[xW]using h.lt⟩
def Dt{p:yi}(h:yc w (some p) (vJ l)):∀j u,(jO l)[j]? = some u->w.cell? (p.add j)=some u:=by
 intro j u hu;have hj:j<(vJ l).length:=oR;obtain⟨b,hb,hc⟩:=h j hj;cases hb;rw[hc];exact og
def Ns(l:List UInt8):∀u∈jO l,u.oneCell'=true:=oG
def IP{base g:Nat}{a:List UInt8}{b:Bool}(h:w.ownsRow base e 1 (.slice (g,0) n cap) n (jO a++xs))(ha:a≠[])(hc:zy w g 0 (.bool b)):False:=by
 cases a with
 |nil=>exact ha rfl
 |cons c t =>
  have hn:0<n:=by have:=h.1;simp[jO]at this;omega
  have:=h.cellAt 0 J;rw[hc]at this;simp[jO]at this
def zgb(v:zx)(x:Dg)(m:Nat)(w:z7)(h:qR w v x)(hm:m<=1000000000)(hm0:0<m) :
  zE prog 125 #[v,m] w (kK (xv (j9 x.1 m),x.2) w):=by
 have L:=h.ok;have cM:=L.LO;have hl2:=L.CE;have HH:=Z h;have HO:=Z L;obtain⟨b,g,go,cap,rfl,_,_,_,_,_⟩:=h;obtain⟨D,P⟩:=du w (.cells #[.bool b,.slice (g,go) (x.1.length+x.2.length) cap,.int .i64 x.2.length] 247);have V:((w.alloc (.cells #[.bool b,.slice (g,go) (x.1.length+x.2.length) cap,.int .i64 x.2.length] 247)).alloc (.cells #[.bool false,.slice none 0 0,.int .i64 0] 247)).cell? (w,0)=some (.bool b) /\
   ((w.alloc (.cells #[.bool b,.slice (g,go) (x.1.length+x.2.length) cap,.int .i64 x.2.length] 247)).alloc (.cells #[.bool false,.slice none 0 0,.int .i64 0] 247)).cell? (w,1)=some (.slice (g,go) (x.1.length+x.2.length) cap) /\
   ((w.alloc (.cells #[.bool b,.slice (g,go) (x.1.length+x.2.length) cap,.int .i64 x.2.length] 247)).alloc (.cells #[.bool false,.slice none 0 0,.int .i64 0] 247)).cell? (w,2)=some (.int .i64 x.2.length):=⟨qk,qk,qk⟩
 clear L;go_enter func125,ntmps125;go_wp2_with fail;generalize (w.alloc (.cells #[.bool b,.slice (g,go) (x.1.length+x.2.length) cap,.int .i64 x.2.length] 247)).alloc (.cells #[.bool false,.slice none 0 0,.int .i64 0] 247)=W at D P V|-;obtain⟨k0,k1,k2⟩:=V;have H:(w:Nat)<(W:Nat):=Y W _ k0;refine(LR _ x _ (HH.o.below D)).mono ?_;rintro e w1 ⟨⟨ad',zgj,rfl,La,I9,hB⟩,qV⟩;have Q:=P.below qV;have E:zJ w w1:=D.trans (qV.mono D.size);have j0:=(qV.cell (p:=(w,0)) H).trans k0;have j1:=(qV.cell (p:=(w,1)) H).trans k1;have j2:=(qV.cell (p:=(w,2)) H).trans k2;have HB:=Z hB;clear D P qV k0 k1 k2 hB H;have y:=λl=>DT l m hm0
 have N:=Z y;clear y;go_wp2_with fail;go_loop [5,12] (λr i=>∃k:Nat,k<=x.1.length/\i = .int .i64 k/\r = .int .i64 (j9 (x.1.take k) m)) (λ_ i=>x.1.length - (intOf i).toNat)
 case atStart=>exact⟨0,zG _,rfl,rfl⟩
 case round =>
  obtain⟨k,hk,rfl,rfl⟩:=hrel;by_cases y:k<x.1.length
  .obtain⟨p,rfl,hc⟩:=HB.o k (by rw[xC];exact y);have hvm:(vJ x.1)[k]'(by rw[xC];exact y)=(x.1[k].toNat:Int) - 48:=(by simp[vJ]);rw[hvm]at hc;have hd:=(xe _).1 (Yl.1 HO.o.zry _ (xd y));have hL:=N.o (x.1.take k);have hsn:j9 (x.1.take (k+1)) m=(10*j9 (x.1.take k) m+(x.1[k].toNat - 48)) % m:=(by rw[zr y,Qk]);have T:=Z hsn;obtain⟨r,hr⟩:∃r,r=j9 (x.1.take k) m:=⟨_,rfl⟩;obtain⟨d,hdd⟩:∃d:Nat,(d:Int)=(x.1[k].toNat:Int) - 48:=⟨x.1[k].toNat - 48,J⟩;have Yt:x.1[k].toNat - 48=d:=J;rw[<-hdd]at hc;rw[<-hr,Yt]at T;rw[<-hr]at hL|-;have hd9:d<=9:=J;have hmz:¬((m:Int)=0):=J;clear hsn hvm hd hr hdd Yt;go_wp2;exact⟨⟨k+1,J,xi,by rw[T.o];go_num⟩,Lx⟩
  .obtain rfl:k=x.1.length:=(by omega);have Fu:=N.o (x.1.take x.1.length);rw[kp]at Fu|-;clear N HB;obtain⟨r,hr⟩:∃r,r=j9 x.1 m:=⟨_,rfl⟩;have HR:=Z hr;rw[<-hr]at Fu|-;clear hr;go_wp2_with fail;refine(Uq r _ J).mono ?_;rintro e w2 ⟨⟨g2,IN,rfl,ho⟩,z⟩;have MT:=Q.below z;have M:zJ w w2:=E.trans (z.mono E.size);have R:(w:Nat)<(w1:Nat):=Y w1 _ j0;have i0:=(z.cell (p:=(w,0)) R).trans j0;have i1:=(z.cell (p:=(w,1)) R).trans j1;have i2:=(z.cell (p:=(w,2)) R).trans j2;have oO:=(ho.lt g2 rfl);have zl8:=Z Q.lt;clear z j0 j1 j2 Q E;go_wp2_with (fail);have F:∃j,j=w2.alloc (.cells #[.bool false,.slice (g2,0) (xv r).length IN,.int .i64 0] 247)/\zJ w2 j/\j.heap.size=(w2:Nat)+1 /\
     j.cell? (w2,0)=some (.bool false)/\zy j (w2:Nat) 1 (.slice (g2,0) (xv r).length IN)/\j.cell? (w2,2)=some (.int .i64 0) /\
     j.frozen? (w2,0)=false/\j.frozen? (w2,1)=false/\j.frozen? (w2,2)=false /\
     j.ownsRow (w1:Nat) 5 1 (.slice (g2,0) (xv r).length IN) (xv r).length (jO (xv r)) :=
    ⟨_,rfl,(z8 _ _).alloc (X _) _,zY,qk,qk,qk,by go_simp,by go_simp,by go_simp,ho.alloc _⟩
   obtain⟨j,U,A,Fy,q0,q1,q2,y0,y1,y2,I⟩:=F;rw[<-U];have f:=MT.below A;have G:(w:Nat)<(w2:Nat):=Y w2 _ i0;have S:=(A.cell (p:=(zX (w:Nat) 0)) G).trans i0;have o1:=(A.cell (p:=(zX (w:Nat) 1)) G).trans i1;have o2:=(A.cell (p:=(zX (w:Nat) 2)) G).trans i2;have t:zJ w j:=M.trans (A.mono M.size);have Dh:(w1:Nat)<=(w2:Nat):=J;clear U A MT i0 i1 i2 ho;obtain⟨B,O⟩:∃B,B=(w:Nat):=⟨_,rfl⟩;obtain⟨q,hq⟩:∃q,q=(w2:Nat):=⟨_,rfl⟩;rw[<-O]at S o1 o2 f G|-;rw[<-hq]at q0 q1 q2 y0 y1 y2 G Fy|-;have HBq:=Z O;have HQ:=Z hq;clear O hq;have s:zy j.drew B 0 (.bool b)/\zy j.drew B 1 (.slice (g,go) (x.1.length+x.2.length) cap)/\zy j.drew B 2 (.int .i64 x.2.length):=⟨S,o1,o2⟩;refine xb (λW':z7=>zy W' B 0 (.bool b)/\zy W' B 1 (.slice (g,go) (x.1.length+x.2.length) cap)/\zy W' B 2 (.int .i64 x.2.length))
    [0,2,5,6] 7 fy yy yy s ?_
   (iterate 4 ((first|refine ty ?_|refine tn ?_);try simp only[pl]))
   refine yA ?_;refine wpAnyH_ready (rs:=[1,3]) yy zY (uv rfl (λK hK=>?_) (uv rfl (λK hK=>?_) Ye))
   .go_simp;refine hK.out _ _ s λ_=>?_;clear hK K;refine bF 3 (λK hK=>?_);go_simp;refine(Je _ x _ (HH.o.below t.drew)).mono ?_;rintro e w4 ⟨⟨p4,C,rfl,SD,Lc,hB4⟩,c⟩;have u:B<(j:Nat):=Y j _ S;have n:q<(j:Nat):=Y j _ q1;have a0:=(c.cell (p:=(zX B 0)) u).trans s.1;have a1:=(c.cell (p:=(zX B 1)) u).trans s.2.1;have a2:=(c.cell (p:=(zX B 2)) u).trans s.2.2;have p1:=(c.cell (p:=(zX q 1)) n).trans q1;have p0:=(c.cell (p:=(zX q 0)) n).trans q0;have p2:=(c.cell (p:=(zX q 2)) n).trans q2;have x0:=(c.frozen (p:=(zX q 0)) n).trans y0;have x1:=(c.frozen (p:=(zX q 1)) n).trans y1;have x2:=(c.frozen (p:=(zX q 2)) n).trans y2;have CZ:=bn (bS I) c;have hr4:=(show Kd j.drew (B+1) from⟨f.c0,f.c1,f.c2,f.z0,f.z1,f.z2,f.lt⟩).below c;have Fm:zJ w w4:=t.drew.trans (c.mono t.size);have dS:(j:Nat)<=(w4:Nat):=c.size;refine hK.out _ _ ⟨a0,a1,a2⟩ λ_=>?_;clear hK K s S o1 o2 q0 q1 q2 y0 y1 y2 I f c;refine bF 4 (λK hK=>?_);rw[zl xK];obtain⟨i,hi,hz,h2,h3⟩:=qG.info;refine wp_append_own w4 _ _ 180 rfl (w1:Nat) 5 i _ 1 1 qG.under hi hz h2 h3 qG.UL qG.pos _ _ _ rfl CZ p4 x.2.length C (jO x.2) rfl (by simp[jO]) (Dt hB4) (Ns x.2)
      sJ (by have:=jF 9 r J;omega) (by have:=HQ.o;omega) ?_
    exact pJ
   .skip
    go_simp;refine(Je _ x _ (HH.o.below t.drew)).mono ?_;rintro e w4 ⟨⟨p4,C,rfl,SD,Lc,hB4⟩,c⟩;have u:B<(j:Nat):=Y j _ S;have n:q<(j:Nat):=Y j _ q1;have a0:=(c.cell (p:=(zX B 0)) u).trans s.1;have a1:=(c.cell (p:=(zX B 1)) u).trans s.2.1;have a2:=(c.cell (p:=(zX B 2)) u).trans s.2.2;have p1:=(c.cell (p:=(zX q 1)) n).trans q1;have p0:=(c.cell (p:=(zX q 0)) n).trans q0;have p2:=(c.cell (p:=(zX q 2)) n).trans q2;have x0:=(c.frozen (p:=(zX q 0)) n).trans y0;have x1:=(c.frozen (p:=(zX q 1)) n).trans y1;have x2:=(c.frozen (p:=(zX q 2)) n).trans y2;have CZ:=bn (bS I) c;have hr4:=(show Kd j.drew (B+1) from⟨f.c0,f.c1,f.c2,f.z0,f.z1,f.z2,f.lt⟩).below c;have Fm:zJ w w4:=t.drew.trans (c.mono t.size);have dS:(j:Nat)<=(w4:Nat):=c.size;refine hK.out _ _ ⟨a0,a1,a2⟩ λ_=>?_;clear hK K s S o1 o2 q0 q1 q2 y0 y1 y2 I f c;refine bF 1 (λK hK=>?_);go_simp;refine hK.out _ _ ⟨a0,a1,a2⟩ λ_=>?_;clear hK K;refine bF 4 (λK hK=>?_);rw[zl xK];obtain⟨i,hi,hz,h2,h3⟩:=qG.info;refine wp_append_own w4 _ _ 180 rfl (w1:Nat) 5 i _ 1 1 qG.under hi hz h2 h3 qG.UL qG.pos _ _ _ rfl CZ p4 x.2.length C (jO x.2) rfl (by simp[jO]) (Dt hB4) (Ns x.2)
      sJ (by have:=jF 9 r J;omega) (by have:=HQ.o;omega) ?_
    exact pJ
variable{hi hi' lo lo':Nat}{T:gx}
def kO(lo hi:Nat)(w:z7)(v:zx)(T:gx):Prop :=
 ∃k cap,v = .func (.func k) #[] cap/\(∀args w,(callFunc k args).run prog w = .ok (.enter k args) w) /\
  ∀W,xS lo hi w W->∀nv x,qR W nv x->zE prog k (#[nv]++cap) W λe W'=>e = .returned (.bool (T x))/\zJ W W'
def OpR(lo hi:Nat)(w:z7)(v:zx)(F:Dg->Dg):Prop :=
 ∃k cap,v = .func (.func k) #[] cap/\(∀args w,(callFunc k args).run prog w = .ok (.enter k args) w) /\
  ∀W,xS lo hi w W->∀nv x,qR W nv x->zE prog k (#[nv]++cap) W (kK (F x) W)
def kO.keep(h:kO lo hi w v T)(hk:xS lo hi w w')(h1:lo'<=lo)(h2:hi<=hi'):kO lo' hi' w' v T:=o9
def OpR.keep{F:Dg->Dg}(h:OpR lo hi w v F)(hk:xS lo hi w w')(h1:lo'<=lo)(h2:hi<=hi'):OpR lo' hi' w' v F:=o9
def cN(v:zx)(x:Dg)(a b:Nat)(br:Bool)(Q pb pc:Nat)(w:z7)(h:qR w v x)(ha:a<=1000000000)(hb:b<=1000000000)(ca:zy w Q 0 a)(I:zy w pb 0 b)(K:zy w pc 0 (.bool br)) :
  zE prog 177 #[v,(Q,0),(pb,0),(pc,0)] w λe w'=>e = .returned (.bool (uA a b br x))/\zJ w w':=by
 have N:=λW m (j:qR W v x) (hm:m<=1000000000)=>Nr v x m W j hm
 have hK:=λW (j:qR W v x)=>Dr v x W j
 obtain⟨r,hr⟩:=zo (uA a b br x);rw[hr];unfold uA at hr;obtain⟨c1,y⟩:∃c,Fg x a=c:=⟨_,rfl⟩;obtain⟨c2,z⟩:∃c,Fg x b=c:=⟨_,rfl⟩;obtain⟨k,P⟩:=zo (CB x.2);have h1:=λW (j:qR W v x)=>N W a j ha
 have h2:=λW (j:qR W v x)=>N W b j hb
 rw[y,z,P]at hr;simp only[y]at h1;simp only[z]at h2;simp only[P]at hK;obtain⟨T,U,HK,V,R⟩:=FD h1 h2 hK h hr;obtain⟨S,g,go,cap,rfl,_,_,_,_,_⟩:=h;clear N hK h1 h2 hr y z P;have F:∃W,W=w.alloc (.cells #[.bool S,.slice (zX g go) (x.1.length+x.2.length) cap,.int .i64 x.2.length] 247)/\zJ w W/\W.heap.size=(w:Nat)+1/\zy W (w:Nat) 0 (.bool S)/\zy W (w:Nat) 1 (.slice (zX g go) (x.1.length+x.2.length) cap)/\W.cell? (zX (w:Nat) 2)=some (.int .i64 x.2.length) /\
   W.cell? (Q,0)=some (.int .i64 a)/\zy W pb 0 b/\W.cell? (pc,0)=some (.bool br) :=
  ⟨_,rfl,(z8 _ _).alloc (X _) _,zY,qk,qk,qk,by rw[dB _ _ _ (by rw[ca];rfl)];exact ca,by rw[dB _ _ _ (by rw[I];rfl)];exact I,by rw[dB _ _ _ (by rw[K];rfl)];exact K⟩
 obtain⟨W,j,E,hs,d0,d1,d2,da,db,D⟩:=F;have C:=Z (V.o.below E);rw[j]at da db D;go_enter func177,ntmps177;go_wp2_with fail;rw[<-j]at da db D|-;clear j ca I K;refine(T.o _ C.o).mono ?_;rintro e w1 ⟨rfl,d⟩;have A:(w:Nat)<(W:Nat):=J;have L:=(d.cell (p:=(w,0)) A).trans d0;have e1:=(d.cell (p:=(w,1)) A).trans d1;have e2:=(d.cell (p:=(w,2)) A).trans d2;have eb:=(d.cell (p:=(pb,0)) (Y W _ db)).trans db;have M:=(d.cell (p:=(pc,0)) (Y W _ D)).trans D;have s:zJ w w1:=E.trans (d.mono J);have B:=Z (C.o.below d);have l:(w:Nat)<(w1:Nat):=Y w1 _ L;clear d0 d1 d2 da db D d;by_cases g1:0<=c1
 .have t:decide (0<=c1)=true:=decide_eq_true g1;have hr:=R.o;rw[t,ze8]at hr;have n:=Z hr;clear hr;go_wp2_with fail;refine(U.o _ B.o).mono ?_;rintro e w2 ⟨rfl,f⟩;have f0:=(f.cell (p:=(zX (w:Nat) 0)) l).trans L;have f1:=(f.cell (p:=(zX (w:Nat) 1)) l).trans e1;have f2:=(f.cell (p:=(zX (w:Nat) 2)) l).trans e2;have fc:=(f.cell (p:=(zX pc 0)) (Y w1 _ M)).trans M;have i:zJ w w2:=s.trans (f.mono J);have H:=Z (B.o.below f);clear L e1 e2 eb M f;by_cases g2:c2<=0
  .have u:decide (c2<=0)=true:=decide_eq_true g2;have hr:=n.o;rw[u,ze8]at hr;have q:=Z hr;clear hr;cases br
   .go_wp2_with fail;refine(HK.o _ H.o).mono ?_;rintro e w3 ⟨rfl,O⟩;have G:zJ w w3:=i.trans (O.mono i.size);go_wp2;go_ret;exact⟨by rw[<-q.o];rfl,G⟩
   .go_wp2;go_ret;exact⟨by rw[<-q.o];rfl,i⟩
  .have u:decide (c2<=0)=false:=decide_eq_false g2;have hr:=n.o;rw[u,Hr]at hr;have q:=Z hr;clear hr;go_wp2;go_ret;exact⟨by rw[<-q.o];rfl,i⟩
 .have t:decide (0<=c1)=false:=decide_eq_false g1;have hr:=R.o;rw[t,Hr]at hr;have n:=Z hr;clear hr;go_wp2;go_ret;exact⟨by rw[<-n.o];rfl,s⟩
def Fw(a b:Nat)(br:Bool)(w:z7)(ha:a<=1000000000)(hb:b<=1000000000) :
  zE prog 158 #[a,b,.bool br] w λe w'=>(∃v,e = .returned v/\kO (w:Nat) w'.heap.size w' v (uA a b br))/\zJ w w':=by
 have d:∀(fn:Fn) (first cap:Array zx) (w:z7),(gP fn first cap).run prog w = .ok (.func fn first cap) w:=λ_ _ _ _=>rfl
 go_enter func158,ntmps158;go_wp2;go_ret;have hs:(((w.alloc (.cells #[a] 3)).alloc (.cells #[b] 3)).alloc (.cells #[.bool br] 4)).heap.size=(w:Nat)+3:=zY;refine⟨⟨_,rfl,177,_,rfl,λargs w=>enters_of func177 yy rfl args w,λW c f x hx=>?_⟩,(((z8 _ _).alloc (X _) _).alloc zY _).alloc zV _⟩;refine cN f x a b br _ _ _ W hx ha hb ((c.cell (X _) ?_).trans ?_) ((c.cell ?_ ?_).trans ?_) ((c.cell ?_ ?_).trans ?_);all_goals first|(show w.heap.size<=w.heap.size+1;omega)|(show w.heap.size<=w.heap.size+1+1;omega)|(rw[hs];simp;done)|(rw[hs];simp;omega)|(show w.heap.size<=_;simp;done)|(show w.heap.size<=_;omega)|(go_simp;done)
def SB(v:zx)(q:Nat)(w:z7)(l:zx)(x:Dg)(T:gx)(lo hi:Nat)(h:kO lo hi w v T)(d:hi<=(w:Nat))(hn:qR w l x)(cs:Array zx)(c:l = .agg cs)
  (hc:∀j u,cs[j]? = some u->zy w q j u) :
  zE prog 120 #[v,(q,0)] w λe w'=>e = .returned (.bool (T x))/\zJ w w':=by
 have m:=Z hn;obtain⟨b,g,go,cap,n,k,rfl⟩:=hn.form;cases c;have c0:=hc 0 _ rfl;have c1:=hc 1 _ rfl;have c2:=hc 2 _ rfl;obtain⟨K,r,rfl,i,a⟩:=h;have f:=a w (vX d) _ x m.o;have p:=Z f;clear a f hc;go_enter func120,ntmps120;go_wp2_with fail;refine p.o.mono ?_;rintro e w1 ⟨rfl,hb⟩;go_wp2;go_ret;exact⟨rfl,hb⟩
variable{Ts:List gx}{vs:List zx}
def SC(w:z7)(a:Option yi)(vs:List zx):Prop:=∀j (h:j<vs.length),∃b,a=some b/\w.cell? (b.add j)=some vs[j]
def SC.below{a:Option yi}(h:SC w a vs)(hb:zJ w w'):SC w' a vs:=λj c=>by
 obtain⟨b,h1,h2⟩:=h j c;exact⟨b,h1,ow⟩
def Zd(lo hi:Nat)(w:z7)(a:Option yi)(Ts:List gx):Prop :=
 ∀j (h:j<Ts.length),∃b v,a=some b/\w.cell? (b.add j)=some v/\lo<=b.block/\b.block<hi/\kO lo hi w v Ts[j]
def Zd.keep{a:Option yi}(h:Zd lo hi w a Ts)(c:xS lo hi w w')(h1:lo'<=lo)(h2:hi<=hi'):Zd lo' hi' w' a Ts:=λj e=>by
 obtain⟨b,v,e1,e2,e3,e4,d⟩:=h j e;exact⟨b,v,e1,by rw[c.cell (p:=b.add j) (by rw[addr_add];exact e3) (by rw[addr_add];exact e4)];exact e2,J,J,d.keep c h1 h2⟩
structure Nt(w:z7)(q:Nat)(nv:zx):Prop where
 lt:q<(w:Nat)
 cells:∃b s k,nv = .agg #[b,s,k]/\zy w q 0 b/\zy w q 1 s/\zy w q 2 k
def Nt.below{c:zx}(h:Nt w q c)(hb:zJ w w'):Nt w' q c:=by
 obtain⟨a,b,s,k,h1,h2,d,e⟩:=h;exact⟨ze a hb.size,b,s,k,h1,(hb.cell a).trans h2,(hb.cell a).trans d,(hb.cell a).trans e⟩
def SE(v:zx)(q:Nat)(w:z7)(d:zx)(x:Dg)(T:gx)(lo hi:Nat)(h:kO lo hi w v T)(c:hi<=(w:Nat))(hn:qR w d x)(hb:Nt w q d) :
  zE prog 120 #[v,(q,0)] w λe w'=>e = .returned (.bool (T x))/\zJ w w':=by
 obtain⟨_,b,s,k,h1,h2,f,g⟩:=hb;refine SB v q w d x T lo hi h c hn #[b,s,k] h1 (λj u a=>?_);match j,a with
 | 0,a=>cases a;exact h2
 | 1,a=>cases a;exact f
 | 2,a=>cases a;exact g
 |n+3,a=>simp at a
def zf0{x:Dg}(h:k<Ts.length)(a:Ts[k] x=true):gv Ts x=true:=Mn.2 ⟨Ts[k],xd h,a⟩
def cO{x:Dg}(h:k<Ts.length)(h0:gv (Ts.take k) x=false)(hT:Ts[k] x=false):gv (Ts.take (k+1)) x=false:=by
 unfold gv at *;exact oT
def SH(Ts:List gx)(a:Option yi)(c:Nat)(q:Nat)(r:zx)(x:Dg)(lo hi:Nat)(w:z7)(D:Ts.length<=1000000)(t:Zd lo hi w a Ts)(g:hi<=(w:Nat))(hn:qR w r x)(hb:Nt w q r) :
  zE prog 145 #[.slice a Ts.length c,.func (.func 120) #[] #[(q,0)]] w
   λe w'=>(∃n:Int,e = .returned n/\decide (0<=n)=gv Ts x)/\zJ w w':=by
 have A:=Z t;have z:=Z hn;have u:=Z hb;clear t hn hb;go_enter func145,ntmps145;go_wp2;go_loopw [8] (λi wr=>∃k:Nat,k<=Ts.length/\i = .int .i64 k/\gv (Ts.take k) x=false/\zJ w wr) (λi _=>Ts.length - (intOf i).toNat)
 case atStart=>exact⟨0,zG _,rfl,rfl,z8 _ _⟩
 case round =>
  obtain⟨k,C,rfl,j,d⟩:=hrel;have l:=Z j;clear j;by_cases h:k<Ts.length
  .obtain⟨b,v,rfl,hc,h1,h2,s⟩:=A.o k h;have B:wr.cell? (b.add k)=some v:=(by rw[d.cell (Y w _ hc)];exact hc);have p:=uO (lo:=lo) d g g;have f:=SE v q wr r x Ts[k] lo hi (s.keep p (X _) (X _)) (zZ g d.size) (z.o.below d) (u.o.below d);have y:=Z f;clear hc f s;go_wp2_with fail;refine y.o.mono ?_;rintro e w1 ⟨rfl,m⟩;have Cz:=d.trans (m.mono d.size);cases hTx:Ts[k] x
   .have HF:=Z (cO h l.o hTx);exact sb
   .have HF:=Z (zf0 h hTx);clear hTx;go_wp2;go_ret;exact⟨⟨_,rfl,by rw[HF.o];simp⟩,Cz⟩
  .obtain rfl:k=Ts.length:=(by omega);have j:=l.o;rw[kp]at j;have HF:=Z j;clear j l;go_wp2;go_ret;exact⟨⟨_,rfl,uZ⟩,d⟩
def CH(Ts:List gx)(a:Option yi)(c:Nat)(q:Nat)(d:zx)(x:Dg)(lo hi:Nat)(w:z7)(j:Ts.length<=1000000)(g:Zd lo hi w a Ts)(b:hi<=(w:Nat))(hn:qR w d x)(hb:Nt w q d) :
  zE prog 119 #[.slice a Ts.length c,.func (.func 120) #[] #[(q,0)]] w
   λe w'=>e = .returned (.bool (gv Ts x))/\zJ w w':=by
 have f:=SH Ts a c q d x lo hi w j g b hn hb;have i:=Z f;clear g hn hb f;go_enter func119,ntmps119;go_wp2_with fail;refine i.o.mono ?_;rintro e w1 ⟨⟨n,rfl,hn⟩,hb⟩;have h:=Z hn;clear hn;go_wp2;go_ret;exact⟨by rw[<-h.o];rfl,hb⟩
def cP(Ts:List gx)(a:Option yi)(c:Nat)(pl:Nat)(m:zx)(x:Dg)(lo hi:Nat)(w:z7)(r:Ts.length<=1000000)(l:Zd lo hi w a Ts)(f:hi<=(w:Nat))(hn:qR w m x)(hc:zy w pl 0 (.slice a Ts.length c)) :
  zE prog 118 #[m,(pl,0)] w λe w'=>e = .returned (.bool (gv Ts x))/\zJ w w':=by
 have s:∀(fn:Fn) (first cap:Array zx) (w:z7),(gP fn first cap).run prog w = .ok (.func fn first cap) w:=λ_ _ _ _=>rfl
 have p:=Z hn;obtain⟨h,g,go,cap,j,k',rfl⟩:=hn.form;have F:∃W,W=w.alloc (.cells #[.bool h,.slice (g,go) j cap,k'] 247)/\zJ w W/\W.heap.size=(w:Nat)+1/\Nt W (w:Nat) (.agg #[.bool h,.slice (g,go) j cap,k'])/\(w.alloc (.cells #[.bool h,.slice (g,go) j cap,k'] 247)).cell? (pl,0)=some (.slice a Ts.length c) :=
  ⟨_,rfl,(z8 _ _).alloc (X _) _,zY,⟨zY,_,_,_,rfl,qk,qk,by go_simp⟩,Sx⟩
 obtain⟨W,q,b,hs,d,t⟩:=F;have k:=CH Ts a c (w:Nat) _ x lo hi W r (l.keep (uO b f f) (X _) (X _)) J (p.o.below b) d;have n:=Z k;clear k l hn d;go_enter func118,ntmps118;go_wp2_with fail;rw[<-q];refine n.o.mono ?_;rintro e w1 ⟨rfl,hb⟩;have i:zJ w w1:=b.trans (hb.mono J);go_wp2;go_ret;exact⟨rfl,i⟩
def Nh(Ts:List gx)(a:Option yi)(c:Nat)(lo:Nat)(w:z7)(i:Ts.length<=1000000)(b:lo<=(w:Nat))(g:Zd lo (w:Nat) w a Ts) :
  zE prog 87 #[.slice a Ts.length c] w λe w'=>(∃v,e = .returned v/\kO lo w'.heap.size w' v (gv Ts))/\zJ w w':=by
 have j:∀(fn:Fn) (first cap:Array zx) (w:z7),(gP fn first cap).run prog w = .ok (.func fn first cap) w:=λ_ _ _ _=>rfl
 have h:=Z g;clear g;go_enter func87,ntmps87;go_wp2;go_ret;have hb:yX w w (w.alloc (.cells #[.slice a Ts.length c] 244)):=(z8 _ _).alloc (X _) _;refine⟨⟨_,rfl,118,_,rfl,λargs w=>enters_of func118 yy rfl args w,λW d k x hx=>?_⟩,hb⟩;have f:xS lo w.heap.size w W:=d.via (uO hb (X _) (X _)) (X _) hb.size;refine cP Ts a c _ k x lo w.heap.size W i (h.o.keep f (X _) (X _)) f.1 hx ((d.cell b zY).trans qk)
def zf1{x:Dg}(h:k<Ts.length)(a:Ts[k] x=false):allT Ts x=false:=by
 unfold allT;rw[List.all_eq_false];exact⟨Ts[k],xd h,by simp[a]⟩
def cR{x:Dg}(h:k<Ts.length)(a:allT (Ts.take k) x=true)(b:Ts[k] x=true):allT (Ts.take (k+1)) x=true:=by
 unfold allT at *;rw[zr h,ie,a];simp[b]
def tZ(Ts:List gx)(a:Option yi)(c:Nat)(pl:Nat)(I:zx)(x:Dg)(lo hi:Nat)(w:z7)(V:Ts.length<=1000000)(H:Zd lo hi w a Ts)(t:hi<=(w:Nat))(hn:qR w I x)(hc:zy w pl 0 (.slice a Ts.length c)) :
  zE prog 121 #[I,(pl,0)] w λe w'=>e = .returned (.bool (allT Ts x))/\zJ w w':=by
 have N:=Z hn;obtain⟨z,g,go,cap,C,k',rfl⟩:=hn.form;have F:∃W,W=w.alloc (.cells #[.bool z,.slice (g,go) C cap,k'] 247)/\zJ w W/\W.heap.size=(w:Nat)+1/\Nt W (w:Nat) (.agg #[.bool z,.slice (g,go) C cap,k'])/\(w.alloc (.cells #[.bool z,.slice (g,go) C cap,k'] 247)).cell? (pl,0)=some (.slice a Ts.length c) :=
  ⟨_,rfl,(z8 _ _).alloc (X _) _,zY,⟨zY,_,_,_,rfl,qk,qk,by go_simp⟩,Sx⟩
 obtain⟨W,E,l,hs,r,P⟩:=F;have O:=Z (H.keep (uO l t t) (X _) (X _));have u:=Z (N.o.below l);have j:hi<=(W:Nat):=J;clear H hn;go_enter func121,ntmps121;go_wp2_with fail;rw[<-E];clear E P hc;obtain⟨B,hB⟩:∃B,B=(w:Nat):=⟨_,rfl⟩;rw[<-hB]at r|-;have L:=Z hB;clear hB;go_loopw [8] (λi wr=>∃k:Nat,k<=Ts.length/\i = .int .i64 k/\allT (Ts.take k) x=true/\zJ W wr) (λi _=>Ts.length - (intOf i).toNat)
 case atStart=>exact⟨0,zG _,rfl,rfl,z8 _ _⟩
 case round =>
  obtain⟨k,U,rfl,n,d⟩:=hrel;have y:=Z n;clear n;have f:zJ w wr:=l.trans (d.mono J);by_cases m:k<Ts.length
  .obtain⟨b,v,rfl,hc,h1,h2,D⟩:=O.o k m;have R:wr.cell? (b.add k)=some v:=(by rw[d.cell (Y W _ hc)];exact hc);have A:=uO (lo:=lo) d j j;obtain⟨K,T,rfl,G,h⟩:=D.keep A (X _) (X _);have s:=h wr (vX (zZ j d.size)) _ x (u.o.below d);have M:=Z s;obtain⟨_,S,ss,kk,Q,c0,c1,c2⟩:=r.below d;cases Q;clear hc h s D;go_wp2_with fail;refine M.o.mono ?_;rintro e w1 ⟨rfl,p⟩;have Cz:=d.trans (p.mono d.size);have q:zJ w w1:=f.trans (p.mono f.size);cases hTx:Ts[k] x
   .have HF:=Z (zf1 m hTx);clear hTx;go_wp2;go_ret;exact⟨uZ,q⟩
   .have HF:=Z (cR m y.o hTx);exact sb
  .obtain rfl:k=Ts.length:=(by omega);have n:=y.o;rw[kp]at n;have HF:=Z n;clear n y;go_wp2;go_ret;exact⟨uZ,f⟩
def zf2(Ts:List gx)(a:Option yi)(c:Nat)(lo:Nat)(w:z7)(i:Ts.length<=1000000)(b:lo<=(w:Nat))(g:Zd lo (w:Nat) w a Ts) :
  zE prog 89 #[.slice a Ts.length c] w λe w'=>(∃v,e = .returned v/\kO lo w'.heap.size w' v (allT Ts))/\zJ w w':=by
 have j:∀(fn:Fn) (first cap:Array zx) (w:z7),(gP fn first cap).run prog w = .ok (.func fn first cap) w:=λ_ _ _ _=>rfl
 have h:=Z g;clear g;go_enter func89,ntmps89;go_wp2;go_ret;have hb:yX w w (w.alloc (.cells #[.slice a Ts.length c] 244)):=(z8 _ _).alloc (X _) _;refine⟨⟨_,rfl,121,_,rfl,λargs w=>enters_of func121 yy rfl args w,λW d k x hx=>?_⟩,hb⟩;have f:xS lo w.heap.size w W:=d.via (uO hb (X _) (X _)) (X _) hb.size;refine tZ Ts a c _ k x lo w.heap.size W i (h.o.keep f (X _) (X _)) f.1 hx ((d.cell b zY).trans qk)
def bo{F:Dg->Dg}(he:∀args w,(callFunc k args).run prog w = .ok (.enter k args) w)(h:∀v x w,qR w v x->zE prog k #[v] w (kK (F x) w))(lo hi:Nat)(w:z7):OpR lo hi w (.func (.func k) #[] #[]) F :=
 ⟨k,#[],rfl,he,λW _ a x hx=>h a x W hx⟩
def tY(r:Option (Dg->Dg))(w:z7)(e:gG)(w':z7):Prop :=
 (match r with|none=>e = .returned .nilFunc|some F=>∃v,e = .returned v/\∀lo hi W,OpR lo hi W v F)/\w=w'
def Le(c:ByteArray)(w:z7):zE prog 122 #[.string c] w (tY (xF c.data.toList) w):=by
 have a:=uu c;by_cases h1:c.data.toList=[110]
 .have hf:xF c.data.toList=some (λx=>x):=by unfold xF;rw[zl h1]
  rw[hf];have q1:(c.toList==[110])=true:=by rw[a,h1];decide
  clear a h1 hf;go_enter func122,ntmps122;go_wp2;go_ret;exact⟨⟨_,rfl,bo (λargs w=>enters_of func146 yy rfl args w) (λv x w h=>zgd v x w h)⟩,rfl⟩
 have q1:(c.toList==[110])=false:=by rw[a];simpa using h1
 by_cases h2:c.data.toList=[105]
 .have hf:xF c.data.toList=some (λx=>(uY x.1,[])):=by unfold xF;rw[zL h1,zl h2]
  rw[hf];have q2:(c.toList==[105])=true:=by rw[a,h2];decide
  clear a h1 h2 hf;go_enter func122,ntmps122;go_wp2;go_ret;exact⟨⟨_,rfl,bo (λargs w=>enters_of func147 yy rfl args w) (λv x w h=>xqg v x w h)⟩,rfl⟩
 have q2:(c.toList==[105])=false:=by rw[a];simpa using h2
 by_cases b:c.data.toList=[118]
 .have hf:xF c.data.toList=some (λx=>(xv x.2.length,[])):=by unfold xF;rw[zL h1,zL h2,zl b]
  rw[hf];have g:(c.toList==[118])=true:=by rw[a,b];decide
  clear a h1 h2 b hf;go_enter func122,ntmps122;go_wp2;go_ret;exact⟨⟨_,rfl,bo (λargs w=>enters_of func150 yy rfl args w) (λv x w h=>xqj v x w h)⟩,rfl⟩
 have g:(c.toList==[118])=false:=by rw[a];simpa using b
 by_cases d:c.data.toList=[119]
 .have hf:xF c.data.toList=some (λx=>(xv (yE x.2).length,[])):=by unfold xF;rw[zL h1,zL h2,zL b,zl d]
  rw[hf];have i:(c.toList==[119])=true:=by rw[a,d];decide
  clear a h1 h2 b d hf;go_enter func122,ntmps122;go_wp2;go_ret;exact⟨⟨_,rfl,bo (λargs w=>enters_of func152 yy rfl args w) (λv x w h=>xqf v x w h)⟩,rfl⟩
 have i:(c.toList==[119])=false:=by rw[a];simpa using d
 by_cases e:c.data.toList=[102]
 .have hf:xF c.data.toList=some (λx=>(uY x.2,[])):=by unfold xF;rw[zL h1,zL h2,zL b,zL d,zl e]
  rw[hf];have j:(c.toList==[102])=true:=by rw[a,e];decide
  clear a h1 h2 b d e hf;go_enter func122,ntmps122;go_wp2;go_ret;exact⟨⟨_,rfl,bo (λargs w=>enters_of func154 yy rfl args w) (λv x w h=>xqd v x w h)⟩,rfl⟩
 have j:(c.toList==[102])=false:=by rw[a];simpa using e
 by_cases f:c.data.toList=[116]
 .have hf:xF c.data.toList=some (λx=>(uY (yE x.2),[])):=by unfold xF;rw[zL h1,zL h2,zL b,zL d,zL e,zl f]
  rw[hf];have k:(c.toList==[116])=true:=by rw[a,f];decide
  clear a h1 h2 b d e f hf;go_enter func122,ntmps122;go_wp2;go_ret;exact⟨⟨_,rfl,bo (λargs w=>enters_of func156 yy rfl args w) (λv x w h=>xqb v x w h)⟩,rfl⟩
 have k:(c.toList==[116])=false:=by rw[a];simpa using f
 have hf:xF c.data.toList=none:=by unfold xF;rw[zL h1,zL h2,zL b,zL d,zL e,zL f]
 rw[hf];clear a h1 h2 b d e f hf;go_enter func122,ntmps122;exact Jf
def Nw{p:yi}{u0 u1 u2:zx}(h:W.cell? p=some v)(hp:p.block≠q):(((W.setCell (q,0) u0).setCell (q,1) u1).setCell (q,2) u2).cell? p=some v:=by
 refine(yZ ?_).trans h;rw[zh _ _ _ _ hp,zh _ _ _ _ hp,zh _ _ _ _ hp]
def pF(nv:zx)(x:Dg)(s pm:Nat)(wv:zx)(m:Nat)(F:Dg->Dg)(lo hi:Nat)(w:z7)(hn:qR w nv x)(hm:m<=1000000000)(S:0<m)(cw:zy w s 0 wv)(M:zy w pm 0 m)(hw:OpR lo hi w wv F)(z:hi<=(w:Nat)) :
  zE prog 124 #[nv,(s,0),(pm,0)] w (kK (RI F m x) w):=by
 have HN:=Z hn;obtain⟨b,g,go,cap,D,k',rfl⟩:=hn.form;obtain⟨i,f⟩:=du w (.cells #[.bool b,.slice (g,go) D cap,k'] 247);have F0:∃W,W=(w.alloc (.cells #[.bool b,.slice (g,go) D cap,k'] 247)).alloc (.cells #[.bool false,.slice none 0 0,.int .i64 0] 247)/\zy W (w:Nat) 0 (.bool b)/\zy W (w:Nat) 1 (.slice (g,go) D cap)/\W.cell? (w,2)=some (.int .i64 k') :=
  ⟨_,rfl,qk,qk,qk⟩
 obtain⟨W,R,d0,d1,d2⟩:=F0;rw[<-R]at i f;have Q:=(i.cell (p:=(zX s 0)) (Y w _ cw)).trans cw;have P:=(i.cell (p:=(zX pm 0)) (Y w _ M)).trans M;obtain⟨L,N,rfl,tX,q⟩:=hw.keep (uO i z z) (X _) (X _);have HC:=Z (q W.drew (show xS lo hi W W.drew from vX (zZ z i.size)) _ x (HN.o.below i.drew));have U:=Y w _ cw;have T:=Y w _ M;dsimp only at U T;clear q hn cw M;go_enter func124,ntmps124;go_wp2_with fail;rw[<-R];clear R;obtain⟨B,hB⟩:∃B,B=(w:Nat):=⟨_,rfl⟩;rw[<-hB]at d0 d1 d2 f|-;have HB:=Z hB;clear hB;have G:zy W.drew B 0 (.bool b)/\zy W.drew B 1 (.slice (g,go) D cap)/\zy W.drew B 2 k'/\zy W.drew s 0 (.func (.func L) #[] N)/\zy W.drew pm 0 m:=⟨d0,d1,d2,Q,P⟩;refine xb (λW':z7=>zy W' B 0 (.bool b)/\zy W' B 1 (.slice (g,go) D cap)/\zy W' B 2 k'/\zy W' s 0 (.func (.func L) #[] N)/\zy W' pm 0 m)
  [0,1,3] 3 fy yy yy G ?_
 (iterate 3 ((first|refine ty ?_|refine tn ?_);try simp only[pl]))
 refine yA ?_;refine bF 2 (λK hK=>?_);go_simp;refine HC.o.mono ?_;rintro e w1 ⟨⟨v1,rfl,A⟩,t⟩;have a:∀{p:yi} {u:zx},W.cell? p=some u->w1.cell? p=some u:=λ{p u} h=>(t.cell (Y W p h)).trans h
 have j:zy w1 B 0 (.bool b)/\zy w1 B 1 (.slice (g,go) D cap)/\zy w1 B 2 k'/\zy w1 s 0 (.func (.func L) #[] N)/\zy w1 pm 0 m:=⟨a d0,a d1,a d2,a Q,a P⟩;have I:=(show Kd W.drew (B+1) from⟨f.c0,f.c1,f.c2,f.z0,f.z1,f.z2,f.lt⟩).below t;have r:zJ w w1:=i.drew.trans (t.mono i.size);refine hK.out _ _ j λ_=>?_;clear hK K G a d0 d1 d2 Q P;have HM:=Z (zgb v1 (F x) m w1 A hm S);obtain⟨b1,g1,go1,V,n1,k1,rfl⟩:=A.form;clear A;refine bF 4 (λK hK=>?_);go_simp;refine HM.o.mono ?_;rintro e w2 ⟨⟨v2,rfl,C⟩,y⟩;have a:∀{p:yi} {u:zx},w1.cell? p=some u->w2.cell? p=some u:=λ{p u} h=>(y.cell (Y w1 p h)).trans h
 have n:zy w2 B 0 (.bool b)/\zy w2 B 1 (.slice (g,go) D cap)/\zy w2 B 2 k'/\zy w2 s 0 (.func (.func L) #[] N)/\zy w2 pm 0 m:=⟨a j.1,a j.2.1,a j.2.2.1,a j.2.2.2.1,a j.2.2.2.2⟩;have k:=I.below y;have H:zJ w w2:=r.trans (y.mono r.size);refine hK.out _ _ n λ_=>?_;clear hK K a j I;have O:=Z C;obtain⟨b2,g2,l,c,E,k2,rfl⟩:=C.form;clear C;have c0:=k.c0;have c1:=k.c1;have c2:=k.c2;have z0:=k.z0;have z1:=k.z1;have z2:=k.z2;refine bF 5 (λK hK=>?_);go_simp;have hB1:=HB.o;have e0:=Nw (u0 := .bool b2) (u1 := .slice (g2,l) E c) (u2 := .int .i64 k2) n.1 (show B≠B+1 by omega);have e1:=Nw (u0 := .bool b2) (u1 := .slice (g2,l) E c) (u2 := .int .i64 k2) n.2.1 (show B≠B+1 by omega);have e2:=Nw (u0 := .bool b2) (u1 := .slice (g2,l) E c) (u2 := .int .i64 k2) n.2.2.1 (show B≠B+1 by omega);have e3:=Nw (u0 := .bool b2) (u1 := .slice (g2,l) E c) (u2 := .int .i64 k2) n.2.2.2.1 (show s≠B+1 by omega);have e4:=Nw (u0 := .bool b2) (u1 := .slice (g2,l) E c) (u2 := .int .i64 k2) n.2.2.2.2 (show pm≠B+1 by omega);refine hK.out _ _ ⟨e0,e1,e2,e3,e4⟩ λ_=>?_;clear hK K e0 e1 e2 e3 e4;refine fR ?_ _;go_wp2;refine zU (v := .agg #[.bool b2,.slice (g2,l) E c,k2]) ?_ rfl ?_
 .simp[yk,results124,go_sem,c0,c1,c2]
 exact JQ (w:=w) O.o k J H
def NZ(nv:zx)(x:Dg)(pi po s:Nat)(iv ov:zx)(v:Bool)(T:gx)(F:Dg->Dg)(lo hi:Nat)(w:z7)(hn:qR w nv x)(L:zy w pi 0 iv)(co:zy w po 0 ov)(M:zy w s 0 (.bool v))(hI:kO lo hi w iv T)(hO:OpR lo hi w ov F)(j:hi<=(w:Nat)) :
  zE prog 127 #[nv,(pi,0),(po,0),(s,0)] w λe w'=>e = .returned (.bool (T (F x) !=v))/\zJ w w':=by
 have HN:=Z hn;obtain⟨b,g,go,cap,t,k',rfl⟩:=hn.form;have F0:∃W,W=w.alloc (.cells #[.bool b,.slice (g,go) t cap,k'] 247)/\zJ w W/\zy W (w:Nat) 0 (.bool b)/\zy W (w:Nat) 1 (.slice (g,go) t cap)/\W.cell? (w,2)=some (.int .i64 k') :=
  ⟨_,rfl,(z8 _ _).alloc (X _) _,qk,qk,qk⟩
 obtain⟨W,V,c,d0,d1,d2⟩:=F0;have N:=(c.cell (p:=(zX pi 0)) (Y w _ L)).trans L;have P:=(c.cell (p:=(zX po 0)) (Y w _ co)).trans co;have O:=(c.cell (p:=(zX s 0)) (Y w _ M)).trans M;obtain⟨E,H,rfl,tX,k⟩:=hO.keep (uO c j j) (X _) (X _);have HC:=Z (k W.drew (show xS lo hi W W.drew from vX (zZ j c.size)) _ x (HN.o.below c.drew));obtain⟨G,l,rfl,Q,i⟩:=hI.keep (uO c j j) (X _) (X _);have I:=Z i;clear k i hn L co M;go_enter func127,ntmps127;go_wp2_with fail;rw[<-V];clear V;obtain⟨B,hB⟩:∃B,B=(w:Nat):=⟨_,rfl⟩;rw[<-hB]at d0 d1 d2|-;have HB:=Z hB;clear hB;have y:zy W.drew B 0 (.bool b)/\zy W.drew B 1 (.slice (g,go) t cap)/\zy W.drew B 2 k'/\zy W.drew pi 0 (.func (.func G) #[] l)/\zy W.drew po 0 (.func (.func E) #[] H)/\zy W.drew s 0 (.bool v):=⟨d0,d1,d2,N,P,O⟩;refine xb (λW':z7=>zy W' B 0 (.bool b)/\zy W' B 1 (.slice (g,go) t cap)/\zy W' B 2 k'/\zy W' pi 0 (.func (.func G) #[] l)/\zy W' po 0 (.func (.func E) #[] H)/\zy W' s 0 (.bool v))
  [0,1,2,5] 4 fy yy yy y ?_
 (iterate 4 ((first|refine ty ?_|refine tn ?_);try simp only[pl]))
 refine yA ?_;refine bF 3 (λK hK=>?_);go_simp;refine HC.o.mono ?_;rintro e w1 ⟨⟨v1,rfl,q⟩,n⟩;have a:∀{p:yi} {u:zx},W.cell? p=some u->w1.cell? p=some u:=λ{p u} h=>(n.cell (Y W p h)).trans h
 have f:zy w1 B 0 (.bool b)/\zy w1 B 1 (.slice (g,go) t cap)/\zy w1 B 2 k'/\zy w1 pi 0 (.func (.func G) #[] l)/\zy w1 po 0 (.func (.func E) #[] H)/\zy w1 s 0 (.bool v):=⟨a d0,a d1,a d2,a N,a P,a O⟩;have m:zJ w w1:=c.drew.trans (n.mono c.size);have D:hi<=(W:Nat):=zZ j c.size;have R:xS lo hi W w1:=uO (w:=W.drew) n D D;refine hK.out _ _ f λ_=>?_;clear hK K y a d0 d1 d2 N P O;have S:=Z (I.o w1 R v1 (F x) q);obtain⟨b1,g1,go1,U,n1,k1,rfl⟩:=q.form;clear q;refine bF 4 (λK hK=>?_);go_simp;refine S.o.mono ?_;rintro e w2 ⟨rfl,A⟩;have a:∀{p:yi} {u:zx},w1.cell? p=some u->w2.cell? p=some u:=λ{p u} h=>(A.cell (Y w1 p h)).trans h
 have z:zy w2 B 0 (.bool b)/\zy w2 B 1 (.slice (zX g go) t cap)/\zy w2 B 2 k'/\zy w2 pi 0 (.func (.func G) #[] l)/\zy w2 po 0 (.func (.func E) #[] H)/\zy w2 s 0 (.bool v):=⟨a f.1,a f.2.1,a f.2.2.1,a f.2.2.2.1,a f.2.2.2.2.1,a f.2.2.2.2.2⟩;have C:zJ w w2:=m.trans (A.mono m.size);refine hK.out _ _ z λ_=>?_;clear hK K a f;obtain⟨r,hr⟩:=zo (T (F x));rw[hr];have HR:=Z hr;clear S hr;refine Xo [6,7] 0 z ?_;refine fR ?_ _;go_wp2;go_ret;exact⟨by rw[HR.o];rfl,C⟩
def dZ(c:UInt8)(w:z7):zE prog 116 #[.int .u8 c.toNat] w λe w'=>e = .returned (.int .i64 (yJ c))/\w=w':=by
 have b:=c.toNat_lt;obtain⟨n,hn⟩:∃n,n=c.toNat:=⟨_,rfl⟩;obtain⟨r,hr⟩:=zo (yJ c);rw[hr];unfold yJ at hr;rw[<-hn]at b hr|-;by_cases h1:97<=n/\n<=122
 .rw[zl h1]at hr;subst hr;have a1:decide ((97:Int)<=(n:Int))=true:=by simp;omega
  have a2:decide ((n:Int)<=(122:Int))=true:=zV;exact Wc
 .rw[zL h1]at hr;by_cases h2:48<=n/\n<=57
  .rw[zl h2]at hr;subst hr;exact Wc
  .rw[zL h2]at hr;by_cases a:n=32
   .rw[zl a]at hr;subst hr;subst a;exact Wc
   .rw[zL a]at hr;subst hr;have a3:((n:Int)==32)=false:=(by simp;omega);exact Wc
variable{t ws:List Wd}{p:Nat}
def xj.keep(h:xj p w w')(hp:p<lo)(hi':hi<=(w:Nat)):xS lo hi w w' :=
 ⟨zZ hi' h.size,λk h1 h2=>h.block k J J⟩
def Li(w:z7)(k:Nat):Prop:=∃cs fr,w.heap[k]? = some (.cells cs 9 fr)
def Li.of(h:Li w k)(he:w'.heap[k]? = w.heap[k]?):Li w' k:=by
 obtain⟨cs,fr,h⟩:=h;exact⟨cs,fr,he.trans h⟩
def fB(w:z7)(p:Nat)(ws:List Wd):Prop :=
 ∃a cap,zy w p 0 (.slice a ws.length cap)/\w.frozen? (p,0)=false/\ws.length<=cap/\cap<=maxLen/\∀j (h:j<ws.length),∃b,a=some b/\(b.block≠p/\Li w b.block)/\w.cell? (b.add j)=some (zv ws[j])
def fB.lt(h:fB w p ws):p<(w:Nat):=by
 obtain⟨a,cap,hc,_⟩:=h;exact Y w _ hc
def fB.below(h:fB w p ws)(hb:zJ w w'):fB w' p ws:=by
 have c:=h.lt;obtain⟨a,cap,hc,hf,h1,h2,e⟩:=h;refine⟨a,cap,(hb.cell c).trans hc,(hb.frozen c).trans hf,h1,h2,λj f=>?_⟩;obtain⟨b,e1,e2,e3⟩:=e j f;have d:=Y w _ e3;rw[addr_add]at d;exact⟨b,e1,⟨e2.1,e2.2.of (hb.block _ d)⟩,(hb.cell (Y w _ e3)).trans e3⟩
def fB.pass{b:yi}{x:Wd}(hf:w.frozen? (p,0)=false)(hc:zy w p 0 (.slice (some b) (t.length+1) cap))(h1:t.length+1<=cap)(h2:cap<=maxLen)(hb:b.block≠p/\Li w b.block)(hw:∀j (h:j<(x::t).length),w.cell? (b.add j)=some (zv (x::t)[j])) :
  fB (w.setCell (p,0) (.slice (some (b.add 1)) t.length (cap - 1))) p t:=by
 refine⟨some (b.add 1),cap - 1,by rw[uk (h:=hc)],by simpa using hf,J,J,λj a=>⟨b.add 1,rfl,by rw[addr_add];exact⟨hb.1,hb.2.of (zh _ _ _ _ hb.1)⟩,?_⟩⟩;have:=hw (j+1) zV;rw[add_add,Nat.add_comm 1 j,yx (h:=λe=>hb.1 (by rw[<-addr_add b (j+1),<-e]))];simpa using this
def fB.last{b:yi}(hf:w.frozen? (p,0)=false)(hc:zy w p 0 (.slice (some b) n cap)) :
  fB (w.setCell (p,0) (.slice (some b) 0 0)) p [] :=
 ⟨some b,0,by rw[uk (h:=hc)];rfl,by simpa using hf,X _,zG _,λj a=>absurd a (uf j)⟩
def Dw(ms:List Wd)(ws:List Wd):Bool:=ms.any (λm=>Zg m ws)
def zrx(p:Nat)(ms ws:List Wd)(w:z7)(e:gG)(w':z7):Prop :=
 e = .returned (.bool (Dw ms ws))/\fB w' p (if Dw ms ws then ws.tail else ws)/\xj p w w'/\(w':Nat)=(w:Nat)
def zf3{a:List Wd}(h:k<a.length)(b:Zg a[k] ws=true):Dw a ws=true:=Mn.2 ⟨a[k],xd h,b⟩
def EN{a:List Wd}(h:k<a.length)(h0:Dw (a.take k) ws=false)(hT:Zg a[k] ws=false):Dw (a.take (k+1)) ws=false:=by
 unfold Dw at *;exact oT
def tV(p:Nat)(e ws:List Wd)(v:zx)(w:z7)(hp:fB w p ws)(hm:yM w v e)(I:e.length<=1000) :
  zE prog 117 #[(p,0),v] w (zrx p e ws w):=by
 have A:=Z hp;obtain⟨a,cap,hc,hf,h1,h2,u⟩:=hp;obtain⟨a2,s,rfl,K,L,M,y⟩:=hm;have z:=Z y;have r:=Z u;clear y u;have hmx:cap<=9223372036854775807:=RZ;go_enter func117,ntmps117;go_wp2;go_loop [9] (λi=>∃k:Nat,k<=e.length/\i = .int .i64 k/\Dw (e.take k) ws=false) (λi=>e.length - (intOf i).toNat)
 case atStart=>exact⟨0,zG _,rfl,rfl⟩
 case round =>
  obtain⟨k,H,rfl,h⟩:=hrel;have n:=Z h;clear h;by_cases g:k<e.length
  .obtain⟨b2,rfl,B⟩:=z.o k g;obtain c|⟨x,t,c⟩:ws=[]\/∃x t,ws=x::t:=by
    cases ws with
    |nil=>exact .inl rfl
    |cons x t=>exact .inr ⟨x,t,rfl⟩
   .have m:Zg e[k] ws=false:=(by rw[c];rfl);have HF:=Z (EN g n.o m);rw[c]at hc;clear m c;go_wp2;exact⟨⟨k+1,J,xi,HF.o⟩,Lx⟩
   .obtain⟨b,rfl,hb,hx⟩:=r.o 0 (by rw[c];simp);have F:w.cell? b=some (zv x):=by
     have:(b.add 0)=b:=IC;rw[this]at hx;rw[hx];simp[c]
    have f:=vy e[k] x t;have d:ws.length=t.length+1:=(by rw[c];rfl);rw[d]at hc h1;clear hx;cases m:(x==e[k])
    .have HF:=Z (EN g n.o (by rw[c,f,m]));have l:=Z c;clear f c d;go_wp2;exact⟨⟨k+1,J,xi,HF.o⟩,Lx⟩
    .have HF:=Z (zf3 (ws:=ws) g (by rw[c,f,m]));have l:=Z c;clear f c d;by_cases q:cap=1
     .have E:t=[]:=zF J;subst E;subst q;go_wp2;go_ret;refine⟨by rw[HF.o];rfl,?_,xj.set p w 0 _,ZA⟩;rw[zl HF.o,l.o];exact fB.last hf hc
     .have D:¬(cap:Int)=1:=(by omega);go_wp2;go_ret;refine⟨uZ,?_,xj.set p w 0 _,ZA⟩;rw[zl HF.o,l.o];refine fB.pass hf hc h1 h2 hb (x:=x) (λj C=>?_);obtain⟨G,e1,_,e3⟩:=r.o j (by rw[l.o];exact C);cases e1;rw[e3];simp[l.o]
  .obtain rfl:k=e.length:=(by omega);have h:=n.o;rw[kp]at h;have HF:=Z h;clear h n;go_wp2;go_ret;refine⟨uZ,?_,xj.refl _ _,rfl⟩;rw[HF.o];exact A.o
structure RT(p:Nat)(w:z7):Prop where
 s:∃t v,zy w 5 0 (.iface t v)
 r:∃t v,zy w 6 0 (.iface t v)
 ns:5≠p
 nr:6≠p
def RT.but(h:RT p w)(hb:xj p w w'):RT p w':=by
 obtain⟨⟨t,v,hs⟩,⟨t2,v2,hr⟩,h1,h2⟩:=h;exact⟨⟨t,v,hb.cell hs h1⟩,⟨t2,v2,hb.cell hr h2⟩,h1,h2⟩
structure Ll(x:Wd):Prop where
 ne:x≠[]
 len:x.length<=1000
 form:x.all yn=true\/yn (x.headD 0)=false
def GH:∀(l:List UInt8) (acc:Nat),l.all yn=true->zey acc l=some (l.foldl (λv c=>10*v+(c.toNat - 48)) acc)
 |[],_,_=>rfl
 |c::t,acc,h=>by
  simp only[kP,zQ]at h;have hc:=(xe c).1 h.1;rw[zey,Lib.digitVal,zl J];dsimp only;rw[GH t _ h.2,QA,Nat.mul_comm acc 10]
def tU(h:l.all yn=true)(hn:l≠[]):Lib.atoi l=some (xG l:Int):=by
 cases l with
 |nil=>exact absurd rfl hn
 |cons c t =>
  have hd:=h;simp only[kP,zQ]at hd;have hc:=(xe c).1 hd.1;have b:(c==45)=false:=Im;have a:(c==43)=false:=Im;rw[Lib.atoi,b,a];simp only[Bool.false_eq_true,if_false,Lib.decNat];rw[zL zY,GH _ 0 h];rfl
def below_bytesWorld(w:z7)(e:uP)(t:ByteArray):yX w w (Lib.bytesWorld w e t):=Lib.bytesWorld_below _ _ _
def O0(p:Nat)(s:ByteArray)(w:z7)(hs:s.size<=1000)(a:RT p w) :
  zE prog 100 #[.string s] w λe w'=>(∃v ev,e = .returned (.tuple #[.int .i64 v,ev])/\(ev = .nilIface\/∃N,ev = .iface 282 (.pointer (some N))))/\zJ w w':=by
 obtain⟨⟨t,v,hS⟩,⟨t2,v2,hR⟩,_,_⟩:=a;cases h:Gj s.data.toList with
 |ok n =>
  refine(Tryz.strconv_Atoi_ok s J n h w).mono ?_;rintro e w' ⟨rfl,rfl|⟨t,rfl⟩⟩
  .exact⟨⟨_,_,rfl,.inl rfl⟩,z8 _ _⟩
  .exact⟨⟨_,_,rfl,.inl rfl⟩,below_bytesWorld _ _ _⟩
 |range =>
  refine(Tryz.strconv_Atoi_range s J h _ w hR (.inr ⟨_,_,rfl⟩)).mono ?_;exact rG
 |_ =>
  refine(Tryz.strconv_Atoi_none s J (λv q=>by rw[h]at q;cases q) (λq=>by rw[h]at q;cases q) _ w hS (.inr ⟨_,_,rfl⟩)).mono ?_;exact rG
def tQ(s:ByteArray)(w:z7)(hs:s.size<=9)(hd:s.data.toList.all yn=true)(hn:s.data.toList≠[]) :
  zE prog 100 #[.string s] w λe w'=>e = .returned (.tuple #[.int .i64 (xG s.data.toList),.nilIface])/\zJ w w':=by
 refine(Tryz.strconv_Atoi s (xG s.data.toList) J (tU hd hn) w).mono ?_;rintro e w' ⟨rfl,t,rfl⟩;exact⟨rfl,below_bytesWorld _ _ _⟩
abbrev Lm:gG := .panicked [{ v := .iface 205 (.agg #[]),recovered:=false }]
def zrv(p:Nat)(r:Option (Nat×List Wd))(w:z7)(e:gG)(w':z7):Prop :=
 (match r with|none=>e=Lm|some (v,t)=>e = .returned v/\fB w' p t)/\xj p w w'
def zf4{x:Wd}(hd:x.all yn=true)(hn:x≠[]):vW x=(decide (x.length<=9) && (decide (x.length=1) ||decide (x.headD 0≠48))):=by
 unfold vW qU;rw[hd];cases x with
 |nil=>exact absurd rfl hn
 |cons c t=>simp
def YE(c:UInt8):(yJ c=2) ↔ yn c=true:=by
 rw[xe];unfold yJ;split
 .exact IF
 split
 .exact IF
 split
 .exact IF
 .exact IF
def SI(p:Nat)(w:z7)(hp:fB w p []):zE prog 123 #[(p,0)] w (zrv p none w):=by
 obtain⟨a,cap,hc,hf,h1,h2,b⟩:=hp;clear b;go_enter func123,ntmps123;go_wp2;exact⟨rfl,rfl,xj.refl _ _⟩
def fB.step{b:yi}{x:Wd}(h:fB w p (x::t))(hc:zy w p 0 (.slice (some b) (t.length+1) cap)) :
  fB (w.setCell (p,0) (.slice (some (b.add 1)) t.length (cap - 1))) p t/\(t=[]->fB (w.setCell (p,0) (.slice (some b) 0 0)) p t):=by
 obtain⟨a,d,c,hf,h1,h2,e⟩:=h;rw[hc]at c;cases c;obtain⟨f,e1,e2,_⟩:=e 0 zY;cases e1;refine⟨fB.pass hf hc (by simpa using h1) h2 e2 (x:=x) (λj g=>?_),λi=>?_⟩
 .obtain⟨f,e1,_,e3⟩:=e j g;cases e1;exact e3
 .subst i;exact fB.last hf hc
def SL(c:UInt8)(t:List UInt8)(h:0<(jW (c::t).toArray).size):(jW (c::t).toArray)[0]=c:=Rb
def O1(p:Nat)(c:UInt8)(f:List UInt8)(t:List Wd)(w:z7)(hp:fB w p ((c::f)::t))(hx:Ll (c::f))(R:RT p w) :
  zE prog 123 #[(p,0)] w (zrv p (uE ((c::f)::t)) w):=by
 have HP:=Z hp;have HX:=Z hx;have P:=Z R;have D:=hp.lt;obtain⟨a,cap,hc,hf,h1,h2,Q⟩:=hp;obtain⟨b,rfl,hb,A⟩:=Q 0 zY;have F:w.cell? b=some (zv (c::f)):=by
  have:(b.add 0)=b:=IC;rw[this]at A;exact A
 have hmx:cap<=9223372036854775807:=RZ;have u:((c::f)::t).length=t.length+1:=rfl;rw[u]at hc h1;obtain⟨r,hr⟩:=zo (uE ((c::f)::t));rw[hr];have G:=Z hr;obtain⟨s,hs⟩:∃s:ByteArray,s=⟨(c::f).toArray⟩:=⟨_,rfl⟩;have L:0<s.size:=by rw[hs,size_mk];simp
 have k:s.size=f.length+1:=by rw[hs,size_mk];rfl
 have q:s[0]=c:=by subst hs;exact SL c f L
 have O:=hx.len;have E:s.size<=1000:=by rw[k];simpa using O
 have j:s.data.toList=c::f:=by rw[hs]
 have EO:w.cell? b=some (.string s):=by rw[F,hs]
 clear A Q hr F hx R hs;have HG:=Z q;have T:=Z j;have U:=Z k;by_cases hd:yn c=true
 .have g:(c::f).all yn=true:=by
   rcases HX.o.form with h|h
   .exact h
   .exact absurd hd Y3
  have n:yJ c=2:=(YE c).2 hd;have i:((yJ c:Int) !=2)=false:=by rw[n];decide
  have d:=λW=>dZ c W
  have l:=zf4 g zY;by_cases h9:s.size<=9
  .have z:(c::f).length<=9:=(by simp;omega);rw[decide_eq_true z,ze8]at l;have I:decide ((9:Int)<(s.size:Int))=false:=zV;have HA:=Z (tQ s w h9 (by rw[j];exact g) (by rw[j];simp));by_cases B:1<s.size/\c=48
   .have m:r=none:=by
     rw[<-G.o];have:vW (c::f)=false:=by
      rw[l];simp[B.2];intro e;rw[e]at k;simp at k;omega
     simp[uE,this]
    subst m;have C:((s[0].toNat:Int)==48)=true:=(by rw[q,B.2];decide);have e1:decide ((1:Int)<(s.size:Int))=true:=zV;rw[<-q]at d i;have HCW:=Z d;clear n d q j hd g l B k;go_enter func123,ntmps123;go_wp2_with fail;refine HA.o.mono ?_;rintro e w1 ⟨rfl,qV⟩;go_wp2_with fail;refine(HCW.o _).mono ?_;rintro e w2 ⟨rfl,rfl⟩;go_wp2;exact⟨rfl,rfl,xj.of qV⟩
   .have y:vW (c::f)=true:=by
     rw[l];by_cases H:f.length=0
     .simp[H]
     .have:¬c=48:=λe=>B ⟨J,e⟩
      simp[this]
    have m:r=some (xG (c::f),t):=by
     rw[<-G.o];simp[uE,y]
    subst m;have HSV:=Z j;rw[<-q]at d i;have HCW:=Z d;have x:∀W,zJ w W->zy W p 0 (.slice (some b) (t.length+1) cap)/\W.frozen? (zX p 0)=false:=λW S=>⟨(S.cell D).trans hc,(S.frozen D).trans hf⟩
    have HPS:=Z x;have hzz:¬(1<s.size/\s[0]=48):=(by rw[q];exact B);have V:=Z u;clear n d q j hd g l B y x k u;by_cases K:cap=1
    .have M:t=[]:=zF J;subst M;subst K;by_cases ZE:1<s.size
     .have C:((s[0].toNat:Int)==48)=false:=nT;have e1:decide ((1:Int)<(s.size:Int))=true:=zV;exact zij
     .have e1:decide ((1:Int)<(s.size:Int))=false:=(by simp;omega);exact zij
    .have fH:¬(cap:Int)=1:=(by omega);by_cases ZE:1<s.size
     .have C:((s[0].toNat:Int)==48)=false:=nT;have e1:decide ((1:Int)<(s.size:Int))=true:=zV;exact zig
     .have e1:decide ((1:Int)<(s.size:Int))=false:=(by simp;omega);exact zig
  .have m:r=none:=by
    rw[<-G.o];have:vW (c::f)=false:=by
     rw[l,decide_eq_false zV,Hr]
    simp[uE,this]
   subst m;have I:decide ((9:Int)<(s.size:Int))=true:=zV;have HA:=Z (O0 p s w E P.o);rw[<-q]at d i;have HCW:=Z d;clear n d q j hd g l k;exact zl2
 .have m:r=none:=by
   rw[<-G.o];have:vW (c::f)=false:=by
    unfold vW qU;simp[hd]
   simp[uE,this]
  subst m;have n:¬(yJ c=2):=λe=>hd ((YE c).1 e)
  have i:((yJ c:Int) !=2)=true:=zV;have HA:=Z (O0 p s w E P.o);have d:=λW=>dZ c W
  rw[<-q]at d i;have HCW:=Z d;clear n d q j hd k;exact zl2
def Zq(p:Nat)(ws:List Wd)(w:z7)(hp:fB w p ws)(hx:∀x∈ws,Ll x)(a:RT p w) :
  zE prog 123 #[(p,0)] w (zrv p (uE ws) w):=by
 match ws,hp,hx with
 |[],hp,_=>exact SI p w hp
 |x::t,hp,hx =>
  have h:=hx x zY;cases x with
  |nil=>exact absurd rfl h.ne
  |cons c b=>exact O1 p c b t w hp h a
def fS{v:Nat}(h:uE ws=some (v,t)):v<=1000000000/\(∀x∈t,x∈ws)/\t.length+1=ws.length:=by
 cases ws with
 |nil=>cases h
 |cons w u =>
  by_cases hf:vW w=true
  .simp only[uE,hf,if_true,vw,Yg]at h;obtain⟨rfl,rfl⟩:=h;have h1:=(CC.of hf);have h2:=Uz w h1.1.dig;have a:10 ^ w.length<=10 ^ 9:=zux zj h1.2;exact⟨J,λx hx=>by simp[hx],zY⟩
  .simp[uE,hf]at h
variable{Q:Exit->Act->z7->Prop}{P:Me}{sv u:zx}{w1:z7}
def QZ:bH prog 244 132 .nilFunc 1 8 :=
 ⟨underlying244,info_parts yy,rfl,zj,zj⟩
def Xf{t:uP}{z:zx}{size bytes:Nat}(E:bH P t e z size bytes){ops:Array fG}{rest:List fG}{o:fG}{a:Act}
  (q:o.guard=none) (s x:Operand) (B:o.op = .call { callee := .builtin .append,args:=#[s,x],argTypes:=#[t,t] })
  (base:Nat) (v:zx) (n:Nat) (xs:List zx) (hs:a.eval s=v) (l:w.ownsRow base e size v n xs)
  (ad:yi) (m c:Nat) (f:List zx) (hx:a.eval x = .slice (some ad) m c) (A:f.length=m*size) (k:∀j u,f[j]? = some u->w.cell? (ad.add j)=some u) (h1:∀u∈f,u.oneCell'=true)
  (p:n+m<=2147483648) (g:base<=(w:Nat))
  (h:∀v' w',w'.ownsRow base e size v' (n+m) (xs++f)->w.grownBy w' v.ownBlock->(v'.ownBlock=v.ownBlock\/v'.ownBlock=some (w:Nat))->wpList P ops Q rest (a.put o.dst v') w'):wpList P ops Q (o::rest) a w:=by
 obtain⟨i,hi,C,h2,y⟩:=E.info;have r:=E.small;refine wpList_append_own_at w q s x t B base e i z size bytes E.under hi C h2 y E.UL E.pos v n xs hs l ad m c f hx A k h1 Z7 ?_ g (λv' w' a b _ d=>h v' w' a b d);exact zZ (Gf p r) zj
def Y7(lo:Nat)(w:z7)(sv:zx)(Ts:List gx):Prop :=
 ∃vs:List zx,w.ownsRow lo 132 1 sv Ts.length vs /\
  ∀j (h:j<Ts.length),∃u l h',vs[j]? = some u/\lo<=l/\h'<=(w:Nat)/\(∀g,sv.ownBlock=some g->g<l\/h'<=g)/\kO l h' w u Ts[j]
def Y7.nil(lo:Nat)(w:z7):Y7 lo w (.slice none 0 0) []:=⟨[],yr _ _ _ _,λj h=>absurd h (uf j)⟩
def Y7.form(h:Y7 lo w sv Ts):∃a cap,sv = .slice a Ts.length cap:=by
 obtain⟨vs,b,_⟩:=h;exact zD b
def Y7.but(h:Y7 lo w sv Ts)(hb:xj p w w')(hp:p<lo):Y7 lo w' sv Ts:=by
 obtain⟨vs,b,g⟩:=h;have a:some p≠sv.ownBlock:=λe=>by have:=(b.lt p e.symm).1;omega
 refine⟨vs,b.kept (row:=some p) ⟨hb.os,hb.tape,hb.output,hb.size,λi hi hn=>hb.block i hi (λe=>hn (by rw[e]))⟩ (.inr (λe=>a e.symm)),λj f=>?_⟩;obtain⟨u,l,d,e1,e2,e3,e4,c⟩:=g j f;exact⟨u,l,d,e1,e2,zZ e3 hb.size,e4,c.keep (hb.keep J e3) (X _) (X _)⟩
def Y7.more{l0 h0:Nat}{a:zx}
  (n:∀j (h:j<Ts.length),∃u l h',vs[j]? = some u/\lo<=l/\h'<=(w:Nat)/\(∀g,sv.ownBlock=some g->g<l\/h'<=g)/\kO l h' w u Ts[j]) (f:vs.length=Ts.length)
  (hT:kO l0 h0 w u T) (d:lo<=l0) (S2:h0<=(w:Nat)) (hg0:∀g,sv.ownBlock=some g->g<l0\/h0<=g)
  (hb:zJ w w1) (jA:w1.grownBy w' sv.ownBlock) (hat:a.ownBlock=sv.ownBlock\/a.ownBlock=some (w1:Nat)) (ho:w'.ownsRow lo 132 1 a (Ts.length+1) (vs++[u])) :
  Y7 lo w' a (Ts++[T]):=by
 have A9:∀l h',h'<=(w:Nat)->(∀g,sv.ownBlock=some g->g<l\/h'<=g)->xS l h' w w':=pn;have b:∀l h',h'<=(w:Nat)->(∀g,sv.ownBlock=some g->g<l\/h'<=g)->∀g,a.ownBlock=some g->g<l\/h'<=g:=nJ;refine⟨vs++[u],IQ,λj m=>?_⟩;by_cases c:j<Ts.length
 .obtain⟨x,l,h',e1,e2,e3,e4,i⟩:=n j c;exact⟨x,l,h',by rw[qM J];exact e1,e2,zZ e3 (zZ hb.size jA.size),b l h' e3 e4,by rw[lH c];exact i.keep (A9 l h' e3 e4) (X _) (X _)⟩
 .have e:j=Ts.length:=by simp at m;omega
  subst e;refine⟨u,l0,h0,by rw[zc J,f];simp,d,zZ S2 (zZ hb.size jA.size),b l0 h0 S2 hg0,?_⟩;exact sf
def Y7.tests{a:Option yi}(h:Y7 lo w (.slice a Ts.length cap) Ts):Zd lo (w:Nat) w a Ts:=by
 obtain⟨vs,i,k⟩:=h;intro j f;obtain⟨u,l,m,e1,e2,e3,e4,d⟩:=k j f;obtain⟨g,c,hv,e,b,hc⟩:=vK i J;cases hv;refine⟨⟨g,0,none⟩,u,rfl,?_,e,b,d.keep (vX e3) e2 e3⟩;rw[vA,hc j J];exact e1
def kO.one{l h:Nat}(a:kO l h w v T):v.oneCell'=true:=by
 obtain⟨k,cap,rfl,_⟩:=a;rfl
def ya0(p:Nat)(r:Option (List gx×List Wd))(w:z7)(e:gG)(w':z7):Prop :=
 (match r with|none=>e=Lm|some (ts,t)=>(∃v,e = .returned v/\kO (w:Nat) (w':Nat) w' v (gv ts))/\fB w' p t)/\xj p w w'
def xj.SM{a b:z7}{row:Option Nat}(h:xj p w a)(c:a.grownBy b row)(hr:∀k,row=some k->(w:Nat)<=k):xj p w b :=
 ⟨c.os.trans h.os,c.tape.trans h.tape,c.output.trans h.output,zZ h.size c.size,λk d hp=>(c.block k (ze d h.size) (λe=>by have:=hr k e.symm;omega)).trans (h.block k d hp)⟩
def fB.row(h:fB w p ws)(l:w.ownsRow lo 132 1 sv n vs)(hp:p<lo)(f:w.grownBy w' sv.ownBlock):fB w' p ws:=by
 have i:=h.lt;have d:some p≠sv.ownBlock:=λe=>by have:=(l.lt p e.symm).1;omega
 obtain⟨a,cap,hc,hf,h1,h2,m⟩:=h;refine⟨a,cap,f.cell hc d,(zb (f.block p i d)).trans hf,h1,h2,λj q=>?_⟩;obtain⟨b,e1,e2,e3⟩:=m j q;have k:=Y w _ e3;rw[addr_add]at k;have c:some b.block≠sv.ownBlock:=by
  intro e;rcases l.2 with⟨hv,_⟩|⟨g,r,cur,hv,_,o,_⟩
  .rw[hv]at e;cases e
  .rw[hv]at e;cases e;obtain⟨cs,fr,hs⟩:=e2.2;rw[o]at hs;cases hs
 exact⟨b,e1,⟨e2.1,e2.2.of (f.block _ k c)⟩,f.cell e3 (by rw[addr_add];exact c)⟩
def zf5(p:Nat)(wi:Bool)(r:Option (List gx×List Wd))(n0:Nat)(w:z7)(sv:zx)(more:Bool)(n:Nat)(wr:z7):Prop :=
 ∃(Ts:List gx) (ws:List Wd),Y7 (w:Nat) wr sv Ts/\fB wr p ws/\xj p w wr/\ws.length+Ts.length<=n0/\(∀x∈ws,Ll x)/\(more=true->ws.length<n/\vQ wi n Ts ws=r)/\(more=false->some (Ts,ws)=r)
def tK(w:z7)(m:Wd)(g:Nat)(a:zy w g 0 (zv m)):yM w (.slice (g,0) 1 1) [m] :=
 ⟨some ⟨g,0,none⟩,1,rfl,X _,zj,(λh=>xp),λj hj=>by
  have:j=0:=Jb;subst this;exact⟨_,rfl,by simpa[xM]using a⟩⟩
def dY(p:Nat)(m:Wd)(ws:List Wd)(W:z7)(hp:fB W p ws) :
  zE prog 117 #[(p,0),.slice (W,0) 1 1] (W.alloc (.cells #[zv m] 9))
   λe w'=>e = .returned (.bool (Zg m ws))/\fB w' p (if Zg m ws then ws.tail else ws)/\xj p W w':=by
 have hb:yX W W (W.alloc (.cells #[zv m] 9)):=(z8 _ _).alloc (X _) _;refine(tV p [m] ws _ _ (hp.below hb) (tK _ m _ (zg _ _ _ _ _)) zY).mono ?_;rintro e w' ⟨rfl,h1,h2,_⟩;have e:Dw [m] ws=Zg m ws:=by simp[Dw]
 rw[e]at h1|-;exact⟨rfl,h1,(xj.of hb).trans h2⟩
def tJ(p:Nat)(wi:Bool)(ws:List Wd)(w:z7)(hp:fB w p ws)(hx:∀x∈ws,Ll x)(hT:RT p w)(hl:ws.length<=1000) :
  zE prog 157 #[(p,0),.bool wi] w (ya0 p (vQ wi (ws.length+1) [] ws) w):=by
 obtain⟨r,hr⟩:=zo (vQ wi (ws.length+1) [] ws);rw[hr];have HX:=Z hx;have HR:=Z hr;have D:=hp.lt;have HP:=Z hp;have HT:=Z hT;clear hr hx hp hT;go_enter func157,ntmps157;go_wp2;go_loopg [5,6] (ws.length+1) (λn sv mo wr=>∃more:Bool,mo = .bool more/\zf5 p wi r (ws.length+1) w sv more n wr)
 case atStart=>exact⟨true,rfl,[],ws,Y7.nil _ _,HP.o,xj.refl _ _,zY,HX.o,λ_=>⟨J,HR.o⟩,λh=>xp⟩
 case round =>
  obtain⟨more,rfl,Ts,us,T,lJ,F,hlen,PI,hmo,Zz⟩:=hrel;have gi:=Z T;have HPA:=Z lJ;have HXS:=Z PI;obtain⟨a,cap,rfl⟩:=T.form;have vub:=lJ.lt;cases more with
  |false =>
   have bd:=Z (Zz rfl);clear Zz hmo T lJ PI;have hsm:=Nh Ts a cap (w:Nat) wr J F.size gi.o.tests;have HSM:=Z hsm;clear hsm;go_wp2_with fail;refine HSM.o.mono ?_;rintro e w1 ⟨⟨v,rfl,ht⟩,U⟩;have Ex:=Z ht;clear ht;go_wp2;go_ret;rw[<-bd.o];exact⟨⟨⟨_,rfl,Ex.o⟩,HPA.o.below U⟩,F.below U⟩
  |true =>
   obtain⟨hlg,XR⟩:=hmo rfl;obtain⟨m,rfl⟩:∃m,gk=m+1:=⟨gk - 1,J⟩;have G:=Z XR;have ya2:=Zq p us wr lJ PI (HT.o.but F);have CV:=Z ya2;clear hmo Zz XR T lJ PI ya2;go_wp2_with fail;refine CV.o.mono ?_;rintro e w1 ⟨hq,U⟩;cases hn:uE us with
   |none =>
    rw[hn]at hq;obtain rfl:=hq;go_wp2;refine⟨rfl,?_,F.trans U⟩;have j8:r=none:=(by rw[<-G.o,vQ,fN,hn]);rw[j8]
   |some q =>
    obtain⟨va,t⟩:=q;rw[hn]at hq;obtain⟨rfl,hp1⟩:=hq;obtain⟨hva,pG,htl⟩:=fS hn;have NJ:=F.trans U;obtain⟨HN,HP1,ya3,HXT⟩:=hdd hn hp1 (gi.o.but U D) (λx hx=>HXS.o x (pG x hx));clear hn hp1 pG;go_wp2_with fail;refine(dY p [46,46] t _ HP1.o).mono ?_;rintro e w2 ⟨rfl,hp2,qX⟩;have j:=NJ.trans qX;have I:=Z (ya3.o.but qX D);have aK:=Z hp2;clear hp2;cases hd:Zg [46,46] t
    .have Q:=aK.o;rw[hd]at Q;have HQ2:=Z Q;have i:fN us=some ((va,va),t):=(by rw[fN,HN.o];simp[hd]);have W:=Z i;clear Q hd i;have HIT:=Z (W.o);have ya4:decide ((va:Int)<(va:Int))=false:=WN;have A:=Fw va va wi w2 hva hva;have HSP:=Z A;clear A;go_wp2_with fail;refine HSP.o.mono ?_;rintro e w4 ⟨⟨fv,rfl,hft⟩,M⟩;have hp4:=HQ2.o.below M;have l:=j.below M;have R:=I.o.but (xj.of (p:=p) M) D;obtain⟨vs,CZ,tG⟩:=R;obtain⟨HFT,HP4,lg,MP⟩:=hdd hft hp4 tG CZ;obtain⟨kf,QT,rfl,_⟩:=hft;clear hp4 tG CZ;go_wp2_with (at_builtin;refine Xf QZ rfl _ _ rfl (w:Nat) _ Ts.length vs rfl (MP.o.alloc _) ⟨(w4:Nat),0,none⟩ 1 1 [.func (.func kf) #[] QT] rfl rfl ?c1 ?c2 ?c3 ?c4 ?_)
     case c1=>exact cells_one (zg _ _ _ _ _)
     case c2=>intro u hu;simp at hu;subst hu;rfl
     case c3=>omega
     case c4=>have:=l.size;simp;omega
     intro RN w5 P C NK;have B:yX w4 w4 (w4.alloc (.cells #[.func (.func kf) #[] QT] 132)):=(z8 _ _).alloc (X _) _;have c:∀g,(yI a Ts.length cap).ownBlock=some g->(w:Nat)<=g/\g<(w2:Nat):=λg hg=>by
      obtain⟨_,ho3,_⟩:=I.o;exact ho3.lt g hg
     have z:Y7 (w:Nat) w5 RN (Ts++[uA va va wi]) :=
      Y7.more lg.o IG HFT.o (by have:=j.size;omega) (X _) (λg hg => .inl (c g hg).2) B C Is P
     have tF:fB w5 p t:=(HP4.o.below B).row (MP.o.alloc _) D C;have O:xj p w w5:=(l.below B).SM C (λk hk=>(c k hk).1);obtain⟨a5,c5,rfl⟩:=zD P;have K:=Z z;have HP5:=Z tF;clear z tF P C NK B c;go_wp2_with fail;refine(dY p [44] t _ HP5.o).mono ?_;rintro e w6 ⟨rfl,hp6,C8⟩;have s:=O.trans C8;have zlb:=Z (K.o.but C8 D);have E:=Z (show vQ wi (m+1) Ts us=if Zg [44] t then vQ wi m (Ts++[uA va va wi]) (t).tail else some (Ts++[uA va va wi],t)by rw[vQ,HIT.o]);have Wl:=Z hp6;clear hp6;cases b:Zg [44] t
     .have d:=Wl.o;rw[b]at d;have f:=E.o;rw[b,G.o]at f;have H:=Z d;have L:=Z f;clear b d f;go_wp2;go_roundg 0
      case measure=>omega
      case rel=>exact⟨false,rfl,Ts++[uA va va wi],t,Lb,H.o,s,zV,HXT.o,(λh=>xp),λ_=>L.o.symm⟩
     .have d:=Wl.o;rw[b]at d;have f:=E.o;rw[b,G.o]at f;have H:=Z d;have L:=Z f;have fH:0<(t).length:=by
       cases ht:t with
       |nil=>rw[ht]at b;cases b
       |cons x y=>simp
      clear b d f;go_wp2;go_roundg m
      case measure=>omega
      case rel=>exact⟨true,rfl,Ts++[uA va va wi],(t).tail,Lb,H.o,s,zV,λx hx=>HXT.o x (vB hx),λ_=>⟨zV,L.o.symm⟩,λh=>xp⟩
    .have Q:=aK.o;rw[hd]at Q;have HQ2:=Z Q;have ya9:=Z (λx hx=>HXT.o x (vB hx));have zm3:=Zq p t.tail w2 HQ2.o ya9.o (HT.o.but j);have yaz:=Z zm3;have HD:=Z hd;clear Q hd zm3;go_wp2_with fail;refine yaz.o.mono ?_;rintro e w3 ⟨MR,kL⟩;cases V:uE t.tail with
     |none =>
      rw[V]at MR;obtain rfl:=MR;have j8:r=none:=(by rw[<-G.o,vQ,fN,HN.o];simp[HD.o,V]);go_wp2;refine⟨rfl,?_,j.trans kL⟩;first|rfl|(rw[j8])
     |some q =>
      obtain⟨vb,t2⟩:=q;rw[V]at MR;obtain⟨rfl,hp3⟩:=MR;obtain⟨hvb,zm4,vq0⟩:=fS V;have vq1:t2.length+1<=t.length:=by
       have:t.tail.length<=t.length:=zY;omega
      have N:=j.trans kL;have zm5:=Z (I.o.but kL D);have HP3:=Z hp3;have HX3:=Z (λx hx=>ya9.o x (zm4 x hx));have S:fN us=if vb<va then none else some ((va,vb),t2):=by rw[fN,HN.o];simp[HD.o,V]
      have zm6:=Z S;clear hp3 V zm4 S;by_cases hba:vb<va
      .have j8:r=none:=(by rw[<-G.o,vQ,zm6.o,zl hba]);have ya4:decide ((vb:Int)<(va:Int))=true:=zV;go_wp2;refine⟨rfl,?_,N⟩;first|rfl|(rw[j8])
      .have i:=zm6.o;rw[zL hba]at i;have W:=Z i;clear i;have HIT:=Z (W.o);have ya4:decide ((vb:Int)<(va:Int))=false:=(by first|(simp;done)|(simp;omega));have A:=Fw va vb wi w3 hva hvb;have HSP:=Z A;clear A;go_wp2_with fail;refine HSP.o.mono ?_;rintro e w4 ⟨⟨fv,rfl,hft⟩,M⟩;have hp4:=HP3.o.below M;have l:=N.below M;have R:=zm5.o.but (xj.of (p:=p) M) D;obtain⟨vs,CZ,tG⟩:=R;obtain⟨HFT,HP4,lg,MP⟩:=hdd hft hp4 tG CZ;obtain⟨kf,QT,rfl,_⟩:=hft;clear hp4 tG CZ;go_wp2_with (at_builtin;refine Xf QZ rfl _ _ rfl (w:Nat) _ Ts.length vs rfl (MP.o.alloc _) ⟨(w4:Nat),0,none⟩ 1 1 [.func (.func kf) #[] QT] rfl rfl ?c1 ?c2 ?c3 ?c4 ?_)
       case c1=>exact cells_one (zg _ _ _ _ _)
       case c2=>intro u hu;simp at hu;subst hu;rfl
       case c3=>omega
       case c4=>have:=l.size;simp;omega
       intro RN w5 P C NK;have B:yX w4 w4 (w4.alloc (.cells #[.func (.func kf) #[] QT] 132)):=(z8 _ _).alloc (X _) _;have c:∀g,(yI a Ts.length cap).ownBlock=some g->(w:Nat)<=g/\g<(w3:Nat):=λg hg=>by
        obtain⟨_,ho3,_⟩:=zm5.o;exact ho3.lt g hg
       have z:Y7 (w:Nat) w5 RN (Ts++[uA va vb wi]) :=
        Y7.more lg.o IG HFT.o (by have:=N.size;omega) (X _) (λg hg => .inl (c g hg).2) B C Is P
       have tF:fB w5 p t2:=(HP4.o.below B).row (MP.o.alloc _) D C;have O:xj p w w5:=(l.below B).SM C (λk hk=>(c k hk).1);obtain⟨a5,c5,rfl⟩:=zD P;have K:=Z z;have HP5:=Z tF;clear z tF P C NK B c;go_wp2_with fail;refine(dY p [44] t2 _ HP5.o).mono ?_;rintro e w6 ⟨rfl,hp6,C8⟩;have s:=O.trans C8;have zlb:=Z (K.o.but C8 D);have E:=Z (show vQ wi (m+1) Ts us=if Zg [44] t2 then vQ wi m (Ts++[uA va vb wi]) (t2).tail else some (Ts++[uA va vb wi],t2)by rw[vQ,HIT.o]);have Wl:=Z hp6;clear hp6;cases b:Zg [44] t2
       .have d:=Wl.o;rw[b]at d;have f:=E.o;rw[b,G.o]at f;have H:=Z d;have L:=Z f;clear b d f;go_wp2;go_roundg 0
        case measure=>omega
        case rel=>exact⟨false,rfl,Ts++[uA va vb wi],t2,Lb,H.o,s,zV,HX3.o,(λh=>xp),λ_=>L.o.symm⟩
       .have d:=Wl.o;rw[b]at d;have f:=E.o;rw[b,G.o]at f;have H:=Z d;have L:=Z f;have fH:0<(t2).length:=by
         cases ht:t2 with
         |nil=>rw[ht]at b;cases b
         |cons x y=>simp
        clear b d f;go_wp2;go_roundg m
        case measure=>omega
        case rel=>exact⟨true,rfl,Ts++[uA va vb wi],(t2).tail,Lb,H.o,s,zV,λx hx=>HX3.o x (vB hx),λ_=>⟨zV,L.o.symm⟩,λh=>xp⟩
variable{wi:Bool}
structure Sub(t ws:List Wd):Prop where
 mem:∀x∈t,x∈ws
 len:t.length<=ws.length
def Sub.refl(ws:List Wd):Sub ws ws:=⟨λ_ h=>h,X _⟩
def Sub.trans{a b c:List Wd}(h:Sub a b)(k:Sub b c):Sub a c:=⟨λx hx=>k.mem x (h.mem x hx),zZ h.len k.len⟩
def Sub.tail(ws:List Wd):Sub ws.tail ws:=⟨λ_ h=>vB h,zY⟩
def VU{v:Nat}(h:uE ws=some (v,t)):Sub t ws:=⟨(fS h).2.1,by have:=(fS h).2.2;omega⟩
def EP{q:Nat×Nat}(h:fN ws=some (q,t)):Sub t ws:=by
 unfold fN at h;cases hn:uE ws with
 |none=>rw[hn]at h;cases h
 |some r =>
  obtain⟨a,u⟩:=r;rw[hn]at h;dsimp only at h;have hs:=VU hn;by_cases hd:Zg [46,46] u=true
  .rw[zl hd]at h;cases c:uE u.tail with
   |none=>rw[c]at h;cases h
   |some r2 =>
    obtain⟨b,u2⟩:=r2;rw[c]at h;dsimp only at h;by_cases hb:b<a
    .rw[zl hb]at h;cases h
    .rw[zL hb]at h;cases h;exact((VU c).trans (Sub.tail u)).trans hs
  .rw[zL hd]at h;cases h;exact hs
def GI:∀{n:Nat} {acc ts:List gx} {ws t:List Wd},vQ wi n acc ws=some (ts,t)->Sub t ws
 | 0,_,_,_,_,h=>xp
 |n+1,acc,ts,ws,t,h=>by
  rw[vQ]at h;cases hi:fN ws with
  |none=>rw[hi]at h;cases h
  |some r =>
   obtain⟨q,u⟩:=r;rw[hi]at h;dsimp only at h;by_cases hc:Zg [44] u=true
   .rw[zl hc]at h;exact((GI h).trans (Sub.tail u)).trans (EP hi)
   .rw[zL hc]at h;cases h;exact EP hi
def cS(h:qF wi ws=some (T,t)):Sub t ws:=by
 unfold qF at h;cases a:vQ wi (ws.length+1) [] ws with
 |none=>rw[a]at h;cases h
 |some r =>
  obtain⟨ts,u⟩:=r;rw[a]at h;cases h;exact GI a
def Xd(p:Nat)(r:Option (gx×List Wd))(w:z7)(e:gG)(w':z7):Prop :=
 (match r with|none=>e=Lm|some (T,t)=>(∃v,e = .returned v/\kO (w:Nat) (w':Nat) w' v T)/\fB w' p t)/\xj p w w'
def bp(p:Nat)(wi:Bool)(ws:List Wd)(w:z7)(hp:fB w p ws)(hx:∀x∈ws,Ll x)(b:RT p w)(c:ws.length<=1000) :
  zE prog 157 #[(p,0),.bool wi] w (Xd p (qF wi ws) w):=by
 refine(tJ p wi ws w hp hx b c).mono ?_;rintro e w' ⟨h,hb⟩;refine⟨?_,hb⟩;unfold qF;cases a:vQ wi (ws.length+1) [] ws with
 |none=>rw[a]at h;exact h
 |some r =>
  obtain⟨ts,u⟩:=r;rw[a]at h;exact h
def zf8(p:Nat)(r:Option ((gx×Bool)×List Wd))(w:z7)(e:gG)(w':z7):Prop :=
 (match r with|none=>e=Lm|some ((T,nt),t)=>(∃v,e = .returned (.tuple #[v,.bool nt])/\kO (w:Nat) (w':Nat) w' v T)/\fB w' p t)/\xj p w w'
def Nb(p:Nat)(ws:List Wd)(w:z7)(hp:fB w p ws)(hx:∀x∈ws,Ll x)(hT:RT p w)(hl:ws.length<=1000) :
  zE prog 126 #[(p,0)] w (zf8 p (ya ws) w):=by
 obtain⟨r,hr⟩:=zo (ya ws);rw[hr];have HX:=Z hx;have HR:=Z hr;have ud:=hp.lt;have HP:=Z hp;have E:=Z hT;clear hr hx hp hT;go_enter func126,ntmps126;have R:ws.tail.length<=1000:=zV;have W:ws.tail.tail.length<=1000:=zV;have S:∀x∈ws.tail,Ll x:=λx h=>HX.o x (vB h)
 have M2:∀x∈ws.tail.tail,Ll x:=λx h=>S x (vB h)
 have u:=Z S;have F:=Z M2;clear S M2;go_wp2_with fail;refine(dY p [61] (ws) _ HP.o).mono ?_;rintro e w1 ⟨rfl,O,U⟩;have g:=U;have B:=Z O;clear O;cases e1:Zg [61] (ws)
 .have hq:=B.o;rw[e1]at hq;have G:=Z hq;have E1:=Z e1;clear hq e1;go_wp2_with fail;refine(dY p [33,61] (ws) _ G.o).mono ?_;rintro e w2 ⟨rfl,P,K⟩;have c:=g.trans K;have C:=Z P;clear P;cases e2:Zg [33,61] (ws)
  .have hq:=C.o;rw[e2]at hq;have H:=Z hq;have E2:=Z e2;clear hq e2;go_wp2_with fail;refine(dY p [105,115] (ws) _ H.o).mono ?_;rintro e w3 ⟨rfl,Q,L⟩;have f:=c.trans L;have D:=Z Q;clear Q;cases e3:Zg [105,115] (ws)
   .have hq:=D.o;rw[e3]at hq;have I:=Z hq;have E3:=Z e3;clear hq e3;go_wp2_with fail;refine(dY p [110,111,116] (ws) _ I.o).mono ?_;rintro e V ⟨rfl,y,M⟩;have d:=f.trans M;have i:=Z y;clear y;cases e4:Zg [110,111,116] (ws)
    .have hq:=i.o;rw[e4]at hq;have l:=Z hq;have E4:=Z e4;clear hq e4;go_wp2_with fail;refine(dY p [119,105,116,104,105,110] (ws) _ l.o).mono ?_;rintro e w5 ⟨rfl,z,n⟩;have YX:=d.trans n;have j:=Z z;clear z;cases s:Zg [119,105,116,104,105,110] (ws)
     .have hq:=j.o;rw[s]at hq;have m:=Z hq;have E5:=Z s;clear hq s;go_wp2_with fail;refine(dY p [105,110] (ws) _ m.o).mono ?_;rintro e w6 ⟨rfl,A,C8⟩;have Vd:=YX.trans C8;have zj7:=Z A;clear A;cases e6:Zg [105,110] (ws)
      .exact zl3
      .have hq:=zj7.o;rw[e6]at hq;have Wl:=Z hq;have E6:=Z e6;clear hq e6;have a:=bp p false (ws.tail) w6 Wl.o u.o (E.o.but Vd) R;have k:=Z a;clear a;go_wp2_with fail;refine k.o.mono ?_;rintro e w7 ⟨hq,N⟩;have UN:=Vd.trans N;have b:r=(qF false (ws.tail)).map λq=>((q.1,false),q.2):=by
        rw[<-HR.o];simp[ya,E1.o,E2.o,E3.o,E4.o,E5.o,E6.o]
       have ZC:=Z b;clear b;cases hn:qF false (ws.tail) with
       |none =>
        exact ng
       |some q =>
        exact zif
     .have hq:=j.o;rw[s]at hq;have m:=Z hq;have E5:=Z s;clear hq s;have a:=bp p true (ws.tail) w5 m.o u.o (E.o.but YX) R;have k:=Z a;clear a;go_wp2_with fail;refine k.o.mono ?_;rintro e w6 ⟨hq,C8⟩;have Vd:=YX.trans C8;have b:r=(qF true (ws.tail)).map λq=>((q.1,false),q.2):=by
       rw[<-HR.o];simp[ya,E1.o,E2.o,E3.o,E4.o,E5.o]
      have ZC:=Z b;clear b;cases hn:qF true (ws.tail) with
      |none =>
       exact nZ
      |some q =>
       exact zid
    .have hq:=i.o;rw[e4]at hq;have l:=Z hq;have E4:=Z e4;clear hq e4;go_wp2_with fail;refine(dY p [119,105,116,104,105,110] (ws.tail) _ l.o).mono ?_;rintro e w5 ⟨rfl,z,n⟩;have YX:=d.trans n;have j:=Z z;clear z;cases s:Zg [119,105,116,104,105,110] (ws.tail)
     .have hq:=j.o;rw[s]at hq;have m:=Z hq;have E5:=Z s;clear hq s;go_wp2_with fail;refine(dY p [105,110] (ws.tail) _ m.o).mono ?_;rintro e w6 ⟨rfl,A,C8⟩;have Vd:=YX.trans C8;have zj7:=Z A;clear A;cases e6:Zg [105,110] (ws.tail)
      .exact zl3
      .have hq:=zj7.o;rw[e6]at hq;have Wl:=Z hq;have E6:=Z e6;clear hq e6;have a:=bp p false (ws.tail.tail) w6 Wl.o F.o (E.o.but Vd) W;have k:=Z a;clear a;go_wp2_with fail;refine k.o.mono ?_;rintro e w7 ⟨hq,N⟩;have UN:=Vd.trans N;have b:r=(qF false (ws.tail.tail)).map λq=>((q.1,true),q.2):=by
        rw[<-HR.o];simp[ya,E1.o,E2.o,E3.o,E4.o,E5.o,E6.o]
       have ZC:=Z b;clear b;cases hn:qF false (ws.tail.tail) with
       |none =>
        exact ng
       |some q =>
        exact zif
     .have hq:=j.o;rw[s]at hq;have m:=Z hq;have E5:=Z s;clear hq s;have a:=bp p true (ws.tail.tail) w5 m.o F.o (E.o.but YX) W;have k:=Z a;clear a;go_wp2_with fail;refine k.o.mono ?_;rintro e w6 ⟨hq,C8⟩;have Vd:=YX.trans C8;have b:r=(qF true (ws.tail.tail)).map λq=>((q.1,true),q.2):=by
       rw[<-HR.o];simp[ya,E1.o,E2.o,E3.o,E4.o,E5.o]
      have ZC:=Z b;clear b;cases hn:qF true (ws.tail.tail) with
      |none =>
       exact nZ
      |some q =>
       exact zid
   .have hq:=D.o;rw[e3]at hq;have I:=Z hq;have E3:=Z e3;clear hq e3;go_wp2_with fail;refine(dY p [110,111,116] (ws.tail) _ I.o).mono ?_;rintro e V ⟨rfl,y,M⟩;have d:=f.trans M;have i:=Z y;clear y;cases e4:Zg [110,111,116] (ws.tail)
    .have hq:=i.o;rw[e4]at hq;have l:=Z hq;have E4:=Z e4;clear hq e4;have a:=Zq p (ws.tail) V l.o u.o (E.o.but d);have k:=Z a;clear a;go_wp2_with fail;refine k.o.mono ?_;rintro e w5 ⟨hq,n⟩;have YX:=d.trans n;have b:r=(uE (ws.tail)).map λq=>((uA q.1 q.1 false,false),q.2):=by
      rw[<-HR.o];simp[ya,E1.o,E2.o,E3.o,E4.o]
     have ZC:=Z b;clear b;cases hn:uE (ws.tail) with
     |none =>
      exact nY
     |some q =>
      exact ziy
    .have hq:=i.o;rw[e4]at hq;have l:=Z hq;have E4:=Z e4;clear hq e4;have a:=Zq p (ws.tail.tail) V l.o F.o (E.o.but d);have k:=Z a;clear a;go_wp2_with fail;refine k.o.mono ?_;rintro e w5 ⟨hq,n⟩;have YX:=d.trans n;have b:r=(uE (ws.tail.tail)).map λq=>((uA q.1 q.1 false,true),q.2):=by
      rw[<-HR.o];simp[ya,E1.o,E2.o,E3.o,E4.o]
     have ZC:=Z b;clear b;cases hn:uE (ws.tail.tail) with
     |none =>
      exact nY
     |some q =>
      exact ziy
  .have hq:=C.o;rw[e2]at hq;have H:=Z hq;have E2:=Z e2;clear hq e2;have a:=bp p false (ws.tail) w2 H.o u.o (E.o.but c) R;have k:=Z a;clear a;go_wp2_with fail;refine k.o.mono ?_;rintro e w3 ⟨hq,L⟩;have f:=c.trans L;have b:r=(qF false (ws.tail)).map λq=>((q.1,true),q.2):=by
    rw[<-HR.o];simp[ya,E1.o,E2.o]
   have ZC:=Z b;clear b;cases hn:qF false (ws.tail) with
   |none =>
    rw[hn]at hq;obtain rfl:=hq;have j8:=ZC.o;rw[hn]at j8;have QR:=Z j8;clear j8 hn;go_wp2;refine⟨rfl,?_,f⟩;rw[QR.o];rfl
   |some q =>
    obtain⟨T,t⟩:=q;rw[hn]at hq;obtain⟨⟨v,rfl,ht⟩,WR⟩:=hq;have j8:=ZC.o;rw[hn]at j8;have QR:=Z j8;have Ex:=Z ht;have Pl:=Z WR;clear j8 hn ht WR;go_wp2;go_ret2
    refine⟨?_,f⟩;rw[QR.o];exact⟨⟨v,rfl,Ex.o.keep (vX (X _)) c.size (X _)⟩,Pl.o⟩
 .have hq:=B.o;rw[e1]at hq;have G:=Z hq;have E1:=Z e1;clear hq e1;have a:=bp p false (ws.tail) w1 G.o u.o (E.o.but g) R;have k:=Z a;clear a;go_wp2_with fail;refine k.o.mono ?_;rintro e w2 ⟨hq,K⟩;have c:=g.trans K;have b:r=(qF false (ws.tail)).map λq=>((q.1,false),q.2):=by
   rw[<-HR.o];simp[ya,E1.o]
  have ZC:=Z b;clear b;cases hn:qF false (ws.tail) with
  |none =>
   rw[hn]at hq;obtain rfl:=hq;have j8:=ZC.o;rw[hn]at j8;have QR:=Z j8;clear j8 hn;go_wp2;refine⟨rfl,?_,c⟩;rw[QR.o];rfl
  |some q =>
   obtain⟨T,t⟩:=q;rw[hn]at hq;obtain⟨⟨v,rfl,ht⟩,WR⟩:=hq;have j8:=ZC.o;rw[hn]at j8;have QR:=Z j8;have Ex:=Z ht;have Pl:=Z WR;clear j8 hn ht WR;go_wp2;go_ret2
   refine⟨?_,c⟩;rw[QR.o];exact⟨⟨v,rfl,Ex.o.keep (vX (X _)) g.size (X _)⟩,Pl.o⟩
end Go.Proofs.YtfcemhlpdcnckaaGreatDoor
