import Derived.Test.YtpggmjffejgakaaGreatDoorJG6
import Derived.Lib.ItoaNum
import Derived.IntWalk
import Derived.Lib.AppendStr
import Derived.Lib.Builder
import Derived.Lib.OthersKept
import Derived.Lib.UnsafeStr
import Derived.Shelf.RegionOpenPlain
import Derived.Deep.CutBlock
import Derived.Deep.DeepCutAuto
import Derived.Lib.Replace
import Derived.Lib.TrimByte
import Derived.Shelf.GgClosure.StringsIndexFunc
set_option linter.defProp false
set_option maxHeartbeats 64000000
open Go renaming Addr->yM,Calls->zC,Ending->xU,TypeId->xm,World->z8,bodyPost_ret->yK,heap_alloc_new->kU,results->yN
open And renaming intro->zg
open Array renaming getElem?_eq_none->Zu,getElem?_eq_some_iff->yO,getElem?_modify->vp
open Go.RowKit renaming Below->yD
open Go.RowKit.Below renaming drew->kp,heap_alloc->xZ,heap_setCell->yZ,refl->zv
open Bool renaming and_eq_true->zx,eq_iff_iff->xO,not_eq_true->VG,not_eq_true'->qu,or_eq_true->vR
open Go.Builtin renaming unsafeSliceData_->YM
open Classical renaming byContradiction->yu
open Go.Departure renaming mixedOrders->Xv
open Go.Extern.AbiNoEscape renaming same->YN
open Go.Lib renaming Bytes->yef,run_convert_whole->LG,TabIs->YI,Utf8Tabs->du,byteCells->yx,cell_of_heap->zw,countFrom->fD,decDigits->zm,decodeN->jI,frozen_of_heap->uy,hid->Z,idxFunc->OR,idxFuncFrom->Qu,index->kF,index_ge->vz7,pow10Tab->Zh,replaceK->Du,replaceK_hit->Eb,run_from_unsafe->yeq,run_neq_ptr_same->yfu,run_noEscape->vz3,run_to_unsafe->xj9,strCells->xu5,trimB->zzz
open Go.Instr renaming makeFunc->uV,typeAssert->zA
open Go.Lib.OthersKept renaming refl->Ed
open List renaming all_eq_true->zi,all_takeWhile->yfb,any_eq_true->vq2,append_assoc->yk,append_eq_nil_iff->KE,append_nil->jJ,cons_append->xX,count_cons_of_ne->ik,count_cons_self->oV,dropWhile_cons_of_neg->fJ,dropWhile_cons_of_pos->Vq,drop_eq_getElem_cons->yY,drop_left->oY,drop_of_length_le->yI,drop_zero->qR,eq_nil_of_length_eq_zero->zN,flatMap_append->yn,flatMap_cons->zh,flatMap_nil->xu6,flatten_append->wJ,foldl_append->TX,getD_eq_getElem?_getD->ze,getElem?_append_right->xq,getElem?_drop->TR,getElem?_eq_getElem->zk,getElem?_eq_none->qT,getElem?_take->OY,getElem_mem->yf,isEmpty->xjx,length->xD,length_append->zy,length_cons->zY,length_drop->yh,length_map->vg,length_nil->yF,length_pos_iff->yv,length_replicate->kl,length_singleton->gU,length_take->uK,map_append->TT,map_cons->vE,mem_append->zS,mem_cons->yX,mem_iff_getElem->ql,mem_map->uQ,mem_map_of_mem->wK,mem_of_mem_drop->dV,mem_range->Y0,mem_reverse->Zj,mem_singleton->zJ,nil_append->xK,not_mem_nil->Hn,replicate->zX,replicate_succ->qW,takeWhile_append_dropWhile->ZB,takeWhile_cons_of_neg->dU,takeWhile_cons_of_pos->vZ,takeWhile_prefix->KX,take_append_drop->Xx,take_of_length_le->yr,take_succ_eq_append_getElem->yj
open List.cons renaming inj->Zf
open Nat renaming add_assoc->kh,add_sub_cancel_left->D9,add_zero->Ej,le_of_eq->TV,le_of_lt->vv,le_refl->Y,le_succ->dK,le_trans->zj,lt_irrefl->kD,lt_of_lt_of_le->zD,lt_succ_self->dQ,mod_eq_of_lt->OQ,not_lt_zero->KV,zero_add->uE,zero_le->zQ
open Go.Obj.cells renaming injEq->TA
open Go.Oper renaming upon_value->jW
open Option renaming bind_some->yzq,getD_some->Ex,some->xu7
open Option.some renaming inj->zL,injEq->vA
open Go.Result renaming andThen->ym
open SizeOf renaming sizeOf->zE
open Go.Sort renaming grow->yzk
open UInt8 renaming ofNat->uC,toNat_inj->dW,toNat_ofNat'->Ev
open Go.Utf8 renaming decode->ja,runeError->Tb
open Go.Value renaming ownBlock->yl
open Go.Value.string renaming injEq->vq8
open Go.World renaming block_lt_of_cell?->X,ownsRow_nil->xx,setCell->xg,var?->vz8
open Go.Proofs.Tryz
namespace Go.Proofs.YtpggmjffejgakaaGreatDoor
open Go Go.RowKit
set_option maxRecDepth 10000
variable{rs:List Int}{i j k:Nat}{t:Wd}
def jX(s t:Wd):∀f:Fo,(f.ye s).ye t=f.ye (s++t)
 |.nil=>rfl
 |.text a .nil=>by simp[Fo.ye]
 |.text a (.text b r)=>by
  have:=jX s t (.text b r);have h:∃d r',(Fo.text b r).ye s = .text d r':=by cases r<;>exact⟨_,_,rfl⟩
  obtain⟨d,r',h⟩:=h;simp only[Fo.ye,h]at this|-;exact congrArg (Fo.text a) this
 |.text a (.hash r)=>congrArg (λx=>Fo.text a (.hash x)) (jX s t r)
 |.text a (.put n p r)=>congrArg (λx=>Fo.text a (.put n p x)) (jX s t r)
 |.text a (.num n p r)=>congrArg (λx=>Fo.text a (.num n p x)) (jX s t r)
 |.text a (.br n p f o c b r)=>congrArg (λx=>Fo.text a (.br n p f o c b x)) (jX s t r)
 |.text a (.xR k p m r)=>congrArg (λx=>Fo.text a (.xR k p m x)) (jX s t r)
 |.hash r=>congrArg Fo.hash (jX s t r)
 |.put n p r=>congrArg (Fo.put n p) (jX s t r)
 |.num n p r=>congrArg (Fo.num n p) (jX s t r)
 |.br n p f o c b r=>congrArg (Fo.br n p f o c b) (jX s t r)
 |.xR k p m r=>congrArg (Fo.xR k p m) (jX s t r)
def JS(f:Fo)(t:Wd):Fo:=if t=[]then f else f.ye t
def zo1(f:Fo)(s t:Wd):JS (JS f s) t=JS f (s++t):=by
 unfold JS;by_cases h1:s=[]
 .subst h1;simp
 .by_cases h2:t=[]
  .subst h2;simp
  .simp[h1,h2,jX]
def Si(f:Fo)(h:t≠[]):f.ye t=JS f t:=by unfold JS;rw[yz h]
def Cr(rs:List Int)(num:Bool)(k i j:Nat)(t:Wd):Prop:=∀m n acc,k<=n->∃n',n<=n'+k/\vV rs m num n acc i=vV rs m num n' (JS acc t) j
def Cr.nil{num:Bool}:Cr rs num 0 i i []:=λm n acc _=>⟨n,J,rfl⟩
def Cr.then{num:Bool}{k2 z:Nat}{s:Wd}(h:Cr rs num k i j s)(h2:Cr rs num k2 j z t):Cr rs num (k+k2) i z (s++t):=λm n acc hn=>by
 obtain⟨n1,a1,b1⟩:=h m n acc J;obtain⟨n2,a2,b2⟩:=h2 m n1 (JS acc s) J;exact⟨n2,J,by rw[b1,b2,zo1]⟩
def Cr.more{num:Bool}{k2:Nat}{s:Wd}(h:Cr rs num k i j s)(a:k<=k2):Cr rs num k2 i j s:=λm n acc hn=>by
 obtain⟨n1,a1,b1⟩:=h m n acc J;exact⟨n1,J,b1⟩
def Cr.one{num:Bool}(h1:zt rs i≠-1)(h2:zt rs i≠125)(a:zt rs i≠123)(b:¬(zt rs i=35/\num=true))(c:qv rs num i=(t,j))(h0:t≠[]):Cr rs num 1 i j t:=λm n acc hn=>by
 obtain⟨k,rfl⟩:∃k,n=k+1:=⟨n - 1,J⟩;refine⟨k,J,?_⟩;rw[vV,yz (λh=>h.elim h1 h2),yz a,yz b,c,Si _ h0]
def xyb:enc 39=[39]:=zR
def F6{tail:List Int}{num:Bool}:∀(k i:Nat),rs.drop i=zX (2*k) 39++tail->Cr rs num (2*k) i (i+2*k) (zX k 39)
 | 0,i,_=>Cr.nil
 |k+1,i,h=>by
  have h0:rs.drop i=39::39::(zX (2*k) 39++tail):=by rw[h,show 2*(k+1)=2*k+1+1 by omega,qW,qW];rfl
  have a:=EU h0;have h1:=O4 h0;have b:=EU h1;have h2:=F6 (num:=num) k (i+2) (O4 h1);have hs:Cr rs num 1 i (i+2) [39]:=by
   refine Cr.one (by rw[a];decide) (by rw[a];decide) (by rw[a];decide) (by rw[a];simp) ?_ zZ;unfold qv;rw[yz (by rw[a];simp),yV b,xyb]
  have:=(hs.then h2).more (k2:=2*(k+1)) J;rw[show i+2*(k+1)=i+2+2*k by omega];exact this
def Lq{tail:List Int}(a:tail.head?≠some 39):∀b:Wd,xy ((kg b).map zI++39::tail)=(b.map zI,(kg b).length+1)
 |[]=>by
  show xy (39::tail)=_;rw[xy.eq_def];cases tail with
  |nil=>simp[kg]
  |cons x t =>
   have:x≠39:=λe=>a (by rw[e];rfl)
   simp[kg,this]
 |c::b=>by
  have f:=Lq a b;by_cases hc:c=39
  .subst hc;have e:kg (39::b)=39::39::kg b:=rfl;rw[e];simp only[vE,xX];rw[xy.eq_def];simp[zI,f]
  .have e:kg (c::b)=c::kg b:=(by unfold kg;rw[zh,yz hc];rfl);have g:¬zI c=39:=tZ (d:=39) hc;rw[e];simp only[vE,xX];rw[xy.eq_def];simp[g,f]
def O9:∀k:Nat,kg (zX k 39)=zX (2*k) 39
 | 0=>rfl
 |k+1=>by
  have a:=O9 k;rw[qW];unfold kg at a|-;rw[zh,a,yV rfl,show 2*(k+1)=2*k+1+1 by omega,qW,qW];rfl
def yjb(a b:Wd):kg (a++b)=kg a++kg b:=by unfold kg;rw[yn]
def Sl:∀a:Wd,∃k b,a=zX k 39++b/\(∀c t,b=c::t->c≠39)
 |[]=>⟨0,[],rfl,λ_ _ h=>xc⟩
 |c::a=>by
  by_cases hc:c=39
  .obtain⟨k,b,h1,h2⟩:=Sl a;exact⟨k+1,b,by rw[hc,h1];rfl,h2⟩
  .exact⟨0,c::a,rfl,λd t h=>by cases h;exact hc⟩
def Oz{num:Bool}{c:UInt8}(h:qB num c=true):c.toNat<=127:=by
 unfold qB at h;simp only[vR,beq_iff_eq,zx]at h;rcases h with rfl|rfl|rfl|⟨rfl,_⟩<;>decide
def yg0{num:Bool}{c:UInt8}(h:qB num c=true)(hc:c≠39):kx (zI c) num=true:=by
 unfold qB at h;simp only[vR,beq_iff_eq,zx]at h;rcases h with rfl|rfl|rfl|⟨rfl,rfl⟩
 .exact absurd rfl hc
 .rfl
 .rfl
 .rfl
def yg1{tail:List Int}{num:Bool}(a:Wd)(m:∀c∈a,qB num c=true)(h:rs.drop i=(fZ a).map zI++tail)(n:tail.head?≠some 39):Cr rs num (fZ a).length i (i+(fZ a).length) a:=by
 obtain⟨k,b,rfl,hb⟩:=Sl a;cases b with
 |nil =>
  have e:fZ (zX k 39++[])=zX (2*k) 39:=by
   unfold fZ;rw[jJ,yz zZ,O9]
  rw[e,List.map_replicate]at h;rw[e,kl,jJ];exact F6 k i h
 |cons c b =>
  have hc:=hb c b rfl;have f:∀d∈c::b,qB num d=true:=λd hd=>m d (zS.2 (.inr hd))
  have e:fZ (zX k 39++c::b)=zX (2*k) 39++(39::(kg (c::b)++[39])):=by
   unfold fZ;rw[yV GU,yjb,O9];simp only[yk];rw[<-xX,<-qW,List.replicate_succ',yk];rfl
  rw[e]at h|-;have h1:rs.drop i=zX (2*k) 39++(39::((kg (c::b)).map zI++39::tail)):=by
   rw[h];simp[zI]
  have p:=F6 (num:=num) k i h1;have h2:rs.drop (i+2*k)=39::((kg (c::b)).map zI++39::tail):=by
   have:=JR _ h1;rwa [kl]at this
  have g:=O4 h2;have j:kg (c::b)=c::kg b:=by unfold kg;rw[zh,yz hc];rfl
  have n2:=EU h2;have n3:zt rs (i+2*k+1)=zI c:=by
   rw[j]at g;exact EU g
  have o:¬zI c=39:=tZ (d:=39) hc;have q:Cr rs num 1 (i+2*k) (i+2*k+1+((kg (c::b)).length+1)) (c::b):=by
   refine Cr.one (by rw[n2];decide) (by rw[n2];decide) (by rw[n2];decide) (by rw[n2];simp) ?_ zZ;unfold qv;rw[yz (by rw[n2];simp),yz (by rw[n3];exact o),yz (by rw[n3,yg0 (f c zZ) hc];simp),g,Lq n,Z0 _ (λd hd=>Oz (f d hd))]
  have:=(p.then q).more (k2:=(zX (2*k) (39:UInt8)++(39::(kg (c::b)++[39]))).length) zZ;have l:i+(zX (2*k) (39:UInt8)++(39::(kg (c::b)++[39]))).length=i+2*k+1+((kg (c::b)).length+1):=yJ;rw[<-l]at this;exact this
def Sm{u:Int}(h:FM u){c:UInt8}{e:Wd}(he:enc u=c::e):(c.toNat<=127->u=zI c/\e=[])/\(127<c.toNat->(∀d∈enc u,128<=d.toNat)/\128<=u):=by
 obtain⟨n,h1,rfl⟩:=h;have hn:=h1.1;rw[O6 n h1]at he|-;by_cases c1:n<128
 .rw[yV c1]at he;obtain⟨a,b⟩:=Zf he;have:=EH (k:=n) J;rw[a]at this;exact⟨λ_=>⟨by simp only[zI];omega,b.symm⟩,λh=>J⟩
 rw[yz c1]at he|-;by_cases c2:n<2048
 .rw[yV c2]at he|-;obtain⟨a,b⟩:=Zf he;have a0:=EH (k:=192+n / 64) J;have a1:=EH (k:=128+n % 64) J;rw[a]at a0;refine⟨λh=>J,λh=>⟨λd hd=>?_,J⟩⟩;simp only[yX,Hn,or_false]at hd;rcases hd with rfl|rfl
  .rw[a];omega
  .omega
 rw[yz c2]at he|-;by_cases c3:n<65536
 .rw[yV c3]at he|-;obtain⟨a,b⟩:=Zf he;have a0:=EH (k:=224+n / 4096) J;have a1:=EH (k:=128+n / 64 % 64) J;have a2:=EH (k:=128+n % 64) J;rw[a]at a0;refine⟨λh=>J,λh=>⟨λd hd=>?_,J⟩⟩;simp only[yX,Hn,or_false]at hd;rcases hd with rfl|rfl|rfl
  .rw[a];omega
  .omega
  .omega
 .rw[yz c3]at he|-;obtain⟨a,b⟩:=Zf he;have a0:=EH (k:=240+n / 262144) J;have a1:=EH (k:=128+n / 4096 % 64) J;have a2:=EH (k:=128+n / 64 % 64) J;have a3:=EH (k:=128+n % 64) J;rw[a]at a0;refine⟨λh=>J,λh=>⟨λd hd=>?_,J⟩⟩;simp only[yX,Hn,or_false]at hd;rcases hd with rfl|rfl|rfl|rfl
  .rw[a];omega
  .omega
  .omega
  .omega
def dz{c:UInt8}(h:c.toNat<=127):FM (zI c):=⟨c.toNat,⟨J,.inl J⟩,rfl⟩
def Lk:∀(a:Wd) {us:List Int} {r:Wd},(∀u∈us,FM u)->(∀c∈a,c.toNat<=127)->us.flatMap enc=a++r->∃vs,us=a.map zI++vs/\vs.flatMap enc=r/\∀u∈vs,FM u
 |[],us,r,h,_,he=>⟨us,rfl,he,h⟩
 |c::a,us,r,h,ha,he=>by
  cases us with
  |nil=>simp at he
  |cons u us =>
   have b:=h u zZ;cases hx:enc u with
   |nil=>exact absurd hx (UP b)
   |cons d e =>
    rw[zh,hx,xX,xX]at he;obtain⟨rfl,f⟩:=Zf he;obtain⟨rfl,rfl⟩:=(Sm b hx).1 (ha d zZ);obtain⟨vs,h1,h2,g⟩:=Lk a (λv hv=>h v (by simp[hv])) (λc hc=>ha c GU) f;exact⟨vs,Ya,h2,g⟩
def xx0{num:Bool}{c:UInt8}(h:128<=c.toNat):qB num c=false:=by
 cases a:qB num c with
 |false=>rfl
 |true=>have:=Oz a;omega
def UR(num:Bool)(u:Int):Bool := !qB num ((enc u).headD 0)
def Oy{num:Bool}{u:Int}(h:FM u)(hp:UR num u=true):(∀d∈enc u,qB num d=false)/\u≠-1/\u≠125/\u≠123/\u≠39/\¬(u=35/\num=true):=by
 unfold UR at hp;cases hx:enc u with
 |nil=>exact absurd hx (UP h)
 |cons c e =>
  rw[hx]at hp;have hc:qB num c=false:=by simpa using hp
  have a:=Sm h hx;rw[<-hx];by_cases b:c.toNat<=127
  .obtain⟨rfl,rfl⟩:=a.1 b;rw[hx];refine⟨λd hd=>by rw[zJ.1 hd];exact hc,by simp only[zI];omega,?_,?_,?_,?_⟩
   .exact tZ (d:=125) λe=>WV
   .exact tZ (d:=123) λe=>WV
   .exact tZ (d:=39) λe=>WV
   .rintro⟨e,rfl⟩;have:c=35:=by
     refine yu λq=>tZ (d:=35) q e
    rw[this]at hc;revert hc;decide
  .obtain⟨k1,k2⟩:=a.2 J;exact⟨λd hd=>xx0 (k1 d hd),J,J,J,J,J⟩
structure TxQ(num:Bool)(us vs:List Int):Prop where
 ok:∀v∈vs,FM v
 bytes:Kf num (us.flatMap enc)=vs.flatMap enc
 no:us=[]->vs=[]
 yes:us≠[]->vs≠[]
 head:∀u t,us=u::t->UR num u=true->vs.head? = some u
 read:∀(rs tail:List Int) (i:Nat),rs.drop i=vs++tail->tail.head?≠xu7 39->Cr rs num vs.length i (i+vs.length) (us.flatMap enc)
def tY{tail:List Int}{num:Bool}{u:Int}(h:FM u)(hp:UR num u=true)(hd:rs.drop i=u::tail):Cr rs num 1 i (i+1) (enc u):=by
 obtain⟨_,q1,q2,a,b,c⟩:=Oy h hp;have e:=EU hd;refine Cr.one (by rw[e];exact q1) (by rw[e];exact q2) (by rw[e];exact a) (by rw[e];exact c) ?_ (UP h);unfold qv;rw[yV (by rw[e];exact b),e]
def Ox(num:Bool):∀(n:Nat) (us:List Int),us.length<=n->(∀u∈us,FM u)->∃vs,TxQ num us vs
 | 0,us,hn,_=>by
  have:us=[]:=zN J;subst this;exact⟨[],λv hv=>(by cases hv),rfl,λ_=>rfl,λh=>absurd rfl h,λu t h=>xc,λrs tail i _ _=>Cr.nil⟩
 |n+1,[],_,_=>⟨[],λv hv=>(by cases hv),rfl,λ_=>rfl,λh=>absurd rfl h,λu t h=>xc,λrs tail i _ _=>Cr.nil⟩
 |n+1,u::t,hn,h=>by
  have C:=h u zZ;have L:∀v∈t,FM v:=λv hv=>h v (by simp[hv])
  simp only[zY]at hn;by_cases hp:UR num u=true
  .obtain⟨vs,Q⟩:=Ox num n t J L;refine⟨u::vs,?_,?_,λh=>xc,λ_=>zZ,?_,?_⟩
   .intro v hv;rcases yX.1 hv with rfl|hv
    .exact C
    .exact Q.ok v hv
   .rw[zh,zh,F5 _ _ (Oy C hp).1,Q.bytes]
   .intro v s hv _;cases hv;rfl
   .intro rs tail i hd g;have H:=tY C hp hd;have D:=Q.read rs tail (i+1) (O4 hd) g;have:=(H.then D).more (k2:=(u::vs).length) yJ;rw[zh,show i+(u::vs).length=i+1+vs.length by simp;omega];exact this
  .obtain⟨l,B⟩:=zr ((u::t).flatMap enc);obtain⟨a,ha⟩:=zr (l.takeWhile (qB num));obtain⟨r,hr⟩:=zr (l.dropWhile (qB num));have E:l=a++r:=(by rw[<-ha,<-hr,ZB]);have j:∀c∈a,qB num c=true:=λc hc=>by
    have:=yfb (l:=l) (p:=qB num);rw[zi,ha]at this;exact this c hc
   have k:a≠[]:=by
    cases hx:enc u with
    |nil=>exact absurd hx (UP C)
    |cons c e =>
     have hc:qB num c=true:=by
      unfold UR at hp;rw[hx]at hp;simpa using hp
     rw[<-ha,<-B,zh,hx,xX,vZ hc];simp
   have hdr:l.drop a.length=r:=(by rw[E,oY]);obtain⟨m,I,A,h2⟩:=Lk a h (λc hc=>Oz (j c hc)) (B.trans E);have y:m.length<=n:=by
    have:=congrArg xD I;have:=yv.2 k;simp at *;omega
   obtain⟨b,Q⟩:=Ox num n m y h2;have z:∀c∈fZ a,c.toNat<=127:=by
    have F:∀(a:Wd),(∀c∈a,c.toNat<=127)->∀c∈kg a,c.toNat<=127:=λa ha c hc=>by
     unfold kg at hc;obtain⟨d,hd,hc⟩:=List.mem_flatMap.1 hc;split at hc
     .simp at hc;rw[hc];decide
     .simp at hc;rw[hc];exact ha d hd
    have o:=F a (λc hc=>Oz (j c hc));unfold fZ;split
    .intro c hc;rcases yX.1 hc with rfl|hc
     .decide
     rcases zS.1 hc with hc|hc
     .exact o c hc
     .rw[zJ.1 hc];decide
    .exact o
   have G:fZ a≠[]:=by
    unfold fZ;split
    .simp
    .cases a with
     |nil=>exact absurd rfl k
     |cons c a=>unfold kg;rw[zh];split<;>simp
   refine⟨(fZ a).map zI++b,?_,?_,λh=>xc,λ_=>by simp[G],?_,?_⟩
   .intro v hv;rcases zS.1 hv with hv|hv
    .obtain⟨c,hc,rfl⟩:=uQ.1 hv;exact dz (z c hc)
    .exact Q.ok v hv
   .rw[B,nN (s:=l) (by rw[ha];exact k),ha,hdr,yn,Z0 _ z,<-Q.bytes,A]
   .intro v s hv f;cases hv;exact absurd f hp
   .intro rs tail i hd g;rw[yk]at hd;have K:(b++tail).head?≠xu7 39:=by
     cases m with
     |nil=>rw[Q.no rfl];exact g
     |cons v s =>
      have hv:=h2 v zZ;have f:UR num v=true:=by
       unfold UR;cases hx:enc v with
       |nil=>exact absurd hx (UP hv)
       |cons c e =>
        rw[zh,hx,xX]at A;have x:=List.head?_dropWhile_not (p:=qB num) (l:=l);rw[hr,<-A]at x;simpa using x
      have:=Q.head v s rfl f;rw[List.head?_append,this];intro q;exact(Oy hv f).2.2.2.2.1 (by simpa using q)
    have H:=yg1 (num:=num) a j hd K;have w:=JR _ hd;rw[vg]at w;have D:=Q.read rs tail _ w g;rw[A]at D;have:=(H.then D).more (k2:=((fZ a).map zI++b).length) zZ;rw[B,E,show i+((fZ a).map zI++b).length=i+(fZ a).length+b.length by simp;omega];exact this
def Fo.bare:Fo->Fo
 |.nil => .nil
 |.text t r => .text t r.bare
 |.hash r => .hash r.bare
 |.put n _ r => .put n 0 r.bare
 |.num n _ r => .num n 0 r.bare
 |.br n _ f o _ bs r => .br n 0 f o 0 bs.bare r.bare
 |.xR k _ m r => .xR k 0 m.bare r.bare
def dy:∀f g:Fo,(f.app g).bare=f.bare.app g.bare
 |.nil,g=>rfl
 |.text t r,g=>congrArg (Fo.text t) (dy r g)
 |.hash r,g=>congrArg Fo.hash (dy r g)
 |.put n p r,g=>congrArg (Fo.put n 0) (dy r g)
 |.num n p r,g=>congrArg (Fo.num n 0) (dy r g)
 |.br n p f o c b r,g=>congrArg (Fo.br n 0 f o 0 b.bare) (dy r g)
 |.xR k p m r,g=>congrArg (Fo.xR k 0 m.bare) (dy r g)
def bF:∀f g h:Fo,(f.app g).app h=f.app (g.app h)
 |.nil,g,h=>rfl
 |.text t r,g,h=>congrArg (Fo.text t) (bF r g h)
 |.hash r,g,h=>congrArg Fo.hash (bF r g h)
 |.put n p r,g,h=>congrArg (Fo.put n p) (bF r g h)
 |.num n p r,g,h=>congrArg (Fo.num n p) (bF r g h)
 |.br n p f o c b r,g,h=>congrArg (Fo.br n p f o c b) (bF r g h)
 |.xR k p m r,g,h=>congrArg (Fo.xR k p m) (bF r g h)
def bS:∀f:Fo,f.app .nil=f
 |.nil=>rfl
 |.text t r=>congrArg (Fo.text t) (bS r)
 |.hash r=>congrArg Fo.hash (bS r)
 |.put n p r=>congrArg (Fo.put n p) (bS r)
 |.num n p r=>congrArg (Fo.num n p) (bS r)
 |.br n p f o c b r=>congrArg (Fo.br n p f o c b) (bS r)
 |.xR k p m r=>congrArg (Fo.xR k p m) (bS r)
def NT(f:Fo):Prop:=∀t,f.ye t=f.app (.text t .nil)
def Zs{x:Fo}(hx:x ≠ .nil)(t:Wd):∀f:Fo,(f.app x).ye t=f.app (x.ye t)
 |.nil=>rfl
 |.text s r=>by
  have a:=Zs hx t r;have hn:r.app x ≠ .nil:=λe=>by
   cases r<;>first|exact hx e|cases e
  show(Fo.text s (r.app x)).ye t=Fo.text s (r.app (x.ye t));rw[<-a];cases h:r.app x with
  |nil=>exact absurd h hn
  |_=>rfl
 |.hash r=>congrArg Fo.hash (Zs hx t r)
 |.put n p r=>congrArg (Fo.put n p) (Zs hx t r)
 |.num n p r=>congrArg (Fo.num n p) (Zs hx t r)
 |.br n p f o c b r=>congrArg (Fo.br n p f o c b) (Zs hx t r)
 |.xR k p m r=>congrArg (Fo.xR k p m) (Zs hx t r)
def NT.snoc(f:Fo){x:Fo}(hx:x ≠ .nil)(h:NT x):NT (f.app x):=λt=>by rw[Zs hx,h t,bF]
def NT.nil:NT .nil:=λ_=>rfl
def Asc(n:Wd):Prop:=∀c∈n,c.toNat<=127
def tX(n:Wd):Prop:=Asc n/\∀c:Int,c=125\/c=44\/c=32->YE (n.map zI) c=true
def zo2(num:Bool)(k:Wd):Prop:=(∃ds,k=61::ds/\num=true/\Asc ds/\bG (ds.map zI) 32=true)\/(tX k/\(num=true->k∈U2))
def zo3(f:Nat)(o:Wd):Prop:=o=[48]\/(f≠0/\0<yg o/\zm (yg o)=o/\Asc o/\bG (o.map zI) 32=true)
def Xs{x:Int}(h:qU x=true):gm x=false/\x≠61/\x≠125/\x≠58:=by
 unfold qU at h;refine⟨?_,?_,?_,?_⟩
 .unfold gm;simp at h|-;omega
 all_goals (simp at h;omega)
def US{x:Int}(h:vF x=true):gm x=false/\x≠58:=by
 unfold vF at h;refine⟨?_,?_⟩
 .unfold gm;simp at h|-;omega
 .simp at h;omega
def nS{N:List Int}{c:Int}(h:YE N c=true):∃x t,N=x::t/\qU x=true:=by
 unfold YE at h;simp only[zx,qu,zi,Y0]at h;cases N with
 |nil=>simp at h
 |cons x t =>
  refine⟨x,t,rfl,?_⟩;have:=h.1.2 0 zZ;unfold jt at this;simpa using this
def zo4{N:List Int}{c:Int}(h:YE N c=true):∀x∈N,x≠58:=by
 unfold YE at h;simp only[zx,qu,zi,Y0]at h;intro x hx;obtain⟨k,a,rfl⟩:=ql.1 hx;have:=h.1.2 k a;unfold jt at this;rw[ze,zk a]at this;simp only[Ex,zx,vR]at this;rcases this.2 with h1|h1
 .exact(Xs h1).2.2.2
 .exact(US h1.2).2
def xx1(K r:List Int)(h:∀x∈K,x≠58):(K++32::r).take 7≠Es:=by
 unfold Es;rcases K with _|⟨a,_|⟨b,_|⟨c,_|⟨d,_|⟨e,_|⟨f,_|⟨g,K⟩⟩⟩⟩⟩⟩⟩<;>simp;intro _ _ _ _ _ _;exact h g zZ
def ni{r:List Int}{n:Wd}{c:Int}(h:rs.drop i=n.map zI++c::r)(hn:tX n)(hc:c=125\/c=44\/c=32):yt rs i=i/\kO rs i = .ok (n,i+n.length):=by
 have a:=hn.2 c hc;refine⟨?_,?_⟩
 .obtain⟨x,t,e,hx⟩:=nS a;rw[e]at h;exact FL h (Xs hx).1
 .rw[zng (n.map zI) (c::r) h a,Z0 n hn.1,vg]
def yg2{r:List Int}{m:Option jH}{n:Wd}(h:rs.drop i=123::(n.map zI++125::r))(hn:tX n):gC rs m i = .ok (.put n i .nil,i+n.length+2):=by
 have h1:=O4 h;have h2:=JR _ h1;rw[vg]at h2;obtain⟨k1,k2⟩:=ni h1 hn (.inl rfl);unfold gC;rw[UO h,then_ok,k1,k2,then_ok,FL h2 zR,yV (by rw[EU h2];decide),UO h2,then_ok];rw[show i+1+n.length+1=i+n.length+2 by omega]
def arg_num{r:List Int}{m:Option jH}{n:Wd}(h:rs.drop i=123::(n.map zI++44::32::([110,117,109,98,101,114]++125::r)))(hn:tX n):gC rs m i = .ok (.num n i .nil,i+n.length+10):=by
 have h1:=O4 h;have h2:=JR _ h1;rw[vg]at h2;obtain⟨k1,k2⟩:=ni h1 hn (.inr (.inl rfl));have a:=O4 h2;have b:=O4 a;have c:rs.drop (i+1+n.length+1+1+6)=125::r:=JR [110,117,109,98,101,114] b;unfold gC;rw[UO h,then_ok,k1,k2,then_ok,FL h2 zR,yz (by rw[EU h2];decide),Py a zR,O5 [110,117,109,98,101,114] zb1 b (by rfl) zR (n:=i+1+n.length+1+1+6) rfl,then_ok,yV rfl,FL c zR,UO c,then_ok];rw[show i+1+n.length+1+1+6+1=i+n.length+10 by omega]
def yg3{r:List Int}{f:Nat}(hf:f<3)(h:rs.drop i=(qF f).map zI++44::r):kO rs i = .ok (qF f,i+(qF f).length)/\qF f≠zb1/\U3 (qF f)=some f/\gm (((qF f).map zI).headD 0)=false/\(qF f).map zI≠[]:=by
 have a:f=0\/f=1\/f=2:=J;rcases a with rfl|rfl|rfl
 .exact⟨O5 (MA.map zI) MA h (by rfl) zR (by rfl),zR,zR,zR,zR⟩
 .exact⟨O5 (Ma.map zI) Ma h (by rfl) zR (by rfl),zR,zR,zR,zR⟩
 .exact⟨O5 (PN.map zI) PN h (by rfl) zR (by rfl),zR,zR,zR,zR⟩
def eL{r:List Int}{num:Bool}{k:Wd}(h:rs.drop i=k.map zI++32::r)(d:zo2 num k):YV rs num i = .ok (k,i+k.length)/\gm (zt rs i)=false/\zt rs i≠125/\(∀x∈k.map zI,x≠58)/\Asc k:=by
 rcases d with⟨ds,rfl,rfl,ha,hw⟩|⟨hn,hc⟩
 .have h0:rs.drop i=61::(ds.map zI++32::r):=h;have e:=EU h0;refine⟨?_,by rw[e];decide,by rw[e];decide,?_,?_⟩
  .unfold YV;rw[yV ⟨rfl,e⟩,nM (ds.map zI) (32::r) (O4 h0) hw,then_ok,Z0 ds ha];simp;omega
  .intro x hx;rw[vE]at hx;rcases yX.1 hx with rfl|hx
   .decide
   .unfold bG at hw;simp only[zx,zi]at hw;exact(US (hw.1.1.2 x hx)).2
  .intro c hc;rcases yX.1 hc with rfl|hc
   .decide
   .exact ha c hc
 .have a:=hn.2 32 (.inr (.inr rfl));obtain⟨x,t,e,hx⟩:=nS a;have hb:=Xs hx;have h1:=h;rw[e]at h1;have b:zt rs i=x:=EU h1;refine⟨?_,by rw[b];exact hb.1,by rw[b];exact hb.2.2.1,zo4 a,hn.1⟩;unfold YV;rw[yz (by rw[b];exactλq=>hb.2.1 q.2),(ni h hn (.inr (.inr rfl))).2,then_ok,yz (λq=>q.2 (hc q.1))]
variable{f:Fo}{d p:Nat}
def Fo.cn:Fo->Nat->Bool->Prop
 |.nil,_,_=>True
 |.text t r,d,b=>(∃us:List Int,(∀u∈us,FM u)/\us≠[]/\t=us.flatMap enc)/\(∀s q,r ≠ .text s q)/\r.yT=true/\r.cn d b
 |.hash r,d,b=>b=true/\r.yT=true/\r.cn d b
 |.put n _ r,d,b=>tX n/\r.yT=true/\r.cn d b
 |.num n _ r,d,b=>tX n/\r.yT=true/\r.cn d b
 |.br n _ f o _ bs r,d,b=>tX n/\f<3/\zo3 f o/\bs ≠ .nil/\bs.xW=true/\bs.cn d (decide (f≠0))/\r.yT=true/\r.cn d b
 |.xR k _ m r,d,b=>zo2 b k/\(∃e,d=e+1/\m.yT=true/\m.cn e b)/\r.xW=true/\r.cn d b
def mD(rs:List Int):Nat->Option jH
 | 0=>none
 |n+1=>some (gH rs n)
def nl(rs:List Int)(d:Nat)(num:Bool)(i:Nat):gH rs d num i=vV rs (mD rs d) num (rs.length+1) .nil i:=by cases d<;>rfl
abbrev wr:=Y4 zm yg
structure PQ(d:Nat)(num:Bool)(f:Fo)(vs:List Int):Prop where
 ok:∀v∈vs,FM v
 bytes:wr num f=vs.flatMap enc
 hd:(∀t q,f ≠ .text t q)->∀tail:List Int,tail.head?≠some 39->(vs++tail).head?≠some 39
 read:∀(rs tail:List Int) (i:Nat),rs.drop i=vs++tail->(tail=[]\/∃r,tail=125::r)->∀n acc,vs.length<n->((∃t q,f = .text t q)->NT acc)->∃g,vV rs (mD rs d) num n acc i = .ok (g,i+vs.length)/\g.bare=acc.bare.app f.bare
structure LQ(d:Nat)(num:Bool)(f:Fo)(vs:List Int):Prop where
 ok:∀v∈vs,FM v
 bytes:wr num f=vs.flatMap enc
 first:f ≠ .nil->∀(rs tail:List Int) (i:Nat),rs.drop i=vs++tail->yt rs i=i+1/\Fw rs (i+1)=false/\(∃r,vs=32::r)
 read:∀(rs tail:List Int) (i:Nat),rs.drop i=vs++125::tail->∀n acc,vs.length<n->(f ≠ .nil\/acc.len≠0)->∃g,q9 rs (mD rs d) num n acc (yt rs i) = .ok (g,i+vs.length)/\g.bare=acc.bare.app f.bare
def Zy{n:Wd}(h:Asc n):∀v∈n.map zI,FM v:=λv hv=>by
 obtain⟨c,hc,rfl⟩:=uQ.1 hv;exact dz (h c hc)
def PQ.nil{num:Bool}:PQ d num .nil [] where
 ok:=λv hv=>by cases hv
 bytes:=rfl
 hd:=λ_ tail h=>h
 read:=λrs tail i h a n acc hn _=>by
  obtain⟨k,rfl⟩:∃k,n=k+1:=⟨n - 1,MB⟩;refine⟨acc,?_,(bS _).symm⟩;rw[xK]at h;refine go_end ?_;rcases a with rfl|⟨r,rfl⟩
  .exact .inl (xyd h)
  .exact .inr (EU h)
def PQ.text{num:Bool}{r:Fo}{us vs ws:List Int}(T:TxQ num us vs)(k:us≠[])(b:t=us.flatMap enc)(hr:∀s q,r ≠ .text s q)(R:PQ d num r ws):PQ d num (.text t r) (vs++ws) where
 ok:=λv hv=>(zS.1 hv).elim (T.ok v) (R.ok v)
 bytes:=by
  show Kf num t++wr num r=_;rw[b,T.bytes,R.bytes,yn]
 hd:=λh=>absurd rfl (h t r)
 read:=λrs tail i h j n acc hn a=>by
  rw[yk]at h;have f:tail.head?≠some 39:=by
   rcases j with rfl|⟨q,rfl⟩<;>simp
  have c:t≠[]:=by
   rw[b];cases us with
   |nil=>exact absurd rfl k
   |cons u us =>
    intro q;have:=T.ok;rw[zh,KE]at q;have hb:=T.bytes;rw[zh,q.1,q.2]at hb;have hv:=T.yes zZ;cases vs with
    |nil=>exact hv rfl
    |cons v vs =>
     rw[jJ,zh]at hb;exact UP (T.ok v zZ) (KE.1 hb.symm).1
  rw[zy]at hn;obtain⟨l,h1,h2⟩:=T.read rs (ws++tail) i h (R.hd hr tail f) (mD rs d) n acc J;obtain⟨g,g1,g2⟩:=R.read rs tail (i+vs.length) (JR _ h) j l (JS acc t) J (λ⟨s,q,e⟩=>absurd e (hr s q));refine⟨g,?_,?_⟩
  .rw[h2,<-b,g1,zy,kh]
  .rw[g2,<-Si _ c,a ⟨t,r,rfl⟩,dy,bF];rfl
def PQ.one{num:Bool}{x:Fo}{r:Fo}{xs ws:List Int}(hx:∀p,x.app p=x.app p)(hf:f.bare=x.bare.app r.bare)(l:x ≠ .nil)(e:NT x)(b:∀t q,f ≠ .text t q)(j:∀v∈xs,FM v)(hb:wr num f=xs.flatMap enc++wr num r)(a:∀tail:List Int,(xs++tail).head?≠some 39)(hp:0<xs.length)(R:PQ d num r ws)
  (hs:∀(rs tail:List Int) (i:Nat),rs.drop i=xs++tail->∀n acc,∃y,NT y/\y ≠ .nil/\y.bare=x.bare/\vV rs (mD rs d) num (n+1) acc i=vV rs (mD rs d) num n (acc.app y) (i+xs.length)):PQ d num f (xs++ws) where
 ok:=λv hv=>(zS.1 hv).elim (j v) (R.ok v)
 bytes:=by rw[hb,R.bytes,yn]
 hd:=λ_ tail _=>by rw[yk];exact a _
 read:=λrs tail i h c n acc hn _=>by
  rw[yk]at h;rw[zy]at hn;obtain⟨k,rfl⟩:∃k,n=k+1:=⟨n - 1,J⟩;obtain⟨y,m,o,s,u⟩:=hs rs (ws++tail) i h k acc;obtain⟨g,g1,g2⟩:=R.read rs tail (i+xs.length) (JR _ h) c k (acc.app y) J (λ_=>NT.snoc acc o m);refine⟨g,?_,?_⟩
  .rw[u,g1,zy,kh]
  .rw[g2,dy,s,hf,bF]
def PQ.put{num:Bool}{n:Wd}{r:Fo}{ws:List Int}(hn:tX n)(R:PQ d num r ws):PQ d num (.put n p r) (123::(n.map zI++[125])++ws):=by
 refine PQ.one (x := .put n p .nil) (λ_=>rfl) rfl (λh=>xc) (λ_=>rfl) (λ_ _ h=>by cases h) ?_ ?_ (λ_=>zZ) zZ R ?_
 .intro v hv;rcases yX.1 hv with rfl|hv
  .exact dz (c:=123) zR
  rcases zS.1 hv with hv|hv
  .exact Zy hn.1 v hv
  .rw[zJ.1 hv];exact dz (c:=125) zR
 .show 123::(n++125::wr num r)=_;rw[zh,yn,Z0 n hn.1,show enc 123=[123]by decide,show([125]:List Int).flatMap enc=[125]by decide];simp
 .intro rs tail i h k acc;have h0:rs.drop i=123::(n.map zI++125::tail):=by rw[h];simp
  refine⟨.put n i .nil,λ_=>rfl,λh=>xc,rfl,?_⟩;rw[go_arg h0 (yg2 h0 hn)];congr 1;simp;omega
def PQ.num{num:Bool}{n:Wd}{r:Fo}{ws:List Int}(hn:tX n)(R:PQ d num r ws):PQ d num (.num n p r) (123::(n.map zI++[44,32,110,117,109,98,101,114,125])++ws):=by
 refine PQ.one (x := .num n p .nil) (λ_=>rfl) rfl (λh=>xc) (λ_=>rfl) (λ_ _ h=>by cases h) ?_ ?_ (λ_=>zZ) zZ R ?_
 .intro v hv;rcases yX.1 hv with rfl|hv
  .exact dz (c:=123) zR
  rcases zS.1 hv with hv|hv
  .exact Zy hn.1 v hv
  .exact Zy (n:=[44,32,110,117,109,98,101,114,125]) (by unfold Asc;decide) v hv
 .show 123::(n++([44,32,110,117,109,98,101,114,125]++wr num r))=_;rw[zh,yn,Z0 n hn.1,show enc 123=[123]by decide,show([44,32,110,117,109,98,101,114,125]:List Int).flatMap enc=[44,32,110,117,109,98,101,114,125]by decide];simp
 .intro rs tail i h k acc;have h0:rs.drop i=123::(n.map zI++44::32::([110,117,109,98,101,114]++125::tail)):=by rw[h];simp
  refine⟨.num n i .nil,λ_=>rfl,λh=>xc,rfl,?_⟩;rw[go_arg h0 (arg_num h0 hn)];congr 1;simp;omega
def PQ.hash{r:Fo}{ws:List Int}(R:PQ d true r ws):PQ d true (.hash r) ([35]++ws):=by
 refine PQ.one (x := .hash .nil) (λ_=>rfl) rfl (λh=>xc) (λ_=>rfl) (λ_ _ h=>by cases h) ?_ ?_ (λ_=>zZ) zZ R ?_
 .intro v hv;rw[zJ.1 hv];exact dz (c:=35) zR
 .show 35::wr true r=_;rw[show([35]:List Int).flatMap enc=[35]by decide];rfl
 .intro rs tail i h k acc;exact⟨.hash .nil,λ_=>rfl,λh=>xc,rfl,go_hash (r:=tail) h⟩
def LQ.nil{num:Bool}:LQ d num .nil [] where
 ok:=λv hv=>by cases hv
 bytes:=rfl
 first:=λh=>absurd rfl h
 read:=λrs tail i h n acc hn ha=>by
  obtain⟨k,rfl⟩:∃k,n=k+1:=⟨n - 1,MB⟩;rw[xK]at h;refine⟨acc,?_,(bS _).symm⟩;rw[FL h zR];exact znf (EU h) (ha.elim (λq=>absurd rfl q) id)
variable{bs:Fo}{c:Nat}
def o5{a r:List Int}(h:rs.drop i=a++r):a.length<=rs.length:=zvg
def LQ.xR{e:Nat}{num:Bool}{k:Wd}{m r:Fo}{a ws:List Int}(q:zo2 num k)(C:m.yT=true)(M:PQ e num m a)(R:LQ (e+1) num r ws):LQ (e+1) num (.xR k p m r) (32::(k.map zI++([32,123]++(a++125::ws)))):=by
 have b:Asc k:=(eL (rs:=k.map zI++[32]) (i:=0) (r:=[]) rfl q).2.2.2.2;refine⟨?_,?_,?_,?_⟩
 .intro v hv;rcases yX.1 hv with rfl|hv
  .exact dz (c:=32) zR
  rcases zS.1 hv with hv|hv
  .exact Zy b v hv
  rcases zS.1 hv with hv|hv
  .exact Zy (n:=[32,123]) (by unfold Asc;decide) v hv
  rcases zS.1 hv with hv|hv
  .exact M.ok v hv
  rcases yX.1 hv with rfl|hv
  .exact dz (c:=125) zR
  .exact R.ok v hv
 .show 32::(k++([32,123]++(wr num m++125::wr num r)))=_;rw[M.bytes,R.bytes];simp only[zh,yn,xu6];rw[Z0 k b,show enc 32=[32]by decide,show enc 123=[123]by decide,show enc 125=[125]by decide];simp
 .intro _ rs tail i h;have h0:rs.drop i=32::(k.map zI++32::(123::(a++125::ws)++tail)):=by rw[h];simp
  have h1:=O4 h0;obtain⟨_,k2,_,k4,_⟩:=eL h1 q;refine⟨?_,?_,_,rfl⟩
  .exact yb1
  .unfold Fw;rw[h1];exact decide_eq_false (xx1 _ _ k4)
 .intro rs tail i h n acc hn _;obtain⟨j,rfl⟩:∃j,n=j+1:=⟨n - 1,MB⟩;have h0:rs.drop i=32::(k.map zI++32::(123::(a++125::(ws++125::tail)))):=by rw[h];simp
  have h1:=O4 h0;obtain⟨k1,k2,k3,k4,_⟩:=eL h1 q;have s:yt rs i=i+1:=yb1;have h2:=JR _ h1;rw[vg]at h2;have l:=Py h2 zR;have u:=O4 h2;have o:=O4 u;have B:=o5 o;obtain⟨g,g1,g2⟩:=M.read rs _ _ o (.inr ⟨_,rfl⟩) (rs.length+1) .nil J (λ_=>NT.nil);have w:=JR _ o;have d:=xo7 (m:=gH rs e) (f:=g) (z:=i+1+k.length+1+1+a.length) k1 (by rw[l];exact u) rfl (by rw[l,nl];exact g1) (EU w);have A:=O4 w;have y:a.length+ws.length+k.length+4<j+1:=MB;obtain⟨z,z1,z2⟩:=R.read rs tail _ A j (acc.app (.xR k (i+1) g .nil)) J (.inr (by rw[Fo.jD];simp[Fo.len]));refine⟨z,?_,?_⟩
  .rw[s];show q9 rs (some (gH rs e)) num (j+1) acc (i+1)=_;rw[znd k3 d];refine z1.trans ?_;congr 2;simp;omega
  .rw[z2,dy,bF];show acc.bare.app (.xR k 0 g.bare r.bare)=acc.bare.app (.xR k 0 m.bare r.bare);rw[g2];rfl
def Cs(o:Wd):List Int:=if 0<yg o then [32,111,102,102,115,101,116,58]++o.map zI else []
def xx2{tail ls:List Int}{f:Nat}{n o:Wd}(hn:tX n)(hf:f<3)(C:zo3 f o)(c:bs ≠ .nil)(B:LQ d (decide (f≠0)) bs ls)
  (h:rs.drop i=123::(n.map zI++44::32::((qF f).map zI++44::(Cs o++(ls++125::tail))))) :
  ∃q g,gC rs (mD rs d) i = .ok (.br n i f o q g .nil,i+n.length+(qF f).length+(Cs o).length+ls.length+5)/\g.bare=bs.bare:=by
 have h1:=O4 h;have h2:=JR _ h1;rw[vg]at h2;obtain⟨k1,k2⟩:=ni h1 hn (.inr (.inl rfl));have s:=O4 h2;have v:=O4 s;obtain⟨f1,f2,f3,f4,f5⟩:=yg3 hf v;have u:yt rs (i+1+n.length+1)=i+1+n.length+1+1:=by
  cases hw:(qF f).map zI with
  |nil=>exact absurd hw f5
  |cons x t =>
   rw[hw]at s f4;exact Py s f4
 have l:=JR _ v;rw[vg]at l;have b:=O4 l;obtain⟨D,z⟩:=zr (i+1+n.length+1+1+(qF f).length+1);rw[z]at b;have k:∃p,U5 rs f (yt rs D) = .ok (o,yt rs p)/\rs.drop p=ls++125::tail/\p=D+(Cs o).length:=by
  rcases C with rfl|⟨F,G,L,H,j⟩
  .have e:Cs [48]=[]:=(by decide);rw[e]at b|-;rw[xK]at b;obtain⟨b1,b2,_⟩:=B.first c rs _ D b;refine⟨D,?_,b,rfl⟩;unfold U5;rw[b1,yz (by rw[b2];simp)]
  .have e:Cs o=[32,111,102,102,115,101,116,58]++o.map zI:=(by unfold Cs;rw[yV G]);rw[e]at b|-;have w:rs.drop D=32::111::([102,102,115,101,116,58]++(o.map zI++(ls++125::tail))):=(by rw[b];simp);have I:=Py w zR;have y:=O4 w;have m:rs.drop (D+1+7)=o.map zI++(ls++125::tail):=JR [111,102,102,115,101,116,58] y;have a:=JR _ m;rw[vg]at a;obtain⟨_,_,q,E⟩:=B.first c rs _ _ a;have hw:=nM (o.map zI) _ m (by rw[E];exact j);rw[Z0 o H,vg]at hw;have K:yt rs (D+1+7)=D+1+7:=by
    unfold bG at j;simp only[zx,zi]at j;cases hx:o.map zI with
    |nil=>rw[hx]at j;simp at j
    |cons x t =>
     rw[hx]at m j;exact FL m (US (j.1.1.2 x zZ)).1
   refine⟨D+1+7+o.length,?_,a,yJ⟩;unfold U5;rw[I,yV ⟨F,by unfold Fw;rw[y];exact decide_eq_true rfl⟩,K,hw,then_ok]
 obtain⟨p,p1,p2,M⟩:=k;have A:=o5 p2;obtain⟨g,g1,g2⟩:=B.read rs tail p p2 (rs.length+1) .nil J (.inl c);have r:=JR _ p2;refine⟨p+ls.length,g,?_,g2⟩;unfold gC;rw[UO h,then_ok,k1,k2,then_ok,FL h2 zR,yz (by rw[EU h2];decide),u,f1,then_ok,yz f2,f3];show(uA rs 44 (yt rs _)).then _=_;rw[FL l zR,UO l,then_ok,z,p1,then_ok];show(q9 rs (mD rs d) (decide (f≠0)) (rs.length+1) .nil (yt rs p)).then _=_;rw[g1,then_ok,UO r,then_ok];congr 2;omega
def PQ.br{num:Bool}{n o:Wd}{f:Nat}{r:Fo}{ls ws:List Int}(hn:tX n)(hf:f<3)(l:zo3 f o)(e:bs ≠ .nil)(B:LQ d (decide (f≠0)) bs ls)(R:PQ d num r ws) :
  PQ d num (.br n p f o c bs r) ((123::(n.map zI++44::32::((qF f).map zI++44::(Cs o++(ls++[125])))))++ws):=by
 have a:Asc (qF f):=by
  have j:f=0\/f=1\/f=2:=J;rcases j with rfl|rfl|rfl<;>(unfold Asc;decide)
 have b:(∀v∈Cs o,FM v)/\(Cs o).flatMap enc=if 0<yg o then [32,111,102,102,115,101,116,58]++zm (yg o)else []:=by
  unfold Cs;rcases l with rfl|⟨u,m,t,s,w⟩
  .rw[yz zR,yz zR];exact⟨λv hv=>(by cases hv),rfl⟩
  .rw[yV m,yV m,t];refine⟨λv hv=>?_,?_⟩
   .rcases zS.1 hv with hv|hv
    .exact Zy (n:=[32,111,102,102,115,101,116,58]) (by unfold Asc;decide) v hv
    .exact Zy s v hv
   .rw[yn,Z0 o s,show([32,111,102,102,115,101,116,58]:List Int).flatMap enc=[32,111,102,102,115,101,116,58]by decide]
 refine PQ.one (x := .br n p f o c bs .nil) (λ_=>rfl) rfl (λh=>xc) (λ_=>rfl) (λ_ _ h=>by cases h) ?_ ?_ (λ_=>zZ) zZ R ?_
 .intro v hv;rcases yX.1 hv with rfl|hv
  .exact dz (c:=123) zR
  rcases zS.1 hv with hv|hv
  .exact Zy hn.1 v hv
  rcases yX.1 hv with rfl|hv
  .exact dz (c:=44) zR
  rcases yX.1 hv with rfl|hv
  .exact dz (c:=32) zR
  rcases zS.1 hv with hv|hv
  .exact Zy a v hv
  rcases yX.1 hv with rfl|hv
  .exact dz (c:=44) zR
  rcases zS.1 hv with hv|hv
  .exact b.1 v hv
  rcases zS.1 hv with hv|hv
  .exact B.ok v hv
  .rw[zJ.1 hv];exact dz (c:=125) zR
 .show 123::(n++([44,32]++(qF f++44::((if 0<yg o then [32,111,102,102,115,101,116,58]++zm (yg o)else [])++(wr (decide (f≠0)) bs++125::wr num r)))))=_;rw[<-b.2,B.bytes];simp only[zh,yn,xu6];rw[Z0 n hn.1,Z0 _ a,show enc 123=[123]by decide,show enc 44=[44]by decide,show enc 32=[32]by decide,show enc 125=[125]by decide];simp
 .intro rs tail i h k acc;have h0:rs.drop i=123::(n.map zI++44::32::((qF f).map zI++44::(Cs o++(ls++125::tail)))):=by rw[h];simp
  obtain⟨q,g,g1,g2⟩:=xx2 hn hf l e B h0;refine⟨.br n i f o q g .nil,λ_=>rfl,λh=>xc,?_,?_⟩
  .show Fo.br n 0 f o 0 g.bare .nil=Fo.br n 0 f o 0 bs.bare .nil;rw[g2]
  .rw[go_arg h0 g1];congr 1;simp;omega
def Xt:∀(f:Fo) (d:Nat) (num:Bool),f.cn d num->(f.yT=true->∃vs,PQ d num f vs)/\(f.xW=true->∃vs,LQ d num f vs)
 |.nil,d,num,_=>⟨λ_=>⟨[],PQ.nil⟩,λ_=>⟨[],LQ.nil⟩⟩
 |.text t r,d,num,h=>by
  obtain⟨⟨us,h1,h2,g⟩,i,a,b⟩:=h;obtain⟨ws,R⟩:=(Xt r d num b).1 a;obtain⟨vs,T⟩:=Ox num us.length us (Y _) h1;exact⟨λ_=>⟨_,PQ.text T h2 g i R⟩,λq=>kK⟩
 |.hash r,d,num,h=>by
  obtain⟨rfl,a,b⟩:=h;obtain⟨ws,R⟩:=(Xt r d true b).1 a;exact⟨λ_=>⟨_,PQ.hash R⟩,λq=>kK⟩
 |.put n p r,d,num,h=>by
  obtain⟨h1,a,b⟩:=h;obtain⟨ws,R⟩:=(Xt r d num b).1 a;exact⟨λ_=>⟨_,PQ.put h1 R⟩,λq=>kK⟩
 |.num n p r,d,num,h=>by
  obtain⟨h1,a,b⟩:=h;obtain⟨ws,R⟩:=(Xt r d num b).1 a;exact⟨λ_=>⟨_,PQ.num h1 R⟩,λq=>kK⟩
 |.br n p f o c bs r,d,num,h=>by
  obtain⟨h1,h2,g,i,a,b,j,l⟩:=h;obtain⟨ws,R⟩:=(Xt r d num l).1 j;obtain⟨ls,B⟩:=(Xt bs d _ b).2 a;exact⟨λ_=>⟨_,PQ.br h1 h2 g i B R⟩,λq=>kK⟩
 |.xR k p m r,d,num,h=>by
  obtain⟨h1,⟨e,rfl,h2,g⟩,i,a⟩:=h;obtain⟨s,M⟩:=(Xt m e num g).1 h2;obtain⟨ws,R⟩:=(Xt r (e+1) num a).2 i;exact⟨λq=>kK,λ_=>⟨_,LQ.xR h1 h2 M R⟩⟩
def tV(h:f.cn 5 false)(hm:f.yT=true)(a:(wr false f).length<=1000):∃g,xw (wr false f) = .ok g/\g.bare=f.bare:=by
 obtain⟨vs,P⟩:=(Xt f 5 false h).1 hm;obtain⟨r1,r2⟩:=Se vs P.ok;obtain⟨g,g1,g2⟩:=P.read vs [] 0 zZ (.inl rfl) (vs.length+1) .nil J (λ_=>NT.nil);refine⟨g,?_,g2⟩;rw[P.bytes]at a|-;unfold xw;rw[yz J,yz J,r1];unfold gu;rw[nl,g1,then_ok,yV (xyd zZ)]
def o6:∀(n:Nat) (o:Wd),o.length=n->o≠[]->(∀c∈o,48<=c.toNat/\c.toNat<=57)->(o.length=1\/o.headD 0≠48)->zm (yg o)=o/\(o.headD 0≠48->0<yg o):=by
 intro n;induction n with
 |zero=>intro o h h0;exact absurd (zN h) h0
 |succ n p =>
  intro o h h0 hd k;obtain⟨t,c,rfl⟩:∃t c,o=t++[c]:=⟨o.dropLast,o.getLast h0,by rw[List.dropLast_concat_getLast]⟩;have hc:=hd c zZ;have j:t.length=n:=by simpa using h
  have hv:yg (t++[c])=10*yg t+(c.toNat - 48):=by unfold yg;rw[TX];rfl
  have b:uC (48+(c.toNat - 48))=c:=by
   apply dW.1;rw[Ev,OQ J];omega
  by_cases f:t=[]
  .subst f;have i:yg ([]++[c])=c.toNat - 48:=(by rw[hv];show 10*0+_=_;omega);rw[i,zm,dif_pos J,b];refine⟨rfl,λd=>?_⟩;have d:c≠48:=d;have:c.toNat≠48:=λe=>d (dW.1 e)
   omega
  .have g:(t++[c]).headD 0=t.headD 0:=by
    cases t with
    |nil=>exact absurd rfl f
    |cons x r=>rfl
   have a:t.headD 0≠48:=by
    rcases k with q|q
    .have:=yv.2 f;rw[zy,gU]at q;omega
    .rw[g]at q;exact q
   obtain⟨l,m⟩:=p t j f (λx hx=>hd x (by simp[hx])) (.inr a);have hp:=m a;rw[hv,zm,dif_neg J,show(10*yg t+(c.toNat - 48)) / 10=yg t by omega,show(10*yg t+(c.toNat - 48)) % 10=c.toNat - 48 by omega,l,b];exact⟨rfl,λ_=>J⟩
variable{n:Nat}{x:Wd}
def Sn:∀N:List Int,(∀r∈N,0<=r/\r<128)->(N.flatMap enc).map zI=N/\Asc (N.flatMap enc)
 |[],_=>⟨rfl,λc hc=>by cases hc⟩
 |r::N,h=>by
  have h0:=h r zZ;obtain⟨h1,h2⟩:=Sn N (λx hx=>h x (by simp[hx]));obtain⟨c,hc,rfl⟩:∃c:UInt8,c.toNat<=127/\r=zI c:=⟨uC r.toNat,by rw[EH J];omega,by simp only[zI];rw[EH J];omega⟩;rw[zh,ycg hc];refine⟨?_,?_⟩
  .rw[TT,h1];rfl
  .intro d hd;rcases zS.1 hd with hd|hd
   .rw[zJ.1 hd];exact hc
   .exact h2 d hd
def Sp{F:Int->Nat->Bool}(hF:∀r k,F r k=true->0<=r/\r<128)(hn:runN F rs i=n):∃N,N.length=n/\(∀k,k<n->N.getD k (-1)=zt rs (i+k)/\F (N.getD k (-1)) k=true)/\(ui rs i n).map zI=N/\Asc (ui rs i n):=by
 have hf:∀k,k<n->F (zt rs (i+k)) k=true:=λk a=>Ut (by rw[hn];exact a)
 have e:∀k,k<n->i+k<rs.length:=λk a=>by
  refine Nat.lt_of_not_le (λf=>?_);have:=(hF _ _ (hf k a)).1;rw[kM f]at this;omega
 obtain⟨N,c⟩:=zr ((rs.drop i).take n);have g:N.length=n:=by
  rw[<-c,uK,yh];by_cases h0:n=0
  .omega
  .have:=e (n - 1) J;omega
 have d:∀k,k<n->N.getD k (-1)=zt rs (i+k):=λk a=>by
  unfold zt;rw[ze,ze,<-c,OY,yV a,TR]
 have b:∀r∈N,0<=r/\r<128:=λr hr=>by
  obtain⟨k,a,rfl⟩:=ql.1 hr;have h1:=d k J;rw[ze,zk a]at h1;have h2:N[k]=zt rs (i+k):=h1;rw[h2];exact hF _ _ (hf k J)
 obtain⟨b1,b2⟩:=Sn N b;have hp:ui rs i n=N.flatMap enc:=by unfold ui;rw[c]
 exact⟨N,g,λk a=>⟨d k a,by rw[d k a];exact hf k a⟩,by rw[hp];exact b1,by rw[hp];exact b2⟩
def o7(h:kO rs i = .ok (x,j)):tX x:=by
 unfold kO at h;split at h
 .cases h
 next hn =>
 cases h;obtain⟨N,h1,h2,b,d⟩:=Sp (F:=jt) (λr k hr=>by
  simp only[jt,qU,vF,zx,vR,vJ,beq_iff_eq]at hr;exact J) (rs:=rs) (i:=i) (n:=ky rs i) rfl
 refine⟨d,λc hc=>?_⟩;rw[b];unfold YE;simp only[zx,qu,zi,Y0];refine⟨⟨?_,λk e=>(h2 k J).2⟩,?_⟩
 .cases N with
  |nil=>simp at h1;omega
  |cons a t=>rfl
 .unfold jt;rcases hc with rfl|rfl|rfl<;>simp[qU,vF]
def Ct(h:qO rs i = .ok (x,j)):Asc x/\bG (x.map zI) 32=true/\(∀c∈x,48<=c.toNat/\c.toNat<=57)/\x≠[]/\(x.length=1\/x.headD 0≠48):=by
 unfold qO at h;split at h
 .cases h
 next hn =>
 cases h;obtain⟨n,l⟩:=zr (qk rs i);have hd:∀r k,gx (zt rs i) r k=true->k<9/\vF r=true/\(k=0\/zt rs i≠48):=λr k hr=>by
  unfold gx at hr;simp only[zx,vR,vJ]at hr;exact⟨hr.1.1,hr.1.2,hr.2.imp id (λq=>by simpa using q)⟩
 obtain⟨N,h1,h2,d,g⟩:=Sp (F:=gx (zt rs i)) (λr k hr=>by
  have:=(hd r k hr).2.1;unfold vF at this;simp at this;exact J) (rs:=rs) (i:=i) (n:=n) l
 rw[l]at hn|-;obtain⟨x,hx⟩:=zr (ui rs i n);rw[hx]at d g|-;have v:x.length=n:=by rw[<-h1,<-d,vg]
 have w:n<=9:=by
  have:=(hd _ _ (h2 (n - 1) J).2).1;omega
 have EY:∀r∈N,vF r=true:=λr hr=>by
  obtain⟨k,u,rfl⟩:=ql.1 hr;have:=(hd _ _ (h2 k J).2).2.1;rwa [ze,zk u]at this
 have b:N≠[]:=λe=>by rw[e]at h1;simp at h1;omega
 have f:n=1\/N.headD 0≠48:=by
  by_cases q:n=1
  .exact .inl q
  .have o:=(hd _ _ (h2 1 J).2).2.2;have p:=(h2 0 J).1;cases N with
   |nil=>exact absurd rfl b
   |cons a t =>
    have s:a=zt rs i:=p;refine .inr ?_;show a≠48;rw[s];exact o.elim (λq=>absurd q zR) id
 refine⟨g,?_,λc hc=>?_,λe=>b (by rw[<-d,e];rfl),?_⟩
 .rw[d];unfold bG;simp only[zx,qu,zi,vJ,vR];refine⟨⟨⟨⟨?_,J⟩,EY⟩,?_⟩,zR⟩
  .cases N with
   |nil=>exact absurd rfl b
   |cons a t=>rfl
  .exact f.imp (λq=>J) (λq=>by simpa using q)
 .have:=EY (zI c) (by rw[<-d];exact wK hc);unfold vF at this;simp[zI]at this;omega
 .rcases f with q|q
  .exact .inl J
  .refine .inr λe=>q ?_
   cases x with
   |nil=>rw[<-d]at b;exact absurd rfl b
   |cons c t =>
    have m:c=48:=e;rw[<-d,m];rfl
def zo5{num:Bool}{k:Wd}(h:YV rs num i = .ok (k,j)):zo2 num k:=by
 unfold YV at h;split at h
 .next b =>
  obtain⟨a,q,h1,h2⟩:=zG h;cases h2;obtain⟨w1,w2,_⟩:=Ct h1;exact .inl ⟨a,rfl,b.1,w1,w2⟩
 .obtain⟨a,q,h1,h2⟩:=zG h;split at h2
  .cases h2
  .next b =>
   cases h2;exact .inr ⟨o7 h1,λhn=>yu λq=>b ⟨hn,q⟩⟩
def zo6{form:Nat}{o:Wd}(h:U5 rs form i = .ok (o,j)):zo3 form o:=by
 unfold U5 at h;split at h
 .next e =>
  obtain⟨a,q,h1,h2⟩:=zG h;cases h2;obtain⟨w1,w2,w3,f,b⟩:=Ct h1;obtain⟨d1,d2⟩:=o6 o.length o rfl f w3 b;by_cases d:o.headD 0=48
  .rcases b with b|b
   .refine .inl ?_;match o,b,d with
    |[c],_,d=>rw[show c=48 from d]
   .exact absurd d b
  .exact .inr ⟨e.1,d2 d,d1,w1,w2⟩
 .cases h;exact .inl rfl
variable{l:List UInt8}
def zo7(l:List UInt8):XJ (b8 l).1:=by
 have hb:=(l.getD 0 0).toNat_lt;have a:=(l.getD 1 0).toNat_lt;have b:=(l.getD 2 0).toNat_lt;have c:=(l.getD 3 0).toNat_lt;unfold XJ b8 jI;repeat' split
 all_goals (simp only[];omega)
def Sr:∀(n:Nat) (l:List UInt8),l.length<=n->∀r∈xz l,FM r
 | 0,l,h=>by
  have:l=[]:=zN J;subst this;rw[jN];intro r hr;cases hr
 |n+1,l,h=>by
  by_cases a:l=[]
  .subst a;rw[jN];intro r hr;cases hr
  by_cases h0:xY l=0
  .rw[xz,dif_pos (.inr h0)];intro r hr;cases hr
  .rw[jO a h0];have:=yv.2 a;intro r hr;rcases yX.1 hr with rfl|hr
   .exact⟨_,zo7 l,rfl⟩
   .exact Sr n (l.drop (xY l)) yJ r hr
def F7:∀(n:Nat) (l:List Int),l.length<=n->∀r∈(xy l).1,r∈l
 | 0,l,h=>by
  have:l=[]:=zN J;subst this;intro r hr;rw[xy]at hr;cases hr
 |n+1,[],_=>λr hr=>by rw[xy]at hr;cases hr
 |n+1,c::t,h=>by
  intro r hr;rw[xy.eq_def]at hr;simp only at hr;simp only[zY]at h;split at hr
  .next hc =>
   split at hr
   .cases hr
   .next d u =>
    split at hr
    .rcases yX.1 hr with rfl|hr
     .simp[hc]
     .have:=F7 n u Gx r hr;simp[this]
    .cases hr
  .rcases yX.1 hr with rfl|hr
   .simp
   .have:=F7 n t J r hr;simp[this]
def Ss(t:Wd):Prop:=∃us:List Int,(∀u∈us,FM u)/\us≠[]/\t=us.flatMap enc
def Ss.app{s:Wd}(h:Ss s)(h2:Ss t):Ss (s++t):=by
 obtain⟨us,a1,a2,rfl⟩:=h;obtain⟨vs,b1,b2,rfl⟩:=h2;exact⟨us++vs,λu a=>(zS.1 a).elim (a1 u) (b1 u),by simp[a2],by rw[yn]⟩
def ycd:FM 39:=dz (c:=39) zR
def tU{rs:List Int}{num:Bool}(hr:∀r∈rs,FM r)(h:zt rs i≠-1):Ss (qv rs num i).1:=by
 have hn:∀j,zt rs j≠-1->FM (zt rs j):=λj f=>by
  by_cases d:j<rs.length
  .rw[MK d];exact hr _ (yf d)
  .exact absurd (kM J) f
 have one:∀u,FM u->Ss (enc u):=λu c=>⟨[u],λv hv=>by rw[zJ.1 hv];exact c,zZ,zZ⟩
 unfold qv;split
 .exact one _ (hn i h)
 split
 .exact one _ ycd
 next b =>
 split
 .exact one _ ycd
 .next a =>
  refine⟨(xy (rs.drop (i+1))).1,λu c=>hr _ (dV (F7 _ _ (Y _) u c)),?_,rfl⟩;cases hd:rs.drop (i+1) with
  |nil =>
   rw[xyd hd]at a;exact absurd (by cases num<;>rfl) a
  |cons x t =>
   have:x≠39:=λe=>b (by rw[EU hd,e])
   rw[xy.eq_def];simp[this]
def gP:∀f g:Fo,f.yT=true->g.yT=true->(f.app g).yT=true
 |.nil,g,_,h=>h
 |.text t r,g,h,h2=>gP r g h h2
 |.hash r,g,h,h2=>gP r g h h2
 |.put n a r,g,h,h2=>gP r g h h2
 |.num n a r,g,h,h2=>gP r g h h2
 |.br n a f o c b r,g,h,h2=>gP r g h h2
def Xh{d:Nat}{b:Bool}{x:Fo}(hx:x.cn d b)(hm:x.yT=true)(g:∀s q,x ≠ .text s q):∀f:Fo,f.cn d b->f.yT=true->(f.app x).cn d b
 |.nil,_,_=>hx
 |.text t r,h,hf=>by
  refine⟨h.1,λs q=>?_,gP r x h.2.2.1 hm,Xh hx hm g r h.2.2.2 h.2.2.1⟩;cases r with
  |nil=>exact g s q
  |text i q2=>exact absurd rfl (h.2.1 i q2)
  |_=>exactλe=>gJ
 |.hash r,h,hf=>⟨h.1,gP r x h.2.1 hm,Xh hx hm g r h.2.2 h.2.1⟩
 |.put n a r,h,hf=>⟨h.1,gP r x h.2.1 hm,Xh hx hm g r h.2.2 h.2.1⟩
 |.num n a r,h,hf=>⟨h.1,gP r x h.2.1 hm,Xh hx hm g r h.2.2 h.2.1⟩
 |.br n a f o c bs r,h,hf=>⟨h.1,h.2.1,h.2.2.1,h.2.2.2.1,h.2.2.2.2.1,h.2.2.2.2.2.1,gP r x h.2.2.2.2.2.2.1 hm,Xh hx hm g r h.2.2.2.2.2.2.2 h.2.2.2.2.2.2.1⟩
 |.xR k a m r,h,hf=>Ve
def o8{d:Nat}{b:Bool}{x:Fo}(hx:x.cn d b)(hm:x.xW=true):∀f:Fo,f.cn d b->f.xW=true->(f.app x).cn d b
 |.nil,_,_=>hx
 |.text t r,h,hf=>Ve
 |.hash r,h,hf=>Ve
 |.put n a r,h,hf=>Ve
 |.num n a r,h,hf=>Ve
 |.br n a f o c bs r,h,hf=>Ve
 |.xR k a m r,h,hf=>⟨h.1,h.2.1,Fo.gi _ _ h.2.2.1 hm,o8 hx hm r h.2.2.2 h.2.2.1⟩
def XQ{d:Nat}{b:Bool}(ht:Ss t):∀f:Fo,f.cn d b->f.yT=true->(f.ye t).cn d b/\(f.ye t).yT=true
 |.nil,_,_=>⟨⟨ht,λ_ _ e=>gJ,rfl,trivial⟩,rfl⟩
 |.text s .nil,h,hf=>⟨⟨Ss.app h.1 ht,λ_ _ e=>gJ,rfl,trivial⟩,rfl⟩
 |.text s (.text g q2),h,hf=>absurd rfl (h.2.1 g q2)
 |.text s (.hash r),h,hf=>by
  obtain⟨k1,k2⟩:=XQ ht (.hash r) h.2.2.2 h.2.2.1;exact Md
 |.text s (.put n a r),h,hf=>by
  obtain⟨k1,k2⟩:=XQ ht (.put n a r) h.2.2.2 h.2.2.1;exact Md
 |.text s (.num n a r),h,hf=>by
  obtain⟨k1,k2⟩:=XQ ht (.num n a r) h.2.2.2 h.2.2.1;exact Md
 |.text s (.br n a f o c bs r),h,hf=>by
  obtain⟨k1,k2⟩:=XQ ht (.br n a f o c bs r) h.2.2.2 h.2.2.1;exact Md
 |.text s (.xR k a m r),h,hf=>Ve
 |.hash r,h,hf=>Th
 |.put n a r,h,hf=>Th
 |.num n a r,h,hf=>Th
 |.br n a f o c bs r,h,hf=>by
  obtain⟨k1,k2⟩:=XQ ht r h.2.2.2.2.2.2.2 h.2.2.2.2.2.2.1;exact⟨⟨h.1,h.2.1,h.2.2.1,h.2.2.2.1,h.2.2.2.2.1,h.2.2.2.2.2.1,k2,k1⟩,k2⟩
 |.xR k a m r,h,hf=>Ve
def St(d:Nat)(m:jH):Prop:=∃e,d=e+1/\∀num i f j,m num i = .ok (f,j)->f.cn e num/\f.yT=true
section
variable {rs:List Int} {d:Nat} {msg:Option jH}
def xx3{num:Bool}(hm:∀m,msg=some m->St d m)(h:bH rs msg num i = .ok (f,j)):f.cn d num/\f.xW=true/\f ≠ .nil:=by
 unfold bH at h;obtain⟨k,a,h1,h2⟩:=zG h;obtain⟨u,b,s,l⟩:=zG h2;have r:=zo5 h1;cases msg with
 |none=>cases l
 |some m =>
  obtain⟨g,c,n,o⟩:=zG (show(m num b).then _=_ from l);obtain⟨u2,z,t,p⟩:=zG o;obtain⟨e,he,hc⟩:=hm m rfl;obtain⟨c1,c2⟩:=hc _ _ _ _ n;cases p;exact⟨⟨r,⟨e,he,c2,c1⟩,rfl,trivial⟩,rfl,λq=>kK⟩
def o9{num:Bool}(hm:∀m,msg=some m->St d m):∀(n:Nat) (acc:Fo) (i j:Nat) (f:Fo),q9 rs msg num n acc i = .ok (f,j)->acc.cn d num->acc.xW=true->f.cn d num/\f.xW=true/\f ≠ .nil
 | 0,acc,i,j,f,h,_,_=>xc
 |n+1,acc,i,j,f,h,ha,hb=>by
  rw[q9]at h;split at h
  .next a =>
   cases h;exact⟨ha,hb,λe=>a.2 (by rw[e];rfl)⟩
  .obtain⟨g,q,h1,h2⟩:=zG h;obtain⟨g1,g2,b⟩:=xx3 hm h1;exact o9 hm n _ _ _ _ h2 (o8 g1 g2 acc ha hb) (Fo.gi _ _ hb g2)
def xx4{b0:Bool}(hm:∀m,msg=some m->St d m)(h:gC rs msg i = .ok (f,j)):f.cn d b0/\f.yT=true/\∀s q,f ≠ .text s q:=by
 unfold gC at h;obtain⟨u,a,h1,h2⟩:=zG h;obtain⟨nm,b,x,n⟩:=zG h2;have hn:=o7 x;clear h h1 h2 x;split at n
 .obtain⟨u,z,y,k⟩:=zG n;cases k;exact⟨⟨hn,rfl,trivial⟩,rfl,λ_ _ e=>gJ⟩
 .obtain⟨E,c,y,k⟩:=zG n;clear n y;split at k
  .obtain⟨u,z,B,w⟩:=zG k;cases w;exact⟨⟨hn,rfl,trivial⟩,rfl,λ_ _ e=>gJ⟩
  .split at k
   .cases k
   .next form g =>
    obtain⟨u,d2,B,w⟩:=zG k;obtain⟨o,l,C,p⟩:=zG w;obtain⟨bs,q,r,t⟩:=zG p;obtain⟨u,z,A,v⟩:=zG t;have D:=zo6 C;obtain⟨b1,b2,b3⟩:=o9 hm _ _ _ _ _ r trivial rfl;have hf:form<3:=by
     unfold U3 at g;split at g
     .cases g;omega
     split at g
     .cases g;omega
     split at g
     .cases g;omega
     .cases g
    cases v;exact⟨⟨hn,hf,D,b3,b2,b1,rfl,trivial⟩,rfl,λ_ _ e=>gJ⟩
def Ch{num:Bool}(hr:∀r∈rs,FM r)(hm:∀m,msg=some m->St d m):∀(n:Nat) (acc:Fo) (i j:Nat) (f:Fo),vV rs msg num n acc i = .ok (f,j)->acc.cn d num->acc.yT=true->f.cn d num/\f.yT=true
 | 0,acc,i,j,f,h,_,_=>xc
 |n+1,acc,i,j,f,h,ha,hb=>by
  rw[vV]at h;split at h
  .cases h;exact⟨ha,hb⟩
  next a =>
  split at h
  .obtain⟨g,q,h1,h2⟩:=zG h;obtain⟨g1,g2,b⟩:=xx4 (b0:=num) hm h1;exact Ch hr hm n _ _ _ _ h2 (Xh g1 g2 b acc ha hb) (gP _ _ hb g2)
  split at h
  .next c =>
   exact Ch hr hm n _ _ _ _ h (Xh (x := .hash .nil) ⟨c.2,rfl,trivial⟩ rfl (λ_ _ e=>gJ) acc ha hb) (gP _ _ hb rfl)
  .obtain⟨t1,t2⟩:=XQ (tU (num:=num) hr (λq=>a (.inl q))) acc ha hb;exact Ch hr hm n _ _ _ _ h t1 t2
def oz(hr:∀r∈rs,FM r):∀n,St (n+1) (gH rs n)
 | 0=>⟨0,rfl,λnum i f j h=>by
  rw[gH]at h;exact Ch (d:=0) hr (λm e=>gJ) _ _ _ _ _ h trivial rfl⟩
 |n+1=>⟨n+1,rfl,λnum i f j h=>by
  rw[gH]at h;exact Ch hr (λm e=>by cases e;exact oz hr n) _ _ _ _ _ h trivial rfl⟩
end
def Ov(h:xw l = .ok f):f.cn 5 false/\f.yT=true:=by
 unfold xw at h;split at h
 .cases h
 split at h
 .cases h
 cases hp:gu (xz l) with
 |error e=>rw[hp]at h;cases h
 |ok x =>
  rw[hp]at h;cases h;unfold gu at hp;obtain⟨g,q,h1,h2⟩:=zG (b:=x.1) (j:=x.2) hp;split at h2
  .cases h2;obtain⟨e,he,hc⟩:=oz (Sr _ l (Y _)) 5;obtain rfl:e=5:=(by omega);exact hc _ _ _ _ h1
  .cases h2
def eM(h:xw l = .ok f)(a:(wr false f).length<=1000):∃g,xw (wr false f) = .ok g/\g.bare=f.bare :=
 tV (Ov h).1 (Ov h).2 a
def F8:∀f:Fo,f.bare.keys=f.keys
 |.xR k _ _ r=>congrArg (k :: ·) (F8 r)
 |.nil=>rfl
 |.text _ _=>rfl
 |.hash _=>rfl
 |.put _ _ _=>rfl
 |.num _ _ _=>rfl
 |.br _ _ _ _ _ _ _=>rfl
def F9:∀(f:Fo) (s:MkS) (a:List Nat),MkS.vN f.bare s a=MkS.vN f s a
 |.xR k _ _ r,s,a=>by
  show MkS.vN (.xR k 0 _ r.bare) s a=_;rw[MkS.vN,MkS.vN,F9 r,F9 r]
 |.nil,_,_=>rfl
 |.text _ _,_,_=>rfl
 |.hash _,_,_=>rfl
 |.put _ _ _,_,_=>rfl
 |.num _ _ _,_,_=>rfl
 |.br _ _ _ _ _ _ _,_,_=>rfl
def Fz:∀(f:Fo) (s:MkS) (a:List (Wd×Nat)),MkS.vq f.bare s a=MkS.vq f s a
 |.xR k _ _ r,s,a=>by
  show MkS.vq (.xR k 0 _ r.bare) s a=_;rw[MkS.vq,MkS.vq,Fz r,Fz r]
 |.nil,_,_=>rfl
 |.text _ _,_,_=>rfl
 |.hash _,_,_=>rfl
 |.put _ _ _,_,_=>rfl
 |.num _ _ _,_,_=>rfl
 |.br _ _ _ _ _ _ _,_,_=>rfl
def Lj(n:Wd)(f:Fo)(s:MkS):MkS.fy n f.bare s=MkS.fy n f s:=F9 f _ _
def Lg(n o:Wd)(f:Fo)(s:MkS):MkS.VV n o f.bare s=MkS.VV n o f s:=Fz f _ _
def tK(n:Wd)(f:Fo)(s:MkS):MkS.bL n f.bare s=MkS.bL n f s:=by
 funext k x;unfold MkS.bL;rw[Lj,F8]
def tJ(n o:Wd)(f:Fo)(s:MkS):MkS.kZ n o f.bare s=MkS.kZ n o f s:=by
 funext k x;unfold MkS.kZ;rw[Lg,F8]
def tG(n:Wd)(f:Fo)(s:MkS):MkS.kT n f.bare s=MkS.kT n f s:=by unfold MkS.kT;rw[Lj]
def tF(n o:Wd)(x:Nat)(f:Fo)(s:MkS):MkS.kY n o x f.bare s=MkS.kY n o x f s:=by unfold MkS.kY;rw[Lg]
def jT:∀(f:Fo) (a:Wd->MkS->MkS) (s:MkS) (ls:List Nat),MkS.ur f.bare a s ls=MkS.ur f a s ls
 |.nil,_,_,_=>rfl
 |.text t r,a,s,ls=>jT r a _ ls
 |.hash r,a,s,ls=>jT r a _ ls
 |.put n _ r,a,s,ls=>jT r a _ ls
 |.num n _ r,a,s,ls=>jT r a _ ls
 |.br n _ f o _ bs r,a,s,ls=>by
  show MkS.ur (.br n 0 f o 0 bs.bare r.bare) a s ls=_;rw[MkS.ur,MkS.ur];split
  .simp only[tK,tG,jT bs,jT r]
  .simp only[tJ,tF,jT bs,jT r]
 |.xR k _ m r,a,s,ls=>by
  show MkS.ur (.xR k 0 m.bare r.bare) a s ls=_;rw[MkS.ur,MkS.ur];simp only[jT m,jT r]
def Sh(f:Fo):MkS.all f.bare=MkS.all f:=by unfold MkS.all MkS.Z7;rw[jT]
def bD:∀(f:Fo) (b:Bool),wr b f.bare=wr b f
 |.nil,_=>rfl
 |.text t r,b=>by
  show Kf b t++wr b r.bare=Kf b t++wr b r;rw[bD r]
 |.hash r,b=>congrArg (35 :: ·) (bD r b)
 |.put n _ r,b=>by
  show 123::(n++125::wr b r.bare)=123::(n++125::wr b r);rw[bD r]
 |.num n _ r,b=>by
  show 123::(n++(_++wr b r.bare))=123::(n++(_++wr b r));rw[bD r]
 |.br n _ f o _ bs r,b=>by
  show 123::(n++([44,32]++(qF f++44::(_++(wr (decide (f≠0)) bs.bare++125::wr b r.bare)))))=123::(n++([44,32]++(qF f++44::(_++(wr (decide (f≠0)) bs++125::wr b r)))));rw[bD bs,bD r]
 |.xR k _ m r,b=>by
  show 32::(k++([32,123]++(wr b m.bare++125::wr b r.bare)))=32::(k++([32,123]++(wr b m++125::wr b r)));rw[bD m,bD r]
def oy(s t:KB):Prop:=s.1=t.1/\s.2.length=t.2.length
def Sw(c b:Nat):∀(f:Fo) (seen:List Wd) (a a':List (Nat×Nat)),a.length=a'.length->(Qm c seen a f).length=(Qm b seen a' f.bare).length
 |.xR k p m r,seen,a,a',h=>by
  show _=(Qm b seen a' (.xR k 0 m.bare r.bare)).length;rw[Qm,Qm];refine Sw c b r _ _ _ ?_;split<;>simp[h]
 |.nil,seen,a,a',h=>Hs
 |.text _ _,seen,a,a',h=>Hs
 |.hash _,seen,a,a',h=>Hs
 |.put _ _ _,seen,a,a',h=>Hs
 |.num _ _ _,seen,a,a',h=>Hs
 |.br _ _ _ _ _ _ _,seen,a,a',h=>Hs
def Kd{s t:KB}(h:oy s t)(n:Wd)(a a' k:Nat):oy (ub s n a k) (ub t n a' k):=by
 obtain⟨b,c⟩:=s;obtain⟨t1,t2⟩:=t;obtain⟨h1,h2⟩:=h;dsimp only at h1 h2;subst h1;unfold ub;dsimp only;split
 .exact⟨rfl,by simp[h2]⟩
 split
 .exact⟨rfl,h2⟩
 .exact⟨rfl,h2⟩
def jr:∀(f:Fo) (s t:KB),oy s t->∃s' t',vx gD f s = .go true s'/\vx gD f.bare t = .go true t'/\oy s' t'
 |.nil,s,t,h=>⟨s,t,rfl,rfl,h⟩
 |.text _ r,s,t,h=>jr r s t h
 |.hash r,s,t,h=>jr r s t h
 |.put n a r,s,t,h=>jr r _ _ (Kd h n a 0 0)
 |.num n a r,s,t,h=>jr r _ _ (Kd h n a 0 1)
 |.br n a f o c bs r,s,t,h=>by
  have p:jB (.br n a f o c bs .nil)=jB (.br n 0 f o 0 bs.bare .nil):=rfl;have h1:=Kd h n a 0 (jB (.br n a f o c bs .nil));obtain⟨j,t1,d,b,h2⟩:=jr bs ((ub s n a (jB (.br n a f o c bs .nil))).1,(ub s n a (jB (.br n a f o c bs .nil))).2++Qm c [] [] bs) ((ub t n 0 (jB (.br n a f o c bs .nil))).1,(ub t n 0 (jB (.br n a f o c bs .nil))).2++Qm 0 [] [] bs.bare) ⟨h1.1,by rw[zy,zy,h1.2,Sw c 0 bs [] [] [] rfl]⟩;obtain⟨l,t2,e,g,i⟩:=jr r j t1 h2;refine⟨l,t2,?_,?_,i⟩
  .show(vx gD bs _).then (λs=>vx gD r s)=_;rw[d];exact e
  .show(vx gD bs.bare _).then (λs=>vx gD r.bare s)=_;rw[p]at b;rw[b];exact g
 |.xR k a m r,s,t,h=>by
  obtain⟨j,t1,d,b,h2⟩:=jr m s t h;obtain⟨l,t2,e,g,i⟩:=jr r j t1 h2;refine⟨l,t2,?_,?_,i⟩
  .show(vx gD m s).then (λs=>vx gD r s)=_;rw[d];exact e
  .show(vx gD m.bare t).then (λs=>vx gD r.bare s)=_;rw[b];exact g
def T4(f:Fo):fG f=none ↔ (gN f).length=0:=by
 unfold fG;cases gN f with
 |nil=>simp
 |cons a t=>simp
def T5(f:Fo):fG f.bare=none ↔ fG f=none:=by
 obtain⟨s,t,a,b,h⟩:=jr f ((λ_=>none),[]) ((λ_=>none),[]) ⟨rfl,rfl⟩;rw[T4,T4];unfold gN;rw[a,b];show t.2.length=0 ↔ s.2.length=0;rw[h.2]
def eN(h:um l = .ok f)(b:(wr false f).length<=1000):∃g,um (wr false f) = .ok g/\MkS.all g=MkS.all f/\wr false g=wr false f:=by
 unfold um at h;cases hp:xw l with
 |error e=>rw[hp]at h;cases h
 |ok x =>
  rw[hp]at h;dsimp only at h;cases hc:fG x with
  |some e=>rw[hc]at h;cases h
  |none =>
   rw[hc]at h;cases h;obtain⟨g,h1,h2⟩:=eM hp b;have a:fG g=none:=(T5 g).1 (by rw[h2];exact(T5 f).2 hc);refine⟨g,?_,by rw[<-Sh g,h2,Sh],by rw[<-bD g,h2,bD]⟩;unfold um;rw[h1];dsimp only;rw[a]
structure Ou(o:Wd):Prop where
 len:o.length<=9
 dig:o.all yG=true
 ne:o≠[]
 lead:o.length=1\/o.headD 0≠48
def zo8:Ou [48]:=⟨zR,zR,zR,.inl rfl⟩
def Ou.val{o:Wd}(h:Ou o):zm (yg o)=o/\(o=[48] ↔ yg o=0):=by
 have hd:∀c∈o,48<=c.toNat/\c.toNat<=57:=λc hc=>by
  have:=(xr c).1 (zi.1 h.dig c hc);omega
 obtain⟨h1,h2⟩:=o6 o.length o rfl h.ne hd h.lead;refine⟨h1,λe=>by subst e;rfl,λe=>?_⟩;have a:o.headD 0=48:=yu λq=>by have:=h2 q;omega
 rcases h.lead with q|q
 .match o,q,a with
  |[c],_,a=>rw[show c=48 from a]
 .exact absurd a q
def Fo.bT:Fo->Prop
 |.nil=>True
 |.text _ r=>r.bT
 |.hash r=>r.bT
 |.put n _ r=>n.length<=16/\r.bT
 |.num n _ r=>n.length<=16/\r.bT
 |.br n _ f o _ bs r=>n.length<=16/\f<3/\Ou o/\bs.bT/\r.bT
 |.xR _ _ m r=>m.bT/\r.bT
def Kb{n:Wd}(h:tX n):n.length<=16:=by
 have a:=h.2 125 (.inl rfl);unfold YE at a;simp only[zx,qu,zi,Y0]at a;by_cases h0:n.length=0
 .omega
 have:=a.1.2 (n.length - 1) (by rw[vg];omega);unfold jt at this;simp only[zx,vJ]at this;omega
def Fy{o:Wd}{c:Int}(h:bG (o.map zI) c=true):Ou o:=by
 unfold bG at h;simp only[zx,qu,zi,vJ,vR,vg]at h;obtain⟨⟨⟨⟨h1,h2⟩,b⟩,d⟩,f⟩:=h;refine⟨h2,?_,?_,?_⟩
 .rw[zi];intro x hx;have:=b (zI x) (wK hx);unfold vF at this;simp[zI]at this;exact(xr x).2 J
 .intro e;rw[e]at h1;simp at h1
 .refine d.imp id λq e=>?_
  cases o with
  |nil=>simp at h1
  |cons x t =>
   have a:x=48:=e;rw[a]at q;exact absurd q (by simp[zI])
def zo9{f:Nat}{o:Wd}(h:zo3 f o):Ou o:=by
 rcases h with rfl|⟨_,_,_,_,h⟩
 .exact zo8
 .exact Fy h
def Zx:∀(f:Fo) (d:Nat) (b:Bool),f.cn d b->f.bT
 |.nil,_,_,_=>trivial
 |.text t r,d,b,h=>Zx r d b h.2.2.2
 |.hash r,d,b,h=>Zx r d b h.2.2
 |.put n a r,d,b,h=>⟨Kb h.1,Zx r d b h.2.2⟩
 |.num n a r,d,b,h=>⟨Kb h.1,Zx r d b h.2.2⟩
 |.br n a f o c bs r,d,b,h=>⟨Kb h.1,h.2.1,zo9 h.2.2.1,Zx bs d _ h.2.2.2.2.2.1,Zx r d b h.2.2.2.2.2.2.2⟩
 |.xR k a m r,d,b,h=>by
  obtain⟨_,⟨e,_,_,g⟩,_,i⟩:=h;exact⟨Zx m e b g,Zx r d b i⟩
def tD{f:Nat}(h:f<3):(qF f).length<=13:=by
 have a:f=0\/f=1\/f=2:=J;rcases a with rfl|rfl|rfl<;>decide
def yg4{b:Bool}{k:Wd}(h:zo2 b k):k.length<=16:=by
 rcases h with⟨ds,rfl,_,_,hw⟩|⟨hn,_⟩
 .have:=(Fy hw).len;simp;omega
 .exact Kb hn
def Xw:∀(f:Fo) (d:Nat) (b:Bool),f.cn d b->(wr b f).length<=4*f.uB
 |.nil,_,_,_=>Y _
 |.text t r,d,b,h=>by
  have h1:=Xw r d b h.2.2.2;have h2:(Kf b t).length<=4*t.length:=O8 b t.length t;show(Kf b t++wr b r).length<=_;simp only[zy,Fo.uB];omega
 |.hash r,d,b,h=>by
  have h1:=Xw r d b h.2.2;show(35::wr b r).length<=_;simp only[zY,Fo.uB];omega
 |.put n a r,d,b,h=>by
  have h1:=Xw r d b h.2.2;have h2:=Kb h.1;show(123::(n++125::wr b r)).length<=_;simp only[zY,zy,Fo.uB];omega
 |.num n a r,d,b,h=>by
  have h1:=Xw r d b h.2.2;have h2:=Kb h.1;show(123::(n++([44,32,110,117,109,98,101,114,125]++wr b r))).length<=_;exact Tr
 |.br n a f o c bs r,d,b,h=>by
  have h1:=Xw r d b h.2.2.2.2.2.2.2;have h2:=Xw bs d _ h.2.2.2.2.2.1;have i:=Kb h.1;have j:=tD h.2.1;have g:(if 0<yg o then [32,111,102,102,115,101,116,58]++zm (yg o)else []:Wd).length<=17:=by
   rcases h.2.2.1 with rfl|⟨_,l,p,_,q⟩
   .decide
   .have:=(Fy q).len;rw[yV l,p,zy];simp only[zY,yF];omega
  show(123::(n++([44,32]++(qF f++44::((if 0<yg o then [32,111,102,102,115,101,116,58]++zm (yg o)else [])++(wr (decide (f≠0)) bs++125::wr b r)))))).length<=_;generalize (if 0<yg o then [32,111,102,102,115,101,116,58]++zm (yg o)else []:Wd)=O at g|-;exact Tr
 |.xR k a m r,d,b,h=>by
  obtain⟨h0,⟨e,_,_,i⟩,_,g⟩:=h;have h1:=Xw r d b g;have h2:=Xw m e b i;have j:=yg4 h0;show(32::(k++([32,123]++(wr b m++125::wr b r)))).length<=_;exact Tr
def zoz(h:um l = .ok f):f.bT/\(wr false f).length<=10000000:=by
 unfold um at h;cases hp:xw l with
 |error e=>rw[hp]at h;cases h
 |ok x =>
  rw[hp]at h;dsimp only at h;cases hc:fG x with
  |some e=>rw[hc]at h;cases h
  |none =>
   rw[hc]at h;cases h;have h1:=(Ov hp).1;have h2:=Xw f 5 false h1;have hm:=(Qz hp hc).2.1;exact⟨Zx f 5 false h1,J⟩
variable{B:Nat}{w w' w1 w2:z8}
def zoy:(prog.info? 113).map (λj=>j.size)=some 2:=yq
def tB:∃i:TypeInfo,prog.info? 5=some i/\i.zero=some (.int .u8 0)/\i.size=1/\i.bytes=1:=info_parts yq
def eO:prog.cellsOf 5=1:=yq
def km(B b:Nat)(l:Wd)(w:z8):Prop :=
 ∃p v,(p = .pointer none\/p = .pointer (b,0))/\B<=b/\w.heap[b]? = some (.cells #[p,v] 115 (0,0))/\w.ownsRow B 5 1 v l.length (yx l)/\v.ownBlock≠some b/\(l=[]->v = .slice none 0 0)
structure WF(B b:Nat)(w w':z8):Prop where
 below:yD B w w'
 kept:Lib.OthersKept 5 (some b) w w'
def WF.refl(B b:Nat)(w:z8):WF B b w w:=⟨zv _ _,Ed _ _ _⟩
def WF.trans{b:Nat}(h:WF B b w w1)(k:WF B b w1 w2):WF B b w w2:=⟨h.below.trans k.below,h.kept.trans k.kept⟩
def WF.later{b:Nat}(hB:B<=(w:Nat))(hb:zP w w'):WF B b w w' :=
 ⟨hb.mono hB,λk o c _ _=>by
  have a:k<(w:Nat):=(yO.1 c).1;rw[hb.block k a];exact c⟩
def km.lt{b:Nat}{l:Wd}(h:km B b l w):b<(w:Nat)/\B<=b:=by
 obtain⟨p,v,_,hB,hb,_⟩:=h;exact⟨(yO.1 hb).1,hB⟩
def km.later{b:Nat}{l:Wd}(h:km B b l w)(hb:zP w w'):km B b l w':=by
 have a:=h.lt;obtain⟨p,v,h1,h2,c,d,e,f⟩:=h;exact⟨p,v,h1,h2,by rw[hb.block b a.1];exact c,di d hb,e,f⟩
def xx5(w:z8)(B:Nat)(hB:B<=(w:Nat)):km B (w:Nat) [] (w.alloc (.cells #[.pointer none,.slice none 0 0] 115)) :=
 ⟨.pointer none,.slice none 0 0,.inl rfl,hB,kU w _,xx _ _ _ _,Ak,λ_=>rfl⟩
def WrQ(B b:Nat)(l:Wd)(w:z8):Prop :=
 ∃v,B<=b/\w.heap[b]? = some (.cells #[(b,0),v] 115 (0,0))/\w.ownsRow B 5 1 v l.length (yx l)/\v.ownBlock≠some b/\(l=[]->v = .slice none 0 0)
def zox(B b:Nat)(l:Wd)(w:z8)(h:km B b l w) :
  zC prog 119 #[(b,0)] w λe w'=>e = .returned (.tuple #[])/\WrQ B b l w'/\WF B b w w':=by
 obtain⟨j,q,r⟩:=Option.map_eq_some_iff.1 zoy;have x:=h.lt.1;obtain⟨p,v,h1,h2,d,m,g,n⟩:=h;have h0:zu w b 0 p:=by rw[zw d];rfl
 have t:w.frozen? (b,0)=false:=uy d 0;have i:w.shape? b=some (115,2):=by simp[World.shape?,d]
 have c:(w.setCell (b,0) (b,0)).heap[b]? = some (.cells #[(b,0),v] 115 (0,0)):=by
  simp[xg,vp,d]
 have a:(w.setCell (b,0) (b,0)).ownsRow B 5 1 v l.length (yx l) :=
  m.kept (row:=some b) ⟨rfl,rfl,rfl,ZH,λk _ u=>yZ _ _ _ _ (λe=>u (by simp[e]))⟩ (.inr g)
 have f:WF B b w (w.setCell (b,0) (b,0)):=⟨(zv B w).setCell (p:=(b,0)) h2 _,(Ed _ _ _).setCell (b,0) rfl _⟩;have HS:=Z (⟨v,h2,c,a,g,n⟩:WrQ B b l (w.setCell (b,0) (b,0)));have HW:=Z f;rcases h1 with rfl|rfl
 .clear d m g n c a f;go_enter func119,ntmps119;go_wp2;rw[xj9 w ⟨b,0,none⟩ underlying111 underlying118 q (by rw[r];decide) i (Nat.zero_lt_succ 1)];simp only[ym];rw[jW];go_wp2;rw[run_callFunc_extern func157 yq yq yq (e:=YN) yq];rw[vz3];simp only[ym];rw[jW];go_wp2;rw[yeq w ⟨b,0,none⟩ underlying118 underlying111 q i yq];exact zd9
 .have s:=Z (⟨v,h2,d,m,g,n⟩:WrQ B b l w);clear d m g n c a f HS HW;go_enter func119,ntmps119;go_wp2;rw[yfu w _ underlying111 q];go_wp2;go_end0
  exact⟨rfl,s.o,WF.refl _ _ _⟩
def tC(t:Wd):xu5 ⟨t.toArray⟩=yx t:=rfl
def zov(a b:Wd):yx a++yx b=yx (a++b):=by simp[yx]
def tE(B b:Nat)(l t:Wd)(w:z8)(h:km B b l w)(K:l.length+t.length<=1000000000) :
  zC prog 105 #[(b,0),zM t] w λe w'=>(∃v,e = .returned v)/\km B b (l++t) w'/\WF B b w w':=by
 obtain⟨P,hi,G,H,I⟩:=tB;have A:=Z (zj h.lt.2 (vv h.lt.1));have C:=Z (zox B b l w h);have y:(⟨t.toArray⟩:ByteArray).size=t.length:=size_mk _;clear h;go_enter func105,ntmps105;go_wp2_with fail;refine C.o.mono ?_;rintro e w1 ⟨rfl,O,r⟩;obtain⟨v,hB,Fc,i,x,m⟩:=O;have c0:zu w1 b 0 (zU b 0):=Gy;have c1:zu w1 b 1 v:=Gy;have F:b<(w1:Nat):=(yO.1 Fc).1;have u:B<=(w1:Nat):=zj A.o r.below.size;obtain⟨s,d,D,xgk,z,Q⟩:=EZ r i x m Fc (zn i);clear r i x m Fc;go_wp2_with (at_builtin;refine Lib.wpList_append_own_string _ rfl _ _ 34 9 rfl B 5 P underlying34 underlying9 hi G H I v l.length (yx l) rfl d.o ⟨t.toArray⟩ rfl (by rw[y];unfold maxLen;omega) (by rw[y];omega) u ?_);intro v' w2 a c hz;have qY:w2.heap[b]? = some (.cells #[(zU b 0),v] 115 (0,0)):=by
  rw[c.block b F (λe=>D.o e.symm)];exact z.o
 have d0:zu w2 b 0 (zU b 0):=Di;have d1:zu w2 b 1 v:=Di;have f1:w2.frozen? (zU b 1)=false:=uy qY 1;rw[tC,zov]at a;have L:b<(w2:Nat):=(yO.1 qY).1;have a:w2.ownsRow B 5 1 v' (l.length+t.length) (yx (l++t)):=a;have f:=Lib.ownBlock_ne a qY zR;have n:(w2.setCell (zU b 1) v').heap[b]? = some (.cells #[(zU b 0),v'] 115 (0,0)):=by
  simp[xg,vp,qY]
 have j:(w2.setCell (b,1) v').ownsRow B 5 1 v' (l++t).length (yx (l++t)):=by
  rw[zy];exact a.kept (row:=some b) ⟨rfl,rfl,rfl,ZH,λk _ E=>yZ _ _ _ _ (λe=>E (by simp[e]))⟩ (.inr f)
 have g:l++t=[]->v' = .slice none 0 0:=λe=>zvx
 have q:WF B b w (w2.setCell (b,1) v') :=
  ⟨(s.o.below.grown c u (λk E=>(d.o.lt k E).1)).setCell (p:=(b,1)) hB _,
   (s.o.kept.grown c (Lib.ownsRowF_kind (World.ownsRowF_of d.o))).setCell (b,1) rfl _⟩
 have N:=Z (⟨_,v',.inr rfl,hB,n,j,f,g⟩:km B b (l++t) (w2.setCell (b,1) v'));have M:=Z q;obtain⟨R,cap,rfl⟩:=zn a;clear a c hz qY n j g q f;go_wp2;go_ret2
 exact⟨⟨_,rfl⟩,N.o,M.o⟩
def xx6(B b:Nat)(l:Wd)(w:z8)(h:km B b l w)(z:l.length<=1000000000) :
  zC prog 42 #[(b,0)] w λe w'=>e = .returned (zM l)/\yD B w w':=by
 obtain⟨p,v,h1,hB,c,uT,i,a⟩:=h;by_cases h0:l=[]
 .have hv:=a h0;subst hv h0;have c1:zu w.drew b 1 (.slice none 0 0):=by
   have:w.drew.heap[b]? = some (.cells #[p,.slice none 0 0] 115 (0,0)):=c;exact M6
  have m:=λW q=>Lib.run_unsafeString_none (P:=prog) W 222 3 9 q
  have k:(YM #[34] 222 #[.slice none 0 0]).run prog w.drew = .ok (.pointer none) w.drew:=rfl;have f:prog.follows Xv=true:=yq;clear uT c i a h1;go_enter func42,ntmps42;go_wp2;go_region_o
  all_goals (go_wp2;go_ret;exact⟨rfl,kp (zv B w)⟩)
 .have s:l.length≠0:=by simpa using h0
  obtain⟨g,cap,cur,rfl,n,hg,u,t,o,d⟩:∃g cap cur,v = .slice (some ⟨g,0,none⟩) l.length cap/\B<=g/\w.heap[g]? = some (.cells cur 5 (0,0))/\l.length<=cap/\cap<=maxLen/\cur.size=cap*1/\cur.toList.take (l.length*1)=yx l:=by
   rcases uT.2 with⟨_,y⟩|⟨g,cap,cur,hv,r⟩
   .exact absurd y s
   .exact⟨g,cap,cur,hv,r⟩
  have c1:zu w.drew b 1 (.slice (g,0) l.length cap):=by
   have:w.drew.heap[b]? = some (.cells #[p,.slice (zU g 0) l.length cap] 115 (0,0)):=c;exact M6
  have k:(YM #[34] 222 #[.slice (g,0) l.length cap]).run prog w.drew = .ok (g,0) w.drew :=
   Lib.run_unsafeSliceData_row _ _ _ _ _ _ J
  have m:(Builtin.unsafeString_ #[222,3] 9 #[(g,0),l.length]).run prog w.drew = .ok (.string ⟨l.toArray⟩) (w.drew.freeze ⟨g,0,none⟩ l.length):=by
   refine Lib.run_unsafeString_row w.drew 222 3 9 5 underlying222 eO g cur.size zf7 l h0 J J ?_;exact zd4
  have f:prog.follows Xv=true:=yq;clear uT c i a h1 hg o d;go_enter func42,ntmps42;go_wp2;go_region_o
  all_goals (go_wp2;go_ret;exact⟨rfl,Lib.below_freeze (kp (zv B w)) (p:=(g,0)) n _⟩)
variable{ws:List Wd}
def jK(w:z8)(g:Nat)(ws:List Wd):Prop:=∃t fz,t≠5/\t≠115/\w.heap[g]? = some (.cells (ws.map zM).toArray t fz)
def jK.cell{g:Nat}(h:jK w g ws)(a:j<ws.length):zu w g j (zM ws[j]):=by
 obtain⟨t,fz,_,_,h⟩:=h;rw[zw h];simp[a]
def jK.ne{b:Nat}{l:Wd}{g:Nat}(h:jK w g ws)(k:km B b l w):g≠b:=by
 rintro rfl;obtain⟨t,fz,h1,h2,c⟩:=h;obtain⟨p,v,_,_,a,_⟩:=k;rw[c]at a;simp only[vA,TA]at a;exact h2 a.2.1
def jK.keep{b:Nat}{g:Nat}(h:jK w g ws)(hb:g≠b)(k:WF B b w w'):jK w' g ws:=by
 obtain⟨t,fz,h1,h2,a⟩:=h;exact⟨t,fz,h1,h2,k.kept g _ a (by simpa using hb) (λc fz e=>by cases e;exact h1 rfl)⟩
def Lf(a:k<ws.length):(ws.take (k+1)).flatten=(ws.take k).flatten++ws[k]:=by
 rw[yj a,wJ];simp
def yg5(a:k<ws.length):((ws.take k).flatten).length+ws[k].length<=ws.flatten.length:=by
 have h:=congrArg xD (show(ws.take (k+1)).flatten++(ws.drop (k+1)).flatten=ws.flatten by rw[<-wJ,Xx]);rw[Lf a,zy,zy]at h;omega
def YH(B b g:Nat)(l:Wd)(ws:List Wd)(w:z8)(h:km B b l w)(C:jK w g ws)(a:l.length+ws.flatten.length<=1000000000)(hn:ws.length<=1000) :
  zC prog 89 #[(b,0),.slice (g,0) ws.length ws.length] w λe w'=>(∃v,e = .returned v)/\km B b (l++ws.flatten) w'/\WF B b w w':=by
 have p:=C.ne h;obtain⟨H,G,y,i⟩:=hdd h C p a;obtain⟨n,f⟩:=zr ws.length;have HN:=Z f;rw[f]at hn|-;clear h C p a f;go_enter func89,ntmps89;go_wp2_with fail;go_loopw [8] (λE wr=>∃k:Nat,E = .int .i64 k/\k<=n/\km B b (l++(ws.take k).flatten) wr/\WF B b w wr) (λE _=>n - (intOf E).toNat)
 case atStart=>exact⟨0,rfl,zQ _,by simpa using H.o,WF.refl _ _ _⟩
 case round =>
  obtain⟨k,rfl,I,s,r⟩:=hrel;have j:=Z s;have c:=Z r;clear s r;by_cases uo:k<n
  .have F:(k:Int)<(n:Int):=(by omega);have d:k<ws.length:=V3;have c0:=(G.o.keep y.o c.o).cell d;obtain⟨x,hx⟩:=zr (ws[k]);rw[hx]at c0;have t:=Z (show l++(ws.take (k+1)).flatten=(l++(ws.take k).flatten)++x by rw[Lf d,hx,yk]);have z:=Z (tE B b (l++(ws.take k).flatten) x wr j.o (by
    have h1:=yg5 d;have h2:=i.o;rw[hx]at h1;exact Da))
   clear hx;go_wp2_with fail;refine z.o.mono ?_;rintro e w2 ⟨⟨v,rfl⟩,q,m⟩;have A:=Z q;have u:=Z (c.o.trans m);clear q m c0;go_wp2_with fail;go_roundw
   case rel=>exact⟨k+1,uN,J,by rw[t.o];exact A.o,u.o⟩
   case measure=>simp[intOf];omega
  .have D:k=n:=(by omega);subst D;have t:=Z (show l++(ws.take k).flatten=l++ws.flatten by rw[yr Ln]);go_wp2;go_end0
   exact⟨⟨_,rfl⟩,by rw[<-t.o];exact j.o,c.o⟩
variable{r:Nat}
def nqR(num:Bool)(r:Nat):Bool:=decide (r≠39) && !kx (r:Int) num
def eP(num:Bool)(r:Nat):Bool:=decide (r=39) ||kx (r:Int) num
def ycb(num:Bool)(r:Nat):nqR num r = !eP num r:=by
 unfold nqR eP;by_cases h:r=39
 .simp[h]
 .simp[h]
def Cw(num:Bool)(c:UInt8):eP num c.toNat=qB num c:=by
 have e:∀k:Nat,k<256->((c==uC k)=decide (c.toNat=k)):=λk i=>by
  rw[xO,beq_iff_eq,vJ];constructor
  .intro h;rw[h,Ev,OQ J]
  .intro h;apply dW.1;rw[Ev,OQ J];exact h
 unfold eP qB kx;have a:(c==39)=decide (c.toNat=39):=e 39 J;have b:(c==123)=decide (c.toNat=123):=e 123 J;have d:(c==125)=decide (c.toNat=125):=e 125 J;have g:(c==35)=decide (c.toNat=35):=e 35 J;have f:∀k:Nat,(((c.toNat:Int))==(k:Int))=decide (c.toNat=k):=λk=>by
  rw[xO,beq_iff_eq,vJ];omega
 have f2:((c.toNat:Int)==123)=decide (c.toNat=123):=f 123;have f3:((c.toNat:Int)==125)=decide (c.toNat=125):=f 125;have f4:((c.toNat:Int)==35)=decide (c.toNat=35):=f 35;rw[a,b,d,g,f2,f3,f4]
def eR(num:Bool)(h:128<=r):eP num r=false:=by
 unfold eP kx;have f:∀k:Nat,k<128->((r:Int)==(k:Int))=false:=λk a=>by
  rw[beq_eq_false_iff_ne];omega
 have f2:((r:Int)==123)=false:=f 123 J;have f3:((r:Int)==125)=false:=f 125 J;have f4:((r:Int)==35)=false:=f 35 J;rw[f2,f3,f4,decide_eq_false J];rfl
def zoq(num:Bool){c:UInt8}(h:128<=c.toNat):qB num c=false:=by rw[<-Cw,eR num h]
def T6(s:ByteArray)(p:Nat)(hp:p<s.size):((s[p].toNat<128)/\ja s p=(s[p].toNat,1)) \/
  (128<=s[p].toNat/\128<=(ja s p).1/\1<=(ja s p).2/\∀j,j<(ja s p).2->p+j<s.size/\128<=(s.get! (p+j)).toNat):=by
 have d:s.get! (p+0)=s[p]:=by
  show s.data[p+0]! = _;rw[Ej,getElem!_pos s.data p (by simpa using hp)];rfl
 by_cases h1:s[p].toNat<128
 .refine .inl ⟨h1,?_⟩;unfold ja;simp only[d];rw[yV J]
 .refine .inr ⟨J,?_⟩;have hb:=s[p].toNat_lt;unfold ja;simp only[d];rw[yz J];have b:∀j,j<1->p+j<s.size/\128<=(s.get! (p+j)).toNat:=λj a=>by
   have:j=0:=J;subst this;rw[d];exact⟨hp,J⟩
  have one:128<=(Tb,1).1/\1<=(Tb,1).2/\∀j,j<(Tb,1).2->p+j<s.size/\128<=(s.get! (p+j)).toNat:=⟨zR,Y _,b⟩;split
  .next h2 =>
   simp only[zx,beq_iff_eq,vJ]at h2;split
   .refine⟨J,by show 1<=2;decide,λj a=>?_⟩;rcases (show j=0\/j=1 by simp at a;omega)with rfl|rfl
    .exact b 0 J
    .exact⟨h2.2.1,J⟩
   .exact one
  split
  .next h2 =>
   simp only[zx,beq_iff_eq,vJ]at h2;split
   .next c =>
    simp only[zx,vJ]at c;refine⟨J,by show 1<=3;decide,λj a=>?_⟩;rcases (show j=0\/j=1\/j=2 by simp at a;omega)with rfl|rfl|rfl
    .exact b 0 J
    .exact⟨h2.1.2.1,J⟩
    .exact⟨h2.2.1,J⟩
   .exact one
  split
  .next h2 =>
   simp only[zx,beq_iff_eq,vJ]at h2;split
   .next c =>
    simp only[zx,vJ]at c;refine⟨J,by show 1<=4;decide,λj a=>?_⟩;rcases (show j=0\/j=1\/j=2\/j=3 by simp at a;omega)with rfl|rfl|rfl|rfl
    .exact b 0 J
    .exact⟨h2.1.1.2.1,J⟩
    .exact⟨h2.1.2.1,J⟩
    .exact⟨h2.2.1,J⟩
   .exact one
  .exact one
def E0(s:ByteArray)(p:Nat)(hp:p<s.size):s.data.toList.drop p=s.get! p::s.data.toList.drop (p+1):=by
 rw[yY (by simpa using hp)];congr 1;show _=s.data[p]!;rw[getElem!_pos s.data p (by simpa using hp)];simp
def zok(num:Bool)(s:ByteArray):∀(f p:Nat),s.size<=p+f->p<=s.size->Qu (nqR num) true s f p =
  if p+((s.data.toList.drop p).takeWhile (qB num)).length<s.size then ((p+((s.data.toList.drop p).takeWhile (qB num)).length:Nat):Int)else -1
 | 0,p,h,hp=>by
  rw[yI yJ];rw[yz Vr];rfl
 |f+1,p,h,hp=>by
  rw[Qu];by_cases uo:p<s.size
  .rw[yV uo];have b:s.get! p=s[p]:=by
    show s.data[p]! = _;rw[getElem!_pos s.data p QS];rfl
   rw[E0 s p uo,b];rcases T6 s p uo with⟨h1,h2⟩|⟨h1,h2,c,d⟩
   .rw[h2];dsimp only;rw[ycb,Cw];by_cases a:qB num s[p]=true
    .rw[a,yz zR,zok num s f (p+1) J J,vZ a,zY];generalize ((s.data.toList.drop (p+1)).takeWhile (qB num)).length=L;rw[show p+(L+1)=p+1+L by omega]
    .rw[VG]at a;rw[a,yV (show(!false)=true from rfl),dU (by rw[a];decide)];rw[yV QS];rfl
   .rw[ycb,eR num h2,yV (show(!false)=true from rfl),dU (by rw[zoq num h1];decide),yV QS];rfl
  .rw[yz uo,yI yJ,yz Vr]
def T7(num:Bool)(s:ByteArray)(p:Nat):∀k,(∀j,j<k->p+j<s.size/\128<=(s.get! (p+j)).toNat) ->
  ((s.data.toList.drop p).takeWhile (λc => !qB num c)).length=k+((s.data.toList.drop (p+k)).takeWhile (λc => !qB num c)).length
 | 0,_=>by rw[uE];rfl
 |k+1,h=>by
  have h1:=T7 num s p k (λj a=>h j J);have h2:=h k J;rw[h1,E0 s (p+k) h2.1,vZ (by rw[zoq num h2.2];rfl),zY];have e:p+k+1=p+(k+1):=J;rw[e];omega
def Oq(num:Bool)(s:ByteArray):∀(f p:Nat),s.size<=p+f->p<=s.size->Qu (eP num) true s f p =
  if p+((s.data.toList.drop p).takeWhile (λc => !qB num c)).length<s.size then ((p+((s.data.toList.drop p).takeWhile (λc => !qB num c)).length:Nat):Int)else -1
 | 0,p,h,hp=>by
  rw[yI yJ];rw[yz Vr];rfl
 |f+1,p,h,hp=>by
  rw[Qu];by_cases uo:p<s.size
  .rw[yV uo];have d:s.get! p=s[p]:=by
    show s.data[p]! = _;rw[getElem!_pos s.data p QS];rfl
   rcases T6 s p uo with⟨h1,h2⟩|⟨h1,h2,l,b⟩
   .rw[h2];dsimp only;rw[E0 s p uo,d,Cw];by_cases a:qB num s[p]=true
    .rw[a,yV rfl,dU (by rw[a];decide),yV QS];rfl
    .rw[VG]at a;rw[a,yz zR,Oq num s f (p+1) J J,vZ (by rw[a];rfl),zY];generalize ((s.data.toList.drop (p+1)).takeWhile (λc => !qB num c)).length=L;rw[show p+(L+1)=p+1+L by omega]
   .have i:=T7 num s p (ja s p).2 b;obtain⟨k,e⟩:=zr ((ja s p).2);rw[e]at i l b|-;have g:p+k<=s.size:=by
     have:=(b (k - 1) J).1;omega
    rw[eR num h2,yz zR,Oq num s f (p+k) J g,i];rw[show ∀j,p+(k+j)=p+k+j from λj=>J]
  .rw[yz uo,yI yJ,yz Vr]
def eS(num:Bool)(s:ByteArray):OR (nqR num) true s=if (s.data.toList.takeWhile (qB num)).length<s.size then (((s.data.toList.takeWhile (qB num)).length:Nat):Int)else -1:=by
 unfold OR;rw[zok num s s.size 0 J (zQ _),qR,uE]
def T9(num:Bool)(s:ByteArray):OR (eP num) true s=if (s.data.toList.takeWhile (λc => !qB num c)).length<s.size then (((s.data.toList.takeWhile (λc => !qB num c)).length:Nat):Int)else -1:=by
 unfold OR;rw[Oq num s s.size 0 J (zQ _),qR,uE]
def dropWhile_nil{p:UInt8->Bool}:∀{l:Wd},l.dropWhile p=[] ↔ ∀x∈l,p x=true
 |[]=>zZ
 |a::t=>by
  by_cases h:p a=true
  .rw[Vq h,dropWhile_nil];simp[h]
  .rw[fJ h];simp[h]
def Tz(a:Wd):zzz a 39≠[] ↔ (a.any λc=>c !=39)=true:=by
 have h0:zzz a 39=[] ↔ ∀c∈a,c=39:=by
  unfold zzz Lib.trimLeftB Lib.trimRightB;rw[dropWhile_nil];constructor
  .intro h c hc;by_cases hm:c∈(a.reverse.dropWhile (· == 39)).reverse
   .simpa using h c hm
   .rw[Zj]at hm;have h1:=ZB (p:=λx:UInt8=>x==39) (l:=a.reverse);have h2:c∈a.reverse:=Zj.2 hc;rw[<-h1,zS]at h2;rcases h2 with h2|h2
    .have:=yfb (l:=a.reverse) (p:=λx:UInt8=>x==39);rw[zi]at this;simpa using this c h2
    .exact absurd h2 hm
  .intro h c hc;rw[Zj]at hc;have:c∈a.reverse:=(List.dropWhile_suffix _).subset hc;simpa using h c (Zj.1 this)
 rw[ne_eq,h0,vq2];constructor
 .intro h;apply yu;intro hc;apply h;intro c hm;apply yu;intro h2;exact hc ⟨c,hm,Bq⟩
 .rintro⟨c,hm,h2⟩ h;have:=h c hm;subst this;simp at h2
def Ty(t:Wd):kF (39::t) [39]=0:=by
 unfold kF;rw[yV zZ]
def E7{c:UInt8}(h:c≠39)(t:Wd):kF (c::t) [39]=if kF t [39]==-1 then -1 else kF t [39]+1:=by
 conv=>lhs;unfold kF
 rw[yz (by simp;exactλe=>h e.symm)]
def UT:∀(n:Nat) (a:Wd),a.length<=n->∀k,a.count 39<=k->Du [39] [39,39] k a=kg a
 | 0,a,h,k,b=>by
  have:a=[]:=zN J;subst this;cases k with
  |zero=>rfl
  |succ k=>rfl
 |n+1,[],_,k,_=>by
  cases k with
  |zero=>rfl
  |succ k=>rfl
 |n+1,c::t,h,k,b=>by
  have d:t.length<=n:=QY;by_cases hc:c=39
  .subst hc;rw[oV]at b;cases k with
   |zero=>omega
   |succ k =>
    rw[Eb [39] [39,39] k (39::t) 0 (Ty t)];show[]++[39,39]++Du [39] [39,39] k t=_;rw[UT n t d k J];unfold kg;rw[zh,yV rfl];rfl
  .rw[ik (by simpa using λe=>hc e)]at b;have f:=λk b=>UT n t d k b
   have hd:kg (c::t)=c::kg t:=by
    unfold kg;rw[zh,yz hc];rfl
   rw[hd,<-f k b];cases k with
   |zero=>rfl
   |succ k =>
    by_cases hm:kF t [39] = -1
    .have h1:kF (c::t) [39] = -1:=(by rw[E7 hc,hm];rfl);rw[Du,yV Ya,Du,yV (by rw[hm];rfl)]
    .obtain⟨i,hi⟩:∃i:Nat,kF t [39]=i:=⟨(kF t [39]).toNat,by have:=vz7 t [39];omega⟩;have h1:kF (c::t) [39]=((i+1:Nat):Int):=by
      rw[E7 hc,hi,yz Vr];rfl
     rw[Eb [39] [39,39] k (c::t) (i+1) h1,Eb [39] [39,39] k t i hi];simp
def Zv:∀(f:Nat) (a:Wd),a.length<f->fD [39] f a=a.count 39
 | 0,a,h=>absurd h (KV _)
 |f+1,[],h=>by
  rw[fD];rfl
 |f+1,c::t,h=>by
  have o:t.length<f:=QY;have d:=Zv f t o;rw[fD];by_cases hc:c=39
  .subst hc;rw[Ty,yz zR,oV];show 1+fD [39] f t=_;omega
  .rw[ik (by simpa using λe=>hc e),E7 hc];by_cases hm:kF t [39] = -1
   .have h0:t.count 39=0:=by
     rw[<-d];cases f with
     |zero=>omega
     |succ f=>rw[fD,yV (by rw[hm];rfl)]
    rw[hm,yV xV,h0]
   .obtain⟨i,hi⟩:∃i:Nat,kF t [39]=i:=⟨(kF t [39]).toNat,by have:=vz7 t [39];omega⟩;rw[hi];have k:(if ((i:Int)==-1)=true then (-1:Int)else (i:Int)+1)=((i+1:Nat):Int):=by
     rw[yz Vr];rfl
    rw[k,yz Vr];have l:(((i+1:Nat):Int)).toNat=i+1:=J;rw[l];show 1+fD [39] f (t.drop (i+1))=_;cases f with
    |zero=>omega
    |succ f =>
     rw[fD,hi,yz Vr]at d;have m:((i:Int)).toNat=i:=J;rw[m]at d;have b:=Lib.index_room t [39] (by rw[hi];omega);rw[hi]at b;simp only[zY,yF]at b;have g:=Zv (f+1) (t.drop (i+1)) yJ;have j:=Zv f (t.drop (i+1)) yJ;rw[g];have n:(t.drop (i+[(39:UInt8)].length))=t.drop (i+1):=rfl;rw[n,j]at d;exact d
def Tx(a:Wd):Lib.count a [39]=a.count 39:=Zv _ a (dQ _)
def Tv(a:Wd):Lib.replaceAll a [39] [39,39]=kg a:=by
 unfold Lib.replaceAll Lib.replace Lib.replaceNum;rw[yz zR,yV (.inl zR),Tx];exact UT _ a (Y _) _ (Y _)
def tH(x q:Nat)(num:Bool)(w:z8)(d:zu w q 0 (.bool num)) :
  zC prog 134 #[.int .i32 (x:Nat),(q,0)] w λe w'=>e = .returned (.bool (nqR num x))/\w=w':=by
 obtain⟨sp,a⟩:∃b,kx (x:Int) num=b:=⟨_,rfl⟩;have HS:=Z (Vw (x:Int) num w);rw[a]at HS;by_cases hx:x=39
 .have j1:((x:Int)==39)=true:=by simp[hx]
  have c:((x:Int) !=39)=false:=Mz;have HF:=Z (show nqR num x=false by unfold nqR;rw[hx];rfl);clear hx a;go_enter func134,ntmps134;go_wp2;go_ret;exact⟨gK,rfl⟩
 .have j1:((x:Int)==39)=false:=by simp;omega
  have c:((x:Int) !=39)=true:=Mz;have HF:=Z (show nqR num x = !sp by unfold nqR;rw[a,decide_eq_true hx];rfl);clear hx a;go_enter func134,ntmps134;exact zjq
def tI(x q:Nat)(num:Bool)(w:z8)(d:zu w q 0 (.bool num)) :
  zC prog 138 #[.int .i32 (x:Nat),(q,0)] w λe w'=>e = .returned (.bool (eP num x))/\w=w':=by
 obtain⟨sp,a⟩:∃b,kx (x:Int) num=b:=⟨_,rfl⟩;have HS:=Z (Vw (x:Int) num w);rw[a]at HS;by_cases hx:x=39
 .have j1:((x:Int)==39)=true:=by simp[hx]
  have c:((x:Int) !=39)=false:=Mz;have HF:=Z (show eP num x=true by unfold eP;rw[hx];rfl);clear hx a;go_enter func138,ntmps138;go_wp2;go_ret;exact⟨gK,rfl⟩
 .have j1:((x:Int)==39)=false:=by simp;omega
  have c:((x:Int) !=39)=true:=Mz;have HF:=Z (show eP num x=sp by unfold eP;rw[a,decide_eq_false hx];rfl);clear hx a;go_enter func138,ntmps138;exact zjq
def tL{num:Bool}{u:Wd}(a:u≠[]):Kf num u=fZ (u.takeWhile (qB num))++((u.drop (u.takeWhile (qB num)).length).takeWhile (λc => !qB num c)++Kf num ((u.drop (u.takeWhile (qB num)).length).drop ((u.drop (u.takeWhile (qB num)).length).takeWhile (λc => !qB num c)).length)) /\
  ((u.drop (u.takeWhile (qB num)).length).drop ((u.drop (u.takeWhile (qB num)).length).takeWhile (λc => !qB num c)).length).length<u.length:=by
 have h1:Kf num u=prG num (u.length+1) u:=(O7 num _ u (dK _)).symm;constructor
 .rw[h1,prG,yz a,O7 num u.length _ zZ]
 .have hp:=yv.2 a;simp only[yh];by_cases ha:u.takeWhile (qB num)=[]
  .rw[ha];cases u with
   |nil=>exact absurd rfl a
   |cons c t =>
    have b:¬qB num c=true:=λq=>by rw[vZ q]at ha;cases ha
    simp only[yF,qR];rw[vZ (by simpa using b),zY];simp only[zY];omega
  .have:=yv.2 ha;omega
def szS(v:Value):Nat:=match v with |.string s=>s.size|_=>0
def Tu(B:Nat)(w:z8):Prop:=6<B/\∃m,zu w 6 0 (.int .i64 m)
def Tu.keep{b:Nat}(h:Tu B w)(k:WF B b w w'):Tu B w':=by
 obtain⟨h1,m,h2⟩:=h;exact⟨h1,m,(k.below.cell (p:=(6,0)) h1).trans h2⟩
def WF.drew{b:Nat}(h:WF B b w w'):WF B b w w'.drew:=⟨h.below.drew,h.kept.drew⟩
def km.drew{b:Nat}{l:Wd}(h:km B b l w):km B b l w.drew:=h
def extract_mk(u:Wd)(n:Nat):(⟨u.toArray⟩:ByteArray).extract 0 n=⟨(u.take n).toArray⟩:=by
 rw[fH,toList_mk]
def FN(u:Wd)(n:Nat)(h:n<=u.length):(⟨u.toArray⟩:ByteArray).extract n u.length=⟨(u.drop n).toArray⟩:=by
 have:=fI ⟨u.toArray⟩ n;rw[size_mk,toList_mk]at this;exact this
structure TxI(B b q:Nat)(num:Bool)(w:z8)(F u acc:Wd)(wr:z8):Prop where
 at_:km B b acc wr
 wf:WF B b w wr
 box:zu wr q 0 (.bool num)
 eq:acc++Kf num u=F
def yg6(B b:Nat)(l t:Wd)(num:Bool)(w:z8)(h:km B b l w)(hmx:Tu B w)(hlen:l.length+(Kf num t).length<=100000000)(ht:t.length<=100000000) :
  zC prog 88 #[(b,0),zM t,.bool num] w λe w'=>(∃v,e = .returned v)/\km B b (l++Kf num t) w'/\WF B b w w':=by
 have hmf:∀(fn:Fn) (first cap:Array Value) (w:z8),(uV fn first cap).run prog w = .ok (.func fn first cap) w:=λ_ _ _ _=>rfl
 have hBw:B<=(w:Nat):=zj h.lt.2 (vv h.lt.1);have Fp:=h.lt.1;have HH:=Z h;have HMX:=Z hmx;obtain⟨F,hF⟩:=zr (l++Kf num t);have hFl:F.length<=100000000:=by rw[<-hF,zy];exact hlen
 rw[hF];have HFF:=Z hF;clear h hmx hlen hF;go_enter func88,ntmps88;go_wp2_with fail;refine Js ?_;intro W0 wo;have Qi:zP w W0:=by rw[wo];exact(zv _ _).alloc (Y _) _
 have hq0:zu W0 (w:Nat) 0 (.bool num):=by rw[wo];exact zf w #[.bool num] 4 (0,0) 0
 have Q:W0.heap[(w:Nat)]? = some (.cells #[.bool num] 4 (0,0)):=by rw[wo];exact kU w _
 have vmz:=Z (HH.o.later Qi);have vmy:=Z (WF.later (b:=b) hBw Qi);obtain⟨q,hq⟩:=zr (w:Nat);rw[hq]at hq0 Q;try rw[hq]
 have hqb:q≠b:=J;obtain⟨HBX,HQB,HTL,HFL⟩:=hdd Q hqb ht hFl;clear wo Qi Q hq Fp hqb hBw ht hFl;go_loopw [1] (λsv wr=>∃u acc,sv=zM u/\u.length<=t.length/\TxI B b q num w F u acc wr/\WF B b W0 wr) (λsv _=>szS sv)
 case atStart=>exact⟨t,l,rfl,Y _,⟨vmz.o,vmy.o,hq0,HFF.o⟩,WF.refl _ _ _⟩
 case round =>
  obtain⟨u,acc,rfl,hul,hti,IZ⟩:=hrel;have xoz:wr.heap[q]? = some (.cells #[.bool num] 4 (0,0)):=IZ.kept q _ HBX.o (by simpa using HQB.o) (λc fz e=>gJ);have umu:=Z xoz;have g:=Z hti;have wN:=Z IZ;have ymq:u.length<=100000000:=zj hul HTL.o;have HUL:=Z hul;have usz:(⟨u.toArray⟩:ByteArray).size=u.length:=size_mk _;obtain⟨H,V⟩:∃n,u.length=n:=⟨_,rfl⟩;have f:=Z V;rw[V]at usz ymq;clear xoz hti IZ hul V;by_cases hu:u=[]
  .have HE:=Z (show acc=F by have:=g.o.eq;rw[hu,yjf,jJ]at this;exact this);have u0:H=0:=(by rw[<-f.o,hu];rfl);subst u0;subst hu;clear usz;go_wp2;go_end0
   exact⟨⟨_,rfl⟩,by rw[<-HE.o];exact g.o.at_,g.o.wf⟩
  .have wa:0<H:=(by rw[<-f.o];exact yv.2 hu);have umk:(0:Int)<(H:Int):=J;obtain⟨Dk,im⟩:=tL (num:=num) hu;obtain⟨a,ha⟩:=zr (u.takeWhile (qB num));obtain⟨r,hr⟩:=zr (u.drop a.length);obtain⟨z,hz⟩:=zr (r.takeWhile (λc => !qB num c));obtain⟨v,hv⟩:=zr (r.drop z.length);rw[ha,hr,hz,hv]at Dk;rw[ha,hr,hz,hv]at im;have KP:a.length<=H:=(by rw[<-ha,<-f.o];exact(KX _).length_le);have hta:u.take a.length=a:=by
    rw[<-ha];exact zq3
   have wC:r.length=H - a.length:=(by rw[<-hr,yh,f.o]);have hzl:z.length<=r.length:=(by rw[<-hz];exact(KX _).length_le);have htz:r.take z.length=z:=by
    rw[<-hz];exact zq3
   have hFe:acc++(fZ a++(z++Kf num v))=F:=(by rw[<-Dk];exact g.o.eq);have O:acc.length+(fZ a).length+z.length<=100000000:=by
    have h1:=congrArg xD hFe;simp only[zy]at h1;have:=HFL.o;omega
   obtain⟨I3,d,ld,HA,HR,HZ,HV,HTA⟩:=OJ hFe O im ha hr hz hv hta;have HTZ:=Z htz;have cq:zu wr q 0 (.bool num):=g.o.box;have wH:PredGrows prog 134 #[(q,0)] (nqR num) wr:=λW' x _ hb=>(tH x q num W' ((hb.cell (p:=(q,0)) (X _ _ cq)).trans cq)).mono λe w' h=>⟨h.1,h.2▸zv _ _⟩
   have Jo:=Z (Tryz.strings_IndexFunc_grows 134 #[(zU q 0)] (λargs w=>enters_of func134 yq rfl args w) (nqR num) ⟨u.toArray⟩ wr wH);rw[eS,toList_mk,size_mk,HA.o,f.o]at Jo;clear Dk im ha hr hz hv hta htz hFe O wH hu;go_wp2_with fail;refine Jo.o.mono ?_;rintro e w1 ⟨rfl,qE⟩;have HB1:=Z qE;have m:=Z (g.o.at_.later qE);clear qE;go_upto_if 15 with fail
   obtain⟨al,j⟩:∃n,a.length=n:=⟨_,rfl⟩;rw[j]at KP wC;have HAL:=Z j;rw[j];have HTA:=Z (j▸HTA.o);have HR:=Z (j▸HR.o);clear j;go_cut [6] (λnv wc=>nv = .int .i64 al/\wc=w1)
   case first =>
    by_cases R:al<H
    .rw[yV R];have j1:decide ((al:Int)<0)=false:=(by simp<;>omega);exact LW
    .rw[yz R];have hae:al=H:=(by omega);subst hae;exact LW
   case rest =>
    obtain⟨rfl,i⟩:=hcut;have i:=i.symm;subst i;have umj:(al:Int)<=(H:Int):=J;have hex:(⟨u.toArray⟩:ByteArray).extract 0 al=⟨a.toArray⟩:=(by rw[extract_mk,HTA.o]);have xoy:(⟨u.toArray⟩:ByteArray).extract al H=⟨r.toArray⟩:=by
     have:=FN u al (by rw[f.o];exact KP);rw[f.o]at this;rw[this,HR.o]
    obtain⟨HEX,s,xox,vmk⟩:=hdd hex xoy (g.o.wf.trans (WF.later (zj g.o.at_.lt.2 (vv g.o.at_.lt.1)) HB1.o)) (wN.o.trans (WF.later (b:=b) (zj g.o.at_.lt.2 (vv g.o.at_.lt.1)) HB1.o));obtain⟨-,mm,Em⟩:=HMX.o.keep xox.o;have haz:(⟨a.toArray⟩:ByteArray).size=al:=(by rw[size_mk,HAL.o]);have HRP:=Z (Tryz.strings_ReplaceAll ⟨a.toArray⟩ ⟨#[39]⟩ ⟨#[39,39]⟩ mm w1 (by rw[haz];omega) Em zR (by
     show(⟨a.toArray⟩:ByteArray).size+Lib.count (⟨a.toArray⟩:ByteArray).data.toList [39]*2<=_;rw[haz,toList_mk,Tx];have:=List.count_le_length (a:=(39:UInt8)) (l:=a);exact MT))
    have HRP:=Z (show zC prog 136 #[.string ((⟨u.toArray⟩:ByteArray).extract 0 al),.string ⟨#[39]⟩,.string ⟨#[39,39]⟩] w1 λe w'=>e = .returned (zM (kg a))/\yD w1 w1 w' by
     rw[HEX.o];refine HRP.o.mono ?_;rintro e w' ⟨rfl,h⟩;rw[toList_mk];exact⟨by rw[show(⟨#[39]⟩:ByteArray).data.toList=[39]from rfl,show(⟨#[39,39]⟩:ByteArray).data.toList=[39,39]from rfl,Tv],h⟩)
    obtain⟨tr,htr⟩:∃x,zzz a 39=x:=⟨_,rfl⟩;have HTR:=Z htr;have HTM:=Z (λW=>(show zC prog 137 #[.string ((⟨u.toArray⟩:ByteArray).extract 0 al),.string ⟨#[39]⟩] W λe w'=>e = .returned (zM tr)/\(w'=W\/w'=W.drew) by
     rw[HEX.o];refine(Tryz.strings_Trim_one ⟨a.toArray⟩ 39 zR W (by rw[haz];omega)).mono ?_;rintro e w' ⟨rfl,h⟩;rw[toList_mk,HTR.o];exact⟨rfl,h⟩))
    clear hex xoy Em haz htr;go_wp2_with fail;refine HRP.o.mono ?_;rintro e w2 ⟨rfl,qY⟩;have vmg:=Z (m.o.later qY);have BO:=Z (xox.o.trans (WF.later (zj m.o.lt.2 (vv m.o.lt.1)) qY));have xov:=Z (vmk.o.trans (WF.later (b:=b) (zj m.o.lt.2 (vv m.o.lt.1)) qY));clear qY;go_wp2_with fail;refine(HTM.o w2).mono ?_;rintro e w3 ⟨rfl,hd⟩;obtain⟨w3',h33⟩:∃Xk,w3=Xk:=⟨_,rfl⟩;have I:=Z (show km B b acc w3 by rcases hd with rfl|rfl<;>exact vmg.o);have vmf:=Z (show WF B b w w3 by rcases hd with rfl|rfl<;>first|exact BO.o|exact BO.o.drew);have vmd:=Z (show WF B b W0 w3 by rcases hd with rfl|rfl<;>first|exact xov.o|exact xov.o.drew);clear hd h33;go_upto_if 26 with fail
    go_cut [7] (λrv wc=>rv=zM (fZ a)/\wc=w3)
    case first =>
     by_cases h0:tr=[]
     .have HQ:=Z (show kg a=fZ a by
       unfold fZ;rw[yz (λe=>(Tz a).2 e (HTR.o.trans h0))])
      have g0:xjx tr=true:=(by rw[h0];rfl);have g1:(!List.isEmpty tr)=false:=(by rw[g0];rfl);rw[g1];clear h0;go_wp2_with fail;go_meet
      case rel=>exact⟨by rw[<-HQ.o],rfl⟩
     .have HQ:=Z (show(39::(kg a++[39]):Wd)=fZ a by
       unfold fZ;rw[yV ((Tz a).1 (λe=>h0 (HTR.o.symm.trans e)))])
      have g0:xjx tr=false:=by
       cases htt:tr with
       |nil=>exact absurd htt h0
       |cons x y=>rfl
      have g1:(!List.isEmpty tr)=true:=(by rw[g0];rfl);rw[g1];obtain⟨da,hda⟩:∃x,kg a=x:=⟨_,rfl⟩;have uR:da.length<=200000000:=by
       have h1:=nO a;have h2:=HAL.o;rw[hda]at h1;omega
      have Ti:¬9223372036854775807<1+da.length:=J;have EO:¬9223372036854775807<1+da.length+1:=J;rw[hda]at HQ|-;clear h0 hda;go_wp2_with fail;go_meet
      case rel=>exact⟨by rw[<-HQ.o];rfl,rfl⟩
    case rest =>
     obtain⟨rfl,i⟩:=hcut;have i:=i.symm;subst i;obtain⟨rq,hrq⟩:∃x,fZ a=x:=⟨_,rfl⟩;have d:=d.o;have I3:=Z (hrq▸I3.o);rw[hrq]at d|-;have d:=Z d;clear hrq;go_wp2_with fail;refine yo ?_;intro W4 Lc;have VD:zP w3 W4:=Wv;have xou:=Z (show jK W4 (w3:Nat) [rq] from⟨9,(0,0),zR,zR,AB⟩);have xoq:=I.o.later VD;have S:=zj I.o.lt.2 (vv I.o.lt.1);have D:=Z (vmf.o.trans (WF.later (b:=b) S VD));have A:=Z (vmd.o.trans (WF.later (b:=b) S VD));clear Lc VD;refine(YH B b (w3:Nat) (acc) [rq] W4 xoq xou.o (by have:=d.o;simp;omega) zZ).mono ?_;rintro e w4 ⟨⟨rv4,rfl⟩,TO,GO⟩;have K:=Z (show km B b (acc++rq) w4 by simpa using TO);have xok:=Z (D.o.trans GO);have M:=Z (A.o.trans GO);clear TO GO xoq S D A;have P:w4.heap[q]? = some (.cells #[.bool num] 4 (0,0)):=M.o.kept q _ HBX.o (by simpa using HQB.o) (λc fz e=>by cases e);have cq4:zu w4 q 0 (.bool num):=(by rw[zw P];rfl);have iD:PredGrows prog 138 #[(q,0)] (eP num) w4:=λW' x _ hb=>(tI x q num W' ((hb.cell (p:=(q,0)) (X _ _ cq4)).trans cq4)).mono λe w' h=>⟨h.1,h.2▸zv _ _⟩
     have HI2:=Z (Tryz.strings_IndexFunc_grows 138 #[(zU q 0)] (λargs w=>enters_of func138 yq rfl args w) (eP num) ⟨r.toArray⟩ w4 iD);obtain⟨rl,G⟩:∃n,r.length=n:=⟨_,rfl⟩;obtain⟨zl,k⟩:∃n,z.length=n:=⟨_,rfl⟩;rw[T9,toList_mk,size_mk,HZ.o,G,k]at HI2;rw[G]at wC hzl;have umf:rl<=H:=J;clear wC;rw[k]at hzl;have HRL:=Z G;have HZL:=Z k;have HTZ:=Z (k▸HTZ.o);have HV:=Z (k▸HV.o);have s:=Z (show Value.string ((⟨u.toArray⟩:ByteArray).extract al H)=zM r by rw[s.o]);have HI2:=Z (show zC prog 133 #[.string ((⟨u.toArray⟩:ByteArray).extract al H),.func (.func 138) #[] #[(zU q 0)]] w4 λe w'=>e = .returned (.int .i64 (if zl<rl then (zl:Int)else -1))/\yD w4 w4 w' by rw[s.o];exact HI2.o);have rsz:((⟨u.toArray⟩:ByteArray).extract al H).size=rl:=by
      have h1:=s.o;simp only[zM,vq8]at h1;rw[h1,size_mk];exact HRL.o
     clear P cq4 iD G k;go_wp2_with fail;refine HI2.o.mono ?_;rintro e w5 ⟨rfl,ZZ⟩;have T:=zj K.o.lt.2 (vv K.o.lt.1);have L:=Z (K.o.later ZZ);have yg7:=Z (xok.o.trans (WF.later (b:=b) T ZZ));have vn3:=Z (M.o.trans (WF.later (b:=b) T ZZ));clear ZZ T;go_upto_if 41 with fail
     go_cut [6] (λnv wc=>nv = .int .i64 zl/\wc=w5)
     case first =>
      by_cases R:zl<rl
      .rw[yV R];exact LW
      .rw[yz R];have hae:zl=rl:=(by omega);subst hae;exact LW
     case rest =>
      obtain⟨rfl,i⟩:=hcut;have i:=i.symm;subst i;rw[s.o];have hzI:(zl:Int)<=(rl:Int):=J;have Qf:(⟨r.toArray⟩:ByteArray).size=rl:=(by rw[size_mk,HRL.o]);have HEZ:=Z (show(⟨r.toArray⟩:ByteArray).extract 0 zl=⟨z.toArray⟩by rw[extract_mk,HTZ.o]);have HEV:=Z (show Value.string ((⟨r.toArray⟩:ByteArray).extract zl rl)=zM v by
       have:=FN r zl (by rw[HRL.o];omega);rw[HRL.o]at this;rw[this,HV.o])
      clear rsz;go_wp2_with fail;refine yo ?_;intro W6 EM;have gT:zP w5 W6:=(by rw[EM];exact(zv _ _).alloc (Y _) _);have iw:=Z (show jK W6 (w5:Nat) [z] from⟨9,(0,0),zR,zR,by rw[EM,HEZ.o];exact kU _ _⟩);have xoj:=L.o.later gT;have U:=zj L.o.lt.2 (vv L.o.lt.1);have E:=Z (yg7.o.trans (WF.later (b:=b) U gT));have C:=Z (vn3.o.trans (WF.later (b:=b) U gT));clear EM gT;refine(YH B b (w5:Nat) (acc++rq) [z] W6 xoj iw.o (by have:=d.o;simp;omega) zZ).mono ?_;rintro e w6 ⟨⟨rv6,rfl⟩,hw6,gW⟩;have zoj:=Z (show km B b (acc++rq++z) w6 by simpa using hw6);have xog:=Z (E.o.trans gW);have N:=Z (C.o.trans gW);clear hw6 gW xoj U E C;go_wp2_with fail;go_roundw
      case rel=>exact⟨v,acc++rq++z,HEV.o,by have:=ld.o;have:=f.o;have:=HUL.o;omega,⟨zoj.o,xog.o,by
       have xof:w6.heap[q]? = some (.cells #[.bool num] 4 (0,0)):=N.o.kept q _ HBX.o (by simpa using HQB.o) (λc fz e=>gJ);rw[zw xof];rfl,by rw[<-I3.o];simp⟩,N.o⟩
      case measure =>
       have:=ld.o;have:=f.o;rw[HEV.o];simp only[szS,zM];rw[size_mk,size_mk];omega
variable{hi lo:Nat}{W W' w0:z8}
def Ok(t:Wd)(w:z8):(zA (.iface 206 (zM t)) 193 206 true).run prog w = .ok (.tuple #[zM t,.bool true]) w:=xV
def Oj(w:z8):(zA (.iface 208 (.agg #[])) 193 206 true).run prog w = .ok (.tuple #[.string ⟨#[]⟩,.bool false]) w:=xV
def Og(w:z8):(zA (.iface 208 (.agg #[])) 193 208 true).run prog w = .ok (.tuple #[.agg #[],.bool true]) w:=xV
def Tq(b0:Nat)(w:z8):(zA (.iface 210 (b0,0)) 193 206 true).run prog w = .ok (.tuple #[.string ⟨#[]⟩,.bool false]) w:=xV
def Tk(b0:Nat)(w:z8):(zA (.iface 210 (b0,0)) 193 208 true).run prog w = .ok (.tuple #[.agg #[],.bool false]) w:=xV
def Tj(b0:Nat)(w:z8):(zA (.iface 213 (b0,0)) 193 206 true).run prog w = .ok (.tuple #[.string ⟨#[]⟩,.bool false]) w:=xV
def Tg(b0:Nat)(w:z8):(zA (.iface 213 (b0,0)) 193 208 true).run prog w = .ok (.tuple #[.agg #[],.bool false]) w:=xV
def eT(b0:Nat)(w:z8):(zA (.iface 199 (b0,0)) 193 206 true).run prog w = .ok (.tuple #[.string ⟨#[]⟩,.bool false]) w:=xV
def eW(b0:Nat)(w:z8):(zA (.iface 199 (b0,0)) 193 208 true).run prog w = .ok (.tuple #[.agg #[],.bool false]) w:=xV
def DH(w:z8):Prop:=∀j,j<3->zu w 5 j (zM (qF j))
def Tf(f:Nat)(hf:f<3)(w:z8)(h:DH w):zC prog 90 #[(f:Nat)] w λe w'=>e = .returned (zM (qF f))/\w=w':=by
 have hc:=h f hf;have h1:(f:Int)<3:=J;go_enter func90,ntmps90;exact DA
def eA(w:z8)(os:Array Obj):yD w w (yzk w os) :=
 ⟨rfl,rfl,rfl,by simp[yzk],λk a=>by unfold yzk;simp only[Array.getElem?_append];rw[yV a]⟩
def zog(u:Nat)(a:u<=9223372036854775807)(w:z8)(h:YI prog w "internal/strconv.uint64pow10" .u64 Zh) :
  zC prog 91 #[u] w λe w'=>e = .returned (zM (zm u))/\zP w w':=by
 refine(Tryz.strconv_Itoa (u:Int) J J w h).mono ?_;rintro e w' ⟨rfl,k,os,rfl⟩;refine⟨by rw[Lib.itoa_nonneg],?_⟩;have h1:yD w w (w.drewN k):=below_drewN (zv _ _) k;have h2:=eA (w.drewN k) os;exact h1.trans (h2.mono h1.size)
def Ou.lt{o:Wd}(h:Ou o):yg o<=999999999:=by
 have h1:yg o=Z8 o:=rfl;have h2:=lS o h.dig;have a:10 ^ o.length<=10 ^ 9:=Nat.pow_le_pow_right J h.len;have b:(10:Nat) ^ 9=1000000000:=zR;omega
def xx7(num:Bool)(t:Wd):t.length<=(Kf num t).length:=by
 have h:∀(n:Nat) (s:Wd),s.length<=n->s.length<=(TP num n s).length:=by
  intro n;induction n with
  |zero=>intro s hs;rw[TP];simpa using hs
  |succ n b =>
   intro s hs;rw[TP];split
   .next h=>rw[h];exact Y _
   next d =>
   have hp:=yv.2 d;split
   .have:=b (s.drop 1) yJ;simp at this|-;omega
   next ha =>
   have g:=yv.2 ha;have h1:=b (s.drop (s.takeWhile (qB num)).length) yJ;have h2:(s.takeWhile (qB num)).length<=(fZ (s.takeWhile (qB num))).length:=by
    have e:∀a:Wd,a.length<=(kg a).length:=by
     intro a;induction a with
     |nil=>exact Y _
     |cons c t b =>
      unfold kg at b|-;rw[zh,zy,zY];have:1<=(if c=39 then [39,39]else [c]:Wd).length:=(by split<;>simp);omega
    have f:=e (s.takeWhile (qB num));unfold fZ;split
    .simp;omega
    .exact f
   simp at h1|-;omega
 exact h _ t (Y _)
structure zof(lo hi B:Nat)(w0 W:z8):Prop where
 keep:xh lo hi w0 W
 hi:hi<=B
 mx:Tu B W
 words:5<B/\DH W
 pow:7<B/\YI prog W "internal/strconv.uint64pow10" .u64 Zh
def KZ:prog.globalNamed "internal/strconv.uint64pow10" = some 7:=yq
def Ld(h:YI prog W "internal/strconv.uint64pow10" .u64 Zh)(hb:yD B W W')(hB:7<B):YI prog W' "internal/strconv.uint64pow10" .u64 Zh:=by
 unfold YI vz8 at h|-;rw[KZ]at h|-;simp only[yzq]at h|-;rw[hb.block _ hB];exact h
def zof.go{b:Nat}(h:zof lo hi B w0 W)(k:WF B b W W'):zof lo hi B w0 W' where
 keep:=⟨zj h.keep.1 k.below.size,λi h1 h2=>(k.below.block i (zD h2 h.hi)).trans (h.keep.2 i h1 h2)⟩
 hi:=h.hi
 mx:=h.mx.keep k
 words:=⟨h.words.1,λj a=>(k.below.cell (p:=⟨5,j,none⟩) h.words.1).trans (h.words.2 j a)⟩
 pow:=⟨h.pow.1,Ld h.pow.2 k.below h.pow.1⟩
def xx8(lo hi B b:Nat)(w0:z8)(num:Bool)(f:Fo):Prop:=∀(l:Wd) (W:z8) (a:Option yM) (c:Nat) (vs:List Value),km B b l W->zof lo hi B w0 W->U4 lo hi w0 a vs->yd lo hi w0 vs f->l.length+(Y4 zm yg num f).length<=100000000 ->
 zC prog 41 #[(b,0),.slice a f.len c,.bool num] W λe w'=>(∃v,e = .returned v)/\km B b (l++Y4 zm yg num f) w'/\WF B b W w'
def zod(W:z8)(cs:Array Value)(t:xm):∃a,W.alloc (.cells cs t)=a/\zP W a/\a.heap[(W:Nat)]? = some (.cells cs t (0,0)):=⟨_,rfl,(zv _ _).alloc (Y _) _,kU _ _⟩
def tN{b:Nat}(num:Bool)(f:Fo)(hm:f.yT=true)(hw:f.wf 2000000=true)(hs:f.bT)(hl:f.len<=2000000)
  (ih:∀(m:Fo) (nm:Bool),zE m<zE f->m.yT=true->m.wf 2000000=true->m.bT->m.len<=2000000->xx8 lo hi B b w0 nm m):xx8 lo hi B b w0 num f:=by
 intro l W a c vs R yv0 Y9 Fl hlen;obtain⟨L,hL⟩:=zr f.len;rw[hL];have hvl:vs.length=L:=(yd.count f vs Fl hm).trans hL;obtain⟨F,hF⟩:=zr (l++Y4 zm yg num f);have hFl:F.length<=100000000:=by rw[<-hF,zy];exact hlen
 rw[hF];obtain⟨vn4,zob,Y8,G9,HM,HW,HS,HF⟩:=OJ R yv0 Y9 Fl hm hw hs hF;obtain⟨HFL,HIH,ig,HL⟩:=hdd hFl ih hvl hL;have hL2:L<=2000000:=J;clear R yv0 Y9 Fl hm hw hs hF hFl ih hvl hl hL hlen;go_enter func41,ntmps41;go_wp2_with fail;go_loopw [17] (λiv wr=>∃i us xs r acc,iv = .int .i64 (i:Nat)/\i<=L/\yd lo hi w0 xs r/\r.yT=true/\r.wf 2000000=true/\r.bT/\us.length=i/\vs=us++xs/\i+r.len=L/\zE r<=zE f/\km B b acc wr/\WF B b W wr/\acc++Y4 zm yg num r=F) (λiv _=>L - (intOf iv).toNat)
 case atStart=>exact⟨0,[],vs,f,l,rfl,zQ _,G9.o,HM.o,HW.o,HS.o,rfl,rfl,by have:=HL.o;omega,Y _,vn4.o,WF.refl _ _ _,HF.o⟩
 case round =>
  obtain⟨i,us,xs,r,acc,rfl,hiL,k,hmr,EB,Ml,QA,hvs,Z4,bh,R,IZ,heq⟩:=hrel;obtain⟨HN,s,z,w,Pz,HUS,M,wN⟩:=OJ k hmr EB Ml hvs QA R IZ;have u:=Z (zob.o.go IZ);have pK:=Z heq;clear k hmr EB Ml hvs QA R IZ heq;by_cases uo:i<L
  .obtain⟨x0,xt,Ij⟩:∃x0 xt,xs=x0::xt:=zyq;subst Ij;obtain⟨g,o,rfl,Fg,I7,dP⟩:=Y8.o i (by have:=ig.o;omega);have il:vs[i]'(by have:=ig.o;omega)=x0:=zyy;rw[il]at dP;have Vj:=yL u.o.keep dP Fg I7;have k1:(i:Int)<(L:Int):=J;have k2:decide ((i:Int)<(L:Int))=true:=yJ;have Zb:=Z bh;clear dP il bh;obtain⟨y,hy⟩:∃y,y=x0:=⟨_,rfl⟩;replace Pz:=Z (show vs=us++y::xt by rw[hy];exact Pz.o);clear hy;cases r with
   |nil =>
    have:=HN.o;cases this
   |xR k0 a0 U r0=>have:=s.o;cases this
   |text t r =>
    obtain⟨vt,he,k⟩:=HN.o;cases he;have e1:=Ok t;have V:=Z k;clear k;have z:=Z (show r.wf 2000000=true from z.o);have s:=Z (show r.yT=true from s.o);have w:=Z (show r.bT from w.o);have QX:=Z (show i+(r.len+1)=L from Z4);have Zb:=Z (show zE r<=zE f by have:=Zb.o;simp at this;omega);have I3:=Z (show acc++(Kf num t++Y4 zm yg num r)=F from pK.o);have hlen:acc.length+(Kf num t).length<=100000000:=(by have h1:=congrArg xD I3.o;have h2:=HFL.o;simp only[zy]at h1;omega);have HTX:=Z (yg6 B b acc t num wr M.o u.o.mx hlen (by have:=xx7 num t;omega));clear hlen;go_wp2_with fail;refine HTX.o.mono ?_;rintro e w2 ⟨⟨rv,rfl⟩,h1,h2⟩;have C:=Z h1;have BO:=Z (wN.o.trans h2);clear h1 h2;go_wp2;go_roundw
    case rel=>exact⟨i+1,us++[y],_,r,acc++Kf num t,zZ,J,V.o,s.o,z.o,w.o,Qr,Bj,Vt,GG,C.o,BO.o,MP⟩
    case measure=>simp only[intOf];omega
   |hash r =>
    obtain⟨vt,he,k⟩:=HN.o;cases he;have e1:=Oj;have e2:=Og;have V:=Z k;clear k;have z:=Z (show r.wf 2000000=true from z.o);have s:=Z (show r.yT=true from s.o);have w:=Z (show r.bT from w.o);have QX:=Z (show i+(r.len+1)=L from Z4);have Zb:=Z (show zE r<=zE f by have:=Zb.o;simp at this;omega);have I3:=Z (show acc++([35]++Y4 zm yg num r)=F from pK.o);go_wp2_with fail;refine yo ?_;intro W4 Lc;have Q:zP wr W4:=(by rw[Lc];exact((zv _ _).alloc (Y _) _).alloc zZ _);have O:=Z (show jK W4 ((wr:Nat)+1) [[35]] from⟨9,(0,0),zR,zR,by rw[Lc];have q:=kU (wr.alloc (.cells #[] 208)) (.cells #[zM [35]] 9);simpa using q⟩);have G:=M.o.later Q;have H:=zj M.o.lt.2 (vv M.o.lt.1);have I:=WF.later (b:=b) H Q;clear Lc;refine(YH B b ((wr:Nat)+1) (acc) [[35]] W4 G O.o ME zZ).mono ?_;rintro e w4 ⟨⟨rv4,rfl⟩,TO,GO⟩;have zp0:=Z (show km B b (acc++[35]) w4 by simpa using TO);have E:=Z (I.trans GO);have zp1:=Z (wN.o.trans E.o);have ye0:=Z (u.o.go E.o);clear TO GO G H I Q;go_wp2;go_roundw
    case rel=>exact⟨i+1,us++[y],_,r,acc++[35],zZ,J,V.o,s.o,z.o,w.o,Qr,Bj,Vt,GG,zp0.o,zp1.o,MP⟩
    case measure=>simp only[intOf];omega
   |put n a r =>
    obtain⟨vt,b0,he,P,A,YZ,Vs,k⟩:=HN.o;cases he;have EG:=yL u.o.keep YZ P A;have e1:=Tq b0;have e2:=Tk b0;have e3:=Qh b0;have V:=Z k;have T:(decide (n.length<=4000001) && r.wf 2000000)=true:=z.o;simp only[zx,vJ]at T;have z:=Z T.2;have S:n.length<=16/\r.bT:=w.o;have w:=Z S.2;clear k T S YZ Vs;have s:=Z (show r.yT=true from s.o);have QX:=Z (show i+(r.len+1)=L from Z4);have Zb:=Z (show zE r<=zE f by have:=Zb.o;simp at this;omega);have I3:=Z (show acc++((123::(n++[125]))++Y4 zm yg num r)=F by rw[<-pK.o,Y4];simp);go_wp2_with fail;refine yo ?_;intro W4 Lc;have Q:zP wr W4:=Wv;have O:=Z (show jK W4 (wr:Nat) [[123],n,[125]] from⟨9,(0,0),zR,zR,AB⟩);have G:=M.o.later Q;have H:=zj M.o.lt.2 (vv M.o.lt.1);have I:=WF.later (b:=b) H Q;clear Lc;refine(YH B b (wr:Nat) (acc) [[123],n,[125]] W4 G O.o ME zZ).mono ?_;rintro e w4 ⟨⟨rv4,rfl⟩,TO,GO⟩;have zp0:=Z (show km B b (acc++(123::(n++[125]))) w4 by simpa using TO);have E:=Z (I.trans GO);have zp1:=Z (wN.o.trans E.o);have ye0:=Z (u.o.go E.o);clear TO GO G H I Q;clear EG;go_wp2;go_roundw
    case rel=>exact⟨i+1,us++[y],_,r,acc++(123::(n++[125])),zZ,J,V.o,s.o,z.o,w.o,Qr,Bj,Vt,GG,zp0.o,zp1.o,MP⟩
    case measure=>simp only[intOf];omega
   |num n a r =>
    obtain⟨vt,b0,he,P,A,YZ,Vs,k⟩:=HN.o;cases he;have EG:=yL u.o.keep YZ P A;have e1:=Tj b0;have e2:=Tg b0;have e3:=Qw b0;have e4:=XL b0;have V:=Z k;have T:(decide (n.length<=4000001) && r.wf 2000000)=true:=z.o;simp only[zx,vJ]at T;have z:=Z T.2;have S:n.length<=16/\r.bT:=w.o;have w:=Z S.2;clear k T S YZ Vs;have s:=Z (show r.yT=true from s.o);have QX:=Z (show i+(r.len+1)=L from Z4);have Zb:=Z (show zE r<=zE f by have:=Zb.o;simp at this;omega);have I3:=Z (show acc++((123::(n++[44,32,110,117,109,98,101,114,125]))++Y4 zm yg num r)=F by rw[<-pK.o,Y4];simp);go_wp2_with fail;refine yo ?_;intro W4 Lc;have Q:zP wr W4:=Wv;have O:=Z (show jK W4 (wr:Nat) [[123],n,[44,32,110,117,109,98,101,114,125]] from⟨9,(0,0),zR,zR,AB⟩);have G:=M.o.later Q;have H:=zj M.o.lt.2 (vv M.o.lt.1);have I:=WF.later (b:=b) H Q;clear Lc;refine(YH B b (wr:Nat) (acc) [[123],n,[44,32,110,117,109,98,101,114,125]] W4 G O.o ME zZ).mono ?_;rintro e w4 ⟨⟨rv4,rfl⟩,TO,GO⟩;have zp0:=Z (show km B b (acc++(123::(n++[44,32,110,117,109,98,101,114,125]))) w4 by simpa using TO);have E:=Z (I.trans GO);have zp1:=Z (wN.o.trans E.o);have ye0:=Z (u.o.go E.o);clear TO GO G H I Q;clear EG;go_wp2;go_roundw
    case rel=>exact⟨i+1,us++[y],_,r,acc++(123::(n++[44,32,110,117,109,98,101,114,125])),zZ,J,V.o,s.o,z.o,w.o,Qr,Bj,Vt,GG,zp0.o,zp1.o,MP⟩
    case measure=>simp only[intOf];omega
   |br n a fo of cl bs r =>
    obtain⟨vt,b0,ba,bc,ws,he,P,A,YZ,Vs,Xq,Ig,DV,R0,B4,Fp,k⟩:=HN.o;cases he;have xod:lo<=b0/\b0<hi:=⟨P,A⟩;have HLH:=Z xod;have EG:=yL u.o.keep YZ P A;have hh2:=yL u.o.keep Xq P A;have e1:=eT b0;have e2:=eW b0;have e3:=GB b0;have e4:=Uw b0;have e5:=U8 b0;obtain⟨V,ax,If,HC2,HC3,HC4⟩:=EZ k Fp B4 Xq Ig DV;have T:(decide (n.length<=4000001) && decide (fo<3) && bs.xW && decide (bs.len<=2000000) && bs.wf 2000000 && r.wf 2000000)=true:=z.o;simp only[zx,vJ]at T;obtain⟨⟨⟨⟨⟨Ib,lj⟩,lV⟩,hbn⟩,XB⟩,zbg⟩:=T;have S:n.length<=16/\fo<3/\Ou of/\bs.bT/\r.bT:=w.o;obtain⟨z,HBL,HBW,HOF,vn5,w⟩:=EZ zbg lV XB S.2.2.1 S.2.2.2.1 S.2.2.2.2;have s:=Z (show r.yT=true from s.o);have QX:=Z (show i+(r.len+1)=L from Z4);have Zb:=Z (show zE r<=zE f/\zE bs<zE f by have:=Zb.o;simp at this;omega);obtain⟨nb,ib⟩:∃x,decide (fo≠0)=x:=⟨_,rfl⟩;have xx9:((fo:Int) !=0)=nb:=by
     rw[<-ib];by_cases h0:fo=0
     .subst h0;rfl
     .rw[decide_eq_true h0,bne,beq_eq_false_iff_ne.2 J];rfl
    have xob:((fo:Int)==0) = !nb:=(by rw[<-xx9,bne,Bool.not_not]);have vn6:=Z xx9;have vn7:=Z xob;have I3:=Z (show acc++((123::(n++([44,32]++(qF fo++[44]))))++((if 0<yg of then [32,111,102,102,115,101,116,58]++zm (yg of)else [])++(Y4 zm yg nb bs++125::Y4 zm yg num r)))=F by rw[<-pK.o,Y4,ib];simp);have un1:(fo:Int)<3:=J;have OG:zu wr.drew b0 0 (zM n)/\zu wr.drew b0 2 fo:=⟨EG,hh2⟩;clear YZ Vs Xq Ig DV R0 B4 Fp k zbg lV XB S ib xx9 xob pK HN Ib;go_wp2_with fail;refine V1 (λW':z8=>zu W' b0 0 (zM n)/\zu W' b0 2 fo) [0,1,2,3,4,5,6,7,8,9] 3 OG ?_;obtain⟨wd,hwd⟩:∃Xk,wr.drew=Xk:=⟨_,rfl⟩;have xxz:=Z (show km B b acc wd by rw[<-hwd];exact M.o);have xxy:WF B b wr wd:=(by rw[<-hwd];exact(WF.refl _ _ _).drew);have vn8:=Z (wN.o.trans xxy);have D:=Z (u.o.go xxy);rw[hwd]at OG|-;clear hwd xxy;refine gX 10 (λK hK=>?_);go_simp;refine(Tf fo lj wd D.o.words.2).mono ?_;rintro e w' ⟨rfl,rfl⟩;refine hK.out _ _ OG λ_=>?_;clear hK K;refine gX 11 (λK hK=>?_);go_simp;obtain⟨W5,hW5,ZZ,hr5⟩:=zod wd #[zM [123],zM n,zM [44,32],zM (qF fo),zM [44]] 9;rw[hW5];have xp0:=zj xxz.o.lt.2 (vv xxz.o.lt.1);have yg8:WF B b wd W5:=WF.later (b:=b) xp0 ZZ;have zmd:=Z (show jK W5 (wd:Nat) [[123],n,[44,32],(qF fo),[44]] from⟨9,(0,0),zR,zR,hr5⟩);have Bk:=xxz.o.later ZZ;refine hK.out _ _ ⟨(yg8.below.cell (p:=(zU b0 0)) (zD A D.o.hi)).trans OG.1,(yg8.below.cell (p:=(zU b0 2)) (zD A D.o.hi)).trans OG.2⟩ λ_=>?_;clear hK K hW5 hr5;refine gX 12 (λK hK=>?_);go_simp;refine(YH B b (wd:Nat) (acc) [[123],n,[44,32],(qF fo),[44]] W5 Bk zmd.o ME zZ).mono ?_;rintro e w5 ⟨⟨rv5,rfl⟩,hw5,OO⟩;have yg9:=Z (show km B b (acc++(123::(n++([44,32]++(qF fo++[44]))))) w5 by simpa using hw5);have ygz:=Z (yg8.trans OO);have yg7:=Z (vn8.o.trans ygz.o);have zp2:=Z (D.o.go ygz.o);refine hK.out _ _ ⟨(ygz.o.below.cell (p:=(zU b0 0)) (zD A D.o.hi)).trans OG.1,(ygz.o.below.cell (p:=(zU b0 2)) (zD A D.o.hi)).trans OG.2⟩ λ_=>?_;clear hK K hw5 OO Bk xp0 yg8 ZZ;refine Y3 ?_ _;have hh3:=yL zp2.o.keep HC3.o P A;have hov:=HOF.o.lt;obtain⟨ov,xxx⟩:∃x,yg of=x:=⟨_,rfl⟩;rw[xxx]at hh3 hov;have I3:=Z (xxx▸I3.o);clear EG hh2 OG xxx;go_upto_if 77 with fail
    go_cut [] (λwc=>km B b (acc++(123::(n++([44,32]++(qF fo++[44]))))++(if 0<ov then [32,111,102,102,115,101,116,58]++zm ov else [])) wc/\WF B b W wc)
    case first =>
     by_cases h0:0<ov
     .have j1:decide ((0:Int)<(ov:Int))=true:=(by simp;omega);have j1i:(0:Int)<(ov:Int):=J;have HIT:=Z (zog ov J w5 zp2.o.pow.2);go_wp2_with fail;refine HIT.o.mono ?_;rintro e w6 ⟨rfl,gT⟩;have zb0:=zj yg9.o.lt.2 (vv yg9.o.lt.1);have zoj:=Z (yg9.o.later gT);have vn9:=Z (yg7.o.trans (WF.later (b:=b) zb0 gT));have xp1:=Z (zp2.o.go (WF.later (b:=b) zb0 gT));clear gT zb0;go_wp2_with fail;refine yo ?_;intro W7 hW7;have Xu:zP w6 W7:=(by rw[hW7];exact(zv _ _).alloc (Y _) _);have xp2:=Z (show jK W7 (w6:Nat) [[32,111,102,102,115,101,116,58],(zm ov)] from⟨9,(0,0),zR,zR,by rw[hW7];exact kU _ _⟩);have xp3:=zoj.o.later Xu;have ynv:=zj zoj.o.lt.2 (vv zoj.o.lt.1);have xp4:=WF.later (b:=b) ynv Xu;clear hW7;refine(YH B b (w6:Nat) (acc++(123::(n++([44,32]++(qF fo++[44]))))) [[32,111,102,102,115,101,116,58],(zm ov)] W7 xp3 xp2.o (by have h1:=congrArg xD I3.o;have h2:=HFL.o;rw[yV h0]at h1;simp only[zy,zY,yF]at h1;simp;omega) zZ).mono ?_;rintro e w7 ⟨⟨rv7,rfl⟩,hw7,PI⟩;have vny:=Z (show km B b (acc++(123::(n++([44,32]++(qF fo++[44]))))++([32,111,102,102,115,101,116,58]++zm ov)) w7 by simpa using hw7);have xp5:=Z (xp4.trans PI);have vnx:=Z (vn9.o.trans xp5.o);have ujq:=Z (xp1.o.go xp5.o);clear hw7 PI xp3 ynv xp4 Xu;go_wp2;go_meet
      case rel=>exact⟨by rw[yV h0];exact vny.o,vnx.o⟩
     .have h0':ov=0:=(by omega);subst h0';go_wp2;go_meet
      case rel=>exact⟨by rw[yz (kD 0),jJ];exact yg9.o,yg7.o⟩
    case rest =>
     obtain⟨xxv,xxu⟩:=hcut;obtain⟨xp6,zp3⟩:∃x,acc++(123::(n++([44,32]++(qF fo++[44]))))++(if 0<ov then [32,111,102,102,115,101,116,58]++zm ov else [])=x:=⟨_,rfl⟩;rw[zp3]at xxv;have I3:=Z (show xp6++(Y4 zm yg nb bs++125::Y4 zm yg num r)=F by rw[<-zp3,<-I3.o];simp);have vnv:=Z xxv;have vnu:=Z xxu;have xp7:=Z (zob.o.go xxu);clear xxv xxu zp3 hh3;have hh4:=yL xp7.o.keep HC4.o P A;go_wp2_with fail;go_loopw [91] (λiv wq=>∃i2 us2 xs2 r2 d,iv = .int .i64 (i2:Nat)/\i2<=bs.len/\yd lo hi w0 xs2 r2/\r2.xW=true/\r2.wf 2000000=true/\r2.bT/\us2.length=i2*3/\ws=us2++xs2/\i2+r2.len=bs.len/\zE r2<=zE bs/\km B b d wq/\WF B b W wq/\d++(Y4 zm yg nb r2++125::Y4 zm yg num r)=F) (λiv _=>bs.len - (intOf iv).toNat)
     case atStart=>exact⟨0,[],ws,bs,xp6,rfl,zQ _,ax.o,HBL.o,HBW.o,vn5.o,rfl,rfl,J,Y _,vnv.o,vnu.o,I3.o⟩
     case round =>
      obtain⟨i2,us2,xs2,r2,d,rfl,vd0,zbf,xp9,zbd,xpz,zbb,za0,EA,KN,xpy,xxq,xpx⟩:=hrel;obtain⟨HN2,KW,za1,vnq,PC,Pu,C,BO⟩:=OJ zbf xp9 zbd xpz za0 zbb xpy xxq;obtain⟨N,xpv,xgd,av⟩:=hdd (zob.o.go xxq) xpx KN EA;clear zbf xp9 zbd xpz za0 zbb xpy xxq xpx KN;by_cases B2:i2<bs.len
      .cases r2 with
       |nil=>exfalso;simp[Fo.len]at EA;omega
       |text t r=>have:=KW.o;cases this
       |hash r=>have:=KW.o;cases this
       |put n a r=>have:=KW.o;cases this
       |num n a r=>have:=KW.o;cases this
       |br n a fo of cl bs r=>have:=KW.o;cases this
       |xR k0 a0 U r0 =>
        obtain⟨R1,ma,mc,ms,TJ,Uy,lU,U9⟩:=HN2.o;subst TJ;have hwl:ws.length=us2.length+(R1.length+3):=(by rw[PC.o];simp);have R:∀j v,[zM k0,.int .i64 a0,.slice ma U.len mc][j]? = some v->∃(h:i2*3+j<ws.length),ws[i2*3+j]=v:=zkd;obtain⟨q0,p0⟩:=R 0 _ rfl;obtain⟨q1,p1⟩:=R 1 _ rfl;obtain⟨q2,p2⟩:=R 2 _ rfl;obtain⟨g2,o2,rfl,xxk,xxj,d0⟩:=If.o (i2*3+0) q0;obtain⟨g2',o2',hgg,_,_,d1⟩:=If.o (i2*3+1) q1;cases hgg;obtain⟨g2',o2',hgg,_,_,d2⟩:=If.o (i2*3+2) q2;cases hgg;rw[p0]at d0;rw[p1]at d1;rw[p2]at d2;have c0:=yL N.o.keep d0 xxk xxj;have c1:=yL N.o.keep d1 xxk xxj;have c2:=yL N.o.keep d2 xxk xxj;simp only[Ej,<-kh]at c0 c1 c2;have yof:=Z Uy;have yod:=Z lU;have yob:=Z U9;have k3:(i2:Int)<(bs.len:Int):=J;have k4:decide ((i2:Int)<(bs.len:Int))=true:=yJ;clear Uy lU U9 d0 d1 d2 p0 p1 p2 R;have R2:(decide (k0.length<=4000001) && U.yT && decide (U.len<=2000000) && U.wf 2000000 && r0.wf 2000000)=true:=za1.o;simp only[zx,vJ]at R2;obtain⟨⟨⟨⟨_,Um⟩,Ko⟩,iW⟩,ED⟩:=R2;have lK:zE U<zE f/\zE r0<=zE bs:=zqz;have xxg:U.bT/\r0.bT:=vnq.o;obtain⟨HIM,HSS,yp0,vnk,yp1,yn8,ymb⟩:=EY (HIH.o U nb lK.1 Um iW xxg.1 Ko) lK.2 ED xxg.2 (show r0.xW=true from KW.o) (show i2+(r0.len+1)=bs.len from av.o) (show d++((32::(k0++[32,123]))++(Y4 zm yg nb U++([125]++(Y4 zm yg nb r0++125::Y4 zm yg num r))))=F by rw[<-xpv.o,Y4];simp);clear Um Ko iW ED lK xxg;have vnj:b<(wr:Nat):=C.o.lt.1;obtain⟨tb,htb⟩:∃x,(wr:Nat)=x:=⟨_,rfl⟩;have HTB:=Z htb;have xpu:tb≠b:=J;have xpq:=Z xpu;clear htb xpu;go_wp2_with fail;refine yo ?_;intro W8 hW8;have hb8:zP wr W8:=(by rw[hW8];exact((zv _ _).alloc (Y _) _).alloc zZ _);have xpk:=Z (show jK W8 ((wr:Nat)+1) [[32],k0,[32,123]] from⟨9,(0,0),zR,zR,by rw[hW8];have q:=kU (wr.alloc (.cells #[zM k0,a0,.slice ma U.len mc] 221)) (.cells #[zM [32],zM k0,zM [32,123]] 9);simpa using q⟩);have htc:W8.heap[tb]? = some (.cells #[zM k0,a0,.slice ma U.len mc] 221 (0,0)):=by
         rw[hW8,<-HTB.o,xZ (wr.alloc _) _ (wr:Nat) zZ];exact kU _ _
        have xpj:=C.o.later hb8;have xpg:=zj C.o.lt.2 (vv C.o.lt.1);have xxd:=WF.later (b:=b) xpg hb8;clear hW8;refine(YH B b ((wr:Nat)+1) d [[32],k0,[32,123]] W8 xpj xpk.o zj1 zZ).mono ?_;rintro e w8 ⟨⟨rv8,rfl⟩,hw8,hf8⟩;have vng:=Z (show km B b (d++(32::(k0++[32,123]))) w8 by simpa using hw8);have xxb:w8.heap[tb]? = some (.cells #[zM k0,a0,.slice ma U.len mc] 221 (0,0)):=hf8.kept tb _ htc (by simpa using xpq.o) (λc fz e=>by cases e);have vnf:=Z xxb;have vnd:=Z (BO.o.trans (xxd.trans hf8));have ye1:=Z (N.o.go (xxd.trans hf8));have hS8:zu w8.drew tb 2 (.slice ma U.len mc)/\zu w8.drew b0 2 fo:=⟨by show w8.cell? _=_;rw[zw xxb];rfl,yL ye1.o.keep HC2.o P A⟩;rw[HTB.o];clear hw8 hf8 xpj xpg xxd hb8 htc xxb c0 c1 c2 hh4 Vj vnj;have g1:=vn6.o;have g2:=vn7.o;go_wp2_with fail;refine V1 (λW':z8=>zu W' tb 2 (.slice ma U.len mc)/\zu W' b0 2 fo) [0,1,2,3,4,5,6,7] 1 hS8 ?_;obtain⟨wd2,zp4⟩:∃Xk,w8.drew=Xk:=⟨_,rfl⟩;have vnb:=Z (show km B b (d++(32::(k0++[32,123]))) wd2 by rw[<-zp4];exact vng.o);have xv0:WF B b w8 wd2:=(by rw[<-zp4];exact(WF.refl _ _ _).drew);have vo0:=Z (vnd.o.trans xv0);have ye2:=Z (ye1.o.go xv0);have xpf:wd2.heap[tb]? = some (.cells #[zM k0,a0,.slice ma U.len mc] 221 (0,0)):=(by rw[<-zp4];exact vnf.o);rw[zp4];clear zp4 xv0 hS8;refine gX 8 (λK hK=>?_);go_simp;refine(HIM.o (d++(32::(k0++[32,123]))) wd2 ma mc ms vnb.o ye2.o yof.o yod.o zj1).mono ?_;rintro e w10 ⟨⟨un2,rfl⟩,h1,h2⟩;have ye3:w10.heap[tb]? = some (.cells #[zM k0,a0,.slice ma U.len mc] 221 (0,0)):=h2.kept tb _ xpf (by simpa using xpq.o) (λc fz e=>gJ);have zp5:=Z h1;have xpd:=Z (vo0.o.trans h2);have zp6:=Z (ye2.o.go h2);refine hK.out _ _ ⟨by rw[zw ye3];rfl,yL zp6.o.keep HC2.o P A⟩ λ_=>?_;clear hK K h1 h2 xpf ye3;refine Y3 ?_ _;go_wp2_with fail;refine yo ?_;intro W12 xv1;have Wl:zP w10 W12:=by rw[xv1];exact(zv _ _).alloc (Y _) _
        have xv2:=Z (show jK W12 (w10:Nat) [[125]] from⟨9,(0,0),zR,zR,by rw[xv1];exact kU _ _⟩);have ye4:=zp5.o.later Wl;have ye5:=zj zp5.o.lt.2 (vv zp5.o.lt.1);have ye6:=WF.later (b:=b) ye5 Wl;clear xv1;refine(YH B b (w10:Nat) (d++(32::(k0++[32,123]))++Y4 zm yg nb U) [[125]] W12 ye4 xv2.o (by have h1:=congrArg xD ymb.o;have h2:=HFL.o;simp only[zy,zY,yF]at h1;simp;omega) zZ).mono ?_;rintro e w12 ⟨⟨un4,rfl⟩,xpb,xr0⟩;have xr1:=Z (show km B b (d++(32::(k0++[32,123]))++Y4 zm yg nb U++[125]) w12 by simpa using xpb);have ye7:=Z (ye6.trans xr0);have xr2:=Z (xpd.o.trans ye7.o);have vo1:=Z (zp6.o.go ye7.o);clear xpb xr0 ye4 ye5 ye6 Wl;go_wp2;go_roundw
        case rel=>exact⟨i2+1,us2++[zM k0,.int .i64 a0,.slice ma U.len mc],R1,r0,d++(32::(k0++[32,123]))++Y4 zm yg nb U++[125],zZ,J,yob.o,yp1.o,yp0.o,vnk.o,MR,ML,MS,HSS.o,xr1.o,xr2.o,by rw[<-ymb.o];simp⟩
        case measure=>simp only[intOf];omega
      .have k4:decide ((i2:Int)<(bs.len:Int))=false:=(by simp;omega);have kE:r2 = .nil:=zq6;have xr3:=Z (show d++([125]++Y4 zm yg num r)=F by rw[<-xpv.o,kE];rfl);have Zb:=Z Zb.o.1;go_wp2_with fail;refine yo ?_;intro W9 hW9;have hb9:zP wr W9:=(by rw[hW9];exact(zv _ _).alloc (Y _) _);have xr4:=Z (show jK W9 (wr:Nat) [[125]] from⟨9,(0,0),zR,zR,by rw[hW9];exact kU _ _⟩);have xr5:=C.o.later hb9;have xr6:=zj C.o.lt.2 (vv C.o.lt.1);have xr7:=WF.later (b:=b) xr6 hb9;clear hW9;refine(YH B b (wr:Nat) (d) [[125]] W9 xr5 xr4.o (by have h1:=congrArg xD xr3.o;have h2:=HFL.o;simp only[zy,zY,yF]at h1;simp;omega) zZ).mono ?_;rintro e w9 ⟨⟨rv9,rfl⟩,hw9,hf9⟩;have vo3:=Z (show km B b (d++[125]) w9 by simpa using hw9);have xr8:=Z (xr7.trans hf9);have vo4:=Z (BO.o.trans xr8.o);have ujd:=Z (N.o.go xr8.o);clear hw9 hf9 xr5 xr6 xr7 hb9;go_wp2;go_roundw
       case rel=>exact⟨i+1,us++[y],_,r,d++[125],zZ,J,V.o,s.o,z.o,w.o,Qr,Bj,Vt,GG,vo3.o,vo4.o,by rw[yk];exact xr3.o⟩
       case measure=>simp only[intOf];omega
  .have k2:decide ((i:Int)<(L:Int))=false:=(by simp;omega);have kE:r = .nil:=WE;have HE:=Z (show acc=F by have:=pK.o;rw[kE,Y4,jJ]at this;exact this);go_wp2;go_end0
   exact⟨⟨_,rfl⟩,by rw[<-HE.o];exact M.o,wN.o⟩
def Lb{b:Nat}:∀(n:Nat) (f:Fo) (num:Bool),zE f<n->f.yT=true->f.wf 2000000=true->f.bT->f.len<=2000000->xx8 lo hi B b w0 num f
 | 0,f,num,h,_,_,_,_=>absurd h (KV _)
 |n+1,f,num,h,hm,hw,hs,e=>tN num f hm hw hs e λm nm h1 h2 a c d=>Lb n m nm J h2 a c d
structure Zt(w:z8):Prop where
 mx:∃m,zu w 6 0 (.int .i64 m)
 words:DH w
 pow:YI prog w "internal/strconv.uint64pow10" .u64 Zh
def zp7(h:YI prog w "internal/strconv.uint64pow10" .u64 Zh):7<(w:Nat):=by
 unfold YI vz8 at h;rw[KZ]at h;simp only[yzq]at h;apply yu;intro hc;rw[Zu J]at h;cases h
def Zt.below(h:Zt w)(hb:zP w w'):Zt w':=by
 obtain⟨⟨m,h1⟩,h2,a⟩:=h;exact⟨⟨m,(hb.cell (X w _ h1)).trans h1⟩,λj b=>(hb.cell (X w _ (h2 j b))).trans (h2 j b),Ld a hb (zp7 a)⟩
def Zt.vo5(h:Zt w)(a:hi<=(w:Nat)):zof lo hi (w:Nat) w w where
 keep:=vK a
 hi:=a
 mx:=⟨by obtain⟨m,h1⟩:=h.mx;exact X w _ h1,h.mx⟩
 words:=⟨X w _ (h.words 0 zR),h.words⟩
 pow:=⟨zp7 h.pow,h.pow⟩
def tP(lo hi:Nat)(f:Fo)(a:Option yM)(c:Nat)(vs:List Value)(w:z8)(x:Zt w)(i:U4 lo hi w a vs)(g:yd lo hi w vs f)(y:hi<=(w:Nat))(hm:f.yT=true)(hw:f.wf 2000000=true)(hs:f.bT)(z:f.len<=2000000)(m:(Y4 zm yg false f).length<=10000000) :
  zC prog 24 #[.slice a f.len c] w λe w'=>e = .returned (zM (Y4 zm yg false f))/\zP w w':=by
 obtain⟨B,hB⟩:=zr (w:Nat);obtain⟨W,p⟩:=zr (w.alloc (.cells #[.pointer none,.slice none 0 0] 115));have j:yD B w W:=by rw[<-p,<-hB];exact(zv _ _).alloc (Y _) _
 have k:km B B [] W:=by
  have:=xx5 w B J;rw[p,hB]at this;exact this
 have n:WF B B w W:=WF.later (TV hB.symm) (hB▸j);have d:=x.vo5 (lo:=lo) y;rw[hB]at d;have t:=Z (Lb (lo:=lo) (hi:=hi) (B:=B) (b:=B) (w0:=w) (zE f+1) f false (dQ _) hm hw hs z [] W a c vs k (d.go n) i g yJ);have s:=Z j;have D:=Z p;obtain⟨F,hF⟩:=zr (Y4 zm yg false f);rw[hF]at t m|-;rw[xK]at t;have u:=Z hB;clear x i g y hm hw hs z j k n d hF p hB;go_enter func24,ntmps24;go_wp2_with fail;rw[D.o,u.o];refine t.o.mono ?_;rintro e w1 ⟨⟨v,rfl⟩,h1,h2⟩;have A:=Z h1;have r:=Z (s.o.trans h2.below);have C:=Z (xx6 B B F w1 h1 J);clear h1 h2;go_wp2_with fail;refine C.o.mono ?_;rintro e w2 ⟨rfl,l⟩;have q:=Z (r.o.trans l);clear l;go_wp2;go_ret;exact⟨rfl,by have h:=q.o;rw[<-u.o]at h;exact h⟩
def ygy(r:Except (Nat×Nat) Fo)(w:z8)(e:xU)(w':z8):Prop :=
 (match r with
  |.error (n,a)=>∃b,e = .returned (.tuple #[.string ⟨#[]⟩,.iface 72 (.pointer (some ⟨b,0,none⟩))])/\zu w' b 0 n/\zu w' b 1 a
  |.ok f=>e = .returned (.tuple #[zM (Y4 zm yg false f),.nilIface]))/\zP w w'
def ee(s:ByteArray)(w:z8)(hs:s.size<=9223372036854775807)(z:du 3 4 w)(y:qx w)(x:Zt w)
  (i:∀f,um s.data.toList = .ok f->f.bT/\(Y4 zm yg false f).length<=10000000) :
  zC prog 14 #[.string s] w (ygy (um s.data.toList) w):=by
 have k:=Z (R6 s w hs z y);have B:=Z x;obtain⟨r,hr⟩:=zr (um s.data.toList);rw[hr]at k i|-;have t:=Z i;clear z y x i hr;go_enter func14,ntmps14;go_wp2_with fail;refine k.o.mono ?_;rintro e w1 A;cases r with
 |error en =>
  obtain⟨n,a⟩:=en;obtain⟨⟨v,b,rfl,⟨va,C,vc,rfl⟩,c0,c1⟩,d⟩:=A;have q:=Z (show zu w1 b 0 n/\zu w1 b 1 a/\yD w w w1 from⟨c0,c1,d⟩);clear c0 c1 d;go_wp2;go_ret2
  exact⟨⟨b,rfl,q.o.1,q.o.2.1⟩,q.o.2.2⟩
 |ok f =>
  obtain⟨⟨⟨a,c,vs,rfl,h,g⟩,m⟩,d⟩:=A;obtain⟨h1,h2⟩:=t.o f rfl;have u:=Z (tP (w:Nat) (w1:Nat) f a c vs w1 (B.o.below d) h g (Y _) m.msg m.wf h1 (by have:=m.len;omega) h2);have j:=Z d;clear h g m d h1 h2;go_wp2_with fail;refine u.o.mono ?_;rintro e w2 ⟨rfl,l⟩;have p:=Z (j.o.trans (l.mono j.o.size));clear l;go_wp2;go_ret2
  exact⟨rfl,p.o⟩
def zp8(r:Except (Nat×Nat) Fo)(w:z8)(e:xU)(w':z8):Prop :=
 (match r with
  |.error (n,a)=>e = .returned (.tuple #[.string ⟨#[]⟩,n,a])
  |.ok f=>e = .returned (.tuple #[zM (Y4 zm yg false f),.int .i64 0,.int .i64 0]))/\zP w w'
def Td(s:ByteArray)(w:z8)(hs:s.size<=9223372036854775807)(p:du 3 4 w)(m:qx w)(hR:JF w)(l:Zt w)
  (i:∀f,um s.data.toList = .ok f->f.bT/\(Y4 zm yg false f).length<=10000000) :
  zC prog 6 #[.string s] w (zp8 (um s.data.toList) w):=by
 have k:=Z (ee s w hs p m l i);have u:=Z hR;obtain⟨r,hr⟩:=zr (um s.data.toList);rw[hr]at k|-;clear p m l i hr hR;go_enter func6,ntmps6;go_wp2_with fail;refine k.o.mono ?_;rintro e w1 q;cases r with
 |error en =>
  obtain⟨n,a⟩:=en;obtain⟨⟨b,rfl,c0,c1⟩,c⟩:=q;have j:=Z (zlg b (n:Nat) (a:Nat) w1 (u.o.below c) c0 c1);have d:=Z c;clear c0 c1 c;go_wp2_with fail;refine j.o.mono ?_;rintro e w2 ⟨rfl,g⟩;have h:=Z (d.o.trans (g.mono d.o.size));clear g;go_wp2;refine yK (v := .tuple #[.string ⟨#[]⟩,n,a]) ?_ rfl ?_
  .simp[yN,results6,go_sem]
  exact⟨rfl,h.o⟩
 |ok f =>
  obtain⟨rfl,c⟩:=q;have j:=Z (UK w1);have d:=Z c;obtain⟨F,hF⟩:=zr (Y4 zm yg false f);rw[hF];have t:=Z hF;clear c hF;go_wp2_with fail;refine j.o.mono ?_;rintro e w2 ⟨rfl,g⟩;have h:=Z (d.o.trans (g.mono d.o.size));clear g;go_wp2;refine yK (v := .tuple #[zM F,.int .i64 0,.int .i64 0]) ?_ rfl ?_
  .simp[yN,results6,go_sem]
  refine⟨?_,h.o⟩;show _=Ending.returned (.tuple #[zM (Y4 zm yg false f),.int .i64 0,.int .i64 0]);rw[t.o]
def E8(s:ByteArray)(w:z8)(hs:s.size<=9223372036854775807)(a:gO w)(b:Zt w) :
  zC prog 6 #[.string s] w (zp8 (um s.data.toList) w) :=
 Td s w hs a.cmp.tabs.rW a.cmp.names a.cmp.tabs.err b λf h=>zoz h
def tS(s:ByteArray)(l:List Wd)(a:Option yM)(n cp:Nat)(w:z8)(hs:s.size<=9223372036854775807)(hn:l.length=n)(Zd:n<=9223372036854775807)(ht:YG w a l)(hl:∀t∈l,t.length<=9223372036854775807)(hE:gO w)(hC:Zt w) :
  zC prog 3 #[.string s,.slice a n cp] w λe w'=>e = .returned (.bool true)/\zP w w':=by
 by_cases h60:8192<s.size
 .have g1:decide (8192<(s.size:Int))=true:=decide_eq_true J;go_enter func3,ntmps3;exact A9
 have un5:s.size<=8192:=J;have g1:decide (8192<(s.size:Int))=false:=decide_eq_false J;by_cases hm:60<n
 .have g2:decide (60<(n:Int))=true:=decide_eq_true J;clear hs;go_enter func3,ntmps3;exact A9
 have g2:decide (60<(n:Int))=false:=decide_eq_false J;have un6:n<=60:=J;have V6:=Z (eF w hE);have HE:=Z (zg hE hC);have HT:=Z (zg hn (zg ht hl));clear h60 hE hC hm hn ht hl;go_enter func3,ntmps3;go_wp2_with fail;go_loop [5] (λiv=>∃i:Nat,iv = .int .i64 (i:Nat)/\i<=n/\∀t∈l.take i,t.length<=8192) (λiv=>n - (intOf iv).toNat)
 case atStart=>exact⟨0,rfl,zQ _,λt h=>xc⟩
 case round =>
  obtain⟨i,rfl,hi,LC⟩:=hrel;have H:=Z LC;clear LC;by_cases uo:i<n
  .have k2:(i:Int)<(n:Int):=(by omega);have hil:i<l.length:=(by rw[HT.o.1];exact uo);obtain⟨g,o,rfl,hc⟩:=HT.o.2.1 (λe=>by rw[e]at hil;cases hil);have b:=hc i l[i] (by simp[hil]);obtain⟨t,htt⟩:=zr (l[i]);rw[htt]at b;have P9:=Z (show l[i]? = some t by rw[zk hil,htt]);clear hc;by_cases hb:8192<t.length
   .have g3:decide (8192<((t.length:Nat):Int))=true:=decide_eq_true J;clear htt;exact A9
   .have g3:decide (8192<((t.length:Nat):Int))=false:=decide_eq_false J;clear htt;have HN:=Z (show ∀x∈l.take (i+1),x.length<=8192 by
     have xr9:i<l.length:=(by rw[HT.o.1];exact uo);intro x hx;rw[yj xr9]at hx;rcases zS.1 hx with hx|hx
     .exact H.o x hx
     .have e:=P9.o;rw[zk xr9]at e;rw[zJ.1 hx,zL e];omega)
    go_wp2;go_round
    case rel=>exact⟨i+1,uN,J,HN.o⟩
    case measure=>simp only[intOf];omega
  .obtain rfl:i=n:=(by omega);have HSM:=Z (show ∀x∈l,x.length<=8192 by
    have:=H.o;rwa [yr (by rw[HT.o.1];exact Y _)]at this)
   clear H uo hi;go_wp2_with fail;refine V6.o.mono ?_;rintro e w0 ⟨rfl,Qi⟩;have HB0:=Z Qi;clear V6 Qi;go_wp2_with fail;refine(FH w0).mono ?_;rintro e w1 ⟨⟨c,o,rfl,hc,ho⟩,qE⟩;obtain⟨ca,cn,ck,rfl⟩:=hc.slice;obtain⟨oa,on,ok,rfl⟩:=ho.slice;have hG:=eG.made (V8.mk hc ho) (HB0.o.trans (qE.mono HB0.o.size));go_wp2_with fail;generalize w1.alloc (.cells #[.slice ca cn ck,.slice oa on ok,.int .i32 45,.int .i32 46,.int .i32 44,.int .u8 3,.int .u8 0,.string ⟨#[]⟩] 26)=W at hG|-;generalize (w1:Nat)=B at hG|-;clear hc ho qE;obtain⟨r,hr⟩:=zr (um s.data.toList);have k:=E8 s W hs (HE.o.1.below hG.dG) (HE.o.2.below hG.dG);rw[hr]at k;have HR:=Z hr;have HG:=Z hG;have HCA:=Z k;clear k hr hG;refine HCA.o.mono ?_;rintro e w2 ⟨hca,qY⟩;have A:=HG.o.next qY;have m:=Ci (p:=s.data.toList) (w:=w2) Gu (HE.o.1.below A.dG).cmp (HE.o.1.below A.dG).rt A.eng;rw[show zM s.data.toList = .string s by simp[zM],HR.o]at m;have HC:=Z m;obtain⟨l0,l1,l2,l3,l4,l5,l6,l7⟩:=A.loc;have S:=Z A;clear m A qY HG HCA;cases r with
   |error x =>
    obtain⟨n1,a1⟩:=x;obtain rfl:=hca;have hn:n1≠0:=yv8 HR.o;have DX:((n1:Int)=0)=False:=yJ;go_wp2_with fail;refine HC.o.mono ?_;rintro e w3 ⟨L,rfl⟩;have HB:=Z (S.o.next L).dG;clear L HC S l0 l1 l2 l3 l4 l5 l6 l7;go_wp2;go_ret;exact⟨by first|rfl|simp[hn],HB.o⟩
   |ok f =>
    obtain rfl:=hca;have HCF:=Z (eN HR.o);go_wp2_with fail;refine HC.o.mono ?_;rintro e w3 ⟨L,P,q,g,mb,vC,vI,rs,rfl,hL⟩;have T:=Z (S.o.next L);have R:=Z hL;clear L HC S hL l0 l1 l2 l3 l4 l5 l6 l7;obtain⟨cl,QU⟩:=zr (wr false f);rw[show Y4 zm yg false f=cl from QU];rw[QU]at HCF;have HCL:=Z QU;clear QU;have E:=Lv (⟨R.o.p0,R.o.prog,R.o.YK,R.o.sh,R.o.cw⟩:sA P q mb f vC vI rs w3) (HE.o.1.below T.o.dG).cmp.Sq;have z:=Z E;clear E;go_wp2_with fail;refine z.o.mono ?_;rintro e w4 ⟨v,rfl,O,GO⟩;obtain⟨a1,a2,a3,a4⟩:=nK R.o.YK R.o.sh R.o.cw;obtain⟨V,hX⟩:=zr (qG (MkS.all f));have hXl:V.length<=1000000004/\11<=V.length:=by
     rw[<-hX,qG,zy];rw[show(j7 (Xl (jZ (MkS.all f)))).length=4 from rfl];omega
    rw[hX]at O;have HX:=Z hX;clear hX a1 a2 a3 a4;obtain⟨G,cap,rfl,-,hG0,b⟩:=xf O J;have Pf:V.length<=cap/\cap<=maxLen:=by
     rcases O.2 with⟨e,-⟩|⟨g',ry,cur,e,-,-,h1,h2,-⟩
     .cases e
     .cases e;exact⟨h1,h2⟩
    have Ml:Hb w4 ⟨G,0,none⟩ V V.length cap:=⟨λj hj=>⟨_,rfl,by rw[vS];exact(b j J).trans (by simp[gp,hj])⟩,rfl,Pf.1,Pf.2,hG0⟩;have M:zP w3 w4:=GO.low (λ_ q=>q.elim) (Y _);have d:=T.o.next M;by_cases Vj:cl.length<=1000
    .have g3:decide (((cl.length:Nat):Int)<=1000)=true:=decide_eq_true J;obtain⟨gf,Fg,I7,hg3⟩:=HCF.o Vj;have k:=E8 ⟨cl.toArray⟩ w4 (by rw[size_mk];omega) (HE.o.1.below d.dG) (HE.o.2.below d.dG);rw[show(⟨cl.toArray⟩:ByteArray).data.toList=cl from rfl,Fg]at k;obtain⟨xrz,HGF,HG4,EX,HSL,HXL⟩:=EZ k (zg Fg (zg I7 hg3)) d M Ml hXl;clear O GO b Ml M d z T hG0 hXl k Fg I7 hg3 HCF;go_wp2_with fail;refine xrz.o.mono ?_;rintro e w5 ⟨rfl,u⟩;have C:=HG4.o.next u;have m:=Ci (p:=cl) (w:=w5) J (HE.o.1.below C.dG).cmp (HE.o.1.below C.dG).rt C.eng;rw[HGF.o.1]at m;have HC:=Z m;obtain⟨l0,l1,l2,l3,l4,l5,l6,l7⟩:=C.loc;have MC:=Z u;have HG5:=Z C;clear m C u xrz;go_wp2_with fail;refine HC.o.mono ?_;rintro e w6 ⟨gT,P3,q3,g3',mb3,vC3,vI3,rs3,rfl,D⟩;have HG6:=Z (HG5.o.next gT);have HB6:=Z gT;have E:=Lv (⟨D.p0,D.prog,D.YK,D.sh,D.cw⟩:sA P3 q3 mb3 gf vC3 vI3 rs3 w6) (HE.o.1.below HG6.o.dG).cmp.Sq;rw[HGF.o.2.1,HX.o]at E;have z:=Z E;have HCE:=Z (show Y4 zm yg false gf=cl from HGF.o.2.2);rw[HCE.o];clear E D gT HC l0 l1 l2 l3 l4 l5 l6 l7;go_wp2_with fail;refine z.o.mono ?_;rintro e w7 ⟨v,rfl,PV,PI⟩;obtain⟨G7,voy,rfl,-,hG7,y⟩:=xf PV (by have:=HXL.o;omega);have Xu:zP w6 w7:=PI.low (λ_ q=>q.elim) (Y _);have U:=Z (HG6.o.next Xu);have N:zP w4 w7:=(MC.o.trans (HB6.o.mono MC.o.size)).trans (Xu.mono (MC.o.trans (HB6.o.mono MC.o.size)).size);have Q:=HSL.o.below N;have by7:yef w7 G7 0 ⟨V.toArray⟩:=λj hj=>by
      have hj2:j<V.length:=(by rw[size_mk]at hj;exact hj);rw[uE,y j J];simp[gp,hj2];rfl
     have byG:yef w7 G 0 ⟨V.toArray⟩:=λj hj=>by
      have hj2:j<V.length:=(by rw[size_mk]at hj;exact hj);obtain⟨q,e1,e2⟩:=Q.1 j hj2;cases e1;rw[vS]at e2;rw[uE];exact e2
     have vox:=LG (P:=prog) w7 34 5 9 underlying34 underlying5 underlying9 G7 0 _ by7 voy;have vov:=LG (P:=prog) w7 34 5 9 underlying34 underlying5 underlying9 G 0 _ byG cap;rw[size_mk]at vox vov;have I:=Z (Lu (HE.o.1.below U.o.dG) U.o.eng HR.o HX.o Q);have vou:=Z N;obtain⟨l0,l1,l2,l3,l4,l5,l6,l7⟩:=U.o.loc;clear PV PI y Q by7 byG Xu N z hG7 Vj;go_wp2_with fail;refine I.o.mono ?_;rintro e w8 ⟨hb8,P2,q2,g2',mb2,vC2,vI2,rs2,rfl,K⟩;have MC:=Z (U.o.next hb8);have ER:=Z (Fr.of hb8 (F:=yH));have HL2:=Z K;have Wr:=Z (((R.o.fr (Fr.of EX.o (F:=yH))).fr (Fr.of vou.o (F:=yH))).fr ER.o);have HT5:=Z (HT.o.2.1.fr (Fr.of MC.o.dG (F:=yH)));have EF:=Z (Yu (c:=cp) Wr.o (HE.o.1.below MC.o.dG).cmp.tabs.err HT5.o HT.o.1 (λt ht=>zj (HSM.o t ht) zR) J);clear hb8 K I l0 l1 l2 l3 l4 l5 l6 l7;exact zfj
    .have g3:decide (((cl.length:Nat):Int)<=1000)=false:=decide_eq_false J;have I:=Z (Lu (HE.o.1.below d.dG) d.eng HR.o HX.o Ml);obtain⟨l0,l1,l2,l3,l4,l5,l6,l7⟩:=d.loc;have HG4:=Z d;have EX:=Z M;clear O GO b Ml M d z T hG0 Vj hXl;go_wp2_with fail;refine I.o.mono ?_;rintro e w5 ⟨u,P2,q2,g2',mb2,vC2,vI2,rs2,rfl,K⟩;have MC:=Z (HG4.o.next u);have ER:=Z (Fr.of u (F:=yH));have HL2:=Z K;have Wr:=Z ((R.o.fr (Fr.of EX.o (F:=yH))).fr ER.o);have HT5:=Z (HT.o.2.1.fr (Fr.of MC.o.dG (F:=yH)));have EF:=Z (Yu (c:=cp) Wr.o (HE.o.1.below MC.o.dG).cmp.tabs.err HT5.o HT.o.1 (λt ht=>zj (HSM.o t ht) zR) J);clear u K I l0 l1 l2 l3 l4 l5 l6 l7;exact zfj
end Go.Proofs.YtpggmjffejgakaaGreatDoor
