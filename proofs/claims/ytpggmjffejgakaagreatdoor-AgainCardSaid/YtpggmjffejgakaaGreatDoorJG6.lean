import Derived.Test.YtpggmjffejgakaaGreatDoorJG5
import Derived.Deep.LoopGhost
import Derived.Lib.ItoaNum
import Derived.IntWalk
import Derived.Lib.AppendStr
import Derived.Lib.Builder
import Derived.Lib.OthersKept
import Derived.Lib.UnsafeStr
import Derived.Shelf.RegionOpenPlain
import Derived.Deep.CutBlock
import Derived.Deep.DeepCutAuto
import Derived.Lib.Replace
import Derived.Lib.TrimByte
import Derived.Shelf.GgClosure.StringsIndexFunc
set_option linter.defProp false
set_option maxHeartbeats 64000000
open Go renaming Addr->yI,Calls->zE,Ending->xX,Leaves->Ur,Oper->je,Program->Gz,TypeId->xM,Value->zx,World->z8,bodyPostD->OC,bodyPost_ret->yU,bytes->Z4,heap_alloc_new->ur,info_parts->V9,leaves_cons->kI,maxLen->vp,results->yN,run_callFunc_extern->TB,seen->xC,wp_region_noPanic->dC
open Go.Addr renaming mk->xjx
open And renaming intro->zf
open Array renaming getElem?_eq_none->jA,getElem?_eq_some_iff->yR,getElem?_modify->xc,replicate->vQ
open Go.RowKit renaming Below->yE
open Go.RowKit.Below renaming drew->qs,heap_alloc->xQ,heap_setCell->yX,refl->zu
open Bool renaming and_eq_true->zv,eq_iff_iff->xA,false_eq_true->OG,not_eq_true->bE,not_eq_true'->vA,or_eq_false_iff->zr5,or_eq_true->vW
open Go.Builtin renaming unsafeSliceData_->YT
open Classical renaming byContradiction->yy
open Go.Code renaming region->Vb
open Go.Departure renaming mixedOrders->Xb
open Go.Extern.AbiNoEscape renaming same->YW
open Go.Lib renaming Bytes->yef,run_convert_whole->LM,TabIs->YO,Utf8Tabs->Yv,byteCells->yq,cell_of_heap->yx,countFrom->fE,decDigits->zn,decodeN->kE,encodeRune->yi,encodeRuneZ->TE,frozen_of_heap->vF,hid->Z,idxFunc->Oc,idxFuncFrom->QQ,index->kH,index_ge->vz9,pow10Tab->Y1,replaceK->DQ,replaceK_hit->EF,run_from_unsafe->yeq,run_neq_ptr_same->yfq,run_noEscape->vz5,run_to_unsafe->xjz,strCells->xu7,trimB->zzq
open Go.Instr renaming makeFunc->qA,typeAssert->za
open Int renaming toNat_natCast->TX
open Go.IntKind renaming i64->vG
open Go.Lib.OthersKept renaming refl->EG
open List renaming all_cons->u7,all_eq_true->zm,all_takeWhile->Gx,append_assoc->yk,append_eq_nil_iff->xvj,append_nil->qt,cons_append->xd,count_cons_of_ne->iQ,count_cons_self->oG,dropWhile_cons_of_neg->fF,dropWhile_cons_of_pos->VU,drop_drop->Fh,drop_eq_getElem_cons->yd,drop_left->Jw,drop_of_length_le->yL,drop_zero->qW,eq_nil_of_length_eq_zero->zN,flatMap_append->yh,flatMap_cons->zh,flatMap_nil->Dl,flatten_append->wE,flatten_cons->zr8,foldl_append->TF,getD_cons_succ->FJ,getD_cons_zero->YV,getD_eq_getElem?_getD->zA,getElem?_append_left->zi,getElem?_append_right->yp,getElem?_cons_succ->qe,getElem?_cons_zero->qc,getElem?_drop->Uw,getElem?_eq_getElem->zj,getElem?_eq_none->uG,getElem?_eq_some_iff->zD,getElem?_take->OJ,getElem?_toArray->gQ,getElem_mem->yf,isEmpty->xjv,length->xJ,length_append->zy,length_cons->zY,length_drop->yr,length_map->vU,length_nil->yG,length_pos_iff->zt,length_replicate->fL,length_singleton->kX,length_tail->Us,length_take->u4,map_append->Tn,map_cons->vV,mem_append->zS,mem_cons->yV,mem_cons_of_mem->uj,mem_cons_self->qO,mem_iff_getElem->ja,mem_map->uy,mem_map_of_mem->wC,mem_of_getElem?->ze,mem_of_mem_drop->jz,mem_range->Y2,mem_reverse->Zd,mem_singleton->zG,nil_append->xV,not_mem_nil->I3,range->xH,replicate->zX,replicate_succ->qa,sum_cons->vq9,takeWhile_append_dropWhile->jy,takeWhile_cons->wB,takeWhile_cons_of_neg->kC,takeWhile_cons_of_pos->xO,takeWhile_prefix->bn,take_append_drop->fY,take_of_length_le->ye,take_succ_eq_append_getElem->yj
open List.cons renaming inj->ZZ
open Nat renaming add_assoc->uR,add_sub_cancel_left->Z7,add_zero->EK,le_of_eq->TD,le_of_lt->vZ,le_refl->Y,le_succ->dJ,le_trans->zg,lt_irrefl->qV,lt_of_lt_of_le->zC,lt_succ_self->dK,mod_eq_of_lt->VS,not_lt_zero->ZH,zero_add->uE,zero_le->zJ
open Go.NoPanic renaming normal->dG
open Go.Obj.cells renaming injEq->Tp
open Go.Oper renaming upon_value->jc,wp->j6
open Option renaming bind_some->yzj,getD_some->Vd,some->xu8
open Option.some renaming inj->zL,injEq->vr
open Go.Region renaming Mode->kD,noSelect->vK
open Go.Result renaming andThen->yt
open SizeOf renaming sizeOf->zH
open Go.Sort renaming grow->yzg
open UInt8 renaming ofNat->uZ,toNat_inj->Xf,toNat_ofNat'->Xg
open UInt8.toNat renaming inj->Y9
open Go.Utf8 renaming decode->jl,encode->Y3,runeError->TV,valid->DY
open Go.Value renaming ownBlock->yA
open Go.Value.string renaming injEq->vqz
open Go.World renaming block_lt_of_cell?->X,frozen?_setCell->zP,ownsRow_nil->xz,setCell->xu,var?->vzz
open Go.Proofs.Tryz
namespace Go.Proofs.YtpggmjffejgakaaGreatDoor
open Go Go.RowKit
set_option maxRecDepth 10000
variable{ops:Array je}{k m n q:Nat}{F F':Nat->Prop}{P:Gz}{kv tv v v':zx}{l' t:Wd}{w1 w2:z8}
def Ua{w:z8}{b:Nat}{f:Nat->Option Nat}(h:jS w b n f):gz w b=none:=by
 obtain⟨D,⟨es,a,c,rest⟩,h2⟩:=h;unfold gz;rw[c]
def UU.snoc{w:z8}{code:List uF}{rs:List (zx×zx)}{i:uF}(h:UU w code rs)(t:uk w kv i.k)(u:uk w tv i.tg)(hd:∀q,zM kv q->¬zM tv q)
  (hn:∀r∈rs,∀q,zM r.1 q\/zM r.2 q->¬(zM kv q\/zM tv q)):UU w (code++[i]) (rs++[(kv,tv)]):=by
 have p:=h.len;have key:∀(n:Nat) (r:zx×zx),(rs++[(kv,tv)])[n]? = some r->(n<rs.length/\rs[n]? = some r)\/(n=rs.length/\r=(kv,tv)):=by
  intro n r e;rw[List.getElem?_append]at e;split at e
  .exact .inl ⟨by assumption,e⟩
  .have j:=(zD.1 e).1;simp at j;have s:n=rs.length:=(by omega);subst s;simp at e;exact .inr ⟨rfl,e.symm⟩
 refine⟨by simp[p],λn i' r f j=>?_,λn m r r' f j g l=>?_⟩
 .rcases key n r j with⟨a,b⟩|⟨a,rfl⟩
  .rw[zi J]at f;exact h.k n i' r f b
  .subst a;rw[p]at f;simp at f;subst f;exact⟨t,u⟩
 .rcases key n r f with⟨a,b⟩|⟨a,rfl⟩
  .rcases key m r' j with⟨c,d⟩|⟨c,rfl⟩
   .exact h.ne n m r r' b d g l
   .have:=hn r (ze b) g (.inr l);exact⟨λq=>this (.inl q),λq=>absurd (.inr q) this⟩
  .rcases key m r' j with⟨c,d⟩|⟨c,rfl⟩
   .have o:=hn r' (ze d) g;exact⟨λq=>o (.inl q) (.inr l),λq=>absurd (.inr l) (o (.inr q))⟩
   .exact⟨λq=>hd g q l,λ_=>J⟩
def Je:∀(F:Wd) (v:Nat) (k t:List Nat),Hc F k.length t.length=true->2*t.length<=(ue F v k t).length
 |[],v,k,t,h=>by
  simp[Hc]at h;rw[h.2];simp
 |c::F,v,k,t,h=>by
  rw[Hc]at h;rw[ue];split at h
  .rename_i h1;rw[yK h1];simp only[zv,decide_eq_true_eq]at h;have:=Je F v k.tail t MJ;exact B1
  .rename_i h1;rw[yv h1];split at h
   .rename_i h2;rw[yK h2];have:=Je F v k t h;exact B1
   .rename_i h2;rw[yv h2];split at h
    .rename_i a;rw[yK a];simp only[zv,decide_eq_true_eq]at h;have:=Je F v k t.tail MJ;rw[Us]at this;rw[zy];have e:(vq (t.headD 0)).length=2:=rfl;omega
    .rename_i a;rw[yv a];simp only[zv,decide_eq_true_eq]at h;have:=Je F v [] (t.drop (k.length+1)) (by rw[yr];exact h.2);rw[yr]at this;rw[zy,zy,<-JS];omega
def znx:∀(code:List uF),(∀i∈code,cT i)->(code.map λi=>i.tg.length+1).sum<=(xF code).length
 |[],_=>zJ _
 |i::r,h=>by
  have h1:=Je _ i.v _ _ (h i (.head _)).ex;have h2:=znx r (λx hx=>h x (.tail _ hx));have e:xF (i::r)=xE i++xF r:=by simp[xF]
  rw[e,zy,vV,vq9,xE,zY];omega
def Ez{Q:Exit->Act->z8->Prop}{md:kD}{S:z8->Prop}(e:∀c a d v w,d≠some m->Q (.panic c) (a.put d v) w->Q (.panic c) a w)(hs:vK ops=true)(hd:∀(i:Nat) (o:je),ops[i]? = some o->o.dst≠some m){w:z8}(hS:S w){fuel:Nat} :
  ∀(is:List Nat) (listed:Array Bool) (a:Act),bF md ops k is listed=true ->
   takes P ops S (λa'=>qU P md ops Q S k fuel (jC listed is) a' w) is a->qU P md ops Q S k (fuel+is.length) listed a w
 |[],_,_,_,h=>h
 |i::is,listed,a,hB,⟨o,v,b,hy,h⟩=>by
  simp only[bF,zv,vA,beq_eq_false_iff_ne]at hB;rw[zY,<-uR];exact KT b (Region.noSelect_spec hs) (λc a w=>e c a o.dst v w (hd i o b)) hB.1.1.2 hB.1.2 (fuel+is.length) listed a w (Region.free_spec b hB.1.1.1.1.1) (by simpa using hB.1.1.1.1.2) (KS hB.1.1.1.2) hy hS (Ez e hs hd hS is _ _ hB.2 h)
def rkb{Q:Exit->Act->z8->Prop}{id:Nat}{l:List je}{a:Act}{w:z8}(m:Nat)(S:z8->Prop)(k:Nat)(is:List Nat)(fuel:Nat)(b:∀c a d v w,d≠some m->Q (.panic c) (a.put d v) w->Q (.panic c) a w)(hS:S w.drew)
  (h:takes P l.toArray S (λa'=>qU P .any l.toArray Q S k fuel (jC (vQ l.toArray.size false) is) a' w.drew) is a) (hm:P.follows .mixedOrders=true:=by kernel_rfl)
  (hn:(vK l.toArray && decide (l.length=fuel+is.length) && bF .any l.toArray k is (vQ l.toArray.size false) && l.all (λo=>decide (o.dst≠some m)))=true:=by kernel_rfl):(Vb id l.toArray true).wp P Q a w:=by
 simp only[zv,decide_eq_true_eq]at hn;refine wp_region_any hm (Qp (S:=S) (k:=k) _ _ _ _ ?_);have hd:∀(i:Nat) (o:je),l.toArray[i]? = some o->o.dst≠some m:=λi o ho=>by
  have:=zm.1 hn.2 o (ze Bz);simpa using this
 have h1:=Ez (Q:=Q) (md := .any) (ops:=l.toArray) b hn.1.1.1 hd hS is _ a hn.1.2 h;have h2:l.toArray.size=fuel+is.length:=by simpa using hn.1.1.2
 rw[h2];rw[h2]at h1;exact h1
def KF{fn:Func}{t1 t2:Array zx}{R:xX->z8->Prop}(h:yN fn t1=yN fn t2):∀(ds:List Deferred) (u:FrameMode) (w:z8),Ur P fn t1 R ds u w->Ur P fn t2 R ds u w
 |[],.returning,w,q=>by unfold Ur at q|-;rw[<-h];exact q
 |[],.panicking c,w,q=>q
 |[],.run,w,q=>q
 |d::ds,u,w,q=>by
  unfold Ur at q|-;obtain⟨a,i,cap,f,args,b,c,e⟩:=q;refine⟨a,i,cap,f,args,b,c,e.mono ?_⟩;intro e j w' g;cases e with
  |returned v=>exact KF h ds _ w' g
  |panicked c=>exact KF h ds _ w' g
  |outgrown=>exact g
def Sa{R:xX->z8->Prop}{c:List PanicEntry}{a:Act}{d:Option Nat}{w:z8}(hd:d≠some 2)(h:OC Tryz.prog Tryz.f32 R (.panic c) (a.put d v) w):OC Tryz.prog Tryz.f32 R (.panic c) a w:=by
 have hr:yN Tryz.f32 (a.put d v).tmps=yN Tryz.f32 a.tmps:=by
  have e:(a.put d v).tmps[2]? = a.tmps[2]? := by
   cases d with
   |none=>rfl
   |some t =>
    show(a.tmps.setIfInBounds t v)[2]? = _;rw[Array.getElem?_setIfInBounds,yv (λq=>hd (by rw[q]))]
  unfold yN;simp only[results32];simp[e]
 have ED:(a.put d v).defers=a.defers:=by cases d<;>rfl
 have h:Ur Tryz.prog Tryz.f32 (a.put d v).tmps R (a.put d v).defers (.panicking c) w:=h;rw[ED]at h;exact KF hr _ _ _ h
structure RdQ(A Q mb:Nat)(cs:List Wd)(code:List uF)(vC vI:zx)(rs:List (zx×zx))(w0 w:z8):Prop where
 a0:zk w A 0 (Q,0)
 az:w.frozen? (A,0)=false
 p:uf Q ⟨cs,code,0⟩ vC vI rs mb w
 qz:∀j,w.frozen? ⟨Q,j,none⟩=false
 tA:gz w A=some 56
 tQ:gz w Q=some 84
 lA:(w0:Nat)<=A
 lQ:(w0:Nat)<=Q
 lM:(w0:Nat)<=mb
 lC:∀q,zM vC q->(w0:Nat)<=q
 lI:∀q,zM vI q->(w0:Nat)<=q
 lR:∀r∈rs,∀q,zM r.1 q\/zM r.2 q->(w0:Nat)<=q
 dD:zR w0 w
section
variable {A Q R g mb full:Nat} {cs:List Wd} {code:List uF} {l:Wd} {vC vI:zx} {rs:List (zx×zx)} {w0 w w':z8}
def RdQ.row(h:RdQ A Q mb cs code vC vI rs w0 w){r:zx×zx}(hr:r∈rs)(c:zM r.1 q\/zM r.2 q):gz w q=some 3/\q<(w:Nat):=by
 obtain⟨n,hn,e⟩:=ja.1 hr;obtain⟨a,b⟩:=h.p.rows.k n (code[n]'(by have:=h.p.rows.len;simp only at this;omega)) r (zj _) Ls;rcases c with q|q
 .exact⟨xn a q,ug a q⟩
 .exact⟨xn b q,ug b q⟩
def RdQ.fr(h:RdQ A Q mb cs code vC vI rs w0 w)(hf:Fr F F' w w')(hF:∀q,F q->(w0:Nat)<=q/\q≠A/\q≠Q/\q≠mb/\¬zM vC q/\¬zM vI q/\gz w q≠some 3):RdQ A Q mb cs code vC vI rs w0 w':=by
 have d:¬F A:=λq=>(hF _ q).2.1 rfl
 have c:¬F Q:=λq=>(hF _ q).2.2.1 rfl
 have f:¬F mb:=λq=>(hF _ q).2.2.2.1 rfl
 have lA:=uO h.tA;have lQ:=uO h.tQ;exact⟨hf.cell h.a0 d,(hf.frozen lA d).trans h.az,⟨hf.cell h.p.q0 c,hf.cell h.p.q1 c,hf.cell h.p.q2 c,hf.own h.p.cC (λq a b=>(hF _ b).2.2.2.2.1 a),hf.own h.p.cI (λq a b=>(hF _ b).2.2.2.2.2.1 a),h.p.rows.fr hf (λq a=>(hF _ a).2.2.2.2.2.2),h.p.mp.fr hf f⟩,λj=>(hf.frozen lQ c).trans (h.qz j),
  (ym (hf.keep A lA d)).trans h.tA,(ym (hf.keep Q lQ c)).trans h.tQ,h.lA,h.lQ,h.lM,h.lC,h.lI,h.lR,h.dD.trans (hf.low (λk e=>(hF k e).1) h.dD.size)⟩
def RdQ.const(h:RdQ A Q mb cs code vC vI rs w0 w)(m:w'.ownsRow 0 9 1 v' (cs.length+1) (cs.map zO++[zO t]))(hf:Fr (zM vC) (zM v') w w') :
  RdQ A Q mb (cs++[t]) code v' vI rs w0 (w'.setCell (Q,0) v')/\Fr (λq=>zM vC q\/q=Q) (λq=>zM v' q\/q=Q) w (w'.setCell (Q,0) v'):=by
 have ty:=λq (o:zM vC q)=>xn h.p.cC o
 have r:¬zM vC A:=λq=>zqj
 have d:¬zM vC Q:=λq=>zqg
 have s:¬zM vC mb:=λq=>by have:=ty _ q;rw[Ua h.p.mp]at this;simp at this
 have nI:∀q,zM vI q->¬zM vC q:=λq a b=>by have:=ty _ b;rw[xn h.p.cI a]at this;simp at this
 have nR:∀q,zM vC q->gz w q≠some 3:=λq a b=>by rw[ty _ a]at b;simp at b
 have lA:=uO h.tA;have lQ:=uO h.tQ;have i:∀q,zM v' q->(w0:Nat)<=q:=λq a=>(hf.fp q a).elim (h.lC q) (λb=>zg h.dD.size b)
 have l:¬zM v' Q:=λq=>(hf.fp _ q).elim d J
 have f:Q≠A:=λe=>by have:=h.tA;rw[<-e,h.tQ]at this;simp at this
 have f3:Fr (λq=>zM vC q\/q=Q) (λq=>zM v' q\/q=Q) w (w'.setCell (Q,0) v'):=((hf.wide (G:=λq=>zM vC q\/q=Q) (λ_ q => .inl q)).set _ (.inl (.inr rfl))).tg (λq a=>a.elim (λb=>(hf.fp q b).imp .inl id) (λb => .inl (.inr b)));have c:¬(zM vC A\/A=Q):=λq=>q.elim r (λe=>f e.symm)
 have g:mb≠Q:=λe=>by have:=Ua h.p.mp;rw[e,h.tQ]at this;cases this
 have fs:Fr (λq=>q=Q) (λq=>q=Q) w' (w'.setCell (zQ Q 0) v'):=(Fr.refl _ _).set _ (.inl rfl);refine⟨⟨f3.cell h.a0 c,(f3.frozen lA c).trans h.az,⟨xq (hf.cell h.p.q0 d) _,?_,?_,?_,f3.own h.p.cI (λq a b=>b.elim (nI q a) (λe=>by have:=xn h.p.cI a;rw[e,h.tQ]at this;simp at this)),h.p.rows.fr f3 (λq a=>a.elim (nR q) (λe=>by rw[e,h.tQ];simp)),h.p.mp.fr f3 (λq=>q.elim s g)⟩,λj=>?_,
  (ym (f3.keep A lA c)).trans h.tA,?_,h.lA,h.lQ,h.lM,i,h.lI,h.lR,h.dD.trans (f3.low (λk n=>n.elim (h.lC k) (λe=>by rw[e];exact h.lQ)) h.dD.size)⟩,f3⟩
 .rw[zr,yv zV];exact hf.cell h.p.q1 d
 .rw[zr,yv zV];exact hf.cell h.p.q2 d
 .have:=fs.own m (λq a b=>l (b▸a));simpa using this
 .rw[zP];exact(hf.frozen lQ d).trans (h.qz j)
 .rw[qJ];exact(ym (hf.keep Q lQ d)).trans h.tQ
def Se(code:List uF)(i:uF):∀n,n<=code.length->qp (code++[i]) n=qp code n
 | 0,_=>rfl
 |n+1,h=>by
  funext x;rw[qp,qp,Se code i n J,zi J]
def tu(code:List uF)(i:uF):qp (code++[i]) (code++[i]).length=λx=>if i.pos=x then some code.length else qp code code.length x:=by
 funext x;rw[zy,kX,qp,Se code i _ (Y _)];simp
def RdQ.more{i:uF}(h:RdQ A Q mb cs code vC vI rs w0 w)(c:uk w kv i.k)(z:uk w tv i.tg)(hd:∀q,zM kv q->¬zM tv q)(o:∀q,zM kv q\/zM tv q->(w0:Nat)<=q)
  (hn:∀r∈rs,∀q,zM r.1 q\/zM r.2 q->¬(zM kv q\/zM tv q)) (hm:jS w1 mb (code.length+1) (λx=>if i.pos=x then some code.length else qp code code.length x)) (h1:w.grownBy w1 (some mb))
  (y:w2.ownsRow 0 87 5 v' (code.length+1) (dN code rs++JU i (kv,tv))) (h2:Fr (zM vI) (zM v') w1 w2) :
  RdQ A Q mb cs (code++[i]) vC v' (rs++[(kv,tv)]) w0 (w2.setCell (Q,1) v')/\Fr (λq=>q=mb\/zM vI q\/q=Q) (λq=>q=mb\/zM v' q\/q=Q) w (w2.setCell (Q,1) v'):=by
 have f1:Fr (λk=>k=mb) (λk=>k=mb) w w1:=⟨h1.os,h1.tape,h1.output,h1.size,λk c hn=>h1.block k c (λe=>hn (zL e)),λ_ q => .inl q⟩;have f2:Fr (λq=>q=mb\/zM vI q) (λq=>q=mb\/zM v' q) w w2 :=
  ⟨h2.os.trans f1.os,h2.tape.trans f1.tape,h2.output.trans f1.output,zg f1.size h2.size,λk c hn=>(h2.keep k (zC c f1.size) (λq=>hn (.inr q))).trans (f1.keep k c (λq=>hn (.inl q))),λk q=>q.elim (λq => .inl (.inl q)) (λq=>(h2.fp k q).imp .inr (zg f1.size))⟩
 have f3:Fr (λq=>q=mb\/zM vI q\/q=Q) (λq=>q=mb\/zM v' q\/q=Q) w (w2.setCell (Q,1) v') :=
  ((f2.wide (G:=λq=>q=mb\/zM vI q\/q=Q) (λ_ q=>q.elim .inl (λq => .inr (.inl q)))).set _ (.inl (.inr (.inr rfl)))).tg (λq a=>by
   rcases a with a|a|a
   .exact .inl (.inl a)
   .exact(f2.fp q (.inr a)).imp (λb=>b.elim .inl (λb => .inr (.inl b))) id
   .exact .inl (.inr (.inr a)))
 have ty:=λq (l:zM vI q)=>xn h.p.cI l
 have tM:=Ua h.p.mp;have v:¬(A=mb\/zM vI A):=λq=>q.elim (λe=>by rw[<-e,h.tA]at tM;cases tM) (λq=>zqj)
 have f:¬(Q=mb\/zM vI Q):=λq=>q.elim (λe=>by rw[<-e,h.tQ]at tM;cases tM) (λq=>zqg)
 have m:A≠Q:=λe=>by have:=h.tA;rw[e,h.tQ]at this;simp at this
 have d:¬(A=mb\/zM vI A\/A=Q):=λq=>q.elim (λa=>v (.inl a)) (λq=>q.elim (λa=>v (.inr a)) m)
 have lA:=uO h.tA;have lQ:=uO h.tQ;have nC:∀q,zM vC q->¬(q=mb\/zM vI q\/q=Q):=λq a b=>by
  have t:=xn h.p.cC a;exact zv9
 have u:∀q,(q=mb\/zM vI q\/q=Q)->gz w q≠some 3:=λq b t=>zv9
 have s:¬zM v' Q:=λq=>(h2.fp _ q).elim (λq=>f (.inr q)) (λq=>by have:=f1.size;omega)
 have B:∀q,zM v' q->q≠mb:=λq a e=>(h2.fp _ a).elim (λb=>by have:=ty q b;rw[e,tM]at this;cases this) (λb=>by have:=h.p.mp.lt;have:=f1.size;omega)
 have fs:Fr (λq=>q=Q) (λq=>q=Q) w2 (w2.setCell (Q,1) v'):=(Fr.refl _ _).set _ (.inl rfl);have n:mb≠Q:=λe=>f (.inl e.symm)
 have g:∀q,zM v' q->(w0:Nat)<=q:=λq a=>(h2.fp q a).elim (h.lI q) (λb=>zg h.dD.size (zg f1.size b))
 refine⟨⟨f3.cell h.a0 d,(f3.frozen lA d).trans h.az,⟨?_,xq (f2.cell h.p.q1 f) _,?_,f3.own h.p.cC nC,?_,?_,?_⟩,λj=>?_,(ym (f3.keep A lA d)).trans h.tA,?_,h.lA,h.lQ,h.lM,h.lC,g,λr hr q l=>?_,h.dD.trans (f3.low (λk c=>?_) h.dD.size)⟩,f3⟩
 .rw[zr,yv zV];exact f2.cell h.p.q0 f
 .rw[zr,yv zV];exact f2.cell h.p.q2 f
 .have e:dN (code++[i]) (rs++[(kv,tv)])=dN code rs++JU i (kv,tv):=Bw _ _ _ _ h.p.rows.len;have:=fs.own y (λq a b=>s (b▸a));simp only[zy,kX];rw[e];exact this
 .exact(h.p.rows.snoc c z hd hn).fr f3 u
 .have:=(hm.fr h2 (λq=>by have:=ty _ q;rw[tM]at this;cases this)).fr fs n;simp only;rw[tu,zy,kX];exact this
 .rw[zP];exact(f2.frozen lQ f).trans (h.qz j)
 .rw[qJ];exact(ym (f2.keep Q lQ f)).trans h.tQ
 .rcases zS.1 hr with a|a
  .exact h.lR r a q l
  .rw[zG]at a;subst a;exact o q l
 .rcases c with c|c|c
  .rw[c];exact h.lM
  .exact h.lI k c
  .rw[c];exact h.lQ
structure Ey(A Q R g mb:Nat)(cs:List Wd)(code:List uF)(l:Wd)(full:Nat)(vC vI:zx)(rs:List (zx×zx))(w0 w:z8):Prop where
 q:RdQ A Q mb cs code vC vI rs w0 w
 rd:ES w R g l
 r1:zk w R 1 full
 rz:full=0->w.frozen? (R,1)=false
 tR:gz w R=some 155
 lR:(w0:Nat)<=R
 G6:g<(w0:Nat)
def Ey.nR(h:Ey A Q R g mb cs code l full vC vI rs w0 w):(w0:Nat)<=R/\R≠A/\R≠Q/\R≠mb/\¬zM vC R/\¬zM vI R/\gz w R≠some 3:=by
 refine⟨h.lR,λe=>?_,λe=>?_,λe=>?_,λe=>?_,λe=>?_,by rw[h.tR];simp⟩
 .have:=h.tR;rw[e,h.q.tA]at this;simp at this
 .have:=h.tR;rw[e,h.q.tQ]at this;simp at this
 .have:=h.tR;rw[e,Ua h.q.p.mp]at this;cases this
 .have:=h.tR;rw[xn h.q.p.cC e]at this;simp at this
 .have:=h.tR;rw[xn h.q.p.cI e]at this;simp at this
def Ey.read(h:Ey A Q R g mb cs code l full vC vI rs w0 w)(hr:ES w' R g l')(hf:FrR R w w'):Ey A Q R g mb cs code l' full vC vI rs w0 w' :=
 ⟨h.q.fr hf.GZ (λq e=>by subst e;exact h.nR),hr,hf.r1.trans h.r1,λe=>hf.z1.trans (h.rz e),hf.tp.trans h.tR,h.lR,h.G6⟩
def Ey.same(h:Ey A Q R g mb cs code l full vC vI rs w0 w)(hf:Fr yH F' w w'):Ey A Q R g mb cs code l full vC vI rs w0 w' :=
 ⟨h.q.fr hf (λq e=>e.elim),h.rd.fr hf id id,hf.cell h.r1 id,λe=>(hf.frozen (uO h.tR) id).trans (h.rz e),(ym (hf.keep R (uO h.tR) id)).trans h.tR,h.lR,h.G6⟩
def Ey.const(h:Ey A Q R g mb cs code l full vC vI rs w0 w)(a:w'.ownsRow 0 9 1 v' (cs.length+1) (cs.map zO++[zO t]))(hf:Fr (zM vC) (zM v') w w') :
  Ey A Q R g mb (cs++[t]) code l full v' vI rs w0 (w'.setCell (Q,0) v'):=by
 obtain⟨b,f⟩:=h.q.const a hf;have nR:¬(zM vC R\/R=Q):=λq=>q.elim h.nR.2.2.2.2.1 h.nR.2.2.1
 have c:¬(zM vC g\/g=Q):=λq=>by
  have:=h.G6;rcases q with q|q
  .have:=h.q.lC g q;omega
  .have:=h.q.lQ;omega
 exact⟨b,h.rd.fr f nR c,f.cell h.r1 nR,λe=>(f.frozen (uO h.tR) nR).trans (h.rz e),(ym (f.keep R (uO h.tR) nR)).trans h.tR,h.lR,h.G6⟩
def Ey.more{i:uF}(h:Ey A Q R g mb cs code l full vC vI rs w0 w)(c:uk w kv i.k)(j:uk w tv i.tg)(hd:∀q,zM kv q->¬zM tv q)(a:∀q,zM kv q\/zM tv q->(w0:Nat)<=q)
  (hn:∀r∈rs,∀q,zM r.1 q\/zM r.2 q->¬(zM kv q\/zM tv q)) (hm:jS w1 mb (code.length+1) (λx=>if i.pos=x then some code.length else qp code code.length x)) (h1:w.grownBy w1 (some mb))
  (b:w2.ownsRow 0 87 5 v' (code.length+1) (dN code rs++JU i (kv,tv))) (h2:Fr (zM vI) (zM v') w1 w2) :
  Ey A Q R g mb cs (code++[i]) l full vC v' (rs++[(kv,tv)]) w0 (w2.setCell (Q,1) v'):=by
 obtain⟨d,f⟩:=h.q.more c j hd a hn hm h1 b h2;have nR:¬(R=mb\/zM vI R\/R=Q):=λq=>q.elim h.nR.2.2.2.1 (λq=>q.elim h.nR.2.2.2.2.2.1 h.nR.2.2.1)
 have m:¬(g=mb\/zM vI g\/g=Q):=λq=>by
  have:=h.G6;rcases q with q|q|q
  .have:=h.q.lM;omega
  .have:=h.q.lI g q;omega
  .have:=h.q.lQ;omega
 exact⟨d,h.rd.fr f nR m,f.cell h.r1 nR,λe=>(f.frozen (uO h.tR) nR).trans (h.rz e),(ym (f.keep R (uO h.tR) nR)).trans h.tR,h.lR,h.G6⟩
def Ey.xng(h:Ey A Q R g mb cs code l full vC vI rs w0 w)(hr:ES w' R g l')(hf:Fr (· = R) F' w w')(h1:w'.cell? (R,1)=w.cell? (R,1))(h2:gz w' R=gz w R)(h0:full≠0):Ey A Q R g mb cs code l' full vC vI rs w0 w' :=
 ⟨h.q.fr hf (λq e=>by subst e;exact h.nR),hr,h1.trans h.r1,λe=>absurd e h0,h2.trans h.tR,h.lR,h.G6⟩
def Ey.vm0{f2:Nat}(h:Ey A Q R g mb cs code l 0 vC vI rs w0 w):Ey A Q R g mb cs code l f2 vC vI rs w0 (w.setCell (R,1) (f2:Nat)):=by
 have f:Fr (λq=>q=R) (λq=>q=R) w (w.setCell (R,1) f2):=(Fr.refl _ _).set _ (.inl rfl);obtain⟨⟨b,cap,c0,h1,h2,hb,a⟩,c,fz⟩:=h.rd;refine⟨h.q.fr f (λq e=>by subst e;exact h.nR),⟨⟨b,cap,?_,h1,h2,hb.fr f (λd e q=>by cases e;exact c (a.symm.trans q)),a⟩,c,?_⟩,xq h.r1 _,?_,?_,h.lR,h.G6⟩
 .exact zdg
 .rw[zP];exact fz
 .intro _;rw[zP];exact h.rz rfl
 .rw[qJ];exact h.tR
end
variable{A c:Nat}{u:zx}{W w w':z8}
def YQ(l:Wd)(w:z8)(e:xX)(w':z8):Prop :=
 (match qd l with
  |none=>e = .returned (.pointer none)
  |some (cs,code)=>∃Q vC vI rs mb,e = .returned (.pointer (some ⟨Q,0,none⟩))/\uf Q ⟨cs,code,0⟩ vC vI rs mb w'/\(w:Nat)<=Q)/\zR w w'
def znv(cs:List Wd)(l2:Wd):Option (List Wd×List uF) :=
 match uQ 2 l2 with
 |none=>none
 |some (full,l3)=>if full=l3.length/\full≠0 then (match dz full l3.length l3 with|none=>none|some code=>if fg cs code=true then some (cs,code)else none)else none
def znu{l:Wd}(h:NP l=false):qd l=match uQ 2 (He l) with|none=>none|some (m,a)=>match bS m [] a with|none=>none|some (cs,b)=>znv cs b:=by
 unfold qd Su;rw[h];simp only[OG,if_false];cases uQ 2 (He l) with
 |none=>rfl
 |some p =>
  obtain⟨m,a⟩:=p;simp only;cases bS m [] a with
  |none=>rfl
  |some p =>
   obtain⟨cs,b⟩:=p;simp only[znv];cases uQ 2 b with
   |none=>rfl
   |some p =>
    obtain⟨full,c⟩:=p;simp only;by_cases hf:full=c.length/\full≠0
    .rw[yK hf,yK hf];cases dz full c.length c<;>rfl
    .rw[yv hf,yv hf]
def qg.dD(h:qg w)(hb:zR w w'):qg w':=λop a=>(hb.cell (X _ _ (h op a))).trans (h op a)
def znq{b:z8}{b3:yI}{k4 c3:Nat}{z:Wd}(hA:zk b A 0 (.pointer none))(K:b.frozen? (A,0)=false)(tA:gz b A=some 56)(o:(w:Nat)<=A)(hb:zR w b)
  (I:z.length=k4) (hc:k4<=c3) (hm:c3<=vp) (s:jL b (some b3) z) (y:b3.block<(w:Nat)) :
  Ey A ((b:Nat)+1) ((b:Nat)+2) b3.block (b:Nat) [] [] z 0 (.slice none 0 0) (.slice none 0 0) [] w
   ((((b.alloc (.map #[] 0)).alloc (.cells #[.slice none 0 0,.slice none 0 0,.map (some (b:Nat))] 84)).setCell (A,0) ((b:Nat)+1,0)).alloc (.cells #[.slice (some b3) k4 c3,.int .i64 0] 155)):=by
 have t:=uO tA;have x:=hb.size;obtain⟨B,hB⟩:=zw (b:Nat);obtain⟨l,k⟩:=zw (b.alloc (.map #[] 0));have sm:(l:Nat)=B+1:=by rw[<-k];simp[hB]
 have fm:Fr yH yH b l:=by rw[<-k];exact(Fr.refl _ _).alloc _
 have M:jS l B 0 (λ_=>none):=by rw[<-k,<-hB];exact jS.made b
 obtain⟨h,d⟩:=zw (l.alloc (.cells #[.slice none 0 0,.slice none 0 0,.map (some B)] 84));have sq:(h:Nat)=B+2:=by rw[<-d];simp[sm]
 have E:Fr yH yH l h:=by rw[<-d];exact(Fr.refl _ _).alloc _
 have u:=λj=>zZ l #[.slice none 0 0,.slice none 0 0,.map (some B)] 84 (0,0) j
 have zq:∀j,h.frozen? ⟨B+1,j,none⟩=false:=by intro j;rw[<-d,<-sm];simp
 have tq:gz h (B+1)=some 84:=by rw[<-d,<-sm];exact bN _ _ _
 rw[d,sm]at u;rw[k,hB,d];obtain⟨f,c⟩:=zw (h.setCell (zQ A 0) (zQ (B+1) 0));have g:=fm.trans E;have fa:Fr (λq=>q=A) (λq=>q=A) h f:=by rw[<-c];exact(Fr.refl _ _).set _ (.inl rfl)
 have D:(f:Nat)=B+2:=by rw[<-c,<-sq];simp[xu]
 have F:∀a,f.frozen? a=h.frozen? a:=λa=>by rw[<-c,zP]
 have ta:∀q,gz f q=gz h q:=λq=>by rw[<-c,qJ]
 have ca:zk f A 0 (zQ (B+1) 0):=by rw[<-c];exact xq (g.cell hA id) _
 rw[c];have fr:Fr yH yH f (f.alloc (.cells #[.slice (some b3) k4 c3,.int .i64 0] 155)):=(Fr.refl _ _).alloc _;have v:=λj=>zZ f #[.slice (some b3) k4 c3,.int .i64 0] 155 (0,0) j
 have tr:gz (f.alloc (.cells #[.slice (some b3) k4 c3,.int .i64 0] 155)) (B+2)=some 155:=by rw[<-D];exact bN _ _ _
 have G:∀j,(f.alloc (.cells #[.slice (some b3) k4 c3,.int .i64 0] 155)).frozen? ⟨B+2,j,none⟩=false:=by intro j;rw[<-D];simp
 rw[D]at v;have C:¬B+1=A:=J;have H:¬B=A:=J;have L:A<(h:Nat):=J;have p:yE w w (f.alloc (.cells #[.slice (some b3) k4 c3,.int .i64 0] 155)):=(hb.trans (g.low (λ_ q=>q.elim) x)).trans ((fa.low (λq e=>by rw[e];exact o) J).trans (fr.low (λ_ q=>q.elim) J));refine⟨⟨fr.cell ca id,(fr.frozen (show A<_ by omega) id).trans ((F _).trans ((g.frozen t id).trans K)),⟨fr.cell (fa.cell (u 0) C) id,fr.cell (fa.cell (u 1) C) id,fr.cell (fa.cell (u 2) C) id,xz _ _ _ _,xz _ _ _ _,⟨rfl,λn i r _ e=>(by simp at e),λn m r r' e=>(by simp at e)⟩,((M.fr E id).fr fa H).fr fr id⟩,λj=>(fr.frozen (show B+1<_ by omega) id).trans ((F _).trans (zq j)),
  (ym (fr.keep A J id)).trans ((ta A).trans ((ym (g.keep A t id)).trans tA)),(ym (fr.keep (B+1) J id)).trans ((ta _).trans tq),o,J,J,λq e=>(by cases e),λq e=>(by cases e),λr hr=>(by simp at hr),p⟩,⟨⟨b3,c3,by rw[I];exact v 0,J,hm,?_,rfl⟩,J,G 0⟩,v 1,λ_=>G 1,tr,J,y⟩
 exact((s.fr g (λ_ _=>id)).fr fa (λN e q=>by cases e;omega)).fr fr (λ_ _=>id)
def Kc{l:Wd}{a:List PanicEntry}{tm:Array zx}(hA:(w:Nat)=A)(ha:zk W A 0 u)(d:W.frozen? (A,0)=false)(c:a.dropWhile (!·.goexit)=[])(hb:zR w W)(hR:qd l=none)(b:tm[2]? = some (.pointer (A,0)):=by rfl) :
  OC Tryz.prog Tryz.f32 (YQ l w) (.panic ({ v := .iface 149 (.agg #[]),recovered:=false }::a)) { tmps:=tm,defers:=[{ target := .fn (.func 55) #[(A,0)],args:=#[] }] } W:=by
 subst hA;refine kI (f:=55) (args:=#[(zQ (w:Nat) 0)]) zV kO ?_;refine(O8 (w:Nat) u a W ha d).mono ?_;rintro e g VQ ⟨rfl,rfl,hc,hf⟩;simp[Ur,settle,yN,results32,go_sem,hc,c,b];unfold YQ;rw[hR];exact⟨rfl,hb.trans (hf.low (λq e=>by rw[e];exact Y _) hb.size)⟩
def zyx{l:Wd}{tm:Array zx}(hA:(w:Nat)=A)(ha:zk W A 0 u)(hR:∀VQ,zR W VQ->YQ l w (.returned u) VQ)(a:tm[2]? = some (.pointer (A,0)):=by rfl) :
  OC Tryz.prog Tryz.f32 (YQ l w) .ret { tmps:=tm,defers:=[{ target := .fn (.func 55) #[(A,0)],args:=#[] }] } W:=by
 subst hA;refine kI (f:=55) (args:=#[(w,0)]) zV kO ?_;refine(Bg (w:Nat) _).mono ?_;rintro e b VQ ⟨rfl,rfl,hb⟩;have hc:zk VQ (w:Nat) 0 u:=(hb.cell (X _ _ ha)).trans ha;simp[Ur,settle,yN,results32,go_sem,hc,a];exact hR VQ hb
def eP{b:yI}{l:Wd}(h:Ho w b l n c)(yjq:NP l=false)(hFO:qg w) :
  zE Tryz.prog 32 #[.slice (some b) n c] w (YQ l w):=by
 have uh:∀x,(w:Nat)=x->b.block<x:=λx e=>e▸h.lt
 have hf0:Fr yH yH w (w.alloc (.cells #[.pointer none] 56)):=(Fr.refl _ _).alloc _;have hA:=λj=>zZ w #[.pointer none] 56 (0,0) j
 have wR:(w.alloc (.cells #[.pointer none] 56)).frozen? (w,0)=false:=zV;have Z0:(w.alloc (.cells #[.pointer none] 56)).heap.size=(w:Nat)+1:=zV;obtain⟨W,hcv,hfW,hcW⟩:=CN (w.alloc (.cells #[.pointer none] 56));have c0:zk W (w:Nat) 0 (.pointer none):=hfW.cell (hA 0) id;have z0:W.frozen? (zQ (w:Nat) 0)=false:=(hfW.frozen (show (w:Nat)<_ by omega) id).trans wR;have hfr:=hf0.trans hfW;have tA0:gz W (w:Nat)=some 56:=(ym (hfW.keep (w:Nat) J id)).trans (bN _ _ _);have HC:=Z (SR (b:=⟨(w.alloc (.cells #[.pointer none] 56)).heap.size,0,none⟩) (h.at_.fr hfr (λ_ _=>id)) (λj hj=>⟨_,rfl,hcW j _ (by simp[gp,hj])⟩) h.len h.le h.cap);rw[Z0]at HC hcv;have HH:=Z (zf h (zf yjq hFO));have HF:=Z hfr;clear h yjq hFO hf0 hA wR hfW hcW hfr uh;go_enter_defers func32,ntmps32;go_wp2_with fail;refine HC.o.mono ?_;rintro e w1 ⟨rfl,rfl⟩;have Vs:=Z (zf c0 (zf z0 tA0));have hgd:qF.isPrefixOf l=true/\¬65535<n/\¬n<7/\fB (l.drop (n - 4))=Xh (l.take (n - 4)):=by
  have h:=HH.o.2.1;unfold NP at h;rw[HH.o.1.len]at h;simp only[zr5,decide_eq_false_iff_not,Decidable.not_not,Bool.not_eq_false']at h;exact⟨h.1.1.1,h.1.1.2,h.1.2,h.2⟩
 obtain⟨hp,h1,h7,hsm⟩:=hgd;rw[yK hp];have h3:3<=n:=J;obtain⟨k,hk⟩:=zw (n - 3);rw[hk];clear hp;have h1i:¬(65535:Int)<(n:Int):=J;have h2:¬k<4:=J;have h2i:¬(k:Int)<4:=J;obtain⟨wW,Z9,hle,LW,hlb⟩:=HH.o.1;have IK:k<=c - 3:=J;have gN:¬c - 3=k - 4:=J;have h44:k - (k - 4)=4:=J;have OO:=wW.fr HF.o (λ_ _=>id);have e4:(l.drop 3).drop (k - 4)=l.drop (n - 4):=by rw[Fh];congr 1;omega
 have hbT:jL W (some ((BV b 3 c).add (k - 4))) (l.drop (n - 4)):=zjy;have uS:(l.drop (n - 4)).length=4:=FC;have hfa:Fr yH yH W (W.alloc (.cells #[.slice (some ((BV b 3 c).add (k - 4))) 4 (c - 3 - (k - 4)),.int .i64 0] 155)):=(Fr.refl _ _).alloc _;have L:ES (W.alloc (.cells #[.slice (some ((BV b 3 c).add (k - 4))) 4 (c - 3 - (k - 4)),.int .i64 0] 155)) (W:Nat) b.block (l.drop (n - 4)):=zd2;have A2:=OO.take (n - 4);have IG:=KX (l:=l.drop (n - 4)) J;have Mt:=JP (l.take (n - 4));obtain⟨W1,H9⟩:=zw (W.alloc (.cells #[.slice (some ((BV b 3 c).add (k - 4))) 4 (c - 3 - (k - 4)),.int .i64 0] 155));rw[H9]at hfa L;have HN:=Z (NS (w:=W1.drew) (n:=4) (show ES W1.drew (W:Nat) b.block (l.drop (n - 4)) from⟨L.ex,L.ne,L.fz⟩) J zW);rw[ye (TD uS)]at HN;have HFA:=Z hfa;have aY:=Z (zf A2 (show(l.take (n - 4)).length=n - 4 by rw[u4];omega));have hn4:n - 4<=2000000000:=J;have hlo:=UM b n (n - 4) c J hle LW;have Ta:((n - 4:Nat):Int)=(n:Int) - 4:=J;rw[Ta]at hlo;clear wW Z9 hle LW hlb OO e4 hbT uS hfa L A2 HC;go_wp2_with fail;have hu:IntKind.u32.wrap ((fB (l.drop (n - 4)):Nat):Int)=(fB (l.drop (n - 4)):Nat):=by rw[IntKind.wrap_u32'];omega
 obtain⟨N,hNe⟩:=zw (fB (l.drop (n - 4)));obtain⟨S,hSe⟩:=zw (Xh (l.take (n - 4)));rw[hNe]at HN hu hsm;rw[hSe]at hsm;have HSE:=Z hSe;subst hsm;clear IG Mt H9 hNe hSe hcv c0 z0 tA0 Z0;have EP:vG.wrap ((n:Int) - 4)=(n:Int) - 4:=Yq;have hwt:((n:Int) - 4).toNat=n - 4:=J;have hw0:(0:Int)<=(n:Int) - 4:=J;have hwc:(n:Int) - 4<=(c:Int):=by have:=HH.o.1.le;omega
 refine dC ?_;refine Vy (λ_=>True) [0,3,4,5,6,7] 4 trivial ?_;refine gU 1 (λu d=>?_);go_simp;refine HN.o.mono ?_;rintro e W2 ⟨rfl,-,ZL⟩;have hfn:Fr yH (λx=>x=(W:Nat)) W W2:=HFA.o.tr ZL.und (λq H=>by subst H;exact .inr (Y _));have HS:=Z (λ(c:Nat)=>NR (cap:=c) (aY.o.1.fr hfn (λ_ _=>id)) aY.o.2 hn4);rw[HSE.o]at HS;have HFN:=Z (HF.o.trans hfn);have XY:=hfn.cell Vs.o.1 id;have EE:=(hfn.frozen (X _ _ Vs.o.1) id).trans Vs.o.2.1;have tA2:=(ym (hfn.keep (w:Nat) (X _ _ Vs.o.1) id)).trans Vs.o.2.2;refine d.out _ _ trivial λ_=>?_
 clear d u HN ZL hfn;refine Ve [2] 2 trivial ?_;refine gU 8 (λu d=>?_);go_simp;refine(HS.o _).mono ?_;rintro e W3 ⟨rfl,rfl⟩;refine d.out _ _ trivial λ_=>?_
 clear d u HS;refine Ve [9] 0 trivial ?_;refine Y5 ?_ _;refine dG ?_;obtain⟨wW,Z9,hle,LW,hlb⟩:=HH.o.1;have dE:jL W2 (some (BV b 3 c)) (He l):=by
  unfold He;rw[Z9];exact((wW.fr HFN.o (λ_ _=>id)).drop (n:=3) J).take (n - 7)
 have hl0:(He l).length=k - 4:=by unfold He;rw[u4,yr,Z9];omega
 have HP:=znq (w:=w) (k4:=k - 4) (c3:=c - 3) XY EE tA2 (Y _) (HFN.o.low (λ_ q=>q.elim) (Y _)) hl0 J J dE (by rw[Qv];exact hlb);rw[Qv]at HP;have DL:=yu (yu XY (.map #[] 0)) (.cells #[.slice none 0 0,.slice none 0 0,.map (some (W2:Nat))] 84);have hz4:((W2.alloc (.map #[] 0)).alloc (.cells #[.slice none 0 0,.slice none 0 0,.map (some (W2:Nat))] 84)).frozen? (zQ (w:Nat) 0)=false :=
  ((((Fr.refl yH W2).alloc (.map #[] 0)).alloc (.cells #[.slice none 0 0,.slice none 0 0,.map (some (W2:Nat))] 84)).frozen (a:=(w,0)) (X _ _ XY) id).trans EE
 obtain⟨W9,hW9⟩:=zw (((((W2.alloc (.map #[] 0)).alloc (.cells #[.slice none 0 0,.slice none 0 0,.map (some (W2:Nat))] 84)).setCell (zQ (w:Nat) 0) (zQ ((W2:Nat)+1) 0)).alloc (.cells #[.slice (some (BV b 3 c)) (k - 4) (c - 3),.int .i64 0] 155)));rw[hW9]at HP;have xnf:=UM (BV b 3 c) k (k - 4) (c - 3) J J J;rw[show((k - 4:Nat):Int)=(k:Int) - 4 by omega]at xnf;have Ew:=@run_makeMap Tryz.prog;have HPR:=Z HP;have E:=Z (znu HH.o.2.1);have HBL:=Z Z9;have hkw:vG.wrap ((k:Int) - 4)=(k:Int) - 4:=by rw[IntKind.wrap_i64];omega
 have HW9:=Z hW9;clear hW9 XY EE wW Z9 hle LW hlb dE hl0 HP HFN hlo hu EP hwt hw0 hwc hn4 Ta HSE tA2;go_wp2_with fail;rw[HW9.o];have hp:=HPR.o;obtain⟨R,hR⟩:=zw ((W2:Nat)+1+1);obtain⟨Q,hQ⟩:=zw ((W2:Nat)+1);obtain⟨M,hM⟩:=zw (W2:Nat);obtain⟨A,hA⟩:=zw (w:Nat);obtain⟨L0,hL0⟩:=zw (He l);rw[show (W2:Nat)+2=(W2:Nat)+1+1 from rfl,hR,hQ,hM,hA,hL0]at hp;rw[hL0]at E;have HAe:=Z hA;rw[hR];try rw[hQ]
 try rw[hM]
 try rw[hA]
 have D:=Z hp;have HN:=Z (fh hp.rd 2 zW);clear hp HPR HW9 hR hQ hM hA hL0 xnf Ew hkw DL hz4 aY HFA HF Vs;refine HN.o.mono ?_;rintro e W3 ⟨H,hf⟩;cases uB:uQ 2 L0 with
 |none =>
  rw[uB]at H E;obtain⟨B,rfl,ho⟩:=H;have HO:=Z ho;have HB:=Z (show qd l=none from E.o);have oe:=Z hf;have ha3:=hf.cell D.o.q.a0 (λe=>D.o.nR.2.1 e.symm);have Th:=(hf.frozen (a:=(zQ A 0)) (X _ _ D.o.q.a0) (λe=>D.o.nR.2.1 e.symm)).trans D.o.q.az;have dE:=D.o.q.dD.trans (hf.low (λq e=>by rw[e];exact D.o.lR) D.o.q.dD.size);have HB3:=Z dE;clear HN uB hf ho E dE;go_wp2;exact Kc HAe.o ha3 Th HO.o HB3.o HB.o
 |some p =>
  obtain⟨m,l1⟩:=p;rw[uB]at H E;obtain⟨rfl,hr3⟩:=H;have HP3:=Z (D.o.read hr3 hf);clear hr3 hf HN;have umy:m<=65535:=by
   have:=(fK uB).2;omega
  go_wp2_with fail;go_loopw [58] (λiv wr=>∃(i:Nat) (cs:List Wd) (l2:Wd) (vC:zx),iv = .int .i64 i/\i<=m/\cs.length=i/\Ey A Q R b.block M cs [] l2 0 vC (.slice none 0 0) [] w wr/\bS (m - i) cs l2=bS m [] l1/\∀c∈cs,c.length<=1000) (λiv _=>m - (intOf iv).toNat)
  case atStart=>exact⟨0,[],l1,_,rfl,zJ _,rfl,HP3.o,rfl,λc hc=>by cases hc⟩
  case round =>
   obtain⟨i,cs,l2,vC,rfl,him,QM,hp,hrc,IH⟩:=hrel;have HCS:=Z IH;clear IH;by_cases uh:i<m
   .have vm2:(i:Int)<(m:Int):=(by omega);have hmi:m - i=(m - (i+1))+1:=J;rw[hmi]at hrc;have HP:=Z hp;have HN:=Z (fh hp.rd 2 zW);have HC:=Z hrc;clear hp hrc hmi;go_wp2_with fail;refine HN.o.mono ?_;rintro e W4 ⟨H,hf⟩;cases DD:uQ 2 l2 with
    |none =>
     rw[DD]at H;obtain⟨B,rfl,ho⟩:=H;have HO:=Z ho;have HB:=Z (show qd l=none by rw[E.o,<-HC.o,bS,DD]);exact ydz
    |some p =>
     obtain⟨n1,C⟩:=p;rw[DD]at H;obtain⟨rfl,Eh⟩:=H;have U:=Z (HP.o.read Eh hf);have HC4:=Z (show(if n1<=1000/\n1<=C.length then bS (m - (i+1)) (cs++[C.take n1]) (C.drop n1)else none)=bS m [] l1 by rw[<-HC.o,bS,DD]);clear Eh hf HN DD HC;by_cases DI:n1<=1000
     .have vm3:¬(1000:Int)<(n1:Int):=(by omega);have a4:=U.o.q.a0;have q4:=U.o.q.p.q0;have RO:=U.o.same (Fr.refl yH W4).drew;by_cases IG:n1<=C.length
      .obtain⟨HC5,HT,HPD,HLT⟩:=hdd (show bS (m - (i+1)) (cs++[C.take n1]) (C.drop n1)=bS m [] l1 by rw[<-HC4.o,yK ⟨DI,IG⟩]) (Sy RO.rd IG) RO (show(C.take n1).length=n1 by rw[u4];omega);clear RO HC4 IG HP;go_wp2_with fail;refine rkb 2 (λW':z8=>zk W' A 0 (zQ Q 0)/\zk W' Q 0 vC) 13 [0,1,2,3,4,5,6] 7 (λ_ _ _ _ _ hd h=>Sa hd h) ⟨a4,q4⟩ ?_;(iterate 7 (refine ty ?_;try simp only[pl]))
       refine yW ?_;refine dF 7 (λu d=>?_);go_simp;refine HT.o.mono ?_;rintro e W5 ⟨⟨b5,c5,rfl,hby⟩,hr5,OA⟩;have f:=HPD.o.read hr5 OA;have hcv:=run_convert_bytes_back (P:=Tryz.prog) W5 34 9 5 b5 c5 (C.take n1) underlying34 underlying5 underlying9 (λj hj=>by obtain⟨b',e,h⟩:=hby j hj;cases e;exact h);rw[HLT.o]at hcv;refine d.out _ _ ⟨f.q.a0,f.q.p.q0⟩ λ_=>?_
       clear d u hby hr5 OA;refine dF 8 (λu d=>?_);go_simp;refine d.out _ _ ⟨f.q.a0,f.q.p.q0⟩ λ_=>?_
       clear d u hcv;refine dF 9 (λu d=>?_);go_simp;refine d.out _ _ ⟨yu f.q.a0 _,yu f.q.p.q0 _⟩ λ_=>?_
       clear d u;refine dF 10 (λu d=>?_);rw[yK xG];change j6 _ _ _ (W5.alloc (.cells [_].toArray _)) _ _
       refine jZ fX [_] 1 f.q.p.cC (by show cs.length+1<=_;omega) ?_;intro v2 W7 DN PN;have nA:¬zM vC A:=λq=>by have:=xn f.q.p.cC q;rw[f.q.tA]at this;simp at this
       have nQ:¬zM vC Q:=λq=>by have:=xn f.q.p.cC q;rw[f.q.tQ]at this;simp at this
       have a7:=PN.cell f.q.a0 nA;have q7:=PN.cell f.q.p.q0 nQ;have z7:W7.frozen? (Q,0)=false:=(PN.frozen (a:=(Q,0)) (uO f.q.tQ) nQ).trans (f.q.qz 0);obtain⟨va,vc,rfl⟩:=zo DN;have h7:=f.const (t:=C.take n1) DN PN;simp only[QM]at h7;have HP7:=Z h7;clear DN PN nA nQ f h7;refine d.out _ _ ⟨a7,q7⟩ λ_=>?_
       clear d u;refine dF 11 (λu d=>?_);go_simp;refine d.out _ _ ⟨a7,q7⟩ λ_=>?_
       clear d u;refine dF 12 (λu d=>?_);go_simp;refine d.out _ _ ⟨a7,q7⟩ λ_=>?_
       clear d u;refine D0 13 (λu d=>?_);go_simp;refine d.out _ _ ?_;clear d u;refine D1 ?_ _;clear a7 q7 z7 a4 q4 HT HPD U;go_wp2;go_roundw
       case rel=>exact⟨i+1,cs++[C.take n1],C.drop n1,_,uN,J,by simp[QM],HP7.o,HC5.o,λc hc=>by
        rcases zS.1 hc with q|q
        .exact HCS.o c q
        .rw[zG]at q;rw[q,HLT.o];exact DI⟩
       case measure=>simp only[intOf];omega
      .have HB:=Z (show qd l=none by rw[E.o,<-HC4.o,yv (λq=>IG q.2)]);have HT:=Z (CI RO.rd IG J);have ha3:=RO.q.a0;have Th:=RO.q.az;have HB3:=Z RO.q.dD;clear RO IG HP;go_wp2_with fail;refine rkb 2 (λW':z8=>zk W' A 0 (zQ Q 0)/\zk W' Q 0 vC) 13 [0,1,2,3,4,5,6] 7 (λ_ _ _ _ _ hd h=>Sa hd h) ⟨a4,q4⟩ ?_;(iterate 7 (refine ty ?_;try simp only[pl]))
       refine yW ?_;refine dF 7 (λu d=>?_);go_simp;refine HT.o.mono ?_;rintro e W5 ⟨⟨B,rfl,ho⟩,rfl⟩;show OC Tryz.prog Tryz.f32 (YQ l w) (.panic (_::B)) _ _;exact Kc HAe.o ha3 Th ho HB3.o HB.o
     .have vm3:(1000:Int)<(n1:Int):=(by omega);have HB:=Z (show qd l=none by rw[E.o,<-HC4.o,yv (λq=>DI q.1)]);have a4:=U.o.q.a0;have az4:=U.o.q.az;have HE:=Z (xq a4 (.pointer none));have EC:=Z (U.o.q.dD.setCell (show (w:Nat)<=(xjx A 0 none).block from U.o.q.lA) (.pointer none));clear DI HC4;exact iC
   .have vm2:¬(i:Int)<(m:Int):=(by omega);have hmi:m - i=0:=J;rw[hmi]at hrc;have HRF:=Z (show qd l=znv cs l2 by rw[E.o,<-hrc,bS]);have HP:=Z hp;have HN:=Z (fh hp.rd 2 zW);clear hp hrc hmi E HP3 uB D QM;go_wp2_with fail;refine HN.o.mono ?_;rintro e W4 ⟨H,hf⟩;cases DD:uQ 2 l2 with
    |none =>
     rw[DD]at H;obtain⟨B,rfl,ho⟩:=H;have HO:=Z ho;have HB:=Z (show qd l=none by rw[HRF.o,znv,DD]);exact ydz
    |some p =>
     obtain⟨full,C⟩:=p;rw[DD]at H;obtain⟨rfl,Eh⟩:=H;have Rt:=HP.o.read Eh hf;have hfl:full<65536:=(fK DD).2;have r1:=Rt.r1;have rz:=Rt.rz rfl;have I:=Z (Rt.vm0 (f2:=full));have HRG:=Z (show qd l=(if full=C.length/\full≠0 then (match dz full C.length C with|none=>none|some code=>if fg cs code=true then some (cs,code)else none)else none)by rw[HRF.o,znv,DD]);clear Rt Eh hf HN DD HRF;obtain⟨W6,O⟩:=zw (W4.setCell (zQ R 1) full);have HW6:=Z O;rw[O]at I;clear O;go_wp2_with fail;rw[HW6.o];obtain⟨rb,rc,c0,vm4,vm5,-⟩:=I.o.rd.ex;obtain⟨N3,hN3⟩:=zw C.length;rw[hN3]at c0;have c1:=I.o.r1;have a5:=I.o.q.a0;have z5:=I.o.q.az;have HN3:=Z hN3;rw[hN3]at HRG;clear hN3 vm4 vm5 r1 rz;have Nv:full=N3/\full≠0\/(full≠N3\/full=N3/\full=0):=J;rcases Nv with⟨Q6,ZL⟩|yjq
     .subst Q6;have e2:((full:Int)=0)=False:=(by simp;omega);have e3:((full:Int)==0)=false:=yF;have HRI:=Z (show qd l=(match dz full full C with|none=>none|some code=>if fg cs code=true then some (cs,code)else none)by rw[HRG.o,yK ⟨rfl,ZL⟩]);clear HRG;refine dC ?_;refine Vy (λW':z8=>zk W' R 0 (.slice (some rb) full rc)/\zk W' R 1 full) [0,1,2,3,4,5,6,7,8,9,10,11,12,13,14,15,16] 0 ⟨c0,c1⟩ ?_;refine Y5 ?_ _;refine dG ?_;have K:=Z (I.o.same (Fr.refl yH W6).drew);have OW:full<=65535:=J;clear c0 c1 a5 z5 I e2 e3 hfl HW6;go_wp2_with fail;go_loopg [] full (λfu wr2=>∃(code:List uF) (l4:Wd) (vI:zx) (rs:List (zx×zx)),Ey A Q R b.block M cs code l4 full vC vI rs w wr2/\l4.length<=fu/\code.length+fu<=full/\dz full full C=(dz full fu l4).map (λc=>code++c))
      case atStart=>exact⟨[],C,_,[],K.o,by rw[HN3.o];exact Y _,zV,zV⟩
      case round =>
       obtain⟨code,l4,vI,rs,hp,hl4,hcf,hri⟩:=hrel;have HP:=Z hp;obtain⟨b4,k4,c0,hk1,hk2,-⟩:=hp.rd.ex;have L:=Z hri;cases l4 with
       |nil =>
        have HRE:=Z (show dz full full C=some code by rw[hri];cases gk<;>simp[dz]);obtain⟨d1,d2,-⟩:=Ly full full C code (by rw[HN3.o];exact OW) (by rw[HN3.o];exact Y _) HRE.o;have hct:tgN code<=65535:=by
         have:=znx code d2;rw[<-d1,HN3.o]at this;exact zg this OW
        have HVF:=Z (O1 (s:=⟨cs,code,0⟩) hp.q.p d2 (HH.o.2.2.dD hp.q.dD) HCS.o (by show code.length<=65535;omega) (by show tgN code<=1000000;omega));have a0:=hp.q.a0;have az:=hp.q.az;clear hp hk1 hk2 hri L d1 d2 hct;go_wp2_with fail;refine HVF.o.mono ?_;rintro e W8 ⟨rfl,hf8⟩;have T:=Z (HP.o.same hf8);clear hf8 HVF a0 az c0;have a0:=T.o.q.a0;have az:=T.o.q.az;cases hv:fg cs code
        .have HB:=Z (show qd l=none by rw[HRI.o,HRE.o];show(if fg cs code=true then _ else none)=none;rw[hv];rfl);have HE:=Z (xq a0 (.pointer none));have EC:=Z (T.o.q.dD.setCell (show (w:Nat)<=(xjx A 0 none).block from T.o.q.lA) (.pointer none));clear hv;exact iC
        .have HB:=Z (show qd l=some (cs,code)by rw[HRI.o,HRE.o];show(if fg cs code=true then some (cs,code)else none)=_;rw[hv];rfl);clear hv;go_wp2;try rw[Fk a0]
         refine zyx HAe.o a0 (λVQ hb=>?_);unfold YQ;rw[HB.o];exact⟨⟨Q,vC,vI,rs,M,rfl,T.o.q.p.fr (Fr.of (F:=yH) hb),T.o.q.lQ⟩,T.o.q.dD.trans (hb.mono T.o.q.dD.size)⟩
       |cons c l5 =>
        have PK:(0:Int)<((l5.length+1:Nat):Int):=J;have HN:=Z (yju (full:=full) hp.rd hp.r1 (by have:=hp.rd.ex;omega) J (HH.o.2.2.dD hp.q.dD) (zC hp.G6 hp.q.dD.size));have y:∃g1,gk=g1+1:=⟨gk - 1,by simp only[zY]at hl4;omega⟩;obtain⟨g1,rfl⟩:=y;clear hp hk1 hk2 hri;go_wp2_with fail;refine HN.o.mono ?_;rintro e W5 ⟨H,hf⟩;cases hx:Ym full (c::l5) with
        |none =>
         rw[hx]at H;obtain⟨B,rfl,ho⟩:=H;have HO:=Z ho;have HB:=Z (show qd l=none by rw[HRI.o,L.o,dz,hx];rfl);have ha3:=hf.cell HP.o.q.a0 (λe=>HP.o.nR.2.1 e.symm);have Th:=(hf.frozen (a:=(zQ A 0)) (X _ _ HP.o.q.a0) (λe=>HP.o.nR.2.1 e.symm)).trans HP.o.q.az;have HB3:=Z (HP.o.q.dD.trans (hf.low (λq e=>by rw[e];exact HP.o.lR) HP.o.q.dD.size));clear HN hx hf ho;go_wp2;exact Kc HAe.o ha3 Th HO.o HB3.o HB.o
        |some p =>
         obtain⟨x,l6⟩:=p;rw[hx]at H;obtain⟨⟨kv,tv,rfl,hk,ht,V,hlo⟩,hr5,DJ,TR⟩:=H;obtain⟨kva,kvb,kvc,rfl⟩:=jt hk;obtain⟨tva,tvb,tvc,rfl⟩:=jt ht;have f:=HP.o.xng hr5 hf DJ TR ZL;have HX:=Z hx;obtain⟨hpe,-,hpx⟩:=Sv (by simp only[zY]at hl4|-;omega) hx;have Pg:l6.length<=g1:=by
          have h1:=congrArg xJ hpe;have h2:=S0 x;rw[zy]at h1;omega
         have znk:∀q,zM (.slice kva kvb kvc) q\/zM (.slice tva tvb tvc) q->(w:Nat)<=q:=λq a=>zg HP.o.q.dD.size (hlo q a)
         have hdj:∀r∈rs,∀q,zM r.1 q\/zM r.2 q->¬(zM (.slice kva kvb kvc) q\/zM (.slice tva tvb tvc) q):=λr hr q a bq=>by
          have:=(HP.o.q.row hr a).2;have:=hlo q bq;omega
         have BZ:=Z (show dz full full C=(dz full g1 l6).map (λc=>(code++[x])++c)by rw[L.o,dz,hx];simp[Function.comp_def]);obtain⟨W6',O⟩:∃W',W5.alloc (.cells #[x.op,x.pos,x.v,.slice kva kvb kvc,.slice tva tvb tvc] 87)=W':=⟨_,rfl⟩;have f56:Fr yH yH W5 W6':=(by rw[<-O];exact(Fr.refl _ _).alloc _);have ci:=λj=>zZ W5 #[x.op,x.pos,x.v,.slice kva kvb kvc,.slice tva tvb tvc] 87 (0,0) j
         rw[O]at ci;have z:=f.same f56;have hk6:=f56.own hk (λ_ _=>id);have ht6:=f56.own ht (λ_ _=>id);obtain⟨ia,ic,rfl⟩:=zo z.q.p.cI;have hpu:=(z.q.p.mp.keep (w':=W6'.drew) rfl).put x.pos J code.length J (by show code.length<=_;omega);obtain⟨w1,hpu,Q9,y⟩:=hpu;have a6:=z.q.a0;have q61:=z.q.p.q1;have q62:=z.q.p.q2;have hI6:=z.q.p.cI;have fm:Fr (· = M) (· = M) W6' w1:=⟨y.os,y.tape,y.output,y.size,λk hk hn=>y.block k hk (λe=>hn (zL e)),λ_ q => .inl q⟩;have RZ:(wr:Nat)<=(W5:Nat):=hf.size;have s5:(W5:Nat)≠M:=(by have:=f.q.p.mp.lt;omega);have i0:=fm.cell (ci 0) s5;have i1:=fm.cell (ci 1) s5;have i2:=fm.cell (ci 2) s5;have i3:=fm.cell (ci 3) s5;have i4:=fm.cell (ci 4) s5;have tM:=Ua z.q.p.mp;have aM:A≠M:=λe=>by have:=z.q.tA;rw[e,tM]at this;cases this
         have qM:Q≠M:=λe=>by have:=z.q.tQ;rw[e,tM]at this;cases this
         have vM:∀g,zM (.slice ia code.length ic) g->g≠M:=λg a e=>by have:=xn hI6 a;rw[e,tM]at this;cases this
         have a7:=fm.cell a6 aM;have q71:=fm.cell q61 qM;have q72:=fm.cell q62 qM;have hI7:=fm.own hI6 vM;have HG6:=Z (show W6'.grownBy w1 (some M) from⟨y.os,y.tape,y.output,y.size,y.block⟩);have K:=Z (zf z (zf hk6 (zf ht6 (zf V (zf znk (zf hdj (zf Q9 Pg)))))));have HI7:=Z hI7;have c61:=ci 1;simp only[gQ,qe,qc]at c61 i0 i1 i2 i3 i4;clear hr5 DJ TR HN hx c0 hpx Pg znk hdj f56 ci z hk6 ht6 f hk ht V hlo hI6 hI7 y fm tM Q9 hf;go_wp2_with fail;try rw[O]
         have sz6:(W6':Nat)=(W5:Nat)+1:=(by rw[<-O];simp);have HS6:=Z (zf sz6 RZ);clear O sz6 hpe RZ;obtain⟨T8,hT8⟩:=zw (W5:Nat);rw[hT8]at c61 i0 i1 i2 i3 i4 s5 HS6;try rw[hT8]
         clear hT8;refine dC ?_;refine Vy (λW':z8=>zk W' A 0 (zQ Q 0)/\zk W' Q 1 (.slice ia code.length ic)/\zk W' Q 2 (.map (some M))/\zk W' T8 1 x.pos) [0,1,2,3,4,5,6,7,8,9,10] 1 ⟨a6,q61,q62,c61⟩ ?_;refine gU 11 (λu d=>?_);go_simp;refine d.out _ _ ⟨a7,q71,q72,i1⟩ λ_=>?_
         clear d u;refine Y5 ?_ _;refine dG ?_;clear a6 q61 q62 c61 hpu;go_wp2_with fail;refine dC ?_;refine Dp (λW':z8=>zk W' A 0 (zQ Q 0)/\zk W' Q 1 (.slice ia code.length ic)/\zk W' T8 0 x.op/\zk W' T8 1 x.pos/\zk W' T8 2 x.v/\zk W' T8 3 (.slice kva kvb kvc)/\zk W' T8 4 (.slice tva tvb tvc)) 10 [0,1,2,3,4,5] 5 ⟨a7,q71,i0,i1,i2,i3,i4⟩ ?_;refine dF 6 (λu d=>?_);go_simp;refine d.out _ _ ⟨yu (show w1.drew.cell? _=_ from a7) _,yu (show w1.drew.cell? _=_ from q71) _,yu (show w1.drew.cell? _=_ from i0) _,yu (show w1.drew.cell? _=_ from i1) _,yu (show w1.drew.cell? _=_ from i2) _,yu (show w1.drew.cell? _=_ from i3) _,yu (show w1.drew.cell? _=_ from i4) _⟩ λ_=>?_
         clear d u;refine dF 7 (λu d=>?_);rw[yK xG];change j6 _ _ _ (w1.drew.alloc (.cells [_,_,_,_,_].toArray _)) _ _
         refine jZ Rq [_,_,_,_,_] 1 (HI7.o:w1.drew.ownsRow _ _ _ _ _ _) (by show code.length+1<=_;omega) ?_;intro v2 w2 DN xo6;have G:=xo6.und;have nA:¬zM (.slice ia code.length ic) A:=λq=>by have:=xn K.o.1.q.p.cI q;rw[K.o.1.q.tA]at this;simp at this
         have nQ:¬zM (.slice ia code.length ic) Q:=λq=>by have:=xn K.o.1.q.p.cI q;rw[K.o.1.q.tQ]at this;simp at this
         have nT:¬zM (.slice ia code.length ic) T8:=λq=>by have:=ug HP.o.q.p.cI q;have:=HS6.o.2;omega
         have fm:Fr (· = M) (· = M) W6' w1:=⟨HG6.o.os,HG6.o.tape,HG6.o.output,HG6.o.size,λk hk hn=>HG6.o.block k hk (λe=>hn (zL e)),λ_ q => .inl q⟩;have lQ1:Q<(w1:Nat):=X _ _ q71;have z2:w2.frozen? (Q,1)=false:=(G.frozen (a:=(Q,1)) lQ1 nQ).trans ((fm.frozen (a:=(Q,1)) (uO K.o.1.q.tQ) qM).trans (K.o.1.q.qz 1));obtain⟨h6,hk6,ht6,V,znk,hdj,Q9,Pg⟩:=K.o;have HM:=Z (zf (h6.more hk6 ht6 V znk hdj Q9 HG6.o DN G) Pg);obtain⟨v2a,v2c,rfl⟩:=zo DN;have b0:=G.cell a7 nA;have b1:=G.cell q71 nQ;have j0:=G.cell i0 nT;have j1:=G.cell i1 nT;have j2:=G.cell i2 nT;have j3:=G.cell i3 nT;have j4:=G.cell i4 nT;clear h6 hk6 ht6 V znk hdj Q9 Pg DN xo6 G nA nQ nT fm lQ1 i0 i1 i2 i3 i4 a7 q71 q72;refine d.out _ _ ⟨b0,b1,j0,j1,j2,j3,j4⟩ λ_=>?_
         clear d u;refine dF 8 (λu d=>?_);go_simp;refine d.out _ _ ⟨b0,b1,j0,j1,j2,j3,j4⟩ λ_=>?_
         clear d u;refine dF 9 (λu d=>?_);go_simp;refine d.out _ _ ⟨b0,b1,j0,j1,j2,j3,j4⟩ λ_=>?_
         clear d u;refine D0 10 (λu d=>?_);go_simp;refine d.out _ _ ?_;clear d u;refine D1 ?_ _;refine dG ?_;clear b0 b1 j0 j1 j2 j3 j4 z2;go_wp2;go_roundg g1
         case rel=>exact⟨code++[x],l6,_,_,HM.o.1,HM.o.2,by rw[zy,kX];omega,BZ.o⟩
         case measure=>omega
     .have HB:=Z (show qd l=none by rw[HRG.o,yv J]);have HE:=Z (xq (show W6.drew.cell? (zQ A 0)=_ from a5) (.pointer none));have EC:=Z ((show yE w w W6.drew from I.o.q.dD.drew).setCell (show (w:Nat)<=(xjx A 0 none).block from I.o.q.lA) (.pointer none));rcases yjq with Q6|⟨Q6,ZL⟩
      .have e1:((full:Int)=(N3:Int))=False:=(by simp;omega);have e3:((full:Int)==(N3:Int))=false:=yF;have e4:((full:Int) !=(N3:Int))=true:=yF;have e5:decide ((full:Int)=(N3:Int))=false:=yF;refine dC ?_;refine Vy (λW':z8=>zk W' R 0 (.slice (some rb) N3 rc)/\zk W' R 1 full) [0,1,2,3,4,5,6,7,8,9,10,11,12,13,14,15,16] 0 ⟨c0,c1⟩ ?_;refine Y5 ?_ _;refine dG ?_;exact iC
      .subst Q6 ZL;refine dC ?_;refine Vy (λW':z8=>zk W' R 0 (.slice (some rb) 0 rc)/\zk W' R 1 (.int .i64 0)) [0,1,2,3,4,5,6,7,8,9,10,11,12,13,14,15,16] 0 ⟨c0,c1⟩ ?_;refine Y5 ?_ _;refine dG ?_;exact iC
def td{b:yI}{l:Wd}(h:Ho w b l n c)(a:qg w) :
  zE Tryz.prog 32 #[.slice (some b) n c] w (YQ l w):=by
 cases hb:NP l with
 |true =>
  refine(sw h hb).mono ?_;rintro e w' ⟨rfl,d⟩;refine⟨?_,d⟩;have:qd l=none:=by unfold qd Su;rw[hb];rfl
  rw[this]
 |false=>exact eP h hb a
variable{f:Fo}{gr mi po:Int}{dg:List UInt8}{s:MkS}{fi mb:Nat}{cv ov vC vI:zx}
structure tZ(P q g mb:Nat)(s:MkS)(vC vI:zx)(rs:List (zx×zx))(mi po gr:Int)(fi ne:Nat)(dg:List UInt8)(cv ov:zx)(w:z8):Prop where
 p0:zk w P 0 (q,0)
 p1:zk w P 1 (g,0)
 prog:uf q s vC vI rs mb w
 gl:g<(w:Nat)
 loc:Hd w g mi po gr fi ((if ne=0 then fi else ne:Nat):Int) (xk (Jy dg))
 g0:zk w g 0 cv
 g1:zk w g 1 ov
def tZ.below{P g:Nat}{rs:List (zx×zx)}{ne:Nat}(h:tZ P q g mb s vC vI rs mi po gr fi ne dg cv ov w)(hb:zR w w'):tZ P q g mb s vC vI rs mi po gr fi ne dg cv ov w':=yb7
def tZ.all{P g:Nat}{rs:List (zx×zx)}{ne:Nat}(h:tZ P q g mb ⟨(MkS.all f).cs,(MkS.all f).code,n⟩ vC vI rs mi po gr fi ne dg cv ov w):CA P q g mb f vC vI rs mi po gr fi ne dg cv ov w :=
 ⟨h.p0,h.p1,⟨h.prog.q0,h.prog.q1,h.prog.q2,h.prog.cC,h.prog.cI,h.prog.rows,h.prog.mp⟩,h.gl,h.loc,h.g0,h.g1⟩
def yck(kn:Bool)(r:Option (List Wd×List uF))(mi po gr:Int)(fi ne:Nat)(dg:List UInt8)(Qc Qo:z8->zx->Prop)(er:Nat->zx)(w:z8)(e:xX)(w':z8):Prop :=
 zR w w' /\
 if kn=false then e = .returned (.tuple #[.pointer none,er 8])
 else match r with
  |none=>e = .returned (.tuple #[.pointer none,er 14])
  |some (cs,code)=>∃P q g mb vC vI rs cv ov,e = .returned (.tuple #[.pointer (some ⟨P,0,none⟩),er 0])/\tZ P q g mb ⟨cs,code,0⟩ vC vI rs mi po gr fi ne dg cv ov w'/\(∀W,zR w' W->Qc W cv)/\∀W,zR w' W->Qo W ov
def tY{b:yI}{l:Wd}(c o:zx)(ra rb:Bool)(mi po gr:Int)(fi ne:Nat)(dg:ByteArray)(v x:z8->zx->Prop)(w:z8)(hd:dg.size<=1000000)(y:fi<=255)(z:ne<=255)
  (hc:ql w c ra v) (E:ql w o rb x) (j:(∃a n k,c = .slice a n k)/\∃a n k,o = .slice a n k) (B:Zr w) (D:Ho w b l n k) :
  zE Tryz.prog 18 #[.slice (some b) n k,Hb c o mi po gr fi ne dg] w (yck (xl ra rb mi po gr fi ne dg.data.toList) (qd l) mi po gr fi ne dg.data.toList v x (λn=>if n=0 then .nilIface else cX n) w):=by
 obtain⟨G,I,u,A,H⟩:=G0 hc E j B D;clear hc E j B D;go_enter func18,ntmps18;go_wp2_with fail;refine yw ?_;intro W hW;have hb:zR w W:=QB;clear hW;refine(Cd c o ra rb mi po gr fi ne dg v x W hd y z (G.o.later hb) (I.o.later hb) u.o (A.o.below hb).tabs.rr).mono ?_;rintro e w1 ⟨qI,Dx⟩;have XR:zR w w1:=hb.trans (qI.mono hb.size);obtain⟨M,h⟩:=zw (xl ra rb mi po gr fi ne dg.data.toList);rw[h]at Dx;have oH:=Z h;clear h;cases M
 .exact zjg
 .rw[yK rfl]at Dx;obtain⟨g,cv,ov,rfl,K,FD,C,c0,c1,s,t⟩:=Dx;obtain⟨HX,HQC,HQO,HC0,HC1⟩:=G0 C s t c0 c1;clear C s t hb qI c0 c1;obtain⟨r,hr⟩:=zw (qd l);have d:=Z (td (H.o.below XR) (A.o.below XR).Sg);unfold YQ at d;rw[hr]at d;have HR:=Z hr;clear hr;go_wp2_with fail;refine d.o.mono ?_;rintro e w2 ⟨F,f⟩;have QK:=XR.trans (f.mono XR.size);clear d;cases r with
  |none =>
   obtain rfl:=F;clear f;go_wp2;go_ret2
   exact Ak
  |some p =>
   obtain⟨cs,code⟩:=p;obtain⟨q,vC,vI,rs,mb,rfl,m,L⟩:=F;have HPA:=Z m;clear m;go_wp2;go_ret2
   have LW:=λi=>zZ w2 #[(q,0),(g,0)] 59 (0,0) i
   have Ke:yE w2 w2 (w2.alloc (.cells #[(zQ q 0),(zQ g 0)] 59)):=(zu _ _).alloc (Y _) _;have LA:=f.trans (Ke.mono f.size);have yiy:Fr yH yH w1 _:=Fr.of LA;refine⟨QK.trans (Ke.mono QK.size),?_⟩;exact ydq
def tX{b:yI}{l:Wd}(c o:zx)(ra rb:Bool)(mi po gr:Int)(fi ne:Nat)(dg:ByteArray)(y z:z8->zx->Prop)(w:z8)(hd:dg.size<=1000000)(A:fi<=255)(B:ne<=255)
  (hc:ql w c ra y) (F:ql w o rb z) (s:(∃a n k,c = .slice a n k)/\∃a n k,o = .slice a n k) (D:Zr w) (E:Ho w b l n k) :
  zE Tryz.prog 9 #[.slice (some b) n k,Hb c o mi po gr fi ne dg] w (yck (xl ra rb mi po gr fi ne dg.data.toList) (qd l) mi po gr fi ne dg.data.toList y z (λn => .int .i64 (n:Nat)) w):=by
 obtain⟨G,I,x,C,H⟩:=G0 hc F s D E;clear hc F s D E;go_enter func9,ntmps9;go_wp2_with fail;refine yw ?_;intro W hW;have hb:zR w W:=QB;clear hW;refine(tY c o ra rb mi po gr fi ne dg y z W hd A B (G.o.later hb) (I.o.later hb) x.o (C.o.below hb) (H.o.below hb)).mono ?_;rintro e w1 ⟨i,f⟩;have d:zR w w1:=hb.trans (i.mono hb.size);have h:=C.o.below d;obtain⟨L,m⟩:=zw (xl ra rb mi po gr fi ne dg.data.toList);rw[m]at f;have oH:=Z m;clear m;cases L
 .rw[yK rfl]at f;subst f;have j:=Z (Cg 8 w1 h.tabs.err);clear hb i h;go_wp2_with fail;refine j.o.mono ?_;rintro e w2 ⟨rfl,qX⟩;have QK:=d.trans (qX.mono d.size);clear j qX;go_wp2;go_ret2
  refine⟨QK,?_⟩;rw[yK oH.o];rfl
 .rw[yv zV]at f;obtain⟨r,hr⟩:=zw (qd l);rw[hr]at f;have HR:=Z hr;clear hr;cases r with
  |none =>
   subst f;have j:=Z (Cg 14 w1 h.tabs.err);clear hb i h;go_wp2_with fail;refine j.o.mono ?_;rintro e w2 ⟨rfl,qX⟩;have QK:=d.trans (qX.mono d.size);clear j qX;go_wp2;go_ret2
   exact Ak
  |some p =>
   obtain⟨cs,code⟩:=p;obtain⟨P,q,g,mb,vC,vI,rs,cv,ov,rfl,t,u,v⟩:=f;have j:=Z (UI w1);have K:=Z t;have HQ:=Z (zf u v);clear hb i h t u v;go_wp2_with fail;refine j.o.mono ?_;rintro e w2 ⟨rfl,qX⟩;have QK:=d.trans (qX.mono d.size);have iO:=Z (K.o.below qX);clear j;go_wp2;go_ret2
   exact yb4
variable{l:List UInt8}{i j:Nat}{msg:Option jJ}
def gY(rs:List Int)(i:Nat):Nat:=((rs.take i).flatMap enc).length
section
variable {rs:List Int}
def tV(h:i<rs.length):gY rs (i+1)=gY rs i+(enc (yz rs i)).length:=by
 unfold gY;rw[yj h,yh,zy];have e:yz rs i=rs[i]:=zu8;rw[e];simp
def fU(h:i<=j):gY rs i<=gY rs j:=by
 unfold gY;have e:rs.take i=(rs.take j).take i:=by rw[List.take_take,Nat.min_eq_left h]
 rw[e];have:=fY i (rs.take j);conv=>rhs;rw[<-this,yh,zy]
 omega
def znj(i n:Nat):gY rs (i+n)=gY rs i+(((rs.drop i).take n).flatMap enc).length:=by
 unfold gY;rw[List.take_add,yh,zy]
def Fj:∀(n:Nat) (l:List Int),l.length<=n->((xg l).1.flatMap enc).length<=((l.take (xg l).2).flatMap enc).length
 | 0,l,h=>zfd
 |n+1,[],h=>Au
 |n+1,c::t,h=>by
  rw[xg.eq_def];simp only;split
  .next hc =>
   split
   .simp
   .next d u =>
    split
    .next hd =>
     have:=Fj n u GV;rw[hc,hd];exact zg5
    .simp
  .have:=Fj n t GV;exact zg5
def zng(h:yz rs i≠-1):i<rs.length:=yy λq=>h (by unfold yz;simp[zA,uG (Nat.le_of_not_lt q)])
def znf{num:Bool}(h:yz rs i≠-1):(qq rs num i).1.length+gY rs i<=gY rs (qq rs num i).2:=by
 have hi:=zng h;have h1:=tV hi;unfold qq;split
 .show(enc (yz rs i)).length+gY rs i<=gY rs (i+1);omega
 .next a =>
  have a:yz rs i=39:=Classical.not_not.1 a;rw[a]at h1;split
  .have:=fU (rs:=rs) (show i+1<=i+2 by omega);show(enc 39).length+gY rs i<=gY rs (i+2);omega
  split
  .show(enc 39).length+gY rs i<=gY rs (i+1);omega
  .have h2:=Fj _ (rs.drop (i+1)) (Y _);have b:=znj (rs:=rs) (i+1) (xg (rs.drop (i+1))).2;show((xg (rs.drop (i+1))).1.flatMap enc).length+gY rs i<=gY rs (i+1+(xg (rs.drop (i+1))).2);omega
end
def Si(rs:List Int)(m:jJ):Prop:=∀num i f j,m num i = .ok (f,j)->f.tb+gY rs i<=gY rs j
def Fo.xyk(f:Fo)(t:Wd):(f.yn t).tb<=f.tb+t.length:=by
 cases a:f.xD with
 |none =>
  rw[qv f t a,Fo.fP];exact GK
 |some s =>
  obtain⟨pre,h1,h2,b⟩:=vo f s a;rw[b,Fo.fP,show f.tb=(pre.app (.text s .nil)).tb from congrArg _ h1,Fo.fP];simp only[Fo.tb,zy];omega
section
variable {rs:List Int}
def xyj{num:Bool}(hm:∀m,msg=some m->Si rs m)(h:bM rs msg num i = .ok (f,j)):f.tb+gY rs i<=gY rs j:=by
 unfold bM at h;obtain⟨k,a,h1,h2⟩:=zF h;obtain⟨u,b,e,d⟩:=zF h2;obtain⟨w,q⟩:=NN h1;have r:=(yS e).2;have s:=yl rs a;cases msg with
 |none=>cases d
 |some m =>
  obtain⟨g,c,l,n⟩:=zF (show(m num b).then _=_ from d);obtain⟨u2,z,o,p⟩:=zF n;have x:=hm m rfl _ _ _ _ l;have t:=(yS o).2;have v:=yl rs z;cases p;have y:=fU (rs:=rs) (show i<=b by omega);have A:=fU (rs:=rs) (show c<=xx rs z by omega);exact GK
def nO{num:Bool}(hm:∀m,msg=some m->Si rs m):∀(n:Nat) (acc:Fo) (i j:Nat) (f:Fo),qx rs msg num n acc i = .ok (f,j)->f.tb+gY rs i<=acc.tb+gY rs j
 | 0,acc,i,j,f,h=>xp
 |n+1,acc,i,j,f,h=>by
  rw[qx]at h;split at h
  .cases h;exact Yo
  .obtain⟨g,q,h1,h2⟩:=zF h;have g2:=xyj hm h1;have k2:=nO hm n _ _ _ _ h2;rw[Fo.fP]at k2;omega
def xyg(hm:∀m,msg=some m->Si rs m)(h:gH rs msg i = .ok (f,j)):f.tb+gY rs i<=gY rs j:=by
 unfold gH at h;obtain⟨u,a,h1,h2⟩:=zF h;obtain⟨nm,b,y,g⟩:=zF h2;have B:=(yS h1).2;have C:=yl rs a;obtain⟨-,D⟩:=JN y;have E:=yl rs b;clear h h1 h2 y;split at g
 .obtain⟨u,z,k,e⟩:=zF g;have:=(yS k).2;cases e;exact zgv
 .obtain⟨N,c,k,e⟩:=zF g;have F:=jo k;have G:=yl rs (xx rs b+1);have H:=yl rs c;clear g k;split at e
  .obtain⟨u,z,v,w⟩:=zF e;have:=(yS v).2;cases w;exact zgv
  .split at e
   .cases e
   .next form x =>
    obtain⟨u,d,v,w⟩:=zF e;obtain⟨o,l,A,n⟩:=zF w;obtain⟨bs,q,p,r⟩:=zF n;obtain⟨u,z,s,t⟩:=zF r;have:=(yS v).2;have:=yl rs d;obtain⟨K,_⟩:=NO A;have b2:=nO hm _ _ _ _ _ p;have I:=(yS s).2;cases t;have L:=fU (rs:=rs) (show i<=l by omega);have M:=fU (rs:=rs) (show q<=j by omega);simp only[Fo.tb]at b2|-;omega
def Ex{num:Bool}(hm:∀m,msg=some m->Si rs m):∀(n:Nat) (acc:Fo) (i j:Nat) (f:Fo),vJ rs msg num n acc i = .ok (f,j)->f.tb+gY rs i<=acc.tb+gY rs j
 | 0,acc,i,j,f,h=>xp
 |n+1,acc,i,j,f,h=>by
  rw[vJ]at h;split at h
  .cases h;exact Yo
  next a =>
  split at h
  .obtain⟨g,q,h1,h2⟩:=zF h;have g2:=xyg hm h1;have k2:=Ex hm n _ _ _ _ h2;rw[Fo.fP]at k2;omega
  split at h
  .have k2:=Ex hm n _ _ _ _ h;have:=fU (rs:=rs) (show i<=i+1 by omega);rw[Fo.fP]at k2;simp only[Fo.tb]at k2;omega
  .have t2:=Fo.xyk acc (qq rs num i).1;have k2:=Ex hm n _ _ _ _ h;have b:=znf (num:=num) (λq=>a (.inl q));omega
def nS:∀n,Si rs (gI rs n)
 | 0,num,i,f,j,h=>by
  rw[gI]at h;simpa[Fo.tb]using Ex (λm e=>gG) _ _ _ _ _ h
 |n+1,num,i,f,j,h=>by
  rw[gI]at h;simpa[Fo.tb]using Ex (λm e=>by cases e;exact nS n) _ _ _ _ _ h
end
def yjj(r:Int):(enc r).length=(yi r).length:=by
 have b:(yi r).length=(TE r).length:=by unfold yi;simp
 rw[b];unfold enc Y3;by_cases hv:DY r=true
 .have a:=hv;unfold DY at a;simp at a;obtain⟨n,rfl⟩:∃n:Nat,r=n:=⟨r.toNat,J⟩;simp only[hv,if_true,TX];by_cases c1:n<0x80
  .rw[yK c1,Lib.encodeRuneZ_one J J];rfl
  .rw[yv c1];by_cases c2:n<0x800
   .rw[yK c2,Lib.encodeRuneZ_two J J];rfl
   .rw[yv c2];by_cases c3:n<0x10000
    .rw[yK c3,Lib.encodeRuneZ_three J];rfl
    .rw[yv c3,Lib.encodeRuneZ_four J J];rfl
 .have a:=hv;unfold DY at a;simp at a;have c:TE r=[239,191,189]:=by
   unfold TE;rw[yv J,yv J,yv J,yv J]
  rw[c];simp only[hv,if_false,OG];rfl
def ni:∀(l:List Int),(l.flatMap enc).length=((l.map yi).flatten).length
 |[]=>rfl
 |a::l=>by
  rw[zh,vV,zr8,zy,zy,ni l,yjj]
def nl:∀(n:Nat) (l:List UInt8),l.length<=n->((qQ l).1.flatten).length<=l.length
 | 0,l,h=>by
  have:l=[]:=zN J;subst this;rw[kR];exact Yo
 |n+1,[],_=>by rw[kR];exact Y _
 |n+1,a::r,h=>by
  by_cases hs:xK (a::r)=0
  .rw[Ze hs];exact zJ _
  .rw[jK zV hs,zr8,zy];have:=nl n ((a::r).drop (xK (a::r))) (by rw[yr];simp at h|-;omega);have e:=congrArg xJ (fY (xK (a::r)) (a::r));rw[zy]at e;omega
def znd(l:List UInt8):((xk l).flatMap enc).length<=l.length:=by
 rw[ni,Gg l.length l (Y _)];exact nl _ _ (Y _)
def yjg(h:vv l = .ok f):f.tb<=1000:=by
 unfold vv at h;split at h
 .cases h
 split at h
 .cases h
 next h1 _ =>
 cases hp:gg (xk l) with
 |error e=>rw[hp]at h;cases h
 |ok x =>
  rw[hp]at h;cases h;unfold gg at hp;obtain⟨g,q,h2,a⟩:=zF (show _=Except.ok (x.1,x.2)from hp);have hf:=nS 5 _ _ _ _ h2;have hb:=znd l;have he:gY (xk l) q<=((xk l).flatMap enc).length:=by
   have:=fU (rs:=xk l) (show q<=q+(xk l).length by omega);have e:gY (xk l) (q+(xk l).length)=((xk l).flatMap enc).length:=(by unfold gY;rw[ye J]);omega
  split at a
  .cases a;have:gY (xk l) 0=0:=rfl;omega
  .cases a
def eR(s:MkS):Prop:=∀t∈s.cs,t.length<=1000
def bz(s:MkS):Nat:=(qZ s.cs).length+s.pos
def V3(s:MkS)(op v:Nat)(k tg:List Nat):bz (s.put op v k tg)=bz s+(xE ⟨op,s.pos,v,k,tg⟩).length/\(eR s->eR (s.put op v k tg)):=by
 refine⟨?_,λh=>h⟩;unfold bz MkS.put;simp only;omega
def Ev(s:MkS)(t:Wd):bz (s.const t)<=bz s+2+t.length/\(eR s->t.length<=1000->eR (s.const t)):=by
 unfold MkS.const;split
 .exact⟨J,λh _=>h⟩
 .refine⟨?_,λh a x hx=>?_⟩
  .unfold bz;simp only[qZ,yh,zy,zh,Dl,qt];rw[show(vq t.length).length=2 from rfl];omega
  .rcases zS.1 hx with q|q
   .exact h x q
   .rw[zG]at q;rw[q];exact a
def Sl(l:List Nat)(s:MkS):bz (l.foldl (λs i=>MkS.xL s i 0) s)=bz s/\(l.foldl (λs i=>MkS.xL s i 0) s).cs=s.cs:=by
 rw[bR];obtain⟨-,h2,a⟩:=km (l.map λi=>(i,0)) s;unfold bz;rw[h2,a];exact⟨rfl,rfl⟩
def O9:∀(f:Fo) (s:MkS) (acc:List Nat),(∀k∈f.keys,k.length<=17)->bz (MkS.vR f s acc).1<=bz s+19*f.keys.length/\(MkS.vR f s acc).2.length<=acc.length+f.keys.length/\(eR s->eR (MkS.vR f s acc).1)
 |.xi k _ _ r,s,acc,g=>by
  have h1:=g k (.head _);have h2:∀q∈r.keys,q.length<=17:=λq i=>g q (.tail _ i)
  rw[MkS.vR,show(Fo.xi k _ _ r).keys=k::r.keys from rfl];simp only[zY];split
  .obtain⟨a,b,c⟩:=O9 r s acc h2;exact⟨J,J,c⟩
  .obtain⟨a,b,c⟩:=O9 r (s.const k) (acc++[s.num k]) h2;obtain⟨d,e⟩:=Ev s k;simp only[zy,kX]at b;exact⟨J,J,λh=>c (e h J)⟩
 |.nil,s,acc,_=>⟨Y _,Y _,id⟩
 |.text _ _,s,acc,_=>⟨Y _,Y _,id⟩
 |.hash _,s,acc,_=>⟨Y _,Y _,id⟩
 |.put _ _ _,s,acc,_=>⟨Y _,Y _,id⟩
 |.num _ _ _,s,acc,_=>⟨Y _,Y _,id⟩
 |.br _ _ _ _ _ _ _,s,acc,_=>⟨Y _,Y _,id⟩
def Oz:∀(f:Fo) (s:MkS) (acc:List (Wd×Nat)),bz (MkS.vX f s acc).1<=bz s+7*f.keys.length/\(eR s->eR (MkS.vX f s acc).1)
 |.xi k _ _ r,s,acc=>by
  rw[MkS.vX,show(Fo.xi k _ _ r).keys=k::r.keys from rfl];simp only[zY];split
  .obtain⟨a,b⟩:=Oz r (s.put 7 (yb k.tail) [] [0]) (acc++[(k,s.code.length)]);obtain⟨c,d⟩:=V3 s 7 (yb k.tail) [] [0];have hx:(xE ⟨7,s.pos,yb k.tail,[],[0]⟩).length=7:=(by simp[xE,uA,ue,vq,j8]);exact⟨J,λh=>b (d h)⟩
  .obtain⟨a,b⟩:=Oz r s acc;exact⟨J,b⟩
 |.nil,s,acc=>⟨Y _,id⟩
 |.text _ _,s,acc=>⟨Y _,id⟩
 |.hash _,s,acc=>⟨Y _,id⟩
 |.put _ _ _,s,acc=>⟨Y _,id⟩
 |.num _ _ _,s,acc=>⟨Y _,id⟩
 |.br _ _ _ _ _ _ _,s,acc=>⟨Y _,id⟩
def eS(s:MkS)(op:Nat)(t:Wd)(h:op=1\/op=2\/op=3):bz (s.one op t)<=bz s+5+t.length/\(eR s->t.length<=1000->eR (s.one op t)):=by
 obtain⟨a,b⟩:=Ev s t;obtain⟨c,d⟩:=V3 (s.const t) op 0 [s.num t] [];have hx:(xE ⟨op,(s.const t).pos,0,[s.num t],[]⟩).length=3:=zuk;unfold MkS.one;exact⟨J,λh1 h2=>d (b h1 h2)⟩
def yjf(s:MkS)(i j:Nat):bz (s.xL i j)=bz s/\(s.xL i j).cs=s.cs:=⟨rfl,rfl⟩
def xyf(n o:Wd)(bs:Fo)(s0:MkS)(k:Wd)(s:MkS):bz (MkS.kV n o bs s0 k s)=bz s/\(MkS.kV n o bs s0 k s).cs=s.cs:=by
 rw[Xr];obtain⟨-,h2,a⟩:=km (QA n o bs s0 k) s;unfold bz;rw[h2,a];exact⟨rfl,rfl⟩
def Uc:∀(f:Fo) (e:Wd->MkS->MkS) (s:MkS) (ls:List Nat),(∀k s,bz (e k s)=bz s/\(e k s).cs=s.cs)->f.fit->f.tb<=1000->eR s->eR (MkS.uw f e s ls).1/\bz (MkS.uw f e s ls).1+23*f.keys.length<=bz s+f.uC
 |.nil,_,s,_,_,_,_,h=>⟨h,by simp[MkS.uw,Fo.keys,Fo.uC]⟩
 |.text t r,e,s,ls,hb,hf,g,h=>by
  simp only[Fo.tb]at g;obtain⟨a,b⟩:=eS s 1 t (.inl rfl);obtain⟨c,d⟩:=Uc r e (s.one 1 t) ls hb hf J (b h J);exact⟨c,by simp only[Fo.keys,Fo.uC,MkS.uw,yG];omega⟩
 |.hash r,e,s,ls,hb,hf,g,h=>by
  simp only[Fo.tb]at g;obtain⟨a,b⟩:=V3 s 6 0 [] [];obtain⟨c,d⟩:=Uc r e (s.put 6 0 [] []) ls hb hf g (b h);have hx:(xE ⟨6,s.pos,0,[],[]⟩).length=1:=Iq;exact A9
 |.put n _ r,e,s,ls,hb,hf,g,h=>by
  simp only[Fo.tb]at g;have hn:=hf.1.1;obtain⟨a,b⟩:=eS s 2 n (.inr (.inl rfl));obtain⟨c,d⟩:=Uc r e (s.one 2 n) ls hb hf.2 g (b h J);exact A9
 |.num n _ r,e,s,ls,hb,hf,g,h=>by
  simp only[Fo.tb]at g;have hn:=hf.1.1;obtain⟨a,b⟩:=eS s 3 n (.inr (.inr rfl));obtain⟨c,d⟩:=Uc r e (s.one 3 n) ls hb hf.2 g (b h J);exact A9
 |.br n _ f o _ bs r,e,s,ls,hb,hf,g,h=>by
  simp only[Fo.tb]at g;obtain⟨f1,f2,f3,f4,f5,f6⟩:=hf;have hn:=f1.1;obtain⟨a,b⟩:=Ev s n;have l:∀k∈bs.keys,k.length<=17:=λk l=>(f4 k l).1
  have j:=b h J;rw[MkS.uw];split
  .obtain⟨k1,k2,k3⟩:=O9 bs (s.const n) [s.num n] l;obtain⟨y,hy⟩:=MkS.Qd bs (s.const n) (s.num n) [];obtain⟨p1,p2⟩:=V3 (MkS.vR bs (s.const n) [s.num n]).1 10 0 (MkS.vR bs (s.const n) [s.num n]).2 (zX (MkS.vR bs (s.const n) [s.num n]).2.length 0);have hS:MkS.ki n bs s=(MkS.vR bs (s.const n) [s.num n]).1.put 10 0 (MkS.vR bs (s.const n) [s.num n]).2 (zX (MkS.vR bs (s.const n) [s.num n]).2.length 0):=rfl;have hx:(xE ⟨10,(MkS.vR bs (s.const n) [s.num n]).1.pos,0,(MkS.vR bs (s.const n) [s.num n]).2,zX (MkS.vR bs (s.const n) [s.num n]).2.length 0⟩).length<=7+4*bs.keys.length:=by
    rw[hy,Nz];rw[hy]at k2;simp at k2;omega
   obtain⟨g1,g2⟩:=Uc bs (MkS.bO n bs s) (MkS.ki n bs s) [] (λk x=>yjf _ _ _) f5 J (by rw[hS];exact p2 (k3 j));obtain⟨z,q⟩:=Sl (MkS.uw bs (MkS.bO n bs s) (MkS.ki n bs s) []).2 (MkS.uw bs (MkS.bO n bs s) (MkS.ki n bs s) []).1;obtain⟨r1,r2⟩:=Uc r e ((MkS.uw bs (MkS.bO n bs s) (MkS.ki n bs s) []).2.foldl (λs i=>MkS.xL s i 0) (MkS.uw bs (MkS.bO n bs s) (MkS.ki n bs s) []).1) ls hb f6 J (by unfold eR;rw[q];exact g1);have w:bz (MkS.ki n bs s)<=bz s+25+23*bs.keys.length:=(by rw[hS];omega);exact⟨r1,zub⟩
  .obtain⟨p1,p2⟩:=V3 (s.const n) 4 (yb o) [s.num n] [];have h2:(xE ⟨4,(s.const n).pos,yb o,[s.num n],[]⟩).length=7:=(by simp[xE,uA,ue,vq,j8]);obtain⟨k1,k2⟩:=Oz bs ((s.const n).put 4 (yb o) [s.num n] []) [];have u:∀p,(xE ⟨if f=2 then 9 else 8,p,0,[],zX 6 0⟩).length=13:=λp=>by split<;>simp[xE,uA,ue,vq]
   obtain⟨q1,q2⟩:=V3 (MkS.vX bs ((s.const n).put 4 (yb o) [s.num n] []) []).1 (if f=2 then 9 else 8) 0 [] (zX 6 0);rw[u]at q1;have hS:MkS.kU n o f bs s=(MkS.vX bs ((s.const n).put 4 (yb o) [s.num n] []) []).1.put (if f=2 then 9 else 8) 0 [] (zX 6 0):=rfl;obtain⟨g1,g2⟩:=Uc bs (MkS.kV n o bs s) (MkS.kU n o f bs s) [] (λk x=>xyf n o bs s k x) f5 J (by rw[hS];exact q2 (k2 (p2 j)));obtain⟨z,q⟩:=Sl (MkS.uw bs (MkS.kV n o bs s) (MkS.kU n o f bs s) []).2 (MkS.uw bs (MkS.kV n o bs s) (MkS.kU n o f bs s) []).1;obtain⟨u1,u2⟩:=V3 ((MkS.uw bs (MkS.kV n o bs s) (MkS.kU n o f bs s) []).2.foldl (λs i=>MkS.xL s i 0) (MkS.uw bs (MkS.kV n o bs s) (MkS.kU n o f bs s) []).1) 5 0 [] [];have v:∀p,(xE ⟨5,p,0,[],[]⟩).length=1:=λp=>by simp[xE,uA,ue]
   rw[v]at u1;obtain⟨r1,r2⟩:=Uc r e (((MkS.uw bs (MkS.kV n o bs s) (MkS.kU n o f bs s) []).2.foldl (λs i=>MkS.xL s i 0) (MkS.uw bs (MkS.kV n o bs s) (MkS.kU n o f bs s) []).1).put 5 0 [] []) ls hb f6 J (u2 (by unfold eR;rw[q];exact g1));have w:bz (MkS.kU n o f bs s)<=bz s+38+7*bs.keys.length:=(by rw[hS];omega);exact⟨r1,zub⟩
 |.xi k a m r,e,s,ls,hb,hf,g,h=>by
  simp only[Fo.tb]at g;obtain⟨b1,b2⟩:=hb k s;obtain⟨g1,g2⟩:=Uc m (λ_ s=>s) (e k s) [] (λ_ _=>⟨rfl,rfl⟩) hf.1 J (by unfold eR;rw[b2];exact h);obtain⟨p1,p2⟩:=V3 (MkS.Zx m (e k s)) 11 0 [] [0];have hx:(xE ⟨11,(MkS.Zx m (e k s)).pos,0,[],[0]⟩).length=3:=by simp[xE,uA,ue,vq]
  rw[go_leg];obtain⟨r1,r2⟩:=Uc r e ((MkS.Zx m (e k s)).put 11 0 [] [0]) (ls++[(MkS.Zx m (e k s)).code.length]) hb hf.2 J (p2 g1);have hm:bz (MkS.Zx m (e k s))<=bz (e k s)+m.uC:=by
   have:bz (MkS.Zx m (e k s))=bz (MkS.uw m (λ_ s=>s) (e k s) []).1:=rfl;omega
  refine⟨r1,?_⟩;rw[show(Fo.xi k a m r).keys=k::r.keys from rfl];simp only[Fo.uC,zY];omega
def tU(h:vv l = .ok f)(hc:fD f=none):qd (qD (MkS.all f))=some ((MkS.all f).cs,(MkS.all f).code):=by
 obtain⟨h1,h2,e,g,p⟩:=Ja h hc;obtain⟨-,k,b⟩:=QY h hc;obtain⟨-,j⟩:=CH h hc;obtain⟨c1,c2⟩:=Uc f (λ_ s=>s) MkS.start [] (λ_ _=>⟨rfl,rfl⟩) b (yjg h) (λt c=>by simp[MkS.start]at c);obtain⟨p1,p2⟩:=V3 (MkS.Zx f MkS.start) 0 0 [] [];have hx:(xE ⟨0,(MkS.Zx f MkS.start).pos,0,[],[]⟩).length=1:=Iq;have a:bz (MkS.all f)<=f.uC+1:=by
  have m:bz (MkS.all f)=bz ((MkS.Zx f MkS.start).put 0 0 [] []):=rfl;have n:bz (MkS.Zx f MkS.start)=bz (MkS.uw f (λ_ s=>s) MkS.start []).1:=rfl;have o:bz MkS.start=0:=rfl;omega
 have i:=SW.all f rfl;have d:(qD (MkS.all f)).length=11+(qZ (MkS.all f).cs).length+(xF (MkS.all f).code).length:=by
  simp[qD,jV,qF,j8,vq];omega
 unfold bz at a;exact eu _ (zlf e g J (λt c=>p2 c1 t c) J) (Ct h hc)
variable{E:jY Unit}{o:zx}
def LY{b:yI}{l:Wd}{c:zx}(h:gP w)(hA:Vg w c o)(hr:uo t = .ok f)(hx:qD (MkS.all f)=l)(p:Ho w b l n k) :
  zE Tryz.prog 9 #[.slice (some b) n k,zn7 c o] w λe w'=>zR w w'/\∃P q g mb vC vI rs,e = .returned (.tuple #[.pointer (some ⟨P,0,none⟩),.int .i64 0])/\JT P q g mb f vC vI rs se w':=by
 refine(tX c o true true 45 46 44 3 0 ⟨#[]⟩ _ _ w zW zW zW (ZB KG E0 c w hA.c zW fJ.1 h.rt h.cmp.names bT.1) (ZB O6 E7 o w hA.o zW fJ.2 h.rt h.cmp.names bT.2) ⟨hA.c.slice,hA.o.slice⟩ h.cmp p).mono ?_;rintro e w1 ⟨i,d⟩;obtain⟨r1,r2⟩:=UP hr;obtain⟨v1,v2,v3,v4,v5⟩:=Ja r1 r2;rw[yv (by rw[Fq];decide),<-hx,tU r1 r2]at d;obtain⟨P,q,g,mb,vC,vI,rs,cv,ov,rfl,a,j,m⟩:=d;have a:=a.all;exact⟨i,P,q,g,mb,vC,vI,rs,rfl,a.p0,a.p1,a.prog,nH a (j w1 (zu _ _)) (m w1 (zu _ _)),v1,Ct r1 r2,v3,v4,v5⟩
def p5{z:Nat}{fm:Wd->Option (Wd×Bool)}{s:Wd}(h:CT E f z fm s k)(h2:CT E f z fm t j):s=t/\k=j:=by
 unfold CT at h h2;rcases h with⟨a1,a2⟩|⟨a1,a2,a3⟩
 .rcases h2 with⟨b1,b2⟩|⟨b1,_⟩
  .split at a2
   .next he =>
    exact zq0
   .next he =>
    exact zq0
  .exact absurd a1 b1
 .rcases h2 with⟨b1,_⟩|⟨_,b2,b3⟩
  .exact absurd b1 a1
  .exact⟨a2.trans b2.symm,a3.trans b3.symm⟩

abbrev zI(c:UInt8):Int:=((c.toNat:Nat):Int)
def eT:∀k:Fin 128,enc (k.val:Int)=[uZ k.val]:=zW
def ycj{c:UInt8}(h:c.toNat<=127):enc (zI c)=[c]:=by
 have:=eT ⟨c.toNat,J⟩;simpa using this
def Z2:∀l:Wd,(∀c∈l,c.toNat<=127)->(l.map zI).flatMap enc=l
 |[],_=>rfl
 |c::t,h=>by
  rw[vV,zh,ycj (h c zV),Z2 t (λx hx=>h x (by simp[hx]))];rfl
def tK{c d:UInt8}(h:c≠d):zI c≠zI d:=λe=>h (Y9 (by simp only[zI]at e;omega))
variable{acc:Fo}{rs:List Int}
def EH{r:List Int}{x:Int}(h:rs.drop i=x::r):yz rs i=x:=by
 have:rs[i]? = some x:=by
  have h2:(rs.drop i)[0]? = some x:=by rw[h];rfl
  rw[Uw]at h2;exact h2
 unfold yz;rw[zA,this];rfl
def xyd(h:rs.drop i=[]):yz rs i = -1:=by
 have:rs.length<=i:=List.drop_eq_nil_iff.1 h;unfold yz;rw[zA,uG this];rfl
def Oy{r:List Int}{x:Int}(h:rs.drop i=x::r):rs.drop (i+1)=r:=by
 rw[<-Fh,h];rfl
def Ji{r:List Int}(a:List Int)(h:rs.drop i=a++r):rs.drop (i+a.length)=r:=by
 rw[<-Fh,h];simp
def xo7{l:List Int}(h:rs.drop i=l)(k:Nat):yz rs (i+k)=l.getD k (-1):=by
 unfold yz;rw[zA,zA,<-h,Uw]
def znb(S r:List Int)(h:rs.drop i=S++r)(hS:S.all gm=true)(hr:gm (r.headD (-1))=false):xx rs i=i+S.length:=by
 unfold xx;rw[h];congr 1;clear h;induction S with
 |nil =>
  cases r with
  |nil=>rfl
  |cons x r=>rw[List.headD_cons]at hr;rw[xV,wB,hr];rfl
 |cons x S a =>
  rw[u7,zv]at hS;rw[xd,wB,hS.1];simp only[if_true,zY];rw[a hS.2]
def o5{F:Int->Nat->Bool}(hF:∀k,k<n->F (yz rs (i+k)) k=true)(he:F (yz rs (i+n)) n=false):∀f k,k<=n->n<f+k->Uz F rs i f k=n
 | 0,k,h1,h2=>J
 |f+1,k,h1,h2=>by
  rw[Uz];by_cases a:k=n
  .subst a;rw[yv (by rw[he];decide)]
  .rw[yK (hF k J),o5 hF he f (k+1) J J]
def ycg{F:Int->Nat->Bool}(N r:List Int)(h:rs.drop i=N++r)(hF:∀k,k<N.length->F (N.getD k (-1)) k=true)(he:F (r.headD (-1)) N.length=false):runN F rs i=N.length:=by
 have b:N.length<=rs.length:=zu0;refine o5 (λk a=>?_) ?_ _ 0 (zJ _) J
 .rw[xo7 h,zA,zi a,<-zA];exact hF k a
 .rw[xo7 h,zA,yp (Y _),Nat.sub_self];cases r<;>simpa using he
def o6(N r:List Int)(h:rs.drop i=N++r):um rs i N.length=N.flatMap enc:=by
 unfold um;rw[h];simp
def YM(N:List Int)(c:Int):Bool := !N.isEmpty && ((xH N.length).all λk=>jw (N.getD k (-1)) k) && !jw c N.length
def zo0(N r:List Int)(h:rs.drop i=N++r)(a:YM N (r.headD (-1))=true):kS rs i = .ok (N.flatMap enc,i+N.length):=by
 unfold YM at a;simp only[zv,vA,zm,Y2]at a;have hn:ku rs i=N.length:=ycg N r h (λk b=>a.1.2 k b) a.2;unfold kS;rw[hn,yv (by cases N<;>simp at a|-),o6 N r h]
def Ox(N:List Int)(W:Wd){r:List Int}(h:rs.drop i=N++r)(b:YM N (r.headD (-1))=true)(a:N.flatMap enc=W)(hn:i+N.length=n):kS rs i = .ok (W,n):=by
 rw[zo0 N r h b,a,hn]
def bD(D:List Int)(c:Int):Bool := !D.isEmpty && decide (D.length<=9) && D.all vN && (decide (D.length=1) ||D.headD 0 !=48) && !vN c
def o7(D r:List Int)(h:rs.drop i=D++r)(c:bD D (r.headD (-1))=true):qR rs i = .ok (D.flatMap enc,i+D.length):=by
 unfold bD at c;simp only[zv,vA,zm,decide_eq_true_eq,vW]at c;obtain⟨⟨⟨⟨h1,h2⟩,d⟩,b⟩,e⟩:=c;have f:yz rs i=D.headD 0:=by
  cases D with
  |nil=>simp at h1
  |cons x D=>exact EH h
 have hn:qj rs i=D.length:=by
  refine ycg D r h (λk a=>?_) (by unfold gj;rw[e];simp);have hm:vN (D.getD k (-1))=true:=by
   rw[zA,zj a];exact d _ (yf a)
  unfold gj;rw[hm,f];rcases b with b|b
  .have:k=0:=(by omega);subst this;simp
  .rw[b];simp;omega
 unfold qR;rw[hn,yv (by cases D<;>simp at h1|-),o6 D r h]
def Ue{r:List Int}{x:Int}(h:rs.drop i=x::r):ua rs x i = .ok ((),i+1):=by
 unfold ua;rw[yK (EH h)]
def Fm{r:List Int}{x:Int}(h:rs.drop i=x::r)(hx:gm x=false):xx rs i=i:=znb [] _ h rfl hx
def Pu{r:List Int}{x:Int}(h:rs.drop i=32::x::r)(hx:gm x=false):xx rs i=i+1:=znb [32] _ h zW hx
def xo8{r:List Int}{l z:Nat}{m:jJ}{num:Bool}{k:Wd}(a:YJ rs num i = .ok (k,j))(hb:rs.drop (xx rs j)=123::r)(b:l=xx rs j+1)(hm:m num l = .ok (f,z))(c:yz rs z=125):bM rs (some m) num i = .ok (.xi k i f .nil,xx rs (z+1)):=by
 subst b;unfold bM;rw[a,then_ok,Ue hb,then_ok];show(m num (xx rs j+1)).then _=_;rw[hm,then_ok];unfold ua;rw[yK c];rfl
def zo1{m:Option jJ}{num:Bool}(h:yz rs i=125)(ha:acc.len≠0):qx rs m num (n+1) acc i = .ok (acc,i):=by
 rw[qx,yK ⟨h,ha⟩]
def zo2{m:Option jJ}{num:Bool}(h:yz rs i≠125)(hf:bM rs m num i = .ok (f,j)):qx rs m num (n+1) acc i=qx rs m num n (acc.app f) j:=by
 rw[qx,yv (by intro q;exact h q.1),hf,then_ok]
def go_end{m:Option jJ}{num:Bool}(h:yz rs i = -1\/yz rs i=125):vJ rs m num (n+1) acc i = .ok (acc,i):=by
 rw[vJ,yK h]
def go_arg{r:List Int}{m:Option jJ}{num:Bool}(h:rs.drop i=123::r)(hf:gH rs m i = .ok (f,j)):vJ rs m num (n+1) acc i=vJ rs m num n (acc.app f) j:=by
 rw[vJ,yv (by rw[EH h];decide),yK (EH h),hf,then_ok]
def go_hash{r:List Int}{m:Option jJ}(h:rs.drop i=35::r):vJ rs m true (n+1) acc i=vJ rs m true n (acc.app (.hash .nil)) (i+1):=by
 rw[vJ,yv (by rw[EH h];decide),yv (by rw[EH h];decide),yK ⟨EH h,rfl⟩]
def Ov(n:Nat)(h:XI n):enc (n:Int)=(if n<0x80 then [uZ n]else if n<0x800 then [uZ (0xC0+n / 64),uZ (0x80+n % 64)]
   else if n<0x10000 then [uZ (0xE0+n / 4096),uZ (0x80+n / 64 % 64),uZ (0x80+n % 64)]else [uZ (0xF0+n / 262144),uZ (0x80+n / 4096 % 64),uZ (0x80+n / 64 % 64),uZ (0x80+n % 64)]):=by
 have hv:DY (n:Int)=true:=by unfold DY;unfold XI at h;simp;omega
 unfold enc Y3;simp only[hv,if_true,TX];repeat' split
 all_goals rfl
def ET(h:k<256):(uZ k).toNat=k:=by rw[Xg,VS J]
def yjd(n:Nat)(h:XI n)(t:Wd):bk (enc (n:Int)++t)=(n,(enc (n:Int)).length):=by
 obtain⟨h1,h2⟩:=h;rw[Ov n ⟨h1,h2⟩];unfold bk kE;by_cases c1:n<128
 .rw[yK c1];have a:=ET (k:=n) J;simp only[xd,xV,YV,a];rw[yK c1];rfl
 rw[yv c1];by_cases c2:n<2048
 .rw[yK c2];have a:=ET (k:=192+n / 64) J;have b:=ET (k:=128+n % 64) J;simp only[xd,xV,YV,FJ,zY,a,b];rw[yv J,yK J,yK J];simp;omega
 rw[yv c2];by_cases c3:n<65536
 .rw[yK c3];have a:=ET (k:=224+n / 4096) J;have b:=ET (k:=128+n / 64 % 64) J;have c:=ET (k:=128+n % 64) J;simp only[xd,xV,YV,FJ,zY,a,b,c];rw[yv J,yv J,yK J,yK J];simp;omega
 .rw[yv c3];have a:=ET (k:=240+n / 262144) J;have b:=ET (k:=128+n / 4096 % 64) J;have c:=ET (k:=128+n / 64 % 64) J;have d:=ET (k:=128+n % 64) J;simp only[xd,xV,YV,FJ,zY,a,b,c,d];rw[yv J,yv J,yv J,yK (by omega),yK (by omega)];simp;omega
def Fp(u:Int):Prop:=∃n:Nat,XI n/\u=n
def Ui{u:Int}(h:Fp u):enc u≠[]:=by
 obtain⟨n,h1,rfl⟩:=h;rw[Ov n h1];repeat' split
 all_goals simp
def zo3{u:Int}(h:Fp u)(t:Wd):xK (enc u++t)=(enc u).length/\((bk (enc u++t)).1:Int)=u:=by
 have h0:=Ui h;obtain⟨n,h1,rfl⟩:=h;have hd:=yjd n h1 t;obtain⟨a,r,hr⟩:∃a r,enc (n:Int)++t=a::r:=by
  cases hx:enc (n:Int) with
  |nil=>exact absurd hx h0
  |cons a r=>exact⟨a,r++t,rfl⟩
 rw[hr]at hd|-;refine⟨?_,by rw[hd]⟩;rcases JZ a r with⟨k1,k2⟩|⟨k1,k2,k3⟩
 .rw[hd]at k2;obtain⟨d,b⟩:=Prod.mk.inj k2;have c:(enc (n:Int)).length=1->n<128:=by
   rw[Ov n h1];repeat' split
   all_goals simp_all
  have:=c b;omega
 .rw[k1,hd]
def Sm:∀(us:List Int),(∀u∈us,Fp u)->xk (us.flatMap enc)=us/\(qQ (us.flatMap enc)).2=(us.flatMap enc).length
 |[],_=>AY
 |u::us,h=>by
  have a:=h u zV;obtain⟨h1,h2⟩:=Sm us (λv hv=>h v (by simp[hv]));obtain⟨b,c⟩:=zo3 a (us.flatMap enc);have h0:=Ui a;have d:=zt.2 h0;rw[zh,jP (by simp[h0]) J,jK (by simp[h0]) J,b,c];simp[h1,h2]
def qC:Nat->Wd
 | 0=>Mn
 | 1=>Mo
 |_=>PS
def qB(num:Bool)(c:UInt8):Bool:=c==39 ||(c==123 ||(c==125 ||(c==35 && num)))
def kZ(a:Wd):Wd:=a.flatMap λc=>if c=39 then [39,39]else [c]
def fZ(a:Wd):Wd:=if (a.any λc=>c !=39)=true then 39::(kZ a++[39])else kZ a
def Tc(num:Bool):Nat->Wd->Wd
 | 0,_=>[]
 |n+1,s=>if s=[]then []else if s.takeWhile (qB num)=[]then s.take 1++Tc num n (s.drop 1)else fZ (s.takeWhile (qB num))++Tc num n (s.drop (s.takeWhile (qB num)).length)
def KD(num:Bool)(s:Wd):Wd:=Tc num s.length s
def prG(num:Bool):Nat->Wd->Wd
 | 0,_=>[]
 |n+1,s=>if s=[]then []else fZ (s.takeWhile (qB num))++((s.drop (s.takeWhile (qB num)).length).takeWhile (λc => !qB num c)++prG num n ((s.drop (s.takeWhile (qB num)).length).drop ((s.drop (s.takeWhile (qB num)).length).takeWhile (λc => !qB num c)).length))
def Eu(num:Bool):∀(n m:Nat) (s:Wd),s.length<=n->s.length<=m->Tc num n s=Tc num m s
 | 0,m,s,h,_=>by
  have:s=[]:=zN J;subst this;cases m<;>simp[Tc]
 |n+1,0,s,_,h=>by
  have:s=[]:=zN J;subst this;simp[Tc]
 |n+1,m+1,s,h1,h2=>by
  rw[Tc,Tc];by_cases hs:s=[]
  .rw[yK hs,yK hs]
  have a:=zt.2 hs;rw[yv hs,yv hs];by_cases ha:s.takeWhile (qB num)=[]
  .rw[yK ha,yK ha,Eu num n m (s.drop 1) yF yF]
  .have:=zt.2 ha;rw[yv ha,yv ha,Eu num n m _ yF yF]
def yjb(num:Bool):KD num []=[]:=rfl
def yg0{num:Bool}{c:UInt8}(h:qB num c=false)(t:Wd):KD num (c::t)=c::KD num t:=by
 unfold KD;rw[zY,Tc,yv zV,yK (by rw[kC (by simp[h])])];rfl
def o8{num:Bool}{s:Wd}(h:s.takeWhile (qB num)≠[]):KD num s=fZ (s.takeWhile (qB num))++KD num (s.drop (s.takeWhile (qB num)).length):=by
 have hs:s≠[]:=λe=>by subst e;exact h rfl
 have:=zt.2 h;have hp:=zt.2 hs;unfold KD;obtain⟨n,hn⟩:∃n,s.length=n+1:=⟨s.length - 1,J⟩;rw[hn,Tc,yv hs,yv h];congr 1;exact Eu num _ _ _ yF (Y _)
def Fg{num:Bool}:∀(b r:Wd),(∀c∈b,qB num c=false)->KD num (b++r)=b++KD num r
 |[],r,_=>rfl
 |c::b,r,h=>by
  rw[xd,yg0 (h c qO),Fg b r (λd hd=>h d (uj _ hd))];rfl
def Ou(num:Bool):∀(n:Nat) (s:Wd),s.length<=n->prG num n s=KD num s
 | 0,s,h=>by
  have:s=[]:=zN J;subst this;rfl
 |n+1,s,h=>by
  rw[prG];by_cases hs:s=[]
  .rw[yK hs,hs];rfl
  have q:=zt.2 hs;rw[yv hs];obtain⟨a,ha⟩:=zw (s.takeWhile (qB num));obtain⟨r,hr⟩:=zw (s.drop a.length);obtain⟨b,hb⟩:=zw (r.takeWhile (λc => !qB num c));obtain⟨u,o⟩:=zw (r.drop b.length);have d:s=a++r:=by
   have h1:=jy (p:=qB num) (l:=s);have h2:s.dropWhile (qB num)=r:=by
    rw[<-hr,<-ha];conv=>rhs;arg 2;rw[<-h1]
    rw[Jw]
   rw[h2,ha]at h1;exact h1.symm
  have k:r=b++u:=by
   have h1:=jy (p:=λc => !qB num c) (l:=r);have h2:r.dropWhile (λc => !qB num c)=u:=by
    rw[<-o,<-hb];conv=>rhs;arg 2;rw[<-h1]
    rw[Jw]
   rw[h2,hb]at h1;exact h1.symm
  have g:∀c∈b,qB num c=false:=λc hc=>by
   rw[<-hb]at hc;have:=Gx (l:=r) (p:=λc => !qB num c);rw[zm]at this;simpa using this c hc
  rw[ha,hr,hb,o];have i:a≠[]\/b≠[]:=by
   by_cases h1:a=[]
   .refine .inr λh2=>?_
    subst h1;rw[xV]at d;subst d;cases e:s with
    |nil=>exact hs e
    |cons c t =>
     rw[e]at ha hb;by_cases m:qB num c=true
     .rw[xO m]at ha;cases ha
     .rw[xO (by simpa using m)]at hb;rw[h2]at hb;cases hb
   .exact .inl h1
  have j:u.length<=n:=by
   have h1:=congrArg xJ d;have h2:=congrArg xJ k;rw[zy]at h1 h2;rcases i with f|f
   .have:=zt.2 f;omega
   .have:=zt.2 f;omega
  rw[Ou num n u j];have h2:KD num r=b++KD num u:=by rw[k,Fg b u g]
  by_cases h1:a=[]
  .subst h1;rw[xV]at d;rw[d,h2];rfl
  .rw[o8 (s:=s) (by rw[ha];exact h1),ha,hr,h2]
def Y6(dec:Nat->Wd)(val:Wd->Nat)(num:Bool):Fo->Wd
 |.nil=>[]
 |.text t r=>KD num t++Y6 dec val num r
 |.hash r=>35::Y6 dec val num r
 |.put n _ r=>123::(n++125::Y6 dec val num r)
 |.num n _ r=>123::(n++([44,32,110,117,109,98,101,114,125]++Y6 dec val num r))
 |.br n _ f o _ bs r=>123::(n++([44,32]++(qC f++44::((if 0<val o then [32,111,102,102,115,101,116,58]++dec (val o)else [])++(Y6 dec val (decide (f≠0)) bs++125::Y6 dec val num r)))))
 |.xi k _ m r=>32::(k++([32,123]++(Y6 dec val num m++125::Y6 dec val num r)))
def o9(a:Wd):(kZ a).length<=2*a.length:=by
 induction a with
 |nil=>exact Y _
 |cons c t b =>
  unfold kZ at b|-;have h2:(if c=39 then [39,39]else [c]:Wd).length<=2:=by split<;>simp
  exact zq5
def zo4(a:Wd)(h:a≠[]):(fZ a).length<=4*a.length:=by
 have:=o9 a;have:=zt.2 h;unfold fZ;split
 .simp;omega
 .omega
def Oq(num:Bool):∀(n:Nat) (s:Wd),(Tc num n s).length<=4*s.length
 | 0,s=>zJ _
 |n+1,s=>by
  rw[Tc];split
  .simp
  next hs =>
  have b:=zt.2 hs;split
  .have:=Oq num n (s.drop 1);simp at this|-;omega
  next ha =>
  have h1:=Oq num n (s.drop (s.takeWhile (qB num)).length);have h2:=zo4 _ ha;have a:(s.takeWhile (qB num)).length<=s.length:=(bn _).length_le;simp at h1|-;omega
def jQ(s t:Wd):∀f:Fo,(f.yn s).yn t=f.yn (s++t)
 |.nil=>rfl
 |.text a .nil=>by simp[Fo.yn]
 |.text a (.text b r)=>by
  have:=jQ s t (.text b r);have h:∃d r',(Fo.text b r).yn s = .text d r':=by cases r<;>exact⟨_,_,rfl⟩
  obtain⟨d,r',h⟩:=h;simp only[Fo.yn,h]at this|-;exact congrArg (Fo.text a) this
 |.text a (.hash r)=>congrArg (λx=>Fo.text a (.hash x)) (jQ s t r)
 |.text a (.put n p r)=>congrArg (λx=>Fo.text a (.put n p x)) (jQ s t r)
 |.text a (.num n p r)=>congrArg (λx=>Fo.text a (.num n p x)) (jQ s t r)
 |.text a (.br n p f o c b r)=>congrArg (λx=>Fo.text a (.br n p f o c b x)) (jQ s t r)
 |.text a (.xi k p m r)=>congrArg (λx=>Fo.text a (.xi k p m x)) (jQ s t r)
 |.hash r=>congrArg Fo.hash (jQ s t r)
 |.put n p r=>congrArg (Fo.put n p) (jQ s t r)
 |.num n p r=>congrArg (Fo.num n p) (jQ s t r)
 |.br n p f o c b r=>congrArg (Fo.br n p f o c b) (jQ s t r)
 |.xi k p m r=>congrArg (Fo.xi k p m) (jQ s t r)
def Jl(f:Fo)(t:Wd):Fo:=if t=[]then f else f.yn t
def zo5(f:Fo)(s t:Wd):Jl (Jl f s) t=Jl f (s++t):=by
 unfold Jl;by_cases h1:s=[]
 .subst h1;simp
 .by_cases h2:t=[]
  .subst h2;simp
  .simp[h1,h2,jQ]
def Sn(f:Fo)(h:t≠[]):f.yn t=Jl f t:=by unfold Jl;rw[yv h]
def Ek(rs:List Int)(num:Bool)(k i j:Nat)(t:Wd):Prop:=∀m n acc,k<=n->∃n',n<=n'+k/\vJ rs m num n acc i=vJ rs m num n' (Jl acc t) j
def Ek.nil{num:Bool}:Ek rs num 0 i i []:=λm n acc _=>⟨n,J,rfl⟩
def Ek.then{num:Bool}{k2 z:Nat}{s:Wd}(h:Ek rs num k i j s)(h2:Ek rs num k2 j z t):Ek rs num (k+k2) i z (s++t):=λm n acc hn=>by
 obtain⟨n1,a1,b1⟩:=h m n acc J;obtain⟨n2,a2,b2⟩:=h2 m n1 (Jl acc s) J;exact⟨n2,J,by rw[b1,b2,zo5]⟩
def Ek.more{num:Bool}{k2:Nat}{s:Wd}(h:Ek rs num k i j s)(a:k<=k2):Ek rs num k2 i j s:=λm n acc hn=>by
 obtain⟨n1,a1,b1⟩:=h m n acc J;exact⟨n1,J,b1⟩
def Ek.one{num:Bool}(h1:yz rs i≠-1)(h2:yz rs i≠125)(a:yz rs i≠123)(b:¬(yz rs i=35/\num=true))(c:qq rs num i=(t,j))(h0:t≠[]):Ek rs num 1 i j t:=λm n acc hn=>by
 obtain⟨k,rfl⟩:∃k,n=k+1:=⟨n - 1,J⟩;refine⟨k,J,?_⟩;rw[vJ,yv (λh=>h.elim h1 h2),yv a,yv b,c,Sn _ h0]
def xyb:enc 39=[39]:=zW
def Ff{tail:List Int}{num:Bool}:∀(k i:Nat),rs.drop i=zX (2*k) 39++tail->Ek rs num (2*k) i (i+2*k) (zX k 39)
 | 0,i,_=>Ek.nil
 |k+1,i,h=>by
  have h0:rs.drop i=39::39::(zX (2*k) 39++tail):=by rw[h,show 2*(k+1)=2*k+1+1 by omega,qa,qa];rfl
  have a:=EH h0;have h1:=Oy h0;have b:=EH h1;have h2:=Ff (num:=num) k (i+2) (Oy h1);have hs:Ek rs num 1 i (i+2) [39]:=by
   refine Ek.one (by rw[a];decide) (by rw[a];decide) (by rw[a];decide) (by rw[a];simp) ?_ zV;unfold qq;rw[yv (by rw[a];simp),yK b,xyb]
  have:=(hs.then h2).more (k2:=2*(k+1)) J;rw[show i+2*(k+1)=i+2+2*k by omega];exact this
def LV{tail:List Int}(a:tail.head?≠some 39):∀b:Wd,xg ((kZ b).map zI++39::tail)=(b.map zI,(kZ b).length+1)
 |[]=>by
  show xg (39::tail)=_;rw[xg.eq_def];cases tail with
  |nil=>simp[kZ]
  |cons x t =>
   have:x≠39:=λe=>a (by rw[e];rfl)
   simp[kZ,this]
 |c::b=>by
  have f:=LV a b;by_cases hc:c=39
  .subst hc;have e:kZ (39::b)=39::39::kZ b:=rfl;rw[e];simp only[vV,xd];rw[xg.eq_def];simp[zI,f]
  .have e:kZ (c::b)=c::kZ b:=(by unfold kZ;rw[zh,yv hc];rfl);have g:¬zI c=39:=tK (d:=39) hc;rw[e];simp only[vV,xd];rw[xg.eq_def];simp[g,f]
def Ok:∀k:Nat,kZ (zX k 39)=zX (2*k) 39
 | 0=>rfl
 |k+1=>by
  have a:=Ok k;rw[qa];unfold kZ at a|-;rw[zh,a,yK rfl,show 2*(k+1)=2*k+1+1 by omega,qa,qa];rfl
def yg1(a b:Wd):kZ (a++b)=kZ a++kZ b:=by unfold kZ;rw[yh]
def Sp:∀a:Wd,∃k b,a=zX k 39++b/\(∀c t,b=c::t->c≠39)
 |[]=>⟨0,[],rfl,λ_ _ h=>xp⟩
 |c::a=>by
  by_cases hc:c=39
  .obtain⟨k,b,h1,h2⟩:=Sp a;exact⟨k+1,b,by rw[hc,h1];rfl,h2⟩
  .exact⟨0,c::a,rfl,λd t h=>by cases h;exact hc⟩
def Oj{num:Bool}{c:UInt8}(h:qB num c=true):c.toNat<=127:=by
 unfold qB at h;simp only[vW,beq_iff_eq,zv]at h;rcases h with rfl|rfl|rfl|⟨rfl,_⟩<;>decide
def yg2{num:Bool}{c:UInt8}(h:qB num c=true)(hc:c≠39):kg (zI c) num=true:=by
 unfold qB at h;simp only[vW,beq_iff_eq,zv]at h;rcases h with rfl|rfl|rfl|⟨rfl,rfl⟩
 .exact absurd rfl hc
 .rfl
 .rfl
 .rfl
def yg3{tail:List Int}{num:Bool}(a:Wd)(m:∀c∈a,qB num c=true)(h:rs.drop i=(fZ a).map zI++tail)(n:tail.head?≠some 39):Ek rs num (fZ a).length i (i+(fZ a).length) a:=by
 obtain⟨k,b,rfl,hb⟩:=Sp a;cases b with
 |nil =>
  have e:fZ (zX k 39++[])=zX (2*k) 39:=by
   unfold fZ;rw[qt,yv zV,Ok]
  rw[e,List.map_replicate]at h;rw[e,fL,qt];exact Ff k i h
 |cons c b =>
  have hc:=hb c b rfl;have f:∀d∈c::b,qB num d=true:=λd hd=>m d (zS.2 (.inr hd))
  have e:fZ (zX k 39++c::b)=zX (2*k) 39++(39::(kZ (c::b)++[39])):=by
   unfold fZ;rw[yK GN,yg1,Ok];simp only[yk];rw[<-xd,<-qa,List.replicate_succ',yk];rfl
  rw[e]at h|-;have h1:rs.drop i=zX (2*k) 39++(39::((kZ (c::b)).map zI++39::tail)):=by
   rw[h];simp[zI]
  have p:=Ff (num:=num) k i h1;have h2:rs.drop (i+2*k)=39::((kZ (c::b)).map zI++39::tail):=by
   have:=Ji _ h1;rwa [fL]at this
  have g:=Oy h2;have j:kZ (c::b)=c::kZ b:=by unfold kZ;rw[zh,yv hc];rfl
  have n2:=EH h2;have n3:yz rs (i+2*k+1)=zI c:=by
   rw[j]at g;exact EH g
  have o:¬zI c=39:=tK (d:=39) hc;have q:Ek rs num 1 (i+2*k) (i+2*k+1+((kZ (c::b)).length+1)) (c::b):=by
   refine Ek.one (by rw[n2];decide) (by rw[n2];decide) (by rw[n2];decide) (by rw[n2];simp) ?_ zV;unfold qq;rw[yv (by rw[n2];simp),yv (by rw[n3];exact o),yv (by rw[n3,yg2 (f c zV) hc];simp),g,LV n,Z2 _ (λd hd=>Oj (f d hd))]
  have:=(p.then q).more (k2:=(zX (2*k) (39:UInt8)++(39::(kZ (c::b)++[39]))).length) zV;have l:i+(zX (2*k) (39:UInt8)++(39::(kZ (c::b)++[39]))).length=i+2*k+1+((kZ (c::b)).length+1):=yF;rw[<-l]at this;exact this
def Sr{u:Int}(h:Fp u){c:UInt8}{e:Wd}(he:enc u=c::e):(c.toNat<=127->u=zI c/\e=[])/\(127<c.toNat->(∀d∈enc u,128<=d.toNat)/\128<=u):=by
 obtain⟨n,h1,rfl⟩:=h;have hn:=h1.1;rw[Ov n h1]at he|-;by_cases c1:n<128
 .rw[yK c1]at he;obtain⟨a,b⟩:=ZZ he;have:=ET (k:=n) J;rw[a]at this;exact⟨λ_=>⟨by simp only[zI];omega,b.symm⟩,λh=>J⟩
 rw[yv c1]at he|-;by_cases c2:n<2048
 .rw[yK c2]at he|-;obtain⟨a,b⟩:=ZZ he;have a0:=ET (k:=192+n / 64) J;have a1:=ET (k:=128+n % 64) J;rw[a]at a0;refine⟨λh=>J,λh=>⟨λd hd=>?_,J⟩⟩;simp only[yV,I3,or_false]at hd;rcases hd with rfl|rfl
  .rw[a];omega
  .omega
 rw[yv c2]at he|-;by_cases c3:n<65536
 .rw[yK c3]at he|-;obtain⟨a,b⟩:=ZZ he;have a0:=ET (k:=224+n / 4096) J;have a1:=ET (k:=128+n / 64 % 64) J;have a2:=ET (k:=128+n % 64) J;rw[a]at a0;refine⟨λh=>J,λh=>⟨λd hd=>?_,J⟩⟩;simp only[yV,I3,or_false]at hd;rcases hd with rfl|rfl|rfl
  .rw[a];omega
  .omega
  .omega
 .rw[yv c3]at he|-;obtain⟨a,b⟩:=ZZ he;have a0:=ET (k:=240+n / 262144) J;have a1:=ET (k:=128+n / 4096 % 64) J;have a2:=ET (k:=128+n / 64 % 64) J;have a3:=ET (k:=128+n % 64) J;rw[a]at a0;refine⟨λh=>J,λh=>⟨λd hd=>?_,J⟩⟩;simp only[yV,I3,or_false]at hd;rcases hd with rfl|rfl|rfl|rfl
  .rw[a];omega
  .omega
  .omega
  .omega
def dY{c:UInt8}(h:c.toNat<=127):Fp (zI c):=⟨c.toNat,⟨J,.inl J⟩,rfl⟩
def LU:∀(a:Wd) {us:List Int} {r:Wd},(∀u∈us,Fp u)->(∀c∈a,c.toNat<=127)->us.flatMap enc=a++r->∃vs,us=a.map zI++vs/\vs.flatMap enc=r/\∀u∈vs,Fp u
 |[],us,r,h,_,he=>⟨us,rfl,he,h⟩
 |c::a,us,r,h,ha,he=>by
  cases us with
  |nil=>simp at he
  |cons u us =>
   have b:=h u zV;cases hx:enc u with
   |nil=>exact absurd hx (Ui b)
   |cons d e =>
    rw[zh,hx,xd,xd]at he;obtain⟨rfl,f⟩:=ZZ he;obtain⟨rfl,rfl⟩:=(Sr b hx).1 (ha d zV);obtain⟨vs,h1,h2,g⟩:=LU a (λv hv=>h v (by simp[hv])) (λc hc=>ha c GN) f;exact⟨vs,Yn,h2,g⟩
def xx0{num:Bool}{c:UInt8}(h:128<=c.toNat):qB num c=false:=by
 cases a:qB num c with
 |false=>rfl
 |true=>have:=Oj a;omega
def Ul(num:Bool)(u:Int):Bool := !qB num ((enc u).headD 0)
def Og{num:Bool}{u:Int}(h:Fp u)(hp:Ul num u=true):(∀d∈enc u,qB num d=false)/\u≠-1/\u≠125/\u≠123/\u≠39/\¬(u=35/\num=true):=by
 unfold Ul at hp;cases hx:enc u with
 |nil=>exact absurd hx (Ui h)
 |cons c e =>
  rw[hx]at hp;have hc:qB num c=false:=by simpa using hp
  have a:=Sr h hx;rw[<-hx];by_cases b:c.toNat<=127
  .obtain⟨rfl,rfl⟩:=a.1 b;rw[hx];refine⟨λd hd=>by rw[zG.1 hd];exact hc,by simp only[zI];omega,?_,?_,?_,?_⟩
   .exact tK (d:=125) λe=>WC
   .exact tK (d:=123) λe=>WC
   .exact tK (d:=39) λe=>WC
   .rintro⟨e,rfl⟩;have:c=35:=by
     refine yy λq=>tK (d:=35) q e
    rw[this]at hc;revert hc;decide
  .obtain⟨k1,k2⟩:=a.2 J;exact⟨λd hd=>xx0 (k1 d hd),J,J,J,J,J⟩
structure TxQ(num:Bool)(us vs:List Int):Prop where
 ok:∀v∈vs,Fp v
 Z4:KD num (us.flatMap enc)=vs.flatMap enc
 no:us=[]->vs=[]
 yes:us≠[]->vs≠[]
 head:∀u t,us=u::t->Ul num u=true->vs.head? = some u
 read:∀(rs tail:List Int) (i:Nat),rs.drop i=vs++tail->tail.head?≠xu8 39->Ek rs num vs.length i (i+vs.length) (us.flatMap enc)
def tJ{tail:List Int}{num:Bool}{u:Int}(h:Fp u)(hp:Ul num u=true)(hd:rs.drop i=u::tail):Ek rs num 1 i (i+1) (enc u):=by
 obtain⟨_,q1,q2,a,b,c⟩:=Og h hp;have e:=EH hd;refine Ek.one (by rw[e];exact q1) (by rw[e];exact q2) (by rw[e];exact a) (by rw[e];exact c) ?_ (Ui h);unfold qq;rw[yK (by rw[e];exact b),e]
def Of(num:Bool):∀(n:Nat) (us:List Int),us.length<=n->(∀u∈us,Fp u)->∃vs,TxQ num us vs
 | 0,us,hn,_=>by
  have:us=[]:=zN J;subst this;exact⟨[],λv hv=>(by cases hv),rfl,λ_=>rfl,λh=>absurd rfl h,λu t h=>xp,λrs tail i _ _=>Ek.nil⟩
 |n+1,[],_,_=>⟨[],λv hv=>(by cases hv),rfl,λ_=>rfl,λh=>absurd rfl h,λu t h=>xp,λrs tail i _ _=>Ek.nil⟩
 |n+1,u::t,hn,h=>by
  have C:=h u zV;have L:∀v∈t,Fp v:=λv hv=>h v (by simp[hv])
  simp only[zY]at hn;by_cases hp:Ul num u=true
  .obtain⟨vs,Q⟩:=Of num n t J L;refine⟨u::vs,?_,?_,λh=>xp,λ_=>zV,?_,?_⟩
   .intro v hv;rcases yV.1 hv with rfl|hv
    .exact C
    .exact Q.ok v hv
   .rw[zh,zh,Fg _ _ (Og C hp).1,Q.bytes]
   .intro v s hv _;cases hv;rfl
   .intro rs tail i hd g;have H:=tJ C hp hd;have D:=Q.read rs tail (i+1) (Oy hd) g;have:=(H.then D).more (k2:=(u::vs).length) yF;rw[zh,show i+(u::vs).length=i+1+vs.length by simp;omega];exact this
  .obtain⟨l,B⟩:=zw ((u::t).flatMap enc);obtain⟨a,ha⟩:=zw (l.takeWhile (qB num));obtain⟨r,hr⟩:=zw (l.dropWhile (qB num));have E:l=a++r:=(by rw[<-ha,<-hr,jy]);have j:∀c∈a,qB num c=true:=λc hc=>by
    have:=Gx (l:=l) (p:=qB num);rw[zm,ha]at this;exact this c hc
   have k:a≠[]:=by
    cases hx:enc u with
    |nil=>exact absurd hx (Ui C)
    |cons c e =>
     have hc:qB num c=true:=by
      unfold Ul at hp;rw[hx]at hp;simpa using hp
     rw[<-ha,<-B,zh,hx,xd,xO hc];simp
   have hdr:l.drop a.length=r:=(by rw[E,Jw]);obtain⟨m,I,A,h2⟩:=LU a h (λc hc=>Oj (j c hc)) (B.trans E);have y:m.length<=n:=by
    have:=congrArg xJ I;have:=zt.2 k;simp at *;omega
   obtain⟨b,Q⟩:=Of num n m y h2;have z:∀c∈fZ a,c.toNat<=127:=by
    have F:∀(a:Wd),(∀c∈a,c.toNat<=127)->∀c∈kZ a,c.toNat<=127:=λa ha c hc=>by
     unfold kZ at hc;obtain⟨d,hd,hc⟩:=List.mem_flatMap.1 hc;split at hc
     .simp at hc;rw[hc];decide
     .simp at hc;rw[hc];exact ha d hd
    have o:=F a (λc hc=>Oj (j c hc));unfold fZ;split
    .intro c hc;rcases yV.1 hc with rfl|hc
     .decide
     rcases zS.1 hc with hc|hc
     .exact o c hc
     .rw[zG.1 hc];decide
    .exact o
   have G:fZ a≠[]:=by
    unfold fZ;split
    .simp
    .cases a with
     |nil=>exact absurd rfl k
     |cons c a=>unfold kZ;rw[zh];split<;>simp
   refine⟨(fZ a).map zI++b,?_,?_,λh=>xp,λ_=>by simp[G],?_,?_⟩
   .intro v hv;rcases zS.1 hv with hv|hv
    .obtain⟨c,hc,rfl⟩:=uy.1 hv;exact dY (z c hc)
    .exact Q.ok v hv
   .rw[B,o8 (s:=l) (by rw[ha];exact k),ha,hdr,yh,Z2 _ z,<-Q.bytes,A]
   .intro v s hv f;cases hv;exact absurd f hp
   .intro rs tail i hd g;rw[yk]at hd;have K:(b++tail).head?≠xu8 39:=by
     cases m with
     |nil=>rw[Q.no rfl];exact g
     |cons v s =>
      have hv:=h2 v zV;have f:Ul num v=true:=by
       unfold Ul;cases hx:enc v with
       |nil=>exact absurd hx (Ui hv)
       |cons c e =>
        rw[zh,hx,xd]at A;have x:=List.head?_dropWhile_not (p:=qB num) (l:=l);rw[hr,<-A]at x;simpa using x
      have:=Q.head v s rfl f;rw[List.head?_append,this];intro q;exact(Og hv f).2.2.2.2.1 (by simpa using q)
    have H:=yg3 (num:=num) a j hd K;have w:=Ji _ hd;rw[vU]at w;have D:=Q.read rs tail _ w g;rw[A]at D;have:=(H.then D).more (k2:=((fZ a).map zI++b).length) zV;rw[B,E,show i+((fZ a).map zI++b).length=i+(fZ a).length+b.length by simp;omega];exact this
def Fo.bare:Fo->Fo
 |.nil => .nil
 |.text t r => .text t r.bare
 |.hash r => .hash r.bare
 |.put n _ r => .put n 0 r.bare
 |.num n _ r => .num n 0 r.bare
 |.br n _ f o _ bs r => .br n 0 f o 0 bs.bare r.bare
 |.xi k _ m r => .xi k 0 m.bare r.bare
def dV:∀f g:Fo,(f.app g).bare=f.bare.app g.bare
 |.nil,g=>rfl
 |.text t r,g=>congrArg (Fo.text t) (dV r g)
 |.hash r,g=>congrArg Fo.hash (dV r g)
 |.put n p r,g=>congrArg (Fo.put n 0) (dV r g)
 |.num n p r,g=>congrArg (Fo.num n 0) (dV r g)
 |.br n p f o c b r,g=>congrArg (Fo.br n 0 f o 0 b.bare) (dV r g)
 |.xi k p m r,g=>congrArg (Fo.xi k 0 m.bare) (dV r g)
def bB:∀f g h:Fo,(f.app g).app h=f.app (g.app h)
 |.nil,g,h=>rfl
 |.text t r,g,h=>congrArg (Fo.text t) (bB r g h)
 |.hash r,g,h=>congrArg Fo.hash (bB r g h)
 |.put n p r,g,h=>congrArg (Fo.put n p) (bB r g h)
 |.num n p r,g,h=>congrArg (Fo.num n p) (bB r g h)
 |.br n p f o c b r,g,h=>congrArg (Fo.br n p f o c b) (bB r g h)
 |.xi k p m r,g,h=>congrArg (Fo.xi k p m) (bB r g h)
def bA:∀f:Fo,f.app .nil=f
 |.nil=>rfl
 |.text t r=>congrArg (Fo.text t) (bA r)
 |.hash r=>congrArg Fo.hash (bA r)
 |.put n p r=>congrArg (Fo.put n p) (bA r)
 |.num n p r=>congrArg (Fo.num n p) (bA r)
 |.br n p f o c b r=>congrArg (Fo.br n p f o c b) (bA r)
 |.xi k p m r=>congrArg (Fo.xi k p m) (bA r)
def NT(f:Fo):Prop:=∀t,f.yn t=f.app (.text t .nil)
def Zw{x:Fo}(hx:x ≠ .nil)(t:Wd):∀f:Fo,(f.app x).yn t=f.app (x.yn t)
 |.nil=>rfl
 |.text s r=>by
  have a:=Zw hx t r;have hn:r.app x ≠ .nil:=λe=>by
   cases r<;>first|exact hx e|cases e
  show(Fo.text s (r.app x)).yn t=Fo.text s (r.app (x.yn t));rw[<-a];cases h:r.app x with
  |nil=>exact absurd h hn
  |_=>rfl
 |.hash r=>congrArg Fo.hash (Zw hx t r)
 |.put n p r=>congrArg (Fo.put n p) (Zw hx t r)
 |.num n p r=>congrArg (Fo.num n p) (Zw hx t r)
 |.br n p f o c b r=>congrArg (Fo.br n p f o c b) (Zw hx t r)
 |.xi k p m r=>congrArg (Fo.xi k p m) (Zw hx t r)
def NT.snoc(f:Fo){x:Fo}(hx:x ≠ .nil)(h:NT x):NT (f.app x):=λt=>by rw[Zw hx,h t,bB]
def NT.nil:NT .nil:=λ_=>rfl
def Asc(n:Wd):Prop:=∀c∈n,c.toNat<=127
def tG(n:Wd):Prop:=Asc n/\∀c:Int,c=125\/c=44\/c=32->YM (n.map zI) c=true
def zo6(num:Bool)(k:Wd):Prop:=(∃ds,k=61::ds/\num=true/\Asc ds/\bD (ds.map zI) 32=true)\/(tG k/\(num=true->k∈Uy))
def zo7(f:Nat)(o:Wd):Prop:=o=[48]\/(f≠0/\0<yb o/\zn (yb o)=o/\Asc o/\bD (o.map zI) 32=true)
def V4{x:Int}(h:qK x=true):gm x=false/\x≠61/\x≠125/\x≠58:=by
 unfold qK at h;refine⟨?_,?_,?_,?_⟩
 .unfold gm;simp at h|-;omega
 all_goals (simp at h;omega)
def Um{x:Int}(h:vN x=true):gm x=false/\x≠58:=by
 unfold vN at h;refine⟨?_,?_⟩
 .unfold gm;simp at h|-;omega
 .simp at h;omega
def oz{N:List Int}{c:Int}(h:YM N c=true):∃x t,N=x::t/\qK x=true:=by
 unfold YM at h;simp only[zv,vA,zm,Y2]at h;cases N with
 |nil=>simp at h
 |cons x t =>
  refine⟨x,t,rfl,?_⟩;have:=h.1.2 0 zV;unfold jw at this;simpa using this
def zo8{N:List Int}{c:Int}(h:YM N c=true):∀x∈N,x≠58:=by
 unfold YM at h;simp only[zv,vA,zm,Y2]at h;intro x hx;obtain⟨k,a,rfl⟩:=ja.1 hx;have:=h.1.2 k a;unfold jw at this;rw[zA,zj a]at this;simp only[Vd,zv,vW]at this;rcases this.2 with h1|h1
 .exact(V4 h1).2.2.2
 .exact(Um h1.2).2
def xx1(K r:List Int)(h:∀x∈K,x≠58):(K++32::r).take 7≠Hy:=by
 unfold Hy;rcases K with _|⟨a,_|⟨b,_|⟨c,_|⟨d,_|⟨e,_|⟨f,_|⟨g,K⟩⟩⟩⟩⟩⟩⟩<;>simp;intro _ _ _ _ _ _;exact h g zV
def oy{r:List Int}{n:Wd}{c:Int}(h:rs.drop i=n.map zI++c::r)(hn:tG n)(hc:c=125\/c=44\/c=32):xx rs i=i/\kS rs i = .ok (n,i+n.length):=by
 have a:=hn.2 c hc;refine⟨?_,?_⟩
 .obtain⟨x,t,e,hx⟩:=oz a;rw[e]at h;exact Fm h (V4 hx).1
 .rw[zo0 (n.map zI) (c::r) h a,Z2 n hn.1,vU]
def yg4{r:List Int}{m:Option jJ}{n:Wd}(h:rs.drop i=123::(n.map zI++125::r))(hn:tG n):gH rs m i = .ok (.put n i .nil,i+n.length+2):=by
 have h1:=Oy h;have h2:=Ji _ h1;rw[vU]at h2;obtain⟨k1,k2⟩:=oy h1 hn (.inl rfl);unfold gH;rw[Ue h,then_ok,k1,k2,then_ok,Fm h2 zW,yK (by rw[EH h2];decide),Ue h2,then_ok];rw[show i+1+n.length+1=i+n.length+2 by omega]
def arg_num{r:List Int}{m:Option jJ}{n:Wd}(h:rs.drop i=123::(n.map zI++44::32::([110,117,109,98,101,114]++125::r)))(hn:tG n):gH rs m i = .ok (.num n i .nil,i+n.length+10):=by
 have h1:=Oy h;have h2:=Ji _ h1;rw[vU]at h2;obtain⟨k1,k2⟩:=oy h1 hn (.inr (.inl rfl));have a:=Oy h2;have b:=Oy a;have c:rs.drop (i+1+n.length+1+1+6)=125::r:=Ji [110,117,109,98,101,114] b;unfold gH;rw[Ue h,then_ok,k1,k2,then_ok,Fm h2 zW,yv (by rw[EH h2];decide),Pu a zW,Ox [110,117,109,98,101,114] zb5 b (by rfl) zW (n:=i+1+n.length+1+1+6) rfl,then_ok,yK rfl,Fm c zW,Ue c,then_ok];rw[show i+1+n.length+1+1+6+1=i+n.length+10 by omega]
def yg5{r:List Int}{f:Nat}(hf:f<3)(h:rs.drop i=(qC f).map zI++44::r):kS rs i = .ok (qC f,i+(qC f).length)/\qC f≠zb5/\Ux (qC f)=some f/\gm (((qC f).map zI).headD 0)=false/\(qC f).map zI≠[]:=by
 have a:f=0\/f=1\/f=2:=J;rcases a with rfl|rfl|rfl
 .exact⟨Ox (Mn.map zI) Mn h (by rfl) zW (by rfl),zW,zW,zW,zW⟩
 .exact⟨Ox (Mo.map zI) Mo h (by rfl) zW (by rfl),zW,zW,zW,zW⟩
 .exact⟨Ox (PS.map zI) PS h (by rfl) zW (by rfl),zW,zW,zW,zW⟩
def eW{r:List Int}{num:Bool}{k:Wd}(h:rs.drop i=k.map zI++32::r)(d:zo6 num k):YJ rs num i = .ok (k,i+k.length)/\gm (yz rs i)=false/\yz rs i≠125/\(∀x∈k.map zI,x≠58)/\Asc k:=by
 rcases d with⟨ds,rfl,rfl,ha,hw⟩|⟨hn,hc⟩
 .have h0:rs.drop i=61::(ds.map zI++32::r):=h;have e:=EH h0;refine⟨?_,by rw[e];decide,by rw[e];decide,?_,?_⟩
  .unfold YJ;rw[yK ⟨rfl,e⟩,o7 (ds.map zI) (32::r) (Oy h0) hw,then_ok,Z2 ds ha];simp;omega
  .intro x hx;rw[vV]at hx;rcases yV.1 hx with rfl|hx
   .decide
   .unfold bD at hw;simp only[zv,zm]at hw;exact(Um (hw.1.1.2 x hx)).2
  .intro c hc;rcases yV.1 hc with rfl|hc
   .decide
   .exact ha c hc
 .have a:=hn.2 32 (.inr (.inr rfl));obtain⟨x,t,e,hx⟩:=oz a;have hb:=V4 hx;have h1:=h;rw[e]at h1;have b:yz rs i=x:=EH h1;refine⟨?_,by rw[b];exact hb.1,by rw[b];exact hb.2.2.1,zo8 a,hn.1⟩;unfold YJ;rw[yv (by rw[b];exactλq=>hb.2.1 q.2),(oy h hn (.inr (.inr rfl))).2,then_ok,yv (λq=>q.2 (hc q.1))]
variable{d p:Nat}
def Fo.cn:Fo->Nat->Bool->Prop
 |.nil,_,_=>True
 |.text t r,d,b=>(∃us:List Int,(∀u∈us,Fp u)/\us≠[]/\t=us.flatMap enc)/\(∀s q,r ≠ .text s q)/\r.ya=true/\r.cn d b
 |.hash r,d,b=>b=true/\r.ya=true/\r.cn d b
 |.put n _ r,d,b=>tG n/\r.ya=true/\r.cn d b
 |.num n _ r,d,b=>tG n/\r.ya=true/\r.cn d b
 |.br n _ f o _ bs r,d,b=>tG n/\f<3/\zo7 f o/\bs ≠ .nil/\bs.xm=true/\bs.cn d (decide (f≠0))/\r.ya=true/\r.cn d b
 |.xi k _ m r,d,b=>zo6 b k/\(∃e,d=e+1/\m.ya=true/\m.cn e b)/\r.xm=true/\r.cn d b
def mD(rs:List Int):Nat->Option jJ
 | 0=>none
 |n+1=>some (gI rs n)
def oq(rs:List Int)(d:Nat)(num:Bool)(i:Nat):gI rs d num i=vJ rs (mD rs d) num (rs.length+1) .nil i:=by cases d<;>rfl
abbrev wr:=Y6 zn yb
structure PQ(d:Nat)(num:Bool)(f:Fo)(vs:List Int):Prop where
 ok:∀v∈vs,Fp v
 Z4:wr num f=vs.flatMap enc
 hd:(∀t q,f ≠ .text t q)->∀tail:List Int,tail.head?≠some 39->(vs++tail).head?≠some 39
 read:∀(rs tail:List Int) (i:Nat),rs.drop i=vs++tail->(tail=[]\/∃r,tail=125::r)->∀n acc,vs.length<n->((∃t q,f = .text t q)->NT acc)->∃g,vJ rs (mD rs d) num n acc i = .ok (g,i+vs.length)/\g.bare=acc.bare.app f.bare
structure LQ(d:Nat)(num:Bool)(f:Fo)(vs:List Int):Prop where
 ok:∀v∈vs,Fp v
 Z4:wr num f=vs.flatMap enc
 first:f ≠ .nil->∀(rs tail:List Int) (i:Nat),rs.drop i=vs++tail->xx rs i=i+1/\Du rs (i+1)=false/\(∃r,vs=32::r)
 read:∀(rs tail:List Int) (i:Nat),rs.drop i=vs++125::tail->∀n acc,vs.length<n->(f ≠ .nil\/acc.len≠0)->∃g,qx rs (mD rs d) num n acc (xx rs i) = .ok (g,i+vs.length)/\g.bare=acc.bare.app f.bare
def Zj{n:Wd}(h:Asc n):∀v∈n.map zI,Fp v:=λv hv=>by
 obtain⟨c,hc,rfl⟩:=uy.1 hv;exact dY (h c hc)
def PQ.nil{num:Bool}:PQ d num .nil [] where
 ok:=λv hv=>by cases hv
 Z4:=rfl
 hd:=λ_ tail h=>h
 read:=λrs tail i h a n acc hn _=>by
  obtain⟨k,rfl⟩:∃k,n=k+1:=⟨n - 1,MN⟩;refine⟨acc,?_,(bA _).symm⟩;rw[xV]at h;refine go_end ?_;rcases a with rfl|⟨r,rfl⟩
  .exact .inl (xyd h)
  .exact .inr (EH h)
def PQ.text{num:Bool}{r:Fo}{us vs ws:List Int}(T:TxQ num us vs)(k:us≠[])(b:t=us.flatMap enc)(hr:∀s q,r ≠ .text s q)(R:PQ d num r ws):PQ d num (.text t r) (vs++ws) where
 ok:=λv hv=>(zS.1 hv).elim (T.ok v) (R.ok v)
 Z4:=by
  show KD num t++wr num r=_;rw[b,T.bytes,R.bytes,yh]
 hd:=λh=>absurd rfl (h t r)
 read:=λrs tail i h j n acc hn a=>by
  rw[yk]at h;have f:tail.head?≠some 39:=by
   rcases j with rfl|⟨q,rfl⟩<;>simp
  have c:t≠[]:=by
   rw[b];cases us with
   |nil=>exact absurd rfl k
   |cons u us =>
    intro q;have:=T.ok;rw[zh,xvj]at q;have hb:=T.bytes;rw[zh,q.1,q.2]at hb;have hv:=T.yes zV;cases vs with
    |nil=>exact hv rfl
    |cons v vs =>
     rw[qt,zh]at hb;exact Ui (T.ok v zV) (xvj.1 hb.symm).1
  rw[zy]at hn;obtain⟨l,h1,h2⟩:=T.read rs (ws++tail) i h (R.hd hr tail f) (mD rs d) n acc J;obtain⟨g,g1,g2⟩:=R.read rs tail (i+vs.length) (Ji _ h) j l (Jl acc t) J (λ⟨s,q,e⟩=>absurd e (hr s q));refine⟨g,?_,?_⟩
  .rw[h2,<-b,g1,zy,uR]
  .rw[g2,<-Sn _ c,a ⟨t,r,rfl⟩,dV,bB];rfl
def PQ.one{num:Bool}{x:Fo}{r:Fo}{xs ws:List Int}(hx:∀p,x.app p=x.app p)(hf:f.bare=x.bare.app r.bare)(l:x ≠ .nil)(e:NT x)(b:∀t q,f ≠ .text t q)(j:∀v∈xs,Fp v)(hb:wr num f=xs.flatMap enc++wr num r)(a:∀tail:List Int,(xs++tail).head?≠some 39)(hp:0<xs.length)(R:PQ d num r ws)
  (hs:∀(rs tail:List Int) (i:Nat),rs.drop i=xs++tail->∀n acc,∃y,NT y/\y ≠ .nil/\y.bare=x.bare/\vJ rs (mD rs d) num (n+1) acc i=vJ rs (mD rs d) num n (acc.app y) (i+xs.length)):PQ d num f (xs++ws) where
 ok:=λv hv=>(zS.1 hv).elim (j v) (R.ok v)
 Z4:=by rw[hb,R.bytes,yh]
 hd:=λ_ tail _=>by rw[yk];exact a _
 read:=λrs tail i h c n acc hn _=>by
  rw[yk]at h;rw[zy]at hn;obtain⟨k,rfl⟩:∃k,n=k+1:=⟨n - 1,J⟩;obtain⟨y,m,o,s,u⟩:=hs rs (ws++tail) i h k acc;obtain⟨g,g1,g2⟩:=R.read rs tail (i+xs.length) (Ji _ h) c k (acc.app y) J (λ_=>NT.snoc acc o m);refine⟨g,?_,?_⟩
  .rw[u,g1,zy,uR]
  .rw[g2,dV,s,hf,bB]
def PQ.put{num:Bool}{n:Wd}{r:Fo}{ws:List Int}(hn:tG n)(R:PQ d num r ws):PQ d num (.put n p r) (123::(n.map zI++[125])++ws):=by
 refine PQ.one (x := .put n p .nil) (λ_=>rfl) rfl (λh=>xp) (λ_=>rfl) (λ_ _ h=>by cases h) ?_ ?_ (λ_=>zV) zV R ?_
 .intro v hv;rcases yV.1 hv with rfl|hv
  .exact dY (c:=123) zW
  rcases zS.1 hv with hv|hv
  .exact Zj hn.1 v hv
  .rw[zG.1 hv];exact dY (c:=125) zW
 .show 123::(n++125::wr num r)=_;rw[zh,yh,Z2 n hn.1,show enc 123=[123]by decide,show([125]:List Int).flatMap enc=[125]by decide];simp
 .intro rs tail i h k acc;have h0:rs.drop i=123::(n.map zI++125::tail):=by rw[h];simp
  refine⟨.put n i .nil,λ_=>rfl,λh=>xp,rfl,?_⟩;rw[go_arg h0 (yg4 h0 hn)];congr 1;simp;omega
def PQ.num{num:Bool}{n:Wd}{r:Fo}{ws:List Int}(hn:tG n)(R:PQ d num r ws):PQ d num (.num n p r) (123::(n.map zI++[44,32,110,117,109,98,101,114,125])++ws):=by
 refine PQ.one (x := .num n p .nil) (λ_=>rfl) rfl (λh=>xp) (λ_=>rfl) (λ_ _ h=>by cases h) ?_ ?_ (λ_=>zV) zV R ?_
 .intro v hv;rcases yV.1 hv with rfl|hv
  .exact dY (c:=123) zW
  rcases zS.1 hv with hv|hv
  .exact Zj hn.1 v hv
  .exact Zj (n:=[44,32,110,117,109,98,101,114,125]) (by unfold Asc;decide) v hv
 .show 123::(n++([44,32,110,117,109,98,101,114,125]++wr num r))=_;rw[zh,yh,Z2 n hn.1,show enc 123=[123]by decide,show([44,32,110,117,109,98,101,114,125]:List Int).flatMap enc=[44,32,110,117,109,98,101,114,125]by decide];simp
 .intro rs tail i h k acc;have h0:rs.drop i=123::(n.map zI++44::32::([110,117,109,98,101,114]++125::tail)):=by rw[h];simp
  refine⟨.num n i .nil,λ_=>rfl,λh=>xp,rfl,?_⟩;rw[go_arg h0 (arg_num h0 hn)];congr 1;simp;omega
def PQ.hash{r:Fo}{ws:List Int}(R:PQ d true r ws):PQ d true (.hash r) ([35]++ws):=by
 refine PQ.one (x := .hash .nil) (λ_=>rfl) rfl (λh=>xp) (λ_=>rfl) (λ_ _ h=>by cases h) ?_ ?_ (λ_=>zV) zV R ?_
 .intro v hv;rw[zG.1 hv];exact dY (c:=35) zW
 .show 35::wr true r=_;rw[show([35]:List Int).flatMap enc=[35]by decide];rfl
 .intro rs tail i h k acc;exact⟨.hash .nil,λ_=>rfl,λh=>xp,rfl,go_hash (r:=tail) h⟩
def LQ.nil{num:Bool}:LQ d num .nil [] where
 ok:=λv hv=>by cases hv
 Z4:=rfl
 first:=λh=>absurd rfl h
 read:=λrs tail i h n acc hn ha=>by
  obtain⟨k,rfl⟩:∃k,n=k+1:=⟨n - 1,MN⟩;rw[xV]at h;refine⟨acc,?_,(bA _).symm⟩;rw[Fm h zW];exact zo1 (EH h) (ha.elim (λq=>absurd rfl q) id)
variable{bs:Fo}
def og{a r:List Int}(h:rs.drop i=a++r):a.length<=rs.length:=zu0
def LQ.xi{e:Nat}{num:Bool}{k:Wd}{m r:Fo}{a ws:List Int}(q:zo6 num k)(C:m.ya=true)(M:PQ e num m a)(R:LQ (e+1) num r ws):LQ (e+1) num (.xi k p m r) (32::(k.map zI++([32,123]++(a++125::ws)))):=by
 have b:Asc k:=(eW (rs:=k.map zI++[32]) (i:=0) (r:=[]) rfl q).2.2.2.2;refine⟨?_,?_,?_,?_⟩
 .intro v hv;rcases yV.1 hv with rfl|hv
  .exact dY (c:=32) zW
  rcases zS.1 hv with hv|hv
  .exact Zj b v hv
  rcases zS.1 hv with hv|hv
  .exact Zj (n:=[32,123]) (by unfold Asc;decide) v hv
  rcases zS.1 hv with hv|hv
  .exact M.ok v hv
  rcases yV.1 hv with rfl|hv
  .exact dY (c:=125) zW
  .exact R.ok v hv
 .show 32::(k++([32,123]++(wr num m++125::wr num r)))=_;rw[M.bytes,R.bytes];simp only[zh,yh,Dl];rw[Z2 k b,show enc 32=[32]by decide,show enc 123=[123]by decide,show enc 125=[125]by decide];simp
 .intro _ rs tail i h;have h0:rs.drop i=32::(k.map zI++32::(123::(a++125::ws)++tail)):=by rw[h];simp
  have h1:=Oy h0;obtain⟨_,k2,_,k4,_⟩:=eW h1 q;refine⟨?_,?_,_,rfl⟩
  .exact yb0
  .unfold Du;rw[h1];exact decide_eq_false (xx1 _ _ k4)
 .intro rs tail i h n acc hn _;obtain⟨j,rfl⟩:∃j,n=j+1:=⟨n - 1,MN⟩;have h0:rs.drop i=32::(k.map zI++32::(123::(a++125::(ws++125::tail)))):=by rw[h];simp
  have h1:=Oy h0;obtain⟨k1,k2,k3,k4,_⟩:=eW h1 q;have s:xx rs i=i+1:=yb0;have h2:=Ji _ h1;rw[vU]at h2;have l:=Pu h2 zW;have u:=Oy h2;have o:=Oy u;have B:=og o;obtain⟨g,g1,g2⟩:=M.read rs _ _ o (.inr ⟨_,rfl⟩) (rs.length+1) .nil J (λ_=>NT.nil);have w:=Ji _ o;have d:=xo8 (m:=gI rs e) (f:=g) (z:=i+1+k.length+1+1+a.length) k1 (by rw[l];exact u) rfl (by rw[l,oq];exact g1) (EH w);have A:=Oy w;have y:a.length+ws.length+k.length+4<j+1:=MN;obtain⟨z,z1,z2⟩:=R.read rs tail _ A j (acc.app (.xi k (i+1) g .nil)) J (.inr (by rw[Fo.jE];simp[Fo.len]));refine⟨z,?_,?_⟩
  .rw[s];show qx rs (some (gI rs e)) num (j+1) acc (i+1)=_;rw[zo2 k3 d];refine z1.trans ?_;congr 2;simp;omega
  .rw[z2,dV,bB];show acc.bare.app (.xi k 0 g.bare r.bare)=acc.bare.app (.xi k 0 m.bare r.bare);rw[g2];rfl
def Ej(o:Wd):List Int:=if 0<yb o then [32,111,102,102,115,101,116,58]++o.map zI else []
def xx2{tail ls:List Int}{f:Nat}{n o:Wd}(hn:tG n)(hf:f<3)(C:zo7 f o)(c:bs ≠ .nil)(B:LQ d (decide (f≠0)) bs ls)
  (h:rs.drop i=123::(n.map zI++44::32::((qC f).map zI++44::(Ej o++(ls++125::tail))))) :
  ∃q g,gH rs (mD rs d) i = .ok (.br n i f o q g .nil,i+n.length+(qC f).length+(Ej o).length+ls.length+5)/\g.bare=bs.bare:=by
 have h1:=Oy h;have h2:=Ji _ h1;rw[vU]at h2;obtain⟨k1,k2⟩:=oy h1 hn (.inr (.inl rfl));have s:=Oy h2;have v:=Oy s;obtain⟨f1,f2,f3,f4,f5⟩:=yg5 hf v;have u:xx rs (i+1+n.length+1)=i+1+n.length+1+1:=by
  cases hw:(qC f).map zI with
  |nil=>exact absurd hw f5
  |cons x t =>
   rw[hw]at s f4;exact Pu s f4
 have l:=Ji _ v;rw[vU]at l;have b:=Oy l;obtain⟨D,z⟩:=zw (i+1+n.length+1+1+(qC f).length+1);rw[z]at b;have k:∃p,Uu rs f (xx rs D) = .ok (o,xx rs p)/\rs.drop p=ls++125::tail/\p=D+(Ej o).length:=by
  rcases C with rfl|⟨F,G,L,H,j⟩
  .have e:Ej [48]=[]:=(by decide);rw[e]at b|-;rw[xV]at b;obtain⟨b1,b2,_⟩:=B.first c rs _ D b;refine⟨D,?_,b,rfl⟩;unfold Uu;rw[b1,yv (by rw[b2];simp)]
  .have e:Ej o=[32,111,102,102,115,101,116,58]++o.map zI:=(by unfold Ej;rw[yK G]);rw[e]at b|-;have w:rs.drop D=32::111::([102,102,115,101,116,58]++(o.map zI++(ls++125::tail))):=(by rw[b];simp);have I:=Pu w zW;have y:=Oy w;have m:rs.drop (D+1+7)=o.map zI++(ls++125::tail):=Ji [111,102,102,115,101,116,58] y;have a:=Ji _ m;rw[vU]at a;obtain⟨_,_,q,E⟩:=B.first c rs _ _ a;have hw:=o7 (o.map zI) _ m (by rw[E];exact j);rw[Z2 o H,vU]at hw;have K:xx rs (D+1+7)=D+1+7:=by
    unfold bD at j;simp only[zv,zm]at j;cases hx:o.map zI with
    |nil=>rw[hx]at j;simp at j
    |cons x t =>
     rw[hx]at m j;exact Fm m (Um (j.1.1.2 x zV)).1
   refine⟨D+1+7+o.length,?_,a,yF⟩;unfold Uu;rw[I,yK ⟨F,by unfold Du;rw[y];exact decide_eq_true rfl⟩,K,hw,then_ok]
 obtain⟨p,p1,p2,M⟩:=k;have A:=og p2;obtain⟨g,g1,g2⟩:=B.read rs tail p p2 (rs.length+1) .nil J (.inl c);have r:=Ji _ p2;refine⟨p+ls.length,g,?_,g2⟩;unfold gH;rw[Ue h,then_ok,k1,k2,then_ok,Fm h2 zW,yv (by rw[EH h2];decide),u,f1,then_ok,yv f2,f3];show(ua rs 44 (xx rs _)).then _=_;rw[Fm l zW,Ue l,then_ok,z,p1,then_ok];show(qx rs (mD rs d) (decide (f≠0)) (rs.length+1) .nil (xx rs p)).then _=_;rw[g1,then_ok,Ue r,then_ok];congr 2;omega
def PQ.br{num:Bool}{n o:Wd}{f:Nat}{r:Fo}{ls ws:List Int}(hn:tG n)(hf:f<3)(l:zo7 f o)(e:bs ≠ .nil)(B:LQ d (decide (f≠0)) bs ls)(R:PQ d num r ws) :
  PQ d num (.br n p f o c bs r) ((123::(n.map zI++44::32::((qC f).map zI++44::(Ej o++(ls++[125])))))++ws):=by
 have a:Asc (qC f):=by
  have j:f=0\/f=1\/f=2:=J;rcases j with rfl|rfl|rfl<;>(unfold Asc;decide)
 have b:(∀v∈Ej o,Fp v)/\(Ej o).flatMap enc=if 0<yb o then [32,111,102,102,115,101,116,58]++zn (yb o)else []:=by
  unfold Ej;rcases l with rfl|⟨u,m,t,s,w⟩
  .rw[yv zW,yv zW];exact⟨λv hv=>(by cases hv),rfl⟩
  .rw[yK m,yK m,t];refine⟨λv hv=>?_,?_⟩
   .rcases zS.1 hv with hv|hv
    .exact Zj (n:=[32,111,102,102,115,101,116,58]) (by unfold Asc;decide) v hv
    .exact Zj s v hv
   .rw[yh,Z2 o s,show([32,111,102,102,115,101,116,58]:List Int).flatMap enc=[32,111,102,102,115,101,116,58]by decide]
 refine PQ.one (x := .br n p f o c bs .nil) (λ_=>rfl) rfl (λh=>xp) (λ_=>rfl) (λ_ _ h=>by cases h) ?_ ?_ (λ_=>zV) zV R ?_
 .intro v hv;rcases yV.1 hv with rfl|hv
  .exact dY (c:=123) zW
  rcases zS.1 hv with hv|hv
  .exact Zj hn.1 v hv
  rcases yV.1 hv with rfl|hv
  .exact dY (c:=44) zW
  rcases yV.1 hv with rfl|hv
  .exact dY (c:=32) zW
  rcases zS.1 hv with hv|hv
  .exact Zj a v hv
  rcases yV.1 hv with rfl|hv
  .exact dY (c:=44) zW
  rcases zS.1 hv with hv|hv
  .exact b.1 v hv
  rcases zS.1 hv with hv|hv
  .exact B.ok v hv
  .rw[zG.1 hv];exact dY (c:=125) zW
 .show 123::(n++([44,32]++(qC f++44::((if 0<yb o then [32,111,102,102,115,101,116,58]++zn (yb o)else [])++(wr (decide (f≠0)) bs++125::wr num r)))))=_;rw[<-b.2,B.bytes];simp only[zh,yh,Dl];rw[Z2 n hn.1,Z2 _ a,show enc 123=[123]by decide,show enc 44=[44]by decide,show enc 32=[32]by decide,show enc 125=[125]by decide];simp
 .intro rs tail i h k acc;have h0:rs.drop i=123::(n.map zI++44::32::((qC f).map zI++44::(Ej o++(ls++125::tail)))):=by rw[h];simp
  obtain⟨q,g,g1,g2⟩:=xx2 hn hf l e B h0;refine⟨.br n i f o q g .nil,λ_=>rfl,λh=>xp,?_,?_⟩
  .show Fo.br n 0 f o 0 g.bare .nil=Fo.br n 0 f o 0 bs.bare .nil;rw[g2]
  .rw[go_arg h0 g1];congr 1;simp;omega
def V5:∀(f:Fo) (d:Nat) (num:Bool),f.cn d num->(f.ya=true->∃vs,PQ d num f vs)/\(f.xm=true->∃vs,LQ d num f vs)
 |.nil,d,num,_=>⟨λ_=>⟨[],PQ.nil⟩,λ_=>⟨[],LQ.nil⟩⟩
 |.text t r,d,num,h=>by
  obtain⟨⟨us,h1,h2,g⟩,i,a,b⟩:=h;obtain⟨ws,R⟩:=(V5 r d num b).1 a;obtain⟨vs,T⟩:=Of num us.length us (Y _) h1;exact⟨λ_=>⟨_,PQ.text T h2 g i R⟩,λq=>kG⟩
 |.hash r,d,num,h=>by
  obtain⟨rfl,a,b⟩:=h;obtain⟨ws,R⟩:=(V5 r d true b).1 a;exact⟨λ_=>⟨_,PQ.hash R⟩,λq=>kG⟩
 |.put n p r,d,num,h=>by
  obtain⟨h1,a,b⟩:=h;obtain⟨ws,R⟩:=(V5 r d num b).1 a;exact⟨λ_=>⟨_,PQ.put h1 R⟩,λq=>kG⟩
 |.num n p r,d,num,h=>by
  obtain⟨h1,a,b⟩:=h;obtain⟨ws,R⟩:=(V5 r d num b).1 a;exact⟨λ_=>⟨_,PQ.num h1 R⟩,λq=>kG⟩
 |.br n p f o c bs r,d,num,h=>by
  obtain⟨h1,h2,g,i,a,b,j,l⟩:=h;obtain⟨ws,R⟩:=(V5 r d num l).1 j;obtain⟨ls,B⟩:=(V5 bs d _ b).2 a;exact⟨λ_=>⟨_,PQ.br h1 h2 g i B R⟩,λq=>kG⟩
 |.xi k p m r,d,num,h=>by
  obtain⟨h1,⟨e,rfl,h2,g⟩,i,a⟩:=h;obtain⟨s,M⟩:=(V5 m e num g).1 h2;obtain⟨ws,R⟩:=(V5 r (e+1) num a).2 i;exact⟨λq=>kG,λ_=>⟨_,LQ.xi h1 h2 M R⟩⟩
def tF(h:f.cn 5 false)(hm:f.ya=true)(a:(wr false f).length<=1000):∃g,vv (wr false f) = .ok g/\g.bare=f.bare:=by
 obtain⟨vs,P⟩:=(V5 f 5 false h).1 hm;obtain⟨r1,r2⟩:=Sm vs P.ok;obtain⟨g,g1,g2⟩:=P.read vs [] 0 zV (.inl rfl) (vs.length+1) .nil J (λ_=>NT.nil);refine⟨g,?_,g2⟩;rw[P.bytes]at a|-;unfold vv;rw[yv J,yv J,r1];unfold gg;rw[oq,g1,then_ok,yK (xyd zV)]
def oZ:∀(n:Nat) (o:Wd),o.length=n->o≠[]->(∀c∈o,48<=c.toNat/\c.toNat<=57)->(o.length=1\/o.headD 0≠48)->zn (yb o)=o/\(o.headD 0≠48->0<yb o):=by
 intro n;induction n with
 |zero=>intro o h h0;exact absurd (zN h) h0
 |succ n p =>
  intro o h h0 hd k;obtain⟨t,c,rfl⟩:∃t c,o=t++[c]:=⟨o.dropLast,o.getLast h0,by rw[List.dropLast_concat_getLast]⟩;have hc:=hd c zV;have j:t.length=n:=by simpa using h
  have hv:yb (t++[c])=10*yb t+(c.toNat - 48):=by unfold yb;rw[TF];rfl
  have b:uZ (48+(c.toNat - 48))=c:=by
   apply Xf.1;rw[Xg,VS J];omega
  by_cases f:t=[]
  .subst f;have i:yb ([]++[c])=c.toNat - 48:=(by rw[hv];show 10*0+_=_;omega);rw[i,zn,dif_pos J,b];refine⟨rfl,λd=>?_⟩;have d:c≠48:=d;have:c.toNat≠48:=λe=>d (Xf.1 e)
   omega
  .have g:(t++[c]).headD 0=t.headD 0:=by
    cases t with
    |nil=>exact absurd rfl f
    |cons x r=>rfl
   have a:t.headD 0≠48:=by
    rcases k with q|q
    .have:=zt.2 f;rw[zy,kX]at q;omega
    .rw[g]at q;exact q
   obtain⟨l,m⟩:=p t j f (λx hx=>hd x (by simp[hx])) (.inr a);have hp:=m a;rw[hv,zn,dif_neg J,show(10*yb t+(c.toNat - 48)) / 10=yb t by omega,show(10*yb t+(c.toNat - 48)) % 10=c.toNat - 48 by omega,l,b];exact⟨rfl,λ_=>J⟩
variable{x:Wd}
def Ss:∀N:List Int,(∀r∈N,0<=r/\r<128)->(N.flatMap enc).map zI=N/\Asc (N.flatMap enc)
 |[],_=>⟨rfl,λc hc=>by cases hc⟩
 |r::N,h=>by
  have h0:=h r zV;obtain⟨h1,h2⟩:=Ss N (λx hx=>h x (by simp[hx]));obtain⟨c,hc,rfl⟩:∃c:UInt8,c.toNat<=127/\r=zI c:=⟨uZ r.toNat,by rw[ET J];omega,by simp only[zI];rw[ET J];omega⟩;rw[zh,ycj hc];refine⟨?_,?_⟩
  .rw[Tn,h1];rfl
  .intro d hd;rcases zS.1 hd with hd|hd
   .rw[zG.1 hd];exact hc
   .exact h2 d hd
def St{F:Int->Nat->Bool}(hF:∀r k,F r k=true->0<=r/\r<128)(hn:runN F rs i=n):∃N,N.length=n/\(∀k,k<n->N.getD k (-1)=yz rs (i+k)/\F (N.getD k (-1)) k=true)/\(um rs i n).map zI=N/\Asc (um rs i n):=by
 have hf:∀k,k<n->F (yz rs (i+k)) k=true:=λk a=>Qq (by rw[hn];exact a)
 have e:∀k,k<n->i+k<rs.length:=λk a=>by
  refine Nat.lt_of_not_le (λf=>?_);have:=(hF _ _ (hf k a)).1;rw[kP f]at this;omega
 obtain⟨N,c⟩:=zw ((rs.drop i).take n);have g:N.length=n:=by
  rw[<-c,u4,yr];by_cases h0:n=0
  .omega
  .have:=e (n - 1) J;omega
 have d:∀k,k<n->N.getD k (-1)=yz rs (i+k):=λk a=>by
  unfold yz;rw[zA,zA,<-c,OJ,yK a,Uw]
 have b:∀r∈N,0<=r/\r<128:=λr hr=>by
  obtain⟨k,a,rfl⟩:=ja.1 hr;have h1:=d k J;rw[zA,zj a]at h1;have h2:N[k]=yz rs (i+k):=h1;rw[h2];exact hF _ _ (hf k J)
 obtain⟨b1,b2⟩:=Ss N b;have hp:um rs i n=N.flatMap enc:=by unfold um;rw[c]
 exact⟨N,g,λk a=>⟨d k a,by rw[d k a];exact hf k a⟩,by rw[hp];exact b1,by rw[hp];exact b2⟩
def oY(h:kS rs i = .ok (x,j)):tG x:=by
 unfold kS at h;split at h
 .cases h
 next hn =>
 cases h;obtain⟨N,h1,h2,b,d⟩:=St (F:=jw) (λr k hr=>by
  simp only[jw,qK,vN,zv,vW,decide_eq_true_eq,beq_iff_eq]at hr;exact J) (rs:=rs) (i:=i) (n:=ku rs i) rfl
 refine⟨d,λc hc=>?_⟩;rw[b];unfold YM;simp only[zv,vA,zm,Y2];refine⟨⟨?_,λk e=>(h2 k J).2⟩,?_⟩
 .cases N with
  |nil=>simp at h1;omega
  |cons a t=>rfl
 .unfold jw;rcases hc with rfl|rfl|rfl<;>simp[qK,vN]
def Eg(h:qR rs i = .ok (x,j)):Asc x/\bD (x.map zI) 32=true/\(∀c∈x,48<=c.toNat/\c.toNat<=57)/\x≠[]/\(x.length=1\/x.headD 0≠48):=by
 unfold qR at h;split at h
 .cases h
 next hn =>
 cases h;obtain⟨n,l⟩:=zw (qj rs i);have hd:∀r k,gj (yz rs i) r k=true->k<9/\vN r=true/\(k=0\/yz rs i≠48):=λr k hr=>by
  unfold gj at hr;simp only[zv,vW,decide_eq_true_eq]at hr;exact⟨hr.1.1,hr.1.2,hr.2.imp id (λq=>by simpa using q)⟩
 obtain⟨N,h1,h2,d,g⟩:=St (F:=gj (yz rs i)) (λr k hr=>by
  have:=(hd r k hr).2.1;unfold vN at this;simp at this;exact J) (rs:=rs) (i:=i) (n:=n) l
 rw[l]at hn|-;obtain⟨x,hx⟩:=zw (um rs i n);rw[hx]at d g|-;have v:x.length=n:=by rw[<-h1,<-d,vU]
 have w:n<=9:=by
  have:=(hd _ _ (h2 (n - 1) J).2).1;omega
 have EB:∀r∈N,vN r=true:=λr hr=>by
  obtain⟨k,u,rfl⟩:=ja.1 hr;have:=(hd _ _ (h2 k J).2).2.1;rwa [zA,zj u]at this
 have b:N≠[]:=λe=>by rw[e]at h1;simp at h1;omega
 have f:n=1\/N.headD 0≠48:=by
  by_cases q:n=1
  .exact .inl q
  .have o:=(hd _ _ (h2 1 J).2).2.2;have p:=(h2 0 J).1;cases N with
   |nil=>exact absurd rfl b
   |cons a t =>
    have s:a=yz rs i:=p;refine .inr ?_;show a≠48;rw[s];exact o.elim (λq=>absurd q zW) id
 refine⟨g,?_,λc hc=>?_,λe=>b (by rw[<-d,e];rfl),?_⟩
 .rw[d];unfold bD;simp only[zv,vA,zm,decide_eq_true_eq,vW];refine⟨⟨⟨⟨?_,J⟩,EB⟩,?_⟩,zW⟩
  .cases N with
   |nil=>exact absurd rfl b
   |cons a t=>rfl
  .exact f.imp (λq=>J) (λq=>by simpa using q)
 .have:=EB (zI c) (by rw[<-d];exact wC hc);unfold vN at this;simp[zI]at this;omega
 .rcases f with q|q
  .exact .inl J
  .refine .inr λe=>q ?_
   cases x with
   |nil=>rw[<-d]at b;exact absurd rfl b
   |cons c t =>
    have m:c=48:=e;rw[<-d,m];rfl
def zo9{num:Bool}{k:Wd}(h:YJ rs num i = .ok (k,j)):zo6 num k:=by
 unfold YJ at h;split at h
 .next b =>
  obtain⟨a,q,h1,h2⟩:=zF h;cases h2;obtain⟨w1,w2,_⟩:=Eg h1;exact .inl ⟨a,rfl,b.1,w1,w2⟩
 .obtain⟨a,q,h1,h2⟩:=zF h;split at h2
  .cases h2
  .next b =>
   cases h2;exact .inr ⟨oY h1,λhn=>yy λq=>b ⟨hn,q⟩⟩
def zoz{form:Nat}{o:Wd}(h:Uu rs form i = .ok (o,j)):zo7 form o:=by
 unfold Uu at h;split at h
 .next e =>
  obtain⟨a,q,h1,h2⟩:=zF h;cases h2;obtain⟨w1,w2,w3,f,b⟩:=Eg h1;obtain⟨d1,d2⟩:=oZ o.length o rfl f w3 b;by_cases d:o.headD 0=48
  .rcases b with b|b
   .refine .inl ?_;match o,b,d with
    |[c],_,d=>rw[show c=48 from d]
   .exact absurd d b
  .exact .inr ⟨e.1,d2 d,d1,w1,w2⟩
 .cases h;exact .inl rfl
def zoy(l:List UInt8):XI (bk l).1:=by
 have hb:=(l.getD 0 0).toNat_lt;have a:=(l.getD 1 0).toNat_lt;have b:=(l.getD 2 0).toNat_lt;have c:=(l.getD 3 0).toNat_lt;unfold XI bk kE;repeat' split
 all_goals (simp only[];omega)
def Sh:∀(n:Nat) (l:List UInt8),l.length<=n->∀r∈xk l,Fp r
 | 0,l,h=>by
  have:l=[]:=zN J;subst this;rw[jO];intro r hr;cases hr
 |n+1,l,h=>by
  by_cases a:l=[]
  .subst a;rw[jO];intro r hr;cases hr
  by_cases h0:xK l=0
  .rw[xk,dif_pos (.inr h0)];intro r hr;cases hr
  .rw[jP a h0];have:=zt.2 a;intro r hr;rcases yV.1 hr with rfl|hr
   .exact⟨_,zoy l,rfl⟩
   .exact Sh n (l.drop (xK l)) yF r hr
def Fb:∀(n:Nat) (l:List Int),l.length<=n->∀r∈(xg l).1,r∈l
 | 0,l,h=>by
  have:l=[]:=zN J;subst this;intro r hr;rw[xg]at hr;cases hr
 |n+1,[],_=>λr hr=>by rw[xg]at hr;cases hr
 |n+1,c::t,h=>by
  intro r hr;rw[xg.eq_def]at hr;simp only at hr;simp only[zY]at h;split at hr
  .next hc =>
   split at hr
   .cases hr
   .next d u =>
    split at hr
    .rcases yV.1 hr with rfl|hr
     .simp[hc]
     .have:=Fb n u GV r hr;simp[this]
    .cases hr
  .rcases yV.1 hr with rfl|hr
   .simp
   .have:=Fb n t J r hr;simp[this]
def Sw(t:Wd):Prop:=∃us:List Int,(∀u∈us,Fp u)/\us≠[]/\t=us.flatMap enc
def Sw.app{s:Wd}(h:Sw s)(h2:Sw t):Sw (s++t):=by
 obtain⟨us,a1,a2,rfl⟩:=h;obtain⟨vs,b1,b2,rfl⟩:=h2;exact⟨us++vs,λu a=>(zS.1 a).elim (a1 u) (b1 u),by simp[a2],by rw[yh]⟩
def ycf:Fp 39:=dY (c:=39) zW
def tD{rs:List Int}{num:Bool}(hr:∀r∈rs,Fp r)(h:yz rs i≠-1):Sw (qq rs num i).1:=by
 have hn:∀j,yz rs j≠-1->Fp (yz rs j):=λj f=>by
  by_cases d:j<rs.length
  .rw[ME d];exact hr _ (yf d)
  .exact absurd (kP J) f
 have one:∀u,Fp u->Sw (enc u):=λu c=>⟨[u],λv hv=>by rw[zG.1 hv];exact c,zV,zV⟩
 unfold qq;split
 .exact one _ (hn i h)
 split
 .exact one _ ycf
 next b =>
 split
 .exact one _ ycf
 .next a =>
  refine⟨(xg (rs.drop (i+1))).1,λu c=>hr _ (jz (Fb _ _ (Y _) u c)),?_,rfl⟩;cases hd:rs.drop (i+1) with
  |nil =>
   rw[xyd hd]at a;exact absurd (by cases num<;>rfl) a
  |cons x t =>
   have:x≠39:=λe=>b (by rw[EH hd,e])
   rw[xg.eq_def];simp[this]
def gR:∀f g:Fo,f.ya=true->g.ya=true->(f.app g).ya=true
 |.nil,g,_,h=>h
 |.text t r,g,h,h2=>gR r g h h2
 |.hash r,g,h,h2=>gR r g h h2
 |.put n a r,g,h,h2=>gR r g h h2
 |.num n a r,g,h,h2=>gR r g h h2
 |.br n a f o c b r,g,h,h2=>gR r g h h2
def V6{d:Nat}{b:Bool}{x:Fo}(hx:x.cn d b)(hm:x.ya=true)(g:∀s q,x ≠ .text s q):∀f:Fo,f.cn d b->f.ya=true->(f.app x).cn d b
 |.nil,_,_=>hx
 |.text t r,h,hf=>by
  refine⟨h.1,λs q=>?_,gR r x h.2.2.1 hm,V6 hx hm g r h.2.2.2 h.2.2.1⟩;cases r with
  |nil=>exact g s q
  |text i q2=>exact absurd rfl (h.2.1 i q2)
  |_=>exactλe=>gG
 |.hash r,h,hf=>⟨h.1,gR r x h.2.1 hm,V6 hx hm g r h.2.2 h.2.1⟩
 |.put n a r,h,hf=>⟨h.1,gR r x h.2.1 hm,V6 hx hm g r h.2.2 h.2.1⟩
 |.num n a r,h,hf=>⟨h.1,gR r x h.2.1 hm,V6 hx hm g r h.2.2 h.2.1⟩
 |.br n a f o c bs r,h,hf=>⟨h.1,h.2.1,h.2.2.1,h.2.2.2.1,h.2.2.2.2.1,h.2.2.2.2.2.1,gR r x h.2.2.2.2.2.2.1 hm,V6 hx hm g r h.2.2.2.2.2.2.2 h.2.2.2.2.2.2.1⟩
 |.xi k a m r,h,hf=>Vt
def oX{d:Nat}{b:Bool}{x:Fo}(hx:x.cn d b)(hm:x.xm=true):∀f:Fo,f.cn d b->f.xm=true->(f.app x).cn d b
 |.nil,_,_=>hx
 |.text t r,h,hf=>Vt
 |.hash r,h,hf=>Vt
 |.put n a r,h,hf=>Vt
 |.num n a r,h,hf=>Vt
 |.br n a f o c bs r,h,hf=>Vt
 |.xi k a m r,h,hf=>⟨h.1,h.2.1,Fo.gi _ _ h.2.2.1 hm,oX hx hm r h.2.2.2 h.2.2.1⟩
def XE{d:Nat}{b:Bool}(ht:Sw t):∀f:Fo,f.cn d b->f.ya=true->(f.yn t).cn d b/\(f.yn t).ya=true
 |.nil,_,_=>⟨⟨ht,λ_ _ e=>gG,rfl,trivial⟩,rfl⟩
 |.text s .nil,h,hf=>⟨⟨Sw.app h.1 ht,λ_ _ e=>gG,rfl,trivial⟩,rfl⟩
 |.text s (.text g q2),h,hf=>absurd rfl (h.2.1 g q2)
 |.text s (.hash r),h,hf=>by
  obtain⟨k1,k2⟩:=XE ht (.hash r) h.2.2.2 h.2.2.1;exact MK
 |.text s (.put n a r),h,hf=>by
  obtain⟨k1,k2⟩:=XE ht (.put n a r) h.2.2.2 h.2.2.1;exact MK
 |.text s (.num n a r),h,hf=>by
  obtain⟨k1,k2⟩:=XE ht (.num n a r) h.2.2.2 h.2.2.1;exact MK
 |.text s (.br n a f o c bs r),h,hf=>by
  obtain⟨k1,k2⟩:=XE ht (.br n a f o c bs r) h.2.2.2 h.2.2.1;exact MK
 |.text s (.xi k a m r),h,hf=>Vt
 |.hash r,h,hf=>Wk
 |.put n a r,h,hf=>Wk
 |.num n a r,h,hf=>Wk
 |.br n a f o c bs r,h,hf=>by
  obtain⟨k1,k2⟩:=XE ht r h.2.2.2.2.2.2.2 h.2.2.2.2.2.2.1;exact⟨⟨h.1,h.2.1,h.2.2.1,h.2.2.2.1,h.2.2.2.2.1,h.2.2.2.2.2.1,k2,k1⟩,k2⟩
 |.xi k a m r,h,hf=>Vt
def T4(d:Nat)(m:jJ):Prop:=∃e,d=e+1/\∀num i f j,m num i = .ok (f,j)->f.cn e num/\f.ya=true
section
variable {rs:List Int} {d:Nat} {msg:Option jJ}
def xx3{num:Bool}(hm:∀m,msg=some m->T4 d m)(h:bM rs msg num i = .ok (f,j)):f.cn d num/\f.xm=true/\f ≠ .nil:=by
 unfold bM at h;obtain⟨k,a,h1,h2⟩:=zF h;obtain⟨u,b,s,l⟩:=zF h2;have r:=zo9 h1;cases msg with
 |none=>cases l
 |some m =>
  obtain⟨g,c,n,o⟩:=zF (show(m num b).then _=_ from l);obtain⟨u2,z,t,p⟩:=zF o;obtain⟨e,he,hc⟩:=hm m rfl;obtain⟨c1,c2⟩:=hc _ _ _ _ n;cases p;exact⟨⟨r,⟨e,he,c2,c1⟩,rfl,trivial⟩,rfl,λq=>kG⟩
def oV{num:Bool}(hm:∀m,msg=some m->T4 d m):∀(n:Nat) (acc:Fo) (i j:Nat) (f:Fo),qx rs msg num n acc i = .ok (f,j)->acc.cn d num->acc.xm=true->f.cn d num/\f.xm=true/\f ≠ .nil
 | 0,acc,i,j,f,h,_,_=>xp
 |n+1,acc,i,j,f,h,ha,hb=>by
  rw[qx]at h;split at h
  .next a =>
   cases h;exact⟨ha,hb,λe=>a.2 (by rw[e];rfl)⟩
  .obtain⟨g,q,h1,h2⟩:=zF h;obtain⟨g1,g2,b⟩:=xx3 hm h1;exact oV hm n _ _ _ _ h2 (oX g1 g2 acc ha hb) (Fo.gi _ _ hb g2)
def xx4{b0:Bool}(hm:∀m,msg=some m->T4 d m)(h:gH rs msg i = .ok (f,j)):f.cn d b0/\f.ya=true/\∀s q,f ≠ .text s q:=by
 unfold gH at h;obtain⟨u,a,h1,h2⟩:=zF h;obtain⟨nm,b,x,n⟩:=zF h2;have hn:=oY x;clear h h1 h2 x;split at n
 .obtain⟨u,z,y,k⟩:=zF n;cases k;exact⟨⟨hn,rfl,trivial⟩,rfl,λ_ _ e=>gG⟩
 .obtain⟨E,c,y,k⟩:=zF n;clear n y;split at k
  .obtain⟨u,z,B,w⟩:=zF k;cases w;exact⟨⟨hn,rfl,trivial⟩,rfl,λ_ _ e=>gG⟩
  .split at k
   .cases k
   .next form g =>
    obtain⟨u,d2,B,w⟩:=zF k;obtain⟨o,l,C,p⟩:=zF w;obtain⟨bs,q,r,t⟩:=zF p;obtain⟨u,z,A,v⟩:=zF t;have D:=zoz C;obtain⟨b1,b2,b3⟩:=oV hm _ _ _ _ _ r trivial rfl;have hf:form<3:=by
     unfold Ux at g;split at g
     .cases g;omega
     split at g
     .cases g;omega
     split at g
     .cases g;omega
     .cases g
    cases v;exact⟨⟨hn,hf,D,b3,b2,b1,rfl,trivial⟩,rfl,λ_ _ e=>gG⟩
def Ef{num:Bool}(hr:∀r∈rs,Fp r)(hm:∀m,msg=some m->T4 d m):∀(n:Nat) (acc:Fo) (i j:Nat) (f:Fo),vJ rs msg num n acc i = .ok (f,j)->acc.cn d num->acc.ya=true->f.cn d num/\f.ya=true
 | 0,acc,i,j,f,h,_,_=>xp
 |n+1,acc,i,j,f,h,ha,hb=>by
  rw[vJ]at h;split at h
  .cases h;exact⟨ha,hb⟩
  next a =>
  split at h
  .obtain⟨g,q,h1,h2⟩:=zF h;obtain⟨g1,g2,b⟩:=xx4 (b0:=num) hm h1;exact Ef hr hm n _ _ _ _ h2 (V6 g1 g2 b acc ha hb) (gR _ _ hb g2)
  split at h
  .next c =>
   exact Ef hr hm n _ _ _ _ h (V6 (x := .hash .nil) ⟨c.2,rfl,trivial⟩ rfl (λ_ _ e=>gG) acc ha hb) (gR _ _ hb rfl)
  .obtain⟨t1,t2⟩:=XE (tD (num:=num) hr (λq=>a (.inl q))) acc ha hb;exact Ef hr hm n _ _ _ _ h t1 t2
def oU(hr:∀r∈rs,Fp r):∀n,T4 (n+1) (gI rs n)
 | 0=>⟨0,rfl,λnum i f j h=>by
  rw[gI]at h;exact Ef (d:=0) hr (λm e=>gG) _ _ _ _ _ h trivial rfl⟩
 |n+1=>⟨n+1,rfl,λnum i f j h=>by
  rw[gI]at h;exact Ef hr (λm e=>by cases e;exact oU hr n) _ _ _ _ _ h trivial rfl⟩
end
def Od(h:vv l = .ok f):f.cn 5 false/\f.ya=true:=by
 unfold vv at h;split at h
 .cases h
 split at h
 .cases h
 cases hp:gg (xk l) with
 |error e=>rw[hp]at h;cases h
 |ok x =>
  rw[hp]at h;cases h;unfold gg at hp;obtain⟨g,q,h1,h2⟩:=zF (b:=x.1) (j:=x.2) hp;split at h2
  .cases h2;obtain⟨e,he,hc⟩:=oU (Sh _ l (Y _)) 5;obtain rfl:e=5:=(by omega);exact hc _ _ _ _ h1
  .cases h2
def eA(h:vv l = .ok f)(a:(wr false f).length<=1000):∃g,vv (wr false f) = .ok g/\g.bare=f.bare :=
 tF (Od h).1 (Od h).2 a
def FZ:∀f:Fo,f.bare.keys=f.keys
 |.xi k _ _ r=>congrArg (k :: ·) (FZ r)
 |.nil=>rfl
 |.text _ _=>rfl
 |.hash _=>rfl
 |.put _ _ _=>rfl
 |.num _ _ _=>rfl
 |.br _ _ _ _ _ _ _=>rfl
def FY:∀(f:Fo) (s:MkS) (a:List Nat),MkS.vR f.bare s a=MkS.vR f s a
 |.xi k _ _ r,s,a=>by
  show MkS.vR (.xi k 0 _ r.bare) s a=_;rw[MkS.vR,MkS.vR,FY r,FY r]
 |.nil,_,_=>rfl
 |.text _ _,_,_=>rfl
 |.hash _,_,_=>rfl
 |.put _ _ _,_,_=>rfl
 |.num _ _ _,_,_=>rfl
 |.br _ _ _ _ _ _ _,_,_=>rfl
def FX:∀(f:Fo) (s:MkS) (a:List (Wd×Nat)),MkS.vX f.bare s a=MkS.vX f s a
 |.xi k _ _ r,s,a=>by
  show MkS.vX (.xi k 0 _ r.bare) s a=_;rw[MkS.vX,MkS.vX,FX r,FX r]
 |.nil,_,_=>rfl
 |.text _ _,_,_=>rfl
 |.hash _,_,_=>rfl
 |.put _ _ _,_,_=>rfl
 |.num _ _ _,_,_=>rfl
 |.br _ _ _ _ _ _ _,_,_=>rfl
def LK(n:Wd)(f:Fo)(s:MkS):MkS.fy n f.bare s=MkS.fy n f s:=FY f _ _
def LJ(n o:Wd)(f:Fo)(s:MkS):MkS.VH n o f.bare s=MkS.VH n o f s:=FX f _ _
def tB(n:Wd)(f:Fo)(s:MkS):MkS.bO n f.bare s=MkS.bO n f s:=by
 funext k x;unfold MkS.bO;rw[LK,FZ]
def tC(n o:Wd)(f:Fo)(s:MkS):MkS.kV n o f.bare s=MkS.kV n o f s:=by
 funext k x;unfold MkS.kV;rw[LJ,FZ]
def tE(n:Wd)(f:Fo)(s:MkS):MkS.ki n f.bare s=MkS.ki n f s:=by unfold MkS.ki;rw[LK]
def tH(n o:Wd)(x:Nat)(f:Fo)(s:MkS):MkS.kU n o x f.bare s=MkS.kU n o x f s:=by unfold MkS.kU;rw[LJ]
def jW:∀(f:Fo) (a:Wd->MkS->MkS) (s:MkS) (ls:List Nat),MkS.uw f.bare a s ls=MkS.uw f a s ls
 |.nil,_,_,_=>rfl
 |.text t r,a,s,ls=>jW r a _ ls
 |.hash r,a,s,ls=>jW r a _ ls
 |.put n _ r,a,s,ls=>jW r a _ ls
 |.num n _ r,a,s,ls=>jW r a _ ls
 |.br n _ f o _ bs r,a,s,ls=>by
  show MkS.uw (.br n 0 f o 0 bs.bare r.bare) a s ls=_;rw[MkS.uw,MkS.uw];split
  .simp only[tB,tE,jW bs,jW r]
  .simp only[tC,tH,jW bs,jW r]
 |.xi k _ m r,a,s,ls=>by
  show MkS.uw (.xi k 0 m.bare r.bare) a s ls=_;rw[MkS.uw,MkS.uw];simp only[jW m,jW r]
def T5(f:Fo):MkS.all f.bare=MkS.all f:=by unfold MkS.all MkS.Zx;rw[jW]
def bC:∀(f:Fo) (b:Bool),wr b f.bare=wr b f
 |.nil,_=>rfl
 |.text t r,b=>by
  show KD b t++wr b r.bare=KD b t++wr b r;rw[bC r]
 |.hash r,b=>congrArg (35 :: ·) (bC r b)
 |.put n _ r,b=>by
  show 123::(n++125::wr b r.bare)=123::(n++125::wr b r);rw[bC r]
 |.num n _ r,b=>by
  show 123::(n++(_++wr b r.bare))=123::(n++(_++wr b r));rw[bC r]
 |.br n _ f o _ bs r,b=>by
  show 123::(n++([44,32]++(qC f++44::(_++(wr (decide (f≠0)) bs.bare++125::wr b r.bare)))))=123::(n++([44,32]++(qC f++44::(_++(wr (decide (f≠0)) bs++125::wr b r)))));rw[bC bs,bC r]
 |.xi k _ m r,b=>by
  show 32::(k++([32,123]++(wr b m.bare++125::wr b r.bare)))=32::(k++([32,123]++(wr b m++125::wr b r)));rw[bC m,bC r]
def oQ(s t:KP):Prop:=s.1=t.1/\s.2.length=t.2.length
def T6(c b:Nat):∀(f:Fo) (xC:List Wd) (a a':List (Nat×Nat)),a.length=a'.length->(K6 c xC a f).length=(K6 b xC a' f.bare).length
 |.xi k p m r,xC,a,a',h=>by
  show _=(K6 b xC a' (.xi k 0 m.bare r.bare)).length;rw[K6,K6];refine T6 c b r _ _ _ ?_;split<;>simp[h]
 |.nil,xC,a,a',h=>I7
 |.text _ _,xC,a,a',h=>I7
 |.hash _,xC,a,a',h=>I7
 |.put _ _ _,xC,a,a',h=>I7
 |.num _ _ _,xC,a,a',h=>I7
 |.br _ _ _ _ _ _ _,xC,a,a',h=>I7
def KB{s t:KP}(h:oQ s t)(n:Wd)(a a' k:Nat):oQ (uV s n a k) (uV t n a' k):=by
 obtain⟨b,c⟩:=s;obtain⟨t1,t2⟩:=t;obtain⟨h1,h2⟩:=h;dsimp only at h1 h2;subst h1;unfold uV;dsimp only;split
 .exact⟨rfl,by simp[h2]⟩
 split
 .exact⟨rfl,h2⟩
 .exact⟨rfl,h2⟩
def jh:∀(f:Fo) (s t:KP),oQ s t->∃s' t',vg gB f s = .go true s'/\vg gB f.bare t = .go true t'/\oQ s' t'
 |.nil,s,t,h=>⟨s,t,rfl,rfl,h⟩
 |.text _ r,s,t,h=>jh r s t h
 |.hash r,s,t,h=>jh r s t h
 |.put n a r,s,t,h=>jh r _ _ (KB h n a 0 0)
 |.num n a r,s,t,h=>jh r _ _ (KB h n a 0 1)
 |.br n a f o c bs r,s,t,h=>by
  have p:jH (.br n a f o c bs .nil)=jH (.br n 0 f o 0 bs.bare .nil):=rfl;have h1:=KB h n a 0 (jH (.br n a f o c bs .nil));obtain⟨j,t1,d,b,h2⟩:=jh bs ((uV s n a (jH (.br n a f o c bs .nil))).1,(uV s n a (jH (.br n a f o c bs .nil))).2++K6 c [] [] bs) ((uV t n 0 (jH (.br n a f o c bs .nil))).1,(uV t n 0 (jH (.br n a f o c bs .nil))).2++K6 0 [] [] bs.bare) ⟨h1.1,by rw[zy,zy,h1.2,T6 c 0 bs [] [] [] rfl]⟩;obtain⟨l,t2,e,g,i⟩:=jh r j t1 h2;refine⟨l,t2,?_,?_,i⟩
  .show(vg gB bs _).then (λs=>vg gB r s)=_;rw[d];exact e
  .show(vg gB bs.bare _).then (λs=>vg gB r.bare s)=_;rw[p]at b;rw[b];exact g
 |.xi k a m r,s,t,h=>by
  obtain⟨j,t1,d,b,h2⟩:=jh m s t h;obtain⟨l,t2,e,g,i⟩:=jh r j t1 h2;refine⟨l,t2,?_,?_,i⟩
  .show(vg gB m s).then (λs=>vg gB r s)=_;rw[d];exact e
  .show(vg gB m.bare t).then (λs=>vg gB r.bare s)=_;rw[b];exact g
def T7(f:Fo):fD f=none ↔ (gO f).length=0:=by
 unfold fD;cases gO f with
 |nil=>simp
 |cons a t=>simp
def T9(f:Fo):fD f.bare=none ↔ fD f=none:=by
 obtain⟨s,t,a,b,h⟩:=jh f ((λ_=>none),[]) ((λ_=>none),[]) ⟨rfl,rfl⟩;rw[T7,T7];unfold gO;rw[a,b];show t.2.length=0 ↔ s.2.length=0;rw[h.2]
def ee(h:uo l = .ok f)(b:(wr false f).length<=1000):∃g,uo (wr false f) = .ok g/\MkS.all g=MkS.all f/\wr false g=wr false f:=by
 unfold uo at h;cases hp:vv l with
 |error e=>rw[hp]at h;cases h
 |ok x =>
  rw[hp]at h;dsimp only at h;cases hc:fD x with
  |some e=>rw[hc]at h;cases h
  |none =>
   rw[hc]at h;cases h;obtain⟨g,h1,h2⟩:=eA hp b;have a:fD g=none:=(T9 g).1 (by rw[h2];exact(T9 f).2 hc);refine⟨g,?_,by rw[<-T5 g,h2,T5],by rw[<-bC g,h2,bC]⟩;unfold uo;rw[h1];dsimp only;rw[a]
structure Ob(o:Wd):Prop where
 len:o.length<=9
 dig:o.all yC=true
 ne:o≠[]
 lead:o.length=1\/o.headD 0≠48
def zox:Ob [48]:=⟨zW,zW,zW,.inl rfl⟩
def Ob.val{o:Wd}(h:Ob o):zn (yb o)=o/\(o=[48] ↔ yb o=0):=by
 have hd:∀c∈o,48<=c.toNat/\c.toNat<=57:=λc hc=>by
  have:=(vy c).1 (zm.1 h.dig c hc);omega
 obtain⟨h1,h2⟩:=oZ o.length o rfl h.ne hd h.lead;refine⟨h1,λe=>by subst e;rfl,λe=>?_⟩;have a:o.headD 0=48:=yy λq=>by have:=h2 q;omega
 rcases h.lead with q|q
 .match o,q,a with
  |[c],_,a=>rw[show c=48 from a]
 .exact absurd a q
def Fo.bl:Fo->Prop
 |.nil=>True
 |.text _ r=>r.bl
 |.hash r=>r.bl
 |.put n _ r=>n.length<=16/\r.bl
 |.num n _ r=>n.length<=16/\r.bl
 |.br n _ f o _ bs r=>n.length<=16/\f<3/\Ob o/\bs.bl/\r.bl
 |.xi _ _ m r=>m.bl/\r.bl
def KC{n:Wd}(h:tG n):n.length<=16:=by
 have a:=h.2 125 (.inl rfl);unfold YM at a;simp only[zv,vA,zm,Y2]at a;by_cases h0:n.length=0
 .omega
 have:=a.1.2 (n.length - 1) (by rw[vU];omega);unfold jw at this;simp only[zv,decide_eq_true_eq]at this;omega
def FV{o:Wd}{c:Int}(h:bD (o.map zI) c=true):Ob o:=by
 unfold bD at h;simp only[zv,vA,zm,decide_eq_true_eq,vW,vU]at h;obtain⟨⟨⟨⟨h1,h2⟩,b⟩,d⟩,f⟩:=h;refine⟨h2,?_,?_,?_⟩
 .rw[zm];intro x hx;have:=b (zI x) (wC hx);unfold vN at this;simp[zI]at this;exact(vy x).2 J
 .intro e;rw[e]at h1;simp at h1
 .refine d.imp id λq e=>?_
  cases o with
  |nil=>simp at h1
  |cons x t =>
   have a:x=48:=e;rw[a]at q;exact absurd q (by simp[zI])
def zov{f:Nat}{o:Wd}(h:zo7 f o):Ob o:=by
 rcases h with rfl|⟨_,_,_,_,h⟩
 .exact zox
 .exact FV h
def Zg:∀(f:Fo) (d:Nat) (b:Bool),f.cn d b->f.bl
 |.nil,_,_,_=>trivial
 |.text t r,d,b,h=>Zg r d b h.2.2.2
 |.hash r,d,b,h=>Zg r d b h.2.2
 |.put n a r,d,b,h=>⟨KC h.1,Zg r d b h.2.2⟩
 |.num n a r,d,b,h=>⟨KC h.1,Zg r d b h.2.2⟩
 |.br n a f o c bs r,d,b,h=>⟨KC h.1,h.2.1,zov h.2.2.1,Zg bs d _ h.2.2.2.2.2.1,Zg r d b h.2.2.2.2.2.2.2⟩
 |.xi k a m r,d,b,h=>by
  obtain⟨_,⟨e,_,_,g⟩,_,i⟩:=h;exact⟨Zg m e b g,Zg r d b i⟩
def tI{f:Nat}(h:f<3):(qC f).length<=13:=by
 have a:f=0\/f=1\/f=2:=J;rcases a with rfl|rfl|rfl<;>decide
def yg6{b:Bool}{k:Wd}(h:zo6 b k):k.length<=16:=by
 rcases h with⟨ds,rfl,_,_,hw⟩|⟨hn,_⟩
 .have:=(FV hw).len;simp;omega
 .exact KC hn
def V7:∀(f:Fo) (d:Nat) (b:Bool),f.cn d b->(wr b f).length<=4*f.uC
 |.nil,_,_,_=>Y _
 |.text t r,d,b,h=>by
  have h1:=V7 r d b h.2.2.2;have h2:(KD b t).length<=4*t.length:=Oq b t.length t;show(KD b t++wr b r).length<=_;simp only[zy,Fo.uC];omega
 |.hash r,d,b,h=>by
  have h1:=V7 r d b h.2.2;show(35::wr b r).length<=_;simp only[zY,Fo.uC];omega
 |.put n a r,d,b,h=>by
  have h1:=V7 r d b h.2.2;have h2:=KC h.1;show(123::(n++125::wr b r)).length<=_;simp only[zY,zy,Fo.uC];omega
 |.num n a r,d,b,h=>by
  have h1:=V7 r d b h.2.2;have h2:=KC h.1;show(123::(n++([44,32,110,117,109,98,101,114,125]++wr b r))).length<=_;exact Wu
 |.br n a f o c bs r,d,b,h=>by
  have h1:=V7 r d b h.2.2.2.2.2.2.2;have h2:=V7 bs d _ h.2.2.2.2.2.1;have i:=KC h.1;have j:=tI h.2.1;have g:(if 0<yb o then [32,111,102,102,115,101,116,58]++zn (yb o)else []:Wd).length<=17:=by
   rcases h.2.2.1 with rfl|⟨_,l,p,_,q⟩
   .decide
   .have:=(FV q).len;rw[yK l,p,zy];simp only[zY,yG];omega
  show(123::(n++([44,32]++(qC f++44::((if 0<yb o then [32,111,102,102,115,101,116,58]++zn (yb o)else [])++(wr (decide (f≠0)) bs++125::wr b r)))))).length<=_;generalize (if 0<yb o then [32,111,102,102,115,101,116,58]++zn (yb o)else []:Wd)=O at g|-;exact Wu
 |.xi k a m r,d,b,h=>by
  obtain⟨h0,⟨e,_,_,i⟩,_,g⟩:=h;have h1:=V7 r d b g;have h2:=V7 m e b i;have j:=yg6 h0;show(32::(k++([32,123]++(wr b m++125::wr b r)))).length<=_;exact Wu
def zou(h:uo l = .ok f):f.bl/\(wr false f).length<=10000000:=by
 unfold uo at h;cases hp:vv l with
 |error e=>rw[hp]at h;cases h
 |ok x =>
  rw[hp]at h;dsimp only at h;cases hc:fD x with
  |some e=>rw[hc]at h;cases h
  |none =>
   rw[hc]at h;cases h;have h1:=(Od hp).1;have h2:=V7 f 5 false h1;have hm:=(QY hp hc).2.1;exact⟨Zg f 5 false h1,J⟩
variable{B:Nat}
def zoq:(Tryz.prog.info? 113).map (λj=>j.size)=some 2:=yg
def tL:∃i:TypeInfo,Tryz.prog.info? 5=some i/\i.zero=some (.int .u8 0)/\i.size=1/\i.bytes=1:=V9 yg
def ei:Tryz.prog.cellsOf 5=1:=yg
def j5(B b:Nat)(l:Wd)(w:z8):Prop :=
 ∃p v,(p = .pointer none\/p = .pointer (b,0))/\B<=b/\w.heap[b]? = some (.cells #[p,v] 115 (0,0))/\w.ownsRow B 5 1 v l.length (yq l)/\v.ownBlock≠some b/\(l=[]->v = .slice none 0 0)
structure WF(B b:Nat)(w w':z8):Prop where
 below:yE B w w'
 kept:Lib.OthersKept 5 (some b) w w'
def WF.refl(B b:Nat)(w:z8):WF B b w w:=⟨zu _ _,EG _ _ _⟩
def WF.trans{b:Nat}(h:WF B b w w1)(k:WF B b w1 w2):WF B b w w2:=⟨h.below.trans k.below,h.kept.trans k.kept⟩
def WF.later{b:Nat}(hB:B<=(w:Nat))(hb:zR w w'):WF B b w w' :=
 ⟨hb.mono hB,λk o c _ _=>by
  have a:k<(w:Nat):=(yR.1 c).1;rw[hb.block k a];exact c⟩
def j5.lt{b:Nat}{l:Wd}(h:j5 B b l w):b<(w:Nat)/\B<=b:=by
 obtain⟨p,v,_,hB,hb,_⟩:=h;exact⟨(yR.1 hb).1,hB⟩
def j5.later{b:Nat}{l:Wd}(h:j5 B b l w)(hb:zR w w'):j5 B b l w':=by
 have a:=h.lt;obtain⟨p,v,h1,h2,c,d,e,f⟩:=h;exact⟨p,v,h1,h2,by rw[hb.block b a.1];exact c,dn d hb,e,f⟩
def xx5(w:z8)(B:Nat)(hB:B<=(w:Nat)):j5 B (w:Nat) [] (w.alloc (.cells #[.pointer none,.slice none 0 0] 115)) :=
 ⟨.pointer none,.slice none 0 0,.inl rfl,hB,ur w _,xz _ _ _ _,AX,λ_=>rfl⟩
def WrQ(B b:Nat)(l:Wd)(w:z8):Prop :=
 ∃v,B<=b/\w.heap[b]? = some (.cells #[(b,0),v] 115 (0,0))/\w.ownsRow B 5 1 v l.length (yq l)/\v.ownBlock≠some b/\(l=[]->v = .slice none 0 0)
def zok(B b:Nat)(l:Wd)(w:z8)(h:j5 B b l w) :
  zE Tryz.prog 119 #[(b,0)] w λe w'=>e = .returned (.tuple #[])/\WrQ B b l w'/\WF B b w w':=by
 obtain⟨j,q,r⟩:=Option.map_eq_some_iff.1 zoq;have x:=h.lt.1;obtain⟨p,v,h1,h2,d,m,g,n⟩:=h;have h0:zk w b 0 p:=by rw[yx d];rfl
 have t:w.frozen? (b,0)=false:=vF d 0;have i:w.shape? b=some (115,2):=by simp[World.shape?,d]
 have c:(w.setCell (b,0) (b,0)).heap[b]? = some (.cells #[(b,0),v] 115 (0,0)):=by
  simp[xu,xc,d]
 have a:(w.setCell (b,0) (b,0)).ownsRow B 5 1 v l.length (yq l) :=
  m.kept (row:=some b) ⟨rfl,rfl,rfl,ZM,λk _ u=>yX _ _ _ _ (λe=>u (by simp[e]))⟩ (.inr g)
 have f:WF B b w (w.setCell (b,0) (b,0)):=⟨(zu B w).setCell (p:=(b,0)) h2 _,(EG _ _ _).setCell (b,0) rfl _⟩;have HS:=Z (⟨v,h2,c,a,g,n⟩:WrQ B b l (w.setCell (b,0) (b,0)));have HW:=Z f;rcases h1 with rfl|rfl
 .clear d m g n c a f;go_enter func119,ntmps119;go_wp2;rw[xjz w ⟨b,0,none⟩ underlying111 underlying118 q (by rw[r];decide) i (Nat.zero_lt_succ 1)];simp only[yt];rw[jc];go_wp2;rw[TB func157 yg yg yg (e:=YW) yg];rw[vz5];simp only[yt];rw[jc];go_wp2;rw[yeq w ⟨b,0,none⟩ underlying118 underlying111 q i yg];exact zdv
 .have s:=Z (⟨v,h2,d,m,g,n⟩:WrQ B b l w);clear d m g n c a f HS HW;go_enter func119,ntmps119;go_wp2;rw[yfq w _ underlying111 q];go_wp2;go_end0
  exact⟨rfl,s.o,WF.refl _ _ _⟩
def tN(t:Wd):xu7 ⟨t.toArray⟩=yq t:=rfl
def zoj(a b:Wd):yq a++yq b=yq (a++b):=by simp[yq]
def tP(B b:Nat)(l t:Wd)(w:z8)(h:j5 B b l w)(K:l.length+t.length<=1000000000) :
  zE Tryz.prog 105 #[(b,0),zO t] w λe w'=>(∃v,e = .returned v)/\j5 B b (l++t) w'/\WF B b w w':=by
 obtain⟨P,hi,G,H,I⟩:=tL;have A:=Z (zg h.lt.2 (vZ h.lt.1));have C:=Z (zok B b l w h);have y:(⟨t.toArray⟩:ByteArray).size=t.length:=size_mk _;clear h;go_enter func105,ntmps105;go_wp2_with fail;refine C.o.mono ?_;rintro e w1 ⟨rfl,O,r⟩;obtain⟨v,hB,D5,i,x,m⟩:=O;have c0:zk w1 b 0 (zQ b 0):=GX;have c1:zk w1 b 1 v:=GX;have F:b<(w1:Nat):=(yR.1 D5).1;have u:B<=(w1:Nat):=zg A.o r.below.size;obtain⟨s,d,D,xgj,z,Q⟩:=ED r i x m D5 (zo i);clear r i x m D5;go_wp2_with (at_builtin;refine Lib.wpList_append_own_string _ rfl _ _ 34 9 rfl B 5 P underlying34 underlying9 hi G H I v l.length (yq l) rfl d.o ⟨t.toArray⟩ rfl (by rw[y];unfold vp;omega) (by rw[y];omega) u ?_);intro v' w2 a c hz;have qX:w2.heap[b]? = some (.cells #[(zQ b 0),v] 115 (0,0)):=by
  rw[c.block b F (λe=>D.o e.symm)];exact z.o
 have d0:zk w2 b 0 (zQ b 0):=B4;have d1:zk w2 b 1 v:=B4;have f1:w2.frozen? (zQ b 1)=false:=vF qX 1;rw[tN,zoj]at a;have L:b<(w2:Nat):=(yR.1 qX).1;have a:w2.ownsRow B 5 1 v' (l.length+t.length) (yq (l++t)):=a;have f:=Lib.ownBlock_ne a qX zW;have n:(w2.setCell (zQ b 1) v').heap[b]? = some (.cells #[(zQ b 0),v'] 115 (0,0)):=by
  simp[xu,xc,qX]
 have j:(w2.setCell (b,1) v').ownsRow B 5 1 v' (l++t).length (yq (l++t)):=by
  rw[zy];exact a.kept (row:=some b) ⟨rfl,rfl,rfl,ZM,λk _ E=>yX _ _ _ _ (λe=>E (by simp[e]))⟩ (.inr f)
 have g:l++t=[]->v' = .slice none 0 0:=λe=>zvk
 have q:WF B b w (w2.setCell (b,1) v') :=
  ⟨(s.o.below.grown c u (λk E=>(d.o.lt k E).1)).setCell (p:=(b,1)) hB _,
   (s.o.kept.grown c (Lib.ownsRowF_kind (World.ownsRowF_of d.o))).setCell (b,1) rfl _⟩
 have N:=Z (⟨_,v',.inr rfl,hB,n,j,f,g⟩:j5 B b (l++t) (w2.setCell (b,1) v'));have M:=Z q;obtain⟨R,cap,rfl⟩:=zo a;clear a c hz qX n j g q f;go_wp2;go_ret2
 exact⟨⟨_,rfl⟩,N.o,M.o⟩
def xx6(B b:Nat)(l:Wd)(w:z8)(h:j5 B b l w)(z:l.length<=1000000000) :
  zE Tryz.prog 42 #[(b,0)] w λe w'=>e = .returned (zO l)/\yE B w w':=by
 obtain⟨p,v,h1,hB,c,uW,i,a⟩:=h;by_cases h0:l=[]
 .have hv:=a h0;subst hv h0;have c1:zk w.drew b 1 (.slice none 0 0):=by
   have:w.drew.heap[b]? = some (.cells #[p,.slice none 0 0] 115 (0,0)):=c;exact Mv
  have m:=λW q=>Lib.run_unsafeString_none (P:=Tryz.prog) W 222 3 9 q
  have k:(YT #[34] 222 #[.slice none 0 0]).run Tryz.prog w.drew = .ok (.pointer none) w.drew:=rfl;have f:Tryz.prog.follows Xb=true:=yg;clear uW c i a h1;go_enter func42,ntmps42;go_wp2;go_region_o
  all_goals (go_wp2;go_ret;exact⟨rfl,qs (zu B w)⟩)
 .have s:l.length≠0:=by simpa using h0
  obtain⟨g,cap,cur,rfl,n,hg,u,t,o,d⟩:∃g cap cur,v = .slice (some ⟨g,0,none⟩) l.length cap/\B<=g/\w.heap[g]? = some (.cells cur 5 (0,0))/\l.length<=cap/\cap<=vp/\cur.size=cap*1/\cur.toList.take (l.length*1)=yq l:=by
   rcases uW.2 with⟨_,y⟩|⟨g,cap,cur,hv,r⟩
   .exact absurd y s
   .exact⟨g,cap,cur,hv,r⟩
  have c1:zk w.drew b 1 (.slice (g,0) l.length cap):=by
   have:w.drew.heap[b]? = some (.cells #[p,.slice (zQ g 0) l.length cap] 115 (0,0)):=c;exact Mv
  have k:(YT #[34] 222 #[.slice (g,0) l.length cap]).run Tryz.prog w.drew = .ok (g,0) w.drew :=
   Lib.run_unsafeSliceData_row _ _ _ _ _ _ J
  have m:(Builtin.unsafeString_ #[222,3] 9 #[(g,0),l.length]).run Tryz.prog w.drew = .ok (.string ⟨l.toArray⟩) (w.drew.freeze ⟨g,0,none⟩ l.length):=by
   refine Lib.run_unsafeString_row w.drew 222 3 9 5 underlying222 ei g cur.size zfy l h0 J J ?_;exact zd8
  have f:Tryz.prog.follows Xb=true:=yg;clear uW c i a h1 hg o d;go_enter func42,ntmps42;go_wp2;go_region_o
  all_goals (go_wp2;go_ret;exact⟨rfl,Lib.below_freeze (qs (zu B w)) (p:=(g,0)) n _⟩)
variable{ws:List Wd}
def jD(w:z8)(g:Nat)(ws:List Wd):Prop:=∃t fz,t≠5/\t≠115/\w.heap[g]? = some (.cells (ws.map zO).toArray t fz)
def jD.cell{g:Nat}(h:jD w g ws)(a:j<ws.length):zk w g j (zO ws[j]):=by
 obtain⟨t,fz,_,_,h⟩:=h;rw[yx h];simp[a]
def jD.ne{b:Nat}{l:Wd}{g:Nat}(h:jD w g ws)(k:j5 B b l w):g≠b:=by
 rintro rfl;obtain⟨t,fz,h1,h2,c⟩:=h;obtain⟨p,v,_,_,a,_⟩:=k;rw[c]at a;simp only[vr,Tp]at a;exact h2 a.2.1
def jD.keep{b:Nat}{g:Nat}(h:jD w g ws)(hb:g≠b)(k:WF B b w w'):jD w' g ws:=by
 obtain⟨t,fz,h1,h2,a⟩:=h;exact⟨t,fz,h1,h2,k.kept g _ a (by simpa using hb) (λc fz e=>by cases e;exact h1 rfl)⟩
def LG(a:k<ws.length):(ws.take (k+1)).flatten=(ws.take k).flatten++ws[k]:=by
 rw[yj a,wE];simp
def yg7(a:k<ws.length):((ws.take k).flatten).length+ws[k].length<=ws.flatten.length:=by
 have h:=congrArg xJ (show(ws.take (k+1)).flatten++(ws.drop (k+1)).flatten=ws.flatten by rw[<-wE,fY]);rw[LG a,zy,zy]at h;omega
def YN(B b g:Nat)(l:Wd)(ws:List Wd)(w:z8)(h:j5 B b l w)(C:jD w g ws)(a:l.length+ws.flatten.length<=1000000000)(hn:ws.length<=1000) :
  zE Tryz.prog 89 #[(b,0),.slice (g,0) ws.length ws.length] w λe w'=>(∃v,e = .returned v)/\j5 B b (l++ws.flatten) w'/\WF B b w w':=by
 have p:=C.ne h;obtain⟨H,G,y,i⟩:=hdd h C p a;obtain⟨n,f⟩:=zw ws.length;have HN:=Z f;rw[f]at hn|-;clear h C p a f;go_enter func89,ntmps89;go_wp2_with fail;go_loopw [8] (λE wr=>∃k:Nat,E = .int .i64 k/\k<=n/\j5 B b (l++(ws.take k).flatten) wr/\WF B b w wr) (λE _=>n - (intOf E).toNat)
 case atStart=>exact⟨0,rfl,zJ _,by simpa using H.o,WF.refl _ _ _⟩
 case round =>
  obtain⟨k,rfl,I,s,r⟩:=hrel;have j:=Z s;have c:=Z r;clear s r;by_cases uh:k<n
  .have F:(k:Int)<(n:Int):=(by omega);have d:k<ws.length:=Vv;have c0:=(G.o.keep y.o c.o).cell d;obtain⟨x,hx⟩:=zw (ws[k]);rw[hx]at c0;have t:=Z (show l++(ws.take (k+1)).flatten=(l++(ws.take k).flatten)++x by rw[LG d,hx,yk]);have z:=Z (tP B b (l++(ws.take k).flatten) x wr j.o (by
    have h1:=yg7 d;have h2:=i.o;rw[hx]at h1;exact B1))
   clear hx;go_wp2_with fail;refine z.o.mono ?_;rintro e w2 ⟨⟨v,rfl⟩,q,m⟩;have A:=Z q;have u:=Z (c.o.trans m);clear q m c0;go_wp2_with fail;go_roundw
   case rel=>exact⟨k+1,uN,J,by rw[t.o];exact A.o,u.o⟩
   case measure=>simp[intOf];omega
  .have D:k=n:=(by omega);subst D;have t:=Z (show l++(ws.take k).flatten=l++ws.flatten by rw[ye M0]);go_wp2;go_end0
   exact⟨⟨_,rfl⟩,by rw[<-t.o];exact j.o,c.o⟩
variable{r:Nat}
def nqR(num:Bool)(r:Nat):Bool:=decide (r≠39) && !kg (r:Int) num
def eo(num:Bool)(r:Nat):Bool:=decide (r=39) ||kg (r:Int) num
def ycd(num:Bool)(r:Nat):nqR num r = !eo num r:=by
 unfold nqR eo;by_cases h:r=39
 .simp[h]
 .simp[h]
def Ed(num:Bool)(c:UInt8):eo num c.toNat=qB num c:=by
 have e:∀k:Nat,k<256->((c==uZ k)=decide (c.toNat=k)):=λk i=>by
  rw[xA,beq_iff_eq,decide_eq_true_eq];constructor
  .intro h;rw[h,Xg,VS J]
  .intro h;apply Xf.1;rw[Xg,VS J];exact h
 unfold eo qB kg;have a:(c==39)=decide (c.toNat=39):=e 39 J;have b:(c==123)=decide (c.toNat=123):=e 123 J;have d:(c==125)=decide (c.toNat=125):=e 125 J;have g:(c==35)=decide (c.toNat=35):=e 35 J;have f:∀k:Nat,(((c.toNat:Int))==(k:Int))=decide (c.toNat=k):=λk=>by
  rw[xA,beq_iff_eq,decide_eq_true_eq];omega
 have f2:((c.toNat:Int)==123)=decide (c.toNat=123):=f 123;have f3:((c.toNat:Int)==125)=decide (c.toNat=125):=f 125;have f4:((c.toNat:Int)==35)=decide (c.toNat=35):=f 35;rw[a,b,d,g,f2,f3,f4]
def ep(num:Bool)(h:128<=r):eo num r=false:=by
 unfold eo kg;have f:∀k:Nat,k<128->((r:Int)==(k:Int))=false:=λk a=>by
  rw[beq_eq_false_iff_ne];omega
 have f2:((r:Int)==123)=false:=f 123 J;have f3:((r:Int)==125)=false:=f 125 J;have f4:((r:Int)==35)=false:=f 35 J;rw[f2,f3,f4,decide_eq_false J];rfl
def zof(num:Bool){c:UInt8}(h:128<=c.toNat):qB num c=false:=by rw[<-Ed,ep num h]
def Tz(s:ByteArray)(p:Nat)(hp:p<s.size):((s[p].toNat<128)/\jl s p=(s[p].toNat,1)) \/
  (128<=s[p].toNat/\128<=(jl s p).1/\1<=(jl s p).2/\∀j,j<(jl s p).2->p+j<s.size/\128<=(s.get! (p+j)).toNat):=by
 have d:s.get! (p+0)=s[p]:=by
  show s.data[p+0]! = _;rw[EK,getElem!_pos s.data p (by simpa using hp)];rfl
 by_cases h1:s[p].toNat<128
 .refine .inl ⟨h1,?_⟩;unfold jl;simp only[d];rw[yK J]
 .refine .inr ⟨J,?_⟩;have hb:=s[p].toNat_lt;unfold jl;simp only[d];rw[yv J];have b:∀j,j<1->p+j<s.size/\128<=(s.get! (p+j)).toNat:=λj a=>by
   have:j=0:=J;subst this;rw[d];exact⟨hp,J⟩
  have one:128<=(TV,1).1/\1<=(TV,1).2/\∀j,j<(TV,1).2->p+j<s.size/\128<=(s.get! (p+j)).toNat:=⟨zW,Y _,b⟩;split
  .next h2 =>
   simp only[zv,beq_iff_eq,decide_eq_true_eq]at h2;split
   .refine⟨J,by show 1<=2;decide,λj a=>?_⟩;rcases (show j=0\/j=1 by simp at a;omega)with rfl|rfl
    .exact b 0 J
    .exact⟨h2.2.1,J⟩
   .exact one
  split
  .next h2 =>
   simp only[zv,beq_iff_eq,decide_eq_true_eq]at h2;split
   .next c =>
    simp only[zv,decide_eq_true_eq]at c;refine⟨J,by show 1<=3;decide,λj a=>?_⟩;rcases (show j=0\/j=1\/j=2 by simp at a;omega)with rfl|rfl|rfl
    .exact b 0 J
    .exact⟨h2.1.2.1,J⟩
    .exact⟨h2.2.1,J⟩
   .exact one
  split
  .next h2 =>
   simp only[zv,beq_iff_eq,decide_eq_true_eq]at h2;split
   .next c =>
    simp only[zv,decide_eq_true_eq]at c;refine⟨J,by show 1<=4;decide,λj a=>?_⟩;rcases (show j=0\/j=1\/j=2\/j=3 by simp at a;omega)with rfl|rfl|rfl|rfl
    .exact b 0 J
    .exact⟨h2.1.1.2.1,J⟩
    .exact⟨h2.1.2.1,J⟩
    .exact⟨h2.2.1,J⟩
   .exact one
  .exact one
def Eb(s:ByteArray)(p:Nat)(hp:p<s.size):s.data.toList.drop p=s.get! p::s.data.toList.drop (p+1):=by
 rw[yd (by simpa using hp)];congr 1;show _=s.data[p]!;rw[getElem!_pos s.data p (by simpa using hp)];simp
def zod(num:Bool)(s:ByteArray):∀(f p:Nat),s.size<=p+f->p<=s.size->QQ (nqR num) true s f p =
  if p+((s.data.toList.drop p).takeWhile (qB num)).length<s.size then ((p+((s.data.toList.drop p).takeWhile (qB num)).length:Nat):Int)else -1
 | 0,p,h,hp=>by
  rw[yL yF];rw[yv U4];rfl
 |f+1,p,h,hp=>by
  rw[QQ];by_cases uh:p<s.size
  .rw[yK uh];have b:s.get! p=s[p]:=by
    show s.data[p]! = _;rw[getElem!_pos s.data p Qt];rfl
   rw[Eb s p uh,b];rcases Tz s p uh with⟨h1,h2⟩|⟨h1,h2,c,d⟩
   .rw[h2];dsimp only;rw[ycd,Ed];by_cases a:qB num s[p]=true
    .rw[a,yv zW,zod num s f (p+1) J J,xO a,zY];generalize ((s.data.toList.drop (p+1)).takeWhile (qB num)).length=L;rw[show p+(L+1)=p+1+L by omega]
    .rw[bE]at a;rw[a,yK (show(!false)=true from rfl),kC (by rw[a];decide)];rw[yK Qt];rfl
   .rw[ycd,ep num h2,yK (show(!false)=true from rfl),kC (by rw[zof num h1];decide),yK Qt];rfl
  .rw[yv uh,yL yF,yv U4]
def Ty(num:Bool)(s:ByteArray)(p:Nat):∀k,(∀j,j<k->p+j<s.size/\128<=(s.get! (p+j)).toNat) ->
  ((s.data.toList.drop p).takeWhile (λc => !qB num c)).length=k+((s.data.toList.drop (p+k)).takeWhile (λc => !qB num c)).length
 | 0,_=>by rw[uE];rfl
 |k+1,h=>by
  have h1:=Ty num s p k (λj a=>h j J);have h2:=h k J;rw[h1,Eb s (p+k) h2.1,xO (by rw[zof num h2.2];rfl),zY];have e:p+k+1=p+(k+1):=J;rw[e];omega
def OZ(num:Bool)(s:ByteArray):∀(f p:Nat),s.size<=p+f->p<=s.size->QQ (eo num) true s f p =
  if p+((s.data.toList.drop p).takeWhile (λc => !qB num c)).length<s.size then ((p+((s.data.toList.drop p).takeWhile (λc => !qB num c)).length:Nat):Int)else -1
 | 0,p,h,hp=>by
  rw[yL yF];rw[yv U4];rfl
 |f+1,p,h,hp=>by
  rw[QQ];by_cases uh:p<s.size
  .rw[yK uh];have d:s.get! p=s[p]:=by
    show s.data[p]! = _;rw[getElem!_pos s.data p Qt];rfl
   rcases Tz s p uh with⟨h1,h2⟩|⟨h1,h2,l,b⟩
   .rw[h2];dsimp only;rw[Eb s p uh,d,Ed];by_cases a:qB num s[p]=true
    .rw[a,yK rfl,kC (by rw[a];decide),yK Qt];rfl
    .rw[bE]at a;rw[a,yv zW,OZ num s f (p+1) J J,xO (by rw[a];rfl),zY];generalize ((s.data.toList.drop (p+1)).takeWhile (λc => !qB num c)).length=L;rw[show p+(L+1)=p+1+L by omega]
   .have i:=Ty num s p (jl s p).2 b;obtain⟨k,e⟩:=zw ((jl s p).2);rw[e]at i l b|-;have g:p+k<=s.size:=by
     have:=(b (k - 1) J).1;omega
    rw[ep num h2,yv zW,OZ num s f (p+k) J g,i];rw[show ∀j,p+(k+j)=p+k+j from λj=>J]
  .rw[yv uh,yL yF,yv U4]
def eh(num:Bool)(s:ByteArray):Oc (nqR num) true s=if (s.data.toList.takeWhile (qB num)).length<s.size then (((s.data.toList.takeWhile (qB num)).length:Nat):Int)else -1:=by
 unfold Oc;rw[zod num s s.size 0 J (zJ _),qW,uE]
def Tx(num:Bool)(s:ByteArray):Oc (eo num) true s=if (s.data.toList.takeWhile (λc => !qB num c)).length<s.size then (((s.data.toList.takeWhile (λc => !qB num c)).length:Nat):Int)else -1:=by
 unfold Oc;rw[OZ num s s.size 0 J (zJ _),qW,uE]
def dropWhile_nil{p:UInt8->Bool}:∀{l:Wd},l.dropWhile p=[] ↔ ∀x∈l,p x=true
 |[]=>zV
 |a::t=>by
  by_cases h:p a=true
  .rw[VU h,dropWhile_nil];simp[h]
  .rw[fF h];simp[h]
def Tv(a:Wd):zzq a 39≠[] ↔ (a.any λc=>c !=39)=true:=by
 have h0:zzq a 39=[] ↔ ∀c∈a,c=39:=by
  unfold zzq Lib.trimLeftB Lib.trimRightB;rw[dropWhile_nil];constructor
  .intro h c hc;by_cases hm:c∈(a.reverse.dropWhile (· == 39)).reverse
   .simpa using h c hm
   .rw[Zd]at hm;have h1:=jy (p:=λx:UInt8=>x==39) (l:=a.reverse);have h2:c∈a.reverse:=Zd.2 hc;rw[<-h1,zS]at h2;rcases h2 with h2|h2
    .have:=Gx (l:=a.reverse) (p:=λx:UInt8=>x==39);rw[zm]at this;simpa using this c h2
    .exact absurd h2 hm
  .intro h c hc;rw[Zd]at hc;have:c∈a.reverse:=(List.dropWhile_suffix _).subset hc;simpa using h c (Zd.1 this)
 rw[ne_eq,h0,List.any_eq_true];constructor
 .intro h;apply yy;intro hc;apply h;intro c hm;apply yy;intro h2;exact hc ⟨c,hm,BG⟩
 .rintro⟨c,hm,h2⟩ h;have:=h c hm;subst this;simp at h2
def Tu(t:Wd):kH (39::t) [39]=0:=by
 unfold kH;rw[yK zV]
def EZ{c:UInt8}(h:c≠39)(t:Wd):kH (c::t) [39]=if kH t [39]==-1 then -1 else kH t [39]+1:=by
 conv=>lhs;unfold kH
 rw[yv (by simp;exactλe=>h e.symm)]
def Un:∀(n:Nat) (a:Wd),a.length<=n->∀k,a.count 39<=k->DQ [39] [39,39] k a=kZ a
 | 0,a,h,k,b=>by
  have:a=[]:=zN J;subst this;cases k with
  |zero=>rfl
  |succ k=>rfl
 |n+1,[],_,k,_=>by
  cases k with
  |zero=>rfl
  |succ k=>rfl
 |n+1,c::t,h,k,b=>by
  have d:t.length<=n:=QH;by_cases hc:c=39
  .subst hc;rw[oG]at b;cases k with
   |zero=>omega
   |succ k =>
    rw[EF [39] [39,39] k (39::t) 0 (Tu t)];show[]++[39,39]++DQ [39] [39,39] k t=_;rw[Un n t d k J];unfold kZ;rw[zh,yK rfl];rfl
  .rw[iQ (by simpa using λe=>hc e)]at b;have f:=λk b=>Un n t d k b
   have hd:kZ (c::t)=c::kZ t:=by
    unfold kZ;rw[zh,yv hc];rfl
   rw[hd,<-f k b];cases k with
   |zero=>rfl
   |succ k =>
    by_cases hm:kH t [39] = -1
    .have h1:kH (c::t) [39] = -1:=(by rw[EZ hc,hm];rfl);rw[DQ,yK Yn,DQ,yK (by rw[hm];rfl)]
    .obtain⟨i,hi⟩:∃i:Nat,kH t [39]=i:=⟨(kH t [39]).toNat,by have:=vz9 t [39];omega⟩;have h1:kH (c::t) [39]=((i+1:Nat):Int):=by
      rw[EZ hc,hi,yv U4];rfl
     rw[EF [39] [39,39] k (c::t) (i+1) h1,EF [39] [39,39] k t i hi];simp
def Zf:∀(f:Nat) (a:Wd),a.length<f->fE [39] f a=a.count 39
 | 0,a,h=>absurd h (ZH _)
 |f+1,[],h=>by
  rw[fE];rfl
 |f+1,c::t,h=>by
  have o:t.length<f:=QH;have d:=Zf f t o;rw[fE];by_cases hc:c=39
  .subst hc;rw[Tu,yv zW,oG];show 1+fE [39] f t=_;omega
  .rw[iQ (by simpa using λe=>hc e),EZ hc];by_cases hm:kH t [39] = -1
   .have h0:t.count 39=0:=by
     rw[<-d];cases f with
     |zero=>omega
     |succ f=>rw[fE,yK (by rw[hm];rfl)]
    rw[hm,yK xG,h0]
   .obtain⟨i,hi⟩:∃i:Nat,kH t [39]=i:=⟨(kH t [39]).toNat,by have:=vz9 t [39];omega⟩;rw[hi];have k:(if ((i:Int)==-1)=true then (-1:Int)else (i:Int)+1)=((i+1:Nat):Int):=by
     rw[yv U4];rfl
    rw[k,yv U4];have l:(((i+1:Nat):Int)).toNat=i+1:=J;rw[l];show 1+fE [39] f (t.drop (i+1))=_;cases f with
    |zero=>omega
    |succ f =>
     rw[fE,hi,yv U4]at d;have m:((i:Int)).toNat=i:=J;rw[m]at d;have b:=Lib.index_room t [39] (by rw[hi];omega);rw[hi]at b;simp only[zY,yG]at b;have g:=Zf (f+1) (t.drop (i+1)) yF;have j:=Zf f (t.drop (i+1)) yF;rw[g];have n:(t.drop (i+[(39:UInt8)].length))=t.drop (i+1):=rfl;rw[n,j]at d;exact d
def Tq(a:Wd):Lib.count a [39]=a.count 39:=Zf _ a (dK _)
def Tk(a:Wd):Lib.replaceAll a [39] [39,39]=kZ a:=by
 unfold Lib.replaceAll Lib.replace Lib.replaceNum;rw[yv zW,yK (.inl zW),Tq];exact Un _ a (Y _) _ (Y _)
def tS(x q:Nat)(num:Bool)(w:z8)(d:zk w q 0 (.bool num)) :
  zE Tryz.prog 134 #[.int .i32 (x:Nat),(q,0)] w λe w'=>e = .returned (.bool (nqR num x))/\w=w':=by
 obtain⟨sp,a⟩:∃b,kg (x:Int) num=b:=⟨_,rfl⟩;have HS:=Z (U8 (x:Int) num w);rw[a]at HS;by_cases hx:x=39
 .have j1:((x:Int)==39)=true:=by simp[hx]
  have c:((x:Int) !=39)=false:=Mj;have HF:=Z (show nqR num x=false by unfold nqR;rw[hx];rfl);clear hx a;go_enter func134,ntmps134;go_wp2;go_ret;exact⟨gJ,rfl⟩
 .have j1:((x:Int)==39)=false:=by simp;omega
  have c:((x:Int) !=39)=true:=Mj;have HF:=Z (show nqR num x = !sp by unfold nqR;rw[a,decide_eq_true hx];rfl);clear hx a;go_enter func134,ntmps134;exact zjf
def tT(x q:Nat)(num:Bool)(w:z8)(d:zk w q 0 (.bool num)) :
  zE Tryz.prog 138 #[.int .i32 (x:Nat),(q,0)] w λe w'=>e = .returned (.bool (eo num x))/\w=w':=by
 obtain⟨sp,a⟩:∃b,kg (x:Int) num=b:=⟨_,rfl⟩;have HS:=Z (U8 (x:Int) num w);rw[a]at HS;by_cases hx:x=39
 .have j1:((x:Int)==39)=true:=by simp[hx]
  have c:((x:Int) !=39)=false:=Mj;have HF:=Z (show eo num x=true by unfold eo;rw[hx];rfl);clear hx a;go_enter func138,ntmps138;go_wp2;go_ret;exact⟨gJ,rfl⟩
 .have j1:((x:Int)==39)=false:=by simp;omega
  have c:((x:Int) !=39)=true:=Mj;have HF:=Z (show eo num x=sp by unfold eo;rw[a,decide_eq_false hx];rfl);clear hx a;go_enter func138,ntmps138;exact zjf
def tW{num:Bool}{u:Wd}(a:u≠[]):KD num u=fZ (u.takeWhile (qB num))++((u.drop (u.takeWhile (qB num)).length).takeWhile (λc => !qB num c)++KD num ((u.drop (u.takeWhile (qB num)).length).drop ((u.drop (u.takeWhile (qB num)).length).takeWhile (λc => !qB num c)).length)) /\
  ((u.drop (u.takeWhile (qB num)).length).drop ((u.drop (u.takeWhile (qB num)).length).takeWhile (λc => !qB num c)).length).length<u.length:=by
 have h1:KD num u=prG num (u.length+1) u:=(Ou num _ u (dJ _)).symm;constructor
 .rw[h1,prG,yv a,Ou num u.length _ zV]
 .have hp:=zt.2 a;simp only[yr];by_cases ha:u.takeWhile (qB num)=[]
  .rw[ha];cases u with
   |nil=>exact absurd rfl a
   |cons c t =>
    have b:¬qB num c=true:=λq=>by rw[xO q]at ha;cases ha
    simp only[yG,qW];rw[xO (by simpa using b),zY];simp only[zY];omega
  .have:=zt.2 ha;omega
def szS(v:zx):Nat:=match v with |.string s=>s.size|_=>0
def Tj(B:Nat)(w:z8):Prop:=6<B/\∃m,zk w 6 0 (.int .i64 m)
def Tj.keep{b:Nat}(h:Tj B w)(k:WF B b w w'):Tj B w':=by
 obtain⟨h1,m,h2⟩:=h;exact⟨h1,m,(k.below.cell (p:=(6,0)) h1).trans h2⟩
def WF.drew{b:Nat}(h:WF B b w w'):WF B b w w'.drew:=⟨h.below.drew,h.kept.drew⟩
def j5.drew{b:Nat}{l:Wd}(h:j5 B b l w):j5 B b l w.drew:=h
def extract_mk(u:Wd)(n:Nat):(⟨u.toArray⟩:ByteArray).extract 0 n=⟨(u.take n).toArray⟩:=by
 rw[fM,toList_mk]
def Fs(u:Wd)(n:Nat)(h:n<=u.length):(⟨u.toArray⟩:ByteArray).extract n u.length=⟨(u.drop n).toArray⟩:=by
 have:=fN ⟨u.toArray⟩ n;rw[size_mk,toList_mk]at this;exact this
structure TxI(B b q:Nat)(num:Bool)(w:z8)(F u acc:Wd)(wr:z8):Prop where
 at_:j5 B b acc wr
 wf:WF B b w wr
 box:zk wr q 0 (.bool num)
 eq:acc++KD num u=F
def yg8(B b:Nat)(l t:Wd)(num:Bool)(w:z8)(h:j5 B b l w)(hmx:Tj B w)(hlen:l.length+(KD num t).length<=100000000)(ht:t.length<=100000000) :
  zE Tryz.prog 88 #[(b,0),zO t,.bool num] w λe w'=>(∃v,e = .returned v)/\j5 B b (l++KD num t) w'/\WF B b w w':=by
 have hmf:∀(fn:Fn) (first cap:Array zx) (w:z8),(qA fn first cap).run Tryz.prog w = .ok (.func fn first cap) w:=λ_ _ _ _=>rfl
 have hBw:B<=(w:Nat):=zg h.lt.2 (vZ h.lt.1);have Dz:=h.lt.1;have HH:=Z h;have HMX:=Z hmx;obtain⟨F,hF⟩:=zw (l++KD num t);have hFl:F.length<=100000000:=by rw[<-hF,zy];exact hlen
 rw[hF];have HFF:=Z hF;clear h hmx hlen hF;go_enter func88,ntmps88;go_wp2_with fail;refine Gu ?_;intro W0 hW0;have K4:zR w W0:=by rw[hW0];exact(zu _ _).alloc (Y _) _
 have hq0:zk W0 (w:Nat) 0 (.bool num):=by rw[hW0];exact zZ w #[.bool num] 4 (0,0) 0
 have Q:W0.heap[(w:Nat)]? = some (.cells #[.bool num] 4 (0,0)):=by rw[hW0];exact ur w _
 have vmx:=Z (HH.o.later K4);have vmv:=Z (WF.later (b:=b) hBw K4);obtain⟨q,hq⟩:=zw (w:Nat);rw[hq]at hq0 Q;try rw[hq]
 have hqb:q≠b:=J;obtain⟨HBX,HQB,HTL,HFL⟩:=hdd Q hqb ht hFl;clear hW0 K4 Q hq Dz hqb hBw ht hFl;go_loopw [1] (λsv wr=>∃u acc,sv=zO u/\u.length<=t.length/\TxI B b q num w F u acc wr/\WF B b W0 wr) (λsv _=>szS sv)
 case atStart=>exact⟨t,l,rfl,Y _,⟨vmx.o,vmv.o,hq0,HFF.o⟩,WF.refl _ _ _⟩
 case round =>
  obtain⟨u,acc,rfl,hul,hti,IF⟩:=hrel;have xoy:wr.heap[q]? = some (.cells #[.bool num] 4 (0,0)):=IF.kept q _ HBX.o (by simpa using HQB.o) (λc fz e=>gG);have umk:=Z xoy;have g:=Z hti;have wa:=Z IF;have ymq:u.length<=100000000:=zg hul HTL.o;have HUL:=Z hul;have usz:(⟨u.toArray⟩:ByteArray).size=u.length:=size_mk _;obtain⟨H,V⟩:∃n,u.length=n:=⟨_,rfl⟩;have f:=Z V;rw[V]at usz ymq;clear xoy hti IF hul V;by_cases hu:u=[]
  .have HE:=Z (show acc=F by have:=g.o.eq;rw[hu,yjb,qt]at this;exact this);have u0:H=0:=(by rw[<-f.o,hu];rfl);subst u0;subst hu;clear usz;go_wp2;go_end0
   exact⟨⟨_,rfl⟩,by rw[<-HE.o];exact g.o.at_,g.o.wf⟩
  .have hup:0<H:=(by rw[<-f.o];exact zt.2 hu);have umg:(0:Int)<(H:Int):=J;obtain⟨DJ,lu⟩:=tW (num:=num) hu;obtain⟨a,ha⟩:=zw (u.takeWhile (qB num));obtain⟨r,hr⟩:=zw (u.drop a.length);obtain⟨z,hz⟩:=zw (r.takeWhile (λc => !qB num c));obtain⟨v,hv⟩:=zw (r.drop z.length);rw[ha,hr,hz,hv]at DJ;rw[ha,hr,hz,hv]at lu;have Ke:a.length<=H:=(by rw[<-ha,<-f.o];exact(bn _).length_le);have hta:u.take a.length=a:=by
    rw[<-ha];exact zq7
   have wM:r.length=H - a.length:=(by rw[<-hr,yr,f.o]);have hzl:z.length<=r.length:=(by rw[<-hz];exact(bn _).length_le);have htz:r.take z.length=z:=by
    rw[<-hz];exact zq7
   have hFe:acc++(fZ a++(z++KD num v))=F:=(by rw[<-DJ];exact g.o.eq);have O:acc.length+(fZ a).length+z.length<=100000000:=by
    have h1:=congrArg xJ hFe;simp only[zy]at h1;have:=HFL.o;omega
   obtain⟨Ix,d,lG,HA,HR,HZ,HV,HTA⟩:=OH hFe O lu ha hr hz hv hta;have HTZ:=Z htz;have cq:zk wr q 0 (.bool num):=g.o.box;have wO:PredGrows Tryz.prog 134 #[(q,0)] (nqR num) wr:=λW' x _ hb=>(tS x q num W' ((hb.cell (p:=(q,0)) (X _ _ cq)).trans cq)).mono λe w' h=>⟨h.1,h.2▸zu _ _⟩
   have G9:=Z (Tryz.strings_IndexFunc_grows 134 #[(zQ q 0)] (λargs w=>enters_of func134 yg rfl args w) (nqR num) ⟨u.toArray⟩ wr wO);rw[eh,toList_mk,size_mk,HA.o,f.o]at G9;clear DJ lu ha hr hz hv hta htz hFe O wO hu;go_wp2_with fail;refine G9.o.mono ?_;rintro e w1 ⟨rfl,qI⟩;have HB1:=Z qI;have m:=Z (g.o.at_.later qI);clear qI;go_upto_if 15 with fail
   obtain⟨al,j⟩:∃n,a.length=n:=⟨_,rfl⟩;rw[j]at Ke wM;have HAL:=Z j;rw[j];have HTA:=Z (j▸HTA.o);have HR:=Z (j▸HR.o);clear j;go_cut [6] (λnv wc=>nv = .int .i64 al/\wc=w1)
   case first =>
    by_cases R:al<H
    .rw[yK R];have j1:decide ((al:Int)<0)=false:=(by simp<;>omega);exact Lm
    .rw[yv R];have hae:al=H:=(by omega);subst hae;exact Lm
   case rest =>
    obtain⟨rfl,i⟩:=hcut;have i:=i.symm;subst i;have umf:(al:Int)<=(H:Int):=J;have hex:(⟨u.toArray⟩:ByteArray).extract 0 al=⟨a.toArray⟩:=(by rw[extract_mk,HTA.o]);have xox:(⟨u.toArray⟩:ByteArray).extract al H=⟨r.toArray⟩:=by
     have:=Fs u al (by rw[f.o];exact Ke);rw[f.o]at this;rw[this,HR.o]
    obtain⟨HEX,s,xov,vmg⟩:=hdd hex xox (g.o.wf.trans (WF.later (zg g.o.at_.lt.2 (vZ g.o.at_.lt.1)) HB1.o)) (wa.o.trans (WF.later (b:=b) (zg g.o.at_.lt.2 (vZ g.o.at_.lt.1)) HB1.o));obtain⟨-,mm,Ew⟩:=HMX.o.keep xov.o;have haz:(⟨a.toArray⟩:ByteArray).size=al:=(by rw[size_mk,HAL.o]);have HRP:=Z (Tryz.strings_ReplaceAll ⟨a.toArray⟩ ⟨#[39]⟩ ⟨#[39,39]⟩ mm w1 (by rw[haz];omega) Ew zW (by
     show(⟨a.toArray⟩:ByteArray).size+Lib.count (⟨a.toArray⟩:ByteArray).data.toList [39]*2<=_;rw[haz,toList_mk,Tq];have:=List.count_le_length (a:=(39:UInt8)) (l:=a);exact Ml))
    have HRP:=Z (show zE Tryz.prog 136 #[.string ((⟨u.toArray⟩:ByteArray).extract 0 al),.string ⟨#[39]⟩,.string ⟨#[39,39]⟩] w1 λe w'=>e = .returned (zO (kZ a))/\yE w1 w1 w' by
     rw[HEX.o];refine HRP.o.mono ?_;rintro e w' ⟨rfl,h⟩;rw[toList_mk];exact⟨by rw[show(⟨#[39]⟩:ByteArray).data.toList=[39]from rfl,show(⟨#[39,39]⟩:ByteArray).data.toList=[39,39]from rfl,Tk],h⟩)
    obtain⟨tr,htr⟩:∃x,zzq a 39=x:=⟨_,rfl⟩;have HTR:=Z htr;have HTM:=Z (λW=>(show zE Tryz.prog 137 #[.string ((⟨u.toArray⟩:ByteArray).extract 0 al),.string ⟨#[39]⟩] W λe w'=>e = .returned (zO tr)/\(w'=W\/w'=W.drew) by
     rw[HEX.o];refine(Tryz.strings_Trim_one ⟨a.toArray⟩ 39 zW W (by rw[haz];omega)).mono ?_;rintro e w' ⟨rfl,h⟩;rw[toList_mk,HTR.o];exact⟨rfl,h⟩))
    clear hex xox Ew haz htr;go_wp2_with fail;refine HRP.o.mono ?_;rintro e w2 ⟨rfl,qX⟩;have vmd:=Z (m.o.later qX);have Bp:=Z (xov.o.trans (WF.later (zg m.o.lt.2 (vZ m.o.lt.1)) qX));have xou:=Z (vmg.o.trans (WF.later (b:=b) (zg m.o.lt.2 (vZ m.o.lt.1)) qX));clear qX;go_wp2_with fail;refine(HTM.o w2).mono ?_;rintro e w3 ⟨rfl,hd⟩;obtain⟨w3',h33⟩:∃Xk,w3=Xk:=⟨_,rfl⟩;have I:=Z (show j5 B b acc w3 by rcases hd with rfl|rfl<;>exact vmd.o);have vmb:=Z (show WF B b w w3 by rcases hd with rfl|rfl<;>first|exact Bp.o|exact Bp.o.drew);have vn0:=Z (show WF B b W0 w3 by rcases hd with rfl|rfl<;>first|exact xou.o|exact xou.o.drew);clear hd h33;go_upto_if 26 with fail
    go_cut [7] (λrv wc=>rv=zO (fZ a)/\wc=w3)
    case first =>
     by_cases h0:tr=[]
     .have HQ:=Z (show kZ a=fZ a by
       unfold fZ;rw[yv (λe=>(Tv a).2 e (HTR.o.trans h0))])
      have g0:xjv tr=true:=(by rw[h0];rfl);have g1:(!List.isEmpty tr)=false:=(by rw[g0];rfl);rw[g1];clear h0;go_wp2_with fail;go_meet
      case rel=>exact⟨by rw[<-HQ.o],rfl⟩
     .have HQ:=Z (show(39::(kZ a++[39]):Wd)=fZ a by
       unfold fZ;rw[yK ((Tv a).1 (λe=>h0 (HTR.o.symm.trans e)))])
      have g0:xjv tr=false:=by
       cases htt:tr with
       |nil=>exact absurd htt h0
       |cons x y=>rfl
      have g1:(!List.isEmpty tr)=true:=(by rw[g0];rfl);rw[g1];obtain⟨da,hda⟩:∃x,kZ a=x:=⟨_,rfl⟩;have uS:da.length<=200000000:=by
       have h1:=o9 a;have h2:=HAL.o;rw[hda]at h1;omega
      have Tw:¬9223372036854775807<1+da.length:=J;have Ec:¬9223372036854775807<1+da.length+1:=J;rw[hda]at HQ|-;clear h0 hda;go_wp2_with fail;go_meet
      case rel=>exact⟨by rw[<-HQ.o];rfl,rfl⟩
    case rest =>
     obtain⟨rfl,i⟩:=hcut;have i:=i.symm;subst i;obtain⟨rq,hrq⟩:∃x,fZ a=x:=⟨_,rfl⟩;have d:=d.o;have Ix:=Z (hrq▸Ix.o);rw[hrq]at d|-;have d:=Z d;clear hrq;go_wp2_with fail;refine yw ?_;intro W4 Lp;have VT:zR w3 W4:=WY;have xoq:=Z (show jD W4 (w3:Nat) [rq] from⟨9,(0,0),zW,zW,AP⟩);have xok:=I.o.later VT;have S:=zg I.o.lt.2 (vZ I.o.lt.1);have D:=Z (vmb.o.trans (WF.later (b:=b) S VT));have A:=Z (vn0.o.trans (WF.later (b:=b) S VT));clear Lp VT;refine(YN B b (w3:Nat) (acc) [rq] W4 xok xoq.o (by have:=d.o;simp;omega) zV).mono ?_;rintro e w4 ⟨⟨rv4,rfl⟩,Ta,Gt⟩;have K:=Z (show j5 B b (acc++rq) w4 by simpa using Ta);have xoj:=Z (D.o.trans Gt);have M:=Z (A.o.trans Gt);clear Ta Gt xok S D A;have P:w4.heap[q]? = some (.cells #[.bool num] 4 (0,0)):=M.o.kept q _ HBX.o (by simpa using HQB.o) (λc fz e=>by cases e);have cq4:zk w4 q 0 (.bool num):=(by rw[yx P];rfl);have iO:PredGrows Tryz.prog 138 #[(q,0)] (eo num) w4:=λW' x _ hb=>(tT x q num W' ((hb.cell (p:=(q,0)) (X _ _ cq4)).trans cq4)).mono λe w' h=>⟨h.1,h.2▸zu _ _⟩
     have HI2:=Z (Tryz.strings_IndexFunc_grows 138 #[(zQ q 0)] (λargs w=>enters_of func138 yg rfl args w) (eo num) ⟨r.toArray⟩ w4 iO);obtain⟨rl,G⟩:∃n,r.length=n:=⟨_,rfl⟩;obtain⟨zl,k⟩:∃n,z.length=n:=⟨_,rfl⟩;rw[Tx,toList_mk,size_mk,HZ.o,G,k]at HI2;rw[G]at wM hzl;have umb:rl<=H:=J;clear wM;rw[k]at hzl;have HRL:=Z G;have HZL:=Z k;have HTZ:=Z (k▸HTZ.o);have HV:=Z (k▸HV.o);have s:=Z (show Value.string ((⟨u.toArray⟩:ByteArray).extract al H)=zO r by rw[s.o]);have HI2:=Z (show zE Tryz.prog 133 #[.string ((⟨u.toArray⟩:ByteArray).extract al H),.func (.func 138) #[] #[(zQ q 0)]] w4 λe w'=>e = .returned (.int .i64 (if zl<rl then (zl:Int)else -1))/\yE w4 w4 w' by rw[s.o];exact HI2.o);have rsz:((⟨u.toArray⟩:ByteArray).extract al H).size=rl:=by
      have h1:=s.o;simp only[zO,vqz]at h1;rw[h1,size_mk];exact HRL.o
     clear P cq4 iO G k;go_wp2_with fail;refine HI2.o.mono ?_;rintro e w5 ⟨rfl,ZV⟩;have T:=zg K.o.lt.2 (vZ K.o.lt.1);have L:=Z (K.o.later ZV);have yg9:=Z (xoj.o.trans (WF.later (b:=b) T ZV));have vn5:=Z (M.o.trans (WF.later (b:=b) T ZV));clear ZV T;go_upto_if 41 with fail
     go_cut [6] (λnv wc=>nv = .int .i64 zl/\wc=w5)
     case first =>
      by_cases R:zl<rl
      .rw[yK R];exact Lm
      .rw[yv R];have hae:zl=rl:=(by omega);subst hae;exact Lm
     case rest =>
      obtain⟨rfl,i⟩:=hcut;have i:=i.symm;subst i;rw[s.o];have hzI:(zl:Int)<=(rl:Int):=J;have QD:(⟨r.toArray⟩:ByteArray).size=rl:=(by rw[size_mk,HRL.o]);have HEZ:=Z (show(⟨r.toArray⟩:ByteArray).extract 0 zl=⟨z.toArray⟩by rw[extract_mk,HTZ.o]);have HEV:=Z (show Value.string ((⟨r.toArray⟩:ByteArray).extract zl rl)=zO v by
       have:=Fs r zl (by rw[HRL.o];omega);rw[HRL.o]at this;rw[this,HV.o])
      clear rsz;go_wp2_with fail;refine yw ?_;intro W6 EA;have gT:zR w5 W6:=(by rw[EA];exact(zu _ _).alloc (Y _) _);have lg:=Z (show jD W6 (w5:Nat) [z] from⟨9,(0,0),zW,zW,by rw[EA,HEZ.o];exact ur _ _⟩);have xog:=L.o.later gT;have U:=zg L.o.lt.2 (vZ L.o.lt.1);have E:=Z (yg9.o.trans (WF.later (b:=b) U gT));have C:=Z (vn5.o.trans (WF.later (b:=b) U gT));clear EA gT;refine(YN B b (w5:Nat) (acc++rq) [z] W6 xog lg.o (by have:=d.o;simp;omega) zV).mono ?_;rintro e w6 ⟨⟨rv6,rfl⟩,hw6,gW⟩;have zob:=Z (show j5 B b (acc++rq++z) w6 by simpa using hw6);have xof:=Z (E.o.trans gW);have N:=Z (C.o.trans gW);clear hw6 gW xog U E C;go_wp2_with fail;go_roundw
      case rel=>exact⟨v,acc++rq++z,HEV.o,by have:=lG.o;have:=f.o;have:=HUL.o;omega,⟨zob.o,xof.o,by
       have xod:w6.heap[q]? = some (.cells #[.bool num] 4 (0,0)):=N.o.kept q _ HBX.o (by simpa using HQB.o) (λc fz e=>gG);rw[yx xod];rfl,by rw[<-Ix.o];simp⟩,N.o⟩
      case measure =>
       have:=lG.o;have:=f.o;rw[HEV.o];simp only[szS,zO];rw[size_mk,size_mk];omega
variable{hi lo:Nat}{W' w0:z8}
def OY(t:Wd)(w:z8):(za (.iface 206 (zO t)) 193 206 true).run Tryz.prog w = .ok (.tuple #[zO t,.bool true]) w:=xG
def OX(w:z8):(za (.iface 208 (.agg #[])) 193 206 true).run Tryz.prog w = .ok (.tuple #[.string ⟨#[]⟩,.bool false]) w:=xG
def OV(w:z8):(za (.iface 208 (.agg #[])) 193 208 true).run Tryz.prog w = .ok (.tuple #[.agg #[],.bool true]) w:=xG
def Tg(b0:Nat)(w:z8):(za (.iface 210 (b0,0)) 193 206 true).run Tryz.prog w = .ok (.tuple #[.string ⟨#[]⟩,.bool false]) w:=xG
def Tf(b0:Nat)(w:z8):(za (.iface 210 (b0,0)) 193 208 true).run Tryz.prog w = .ok (.tuple #[.agg #[],.bool false]) w:=xG
def Td(b0:Nat)(w:z8):(za (.iface 213 (b0,0)) 193 206 true).run Tryz.prog w = .ok (.tuple #[.string ⟨#[]⟩,.bool false]) w:=xG
def Tb(b0:Nat)(w:z8):(za (.iface 213 (b0,0)) 193 208 true).run Tryz.prog w = .ok (.tuple #[.agg #[],.bool false]) w:=xG
def ew(b0:Nat)(w:z8):(za (.iface 199 (b0,0)) 193 206 true).run Tryz.prog w = .ok (.tuple #[.string ⟨#[]⟩,.bool false]) w:=xG
def iz(b0:Nat)(w:z8):(za (.iface 199 (b0,0)) 193 208 true).run Tryz.prog w = .ok (.tuple #[.agg #[],.bool false]) w:=xG
def Dc(w:z8):Prop:=∀j,j<3->zk w 5 j (zO (qC j))
def TZ(f:Nat)(hf:f<3)(w:z8)(h:Dc w):zE Tryz.prog 90 #[(f:Nat)] w λe w'=>e = .returned (zO (qC f))/\w=w':=by
 have hc:=h f hf;have h1:(f:Int)<3:=J;go_enter func90,ntmps90;exact B0
def iy(w:z8)(os:Array Obj):yE w w (yzg w os) :=
 ⟨rfl,rfl,rfl,by simp[yzg],λk a=>by unfold yzg;simp only[Array.getElem?_append];rw[yK a]⟩
def zp0(u:Nat)(a:u<=9223372036854775807)(w:z8)(h:YO Tryz.prog w "internal/strconv.uint64pow10" .u64 Y1) :
  zE Tryz.prog 91 #[u] w λe w'=>e = .returned (zO (zn u))/\zR w w':=by
 refine(Tryz.strconv_Itoa (u:Int) J J w h).mono ?_;rintro e w' ⟨rfl,k,os,rfl⟩;refine⟨by rw[Lib.itoa_nonneg],?_⟩;have h1:yE w w (w.drewN k):=below_drewN (zu _ _) k;have h2:=iy (w.drewN k) os;exact h1.trans (h2.mono h1.size)
def Ob.lt{o:Wd}(h:Ob o):yb o<=999999999:=by
 have h1:yb o=Zv o:=rfl;have h2:=mg o h.dig;have a:10 ^ o.length<=10 ^ 9:=Nat.pow_le_pow_right J h.len;have b:(10:Nat) ^ 9=1000000000:=zW;omega
def xx7(num:Bool)(t:Wd):t.length<=(KD num t).length:=by
 have h:∀(n:Nat) (s:Wd),s.length<=n->s.length<=(Tc num n s).length:=by
  intro n;induction n with
  |zero=>intro s hs;rw[Tc];simpa using hs
  |succ n b =>
   intro s hs;rw[Tc];split
   .next h=>rw[h];exact Y _
   next d =>
   have hp:=zt.2 d;split
   .have:=b (s.drop 1) yF;simp at this|-;omega
   next ha =>
   have g:=zt.2 ha;have h1:=b (s.drop (s.takeWhile (qB num)).length) yF;have h2:(s.takeWhile (qB num)).length<=(fZ (s.takeWhile (qB num))).length:=by
    have e:∀a:Wd,a.length<=(kZ a).length:=by
     intro a;induction a with
     |nil=>exact Y _
     |cons c t b =>
      unfold kZ at b|-;rw[zh,zy,zY];have:1<=(if c=39 then [39,39]else [c]:Wd).length:=(by split<;>simp);omega
    have f:=e (s.takeWhile (qB num));unfold fZ;split
    .simp;omega
    .exact f
   simp at h1|-;omega
 exact h _ t (Y _)
structure zp1(lo hi B:Nat)(w0 W:z8):Prop where
 keep:vx lo hi w0 W
 hi:hi<=B
 mx:Tj B W
 words:5<B/\Dc W
 pow:7<B/\YO Tryz.prog W "internal/strconv.uint64pow10" .u64 Y1
def KE:Tryz.prog.globalNamed "internal/strconv.uint64pow10" = some 7:=yg
def LF(h:YO Tryz.prog W "internal/strconv.uint64pow10" .u64 Y1)(hb:yE B W W')(hB:7<B):YO Tryz.prog W' "internal/strconv.uint64pow10" .u64 Y1:=by
 unfold YO vzz at h|-;rw[KE]at h|-;simp only[yzj]at h|-;rw[hb.block _ hB];exact h
def zp1.go{b:Nat}(h:zp1 lo hi B w0 W)(k:WF B b W W'):zp1 lo hi B w0 W' where
 keep:=⟨zg h.keep.1 k.below.size,λi h1 h2=>(k.below.block i (zC h2 h.hi)).trans (h.keep.2 i h1 h2)⟩
 hi:=h.hi
 mx:=h.mx.keep k
 words:=⟨h.words.1,λj a=>(k.below.cell (p:=⟨5,j,none⟩) h.words.1).trans (h.words.2 j a)⟩
 pow:=⟨h.pow.1,LF h.pow.2 k.below h.pow.1⟩
def xx8(lo hi B b:Nat)(w0:z8)(num:Bool)(f:Fo):Prop:=∀(l:Wd) (W:z8) (a:Option yI) (c:Nat) (vs:List zx),j5 B b l W->zp1 lo hi B w0 W->Uv lo hi w0 a vs->yY lo hi w0 vs f->l.length+(Y6 zn yb num f).length<=100000000 ->
 zE Tryz.prog 41 #[(b,0),.slice a f.len c,.bool num] W λe w'=>(∃v,e = .returned v)/\j5 B b (l++Y6 zn yb num f) w'/\WF B b W w'
def zp2(W:z8)(cs:Array zx)(t:xM):∃a,W.alloc (.cells cs t)=a/\zR W a/\a.heap[(W:Nat)]? = some (.cells cs t (0,0)):=⟨_,rfl,(zu _ _).alloc (Y _) _,ur _ _⟩
def th{b:Nat}(num:Bool)(f:Fo)(hm:f.ya=true)(hw:f.wf 2000000=true)(hs:f.bl)(hl:f.len<=2000000)
  (ih:∀(m:Fo) (nm:Bool),zH m<zH f->m.ya=true->m.wf 2000000=true->m.bl->m.len<=2000000->xx8 lo hi B b w0 nm m):xx8 lo hi B b w0 num f:=by
 intro l W a c vs R yv2 Yx D8 hlen;obtain⟨L,hL⟩:=zw f.len;rw[hL];have hvl:vs.length=L:=(yY.count f vs D8 hm).trans hL;obtain⟨F,hF⟩:=zw (l++Y6 zn yb num f);have hFl:F.length<=100000000:=by rw[<-hF,zy];exact hlen
 rw[hF];obtain⟨vn6,zp3,Yy,Gb,HM,HW,HS,HF⟩:=OH R yv2 Yx D8 hm hw hs hF;obtain⟨HFL,HIH,iK,HL⟩:=hdd hFl ih hvl hL;have hL2:L<=2000000:=J;clear R yv2 Yx D8 hm hw hs hF hFl ih hvl hl hL hlen;go_enter func41,ntmps41;go_wp2_with fail;go_loopw [17] (λiv wr=>∃i us xs r acc,iv = .int .i64 (i:Nat)/\i<=L/\yY lo hi w0 xs r/\r.ya=true/\r.wf 2000000=true/\r.bl/\us.length=i/\vs=us++xs/\i+r.len=L/\zH r<=zH f/\j5 B b acc wr/\WF B b W wr/\acc++Y6 zn yb num r=F) (λiv _=>L - (intOf iv).toNat)
 case atStart=>exact⟨0,[],vs,f,l,rfl,zJ _,Gb.o,HM.o,HW.o,HS.o,rfl,rfl,by have:=HL.o;omega,Y _,vn6.o,WF.refl _ _ _,HF.o⟩
 case round =>
  obtain⟨i,us,xs,r,acc,rfl,hiL,k,hmr,EP,Mt,K0,hvs,Z9,Z0,R,IF,heq⟩:=hrel;obtain⟨HN,s,z,w,Pv,HUS,M,wa⟩:=OH k hmr EP Mt hvs K0 R IF;have u:=Z (zp3.o.go IF);have pB:=Z heq;clear k hmr EP Mt hvs K0 R IF heq;by_cases uh:i<L
  .obtain⟨x0,xt,IQ⟩:∃x0 xt,xs=x0::xt:=zyf;subst IQ;obtain⟨g,o,rfl,FD,Ik,dT⟩:=Yy.o i (by have:=iK.o;omega);have lx:vs[i]'(by have:=iK.o;omega)=x0:=zyq;rw[lx]at dT;have VK:=yM u.o.keep dT FD Ik;have k1:(i:Int)<(L:Int):=J;have k2:decide ((i:Int)<(L:Int))=true:=yF;have ZX:=Z Z0;clear dT lx Z0;obtain⟨y,hy⟩:∃y,y=x0:=⟨_,rfl⟩;replace Pv:=Z (show vs=us++y::xt by rw[hy];exact Pv.o);clear hy;cases r with
   |nil =>
    have:=HN.o;cases this
   |xi k0 a0 U r0=>have:=s.o;cases this
   |text t r =>
    obtain⟨vt,he,k⟩:=HN.o;cases he;have e1:=OY t;have V:=Z k;clear k;have z:=Z (show r.wf 2000000=true from z.o);have s:=Z (show r.ya=true from s.o);have w:=Z (show r.bl from w.o);have QI:=Z (show i+(r.len+1)=L from Z9);have ZX:=Z (show zH r<=zH f by have:=ZX.o;simp at this;omega);have Ix:=Z (show acc++(KD num t++Y6 zn yb num r)=F from pB.o);have hlen:acc.length+(KD num t).length<=100000000:=(by have h1:=congrArg xJ Ix.o;have h2:=HFL.o;simp only[zy]at h1;omega);have HTX:=Z (yg8 B b acc t num wr M.o u.o.mx hlen (by have:=xx7 num t;omega));clear hlen;go_wp2_with fail;refine HTX.o.mono ?_;rintro e w2 ⟨⟨rv,rfl⟩,h1,h2⟩;have C:=Z h1;have Bp:=Z (wa.o.trans h2);clear h1 h2;go_wp2;go_roundw
    case rel=>exact⟨i+1,us++[y],_,r,acc++KD num t,zV,J,V.o,s.o,z.o,w.o,K9,BD,U6,Ga,C.o,Bp.o,Mc⟩
    case measure=>simp only[intOf];omega
   |hash r =>
    obtain⟨vt,he,k⟩:=HN.o;cases he;have e1:=OX;have e2:=OV;have V:=Z k;clear k;have z:=Z (show r.wf 2000000=true from z.o);have s:=Z (show r.ya=true from s.o);have w:=Z (show r.bl from w.o);have QI:=Z (show i+(r.len+1)=L from Z9);have ZX:=Z (show zH r<=zH f by have:=ZX.o;simp at this;omega);have Ix:=Z (show acc++([35]++Y6 zn yb num r)=F from pB.o);go_wp2_with fail;refine yw ?_;intro W4 Lp;have Q:zR wr W4:=(by rw[Lp];exact((zu _ _).alloc (Y _) _).alloc zV _);have O:=Z (show jD W4 ((wr:Nat)+1) [[35]] from⟨9,(0,0),zW,zW,by rw[Lp];have q:=ur (wr.alloc (.cells #[] 208)) (.cells #[zO [35]] 9);simpa using q⟩);have G:=M.o.later Q;have H:=zg M.o.lt.2 (vZ M.o.lt.1);have I:=WF.later (b:=b) H Q;clear Lp;refine(YN B b ((wr:Nat)+1) (acc) [[35]] W4 G O.o MP zV).mono ?_;rintro e w4 ⟨⟨rv4,rfl⟩,Ta,Gt⟩;have zp4:=Z (show j5 B b (acc++[35]) w4 by simpa using Ta);have E:=Z (I.trans Gt);have zp5:=Z (wa.o.trans E.o);have ycb:=Z (u.o.go E.o);clear Ta Gt G H I Q;go_wp2;go_roundw
    case rel=>exact⟨i+1,us++[y],_,r,acc++[35],zV,J,V.o,s.o,z.o,w.o,K9,BD,U6,Ga,zp4.o,zp5.o,Mc⟩
    case measure=>simp only[intOf];omega
   |put n a r =>
    obtain⟨vt,b0,he,P,A,YU,U5,k⟩:=HN.o;cases he;have EM:=yM u.o.keep YU P A;have e1:=Tg b0;have e2:=Tf b0;have e3:=Kv b0;have V:=Z k;have T:(decide (n.length<=4000001) && r.wf 2000000)=true:=z.o;simp only[zv,decide_eq_true_eq]at T;have z:=Z T.2;have S:n.length<=16/\r.bl:=w.o;have w:=Z S.2;clear k T S YU U5;have s:=Z (show r.ya=true from s.o);have QI:=Z (show i+(r.len+1)=L from Z9);have ZX:=Z (show zH r<=zH f by have:=ZX.o;simp at this;omega);have Ix:=Z (show acc++((123::(n++[125]))++Y6 zn yb num r)=F by rw[<-pB.o,Y6];simp);go_wp2_with fail;refine yw ?_;intro W4 Lp;have Q:zR wr W4:=WY;have O:=Z (show jD W4 (wr:Nat) [[123],n,[125]] from⟨9,(0,0),zW,zW,AP⟩);have G:=M.o.later Q;have H:=zg M.o.lt.2 (vZ M.o.lt.1);have I:=WF.later (b:=b) H Q;clear Lp;refine(YN B b (wr:Nat) (acc) [[123],n,[125]] W4 G O.o MP zV).mono ?_;rintro e w4 ⟨⟨rv4,rfl⟩,Ta,Gt⟩;have zp4:=Z (show j5 B b (acc++(123::(n++[125]))) w4 by simpa using Ta);have E:=Z (I.trans Gt);have zp5:=Z (wa.o.trans E.o);have ycb:=Z (u.o.go E.o);clear Ta Gt G H I Q;clear EM;go_wp2;go_roundw
    case rel=>exact⟨i+1,us++[y],_,r,acc++(123::(n++[125])),zV,J,V.o,s.o,z.o,w.o,K9,BD,U6,Ga,zp4.o,zp5.o,Mc⟩
    case measure=>simp only[intOf];omega
   |num n a r =>
    obtain⟨vt,b0,he,P,A,YU,U5,k⟩:=HN.o;cases he;have EM:=yM u.o.keep YU P A;have e1:=Td b0;have e2:=Tb b0;have e3:=Ku b0;have e4:=XW b0;have V:=Z k;have T:(decide (n.length<=4000001) && r.wf 2000000)=true:=z.o;simp only[zv,decide_eq_true_eq]at T;have z:=Z T.2;have S:n.length<=16/\r.bl:=w.o;have w:=Z S.2;clear k T S YU U5;have s:=Z (show r.ya=true from s.o);have QI:=Z (show i+(r.len+1)=L from Z9);have ZX:=Z (show zH r<=zH f by have:=ZX.o;simp at this;omega);have Ix:=Z (show acc++((123::(n++[44,32,110,117,109,98,101,114,125]))++Y6 zn yb num r)=F by rw[<-pB.o,Y6];simp);go_wp2_with fail;refine yw ?_;intro W4 Lp;have Q:zR wr W4:=WY;have O:=Z (show jD W4 (wr:Nat) [[123],n,[44,32,110,117,109,98,101,114,125]] from⟨9,(0,0),zW,zW,AP⟩);have G:=M.o.later Q;have H:=zg M.o.lt.2 (vZ M.o.lt.1);have I:=WF.later (b:=b) H Q;clear Lp;refine(YN B b (wr:Nat) (acc) [[123],n,[44,32,110,117,109,98,101,114,125]] W4 G O.o MP zV).mono ?_;rintro e w4 ⟨⟨rv4,rfl⟩,Ta,Gt⟩;have zp4:=Z (show j5 B b (acc++(123::(n++[44,32,110,117,109,98,101,114,125]))) w4 by simpa using Ta);have E:=Z (I.trans Gt);have zp5:=Z (wa.o.trans E.o);have ycb:=Z (u.o.go E.o);clear Ta Gt G H I Q;clear EM;go_wp2;go_roundw
    case rel=>exact⟨i+1,us++[y],_,r,acc++(123::(n++[44,32,110,117,109,98,101,114,125])),zV,J,V.o,s.o,z.o,w.o,K9,BD,U6,Ga,zp4.o,zp5.o,Mc⟩
    case measure=>simp only[intOf];omega
   |br n a fo of cl bs r =>
    obtain⟨vt,b0,ba,bc,ws,he,P,A,YU,U5,XY,IK,DL,R3,Bf,Dz,k⟩:=HN.o;cases he;have xob:lo<=b0/\b0<hi:=⟨P,A⟩;have HLH:=Z xob;have EM:=yM u.o.keep YU P A;have hh2:=yM u.o.keep XY P A;have e1:=ew b0;have e2:=iz b0;have e3:=Gi b0;have e4:=Qj b0;have e5:=Uj b0;obtain⟨V,aY,IJ,HC2,HC3,HC4⟩:=ED k Dz Bf XY IK DL;have T:(decide (n.length<=4000001) && decide (fo<3) && bs.xm && decide (bs.len<=2000000) && bs.wf 2000000 && r.wf 2000000)=true:=z.o;simp only[zv,decide_eq_true_eq]at T;obtain⟨⟨⟨⟨⟨IG,lK⟩,lH⟩,hbn⟩,XO⟩,za0⟩:=T;have S:n.length<=16/\fo<3/\Ob of/\bs.bl/\r.bl:=w.o;obtain⟨z,HBL,HBW,HOF,vn7,w⟩:=ED za0 lH XO S.2.2.1 S.2.2.2.1 S.2.2.2.2;have s:=Z (show r.ya=true from s.o);have QI:=Z (show i+(r.len+1)=L from Z9);have ZX:=Z (show zH r<=zH f/\zH bs<zH f by have:=ZX.o;simp at this;omega);obtain⟨nb,iJ⟩:∃x,decide (fo≠0)=x:=⟨_,rfl⟩;have xx9:((fo:Int) !=0)=nb:=by
     rw[<-iJ];by_cases h0:fo=0
     .subst h0;rfl
     .rw[decide_eq_true h0,bne,beq_eq_false_iff_ne.2 J];rfl
    have xp0:((fo:Int)==0) = !nb:=(by rw[<-xx9,bne,Bool.not_not]);have vn8:=Z xx9;have vn9:=Z xp0;have Ix:=Z (show acc++((123::(n++([44,32]++(qC fo++[44]))))++((if 0<yb of then [32,111,102,102,115,101,116,58]++zn (yb of)else [])++(Y6 zn yb nb bs++125::Y6 zn yb num r)))=F by rw[<-pB.o,Y6,iJ];simp);have un3:(fo:Int)<3:=J;have OI:zk wr.drew b0 0 (zO n)/\zk wr.drew b0 2 fo:=⟨EM,hh2⟩;clear YU U5 XY IK DL R3 Bf Dz k za0 lH XO S iJ xx9 xp0 pB HN IG;go_wp2_with fail;refine Vy (λW':z8=>zk W' b0 0 (zO n)/\zk W' b0 2 fo) [0,1,2,3,4,5,6,7,8,9] 3 OI ?_;obtain⟨wd,hwd⟩:∃Xk,wr.drew=Xk:=⟨_,rfl⟩;have xxz:=Z (show j5 B b acc wd by rw[<-hwd];exact M.o);have xxy:WF B b wr wd:=(by rw[<-hwd];exact(WF.refl _ _ _).drew);have vnz:=Z (wa.o.trans xxy);have D:=Z (u.o.go xxy);rw[hwd]at OI|-;clear hwd xxy;refine gU 10 (λK hK=>?_);go_simp;refine(TZ fo lK wd D.o.words.2).mono ?_;rintro e w' ⟨rfl,rfl⟩;refine hK.out _ _ OI λ_=>?_;clear hK K;refine gU 11 (λK hK=>?_);go_simp;obtain⟨W5,hW5,ZV,hr5⟩:=zp2 wd #[zO [123],zO n,zO [44,32],zO (qC fo),zO [44]] 9;rw[hW5];have xp1:=zg xxz.o.lt.2 (vZ xxz.o.lt.1);have ygz:WF B b wd W5:=WF.later (b:=b) xp1 ZV;have zn2:=Z (show jD W5 (wd:Nat) [[123],n,[44,32],(qC fo),[44]] from⟨9,(0,0),zW,zW,hr5⟩);have BF:=xxz.o.later ZV;refine hK.out _ _ ⟨(ygz.below.cell (p:=(zQ b0 0)) (zC A D.o.hi)).trans OI.1,(ygz.below.cell (p:=(zQ b0 2)) (zC A D.o.hi)).trans OI.2⟩ λ_=>?_;clear hK K hW5 hr5;refine gU 12 (λK hK=>?_);go_simp;refine(YN B b (wd:Nat) (acc) [[123],n,[44,32],(qC fo),[44]] W5 BF zn2.o MP zV).mono ?_;rintro e w5 ⟨⟨rv5,rfl⟩,hw5,OA⟩;have ygy:=Z (show j5 B b (acc++(123::(n++([44,32]++(qC fo++[44]))))) w5 by simpa using hw5);have ygx:=Z (ygz.trans OA);have yg9:=Z (vnz.o.trans ygx.o);have zp6:=Z (D.o.go ygx.o);refine hK.out _ _ ⟨(ygx.o.below.cell (p:=(zQ b0 0)) (zC A D.o.hi)).trans OI.1,(ygx.o.below.cell (p:=(zQ b0 2)) (zC A D.o.hi)).trans OI.2⟩ λ_=>?_;clear hK K hw5 OA BF xp1 ygz ZV;refine Y5 ?_ _;have hh3:=yM zp6.o.keep HC3.o P A;have hov:=HOF.o.lt;obtain⟨ov,xxx⟩:∃x,yb of=x:=⟨_,rfl⟩;rw[xxx]at hh3 hov;have Ix:=Z (xxx▸Ix.o);clear EM hh2 OI xxx;go_upto_if 77 with fail
    go_cut [] (λwc=>j5 B b (acc++(123::(n++([44,32]++(qC fo++[44]))))++(if 0<ov then [32,111,102,102,115,101,116,58]++zn ov else [])) wc/\WF B b W wc)
    case first =>
     by_cases h0:0<ov
     .have j1:decide ((0:Int)<(ov:Int))=true:=(by simp;omega);have j1i:(0:Int)<(ov:Int):=J;have HIT:=Z (zp0 ov J w5 zp6.o.pow.2);go_wp2_with fail;refine HIT.o.mono ?_;rintro e w6 ⟨rfl,gT⟩;have zb4:=zg ygy.o.lt.2 (vZ ygy.o.lt.1);have zob:=Z (ygy.o.later gT);have vny:=Z (yg9.o.trans (WF.later (b:=b) zb4 gT));have xp2:=Z (zp6.o.go (WF.later (b:=b) zb4 gT));clear gT zb4;go_wp2_with fail;refine yw ?_;intro W7 hW7;have XZ:zR w6 W7:=(by rw[hW7];exact(zu _ _).alloc (Y _) _);have xp3:=Z (show jD W7 (w6:Nat) [[32,111,102,102,115,101,116,58],(zn ov)] from⟨9,(0,0),zW,zW,by rw[hW7];exact ur _ _⟩);have xp4:=zob.o.later XZ;have ynv:=zg zob.o.lt.2 (vZ zob.o.lt.1);have xp5:=WF.later (b:=b) ynv XZ;clear hW7;refine(YN B b (w6:Nat) (acc++(123::(n++([44,32]++(qC fo++[44]))))) [[32,111,102,102,115,101,116,58],(zn ov)] W7 xp4 xp3.o (by have h1:=congrArg xJ Ix.o;have h2:=HFL.o;rw[yK h0]at h1;simp only[zy,zY,yG]at h1;simp;omega) zV).mono ?_;rintro e w7 ⟨⟨rv7,rfl⟩,hw7,PN⟩;have vnv:=Z (show j5 B b (acc++(123::(n++([44,32]++(qC fo++[44]))))++([32,111,102,102,115,101,116,58]++zn ov)) w7 by simpa using hw7);have xp6:=Z (xp5.trans PN);have vnu:=Z (vny.o.trans xp6.o);have ujj:=Z (xp2.o.go xp6.o);clear hw7 PN xp4 ynv xp5 XZ;go_wp2;go_meet
      case rel=>exact⟨by rw[yK h0];exact vnv.o,vnu.o⟩
     .have h0':ov=0:=(by omega);subst h0';go_wp2;go_meet
      case rel=>exact⟨by rw[yv (qV 0),qt];exact ygy.o,yg9.o⟩
    case rest =>
     obtain⟨xxv,xxu⟩:=hcut;obtain⟨xp7,zp7⟩:∃x,acc++(123::(n++([44,32]++(qC fo++[44]))))++(if 0<ov then [32,111,102,102,115,101,116,58]++zn ov else [])=x:=⟨_,rfl⟩;rw[zp7]at xxv;have Ix:=Z (show xp7++(Y6 zn yb nb bs++125::Y6 zn yb num r)=F by rw[<-zp7,<-Ix.o];simp);have vnq:=Z xxv;have vnk:=Z xxu;have xp8:=Z (zp3.o.go xxu);clear xxv xxu zp7 hh3;have hh4:=yM xp8.o.keep HC4.o P A;go_wp2_with fail;go_loopw [91] (λiv wq=>∃i2 us2 xs2 r2 d,iv = .int .i64 (i2:Nat)/\i2<=bs.len/\yY lo hi w0 xs2 r2/\r2.xm=true/\r2.wf 2000000=true/\r2.bl/\us2.length=i2*3/\ws=us2++xs2/\i2+r2.len=bs.len/\zH r2<=zH bs/\j5 B b d wq/\WF B b W wq/\d++(Y6 zn yb nb r2++125::Y6 zn yb num r)=F) (λiv _=>bs.len - (intOf iv).toNat)
     case atStart=>exact⟨0,[],ws,bs,xp7,rfl,zJ _,aY.o,HBL.o,HBW.o,vn7.o,rfl,rfl,J,Y _,vnq.o,vnk.o,Ix.o⟩
     case round =>
      obtain⟨i2,us2,xs2,r2,d,rfl,vd2,za1,xpz,za2,xpy,za3,za4,Eo,Ka,xpx,xxq,xpv⟩:=hrel;obtain⟨HN2,Kn,za5,vnj,PI,Pj,C,Bp⟩:=OH za1 xpz za2 xpy za4 za3 xpx xxq;obtain⟨N,xpu,xgb,aX⟩:=hdd (zp3.o.go xxq) xpv Ka Eo;clear za1 xpz za2 xpy za4 za3 xpx xxq xpv Ka;by_cases Bj:i2<bs.len
      .cases r2 with
       |nil=>exfalso;simp[Fo.len]at Eo;omega
       |text t r=>have:=Kn.o;cases this
       |hash r=>have:=Kn.o;cases this
       |put n a r=>have:=Kn.o;cases this
       |num n a r=>have:=Kn.o;cases this
       |br n a fo of cl bs r=>have:=Kn.o;cases this
       |xi k0 a0 U r0 =>
        obtain⟨R4,ma,mc,ms,TI,Ud,lL,Ug⟩:=HN2.o;subst TI;have hwl:ws.length=us2.length+(R4.length+3):=(by rw[PI.o];simp);have R:∀j v,[zO k0,.int .i64 a0,.slice ma U.len mc][j]? = some v->∃(h:i2*3+j<ws.length),ws[i2*3+j]=v:=zj2;obtain⟨q0,p0⟩:=R 0 _ rfl;obtain⟨q1,p1⟩:=R 1 _ rfl;obtain⟨q2,p2⟩:=R 2 _ rfl;obtain⟨g2,o2,rfl,xxk,xxj,d0⟩:=IJ.o (i2*3+0) q0;obtain⟨g2',o2',hgg,_,_,d1⟩:=IJ.o (i2*3+1) q1;cases hgg;obtain⟨g2',o2',hgg,_,_,d2⟩:=IJ.o (i2*3+2) q2;cases hgg;rw[p0]at d0;rw[p1]at d1;rw[p2]at d2;have c0:=yM N.o.keep d0 xxk xxj;have c1:=yM N.o.keep d1 xxk xxj;have c2:=yM N.o.keep d2 xxk xxj;simp only[EK,<-uR]at c0 c1 c2;have yof:=Z Ud;have yod:=Z lL;have yob:=Z Ug;have k3:(i2:Int)<(bs.len:Int):=J;have k4:decide ((i2:Int)<(bs.len:Int))=true:=yF;clear Ud lL Ug d0 d1 d2 p0 p1 p2 R;have R5:(decide (k0.length<=4000001) && U.ya && decide (U.len<=2000000) && U.wf 2000000 && r0.wf 2000000)=true:=za5.o;simp only[zv,decide_eq_true_eq]at R5;obtain⟨⟨⟨⟨_,Q9⟩,Jz⟩,l9⟩,EO⟩:=R5;have lN:zH U<zH f/\zH r0<=zH bs:=zqu;have xxg:U.bl/\r0.bl:=vnj.o;obtain⟨HIM,HSS,yp0,vng,yp1,yn8,ymb⟩:=EB (HIH.o U nb lN.1 Q9 l9 xxg.1 Jz) lN.2 EO xxg.2 (show r0.xm=true from Kn.o) (show i2+(r0.len+1)=bs.len from aX.o) (show d++((32::(k0++[32,123]))++(Y6 zn yb nb U++([125]++(Y6 zn yb nb r0++125::Y6 zn yb num r))))=F by rw[<-xpu.o,Y6];simp);clear Q9 Jz l9 EO lN xxg;have vnf:b<(wr:Nat):=C.o.lt.1;obtain⟨tb,htb⟩:∃x,(wr:Nat)=x:=⟨_,rfl⟩;have HTB:=Z htb;have xpq:tb≠b:=J;have xpk:=Z xpq;clear htb xpq;go_wp2_with fail;refine yw ?_;intro W8 hW8;have hb8:zR wr W8:=(by rw[hW8];exact((zu _ _).alloc (Y _) _).alloc zV _);have xpj:=Z (show jD W8 ((wr:Nat)+1) [[32],k0,[32,123]] from⟨9,(0,0),zW,zW,by rw[hW8];have q:=ur (wr.alloc (.cells #[zO k0,a0,.slice ma U.len mc] 221)) (.cells #[zO [32],zO k0,zO [32,123]] 9);simpa using q⟩);have htc:W8.heap[tb]? = some (.cells #[zO k0,a0,.slice ma U.len mc] 221 (0,0)):=by
         rw[hW8,<-HTB.o,xQ (wr.alloc _) _ (wr:Nat) zV];exact ur _ _
        have xpg:=C.o.later hb8;have xpf:=zg C.o.lt.2 (vZ C.o.lt.1);have xxd:=WF.later (b:=b) xpf hb8;clear hW8;refine(YN B b ((wr:Nat)+1) d [[32],k0,[32,123]] W8 xpg xpj.o zj5 zV).mono ?_;rintro e w8 ⟨⟨rv8,rfl⟩,hw8,hf8⟩;have vnd:=Z (show j5 B b (d++(32::(k0++[32,123]))) w8 by simpa using hw8);have xxb:w8.heap[tb]? = some (.cells #[zO k0,a0,.slice ma U.len mc] 221 (0,0)):=hf8.kept tb _ htc (by simpa using xpk.o) (λc fz e=>by cases e);have vnb:=Z xxb;have vo0:=Z (Bp.o.trans (xxd.trans hf8));have ye0:=Z (N.o.go (xxd.trans hf8));have hS8:zk w8.drew tb 2 (.slice ma U.len mc)/\zk w8.drew b0 2 fo:=⟨by show w8.cell? _=_;rw[yx xxb];rfl,yM ye0.o.keep HC2.o P A⟩;rw[HTB.o];clear hw8 hf8 xpg xpf xxd hb8 htc xxb c0 c1 c2 hh4 VK vnf;have g1:=vn8.o;have g2:=vn9.o;go_wp2_with fail;refine Vy (λW':z8=>zk W' tb 2 (.slice ma U.len mc)/\zk W' b0 2 fo) [0,1,2,3,4,5,6,7] 1 hS8 ?_;obtain⟨wd2,zp8⟩:∃Xk,w8.drew=Xk:=⟨_,rfl⟩;have vo1:=Z (show j5 B b (d++(32::(k0++[32,123]))) wd2 by rw[<-zp8];exact vnd.o);have xv0:WF B b w8 wd2:=(by rw[<-zp8];exact(WF.refl _ _ _).drew);have vo2:=Z (vo0.o.trans xv0);have ye1:=Z (ye0.o.go xv0);have xpd:wd2.heap[tb]? = some (.cells #[zO k0,a0,.slice ma U.len mc] 221 (0,0)):=(by rw[<-zp8];exact vnb.o);rw[zp8];clear zp8 xv0 hS8;refine gU 8 (λK hK=>?_);go_simp;refine(HIM.o (d++(32::(k0++[32,123]))) wd2 ma mc ms vo1.o ye1.o yof.o yod.o zj5).mono ?_;rintro e w10 ⟨⟨un4,rfl⟩,h1,h2⟩;have ye2:w10.heap[tb]? = some (.cells #[zO k0,a0,.slice ma U.len mc] 221 (0,0)):=h2.kept tb _ xpd (by simpa using xpk.o) (λc fz e=>gG);have zp9:=Z h1;have xpb:=Z (vo2.o.trans h2);have zpz:=Z (ye1.o.go h2);refine hK.out _ _ ⟨by rw[yx ye2];rfl,yM zpz.o.keep HC2.o P A⟩ λ_=>?_;clear hK K h1 h2 xpd ye2;refine Y5 ?_ _;go_wp2_with fail;refine yw ?_;intro W12 xv1;have Wh:zR w10 W12:=by rw[xv1];exact(zu _ _).alloc (Y _) _
        have xv2:=Z (show jD W12 (w10:Nat) [[125]] from⟨9,(0,0),zW,zW,by rw[xv1];exact ur _ _⟩);have ye3:=zp9.o.later Wh;have ye4:=zg zp9.o.lt.2 (vZ zp9.o.lt.1);have ye5:=WF.later (b:=b) ye4 Wh;clear xv1;refine(YN B b (w10:Nat) (d++(32::(k0++[32,123]))++Y6 zn yb nb U) [[125]] W12 ye3 xv2.o (by have h1:=congrArg xJ ymb.o;have h2:=HFL.o;simp only[zy,zY,yG]at h1;simp;omega) zV).mono ?_;rintro e w12 ⟨⟨un6,rfl⟩,xr0,xr1⟩;have xr2:=Z (show j5 B b (d++(32::(k0++[32,123]))++Y6 zn yb nb U++[125]) w12 by simpa using xr0);have ye6:=Z (ye5.trans xr1);have xr3:=Z (xpb.o.trans ye6.o);have vo3:=Z (zpz.o.go ye6.o);clear xr0 xr1 ye3 ye4 ye5 Wh;go_wp2;go_roundw
        case rel=>exact⟨i2+1,us2++[zO k0,.int .i64 a0,.slice ma U.len mc],R4,r0,d++(32::(k0++[32,123]))++Y6 zn yb nb U++[125],zV,J,yob.o,yp1.o,yp0.o,vng.o,Me,MT,Mi,HSS.o,xr2.o,xr3.o,by rw[<-ymb.o];simp⟩
        case measure=>simp only[intOf];omega
      .have k4:decide ((i2:Int)<(bs.len:Int))=false:=(by simp;omega);have kL:r2 = .nil:=zqz;have xr4:=Z (show d++([125]++Y6 zn yb num r)=F by rw[<-xpu.o,kL];rfl);have ZX:=Z ZX.o.1;go_wp2_with fail;refine yw ?_;intro W9 hW9;have hb9:zR wr W9:=(by rw[hW9];exact(zu _ _).alloc (Y _) _);have xr5:=Z (show jD W9 (wr:Nat) [[125]] from⟨9,(0,0),zW,zW,by rw[hW9];exact ur _ _⟩);have xr6:=C.o.later hb9;have xr7:=zg C.o.lt.2 (vZ C.o.lt.1);have xr8:=WF.later (b:=b) xr7 hb9;clear hW9;refine(YN B b (wr:Nat) (d) [[125]] W9 xr6 xr5.o (by have h1:=congrArg xJ xr4.o;have h2:=HFL.o;simp only[zy,zY,yG]at h1;simp;omega) zV).mono ?_;rintro e w9 ⟨⟨rv9,rfl⟩,hw9,hf9⟩;have vo5:=Z (show j5 B b (d++[125]) w9 by simpa using hw9);have xr9:=Z (xr8.trans hf9);have vo6:=Z (Bp.o.trans xr9.o);have ug0:=Z (N.o.go xr9.o);clear hw9 hf9 xr6 xr7 xr8 hb9;go_wp2;go_roundw
       case rel=>exact⟨i+1,us++[y],_,r,d++[125],zV,J,V.o,s.o,z.o,w.o,K9,BD,U6,Ga,vo5.o,vo6.o,by rw[yk];exact xr4.o⟩
       case measure=>simp only[intOf];omega
  .have k2:decide ((i:Int)<(L:Int))=false:=(by simp;omega);have kL:r = .nil:=WS;have HE:=Z (show acc=F by have:=pB.o;rw[kL,Y6,qt]at this;exact this);go_wp2;go_end0
   exact⟨⟨_,rfl⟩,by rw[<-HE.o];exact M.o,wa.o⟩
def LD{b:Nat}:∀(n:Nat) (f:Fo) (num:Bool),zH f<n->f.ya=true->f.wf 2000000=true->f.bl->f.len<=2000000->xx8 lo hi B b w0 num f
 | 0,f,num,h,_,_,_,_=>absurd h (ZH _)
 |n+1,f,num,h,hm,hw,hs,e=>th num f hm hw hs e λm nm h1 h2 a c d=>LD n m nm J h2 a c d
structure Y0(w:z8):Prop where
 mx:∃m,zk w 6 0 (.int .i64 m)
 words:Dc w
 pow:YO Tryz.prog w "internal/strconv.uint64pow10" .u64 Y1
def zpy(h:YO Tryz.prog w "internal/strconv.uint64pow10" .u64 Y1):7<(w:Nat):=by
 unfold YO vzz at h;rw[KE]at h;simp only[yzj]at h;apply yy;intro hc;rw[jA J]at h;cases h
def Y0.below(h:Y0 w)(hb:zR w w'):Y0 w':=by
 obtain⟨⟨m,h1⟩,h2,a⟩:=h;exact⟨⟨m,(hb.cell (X w _ h1)).trans h1⟩,λj b=>(hb.cell (X w _ (h2 j b))).trans (h2 j b),LF a hb (zpy a)⟩
def Y0.vo7(h:Y0 w)(a:hi<=(w:Nat)):zp1 lo hi (w:Nat) w w where
 keep:=vH a
 hi:=a
 mx:=⟨by obtain⟨m,h1⟩:=h.mx;exact X w _ h1,h.mx⟩
 words:=⟨X w _ (h.words 0 zW),h.words⟩
 pow:=⟨zpy h.pow,h.pow⟩
def hU(lo hi:Nat)(f:Fo)(a:Option yI)(c:Nat)(vs:List zx)(w:z8)(x:Y0 w)(i:Uv lo hi w a vs)(g:yY lo hi w vs f)(y:hi<=(w:Nat))(hm:f.ya=true)(hw:f.wf 2000000=true)(hs:f.bl)(z:f.len<=2000000)(m:(Y6 zn yb false f).length<=10000000) :
  zE Tryz.prog 24 #[.slice a f.len c] w λe w'=>e = .returned (zO (Y6 zn yb false f))/\zR w w':=by
 obtain⟨B,hB⟩:=zw (w:Nat);obtain⟨W,p⟩:=zw (w.alloc (.cells #[.pointer none,.slice none 0 0] 115));have j:yE B w W:=by rw[<-p,<-hB];exact(zu _ _).alloc (Y _) _
 have k:j5 B B [] W:=by
  have:=xx5 w B J;rw[p,hB]at this;exact this
 have n:WF B B w W:=WF.later (TD hB.symm) (hB▸j);have d:=x.vo7 (lo:=lo) y;rw[hB]at d;have t:=Z (LD (lo:=lo) (hi:=hi) (B:=B) (b:=B) (w0:=w) (zH f+1) f false (dK _) hm hw hs z [] W a c vs k (d.go n) i g yF);have s:=Z j;have D:=Z p;obtain⟨F,hF⟩:=zw (Y6 zn yb false f);rw[hF]at t m|-;rw[xV]at t;have u:=Z hB;clear x i g y hm hw hs z j k n d hF p hB;go_enter func24,ntmps24;go_wp2_with fail;rw[D.o,u.o];refine t.o.mono ?_;rintro e w1 ⟨⟨v,rfl⟩,h1,h2⟩;have A:=Z h1;have r:=Z (s.o.trans h2.below);have C:=Z (xx6 B B F w1 h1 J);clear h1 h2;go_wp2_with fail;refine C.o.mono ?_;rintro e w2 ⟨rfl,l⟩;have q:=Z (r.o.trans l);clear l;go_wp2;go_ret;exact⟨rfl,by have h:=q.o;rw[<-u.o]at h;exact h⟩
def ygv(r:Except (Nat×Nat) Fo)(w:z8)(e:xX)(w':z8):Prop :=
 (match r with
  |.error (n,a)=>∃b,e = .returned (.tuple #[.string ⟨#[]⟩,.iface 72 (.pointer (some ⟨b,0,none⟩))])/\zk w' b 0 n/\zk w' b 1 a
  |.ok f=>e = .returned (.tuple #[zO (Y6 zn yb false f),.nilIface]))/\zR w w'
def iu(s:ByteArray)(w:z8)(hs:s.size<=9223372036854775807)(z:Yv 3 4 w)(y:qu w)(x:Y0 w)
  (i:∀f,uo s.data.toList = .ok f->f.bl/\(Y6 zn yb false f).length<=10000000) :
  zE Tryz.prog 14 #[.string s] w (ygv (uo s.data.toList) w):=by
 have k:=Z (R9 s w hs z y);have B:=Z x;obtain⟨r,hr⟩:=zw (uo s.data.toList);rw[hr]at k i|-;have t:=Z i;clear z y x i hr;go_enter func14,ntmps14;go_wp2_with fail;refine k.o.mono ?_;rintro e w1 A;cases r with
 |error en =>
  obtain⟨n,a⟩:=en;obtain⟨⟨v,b,rfl,⟨va,C,vc,rfl⟩,c0,c1⟩,d⟩:=A;have q:=Z (show zk w1 b 0 n/\zk w1 b 1 a/\yE w w w1 from⟨c0,c1,d⟩);clear c0 c1 d;go_wp2;go_ret2
  exact⟨⟨b,rfl,q.o.1,q.o.2.1⟩,q.o.2.2⟩
 |ok f =>
  obtain⟨⟨⟨a,c,vs,rfl,h,g⟩,m⟩,d⟩:=A;obtain⟨h1,h2⟩:=t.o f rfl;have u:=Z (hU (w:Nat) (w1:Nat) f a c vs w1 (B.o.below d) h g (Y _) m.msg m.wf h1 (by have:=m.len;omega) h2);have j:=Z d;clear h g m d h1 h2;go_wp2_with fail;refine u.o.mono ?_;rintro e w2 ⟨rfl,l⟩;have p:=Z (j.o.trans (l.mono j.o.size));clear l;go_wp2;go_ret2
  exact⟨rfl,p.o⟩
def zpx(r:Except (Nat×Nat) Fo)(w:z8)(e:xX)(w':z8):Prop :=
 (match r with
  |.error (n,a)=>e = .returned (.tuple #[.string ⟨#[]⟩,n,a])
  |.ok f=>e = .returned (.tuple #[zO (Y6 zn yb false f),.int .i64 0,.int .i64 0]))/\zR w w'
def TY(s:ByteArray)(w:z8)(hs:s.size<=9223372036854775807)(p:Yv 3 4 w)(m:qu w)(hR:JM w)(l:Y0 w)
  (i:∀f,uo s.data.toList = .ok f->f.bl/\(Y6 zn yb false f).length<=10000000) :
  zE Tryz.prog 6 #[.string s] w (zpx (uo s.data.toList) w):=by
 have k:=Z (iu s w hs p m l i);have u:=Z hR;obtain⟨r,hr⟩:=zw (uo s.data.toList);rw[hr]at k|-;clear p m l i hr hR;go_enter func6,ntmps6;go_wp2_with fail;refine k.o.mono ?_;rintro e w1 q;cases r with
 |error en =>
  obtain⟨n,a⟩:=en;obtain⟨⟨b,rfl,c0,c1⟩,c⟩:=q;have j:=Z (zm0 b (n:Nat) (a:Nat) w1 (u.o.below c) c0 c1);have d:=Z c;clear c0 c1 c;go_wp2_with fail;refine j.o.mono ?_;rintro e w2 ⟨rfl,g⟩;have h:=Z (d.o.trans (g.mono d.o.size));clear g;go_wp2;refine yU (v := .tuple #[.string ⟨#[]⟩,n,a]) ?_ rfl ?_
  .simp[yN,results6,go_sem]
  exact⟨rfl,h.o⟩
 |ok f =>
  obtain⟨rfl,c⟩:=q;have j:=Z (UI w1);have d:=Z c;obtain⟨F,hF⟩:=zw (Y6 zn yb false f);rw[hF];have t:=Z hF;clear c hF;go_wp2_with fail;refine j.o.mono ?_;rintro e w2 ⟨rfl,g⟩;have h:=Z (d.o.trans (g.mono d.o.size));clear g;go_wp2;refine yU (v := .tuple #[zO F,.int .i64 0,.int .i64 0]) ?_ rfl ?_
  .simp[yN,results6,go_sem]
  refine⟨?_,h.o⟩;show _=Ending.returned (.tuple #[zO (Y6 zn yb false f),.int .i64 0,.int .i64 0]);rw[t.o]
def EY(s:ByteArray)(w:z8)(hs:s.size<=9223372036854775807)(a:gP w)(b:Y0 w) :
  zE Tryz.prog 6 #[.string s] w (zpx (uo s.data.toList) w) :=
 TY s w hs a.cmp.tabs.rr a.cmp.names a.cmp.tabs.err b λf h=>zou h
def wz(s:ByteArray)(l:List Wd)(a:Option yI)(n cp:Nat)(w:z8)(hs:s.size<=9223372036854775807)(hn:l.length=n)(ZY:n<=9223372036854775807)(ht:YC w a l)(hl:∀t∈l,t.length<=9223372036854775807)(hE:gP w)(hC:Y0 w) :
  zE Tryz.prog 3 #[.string s,.slice a n cp] w λe w'=>e = .returned (.bool true)/\zR w w':=by
 by_cases h60:8192<s.size
 .have g1:decide (8192<(s.size:Int))=true:=decide_eq_true J;go_enter func3,ntmps3;exact Aj
 have un7:s.size<=8192:=J;have g1:decide (8192<(s.size:Int))=false:=decide_eq_false J;by_cases hm:60<n
 .have g2:decide (60<(n:Int))=true:=decide_eq_true J;clear hs;go_enter func3,ntmps3;exact Aj
 have g2:decide (60<(n:Int))=false:=decide_eq_false J;have un8:n<=60:=J;have Vk:=Z (eM w hE);have HE:=Z (zf hE hC);have HT:=Z (zf hn (zf ht hl));clear h60 hE hC hm hn ht hl;go_enter func3,ntmps3;go_wp2_with fail;go_loop [5] (λiv=>∃i:Nat,iv = .int .i64 (i:Nat)/\i<=n/\∀t∈l.take i,t.length<=8192) (λiv=>n - (intOf iv).toNat)
 case atStart=>exact⟨0,rfl,zJ _,λt h=>xp⟩
 case round =>
  obtain⟨i,rfl,hi,LR⟩:=hrel;have H:=Z LR;clear LR;by_cases uh:i<n
  .have k2:(i:Int)<(n:Int):=(by omega);have hil:i<l.length:=(by rw[HT.o.1];exact uh);obtain⟨g,o,rfl,hc⟩:=HT.o.2.1 (λe=>by rw[e]at hil;cases hil);have b:=hc i l[i] (by simp[hil]);obtain⟨t,htt⟩:=zw (l[i]);rw[htt]at b;have Px:=Z (show l[i]? = some t by rw[zj hil,htt]);clear hc;by_cases hb:8192<t.length
   .have g3:decide (8192<((t.length:Nat):Int))=true:=decide_eq_true J;clear htt;exact Aj
   .have g3:decide (8192<((t.length:Nat):Int))=false:=decide_eq_false J;clear htt;have HN:=Z (show ∀x∈l.take (i+1),x.length<=8192 by
     have xrz:i<l.length:=(by rw[HT.o.1];exact uh);intro x hx;rw[yj xrz]at hx;rcases zS.1 hx with hx|hx
     .exact H.o x hx
     .have e:=Px.o;rw[zj xrz]at e;rw[zG.1 hx,zL e];omega)
    go_wp2;go_round
    case rel=>exact⟨i+1,uN,J,HN.o⟩
    case measure=>simp only[intOf];omega
  .obtain rfl:i=n:=(by omega);have HSM:=Z (show ∀x∈l,x.length<=8192 by
    have:=H.o;rwa [ye (by rw[HT.o.1];exact Y _)]at this)
   clear H uh hi;go_wp2_with fail;refine Vk.o.mono ?_;rintro e w0 ⟨rfl,K4⟩;have HB0:=Z K4;clear Vk K4;go_wp2_with fail;refine(Fi w0).mono ?_;rintro e w1 ⟨⟨c,o,rfl,hc,ho⟩,qI⟩;obtain⟨ca,cn,ck,rfl⟩:=hc.slice;obtain⟨oa,on,ok,rfl⟩:=ho.slice;have hG:=eL.made (Vg.mk hc ho) (HB0.o.trans (qI.mono HB0.o.size));go_wp2_with fail;generalize w1.alloc (.cells #[.slice ca cn ck,.slice oa on ok,.int .i32 45,.int .i32 46,.int .i32 44,.int .u8 3,.int .u8 0,.string ⟨#[]⟩] 26)=W at hG|-;generalize (w1:Nat)=B at hG|-;clear hc ho qI;obtain⟨r,hr⟩:=zw (uo s.data.toList);have k:=EY s W hs (HE.o.1.below hG.dD) (HE.o.2.below hG.dD);rw[hr]at k;have HR:=Z hr;have HG:=Z hG;have HCA:=Z k;clear k hr hG;refine HCA.o.mono ?_;rintro e w2 ⟨hca,qX⟩;have A:=HG.o.next qX;have m:=E9 (p:=s.data.toList) (w:=w2) GQ (HE.o.1.below A.dD).cmp (HE.o.1.below A.dD).rt A.eng;rw[show zO s.data.toList = .string s by simp[zO],HR.o]at m;have HC:=Z m;obtain⟨l0,l1,l2,l3,l4,l5,l6,l7⟩:=A.loc;have S:=Z A;clear m A qX HG HCA;cases r with
   |error x =>
    obtain⟨n1,a1⟩:=x;obtain rfl:=hca;have hn:n1≠0:=yvz HR.o;have DI:((n1:Int)=0)=False:=yF;go_wp2_with fail;refine HC.o.mono ?_;rintro e w3 ⟨L,rfl⟩;have HB:=Z (S.o.next L).dD;clear L HC S l0 l1 l2 l3 l4 l5 l6 l7;go_wp2;go_ret;exact⟨by first|rfl|simp[hn],HB.o⟩
   |ok f =>
    obtain rfl:=hca;have HCF:=Z (ee HR.o);go_wp2_with fail;refine HC.o.mono ?_;rintro e w3 ⟨L,P,q,g,mb,vC,vI,rs,rfl,hL⟩;have T:=Z (S.o.next L);have R:=Z hL;clear L HC S hL l0 l1 l2 l3 l4 l5 l6 l7;obtain⟨cl,QM⟩:=zw (wr false f);rw[show Y6 zn yb false f=cl from QM];rw[QM]at HCF;have HCL:=Z QM;clear QM;have E:=LZ (⟨R.o.p0,R.o.prog,R.o.YD,R.o.sh,R.o.cw⟩:tx P q mb f vC vI rs w3) (HE.o.1.below T.o.dD).cmp.Sg;have z:=Z E;clear E;go_wp2_with fail;refine z.o.mono ?_;rintro e w4 ⟨v,rfl,O,Gt⟩;obtain⟨a1,a2,a3,a4⟩:=nM R.o.YD R.o.sh R.o.cw;obtain⟨V,hX⟩:=zw (qD (MkS.all f));have hXl:V.length<=1000000004/\11<=V.length:=by
     rw[<-hX,qD,zy];rw[show(j8 (Xh (jV (MkS.all f)))).length=4 from rfl];omega
    rw[hX]at O;have HX:=Z hX;clear hX a1 a2 a3 a4;obtain⟨G,cap,rfl,-,hG0,b⟩:=xY O J;have PZ:V.length<=cap/\cap<=vp:=by
     rcases O.2 with⟨e,-⟩|⟨g',rY,cur,e,-,-,h1,h2,-⟩
     .cases e
     .cases e;exact⟨h1,h2⟩
    have Mt:Ho w4 ⟨G,0,none⟩ V V.length cap:=⟨λj hj=>⟨_,rfl,by rw[ve];exact(b j J).trans (by simp[gp,hj])⟩,rfl,PZ.1,PZ.2,hG0⟩;have M:zR w3 w4:=Gt.low (λ_ q=>q.elim) (Y _);have d:=T.o.next M;by_cases VK:cl.length<=1000
    .have g3:decide (((cl.length:Nat):Int)<=1000)=true:=decide_eq_true J;obtain⟨gf,FD,Ik,hg3⟩:=HCF.o VK;have k:=EY ⟨cl.toArray⟩ w4 (by rw[size_mk];omega) (HE.o.1.below d.dD) (HE.o.2.below d.dD);rw[show(⟨cl.toArray⟩:ByteArray).data.toList=cl from rfl,FD]at k;obtain⟨xry,HGF,HG4,EC,HSL,HXL⟩:=ED k (zf FD (zf Ik hg3)) d M Mt hXl;clear O Gt b Mt M d z T hG0 hXl k FD Ik hg3 HCF;go_wp2_with fail;refine xry.o.mono ?_;rintro e w5 ⟨rfl,u⟩;have C:=HG4.o.next u;have m:=E9 (p:=cl) (w:=w5) J (HE.o.1.below C.dD).cmp (HE.o.1.below C.dD).rt C.eng;rw[HGF.o.1]at m;have HC:=Z m;obtain⟨l0,l1,l2,l3,l4,l5,l6,l7⟩:=C.loc;have MO:=Z u;have HG5:=Z C;clear m C u xry;go_wp2_with fail;refine HC.o.mono ?_;rintro e w6 ⟨gT,P3,q3,g3',mb3,vC3,vI3,rs3,rfl,D⟩;have HG6:=Z (HG5.o.next gT);have HB6:=Z gT;have E:=LZ (⟨D.p0,D.prog,D.YD,D.sh,D.cw⟩:tx P3 q3 mb3 gf vC3 vI3 rs3 w6) (HE.o.1.below HG6.o.dD).cmp.Sg;rw[HGF.o.2.1,HX.o]at E;have z:=Z E;have HCE:=Z (show Y6 zn yb false gf=cl from HGF.o.2.2);rw[HCE.o];clear E D gT HC l0 l1 l2 l3 l4 l5 l6 l7;go_wp2_with fail;refine z.o.mono ?_;rintro e w7 ⟨v,rfl,PJ,PN⟩;obtain⟨G7,vov,rfl,-,hG7,y⟩:=xY PJ (by have:=HXL.o;omega);have XZ:zR w6 w7:=PN.low (λ_ q=>q.elim) (Y _);have U:=Z (HG6.o.next XZ);have N:zR w4 w7:=(MO.o.trans (HB6.o.mono MO.o.size)).trans (XZ.mono (MO.o.trans (HB6.o.mono MO.o.size)).size);have Q:=HSL.o.below N;have by7:yef w7 G7 0 ⟨V.toArray⟩:=λj hj=>by
      have hj2:j<V.length:=(by rw[size_mk]at hj;exact hj);rw[uE,y j J];simp[gp,hj2];rfl
     have byG:yef w7 G 0 ⟨V.toArray⟩:=λj hj=>by
      have hj2:j<V.length:=(by rw[size_mk]at hj;exact hj);obtain⟨q,e1,e2⟩:=Q.1 j hj2;cases e1;rw[ve]at e2;rw[uE];exact e2
     have vou:=LM (P:=Tryz.prog) w7 34 5 9 underlying34 underlying5 underlying9 G7 0 _ by7 vov;have voq:=LM (P:=Tryz.prog) w7 34 5 9 underlying34 underlying5 underlying9 G 0 _ byG cap;rw[size_mk]at vou voq;have I:=Z (LY (HE.o.1.below U.o.dD) U.o.eng HR.o HX.o Q);have voj:=Z N;obtain⟨l0,l1,l2,l3,l4,l5,l6,l7⟩:=U.o.loc;clear PJ PN y Q by7 byG XZ N z hG7 VK;go_wp2_with fail;refine I.o.mono ?_;rintro e w8 ⟨hb8,P2,q2,g2',mb2,vC2,vI2,rs2,rfl,K⟩;have MO:=Z (U.o.next hb8);have Ei:=Z (Fr.of hb8 (F:=yH));have HL2:=Z K;have A4:=Z (((R.o.fr (Fr.of EC.o (F:=yH))).fr (Fr.of voj.o (F:=yH))).fr Ei.o);have HT5:=Z (HT.o.2.1.fr (Fr.of MO.o.dD (F:=yH)));have EN:=Z (Yf (c:=cp) A4.o (HE.o.1.below MO.o.dD).cmp.tabs.err HT5.o HT.o.1 (λt ht=>zg (HSM.o t ht) zW) J);clear hb8 K I l0 l1 l2 l3 l4 l5 l6 l7;exact zfb
    .have g3:decide (((cl.length:Nat):Int)<=1000)=false:=decide_eq_false J;have I:=Z (LY (HE.o.1.below d.dD) d.eng HR.o HX.o Mt);obtain⟨l0,l1,l2,l3,l4,l5,l6,l7⟩:=d.loc;have HG4:=Z d;have EC:=Z M;clear O Gt b Mt M d z T hG0 VK hXl;go_wp2_with fail;refine I.o.mono ?_;rintro e w5 ⟨u,P2,q2,g2',mb2,vC2,vI2,rs2,rfl,K⟩;have MO:=Z (HG4.o.next u);have Ei:=Z (Fr.of u (F:=yH));have HL2:=Z K;have A4:=Z ((R.o.fr (Fr.of EC.o (F:=yH))).fr Ei.o);have HT5:=Z (HT.o.2.1.fr (Fr.of MO.o.dD (F:=yH)));have EN:=Z (Yf (c:=cp) A4.o (HE.o.1.below MO.o.dD).cmp.tabs.err HT5.o HT.o.1 (λt ht=>zg (HSM.o t ht) zW) J);clear u K I l0 l1 l2 l3 l4 l5 l6 l7;exact zfb
end Go.Proofs.YtpggmjffejgakaaGreatDoor
