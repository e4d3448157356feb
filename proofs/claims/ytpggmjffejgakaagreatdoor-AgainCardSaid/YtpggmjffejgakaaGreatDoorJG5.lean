import Derived.Test.YtpggmjffejgakaaGreatDoorJG4
import Derived.Deep.LoopGhost
import Derived.Maps.AppendAt
import Derived.WalkMore
import Derived.Defers
import Derived.Recover
import Derived.Deep.CutRange
import Derived.Laws.IdiomRangeMap
import Derived.Maps.Own
import Derived.Maps.Views
import Derived.WalkSmall
set_option linter.defProp false
set_option maxHeartbeats 64000000
open Go renaming Addr->yI,Calls->zE,DataW->ib,Ending->xX,Leaves->Ur,Oper->je,Program->Gz,TypeId->xM,Value->zx,World->z8,bodyPostS->TK,bodyPost_ret->yU,bytes->Z4,callsD_of_wpS->Xd,info_parts->V9,iterPos_of->jm,leaves_cons->kI,maxLen->vp,plainElem_int->bG,results->yN,rounds_succ->xR,run_underlying->kJ,seen->xC,wpAnyH->Uh,wpS_of_wp->TQ,wpS_region->EJ,wp_loop_rounds->gV,wp_region_noPanic->dC
open Go.Addr renaming add->fG
open Go.AllReadyH renaming cons->ub,nil->XV
open And renaming intro->zf
open Array renaming ext_getElem?->wF,getElem?_eq_none->jA,getElem?_modify->xc,replicate->vQ
open Go.RowKit renaming Below->yE
open Go.RowKit.Below renaming alloc->KH,heap_alloc->xQ,heap_setCell->yX,refl->zu,setCell->ZE
open Bool renaming and_eq_true->zv,eq_false_iff->zr7,eq_iff_iff->xA,false_and->oK,false_eq_true->OG,not_eq_true->bE,or_eq_true->vW,true_and->jd
open ByteArray renaming empty->Y7,mk->vD
open Classical renaming byContradiction->yy
open Go.DataW renaming map->yfz
open Go.Exit renaming thenS->VY
open Go.Instr renaming index->Y4,lookup->Jr,makeFunc->qA,mapUpdate->TJ,slice->VX,typeAssert->za
open Int renaming toNat_natCast->TX
open Go.IntKind renaming i64->vG
open Go.Lib renaming atoiAll->FQ,decFrom->yfy,encodeRune->yi,encodeRuneZ->TE,hasPrefix->yc,hid->Z,idxFromS->iU,iterAt_heap->vq2,iterAt_other->xrb,iterAt_size->vq3,run_next_end_at->ye9,trimPrefix->vO
open List.Pairwise renaming map->LH
open List renaming all_append->uJ,all_cons->u7,all_eq_true->zm,append_assoc->yk,append_eq_nil_iff->xvj,append_toArray->xu0,cons_append->xd,dropWhile_cons_of_neg->fF,dropWhile_cons_of_pos->VU,drop_drop->Fh,drop_eq_getElem_cons->yd,drop_eq_nil_of_le->bp,drop_of_length_le->yL,eq_nil_of_length_eq_zero->zN,find?_append->zr6,flatMap_append->yh,flatMap_cons->zh,foldl_cons->vP,getD_eq_getElem?_getD->zA,getElem?_append_left->zi,getElem?_append_right->yp,getElem?_eq_getElem->zj,getElem?_eq_none->uG,getElem?_eq_some_iff->zD,getElem?_map->Ql,getElem?_set->Fw,getElem_append_left->VR,getElem_append_right->Te,getElem_mem->yf,isPrefixOf->uT,isPrefixOf_iff_prefix->gM,length->xJ,length_append->zy,length_cons->zY,length_drop->yr,length_map->vU,length_nil->yG,length_replicate->fL,length_take->u4,lookup_cons->Qn,map_append->Tn,map_cons->vV,map_nil->De,mem_append->zS,mem_append_left->yex,mem_append_right->zy0,mem_cons->yV,mem_cons_of_mem->uj,mem_cons_self->qO,mem_filter->uv,mem_iff_getElem->ja,mem_map->uy,mem_of_find?_eq_some->OB,mem_of_getElem?->ze,mem_of_mem_tail->xh,mem_range->Y2,mem_singleton->zG,nil_append->xV,nodup_cons->Yu,nodup_nil->bo,not_mem_nil->I3,prefix_append->DU,prefix_refl->xZ,range->xH,replicate->zX,setIfInBounds_toArray->Qm,sum_cons->vq9,takeWhile_append_dropWhile->jy,takeWhile_cons_of_neg->kC,takeWhile_cons_of_pos->xO,take_append_drop->fY,take_length->YP,take_of_length_le->ye,take_succ_eq_append_getElem->yj
open List.cons renaming inj->ZZ
open Go.Maps renaming atKey_put_other->dc,atKey_put_same->Uo,int_keyed->vz2,keyOf_int_mk->yev,string_keyed->xf
open Nat renaming add_mul->kh,eq_zero_or_pos->xu6,le_of_eq->TD,le_refl->Y,le_trans->zg,lt_irrefl->qV,lt_of_lt_of_le->zC,lt_or_ge->ud,lt_succ_self->dK,mul_comm->dU,mul_le_mul->Ut,not_lt_zero->ZH,succ_pos->vz8,zero_add->uE,zero_le->zJ
open Go.NoPanic renaming normal->dG
open Go.Obj.cells renaming injEq->Tp
open Go.Op renaming equalIn->Z8
open Go.Oper renaming wp->j6
open Option renaming bind_some->yzj,isSome_iff_exists->LI,map_some->Y8
open Option.some renaming inj->zL,injEq->vr
open Prod.mk renaming injEq->Ht
open Go.Region renaming Mode->kD
open Go.Result renaming andThen->yt
open UInt8 renaming toNat_inj->Xf
open Go.Value renaming pointer->qL,slice->ux
open Go.WideMaps renaming keyOf_string_mk->yT
open Go.World renaming block_lt_of_cell?->X,cell?->FK,cell?_alloc_lt->zc,cell?_of_block->yD,cell?_setCell_other->yO,cell?_setCell_same->qY,frozen?_of_block->zU,frozen?_setCell->zP,iter_heap->ye8,ownsMap_made->Hh,ownsRow_nil->xz,setCell->xu
open Go.Proofs.Tryz
namespace Go.Proofs.YtpggmjffejgakaaGreatDoor
open Go Go.RowKit
set_option maxRecDepth 10000
variable{k q:Nat}{v:zx}{W:z8}
def ZF{F:Dg->Dg}(he:∀args w,(callFunc k args).run Tryz.prog w = .ok (.enter k args) w)(h:∀v x w,q9 w v x->zE Tryz.prog k #[v] w (kl (F x) w))(lo hi:Nat)(w:z8):OpR lo hi w (.func (.func k) #[] #[]) F :=
 ⟨k,#[],rfl,he,λW _ a x hx=>h a x W hx⟩
def zm2(r:Option (Dg->Dg))(w:z8)(e:xX)(w':z8):Prop :=
 (match r with|none=>e = .returned .nilFunc|some F=>∃v,e = .returned v/\∀lo hi W,OpR lo hi W v F)/\w=w'
def Nn(c:ByteArray)(w:z8):zE Tryz.prog 165 #[.string c] w (zm2 (uI c.data.toList) w):=by
 have a:=r7 c;by_cases h1:c.data.toList=[110]
 .have hf:uI c.data.toList=some (λx=>x):=by unfold uI;rw[yK h1]
  rw[hf];have q1:(c.toList==[110])=true:=by rw[a,h1];decide
  clear a h1 hf;go_enter func165,ntmps165;go_wp2;go_ret;exact⟨⟨_,rfl,ZF (λargs w=>enters_of func200 yg rfl args w) (λv x w h=>yu7 v x w h)⟩,rfl⟩
 have q1:(c.toList==[110])=false:=by rw[a];simpa using h1
 by_cases h2:c.data.toList=[105]
 .have hf:uI c.data.toList=some (λx=>(gZ x.1,[])):=by unfold uI;rw[yv h1,yK h2]
  rw[hf];have q2:(c.toList==[105])=true:=by rw[a,h2];decide
  clear a h1 h2 hf;go_enter func165,ntmps165;go_wp2;go_ret;exact⟨⟨_,rfl,ZF (λargs w=>enters_of func201 yg rfl args w) (λv x w h=>vau v x w h)⟩,rfl⟩
 have q2:(c.toList==[105])=false:=by rw[a];simpa using h2
 by_cases b:c.data.toList=[118]
 .have hf:uI c.data.toList=some (λx=>(xU x.2.length,[])):=by unfold uI;rw[yv h1,yv h2,yK b]
  rw[hf];have g:(c.toList==[118])=true:=by rw[a,b];decide
  clear a h1 h2 b hf;go_enter func165,ntmps165;go_wp2;go_ret;exact⟨⟨_,rfl,ZF (λargs w=>enters_of func203 yg rfl args w) (λv x w h=>vav v x w h)⟩,rfl⟩
 have g:(c.toList==[118])=false:=by rw[a];simpa using b
 by_cases d:c.data.toList=[119]
 .have hf:uI c.data.toList=some (λx=>(xU (uP x.2).length,[])):=by unfold uI;rw[yv h1,yv h2,yv b,yK d]
  rw[hf];have i:(c.toList==[119])=true:=by rw[a,d];decide
  clear a h1 h2 b d hf;go_enter func165,ntmps165;go_wp2;go_ret;exact⟨⟨_,rfl,ZF (λargs w=>enters_of func204 yg rfl args w) (λv x w h=>vaq v x w h)⟩,rfl⟩
 have i:(c.toList==[119])=false:=by rw[a];simpa using d
 by_cases e:c.data.toList=[102]
 .have hf:uI c.data.toList=some (λx=>(gZ x.2,[])):=by unfold uI;rw[yv h1,yv h2,yv b,yv d,yK e]
  rw[hf];have j:(c.toList==[102])=true:=by rw[a,e];decide
  clear a h1 h2 b d e hf;go_enter func165,ntmps165;go_wp2;go_ret;exact⟨⟨_,rfl,ZF (λargs w=>enters_of func206 yg rfl args w) (λv x w h=>vak v x w h)⟩,rfl⟩
 have j:(c.toList==[102])=false:=by rw[a];simpa using e
 by_cases f:c.data.toList=[116]
 .have hf:uI c.data.toList=some (λx=>(gZ (uP x.2),[])):=by unfold uI;rw[yv h1,yv h2,yv b,yv d,yv e,yK f]
  rw[hf];have k:(c.toList==[116])=true:=by rw[a,f];decide
  clear a h1 h2 b d e f hf;go_enter func165,ntmps165;go_wp2;go_ret;exact⟨⟨_,rfl,ZF (λargs w=>enters_of func207 yg rfl args w) (λv x w h=>vaj v x w h)⟩,rfl⟩
 have k:(c.toList==[116])=false:=by rw[a];simpa using f
 have hf:uI c.data.toList=none:=by unfold uI;rw[yv h1,yv h2,yv b,yv d,yv e,yv f]
 rw[hf];clear a h1 h2 b d e f hf;go_enter func165,ntmps165;exact B0
def Sb{p:yI}{u0 u1 u2:zx}(h:W.cell? p=some v)(hp:p.block≠q):(((W.setCell (q,0) u0).setCell (q,1) u1).setCell (q,2) u2).cell? p=some v:=by
 refine(yD ?_).trans h;rw[yX _ _ _ _ hp,yX _ _ _ _ hp,yX _ _ _ _ hp]
def zk9(nv:zx)(x:Dg)(s pm:Nat)(wv:zx)(m:Nat)(F:Dg->Dg)(lo hi:Nat)(w:z8)(hn:q9 w nv x)(hm:m<=1000000000)(R:0<m)(cw:zk w s 0 wv)(L:zk w pm 0 m)(hw:OpR lo hi w wv F)(z:hi<=(w:Nat)) :
  zE Tryz.prog 167 #[nv,(s,0),(pm,0)] w (kl (oR F m x) w):=by
 have HN:=Z hn;obtain⟨b,g,go,cap,D,k',rfl⟩:=hn.form;obtain⟨i,f⟩:=bY w (.cells #[.bool b,.slice (g,go) D cap,k'] 99);have F0:∃W,W=(w.alloc (.cells #[.bool b,.slice (g,go) D cap,k'] 99)).alloc (.cells #[.bool false,.slice none 0 0,.int .i64 0] 99)/\zk W (w:Nat) 0 (.bool b)/\zk W (w:Nat) 1 (.slice (g,go) D cap)/\W.cell? (w,2)=some (.int .i64 k') :=
  ⟨_,rfl,uK,uK,uK⟩
 obtain⟨W,Q,d0,d1,d2⟩:=F0;rw[<-Q]at i f;have P:=(i.cell (p:=(zQ s 0)) (X w _ cw)).trans cw;have O:=(i.cell (p:=(zQ pm 0)) (X w _ L)).trans L;obtain⟨I,M,rfl,p7,q⟩:=hw.keep (vY i z z) (Y _) (Y _);have HC:=Z (q W.drew (show vx lo hi W W.drew from vH (zg z i.size)) _ x (HN.o.below i.drew));have T:=X w _ cw;have S:=X w _ L;dsimp only at T S;clear q hn cw L;go_enter func167,ntmps167;go_wp2_with fail;rw[<-Q];clear Q;obtain⟨B,hB⟩:∃B,B=(w:Nat):=⟨_,rfl⟩;rw[<-hB]at d0 d1 d2 f|-;have HB:=Z hB;clear hB;have E:zk W.drew B 0 (.bool b)/\zk W.drew B 1 (.slice (g,go) D cap)/\zk W.drew B 2 k'/\zk W.drew s 0 (.func (.func I) #[] M)/\zk W.drew pm 0 m:=⟨d0,d1,d2,P,O⟩;refine qh (λW':z8=>zk W' B 0 (.bool b)/\zk W' B 1 (.slice (g,go) D cap)/\zk W' B 2 k'/\zk W' s 0 (.func (.func I) #[] M)/\zk W' pm 0 m)
  [0,1,3] 3 ZW yg yg E ?_
 (iterate 3 ((first|refine ty ?_|refine tn ?_);try simp only[pl]))
 refine yW ?_;refine gU 2 (λK hK=>?_);go_simp;refine HC.o.mono ?_;rintro e w1 ⟨⟨v1,rfl,A⟩,t⟩;have a:∀{p:yI} {u:zx},W.cell? p=some u->w1.cell? p=some u:=λ{p u} h=>(t.cell (X W p h)).trans h
 have j:zk w1 B 0 (.bool b)/\zk w1 B 1 (.slice (g,go) D cap)/\zk w1 B 2 k'/\zk w1 s 0 (.func (.func I) #[] M)/\zk w1 pm 0 m:=⟨a d0,a d1,a d2,a P,a O⟩;have H:=(show bP W.drew (B+1) from⟨f.c0,f.c1,f.c2,f.z0,f.z1,f.z2,f.lt⟩).below t;have r:zR w w1:=i.drew.trans (t.mono i.size);refine hK.out _ _ j λ_=>?_;clear hK K E a d0 d1 d2 P O;have HM:=Z (yk6 v1 (F x) m w1 A hm R);obtain⟨b1,g1,go1,U,n1,k1,rfl⟩:=A.form;clear A;refine gU 4 (λK hK=>?_);go_simp;refine HM.o.mono ?_;rintro e w2 ⟨⟨v2,rfl,C⟩,y⟩;have a:∀{p:yI} {u:zx},w1.cell? p=some u->w2.cell? p=some u:=λ{p u} h=>(y.cell (X w1 p h)).trans h
 have n:zk w2 B 0 (.bool b)/\zk w2 B 1 (.slice (g,go) D cap)/\zk w2 B 2 k'/\zk w2 s 0 (.func (.func I) #[] M)/\zk w2 pm 0 m:=⟨a j.1,a j.2.1,a j.2.2.1,a j.2.2.2.1,a j.2.2.2.2⟩;have k:=H.below y;have G:zR w w2:=r.trans (y.mono r.size);refine hK.out _ _ n λ_=>?_;clear hK K a j H;have N:=Z C;obtain⟨b2,g2,l,c,n2,k2,rfl⟩:=C.form;clear C;have c0:=k.c0;have c1:=k.c1;have c2:=k.c2;have z0:=k.z0;have z1:=k.z1;have z2:=k.z2;refine gU 5 (λK hK=>?_);go_simp;have oL:=HB.o;have V:=Sb (u0 := .bool b2) (u1 := .slice (g2,l) n2 c) (u2 := .int .i64 k2) n.1 (show B≠B+1 by omega);have e1:=Sb (u0 := .bool b2) (u1 := .slice (g2,l) n2 c) (u2 := .int .i64 k2) n.2.1 (show B≠B+1 by omega);have e2:=Sb (u0 := .bool b2) (u1 := .slice (g2,l) n2 c) (u2 := .int .i64 k2) n.2.2.1 (show B≠B+1 by omega);have e3:=Sb (u0 := .bool b2) (u1 := .slice (g2,l) n2 c) (u2 := .int .i64 k2) n.2.2.2.1 (show s≠B+1 by omega);have e4:=Sb (u0 := .bool b2) (u1 := .slice (g2,l) n2 c) (u2 := .int .i64 k2) n.2.2.2.2 (show pm≠B+1 by omega);refine hK.out _ _ ⟨V,e1,e2,e3,e4⟩ λ_=>?_;clear hK K V e1 e2 e3 e4;refine Y5 ?_ _;go_wp2;refine yU (v := .agg #[.bool b2,.slice (g2,l) n2 c,k2]) ?_ rfl ?_
 .simp[yN,results167,go_sem,c0,c1,c2]
 exact GB (w:=w) N.o k J G
def PD(nv:zx)(x:Dg)(pi po s:Nat)(V ov:zx)(v:Bool)(T:gy)(F:Dg->Dg)(lo hi:Nat)(w:z8)(hn:q9 w nv x)(L:zk w pi 0 V)(co:zk w po 0 ov)(cn:zk w s 0 (.bool v))(hI:j9 lo hi w V T)(hO:OpR lo hi w ov F)(j:hi<=(w:Nat)) :
  zE Tryz.prog 170 #[nv,(pi,0),(po,0),(s,0)] w λe w'=>e = .returned (.bool (T (F x) !=v))/\zR w w':=by
 have HN:=Z hn;obtain⟨b,g,go,cap,t,k',rfl⟩:=hn.form;have F0:∃W,W=w.alloc (.cells #[.bool b,.slice (g,go) t cap,k'] 99)/\zR w W/\zk W (w:Nat) 0 (.bool b)/\zk W (w:Nat) 1 (.slice (g,go) t cap)/\W.cell? (w,2)=some (.int .i64 k') :=
  ⟨_,rfl,(zu _ _).alloc (Y _) _,uK,uK,uK⟩
 obtain⟨W,S,c,d0,d1,d2⟩:=F0;have M:=(c.cell (p:=(zQ pi 0)) (X w _ L)).trans L;have N:=(c.cell (p:=(zQ po 0)) (X w _ co)).trans co;have en:=(c.cell (p:=(zQ s 0)) (X w _ cn)).trans cn;obtain⟨E,H,rfl,U,k⟩:=hO.keep (vY c j j) (Y _) (Y _);have HC:=Z (k W.drew (show vx lo hi W W.drew from vH (zg j c.size)) _ x (HN.o.below c.drew));obtain⟨G,l,rfl,O,i⟩:=hI.keep (vY c j j) (Y _) (Y _);have I:=Z i;clear k i hn L co cn;go_enter func170,ntmps170;go_wp2_with fail;rw[<-S];clear S;obtain⟨B,hB⟩:∃B,B=(w:Nat):=⟨_,rfl⟩;rw[<-hB]at d0 d1 d2|-;have HB:=Z hB;clear hB;have y:zk W.drew B 0 (.bool b)/\zk W.drew B 1 (.slice (g,go) t cap)/\zk W.drew B 2 k'/\zk W.drew pi 0 (.func (.func G) #[] l)/\zk W.drew po 0 (.func (.func E) #[] H)/\zk W.drew s 0 (.bool v):=⟨d0,d1,d2,M,N,en⟩;refine qh (λW':z8=>zk W' B 0 (.bool b)/\zk W' B 1 (.slice (g,go) t cap)/\zk W' B 2 k'/\zk W' pi 0 (.func (.func G) #[] l)/\zk W' po 0 (.func (.func E) #[] H)/\zk W' s 0 (.bool v))
  [0,1,2,5] 4 ZW yg yg y ?_
 (iterate 4 ((first|refine ty ?_|refine tn ?_);try simp only[pl]))
 refine yW ?_;refine gU 3 (λK hK=>?_);go_simp;refine HC.o.mono ?_;rintro e w1 ⟨⟨v1,rfl,q⟩,n⟩;have a:∀{p:yI} {u:zx},W.cell? p=some u->w1.cell? p=some u:=λ{p u} h=>(n.cell (X W p h)).trans h
 have f:zk w1 B 0 (.bool b)/\zk w1 B 1 (.slice (g,go) t cap)/\zk w1 B 2 k'/\zk w1 pi 0 (.func (.func G) #[] l)/\zk w1 po 0 (.func (.func E) #[] H)/\zk w1 s 0 (.bool v):=⟨a d0,a d1,a d2,a M,a N,a en⟩;have m:zR w w1:=c.drew.trans (n.mono c.size);have D:hi<=(W:Nat):=zg j c.size;have P:vx lo hi W w1:=vY (w:=W.drew) n D D;refine hK.out _ _ f λ_=>?_;clear hK K y a d0 d1 d2 M N en;have Q:=Z (I.o w1 P v1 (F x) q);obtain⟨b1,g1,go1,R,n1,k1,rfl⟩:=q.form;clear q;refine gU 4 (λK hK=>?_);go_simp;refine Q.o.mono ?_;rintro e w2 ⟨rfl,A⟩;have a:∀{p:yI} {u:zx},w1.cell? p=some u->w2.cell? p=some u:=λ{p u} h=>(A.cell (X w1 p h)).trans h
 have z:zk w2 B 0 (.bool b)/\zk w2 B 1 (.slice (zQ g go) t cap)/\zk w2 B 2 k'/\zk w2 pi 0 (.func (.func G) #[] l)/\zk w2 po 0 (.func (.func E) #[] H)/\zk w2 s 0 (.bool v):=⟨a f.1,a f.2.1,a f.2.2.1,a f.2.2.2.1,a f.2.2.2.2.1,a f.2.2.2.2.2⟩;have C:zR w w2:=m.trans (A.mono m.size);refine hK.out _ _ z λ_=>?_;clear hK K a f;obtain⟨r,hr⟩:=zw (T (F x));rw[hr];have HR:=Z hr;clear Q hr;refine Ve [6,7] 0 z ?_;refine Y5 ?_ _;go_wp2;go_ret;exact⟨by rw[HR.o];rfl,C⟩
def bU(c:UInt8)(w:z8):zE Tryz.prog 159 #[.int .u8 c.toNat] w λe w'=>e = .returned (.int .i64 (yo c))/\w=w':=by
 have b:=c.toNat_lt;obtain⟨n,hn⟩:∃n,n=c.toNat:=⟨_,rfl⟩;obtain⟨r,hr⟩:=zw (yo c);rw[hr];unfold yo at hr;rw[<-hn]at b hr|-;by_cases h1:97<=n/\n<=122
 .rw[yK h1]at hr;subst hr;have a1:decide ((97:Int)<=(n:Int))=true:=by simp;omega
  have a2:decide ((n:Int)<=(122:Int))=true:=yF;exact iE
 .rw[yv h1]at hr;by_cases h2:48<=n/\n<=57
  .rw[yK h2]at hr;subst hr;exact iE
  .rw[yv h2]at hr;by_cases a:n=32
   .rw[yK a]at hr;subst hr;subst a;exact iE
   .rw[yv a]at hr;subst hr;have a3:((n:Int)==32)=false:=(by simp;omega);exact iE
variable{ws:List Wd}{cap hi lo n p:Nat}{x:Wd}{w w':z8}
def xN.keep(h:xN p w w')(hp:p<lo)(hi':hi<=(w:Nat)):vx lo hi w w' :=
 ⟨zg hi' h.size,λk h1 h2=>h.block k J J⟩
def Np(w:z8)(k:Nat):Prop:=∃cs fr,w.heap[k]? = some (.cells cs 9 fr)
def Np.of(h:Np w k)(he:w'.heap[k]? = w.heap[k]?):Np w' k:=by
 obtain⟨cs,fr,h⟩:=h;exact⟨cs,fr,he.trans h⟩
def dB(w:z8)(p:Nat)(ws:List Wd):Prop :=
 ∃a cap,zk w p 0 (.slice a ws.length cap)/\w.frozen? (p,0)=false/\ws.length<=cap/\cap<=vp/\∀j (h:j<ws.length),∃b,a=some b/\(b.block≠p/\Np w b.block)/\w.cell? (b.add j)=some (zO ws[j])
def dB.lt(h:dB w p ws):p<(w:Nat):=by
 obtain⟨a,cap,hc,_⟩:=h;exact X w _ hc
def dB.below(h:dB w p ws)(hb:zR w w'):dB w' p ws:=by
 have c:=h.lt;obtain⟨a,cap,hc,hf,h1,h2,i⟩:=h;refine⟨a,cap,(hb.cell c).trans hc,(hb.frozen c).trans hf,h1,h2,λj k=>?_⟩;obtain⟨b,g,e,d⟩:=i j k;have f:=X w _ d;rw[addr_add]at f;exact⟨b,g,⟨e.1,e.2.of (hb.block _ f)⟩,(hb.cell (X w _ d)).trans d⟩
def dB.pass{b:yI}{t:List Wd}(hf:w.frozen? (p,0)=false)(hc:zk w p 0 (.slice (some b) (t.length+1) cap))(h1:t.length+1<=cap)(h2:cap<=vp)(hb:b.block≠p/\Np w b.block)(hw:∀j (h:j<(x::t).length),w.cell? (b.add j)=some (zO (x::t)[j])) :
  dB (w.setCell (p,0) (.slice (some (b.add 1)) t.length (cap - 1))) p t:=by
 refine⟨some (b.add 1),cap - 1,by rw[qY (h:=hc)],MA,J,J,λj a=>⟨b.add 1,rfl,by rw[addr_add];exact⟨hb.1,hb.2.of (yX _ _ _ _ hb.1)⟩,?_⟩⟩;have:=hw (j+1) yF;rw[add_add,Nat.add_comm 1 j,yO (h:=λe=>hb.1 (by rw[<-addr_add b (j+1),<-e]))];simpa using this
def dB.last{b:yI}(hf:w.frozen? (p,0)=false)(hc:zk w p 0 (.slice (some b) n cap)) :
  dB (w.setCell (p,0) (.slice (some b) 0 0)) p [] :=
 ⟨some b,0,by rw[qY (h:=hc)];rfl,MA,Y _,zJ _,λj a=>absurd a (ZH j)⟩
def Cc(ms:List Wd)(ws:List Wd):Bool:=ms.any (λm=>X1 m ws)
def xzx(p:Nat)(ms ws:List Wd)(w:z8)(e:xX)(w':z8):Prop :=
 e = .returned (.bool (Cc ms ws))/\dB w' p (if Cc ms ws then ws.tail else ws)/\xN p w w'/\(w':Nat)=(w:Nat)
def ykz{a:List Wd}(h:k<a.length)(b:X1 a[k] ws=true):Cc a ws=true:=List.any_eq_true.2 ⟨a[k],yf h,b⟩
def Lv{a:List Wd}(h:k<a.length)(h0:Cc (a.take k) ws=false)(hT:X1 a[k] ws=false):Cc (a.take (k+1)) ws=false:=by
 unfold Cc at *;exact zud
def zm3(p:Nat)(e ws:List Wd)(v:zx)(w:z8)(hp:dB w p ws)(hm:Xm w v e)(L:e.length<=1000) :
  zE Tryz.prog 160 #[(p,0),v] w (xzx p e ws w):=by
 have A:=Z hp;obtain⟨a,cap,hc,hf,h1,h2,u⟩:=hp;obtain⟨a2,s,rfl,M,N,O,y⟩:=hm;have z:=Z y;have r:=Z u;clear y u;have hmx:cap<=9223372036854775807:=M5;go_enter func160,ntmps160;go_wp2;go_loop [9] (λi=>∃k:Nat,k<=e.length/\i = .int .i64 k/\Cc (e.take k) ws=false) (λi=>e.length - (intOf i).toNat)
 case atStart=>exact⟨0,zJ _,rfl,rfl⟩
 case round =>
  obtain⟨k,K,rfl,h⟩:=hrel;have n:=Z h;clear h;by_cases g:k<e.length
  .obtain⟨b2,rfl,D⟩:=z.o k g;obtain c|⟨x,t,c⟩:ws=[]\/∃x t,ws=x::t:=by
    cases ws with
    |nil=>exact .inl rfl
    |cons x t=>exact .inr ⟨x,t,rfl⟩
   .have m:X1 e[k] ws=false:=(by rw[c];rfl);have HF:=Z (Lv g n.o m);rw[c]at hc;clear m c;exact zfj
   .obtain⟨b,rfl,hb,hx⟩:=r.o 0 (by rw[c];simp);have H:w.cell? b=some (zO x):=by
     have:(b.add 0)=b:=(by simp[fG]);rw[this]at hx;rw[hx];simp[c]
    have f:=RF e[k] x t;have d:ws.length=t.length+1:=(by rw[c];rfl);rw[d]at hc h1;clear hx;cases m:(x==e[k])
    .have HF:=Z (Lv g n.o (by rw[c,f,m]));have l:=Z c;clear f c d;exact zfj
    .have HF:=Z (ykz (ws:=ws) g (by rw[c,f,m]));have l:=Z c;clear f c d;by_cases q:cap=1
     .have G:t=[]:=zN J;subst G;subst q;go_wp2;go_ret;refine⟨by rw[HF.o];rfl,?_,xN.set p w 0 _,ZM⟩;rw[yK HF.o,l.o];exact dB.last hf hc
     .have F:¬(cap:Int)=1:=(by omega);go_wp2;go_ret;refine⟨gJ,?_,xN.set p w 0 _,ZM⟩;rw[yK HF.o,l.o];refine dB.pass hf hc h1 h2 hb (x:=x) (λj E=>?_);obtain⟨I,B,_,C⟩:=r.o j (by rw[l.o];exact E);cases B;rw[C];simp[l.o]
  .obtain rfl:k=e.length:=(by omega);have h:=n.o;rw[YP]at h;have HF:=Z h;clear h n;go_wp2;go_ret;refine⟨gJ,?_,xN.refl _ _,rfl⟩;rw[HF.o];exact A.o
variable{l:List UInt8}
structure RT(p:Nat)(w:z8):Prop where
 s:∃t v,zk w 8 0 (.iface t v)
 r:∃t v,zk w 9 0 (.iface t v)
 ns:8≠p
 nr:9≠p
def RT.but(h:RT p w)(hb:xN p w w'):RT p w':=by
 obtain⟨⟨t,v,hs⟩,⟨t2,v2,hr⟩,h1,h2⟩:=h;exact⟨⟨t,v,hb.cell hs h1⟩,⟨t2,v2,hb.cell hr h2⟩,h1,h2⟩
structure Nr(x:Wd):Prop where
 ne:x≠[]
 len:x.length<=1000
 form:x.all yC=true\/yC (x.headD 0)=false
def Fc:∀(l:List UInt8) (acc:Nat),l.all yC=true->yfy acc l=some (l.foldl (λv c=>10*v+(c.toNat - 48)) acc)
 |[],_,_=>rfl
 |c::t,acc,h=>by
  simp only[u7,zv]at h;have hc:=(vy c).1 h.1;rw[yfy,Lib.digitVal,yK J];dsimp only;rw[Fc t _ h.2,vP,dU acc 10]
def zm4(h:l.all yC=true)(hn:l≠[]):Lib.atoi l=some (Zv l:Int):=by
 cases l with
 |nil=>exact absurd rfl hn
 |cons c t =>
  have hd:=h;simp only[u7,zv]at hd;have hc:=(vy c).1 hd.1;have b:(c==45)=false:=MU;have a:(c==43)=false:=MU;rw[Lib.atoi,b,a];simp only[OG,if_false,Lib.decNat];rw[yv zV,Fc _ 0 h];rfl
def below_bytesWorld(w:z8)(e:xM)(t:ByteArray):yE w w (Lib.bytesWorld w e t):=Lib.bytesWorld_below _ _ _
def SZ(p:Nat)(s:ByteArray)(w:z8)(hs:s.size<=1000)(a:RT p w) :
  zE Tryz.prog 143 #[.string s] w λe w'=>(∃v ev,e = .returned (.tuple #[.int .i64 v,ev])/\(ev = .nilIface\/∃N,ev = .iface 337 (.pointer (some N))))/\zR w w':=by
 obtain⟨⟨t,v,hS⟩,⟨t2,v2,hR⟩,_,_⟩:=a;cases h:FQ s.data.toList with
 |ok n =>
  refine(Tryz.strconv_Atoi_ok s J n h w).mono ?_;rintro e w' ⟨rfl,rfl|⟨t,rfl⟩⟩
  .exact⟨⟨_,_,rfl,.inl rfl⟩,zu _ _⟩
  .exact⟨⟨_,_,rfl,.inl rfl⟩,below_bytesWorld _ _ _⟩
 |range =>
  refine(Tryz.strconv_Atoi_range s J h _ w hR (.inr ⟨_,_,rfl⟩)).mono ?_;exact zg2
 |_ =>
  refine(Tryz.strconv_Atoi_none s J (λv q=>by rw[h]at q;cases q) (λq=>by rw[h]at q;cases q) _ w hS (.inr ⟨_,_,rfl⟩)).mono ?_;exact zg2
def zm5(s:ByteArray)(w:z8)(hs:s.size<=9)(hd:s.data.toList.all yC=true)(hn:s.data.toList≠[]) :
  zE Tryz.prog 143 #[.string s] w λe w'=>e = .returned (.tuple #[.int .i64 (Zv s.data.toList),.nilIface])/\zR w w':=by
 refine(Tryz.strconv_Atoi s (Zv s.data.toList) J (zm4 hd hn) w).mono ?_;rintro e w' ⟨rfl,t,rfl⟩;exact⟨rfl,below_bytesWorld _ _ _⟩
abbrev Ns:xX := .panicked [{ v := .iface 259 (.agg #[]),recovered:=false }]
def xzv(p:Nat)(r:Option (Nat×List Wd))(w:z8)(e:xX)(w':z8):Prop :=
 (match r with|none=>e=Ns|some (v,t)=>e = .returned v/\dB w' p t)/\xN p w w'
def yky(hd:x.all yC=true)(hn:x≠[]):C4 x=(decide (x.length<=9) && (decide (x.length=1) ||decide (x.headD 0≠48))):=by
 unfold C4 uY;rw[hd];cases x with
 |nil=>exact absurd rfl hn
 |cons c t=>simp
def Xu(c:UInt8):(yo c=2) ↔ yC c=true:=by
 rw[vy];unfold yo;split
 .exact Mu
 split
 .exact Mu
 split
 .exact Mu
 .exact Mu
def eX(p:Nat)(w:z8)(hp:dB w p []):zE Tryz.prog 166 #[(p,0)] w (xzv p none w):=by
 obtain⟨a,cap,hc,hf,h1,h2,b⟩:=hp;clear b;go_enter func166,ntmps166;go_wp2;exact⟨rfl,rfl,xN.refl _ _⟩
def dB.step{b:yI}{t:List Wd}(h:dB w p (x::t))(hc:zk w p 0 (.slice (some b) (t.length+1) cap)) :
  dB (w.setCell (p,0) (.slice (some (b.add 1)) t.length (cap - 1))) p t/\(t=[]->dB (w.setCell (p,0) (.slice (some b) 0 0)) p t):=by
 obtain⟨a,e,c,hf,h1,h2,f⟩:=h;rw[hc]at c;cases c;obtain⟨g,d,i,_⟩:=f 0 zV;cases d;refine⟨dB.pass hf hc (by simpa using h1) h2 i (x:=x) (λj l=>?_),λm=>?_⟩
 .obtain⟨g,d,_,k⟩:=f j l;cases d;exact k
 .subst m;exact dB.last hf hc
def eV(c:UInt8)(t:List UInt8)(h:0<(vD (c::t).toArray).size):(vD (c::t).toArray)[0]=c:=Wm
def SY(p:Nat)(c:UInt8)(f:List UInt8)(t:List Wd)(w:z8)(hp:dB w p ((c::f)::t))(hx:Nr (c::f))(R:RT p w) :
  zE Tryz.prog 166 #[(p,0)] w (xzv p (gF ((c::f)::t)) w):=by
 have HP:=Z hp;have HX:=Z hx;have P:=Z R;have C:=hp.lt;obtain⟨a,cap,hc,hf,h1,h2,Q⟩:=hp;obtain⟨b,rfl,hb,lx⟩:=Q 0 zV;have E:w.cell? b=some (zO (c::f)):=zgz;have hmx:cap<=9223372036854775807:=M5;have u:((c::f)::t).length=t.length+1:=rfl;rw[u]at hc h1;obtain⟨r,hr⟩:=zw (gF ((c::f)::t));rw[hr];have F:=Z hr;obtain⟨s,hs⟩:∃s:ByteArray,s=⟨(c::f).toArray⟩:=⟨_,rfl⟩;have L:0<s.size:=by rw[hs,size_mk];simp
 have k:s.size=f.length+1:=by rw[hs,size_mk];rfl
 have q:s[0]=c:=by subst hs;exact eV c f L
 have O:=hx.len;have D:s.size<=1000:=by rw[k];simpa using O
 have j:s.data.toList=c::f:=by rw[hs]
 have IH:w.cell? b=some (.string s):=by rw[E,hs]
 clear lx Q hr E hx R hs;have HG:=Z q;have T:=Z j;have U:=Z k;by_cases hd:yC c=true
 .have g:(c::f).all yC=true:=by
   rcases HX.o.form with h|h
   .exact h
   .exact absurd hd QH
  have n:yo c=2:=(Xu c).2 hd;have i:((yo c:Int) !=2)=false:=by rw[n];decide
  have d:=λW=>bU c W
  have l:=yky g zV;by_cases h9:s.size<=9
  .have z:(c::f).length<=9:=(by simp;omega);rw[decide_eq_true z,jd]at l;have I:decide ((9:Int)<(s.size:Int))=false:=yF;have HA:=Z (zm5 s w h9 (by rw[j];exact g) (by rw[j];simp));by_cases A:1<s.size/\c=48
   .have m:r=none:=by
     rw[<-F.o];have:C4 (c::f)=false:=by
      rw[l];simp[A.2];intro e;rw[e]at k;simp at k;omega
     simp[gF,this]
    subst m;have B:((s[0].toNat:Int)==48)=true:=(by rw[q,A.2];decide);have G:decide ((1:Int)<(s.size:Int))=true:=yF;rw[<-q]at d i;have HCW:=Z d;clear n d q j hd g l A k;go_enter func166,ntmps166;go_wp2_with fail;refine HA.o.mono ?_;rintro e w1 ⟨rfl,qI⟩;go_wp2_with fail;refine(HCW.o _).mono ?_;rintro e w2 ⟨rfl,rfl⟩;go_wp2;exact⟨rfl,rfl,xN.of qI⟩
   .have y:C4 (c::f)=true:=by
     rw[l];by_cases H:f.length=0
     .simp[H]
     .have:¬c=48:=λe=>A ⟨J,e⟩
      simp[this]
    have m:r=some (Zv (c::f),t):=by
     rw[<-F.o];simp[gF,y]
    subst m;have HSV:=Z j;rw[<-q]at d i;have HCW:=Z d;have x:∀W,zR w W->zk W p 0 (.slice (some b) (t.length+1) cap)/\W.frozen? (zQ p 0)=false:=λW S=>⟨(S.cell C).trans hc,(S.frozen C).trans hf⟩
    have HPS:=Z x;have oE:¬(1<s.size/\s[0]=48):=(by rw[q];exact A);have V:=Z u;clear n d q j hd g l A y x k u;by_cases K:cap=1
    .have M:t=[]:=zN J;subst M;subst K;by_cases Vu:1<s.size
     .have B:((s[0].toNat:Int)==48)=false:=zv7;have G:decide ((1:Int)<(s.size:Int))=true:=yF;exact yd8
     .have G:decide ((1:Int)<(s.size:Int))=false:=(by simp;omega);exact yd8
    .have gN:¬(cap:Int)=1:=(by omega);by_cases Vu:1<s.size
     .have B:((s[0].toNat:Int)==48)=false:=zv7;have G:decide ((1:Int)<(s.size:Int))=true:=yF;exact yd9
     .have G:decide ((1:Int)<(s.size:Int))=false:=(by simp;omega);exact yd9
  .have m:r=none:=by
    rw[<-F.o];have:C4 (c::f)=false:=by
     rw[l,decide_eq_false yF,oK]
    simp[gF,this]
   subst m;have I:decide ((9:Int)<(s.size:Int))=true:=yF;have HA:=Z (SZ p s w D P.o);rw[<-q]at d i;have HCW:=Z d;clear n d q j hd g l k;exact ydj
 .have m:r=none:=by
   rw[<-F.o];have:C4 (c::f)=false:=by
    unfold C4 uY;simp[hd]
   simp[gF,this]
  subst m;have n:¬(yo c=2):=λe=>hd ((Xu c).1 e)
  have i:((yo c:Int) !=2)=true:=yF;have HA:=Z (SZ p s w D P.o);have d:=λW=>bU c W
  rw[<-q]at d i;have HCW:=Z d;clear n d q j hd k;exact ydj
def ZT(p:Nat)(ws:List Wd)(w:z8)(hp:dB w p ws)(hx:∀x∈ws,Nr x)(a:RT p w) :
  zE Tryz.prog 166 #[(p,0)] w (xzv p (gF ws) w):=by
 match ws,hp,hx with
 |[],hp,_=>exact eX p w hp
 |x::t,hp,hx =>
  have h:=hx x zV;cases x with
  |nil=>exact absurd rfl h.ne
  |cons c b=>exact SY p c b t w hp h a
def dh{t:List Wd}{v:Nat}(h:gF ws=some (v,t)):v<=1000000000/\(∀x∈t,x∈ws)/\t.length+1=ws.length:=by
 cases ws with
 |nil=>cases h
 |cons w u =>
  by_cases hf:C4 w=true
  .simp only[gF,hf,if_true,vr,Ht]at h;obtain⟨rfl,rfl⟩:=h;have h1:=(Fig.of hf);have h2:=mg w h1.1.dig;have a:10 ^ w.length<=10 ^ 9:=Nat.pow_le_pow_right zW h1.2;exact⟨J,λx hx=>by simp[hx],zV⟩
  .simp[gF,hf]at h
variable{ops:Array je}{Q:Exit->Act->z8->Prop}{Ts:List gy}{vs:List zx}{size:Nat}{P:Gz}{T:gy}{e:xM}{sv u:zx}{w1:z8}
def KQ:Yz Tryz.prog 290 177 .nilFunc 1 8 :=
 ⟨underlying290,V9 yg,rfl,zW,zW⟩
def V0{t:xM}{z:zx}{Z4:Nat}(E:Yz P t e z size Z4){rest:List je}{o:je}{a:Act}
  (q:o.guard=none) (s x:Operand) (B:o.op = .call { callee := .builtin .append,args:=#[s,x],argTypes:=#[t,t] })
  (base:Nat) (v:zx) (n:Nat) (xs:List zx) (hs:a.eval s=v) (l:w.ownsRow base e size v n xs)
  (ad:yI) (m c:Nat) (f:List zx) (hx:a.eval x = .slice (some ad) m c) (A:f.length=m*size) (k:∀j u,f[j]? = some u->w.cell? (ad.add j)=some u) (h1:∀u∈f,u.oneCell'=true)
  (p:n+m<=2147483648) (g:base<=(w:Nat))
  (h:∀v' w',w'.ownsRow base e size v' (n+m) (xs++f)->w.grownBy w' v.ownBlock->(v'.ownBlock=v.ownBlock\/v'.ownBlock=some (w:Nat))->wpList P ops Q rest (a.put o.dst v') w'):wpList P ops Q (o::rest) a w:=by
 obtain⟨i,hi,C,h2,y⟩:=E.info;have r:=E.small;refine wpList_append_own_at w q s x t B base e i z size Z4 E.under hi C h2 y E.QF E.pos v n xs hs l ad m c f hx A k h1 dS ?_ g (λv' w' a b _ d=>h v' w' a b d);exact zg (Ut p r) zW
def YE(lo:Nat)(w:z8)(sv:zx)(Ts:List gy):Prop :=
 ∃vs:List zx,w.ownsRow lo 177 1 sv Ts.length vs /\
  ∀j (h:j<Ts.length),∃u l h',vs[j]? = some u/\lo<=l/\h'<=(w:Nat)/\(∀g,sv.ownBlock=some g->g<l\/h'<=g)/\j9 l h' w u Ts[j]
def YE.nil(lo:Nat)(w:z8):YE lo w (.slice none 0 0) []:=⟨[],xz _ _ _ _,λj h=>absurd h (ZH j)⟩
def YE.form(h:YE lo w sv Ts):∃a cap,sv = .slice a Ts.length cap:=by
 obtain⟨vs,b,_⟩:=h;exact zo b
def YE.but(h:YE lo w sv Ts)(hb:xN p w w')(hp:p<lo):YE lo w' sv Ts:=by
 obtain⟨vs,c,o⟩:=h;have a:some p≠sv.ownBlock:=λe=>by have:=(c.lt p e.symm).1;omega
 refine⟨vs,c.kept (row:=some p) ⟨hb.os,hb.tape,hb.output,hb.size,λi hi hn=>hb.block i hi (λe=>hn (by rw[e]))⟩ (.inr (λe=>a e.symm)),λj n=>?_⟩;obtain⟨u,l,m,d,f,b,g,k⟩:=o j n;exact⟨u,l,m,d,f,zg b hb.size,g,k.keep (hb.keep J b) (Y _) (Y _)⟩
def YE.more{l0 h0:Nat}{a:zx}
  (s:∀j (h:j<Ts.length),∃u l h',vs[j]? = some u/\lo<=l/\h'<=(w:Nat)/\(∀g,sv.ownBlock=some g->g<l\/h'<=g)/\j9 l h' w u Ts[j]) (i:vs.length=Ts.length)
  (hT:j9 l0 h0 w u T) (f:lo<=l0) (EM:h0<=(w:Nat)) (hg0:∀g,sv.ownBlock=some g->g<l0\/h0<=g)
  (hb:zR w w1) (Z6:w1.grownBy w' sv.ownBlock) (wW:a.ownBlock=sv.ownBlock\/a.ownBlock=some (w1:Nat)) (ho:w'.ownsRow lo 177 1 a (Ts.length+1) (vs++[u])) :
  YE lo w' a (Ts++[T]):=by
 have lj:∀l h',h'<=(w:Nat)->(∀g,sv.ownBlock=some g->g<l\/h'<=g)->vx l h' w w':=zj7;have b:∀l h',h'<=(w:Nat)->(∀g,sv.ownBlock=some g->g<l\/h'<=g)->∀g,a.ownBlock=some g->g<l\/h'<=g:=zxj;refine⟨vs++[u],Bz,λj r=>?_⟩;by_cases c:j<Ts.length
 .obtain⟨x,l,h',n,o,d,m,p⟩:=s j c;exact⟨x,l,h',by rw[zi J];exact n,o,zg d (zg hb.size Z6.size),b l h' d m,by rw[VR c];exact p.keep (lj l h' d m) (Y _) (Y _)⟩
 .have e:j=Ts.length:=by simp at r;omega
  subst e;refine⟨u,l0,h0,by rw[yp J,i];simp,f,zg EM (zg hb.size Z6.size),b l0 h0 EM hg0,?_⟩;exact zfz
def YE.tests{a:Option yI}(h:YE lo w (.slice a Ts.length cap) Ts):Zs lo (w:Nat) w a Ts:=by
 obtain⟨vs,n,o⟩:=h;intro j m;obtain⟨u,l,q,e,f,d,p,i⟩:=o j m;obtain⟨g,c,hv,k,b,hc⟩:=xY n J;cases hv;refine⟨⟨g,0,none⟩,u,rfl,?_,k,b,i.keep (vH d) f d⟩;rw[ve,hc j J];exact e
def j9.one{l h:Nat}(a:j9 l h w v T):v.oneCell'=true:=by
 obtain⟨k,cap,rfl,_⟩:=a;rfl
def xm8(p:Nat)(r:Option (List gy×List Wd))(w:z8)(e:xX)(w':z8):Prop :=
 (match r with|none=>e=Ns|some (ts,t)=>(∃v,e = .returned v/\j9 (w:Nat) (w':Nat) w' v (Zn ts))/\dB w' p t)/\xN p w w'
def xN.eU{a b:z8}{row:Option Nat}(h:xN p w a)(c:a.grownBy b row)(hr:∀k,row=some k->(w:Nat)<=k):xN p w b :=
 ⟨c.os.trans h.os,c.tape.trans h.tape,c.output.trans h.output,zg h.size c.size,λk d hp=>(c.block k (zC d h.size) (λe=>by have:=hr k e.symm;omega)).trans (h.block k d hp)⟩
def dB.row(h:dB w p ws)(o:w.ownsRow lo 177 1 sv n vs)(hp:p<lo)(f:w.grownBy w' sv.ownBlock):dB w' p ws:=by
 have k:=h.lt;have d:some p≠sv.ownBlock:=λe=>by have:=(o.lt p e.symm).1;omega
 obtain⟨a,cap,hc,hf,h1,h2,s⟩:=h;refine⟨a,cap,f.cell hc d,(zU (f.block p k d)).trans hf,h1,h2,λj u=>?_⟩;obtain⟨b,r,i,l⟩:=s j u;have m:=X w _ l;rw[addr_add]at m;have c:some b.block≠sv.ownBlock:=by
  intro e;rcases o.2 with⟨hv,_⟩|⟨g,v,q,hv,_,t,_⟩
  .rw[hv]at e;cases e
  .rw[hv]at e;cases e;obtain⟨cs,fr,hs⟩:=i.2;rw[t]at hs;cases hs
 exact⟨b,r,⟨i.1,i.2.of (f.block _ m c)⟩,f.cell l (by rw[addr_add];exact c)⟩
def ykx(p:Nat)(wi:Bool)(r:Option (List gy×List Wd))(n0:Nat)(w:z8)(sv:zx)(more:Bool)(n:Nat)(wr:z8):Prop :=
 ∃(Ts:List gy) (ws:List Wd),YE (w:Nat) wr sv Ts/\dB wr p ws/\xN p w wr/\ws.length+Ts.length<=n0/\(∀x∈ws,Nr x)/\(more=true->ws.length<n/\qi wi n Ts ws=r)/\(more=false->some (Ts,ws)=r)
def zm6(w:z8)(m:Wd)(g:Nat)(a:zk w g 0 (zO m)):Xm w (.slice (g,0) 1 1) [m] :=
 ⟨some ⟨g,0,none⟩,1,rfl,Y _,zW,(λh=>xp),λj hj=>by
  have:j=0:=GU;subst this;exact⟨_,rfl,by simpa[fG]using a⟩⟩
def bQ(p:Nat)(m:Wd)(ws:List Wd)(W:z8)(hp:dB W p ws) :
  zE Tryz.prog 160 #[(p,0),.slice (W,0) 1 1] (W.alloc (.cells #[zO m] 9))
   λe w'=>e = .returned (.bool (X1 m ws))/\dB w' p (if X1 m ws then ws.tail else ws)/\xN p W w':=by
 have hb:yE W W (W.alloc (.cells #[zO m] 9)):=(zu _ _).alloc (Y _) _;refine(zm3 p [m] ws _ _ (hp.below hb) (zm6 _ m _ (zZ _ _ _ _ _)) zV).mono ?_;rintro e w' ⟨rfl,h1,h2,_⟩;have e:Cc [m] ws=X1 m ws:=by simp[Cc]
 rw[e]at h1|-;exact⟨rfl,h1,(xN.of hb).trans h2⟩
def zm7(p:Nat)(wi:Bool)(ws:List Wd)(w:z8)(hp:dB w p ws)(hx:∀x∈ws,Nr x)(hT:RT p w)(hl:ws.length<=1000) :
  zE Tryz.prog 208 #[(p,0),.bool wi] w (xm8 p (qi wi (ws.length+1) [] ws) w):=by
 obtain⟨r,hr⟩:=zw (qi wi (ws.length+1) [] ws);rw[hr];have HX:=Z hx;have HR:=Z hr;have D:=hp.lt;have HP:=Z hp;have HT:=Z hT;clear hr hx hp hT;go_enter func208,ntmps208;go_wp2;go_loopg [5,6] (ws.length+1) (λn sv mo wr=>∃more:Bool,mo = .bool more/\ykx p wi r (ws.length+1) w sv more n wr)
 case atStart=>exact⟨true,rfl,[],ws,YE.nil _ _,HP.o,xN.refl _ _,zV,HX.o,λ_=>⟨J,HR.o⟩,λh=>xp⟩
 case round =>
  obtain⟨more,rfl,Ts,us,T,hpa,F,hlen,IQ,hmo,ZR⟩:=hrel;have Yy:=Z T;have HPA:=Z hpa;have HXS:=Z IQ;obtain⟨a,cap,rfl⟩:=T.form;have uiu:=hpa.lt;cases more with
  |false =>
   have Vk:=Z (ZR rfl);clear ZR hmo T hpa IQ;have hsm:=Sd Ts a cap (w:Nat) wr J F.size Yy.o.tests;have HSM:=Z hsm;clear hsm;go_wp2_with fail;refine HSM.o.mono ?_;rintro e w1 ⟨⟨v,rfl,ht⟩,U⟩;have Px:=Z ht;clear ht;go_wp2;go_ret;rw[<-Vk.o];exact⟨⟨⟨_,rfl,Px.o⟩,HPA.o.below U⟩,F.below U⟩
  |true =>
   obtain⟨hlg,Nv⟩:=hmo rfl;obtain⟨m,rfl⟩:∃m,gk=m+1:=⟨gk - 1,J⟩;have G:=Z Nv;have xm9:=ZT p us wr hpa IQ (HT.o.but F);have Wt:=Z xm9;clear hmo ZR Nv T hpa IQ xm9;go_wp2_with fail;refine Wt.o.mono ?_;rintro e w1 ⟨hq,U⟩;cases hn:gF us with
   |none =>
    rw[hn]at hq;obtain rfl:=hq;go_wp2;refine⟨rfl,?_,F.trans U⟩;have kL:r=none:=(by rw[<-G.o,qi,QR,hn]);rw[kL]
   |some q =>
    obtain⟨va,t⟩:=q;rw[hn]at hq;obtain⟨rfl,pH⟩:=hq;obtain⟨hva,oM,htl⟩:=dh hn;have PL:=F.trans U;obtain⟨HN,wO,xmz,HXT⟩:=hdd hn pH (Yy.o.but U D) (λx hx=>HXS.o x (oM x hx));clear hn pH oM;go_wp2_with fail;refine(bQ p [46,46] t _ wO.o).mono ?_;rintro e w2 ⟨rfl,hp2,qX⟩;have j:=PL.trans qX;have I:=Z (xmz.o.but qX D);have iO:=Z hp2;clear hp2;cases hd:X1 [46,46] t
    .have Q:=iO.o;rw[hd]at Q;have HQ2:=Z Q;have i:QR us=some ((va,va),t):=(by rw[QR,HN.o];simp[hd]);have W:=Z i;clear Q hd i;have HIT:=Z (W.o);have xmy:decide ((va:Int)<(va:Int))=false:=iG;have A:=Dh va va wi w2 hva hva;have HSP:=Z A;clear A;go_wp2_with fail;refine HSP.o.mono ?_;rintro e w4 ⟨⟨fv,rfl,hft⟩,M⟩;have Rt:=HQ2.o.below M;have l:=j.below M;have R:=I.o.but (xN.of (p:=p) M) D;obtain⟨vs,B8,ht4⟩:=R;obtain⟨HFT,HP4,wN,OL⟩:=hdd hft Rt ht4 B8;obtain⟨kf,KN,rfl,_⟩:=hft;clear Rt ht4 B8;go_wp2_with (at_builtin;refine V0 KQ rfl _ _ rfl (w:Nat) _ Ts.length vs rfl (OL.o.alloc _) ⟨(w4:Nat),0,none⟩ 1 1 [.func (.func kf) #[] KN] rfl rfl ?c1 ?c2 ?c3 ?c4 ?_)
     case c1=>exact cells_one (zZ _ _ _ _ _)
     case c2=>intro u hu;simp at hu;subst hu;rfl
     case c3=>omega
     case c4=>have:=l.size;simp;omega
     intro ir w5 P C BF;have B:yE w4 w4 (w4.alloc (.cells #[.func (.func kf) #[] KN] 177)):=(zu _ _).alloc (Y _) _;have c:∀g,(ux a Ts.length cap).ownBlock=some g->(w:Nat)<=g/\g<(w2:Nat):=λg hg=>by
      obtain⟨_,pT,_⟩:=I.o;exact pT.lt g hg
     have z:YE (w:Nat) w5 ir (Ts++[fQ va va wi]) :=
      YE.more wN.o Mz HFT.o (by have:=j.size;omega) (Y _) (λg hg => .inl (c g hg).2) B C MB P
     have hp5:dB w5 p t:=(HP4.o.below B).row (OL.o.alloc _) D C;have O:xN p w w5:=(l.below B).eU C (λk hk=>(c k hk).1);obtain⟨a5,c5,rfl⟩:=zo P;have K:=Z z;have HP5:=Z hp5;clear z hp5 P C BF B c;go_wp2_with fail;refine(bQ p [44] t _ HP5.o).mono ?_;rintro e w6 ⟨rfl,hp6,gT⟩;have s:=O.trans gT;have lg:=Z (K.o.but gT D);have E:=Z (show qi wi (m+1) Ts us=if X1 [44] t then qi wi m (Ts++[fQ va va wi]) (t).tail else some (Ts++[fQ va va wi],t)by rw[qi,HIT.o]);have HP6:=Z hp6;clear hp6;cases b:X1 [44] t
     .have d:=HP6.o;rw[b]at d;have f:=E.o;rw[b,G.o]at f;have H:=Z d;have L:=Z f;clear b d f;go_wp2;go_roundg 0
      case measure=>omega
      case rel=>exact⟨false,rfl,Ts++[fQ va va wi],t,MW,H.o,s,yF,HXT.o,(λh=>xp),λ_=>L.o.symm⟩
     .have d:=HP6.o;rw[b]at d;have f:=E.o;rw[b,G.o]at f;have H:=Z d;have L:=Z f;have gN:0<(t).length:=by
       cases ht:t with
       |nil=>rw[ht]at b;cases b
       |cons x y=>simp
      clear b d f;go_wp2;go_roundg m
      case measure=>omega
      case rel=>exact⟨true,rfl,Ts++[fQ va va wi],(t).tail,MW,H.o,s,yF,λx hx=>HXT.o x (xh hx),λ_=>⟨yF,L.o.symm⟩,λh=>xp⟩
    .have Q:=iO.o;rw[hd]at Q;have HQ2:=Z Q;have xmq:=Z (λx hx=>HXT.o x (xh hx));have yc6:=ZT p t.tail w2 HQ2.o xmq.o (HT.o.but j);have xmk:=Z yc6;have HD:=Z hd;clear Q hd yc6;go_wp2_with fail;refine xmk.o.mono ?_;rintro e w3 ⟨TN,dE⟩;cases V:gF t.tail with
     |none =>
      rw[V]at TN;obtain rfl:=TN;have kL:r=none:=(by rw[<-G.o,qi,QR,HN.o];simp[HD.o,V]);go_wp2;refine⟨rfl,?_,j.trans dE⟩;first|rfl|(rw[kL])
     |some q =>
      obtain⟨vb,t2⟩:=q;rw[V]at TN;obtain⟨rfl,hp3⟩:=TN;obtain⟨hvb,yc7,uik⟩:=dh V;have uij:t2.length+1<=t.length:=by
       have:t.tail.length<=t.length:=zV;omega
      have N:=j.trans dE;have yc8:=Z (I.o.but dE D);have HP3:=Z hp3;have HX3:=Z (λx hx=>xmq.o x (yc7 x hx));have S:QR us=if vb<va then none else some ((va,vb),t2):=by rw[QR,HN.o];simp[HD.o,V]
      have yc9:=Z S;clear hp3 V yc7 S;by_cases hba:vb<va
      .have kL:r=none:=(by rw[<-G.o,qi,yc9.o,yK hba]);have xmy:decide ((vb:Int)<(va:Int))=true:=yF;go_wp2;refine⟨rfl,?_,N⟩;first|rfl|(rw[kL])
      .have i:=yc9.o;rw[yv hba]at i;have W:=Z i;clear i;have HIT:=Z (W.o);have xmy:decide ((vb:Int)<(va:Int))=false:=(by first|(simp;done)|(simp;omega));have A:=Dh va vb wi w3 hva hvb;have HSP:=Z A;clear A;go_wp2_with fail;refine HSP.o.mono ?_;rintro e w4 ⟨⟨fv,rfl,hft⟩,M⟩;have Rt:=HP3.o.below M;have l:=N.below M;have R:=yc8.o.but (xN.of (p:=p) M) D;obtain⟨vs,B8,ht4⟩:=R;obtain⟨HFT,HP4,wN,OL⟩:=hdd hft Rt ht4 B8;obtain⟨kf,KN,rfl,_⟩:=hft;clear Rt ht4 B8;go_wp2_with (at_builtin;refine V0 KQ rfl _ _ rfl (w:Nat) _ Ts.length vs rfl (OL.o.alloc _) ⟨(w4:Nat),0,none⟩ 1 1 [.func (.func kf) #[] KN] rfl rfl ?c1 ?c2 ?c3 ?c4 ?_)
       case c1=>exact cells_one (zZ _ _ _ _ _)
       case c2=>intro u hu;simp at hu;subst hu;rfl
       case c3=>omega
       case c4=>have:=l.size;simp;omega
       intro ir w5 P C BF;have B:yE w4 w4 (w4.alloc (.cells #[.func (.func kf) #[] KN] 177)):=(zu _ _).alloc (Y _) _;have c:∀g,(ux a Ts.length cap).ownBlock=some g->(w:Nat)<=g/\g<(w3:Nat):=λg hg=>by
        obtain⟨_,pT,_⟩:=yc8.o;exact pT.lt g hg
       have z:YE (w:Nat) w5 ir (Ts++[fQ va vb wi]) :=
        YE.more wN.o Mz HFT.o (by have:=N.size;omega) (Y _) (λg hg => .inl (c g hg).2) B C MB P
       have hp5:dB w5 p t2:=(HP4.o.below B).row (OL.o.alloc _) D C;have O:xN p w w5:=(l.below B).eU C (λk hk=>(c k hk).1);obtain⟨a5,c5,rfl⟩:=zo P;have K:=Z z;have HP5:=Z hp5;clear z hp5 P C BF B c;go_wp2_with fail;refine(bQ p [44] t2 _ HP5.o).mono ?_;rintro e w6 ⟨rfl,hp6,gT⟩;have s:=O.trans gT;have lg:=Z (K.o.but gT D);have E:=Z (show qi wi (m+1) Ts us=if X1 [44] t2 then qi wi m (Ts++[fQ va vb wi]) (t2).tail else some (Ts++[fQ va vb wi],t2)by rw[qi,HIT.o]);have HP6:=Z hp6;clear hp6;cases b:X1 [44] t2
       .have d:=HP6.o;rw[b]at d;have f:=E.o;rw[b,G.o]at f;have H:=Z d;have L:=Z f;clear b d f;go_wp2;go_roundg 0
        case measure=>omega
        case rel=>exact⟨false,rfl,Ts++[fQ va vb wi],t2,MW,H.o,s,yF,HX3.o,(λh=>xp),λ_=>L.o.symm⟩
       .have d:=HP6.o;rw[b]at d;have f:=E.o;rw[b,G.o]at f;have H:=Z d;have L:=Z f;have gN:0<(t2).length:=by
         cases ht:t2 with
         |nil=>rw[ht]at b;cases b
         |cons x y=>simp
        clear b d f;go_wp2;go_roundg m
        case measure=>omega
        case rel=>exact⟨true,rfl,Ts++[fQ va vb wi],(t2).tail,MW,H.o,s,yF,λx hx=>HX3.o x (xh hx),λ_=>⟨yF,L.o.symm⟩,λh=>xp⟩
structure Sub(t ws:List Wd):Prop where
 mem:∀x∈t,x∈ws
 len:t.length<=ws.length
def Sub.refl(ws:List Wd):Sub ws ws:=⟨λ_ h=>h,Y _⟩
def Sub.trans{a b c:List Wd}(h:Sub a b)(k:Sub b c):Sub a c:=⟨λx hx=>k.mem x (h.mem x hx),zg h.len k.len⟩
def Sub.tail(ws:List Wd):Sub ws.tail ws:=⟨λ_ h=>xh h,zV⟩
def U1{t:List Wd}{v:Nat}(h:gF ws=some (v,t)):Sub t ws:=⟨(dh h).2.1,by have:=(dh h).2.2;omega⟩
def Lu{t:List Wd}{q:Nat×Nat}(h:QR ws=some (q,t)):Sub t ws:=by
 unfold QR at h;cases hn:gF ws with
 |none=>rw[hn]at h;cases h
 |some r =>
  obtain⟨a,u⟩:=r;rw[hn]at h;dsimp only at h;have hs:=U1 hn;by_cases hd:X1 [46,46] u=true
  .rw[yK hd]at h;cases c:gF u.tail with
   |none=>rw[c]at h;cases h
   |some r2 =>
    obtain⟨b,u2⟩:=r2;rw[c]at h;dsimp only at h;by_cases hb:b<a
    .rw[yK hb]at h;cases h
    .rw[yv hb]at h;cases h;exact((U1 c).trans (Sub.tail u)).trans hs
  .rw[yv hd]at h;cases h;exact hs
def Fe{wi:Bool}:∀{n:Nat} {acc ts:List gy} {ws t:List Wd},qi wi n acc ws=some (ts,t)->Sub t ws
 | 0,_,_,_,_,h=>xp
 |n+1,acc,ts,ws,t,h=>by
  rw[qi]at h;cases hi:QR ws with
  |none=>rw[hi]at h;cases h
  |some r =>
   obtain⟨q,u⟩:=r;rw[hi]at h;dsimp only at h;by_cases hc:X1 [44] u=true
   .rw[yK hc]at h;exact((Fe h).trans (Sub.tail u)).trans (Lu hi)
   .rw[yv hc]at h;cases h;exact Lu hi
def sH{wi:Bool}{t:List Wd}(h:gx wi ws=some (T,t)):Sub t ws:=by
 unfold gx at h;cases a:qi wi (ws.length+1) [] ws with
 |none=>rw[a]at h;cases h
 |some r =>
  obtain⟨ts,u⟩:=r;rw[a]at h;cases h;exact Fe a
def V1(p:Nat)(r:Option (gy×List Wd))(w:z8)(e:xX)(w':z8):Prop :=
 (match r with|none=>e=Ns|some (T,t)=>(∃v,e = .returned v/\j9 (w:Nat) (w':Nat) w' v T)/\dB w' p t)/\xN p w w'
def ZD(p:Nat)(wi:Bool)(ws:List Wd)(w:z8)(hp:dB w p ws)(hx:∀x∈ws,Nr x)(b:RT p w)(c:ws.length<=1000) :
  zE Tryz.prog 208 #[(p,0),.bool wi] w (V1 p (gx wi ws) w):=by
 refine(zm7 p wi ws w hp hx b c).mono ?_;rintro e w' ⟨h,hb⟩;refine⟨?_,hb⟩;unfold gx;cases a:qi wi (ws.length+1) [] ws with
 |none=>rw[a]at h;exact h
 |some r =>
  obtain⟨ts,u⟩:=r;rw[a]at h;exact h
def ykq(p:Nat)(r:Option ((gy×Bool)×List Wd))(w:z8)(e:xX)(w':z8):Prop :=
 (match r with|none=>e=Ns|some ((T,nt),t)=>(∃v,e = .returned (.tuple #[v,.bool nt])/\j9 (w:Nat) (w':Nat) w' v T)/\dB w' p t)/\xN p w w'
def PF(p:Nat)(ws:List Wd)(w:z8)(hp:dB w p ws)(hx:∀x∈ws,Nr x)(hT:RT p w)(hl:ws.length<=1000) :
  zE Tryz.prog 169 #[(p,0)] w (ykq p (qy ws) w):=by
 obtain⟨r,hr⟩:=zw (qy ws);rw[hr];have HX:=Z hx;have HR:=Z hr;have uh:=hp.lt;have HP:=Z hp;have F:=Z hT;clear hr hx hp hT;go_enter func169,ntmps169;have W:ws.tail.length<=1000:=yF;have L2:ws.tail.tail.length<=1000:=yF;have M1:∀x∈ws.tail,Nr x:=λx h=>HX.o x (xh h)
 have M2:∀x∈ws.tail.tail,Nr x:=λx h=>M1 x (xh h)
 have y:=Z M1;have G:=Z M2;clear M1 M2;go_wp2_with fail;refine(bQ p [61] (ws) _ HP.o).mono ?_;rintro e w1 ⟨rfl,S,qI⟩;have g:=qI;have C:=Z S;clear S;cases P:X1 [61] (ws)
 .have hq:=C.o;rw[P]at hq;have H:=Z hq;have E1:=Z P;clear hq P;go_wp2_with fail;refine(bQ p [33,61] (ws) _ H.o).mono ?_;rintro e w2 ⟨rfl,U,L⟩;have c:=g.trans L;have D:=Z U;clear U;cases Q:X1 [33,61] (ws)
  .have hq:=D.o;rw[Q]at hq;have I:=Z hq;have E2:=Z Q;clear hq Q;go_wp2_with fail;refine(bQ p [105,115] (ws) _ I.o).mono ?_;rintro e w3 ⟨rfl,V,M⟩;have f:=c.trans M;have E:=Z V;clear V;cases R:X1 [105,115] (ws)
   .have hq:=E.o;rw[R]at hq;have K:=Z hq;have E3:=Z R;clear hq R;go_wp2_with fail;refine(bQ p [110,111,116] (ws) _ K.o).mono ?_;rintro e w4 ⟨rfl,z,N⟩;have d:=f.trans N;have i:=Z z;clear z;cases s:X1 [110,111,116] (ws)
    .have hq:=i.o;rw[s]at hq;have l:=Z hq;have E4:=Z s;clear hq s;go_wp2_with fail;refine(bQ p [119,105,116,104,105,110] (ws) _ l.o).mono ?_;rintro e w5 ⟨rfl,A,n⟩;have Ye:=d.trans n;have j:=Z A;clear A;cases u:X1 [119,105,116,104,105,110] (ws)
     .have hq:=j.o;rw[u]at hq;have m:=Z hq;have E5:=Z u;clear hq u;go_wp2_with fail;refine(bQ p [105,110] (ws) _ m.o).mono ?_;rintro e w6 ⟨rfl,B,gT⟩;have Vl:=Ye.trans gT;have yy7:=Z B;clear B;cases e6:X1 [105,110] (ws)
      .exact ydd
      .have hq:=yy7.o;rw[e6]at hq;have HP6:=Z hq;have E6:=Z e6;clear hq e6;have a:=ZD p false (ws.tail) w6 HP6.o y.o (F.o.but Vl) W;have k:=Z a;clear a;go_wp2_with fail;refine k.o.mono ?_;rintro e w7 ⟨hq,O⟩;have QC:=Vl.trans O;have b:r=(gx false (ws.tail)).map λq=>((q.1,false),q.2):=by
        rw[<-HR.o];simp[qy,E1.o,E2.o,E3.o,E4.o,E5.o,E6.o]
       have VW:=Z b;clear b;cases hn:gx false (ws.tail) with
       |none =>
        exact zxy
       |some q =>
        exact ydy
     .have hq:=j.o;rw[u]at hq;have m:=Z hq;have E5:=Z u;clear hq u;have a:=ZD p true (ws.tail) w5 m.o y.o (F.o.but Ye) W;have k:=Z a;clear a;go_wp2_with fail;refine k.o.mono ?_;rintro e w6 ⟨hq,gT⟩;have Vl:=Ye.trans gT;have b:r=(gx true (ws.tail)).map λq=>((q.1,false),q.2):=by
       rw[<-HR.o];simp[qy,E1.o,E2.o,E3.o,E4.o,E5.o]
      have VW:=Z b;clear b;cases hn:gx true (ws.tail) with
      |none =>
       exact zxx
      |some q =>
       exact ydx
    .have hq:=i.o;rw[s]at hq;have l:=Z hq;have E4:=Z s;clear hq s;go_wp2_with fail;refine(bQ p [119,105,116,104,105,110] (ws.tail) _ l.o).mono ?_;rintro e w5 ⟨rfl,A,n⟩;have Ye:=d.trans n;have j:=Z A;clear A;cases u:X1 [119,105,116,104,105,110] (ws.tail)
     .have hq:=j.o;rw[u]at hq;have m:=Z hq;have E5:=Z u;clear hq u;go_wp2_with fail;refine(bQ p [105,110] (ws.tail) _ m.o).mono ?_;rintro e w6 ⟨rfl,B,gT⟩;have Vl:=Ye.trans gT;have yy7:=Z B;clear B;cases e6:X1 [105,110] (ws.tail)
      .exact ydd
      .have hq:=yy7.o;rw[e6]at hq;have HP6:=Z hq;have E6:=Z e6;clear hq e6;have a:=ZD p false (ws.tail.tail) w6 HP6.o G.o (F.o.but Vl) L2;have k:=Z a;clear a;go_wp2_with fail;refine k.o.mono ?_;rintro e w7 ⟨hq,O⟩;have QC:=Vl.trans O;have b:r=(gx false (ws.tail.tail)).map λq=>((q.1,true),q.2):=by
        rw[<-HR.o];simp[qy,E1.o,E2.o,E3.o,E4.o,E5.o,E6.o]
       have VW:=Z b;clear b;cases hn:gx false (ws.tail.tail) with
       |none =>
        exact zxy
       |some q =>
        exact ydy
     .have hq:=j.o;rw[u]at hq;have m:=Z hq;have E5:=Z u;clear hq u;have a:=ZD p true (ws.tail.tail) w5 m.o G.o (F.o.but Ye) L2;have k:=Z a;clear a;go_wp2_with fail;refine k.o.mono ?_;rintro e w6 ⟨hq,gT⟩;have Vl:=Ye.trans gT;have b:r=(gx true (ws.tail.tail)).map λq=>((q.1,true),q.2):=by
       rw[<-HR.o];simp[qy,E1.o,E2.o,E3.o,E4.o,E5.o]
      have VW:=Z b;clear b;cases hn:gx true (ws.tail.tail) with
      |none =>
       exact zxx
      |some q =>
       exact ydx
   .have hq:=E.o;rw[R]at hq;have K:=Z hq;have E3:=Z R;clear hq R;go_wp2_with fail;refine(bQ p [110,111,116] (ws.tail) _ K.o).mono ?_;rintro e w4 ⟨rfl,z,N⟩;have d:=f.trans N;have i:=Z z;clear z;cases s:X1 [110,111,116] (ws.tail)
    .have hq:=i.o;rw[s]at hq;have l:=Z hq;have E4:=Z s;clear hq s;have a:=ZT p (ws.tail) w4 l.o y.o (F.o.but d);have k:=Z a;clear a;go_wp2_with fail;refine k.o.mono ?_;rintro e w5 ⟨hq,n⟩;have Ye:=d.trans n;have b:r=(gF (ws.tail)).map λq=>((fQ q.1 q.1 false,false),q.2):=by
      rw[<-HR.o];simp[qy,E1.o,E2.o,E3.o,E4.o]
     have VW:=Z b;clear b;cases hn:gF (ws.tail) with
     |none =>
      exact zxv
     |some q =>
      exact yd6
    .have hq:=i.o;rw[s]at hq;have l:=Z hq;have E4:=Z s;clear hq s;have a:=ZT p (ws.tail.tail) w4 l.o G.o (F.o.but d);have k:=Z a;clear a;go_wp2_with fail;refine k.o.mono ?_;rintro e w5 ⟨hq,n⟩;have Ye:=d.trans n;have b:r=(gF (ws.tail.tail)).map λq=>((fQ q.1 q.1 false,true),q.2):=by
      rw[<-HR.o];simp[qy,E1.o,E2.o,E3.o,E4.o]
     have VW:=Z b;clear b;cases hn:gF (ws.tail.tail) with
     |none =>
      exact zxv
     |some q =>
      exact yd6
  .have hq:=D.o;rw[Q]at hq;have I:=Z hq;have E2:=Z Q;clear hq Q;have a:=ZD p false (ws.tail) w2 I.o y.o (F.o.but c) W;have k:=Z a;clear a;go_wp2_with fail;refine k.o.mono ?_;rintro e w3 ⟨hq,M⟩;have f:=c.trans M;have b:r=(gx false (ws.tail)).map λq=>((q.1,true),q.2):=by
    rw[<-HR.o];simp[qy,E1.o,E2.o]
   have VW:=Z b;clear b;cases hn:gx false (ws.tail) with
   |none =>
    rw[hn]at hq;obtain rfl:=hq;have kL:=VW.o;rw[hn]at kL;have Gd:=Z kL;clear kL hn;go_wp2;refine⟨rfl,?_,f⟩;rw[Gd.o];rfl
   |some q =>
    obtain⟨T,t⟩:=q;rw[hn]at hq;obtain⟨⟨v,rfl,ht⟩,iF⟩:=hq;have kL:=VW.o;rw[hn]at kL;have Gd:=Z kL;have Px:=Z ht;have Wz:=Z iF;clear kL hn ht iF;go_wp2;go_ret2
    refine⟨?_,f⟩;rw[Gd.o];exact⟨⟨v,rfl,Px.o.keep (vH (Y _)) c.size (Y _)⟩,Wz.o⟩
 .have hq:=C.o;rw[P]at hq;have H:=Z hq;have E1:=Z P;clear hq P;have a:=ZD p false (ws.tail) w1 H.o y.o (F.o.but g) W;have k:=Z a;clear a;go_wp2_with fail;refine k.o.mono ?_;rintro e w2 ⟨hq,L⟩;have c:=g.trans L;have b:r=(gx false (ws.tail)).map λq=>((q.1,false),q.2):=by
   rw[<-HR.o];simp[qy,E1.o]
  have VW:=Z b;clear b;cases hn:gx false (ws.tail) with
  |none =>
   rw[hn]at hq;obtain rfl:=hq;have kL:=VW.o;rw[hn]at kL;have Gd:=Z kL;clear kL hn;go_wp2;refine⟨rfl,?_,c⟩;rw[Gd.o];rfl
  |some q =>
   obtain⟨T,t⟩:=q;rw[hn]at hq;obtain⟨⟨v,rfl,ht⟩,iF⟩:=hq;have kL:=VW.o;rw[hn]at kL;have Gd:=Z kL;have Px:=Z ht;have Wz:=Z iF;clear kL hn ht iF;go_wp2;go_ret2
   refine⟨?_,c⟩;rw[Gd.o];exact⟨⟨v,rfl,Px.o.keep (vH (Y _)) g.size (Y _)⟩,Wz.o⟩
variable{j:Nat}{α β:Type}
def zm9(t:List Wd):Cc [[109,111,100],[37]] t=AU (t.headD []):=by
 cases t with
 |nil=>rfl
 |cons c u=>simp[Cc,RF,AU]
def sI(w:z8)(m b:Wd)(g:Nat)(c:zk w g 0 (zO m))(a:zk w g 1 (zO b)):Xm w (.slice (g,0) 2 2) [m,b] :=
 ⟨some ⟨g,0,none⟩,2,rfl,Y _,zW,(λh=>xp),λj d=>by
  match j,d with
  | 0,_=>exact⟨_,rfl,by simpa[fG]using c⟩
  | 1,_=>exact⟨_,rfl,by simpa[fG]using a⟩⟩
def zmz(p:Nat)(ws:List Wd)(W:z8)(hp:dB W p ws) :
  zE Tryz.prog 160 #[(p,0),.slice (W,0) 2 2] (W.alloc (.cells #[zO [109,111,100],zO [37]] 9))
   λe w'=>e = .returned (.bool (AU (ws.headD [])))/\dB w' p (if AU (ws.headD [])then ws.tail else ws)/\xN p W w':=by
 have hb:yE W W (W.alloc (.cells #[zO [109,111,100],zO [37]] 9)):=(zu _ _).alloc (Y _) _;refine(zm3 p [[109,111,100],[37]] ws _ _ (hp.below hb) (sI _ _ _ _ (zZ _ _ _ _ _) (zZ _ _ _ _ _)) zV).mono ?_;rintro e w' ⟨rfl,h1,h2,_⟩;rw[zm9]at h1|-;exact⟨rfl,h1,(xN.of hb).trans h2⟩
def Nt(p:Nat)(w:z8)(hp:dB w p []):zE Tryz.prog 127 #[(p,0)] w (V1 p (VJ []) w):=by
 obtain⟨a,cap,hc,hf,h1,h2,b⟩:=hp;clear b;go_enter func127,ntmps127;go_wp2;exact⟨rfl,rfl,xN.refl _ _⟩
def zmy(fn:Fn)(first cap:Array zx)(w:z8):(binOp .eql 294 (.func fn first cap) .nilFunc).run Tryz.prog w = .ok (.bool false) w:=by
 have h:∀d:Nat,(Z8 (d+1) 294 (.func fn first cap) .nilFunc).run Tryz.prog w = .ok false w:=λd=>by
  simp[Z8,kJ underlying294]
 exact Lo
def SX(w:z8):(binOp .eql 294 .nilFunc .nilFunc).run Tryz.prog w = .ok (.bool true) w:=by
 have h:∀d:Nat,(Z8 (d+1) 294 .nilFunc .nilFunc).run Tryz.prog w = .ok true w:=λd=>by
  simp[Z8,kJ underlying294]
 exact Lo
def xN.frozen(h:xN p w w'){a:yI}(b:a.block<(w:Nat))(ha:a.block≠p):w'.frozen? a=w.frozen? a:=zU (h.block a.block b ha)
structure vS(w:z8)(k:Nat)(u:zx):Prop where
 c:zk w k 0 u
 z:w.frozen? (k,0)=false
 n:¬Np w k
def SV{a:yI}(h:Np (w.setCell a u) k):Np w k:=by
 obtain⟨cs,fr,h⟩:=h;by_cases d:k=a.block
 .simp only[xu,xc,yK d.symm]at h;cases b:w.heap[k]? with
  |none=>simp[b]at h
  |some o =>
   simp only[b,Y8]at h;cases o with
   |cells c e f =>
    simp only[vr,Tp]at h;exact⟨c,f,by rw[b,h.2.1]⟩
   |_=>simp at h
 .exact⟨cs,fr,(yX _ _ _ _ d).symm.trans h⟩
def vS.lt(h:vS w k u):k<(w:Nat):=X w _ h.c
def vS.but(h:vS w k u)(hb:xN p w w')(hp:k≠p):vS w' k u :=
 ⟨hb.cell h.c hp,(hb.frozen (a:=(k,0)) h.lt hp).trans h.z,λhs=>h.n (hs.of (hb.block k h.lt hp).symm)⟩
def vS.made(w:z8)(u:zx)(t:xM)(a:t≠9):vS (w.alloc (.cells #[u] t)) (w:Nat) u :=
 ⟨zZ _ _ _ _ _,zV,λ⟨cs,fr,h⟩=>a (by
  have:(w.alloc (.cells #[u] t)).heap[(w:Nat)]? = some (.cells #[u] t):=WK;rw[this]at h;simp only[vr,Tp]at h;exact h.2.1)⟩
def vS.same(h:vS w k u)(x:zx):vS (w.setCell (zQ k 0) x) k x:=⟨by rw[qY (h:=h.c)],by simpa using h.z,λhs=>h.n (SV hs)⟩
def vS.other(h:vS w k u)(a:k≠j)(x:zx):vS (w.setCell (j,0) x) k u :=
 ⟨(yD (yX _ _ _ _ a)).trans h.c,(zU (yX _ _ _ _ a)).trans h.z,λhs=>h.n (SV hs)⟩
def xN.alloc{a:z8}(h:xN p w a)(o:Obj):xN p w (a.alloc o):=h.below ((zu _ _).alloc (Y _) _)
def xN.put{a:z8}(h:xN p w a)(c:(w:Nat)<=k)(u:zx):xN p w (a.setCell (k,0) u) :=
 ⟨h.os,h.tape,h.output,by simpa[xu]using h.size,λj b hp=>(yX _ _ _ _ (show j≠k by omega)).trans (h.block j b hp)⟩
def dB.put(h:dB w p ws)(g:k≠p)(hs:¬Np w k)(u:zx):dB (w.setCell (k,0) u) p ws:=by
 obtain⟨a,cap,hc,hf,h1,h2,m⟩:=h;have hb:∀j,j≠k->(w.setCell (k,0) u).heap[j]? = w.heap[j]? := λj f=>yX _ _ _ _ f
 refine⟨a,cap,(yD (hb p g.symm)).trans hc,(zU (hb p g.symm)).trans hf,h1,h2,λj f=>?_⟩;obtain⟨b,i,d,l⟩:=m j f;have c:b.block≠k:=λe=>hs (e▸d.2)
 exact⟨b,i,⟨d.1,d.2.of (hb _ c)⟩,(yD (hb _ (by rw[addr_add];exact c))).trans l⟩
def xdy{γ δ:Type}{P:α->β->γ->δ->Prop}{A:Prop}(G:α->β->γ->δ->Prop)(h1:∀a b c d,P a b c d->G a b c d)(h2:(∀a b c d,P a b c d->G a b c d)->A):A:=h2 h1
def Qx{md:kD}{S:z8->Prop}{f:Nat}{m m':Array Bool}{a:Act}(hm:m'=m)(h:Uh P md ops Q S f m a w):Uh P md ops Q S f m' a w:=hm▸h
def Hl(p:Nat)(c:Wd)(t:List Wd)(w:z8)(hp:dB w p (c::t))(hx:∀x∈c::t,Nr x)(S:RT p w)(V:t.length<=999) :
  zE Tryz.prog 127 #[(p,0)] w (V1 p (VJ (c::t)) w):=by
 have O:=Z hp;have HX:=Z hx;have HT:=Z S;have uh:=hp.lt;obtain⟨a,cap,hc,hf,h1,h2,R⟩:=hp;obtain⟨b,rfl,hb,lx⟩:=R 0 zV;have hx':w.cell? b=some (zO c):=zgz;have hmx:cap<=9223372036854775807:=M5;have B:(c::t).length=t.length+1:=rfl;rw[B]at hc h1;obtain⟨r,hr⟩:=zw (VJ (c::t));rw[hr];have HR:=Z hr;have u:=Nn ⟨c.toArray⟩ w;rw[toList_mk]at u;have D:=Z u;have T:=zmy;have U:=SX;have hmf:∀(fn:Fn) (first cap:Array zx) (w:z8),(qA fn first cap).run Tryz.prog w = .ok (.func fn first cap) w:=λ_ _ _ _=>rfl
 clear lx R hr hx S u;go_enter func127,ntmps127;go_wp2_with fail;refine D.o.mono ?_;rintro e w1 ⟨hq,rfl⟩;cases y:uI c with
 |none =>
  rw[y]at hq;obtain rfl:=hq;have kL:r=none:=by rw[<-HR.o,VJ,y]
  have Gd:=Z kL;clear kL y;go_wp2;refine⟨rfl,?_,(xN.refl _ _).alloc _⟩;rw[Gd.o]
 |some F =>
  rw[y]at hq;obtain⟨fv,rfl,s⟩:=hq;have HFV:=Z s;have hK:=s 0 0 w;obtain⟨kf,KN,rfl,_⟩:=hK;have HO:=Z y;clear s y;by_cases H:cap=1
  .have M:t=[]:=zN J;subst M;subst H;go_wp2_with fail;have C:∃d,d=(w.setCell (p,0) (.slice (some b) 0 0)).alloc (.cells #[.func (.func kf) #[] KN] 294)/\xN p w d/\d.heap.size=(w:Nat)+1/\dB d p ([]:List Wd)/\vS d (w:Nat) (.func (.func kf) #[] KN):=by
    have hs:(w.setCell (p,0) (.slice (some b) 0 0)).heap.size=(w:Nat):=ZM;refine⟨_,rfl,(xN.set p w 0 _).alloc _,ZM,((O.o.step hc).2 rfl).below ((zu _ _).alloc (Y _) _),?_⟩;exact AD
   obtain⟨d,H9,PL,l,f,cQ1⟩:=C;have yx2:∀o,((w.setCell (zQ p 0) (.slice (some b) 0 0)).alloc (.cells #[.func (.func kf) #[] KN] 294)).alloc o=d.alloc o:=λo=>by rw[H9]
   obtain⟨t,I⟩:∃t:List Wd,t=[]:=⟨_,rfl⟩;rw[<-I]at HX HR f;have V:t.length<=999:=(by rw[I];decide);clear I;have E:=Z f;have G:=Z l;have g:=zmz p t d f;rw[l]at g;have HIM:=Z g;clear f l g;exact zgu
  .have gN:¬(cap:Int)=1:=(by omega);go_wp2_with fail;have C:∃d,d=(w.setCell (p,0) (.slice (some (b.add 1)) t.length (cap - 1))).alloc (.cells #[.func (.func kf) #[] KN] 294)/\xN p w d/\d.heap.size=(w:Nat)+1/\dB d p t/\vS d (w:Nat) (.func (.func kf) #[] KN):=by
    have hs:(w.setCell (p,0) (.slice (some (b.add 1)) t.length (cap - 1))).heap.size=(w:Nat):=ZM;refine⟨_,rfl,(xN.set p w 0 _).alloc _,ZM,((O.o.step hc).1).below ((zu _ _).alloc (Y _) _),?_⟩;exact AD
   obtain⟨d,H9,PL,l,f,cQ1⟩:=C;have yx2:∀o,((w.setCell (zQ p 0) (.slice (some (b.add 1)) t.length (cap - 1))).alloc (.cells #[.func (.func kf) #[] KN] 294)).alloc o=d.alloc o:=λo=>by rw[H9]
   have E:=Z f;have G:=Z l;have g:=zmz p t d f;rw[l]at g;have HIM:=Z g;clear f l g;have A:(some (b.add 1):Option yI)=some ⟨b.block,b.off+1,none⟩:=rfl;rw[A]at yx2;exact zgu
def Nh(p:Nat)(ws:List Wd)(w:z8)(hp:dB w p ws)(hx:∀x∈ws,Nr x)(b:RT p w)(a:ws.length<=1000) :
  zE Tryz.prog 127 #[(p,0)] w (V1 p (VJ ws) w):=by
 match ws,hp,hx,a with
 |[],hp,_,_=>exact Nt p w hp
 |c::t,hp,hx,a=>exact Hl p c t w hp hx b (by simpa using a)
def xzu(p:Nat)(w:z8)(v:zx)(P:Parser):Prop :=
 ∃k first cap,v = .func (.func k) first cap/\(∀args w,(callFunc k args).run Tryz.prog w = .ok (.enter k args) w) /\
  ∀W ws,xN p w W->dB W p ws->(∀x∈ws,Nr x)->ws.length<=1000->zE Tryz.prog k (first++cap) W (V1 p (P ws) W)
def xzq(v:zx)(tog:List gy->gy):Prop :=
 ∃k,v = .func (.func k) #[] #[]/\(∀args w,(callFunc k args).run Tryz.prog w = .ok (.enter k args) w) /\
  ∀(Ts:List gy) (a:Option yI) (c lo:Nat) (W:z8),Ts.length<=1000000->lo<=(W:Nat)->Zs lo (W:Nat) W a Ts ->
   zE Tryz.prog k #[.slice a Ts.length c] W λe w'=>(∃v,e = .returned v/\j9 lo w'.heap.size w' v (tog Ts))/\zR W w'
def xzk(p:Nat)(word:Wd)(P:Parser)(r:Option (List gy×List Wd))(n0:Nat)(w:z8)(sv:zx)(n:Nat)(wr:z8):Prop :=
 ∃(Ts:List gy) (us:List Wd),YE (w:Nat) wr sv Ts/\dB wr p us/\xN p w wr/\us.length+Ts.length<=n0+1/\(∀x∈us,Nr x)/\us.length<=n/\us.length<=n0 /\
  (if X1 word us then bd word P n Ts us.tail else some (Ts,us))=r
def ykk{c h0:Nat}(d:j9 c h0 w u T)(b:lo<=c)(a:h0<=(w:Nat))(h:lo<=(w:Nat)) :
  YE lo (w.alloc (.cells #[u] 177)) (.slice (w,0) 1 1) [T]:=by
 have hb:yE w w (w.alloc (.cells #[u] 177)):=(zu _ _).alloc (Y _) _;refine⟨[u],World.ownsRow_lit w #[u] 1 h zW rfl,λj f=>?_⟩;have:j=0:=by simp at f;omega
 subst this;exact⟨u,c,h0,rfl,b,zg a hb.size,λg e=>by cases e;exact .inr a,d.keep (vY hb a a) (Y _) (Y _)⟩
def ng(p:Nat)(word:Wd)(K:List gy->gy)(P:Parser)(tv ov:zx)(ws:List Wd)(w:z8)(hp:dB w p ws)(hx:∀x∈ws,Nr x)(hl:ws.length<=1000)(ht:xzq tv K)(ho:xzu p w ov P)(hs:∀us T t,P us=some (T,t)->Sub t us) :
  zE Tryz.prog 123 #[(p,0),zO word,tv,ov] w (V1 p (Nq word K P ws) w):=by
 obtain⟨r,hr⟩:=zw (bd word P (ws.length+1) [] ws);have hpr:Nq word K P ws=r.map λq=>(K q.1,q.2):=by unfold Nq;rw[hr]
 rw[hpr];obtain⟨HR,HX,HP,HS⟩:=hdd hr hx hp hs;have W:=hp.lt;obtain⟨kt,rfl,het,Q⟩:=ht;obtain⟨ko,first,cap,rfl,heo,h⟩:=ho;have vej:=Z Q;have L:=Z h;clear hr hpr hx hp hs Q h;go_enter func123,ntmps123;go_wp2_with fail;refine(L.o w ws (xN.refl _ _) HP.o HX.o hl).mono ?_;rintro e w1 ⟨hq,U⟩;cases hn:P ws with
 |none =>
  rw[hn]at hq;obtain rfl:=hq;have D:r=none:=by rw[<-HR.o,bd,hn]
  have R:=Z D;clear D hn;go_wp2;refine⟨rfl,?_,U⟩;rw[R.o];rfl
 |some q =>
  obtain⟨T1,t1⟩:=q;rw[hn]at hq;obtain⟨⟨v,rfl,hT1⟩,pH⟩:=hq;have z:=HS.o _ _ _ hn;have wM:=ykk hT1 (Y (w:Nat)) (Y _) U.size;have HRL:=Z wM;obtain⟨kv,cpv,rfl,_⟩:=hT1;have veg:xN p w (w1.alloc (.cells #[.func (.func kv) #[] cpv] 177)):=U.below ((zu _ _).alloc (Y _) _);have O:dB (w1.alloc (.cells #[.func (.func kv) #[] cpv] 177)) p t1:=pH.below ((zu _ _).alloc (Y _) _);have wO:=Z O;have TL:(if X1 word t1 then bd word P ws.length [T1] t1.tail else some ([T1],t1))=r:=by rw[<-HR.o,bd,hn];rfl
  have VW:=Z TL;have HX1:=Z (λx hx=>HX.o x (z.mem x hx));have N:=z.len;clear hn pH O wM TL z;go_wp2_with fail;go_loopg [9] ws.length (λn sv wr=>xzk p word P r ws.length w sv n wr)
  case atStart=>exact⟨[T1],t1,HRL.o,wO.o,veg,yF,HX1.o,N,N,VW.o⟩
  case round =>
   obtain⟨Ts,us,E,hpa,zby,hlen,IQ,hun,hu0,f⟩:=hrel;obtain⟨Yy,HPA,HXS,Gf⟩:=hdd E hpa IQ f;obtain⟨a,c,rfl⟩:=E.form;clear E hpa IQ f;go_wp2_with fail;refine(bQ p word us _ HPA.o).mono ?_;rintro e w2 ⟨rfl,d,qX⟩;have b:=zby.trans qX;have i:=Z (Yy.o.but qX W);have iO:=Z d;clear d;cases hi:X1 word us
   .have f:=Gf.o;rw[hi]at f;have d:=iO.o;rw[hi]at d;have B:=Z f;have HPZ:=Z d;have hsm:=vej.o Ts a c (w:Nat) w2 J b.size i.o.tests;have HSM:=Z hsm;clear hi f d hsm;go_wp2_with fail;refine HSM.o.mono ?_;rintro e w3 ⟨⟨v,rfl,htt⟩,C⟩;have Px:=Z htt;clear htt;go_wp2;go_ret;rw[<-B.o];exact⟨⟨⟨_,rfl,Px.o⟩,HPZ.o.below C⟩,b.below C⟩
   .have f:=Gf.o;rw[hi]at f;have d:=iO.o;rw[hi]at d;have HPZ:=Z d;have PK:0<us.length:=by
     cases us with
     |nil=>cases hi
     |cons x y=>simp
    obtain⟨m,rfl⟩:∃m,gk=m+1:=⟨gk - 1,J⟩;have B:=Z f;have h:=L.o w2 us.tail b d (λx hx=>HXS.o x (xh hx)) yF;have HON:=Z h;clear hi f d h;go_wp2_with fail;refine HON.o.mono ?_;rintro e w3 ⟨I,C⟩;have j:=b.trans C;cases l:P us.tail with
    |none =>
     rw[l]at I;obtain rfl:=I;have D:r=none:=(by rw[<-B.o];simp[bd,l]);have R:=Z D;clear D l;go_wp2;refine⟨rfl,?_,j⟩;rw[R.o];rfl
    |some q3 =>
     obtain⟨T3,t3⟩:=q3;rw[l]at I;obtain⟨⟨v,rfl,hT3⟩,hp3⟩:=I;have A:=HS.o _ _ _ l;have M:(if X1 word t3 then bd word P m (Ts++[T3]) t3.tail else some (Ts++[T3],t3))=r:=(by rw[<-B.o];simp[bd,l]);have vef:=Z M;obtain⟨vs,B8,ht4⟩:=i.o.but C W;obtain⟨HFT,HP4,wN,OL,HX3⟩:=G0 hT3 hp3 ht4 B8 (λx hx=>HXS.o x (xh (A.mem x hx)));have hl3:t3.length+1<=us.length:=(by have:=A.len;simp at this;omega);obtain⟨kf,KN,rfl,_⟩:=hT3;clear hp3 ht4 B8 l M A;go_wp2_with (at_builtin;refine V0 KQ rfl _ _ rfl (w:Nat) _ Ts.length vs rfl (OL.o.alloc _) ⟨(w3:Nat),0,none⟩ 1 1 [.func (.func kf) #[] KN] rfl rfl K8 (by intro u hu;simp at hu;subst hu;rfl) J (by have:=j.size;simp;omega) ?_);intro ir w5 XP H BF;have G:yE w3 w3 (w3.alloc (.cells #[.func (.func kf) #[] KN] 177)):=(zu _ _).alloc (Y _) _;have s:∀g,(ux a Ts.length c).ownBlock=some g->(w:Nat)<=g/\g<(w2:Nat):=λg hg=>by
      obtain⟨_,pT,_⟩:=i.o;exact pT.lt g hg
     have F:YE (w:Nat) w5 ir (Ts++[T3]) :=
      YE.more wN.o Mz HFT.o (by have:=b.size;omega) (Y _) (λg hg => .inl (s g hg).2) G H MB XP
     have hp5:dB w5 p t3:=(HP4.o.below G).row (OL.o.alloc _) W H;have V:xN p w w5:=(j.below G).eU H (λk hk=>(s k hk).1);obtain⟨a5,c5,rfl⟩:=zo XP;have S:=Z F;have HP5:=Z hp5;clear F hp5 XP H BF G s;go_wp2;go_roundg m
     case measure=>omega
     case rel=>exact⟨Ts++[T3],t3,by simpa using S.o,HP5.o,V,yF,HX3.o,J,J,vef.o⟩
def sL(s:ByteArray)(w:z8)(hs:s.size<=1000000) :
  zE Tryz.prog 67 #[.string s,.string ⟨#[64]⟩] w λe w' =>
   e = .returned (.tuple #[.string ⟨(s.data.toList.take (s.data.toList.idxOf 64)).toArray⟩,.string ⟨(s.data.toList.drop (s.data.toList.idxOf 64+1)).toArray⟩,.bool (decide (s.data.toList.idxOf 64<s.size))])/\∃n,w'=w.drewN n:=by
 have a:=λw=>FR s 64 w hs
 have b:=Z a;clear a;go_enter func67,ntmps67;go_wp2_with fail;refine(b.o _).mono ?_;rintro e w' ⟨rfl,n,rfl⟩;go_wp2;go_ret3
 exact⟨rfl,n,rfl⟩
abbrev ykg:xX := .panicked [{ v := .iface 259 (.agg #[]),recovered:=false }]
def ved(r:Option (List Wd))(w:z8)(e:xX)(w':z8):Prop :=
 (match r with|none=>e=ykg|some ws=>∃v,e = .returned v/\w'.ownsRow (w:Nat) 9 1 v ws.length (ws.map zO))/\zR w w'
def xzj(r:Option (List Wd))(n0:Nat)(w:z8)(s sv:zx)(n:Nat)(wr:z8):Prop :=
 ∃(acc:List Wd) (l:List UInt8),s = .string ⟨l.toArray⟩/\wr.ownsRow (w:Nat) 9 1 sv acc.length (acc.map zO)/\zR w wr/\l.length<n/\l.length+acc.length<=n0/\bI n acc l=r
def Xq{m:List UInt8}(h:yc l m=false):vO l m=l:=by
 unfold vO;simp[h]
def UR{c:UInt8}{t m:List UInt8}(hm:m=[33,61]\/m=[46,46]\/m=[61]\/m=[44]\/m=[37])(h:yc (c::t) m=true):C6 (c::t)=some m/\vO (c::t) m=(c::t).drop m.length:=by
 have a:vO (c::t) m=(c::t).drop m.length:=by unfold vO;rw[yK h]
 refine⟨?_,a⟩;unfold yc at h;rcases hm with rfl|rfl|rfl|rfl|rfl
 .exact zxd
 .exact zxd
 .exact Wn
 .exact Wn
 .exact Wn
def sM{c:UInt8}{t:List UInt8}(h0:yc (c::t) [33,61]=false)(h1:yc (c::t) [46,46]=false)(h2:yc (c::t) [61]=false)(a:yc (c::t) [44]=false)(b:yc (c::t) [37]=false):C6 (c::t)=none:=by
 unfold C6;split
 .rename_i u e;cases e;simp[yc,uT]at h0
 .rename_i u e;cases e;simp[yc,uT]at h1
 .rename_i u e;cases e;simp[yc,uT]at h2
 .rename_i u e;cases e;simp[yc,uT]at a
 .rename_i u e;cases e;simp[yc,uT]at b
 .rfl
def K7{p:UInt8->Bool}:∀{t:List UInt8} {m:Nat},m<=t.length->(t.take m).all p=true->(∀h:m<t.length,p t[m]=false)->t.takeWhile p=t.take m/\t.dropWhile p=t.drop m
 |[],0,_,_,_=>⟨rfl,rfl⟩
 |[],m+1,h,_,_=>absurd h zV
 |c::t,0,_,_,h=>by
  have:=h zV;have hc:p c=false:=by simpa using this
  rw[kC GN,fF (by simp[hc])];exact⟨rfl,rfl⟩
 |c::t,m+1,hm,ha,h=>by
  simp only[List.take_succ_cons,u7,zv]at ha;have a:=K7 (t:=t) (m:=m) (by simpa using hm) ha.2 (λb=>by have:=h yF;simpa using this);rw[xO ha.1,VU ha.1,a.1,a.2];exact⟨rfl,rfl⟩
def SU(c:UInt8):yo c<=3:=by
 unfold yo;split
 .decide
 split
 .decide
 split<;>decide
def eQ(s:ByteArray)(w:z8)(hs:s.size<=1000):zE Tryz.prog 122 #[.string s] w (ved (aW s.data.toList) w):=by
 obtain⟨r,hr⟩:=zw (aW s.data.toList);rw[hr];have hl0:(s.data.toList.take (s.data.toList.idxOf 64)).length<=s.size:=yF;unfold aW at hr;rw[vL]at hr;obtain⟨l0,hl⟩:=zw (s.data.toList.take (s.data.toList.idxOf 64));have hC:=sL s w J;rw[hl]at hr hl0 hC;have HR:=Z hr;have HC:=Z hC;have wI:∀(s p:ByteArray) (W:z8),zE Tryz.prog 66 #[.string s,.string p] W λe w'=>e = .returned (.tuple #[.string ⟨(vO s.data.toList p.data.toList).toArray⟩,.bool (yc s.data.toList p.data.toList)])/\W=w':=λs p W=>(Tryz.strings_CutPrefix s p W).mono λ_ _ h=>⟨h.1,h.2.symm⟩
 have E:=Z wI;clear hr hl hC wI;have xly:∀W:z8,(Y4 288 (.agg #[.string ⟨#[33,61]⟩,.string ⟨#[46,46]⟩,.string ⟨#[61]⟩,.string ⟨#[44]⟩,.string ⟨#[37]⟩]) (.int .i64 0)).run Tryz.prog W = .ok (.string ⟨#[33,61]⟩) W:=λW=>yg
 have xlx:∀W:z8,(Y4 288 (.agg #[.string ⟨#[33,61]⟩,.string ⟨#[46,46]⟩,.string ⟨#[61]⟩,.string ⟨#[44]⟩,.string ⟨#[37]⟩]) (.int .i64 1)).run Tryz.prog W = .ok (.string ⟨#[46,46]⟩) W:=λW=>yg
 have xlv:∀W:z8,(Y4 288 (.agg #[.string ⟨#[33,61]⟩,.string ⟨#[46,46]⟩,.string ⟨#[61]⟩,.string ⟨#[44]⟩,.string ⟨#[37]⟩]) (.int .i64 2)).run Tryz.prog W = .ok (.string ⟨#[61]⟩) W:=λW=>yg
 have veb:∀W:z8,(Y4 288 (.agg #[.string ⟨#[33,61]⟩,.string ⟨#[46,46]⟩,.string ⟨#[61]⟩,.string ⟨#[44]⟩,.string ⟨#[37]⟩]) (.int .i64 3)).run Tryz.prog W = .ok (.string ⟨#[44]⟩) W:=λW=>yg
 have vi0:∀W:z8,(Y4 288 (.agg #[.string ⟨#[33,61]⟩,.string ⟨#[46,46]⟩,.string ⟨#[61]⟩,.string ⟨#[44]⟩,.string ⟨#[37]⟩]) (.int .i64 4)).run Tryz.prog W = .ok (.string ⟨#[37]⟩) W:=λW=>yg
 go_enter func122,ntmps122;go_wp2_with fail;go_step3;go_wp2_with fail;refine HC.o.mono ?_;rintro e w1 ⟨rfl,nd,rfl⟩;go_wp2_with fail;go_step3;go_wp2_with fail;go_loopg [0,2] (s.size+1) (λn sl sv wr=>xzj r s.size w sl sv n wr)
 case atStart=>exact⟨[],l0,rfl,xz _ _ _ _,below_drewN (zu _ _) nd,J,yF,HR.o⟩
 case round =>
  obtain⟨acc,l,rfl,H,hb,Z9,hla,b⟩:=hrel;obtain⟨a,cap,rfl⟩:=zo H;have HO:=Z H;have R:=Z b;obtain⟨n,rfl⟩:∃n,gk=n+1:=⟨gk - 1,J⟩;clear H b;cases l with
  |nil =>
   have hg:r=some acc:=(by rw[<-R.o,bI]);have HGG:=Z hg;clear hg;go_wp2;try rw[Exit.noGoto_ret]
   go_ret;rw[HGG.o];exact⟨⟨_,rfl,HO.o⟩,hb⟩
  |cons c t =>
   have O:=size_mk (c::t);obtain⟨u,hu⟩:∃u:ByteArray,u=⟨(c::t).toArray⟩:=⟨_,rfl⟩;have hud:u.data.toList=c::t:=(by rw[hu]);rw[<-hu]at O|-;have HU:=Z hu;have HUD:=Z hud;have PK:(0:Int)<(u.size:Int):=(by rw[O];simp);have ZX:=Z O;clear hu hud;have uh:t.length+1<=s.size:=(by have h1:=hla;simp at h1;omega);clear O;have T:=E.o u ⟨#[33,61]⟩;have Q:=E.o u ⟨#[46,46]⟩;have N:=E.o u ⟨#[61]⟩;have K:=E.o u ⟨#[44]⟩;have G:=E.o u ⟨#[37]⟩;rw[HUD.o]at T;rw[HUD.o]at Q;rw[HUD.o]at N;rw[HUD.o]at K;rw[HUD.o]at G;cases q0:yc (c::t) (⟨#[33,61]⟩:ByteArray).data.toList
   .skip
    rw[q0,Xq q0]at T;have A:=Z T;have Q0:=Z q0;clear T q0;cases q1:yc (c::t) (⟨#[46,46]⟩:ByteArray).data.toList
    .skip
     rw[q1,Xq q1]at Q;have D:=Z Q;have Q1:=Z q1;clear Q q1;cases q2:yc (c::t) (⟨#[61]⟩:ByteArray).data.toList
     .skip
      rw[q2,Xq q2]at N;have F:=Z N;have Q2:=Z q2;clear N q2;cases V:yc (c::t) (⟨#[44]⟩:ByteArray).data.toList
      .skip
       rw[V,Xq V]at K;have L:=Z K;have Q3:=Z V;clear K V;cases q4:yc (c::t) (⟨#[37]⟩:ByteArray).data.toList
       .skip
        rw[q4,Xq q4]at G;have S:=Z G;have Q4:=Z q4;clear G q4;have i:=sM Q0.o Q1.o Q2.o Q3.o Q4.o;have b:=R.o;rw[bI,i]at b;have Gf:=Z b;clear b i;go_wp2_with fail;refine gV 6 ?_;rw[xR];go_wp2_with fail;refine(A.o _).mono ?_;rintro e I ⟨rfl,rfl⟩;go_wp2_with fail;rw[xR];go_wp2_with fail;refine(D.o _).mono ?_;rintro e P ⟨rfl,rfl⟩;go_wp2_with fail;rw[xR];go_wp2_with fail;refine(F.o _).mono ?_;rintro e wz2 ⟨rfl,rfl⟩;go_wp2_with fail;rw[xR];go_wp2_with fail;refine(L.o _).mono ?_;rintro e wz3 ⟨rfl,rfl⟩;go_wp2_with fail;rw[xR];go_wp2_with fail;refine(S.o _).mono ?_;rintro e wz4 ⟨rfl,rfl⟩;go_wp2_with fail;rw[xR];have QM:=λW=>bU c W
        have hg0:u[0]' J=c:=by
         have h1:=HU.o;subst h1;exact Wm
        go_wp2_with fail;have HCL:=Z QM;have HG0:=Z hg0;clear QM hg0;have hk3:=SU c;have hKc:=(by omega:yo c=0\/yo c=1\/yo c=2\/yo c=3);have Ka:u.size=t.length+1:=ZX.o;have hux:∀m (h:m<t.length) (h2:m+1<u.size),u[m+1]=t[m]:=λm h h2=>by
         have h1:=HU.o;subst h1;exact Wm
        have M:=Z hux;have f:=HCL.o wr;clear xly xlx xlv veb vi0 hux hk3 Ka PK;rcases hKc with hK|hK|hK|hK
        .skip
         rw[hK]at f;refine f.mono ?_;rintro e w3 ⟨rfl,rfl⟩;have HK:=Z hK;clear hK f;go_wp2_with fail;go_loop [7] (λv=>∃m:Nat,m<=t.length/\v = .int .i64 ((m+1:Nat):Int)/\(t.take m).all (λd=>yo d==yo c)=true) (λv=>t.length+1 - (intOf v).toNat)
         case atStart=>exact⟨0,zJ _,rfl,rfl⟩
         case round =>
          obtain⟨m,hm,rfl,g⟩:=hrel;have El:=Z g;clear g;by_cases iI:m<t.length
          .have b1:m+1<u.size:=(by have wR:u.size=t.length+1:=ZX.o;omega);have U:=M.o m iI b1;have b2:(m:Int)+1<(u.size:Int):=J;have b3:m+1<=u.size:=J;have k:=bU t[m] wr;obtain⟨B,j⟩:=zw (yo t[m]);rw[j]at k;have z:=Z k;have HK2:=Z j;clear k j;go_wp2_with fail;refine z.o.mono ?_;rintro e w4 ⟨rfl,rfl⟩;by_cases hq:B=0
           .have C:((B:Int)==0)=true:=(by rw[hq];rfl);exact Mb
           .have C:((B:Int)==0)=false:=(by simp;omega);have bu:=K7 (p:=λd=>yo d==yo c) hm El.o (λh=>by simp[HK2.o,HK.o,hq]);have LS:=Z bu;clear bu hq;exact zv2
          .have bu:=K7 (p:=λd=>yo d==yo c) hm El.o (λh=>absurd h iI);have LS:=Z bu;have b2:¬((m:Int)+1<(u.size:Int)):=(by have wR:u.size=t.length+1:=ZX.o;omega);have b1:¬(m+1<u.size):=J;have b3:m+1<=u.size:=Wj;clear bu iI;exact zv2
        .skip
         rw[hK]at f;refine f.mono ?_;rintro e w3 ⟨rfl,rfl⟩;have HK:=Z hK;clear hK f;go_wp2_with fail;go_loop [7] (λv=>∃m:Nat,m<=t.length/\v = .int .i64 ((m+1:Nat):Int)/\(t.take m).all (λd=>yo d==yo c)=true) (λv=>t.length+1 - (intOf v).toNat)
         case atStart=>exact⟨0,zJ _,rfl,rfl⟩
         case round =>
          obtain⟨m,hm,rfl,g⟩:=hrel;have El:=Z g;clear g;by_cases iI:m<t.length
          .have b1:m+1<u.size:=(by have wR:u.size=t.length+1:=ZX.o;omega);have U:=M.o m iI b1;have b2:(m:Int)+1<(u.size:Int):=J;have b3:m+1<=u.size:=J;have k:=bU t[m] wr;obtain⟨B,j⟩:=zw (yo t[m]);rw[j]at k;have z:=Z k;have HK2:=Z j;clear k j;go_wp2_with fail;refine z.o.mono ?_;rintro e w4 ⟨rfl,rfl⟩;by_cases hq:B=1
           .have C:((B:Int)==1)=true:=(by rw[hq];rfl);exact Mb
           .have C:((B:Int)==1)=false:=(by simp;omega);have bu:=K7 (p:=λd=>yo d==yo c) hm El.o (λh=>by simp[HK2.o,HK.o,hq]);have LS:=Z bu;clear bu hq;exact yd4
          .have bu:=K7 (p:=λd=>yo d==yo c) hm El.o (λh=>absurd h iI);have LS:=Z bu;have b2:¬((m:Int)+1<(u.size:Int)):=(by have wR:u.size=t.length+1:=ZX.o;omega);have b1:¬(m+1<u.size):=J;have b3:m+1<=u.size:=Wj;clear bu iI;exact yd4
        .skip
         rw[hK]at f;refine f.mono ?_;rintro e w3 ⟨rfl,rfl⟩;have HK:=Z hK;clear hK f;go_wp2_with fail;go_loop [7] (λv=>∃m:Nat,m<=t.length/\v = .int .i64 ((m+1:Nat):Int)/\(t.take m).all (λd=>yo d==yo c)=true) (λv=>t.length+1 - (intOf v).toNat)
         case atStart=>exact⟨0,zJ _,rfl,rfl⟩
         case round =>
          obtain⟨m,hm,rfl,g⟩:=hrel;have El:=Z g;clear g;by_cases iI:m<t.length
          .have b1:m+1<u.size:=(by have wR:u.size=t.length+1:=ZX.o;omega);have U:=M.o m iI b1;have b2:(m:Int)+1<(u.size:Int):=J;have b3:m+1<=u.size:=J;have k:=bU t[m] wr;obtain⟨B,j⟩:=zw (yo t[m]);rw[j]at k;have z:=Z k;have HK2:=Z j;clear k j;go_wp2_with fail;refine z.o.mono ?_;rintro e w4 ⟨rfl,rfl⟩;by_cases hq:B=2
           .have C:((B:Int)==2)=true:=(by rw[hq];rfl);exact Mb
           .have C:((B:Int)==2)=false:=(by simp;omega);exact zf3
          .exact zgg
        .skip
         rw[hK]at f;refine f.mono ?_;rintro e w3 ⟨rfl,rfl⟩;have HK:=Z hK;clear hK f;go_wp2_with fail;go_loop [7] (λv=>∃m:Nat,m<=t.length/\v = .int .i64 ((m+1:Nat):Int)/\(t.take m).all (λd=>yo d==yo c)=true) (λv=>t.length+1 - (intOf v).toNat)
         case atStart=>exact⟨0,zJ _,rfl,rfl⟩
         case round =>
          obtain⟨m,hm,rfl,g⟩:=hrel;have El:=Z g;clear g;by_cases iI:m<t.length
          .have b1:m+1<u.size:=(by have wR:u.size=t.length+1:=ZX.o;omega);have U:=M.o m iI b1;have b2:(m:Int)+1<(u.size:Int):=J;have b3:m+1<=u.size:=J;have k:=bU t[m] wr;obtain⟨B,j⟩:=zw (yo t[m]);rw[j]at k;have z:=Z k;have HK2:=Z j;clear k j;go_wp2_with fail;refine z.o.mono ?_;rintro e w4 ⟨rfl,rfl⟩;by_cases hq:B=3
           .have C:((B:Int)==3)=true:=(by rw[hq];rfl);exact Mb
           .have C:((B:Int)==3)=false:=(by simp;omega);exact zf3
          .exact zgg
       .skip
        obtain⟨i,y⟩:=UR zV q4;rw[q4,y]at G;have S:=Z G;have b:=R.o;rw[bI,i]at b;have Gf:=Z b;have uS:((c::t).drop ([37]:List UInt8).length).length<=t.length:=zV;have HDL:=Z uS;clear q4 i y b uS G;go_wp2_with fail;refine gV 6 ?_;rw[xR];go_wp2_with fail;refine(A.o _).mono ?_;rintro e I ⟨rfl,rfl⟩;go_wp2_with fail;rw[xR];go_wp2_with fail;refine(D.o _).mono ?_;rintro e P ⟨rfl,rfl⟩;go_wp2_with fail;rw[xR];go_wp2_with fail;refine(F.o _).mono ?_;rintro e wz2 ⟨rfl,rfl⟩;go_wp2_with fail;rw[xR];go_wp2_with fail;refine(L.o _).mono ?_;rintro e wz3 ⟨rfl,rfl⟩;go_wp2_with fail;rw[xR];go_wp2_with fail;refine(S.o _).mono ?_;rintro e wz4 ⟨rfl,rfl⟩;go_wp2_with (at_builtin;refine jx fX rfl _ _ rfl (w:Nat) _ _ _ rfl (HO.o.alloc _) ⟨(wr:Nat),0,none⟩ 1 1 [zO [37]] rfl rfl K8 BE J Z1 ?_);intro ir w5 XP U0;have ZV:zR w w5:=(hb.alloc hb.size _).grown U0 Z1 (λq hq=>(HO.o.lt q hq).1);obtain⟨a5,c5,rfl⟩:=zo XP;have oA:=Z XP;clear XP U0;go_wp2;go_roundg n
        case measure=>omega
        case rel=>exact⟨acc++[[37]],_,rfl,BH,ZV,Bb,P9,BB⟩
      .skip
       obtain⟨i,y⟩:=UR zV V;rw[V,y]at K;have L:=Z K;have b:=R.o;rw[bI,i]at b;have Gf:=Z b;have uS:((c::t).drop ([44]:List UInt8).length).length<=t.length:=zV;have HDL:=Z uS;clear V i y b uS K G;go_wp2_with fail;refine gV 6 ?_;rw[xR];go_wp2_with fail;refine(A.o _).mono ?_;rintro e I ⟨rfl,rfl⟩;go_wp2_with fail;rw[xR];go_wp2_with fail;refine(D.o _).mono ?_;rintro e P ⟨rfl,rfl⟩;go_wp2_with fail;rw[xR];go_wp2_with fail;refine(F.o _).mono ?_;rintro e wz2 ⟨rfl,rfl⟩;go_wp2_with fail;rw[xR];go_wp2_with fail;refine(L.o _).mono ?_;rintro e wz3 ⟨rfl,rfl⟩;go_wp2_with (at_builtin;refine jx fX rfl _ _ rfl (w:Nat) _ _ _ rfl (HO.o.alloc _) ⟨(wr:Nat),0,none⟩ 1 1 [zO [44]] rfl rfl K8 BE J Z1 ?_);intro ir w5 XP U0;have ZV:zR w w5:=(hb.alloc hb.size _).grown U0 Z1 (λq hq=>(HO.o.lt q hq).1);obtain⟨a5,c5,rfl⟩:=zo XP;have oA:=Z XP;clear XP U0;go_wp2;go_roundg n
       case measure=>omega
       case rel=>exact⟨acc++[[44]],_,rfl,BH,ZV,Bb,P9,BB⟩
     .skip
      obtain⟨i,y⟩:=UR zV q2;rw[q2,y]at N;have F:=Z N;have b:=R.o;rw[bI,i]at b;have Gf:=Z b;have uS:((c::t).drop ([61]:List UInt8).length).length<=t.length:=zV;have HDL:=Z uS;clear q2 i y b uS N K G;go_wp2_with fail;refine gV 6 ?_;rw[xR];go_wp2_with fail;refine(A.o _).mono ?_;rintro e I ⟨rfl,rfl⟩;go_wp2_with fail;rw[xR];go_wp2_with fail;refine(D.o _).mono ?_;rintro e P ⟨rfl,rfl⟩;go_wp2_with fail;rw[xR];go_wp2_with fail;refine(F.o _).mono ?_;rintro e wz2 ⟨rfl,rfl⟩;go_wp2_with (at_builtin;refine jx fX rfl _ _ rfl (w:Nat) _ _ _ rfl (HO.o.alloc _) ⟨(wr:Nat),0,none⟩ 1 1 [zO [61]] rfl rfl K8 BE J Z1 ?_);intro ir w5 XP U0;have ZV:zR w w5:=(hb.alloc hb.size _).grown U0 Z1 (λq hq=>(HO.o.lt q hq).1);obtain⟨a5,c5,rfl⟩:=zo XP;have oA:=Z XP;clear XP U0;go_wp2;go_roundg n
      case measure=>omega
      case rel=>exact⟨acc++[[61]],_,rfl,BH,ZV,Bb,P9,BB⟩
    .skip
     obtain⟨i,y⟩:=UR zV q1;rw[q1,y]at Q;have D:=Z Q;have b:=R.o;rw[bI,i]at b;have Gf:=Z b;have uS:((c::t).drop ([46,46]:List UInt8).length).length<=t.length:=zV;have HDL:=Z uS;clear q1 i y b uS Q N K G;go_wp2_with fail;refine gV 6 ?_;rw[xR];go_wp2_with fail;refine(A.o _).mono ?_;rintro e I ⟨rfl,rfl⟩;go_wp2_with fail;rw[xR];go_wp2_with fail;refine(D.o _).mono ?_;rintro e P ⟨rfl,rfl⟩;go_wp2_with (at_builtin;refine jx fX rfl _ _ rfl (w:Nat) _ _ _ rfl (HO.o.alloc _) ⟨(wr:Nat),0,none⟩ 1 1 [zO [46,46]] rfl rfl K8 BE J Z1 ?_);intro ir w5 XP U0;have ZV:zR w w5:=(hb.alloc hb.size _).grown U0 Z1 (λq hq=>(HO.o.lt q hq).1);obtain⟨a5,c5,rfl⟩:=zo XP;have oA:=Z XP;clear XP U0;go_wp2;go_roundg n
     case measure=>omega
     case rel=>exact⟨acc++[[46,46]],_,rfl,BH,ZV,Bb,P9,BB⟩
   .skip
    obtain⟨i,y⟩:=UR zV q0;rw[q0,y]at T;have A:=Z T;have b:=R.o;rw[bI,i]at b;have Gf:=Z b;have uS:((c::t).drop ([33,61]:List UInt8).length).length<=t.length:=zV;have HDL:=Z uS;clear q0 i y b uS T Q N K G;go_wp2_with fail;refine gV 6 ?_;rw[xR];go_wp2_with fail;refine(A.o _).mono ?_;rintro e I ⟨rfl,rfl⟩;go_wp2_with (at_builtin;refine jx fX rfl _ _ rfl (w:Nat) _ _ _ rfl (HO.o.alloc _) ⟨(wr:Nat),0,none⟩ 1 1 [zO [33,61]] rfl rfl K8 BE J Z1 ?_);intro ir w5 XP U0;have ZV:zR w w5:=(hb.alloc hb.size _).grown U0 Z1 (λq hq=>(HO.o.lt q hq).1);obtain⟨a5,c5,rfl⟩:=zo XP;have oA:=Z XP;clear XP U0;go_wp2;go_roundg n
    case measure=>omega
    case rel=>exact⟨acc++[[33,61]],_,rfl,BH,ZV,Bb,P9,BB⟩
def SQ(w:z8):(za (.iface 259 (.agg #[])) 20 259 true).run Tryz.prog w = .ok (.tuple #[.agg #[],.bool true]) w:=yg
def KK(B:Nat)(w:z8):CallsD Tryz.prog 121 #[(B,0)] .returning w λe c w'=>e = .returned (.tuple #[])/\c = .returning/\w'=w:=by
 refine Xd func121 rfl λa cs b=>?_
 apply wpS_seq;apply EJ;simp[wpOpsS,go_sem,recoverD,b,ntmps121,VY];refine TQ ?_;go_wp2;cases a;simp_all [TK,yN,results121]
def Ce(B:Nat)(u:zx)(a:List PanicEntry)(w:z8)(hc:zk w B 0 u)(f:w.frozen? (B,0)=false) :
  CallsD Tryz.prog 121 #[(B,0)] (.panicking ({ v := .iface 259 (.agg #[]),recovered:=false }::a)) w λe h w' =>
   e = .returned (.tuple #[])/\h = .panicking ({ v := .iface 259 (.agg #[]),recovered:=true }::a)/\w'=(w.setCell (B,0) .nilFunc).alloc (.cells #[] 259):=by
 have ha:=SQ;refine Xd func121 rfl λi cs d=>?_
 apply wpS_seq;apply EJ;simp[wpOpsS,go_sem,recoverD,d,ntmps121,VY];refine TQ ?_;simp only[vQ,zX,Qm,List.set_cons_zero,List.set_cons_succ,xu0,xd,xV,Act.put];have b:B<(w:Nat):=X w _ hc;have c:zk (w.alloc (.cells #[] 259)) B 0 u:=(zc _ _ _ b).trans hc;have g:(w.alloc (.cells #[] 259)).frozen? (B,0)=false:=(zU (xQ _ _ _ b)).trans f;go_wp2;simp[TK,yN,results121]
def ykf{g:Wd}(h:C6 l=some g):Nr g/\0<g.length:=by
 unfold C6 at h;split at h<;>cases h
 all_goals exact⟨⟨zV,zV,.inr zW⟩,zV⟩
def zmx{p:UInt8->Bool}:∀{t:List UInt8} {d:UInt8},d∈t.takeWhile p->p d=true
 |[],_,h=>xp
 |c::t,d,h=>by
  by_cases hc:p c=true
  .rw[xO hc]at h;rcases yV.1 h with q|q
   .rw[q];exact hc
   .exact zmx q
  .rw[kC hc]at h;cases h
def Ci{c:UInt8}{t:List UInt8}(h:yo c=2\/yo c=3):Nr (c::t.takeWhile (λd=>yo d==yo c))\/1000<(c::t.takeWhile (λd=>yo d==yo c)).length:=by
 by_cases a:(c::t.takeWhile (λd=>yo d==yo c)).length<=1000
 .left;refine⟨zV,a,?_⟩;rcases h with h|h
  .left;rw[u7,(Xu c).1 h,jd,zm];intro d hd;have:=zmx hd;rw[h,beq_iff_eq]at this;exact(Xu d).1 this
  .right;have:¬yC c=true:=λe=>by have:=(Xu c).2 e;omega
   simpa using this
 .right;omega
def Hm(p:UInt8->Bool)(t:List UInt8):(t.takeWhile p).length+(t.dropWhile p).length=t.length:=by
 have:=congrArg xJ (jy (p:=p) (l:=t));rw[zy]at this;exact this
def Cl:∀(n:Nat) (acc:List Wd) (l:List UInt8) (ws:List Wd),bI n acc l=some ws->l.length<=999->(∀x∈acc,Nr x)->(∀x∈ws,Nr x)/\ws.length<=acc.length+l.length
 |n,acc,[],ws,h,_,ha=>by
  rw[bI]at h;cases h;exact⟨ha,zV⟩
 | 0,acc,c::t,ws,h,_,_=>by
  rw[bI]at h;cases h;all_goals (intro i;cases i)
 |n+1,acc,c::t,ws,h,j,ha=>by
  rw[bI]at h;simp only[zY]at j;cases hs:C6 (c::t) with
  |some g =>
   rw[hs]at h;dsimp only at h;obtain⟨e,f⟩:=ykf hs;have a:=Cl n (acc++[g]) ((c::t).drop g.length) ws h yF (λx hx=>by
    rcases zS.1 hx with q|q
    .exact ha x q
    .simp at q;subst q;exact e)
   refine⟨a.1,?_⟩;have:=a.2;simp at this|-;omega
  |none =>
   rw[hs]at h;dsimp only at h;by_cases h0:yo c=0
   .rw[yK h0]at h;cases h
   .rw[yv h0]at h;have k:=SU c;have b:=Hm (λd=>yo d==yo c) t;have a:=Cl n _ (t.dropWhile (λd=>yo d==yo c)) ws h J (λx hx=>by
     by_cases h1:yo c=1
     .rw[yK h1]at hx;exact ha x hx
     .rw[yv h1]at hx;rcases zS.1 hx with q|q
      .exact ha x q
      .simp only[yV,I3,or_false]at q;subst q;rcases Ci (t:=t) (c:=c) J with w|w
       .exact w
       .simp only[zY]at w;omega)
    refine⟨a.1,?_⟩;have h2:=a.2;by_cases h1:yo c=1
    .rw[yK h1]at h2;simp;omega
    .rw[yv h1]at h2;simp at h2|-;omega
def ykd(h:aW l=some ws)(a:l.length<=200):(∀x∈ws,Nr x)/\ws.length<=200:=by
 unfold aW at h;have:=Cl _ _ _ _ h yF (λx hx=>K3);refine⟨this.1,?_⟩;have h2:=this.2;simp at h2;omega
def zmv:xzq (.func (.func 124) #[] #[]) Zn :=
 ⟨_,rfl,λargs w=>enters_of func124 yg rfl args w,λTs a c lo W h1 h2 b=>Sd Ts a c lo W h1 h2 b⟩
def ykb:xzq (.func (.func 126) #[] #[]) allT :=
 ⟨_,rfl,λargs w=>enters_of func126 yg rfl args w,λTs a c lo W h1 h2 b=>yk9 Ts a c lo W h1 h2 b⟩
def yj0(p:Nat)(w:z8)(a:RT p w):xzu p w (.func (.func 127) #[(p,0)] #[]) VJ :=
 ⟨_,_,_,rfl,λargs w=>enters_of func127 yg rfl args w,λW ws hb hp hx b=>Nh p ws W hp hx (a.but hb) b⟩
def zmu{of:Dg->Dg}{t u:List Wd}{F:Dg->Dg}(h:Py of t=some (F,u)):Sub u t:=by
 unfold Py at h;by_cases hm:AU (t.headD [])=true
 .rw[yK hm]at h;cases hn:gF t.tail with
  |none=>rw[hn]at h;cases h
  |some q =>
   obtain⟨m,v⟩:=q;rw[hn]at h;dsimp only at h;by_cases h0:m=0
   .rw[yK h0]at h;cases h
   .rw[yv h0]at h;cases h;exact(U1 hn).trans (Sub.tail t)
 .rw[yv hm]at h;cases h;exact Sub.refl _
def GG{wi b:Bool}{t:List Wd}{i:gy×Bool}(h:((gx wi ws).map λq=>((q.1,b),q.2))=some (i,t)):Sub t ws:=by
 cases a:gx wi ws with
 |none=>rw[a]at h;cases h
 |some q =>
  obtain⟨T,u⟩:=q;rw[a]at h;cases h;exact sH a
def Lq{b:Bool}{t:List Wd}{i:gy×Bool}(h:((gF ws).map λq=>((fQ q.1 q.1 false,b),q.2))=some (i,t)):Sub t ws:=by
 cases a:gF ws with
 |none=>rw[a]at h;cases h
 |some q =>
  obtain⟨T,u⟩:=q;rw[a]at h;cases h;exact U1 a
def SK{t:List Wd}{i:gy×Bool}(h:qy ws=some (i,t)):Sub t ws:=by
 have s1:=Sub.tail ws;have a:=(Sub.tail ws.tail).trans s1;unfold qy at h;split at h
 .exact Mk
 split at h
 .exact Mk
 split at h
 .split at h
  .exact(Lq h).trans a
  .exact(Lq h).trans s1
 .dsimp only at h;split at h
  .split at h
   .exact(GG h).trans a
   .split at h
    .exact(GG h).trans a
    .cases h
  .split at h
   .exact Mk
   .split at h
    .exact Mk
    .cases h
def SJ{t:List Wd}(h:VJ ws=some (T,t)):Sub t ws:=by
 cases ws with
 |nil=>cases h
 |cons w u =>
  rw[VJ]at h;cases a:uI w with
  |none=>rw[a]at h;cases h
  |some of =>
   rw[a]at h;dsimp only at h;cases hm:Py of u with
   |none=>rw[hm]at h;cases h
   |some q =>
    obtain⟨F,v⟩:=q;rw[hm]at h;dsimp only at h;cases hn:qy v with
    |none=>rw[hn]at h;cases h
    |some q2 =>
     obtain⟨⟨i,b⟩,x⟩:=q2;rw[hn]at h;cases h;exact((SK hn).trans (zmu hm)).trans ⟨λy hy=>zg8,zV⟩
def Cm{word:Wd}{P:Parser}(hs:∀us T t,P us=some (T,t)->Sub t us):∀{n:Nat} {acc ts:List gy} {ws t:List Wd},bd word P n acc ws=some (ts,t)->Sub t ws
 | 0,_,_,_,_,h=>xp
 |n+1,acc,ts,ws,t,h=>by
  rw[bd]at h;cases hi:P ws with
  |none=>rw[hi]at h;cases h
  |some r =>
   obtain⟨T,u⟩:=r;rw[hi]at h;dsimp only at h;by_cases hc:X1 word u=true
   .rw[yK hc]at h;exact((Cm hs h).trans (Sub.tail u)).trans (hs _ _ _ hi)
   .rw[yv hc]at h;cases h;exact hs _ _ _ hi
def zmq{t:List Wd}(h:RJ ws=some (T,t)):Sub t ws:=by
 unfold RJ Nq at h;cases a:bd [97,110,100] VJ (ws.length+1) [] ws with
 |none=>rw[a]at h;cases h
 |some r =>
  obtain⟨ts,u⟩:=r;rw[a]at h;cases h;exact Cm (λus T t h=>SJ h) a
def sN(p pv:Nat)(ws:List Wd)(w:z8)(hp:dB w p ws)(hx:∀x∈ws,Nr x)(g:RT p w)(k:ws.length<=1000)(hc:zk w pv 0 (p,0)) :
  zE Tryz.prog 125 #[(pv,0)] w (V1 p (RJ ws) w):=by
 have l:∀(fn:Fn) (first cap:Array zx) (w:z8),(qA fn first cap).run Tryz.prog w = .ok (.func fn first cap) w:=λ_ _ _ _=>rfl
 have hr:=ng p [97,110,100] allT VJ _ _ ws w hp hx k ykb (yj0 p w g) (λus T t h=>SJ h);have j:=Z hr;clear hr hp hx g;go_enter func125,ntmps125;go_wp2_with fail;refine j.o.mono ?_;rintro e w1 ⟨b,hb⟩;have a:RJ ws=Nq [97,110,100] allT VJ ws:=rfl;cases hn:Nq [97,110,100] allT VJ ws with
 |none =>
  rw[hn]at b;obtain rfl:=b;have c:=Z (a.trans hn);clear hn a;go_wp2;refine⟨rfl,?_,hb⟩;rw[c.o]
 |some q =>
  obtain⟨T,t⟩:=q;rw[hn]at b;obtain⟨⟨v,rfl,i⟩,hp⟩:=b;have c:=Z (a.trans hn);have f:=Z i;have d:=Z hp;clear hn i hp a;go_wp2;go_ret;refine⟨?_,hb⟩;rw[c.o];exact⟨⟨_,rfl,f.o⟩,d.o⟩
structure nZ(w:z8):Prop where
 s:∃t v,zk w 8 0 (.iface t v)
 r:∃t v,zk w 9 0 (.iface t v)
def nZ.below(h:nZ w)(hb:zR w w'):nZ w':=by
 obtain⟨⟨t,v,hs⟩,⟨t2,v2,hr⟩⟩:=h;exact⟨⟨t,v,(hb.cell (X w _ hs)).trans hs⟩,⟨t2,v2,(hb.cell (X w _ hr)).trans hr⟩⟩
def nZ.at(h:nZ w)(hb:zR w w')(hp:(w:Nat)<=p):RT p w':=by
 have h2:=h.below hb;obtain⟨⟨t,v,hs⟩,⟨t2,v2,hr⟩⟩:=h;have a:=X w _ hs;have b:=X w _ hr;dsimp only at a b;exact⟨h2.s,h2.r,J,J⟩
def xmg(r:Option gy)(w:z8)(e:xX)(w':z8):Prop :=
 (match r with|none=>e = .returned .nilFunc|some T=>∃v,e = .returned v/\j9 (w:Nat) (w':Nat) w' v T)/\zR w w'
def SG{base:Nat}(h:w.ownsRow base 9 1 v ws.length (ws.map zO))(o:Obj):dB ((w.alloc (.cells #[v] 264)).alloc o) (w:Nat) ws:=by
 have hb:yE w w ((w.alloc (.cells #[v] 264)).alloc o):=((zu _ _).alloc (Y _) _).alloc zV _;have b:(w:Nat)<(w.alloc (.cells #[v] 264)).heap.size:=zV;have hc:zk ((w.alloc (.cells #[v] 264)).alloc o) (w:Nat) 0 v:=by
  rw[zc _ _ _ b];exact zx7
 have i:((w.alloc (.cells #[v] 264)).alloc o).frozen? (w,0)=false:=by
  rw[zU (xQ _ _ _ b)];simp
 have f:ws.length=ws.length:=rfl;rcases h.2 with⟨hv,h0⟩|⟨g,cap,c,hv,l,d,h1,h2,k,m⟩
 .subst hv;have hw:ws=[]:=zN h0;subst hw;exact⟨none,0,hc,i,Y _,zJ _,λj e=>absurd e (ZH j)⟩
 .subst hv;have a:g<(w:Nat):=by
   rcases ud g (w:Nat)with q|q
   .exact q
   .rw[jA J]at d;cases d
  refine⟨some ⟨g,0,none⟩,cap,hc,i,h1,h2,λj e=>⟨_,rfl,⟨by show g≠(w:Nat);omega,c,(0,0),(hb.block g a).trans d⟩,?_⟩⟩;rw[ve,hb.cell (p:=⟨g,j,none⟩) a,h.cellAt j J];simp[e]
def zmk(p pv:Nat)(w:z8)(b:RT p w)(hc:vS w pv (p,0))(a:pv≠p):xzu p w (.func (.func 125) #[] #[(pv,0)]) RJ :=
 ⟨_,_,_,rfl,λargs w=>enters_of func125 yg rfl args w,λW ws hb hp hx d=>sN p pv ws W hp hx (b.but hb) d (hc.but hb a).c⟩
def Hn(s:ByteArray)(w:z8)(hs:s.size<=9223372036854775807)(hT:nZ w):zE Tryz.prog 75 #[.string s] w (xmg (IM s.data.toList) w):=by
 have hmf:∀(fn:Fn) (first cap:Array zx) (w:z8),(qA fn first cap).run Tryz.prog w = .ok (.func fn first cap) w:=λ_ _ _ _=>rfl
 obtain⟨r,hr⟩:=zw (IM s.data.toList);rw[hr];unfold IM at hr;rw[vL]at hr;by_cases C:200<s.size
 .rw[yK C]at hr;subst hr;have h1:decide ((200:Int)<(s.size:Int))=true:=by simp;omega
  go_enter_defers func75,ntmps75;go_wp2;refine kI (f:=121) (args:=#[(w,0)]) zV kO ?_;refine(KK (w:Nat) _).mono ?_;rintro e u' VQ ⟨rfl,rfl,rfl⟩;simp[Ur,settle,yN,results75,go_sem];exact⟨rfl,(zu _ _).alloc (Y _) _⟩
 .rw[yv C]at hr;have h1:decide ((200:Int)<(s.size:Int))=false:=by simp;omega
  have htk:=λW=>eQ s W J
  have HTK:=Z htk;have HR:=Z hr;have HT:=Z hT;clear htk hr hT;go_enter_defers func75,ntmps75;go_wp2_with fail;have F1:∃W,W=w.alloc (.cells #[.nilFunc] 177)/\zR w W/\vS W (w:Nat) .nilFunc/\W.heap.size=(w:Nat)+1:=⟨_,rfl,(zu _ _).alloc (Y _) _,vS.made _ _ _ zW,zV⟩;obtain⟨W,hW,R,cB,hsW⟩:=F1;rw[<-hW];clear hW;refine(HTK.o W).mono ?_;rintro e w2 ⟨B,F⟩;have j:zR w w2:=R.trans (F.mono R.size);have n:vS w2 (w:Nat) .nilFunc:=cB.but (p:=(w2:Nat)) (xN.of F) (by have:=cB.lt;have:=F.size;omega);cases hn:aW s.data.toList with
  |none =>
   rw[hn]at B;obtain rfl:=B;have d:r=none:=(by rw[<-HR.o,hn]);have l:=Z d;clear hn d;refine kI (f:=121) (args:=#[(w,0)]) zV kO ?_;refine(Ce (w:Nat) _ [] _ n.c n.z).mono ?_;rintro e u' VQ ⟨rfl,rfl,rfl⟩;have b:zk ((w2.setCell (w,0) .nilFunc).alloc (.cells #[] 259)) (w:Nat) 0 .nilFunc:=by
    rw[zc _ _ _ (by simpa[xu]using n.lt),qY (h:=n.c)]
   simp[Ur,settle,yN,results75,go_sem,b];refine⟨?_,(j.setCell (Y _) _).alloc (by simpa[xu]using j.size) _⟩;rw[l.o]
  |some ws =>
   rw[hn]at B;obtain⟨v,rfl,A⟩:=B;obtain⟨IQ,hlen⟩:=ykd hn GQ;have HN:=Z hn;obtain⟨a,cap,rfl⟩:=zo A;have F3:∃u,u=(w2.alloc (.cells #[.slice a ws.length cap] 264)).alloc (.cells #[(zQ (w2:Nat) 0)] 261)/\zR w2 u/\dB u (w2:Nat) ws/\vS u ((w2:Nat)+1) (zQ (w2:Nat) 0)/\u.heap.size=(w2:Nat)+2:=by
    refine⟨_,rfl,((zu _ _).alloc (Y _) _).alloc zV _,SG A _,?_,zV⟩;have hs:(w2.alloc (.cells #[.slice a ws.length cap] 264)).heap.size=(w2:Nat)+1:=zV;exact AD
   obtain⟨u,P,Q,I,N,V⟩:=F3;have xcf:=n.lt;have cB3:vS u (w:Nat) .nilFunc:=n.but (p:=(u:Nat)) (xN.of Q) J;have y:zR w u:=j.trans (Q.mono j.size);have O:RT (w2:Nat) u:=HT.o.at y j.size;have D:=ng (w2:Nat) [111,114] Zn RJ _ _ ws u I IQ J zmv (zmk (w2:Nat) ((w2:Nat)+1) u O N J) (λus T t h=>zmq h);have L:=Z D;have M:=Z V;have HP3:=Z I;clear hn A D O V I IQ;go_wp2_with fail;rw[<-P];clear P;refine L.o.mono ?_;rintro e K ⟨B,G⟩;have hPB:(w:Nat)≠(w2:Nat):=J;have g:=cB3.but G hPB;have cP4:=N.but G J;have m:zR w K:=y.trans (G.low J y.size);cases hn:Nq [111,114] Zn RJ ws with
   |none =>
    rw[hn]at B;obtain rfl:=B;have d:r=none:=(by rw[<-HR.o,HN.o];show(match pOr ws with|some (T,[])=>some T|_=>none)=none;unfold pOr;rw[hn]);have l:=Z d;clear hn d;refine kI (f:=121) (args:=#[(w,0)]) zV kO ?_;refine(Ce (w:Nat) _ [] _ g.c g.z).mono ?_;rintro e u' VQ ⟨rfl,rfl,rfl⟩;have b:zk ((K.setCell (w,0) .nilFunc).alloc (.cells #[] 259)) (w:Nat) 0 .nilFunc:=by
     rw[zc _ _ _ (by simpa[xu]using g.lt),qY (h:=g.c)]
    simp[Ur,settle,yN,results75,go_sem,b];refine⟨?_,(m.setCell (Y _) _).alloc (by simpa[xu]using m.size) _⟩;rw[l.o]
   |some q =>
    obtain⟨T,t⟩:=q;rw[hn]at B;obtain⟨⟨v,rfl,ht⟩,S⟩:=B;have U:pOr ws=some (T,t):=hn;have HPO:=Z U;have Px:=Z ht;have ul5:=S.lt;obtain⟨E,i,rfl,_⟩:=ht;obtain⟨a4,c4,e1,e2,e3,e4,e5⟩:=S;have yB:=g.c;have yBz:=g.z;have yP:=cP4.c;have hBt:(w:Nat)<(K:Nat):=g.lt;clear hn U e5;cases t with
    |nil =>
     have d:r=some T:=zu1;have l:=Z d;clear d;go_wp2;refine kI (f:=121) (args:=#[(zQ (w:Nat) 0)]) zV kO ?_;refine(KK (w:Nat) _).mono ?_;rintro e u' VQ ⟨rfl,rfl,rfl⟩;have cF:=(g.same (.func (.func E) #[] i)).same (.func (.func E) #[] i);have H:yE w w ((K.setCell (zQ (w:Nat) 0) (.func (.func E) #[] i)).setCell (zQ (w:Nat) 0) (.func (.func E) #[] i)):=(m.setCell (Y _) _).setCell (Y _) _;have b:=cF.c;simp[Ur,settle,yN,results75,go_sem,b];refine⟨?_,H⟩;rw[l.o];have Z0:((K.setCell (zQ (w:Nat) 0) (.func (.func E) #[] i)).setCell (zQ (w:Nat) 0) (.func (.func E) #[] i)).heap.size=(K:Nat):=(by simp[xu]);exact⟨_,rfl,Px.o.keep ⟨by rw[Z0];exact Y _,λk k1 k2=>by
      have hk:k≠(w:Nat):=(by have:=M.o;omega);rw[yX _ _ _ _ hk,yX _ _ _ _ hk]⟩ (by have:=M.o;omega) (by rw[Z0];exact Y _)⟩
    |cons x t' =>
     have d:r=none:=zu1;have l:=Z d;clear d;go_wp2;refine kI (f:=121) (args:=#[(zQ (w:Nat) 0)]) zV kO ?_;refine(KK (w:Nat) _).mono ?_;rintro e u' VQ ⟨rfl,rfl,rfl⟩;have cF:=(g.same (.func (.func E) #[] i)).same .nilFunc;have H:yE w w ((K.setCell (zQ (w:Nat) 0) (.func (.func E) #[] i)).setCell (zQ (w:Nat) 0) .nilFunc):=(m.setCell (Y _) _).setCell (Y _) _;have b:=cF.c;simp[Ur,settle,yN,results75,go_sem,b];refine⟨?_,H⟩;rw[l.o]
variable{S:List (Nat×gy)}{hi' lo':Nat}
def Dd(lo hi:Nat)(w:z8)(a:Option yI)(S:List (Nat×gy)):Prop :=
 ∀j (h:j<S.length),∃g o v,a=some ⟨g,o,none⟩/\zk w g (o+j*2) (.int .i64 S[j].1)/\zk w g (o+j*2+1) v/\lo<=g/\g<hi/\j9 lo hi w v S[j].2
def Dd.keep{a:Option yI}(h:Dd lo hi w a S)(b:vx lo hi w w')(h1:lo'<=lo)(h2:hi<=hi'):Dd lo' hi' w' a S:=λj l=>by
 obtain⟨g,o,v,e,f,i,c,d,k⟩:=h j l;exact⟨g,o,v,e,(b.cell (p:=⟨g,_,none⟩) c d).trans f,(b.cell (p:=⟨g,_,none⟩) c d).trans i,J,J,k.keep b h1 h2⟩
def nY(S:List (Nat×gy))(x:Dg):Nat:=match S.find? (λq=>q.2 x) with|some q=>q.1|none=>5
def Nw(S:List (Nat×gy))(a:Option yI)(c:Nat)(nv:zx)(x:Dg)(lo hi:Nat)(w:z8)(hl:S.length<=1000000)(ht:Dd lo hi w a S)(I:hi<=(w:Nat))(hn:q9 w nv x) :
  zE Tryz.prog 38 #[.slice a S.length c,nv] w λe w'=>e = .returned (.int .i64 (nY S x))/\zR w w':=by
 have HN:=Z hn;obtain⟨T,g,go,cap,n',k',rfl⟩:=hn.form;have F:∃W,W=w.alloc (.cells #[.bool T,.slice (g,go) n' cap,k'] 99)/\zR w W/\W.heap.size=(w:Nat)+1/\Nl W (w:Nat) (.agg #[.bool T,.slice (g,go) n' cap,k']) :=
  ⟨_,rfl,(zu _ _).alloc (Y _) _,zV,⟨zV,_,_,_,rfl,uK,uK,uK⟩⟩
 obtain⟨W,V,t,hs,C⟩:=F;have HT:=Z (ht.keep (vY t I I) (Y _) (Y _));have O:=Z (HN.o.below t);have d:hi<=(W:Nat):=J;clear ht hn;go_enter func38,ntmps38;go_wp2_with fail;rw[<-V];clear V;obtain⟨B,hB⟩:∃B,B=(w:Nat):=⟨_,rfl⟩;rw[<-hB]at C|-;have mG:=Z hB;clear hB;go_loopw [9] (λi wr=>∃k:Nat,k<=S.length/\i = .int .i64 k/\(S.take k).find? (λq=>q.2 x)=none/\zR W wr) (λi _=>S.length - (intOf i).toNat)
 case atStart=>exact⟨0,zJ _,rfl,rfl,zu _ _⟩
 case round =>
  obtain⟨k,hk,rfl,y,b⟩:=hrel;have M:=Z y;clear y;have f:zR w wr:=t.trans (b.mono J);by_cases u:k<S.length
  .obtain⟨ga,o,v,rfl,D,E,h1,h2,U⟩:=HT.o k u;have H:ga<(W:Nat):=(by omega);have U5:=(b.cell (p:=(ga,o+k*2)) H).trans D;have ul6:=(b.cell (p:=(ga,o+k*2+1)) H).trans E;have P:=vY (lo:=lo) b d d;have z:=U.keep P (Y _) (Y _);have HTR:=Z z;obtain⟨K,N,rfl,p7,j⟩:=z;have m:yE wr wr (wr.alloc (.cells #[.int .i64 S[k].1,.func (.func K) #[] N] 179)):=(zu _ _).alloc (Y _) _;have G:=j (wr.alloc (.cells #[.int .i64 S[k].1,.func (.func K) #[] N] 179)) (vY m (zg d b.size) (zg d b.size)) _ x ((O.o.below b).below m);have HC:=Z G;obtain⟨r,bb,ss,kk,e0,c0,c1,c2⟩:=C.below b;cases e0;have d0:∀o,(wr.alloc o).cell? (B,0)=_:=λo=>(zc _ _ _ r).trans c0
   have d1:∀o,(wr.alloc o).cell? (B,1)=_:=λo=>(zc _ _ _ r).trans c1
   have d2:∀o,(wr.alloc o).cell? (B,2)=_:=λo=>(zc _ _ _ r).trans c2
   have n:=b.trans (m.mono b.size);have h:=f.trans (m.mono f.size);have Q:(wr:Nat)<(wr.alloc (.cells #[.int .i64 S[k].1,.func (.func K) #[] N] 179)).heap.size:=zV;have a0:zk (wr.alloc (.cells #[.int .i64 S[k].1,.func (.func K) #[] N] 179)) (wr:Nat) 0 (.int .i64 S[k].1):=zZ _ _ _ _ _;clear D E U j G;go_wp2_with fail;refine HC.o.mono ?_;rintro e w1 ⟨rfl,s⟩;have OM:=n.trans (s.mono n.size);have A:zR w w1:=h.trans (s.mono h.size);have a1:=(s.cell (p:=(wr,0)) Q).trans a0;cases l:S[k].2 x
   .have L:(S.take (k+1)).find? (λq=>q.2 x)=none:=by
     rw[yj u,zr6,M.o];simp[l]
    have HF:=Z L;clear l L;exact AK
   .have hf:nY S x=S[k].1:=by
     have h1:S.find? (λq=>q.2 x)=some S[k]:=by
      have R:S=S.take k++S[k]::S.drop (k+1):=(by rw[<-yd u,fY]);have h2:=congrArg (List.find? (λq=>q.2 x)) R;rw[zr6,M.o,Option.none_or,List.find?_cons_of_pos (p:=λq:Nat×gy=>q.2 x) l]at h2;exact h2
     unfold nY;rw[h1]
    have HF:=Z hf;clear l hf;go_wp2;go_ret;exact⟨gJ,A⟩
  .obtain rfl:k=S.length:=(by omega);have y:=M.o;rw[YP]at y;have hf:nY S x=5:=(by unfold nY;rw[y]);have HF:=Z hf;clear y M hf;go_wp2;go_ret;exact⟨gJ,f⟩
variable{gr mi po:Int}{c fi:Nat}
def xmf(mi po gr:Int)(fi ne:Nat)(ds:List Int)(Sc So:List (Nat×gy)):jY Unit :=
 ⟨λn=>Vm n.1 (xB (n.2.1++n.2.2)) n.2.2.length mi po gr fi ne ds,λb d=>nY (if b then So else Sc) d,λ_ u=>(.no,u)⟩
def xzg{g:Nat}{ne:Nat}{ds:List Int}{f So:List (Nat×gy)}{a a':Option yI}{c':Nat}(y:Hd w g mi po gr fi ne ds)(z:g<(w:Nat))(m:I32 mi/\I32 po/\I32 gr/\∀x∈ds,I32 x)(p:fi<=255)(q:0<fi->0<ne)(i:ne<=255)
  (g0:zk w g 0 (.slice a f.length c)) (g1:zk w g 1 (.slice a' So.length c')) (t:f.length<=1000000/\So.length<=1000000) (hc:Dd lo hi w a f) (A:Dd lo hi w a' So) (e:hi<=(w:Nat))
  (s:∀n:uL,Ng n.2->(Vm n.1 (xB (n.2.1++n.2.2)) n.2.2.length mi po gr fi ne ds).length<=5000) (r:∀b d,nY (if b=true then So else f) d<6):xzz w g (xmf mi po gr fi ne ds f So):=by
 refine⟨λW l n hf hn=>?_,s,⟨_,_,λW hf=>⟨hf.cell g0 id,hf.cell g1 id⟩,λW l d hf hn=>?_,λW l d hf hn=>?_⟩,r⟩
 .obtain⟨gd,o,cap,rfl,h2,B,-,⟨c0,u⟩,v,k⟩:=hn;have j:=hf.size;refine Io g gd o cap n.2.2.length _ n.1 (xB (n.2.1++n.2.2)) mi po gr fi ne ds W (y.below (KV hf) z) J v (X _ _ u) GM J h2 ?_ ?_ m p q i
  .have:=k.C9;have:=k.Dk;omega
  .exact rG (by rw[uJ,k.zcb,k.zk8];rfl)
 .have j:=hf.size;have h:=Nw f a c l d lo hi W t.1 (hc.keep (vY (KV hf) e e) (Y _) (Y _)) J hn;exact h
 .have j:=hf.size;have h:=Nw So a' c' l d lo hi W t.2 (A.keep (vY (KV hf) e e) (Y _) (Y _)) J hn;exact h
def By(r:Int):(yi r).length<=4:=by
 unfold yi;rw[vU];unfold TE;repeat' split
 all_goals simp
def Cn{f:Nat->List UInt8}(h:∀i,(f i).length<=c):∀k,((xH k).flatMap f).length<=k*c
 | 0=>zV
 |k+1=>by
  have:=Cn h k;have h2:=h k;simp only[List.range_succ,yh,zy,List.flatMap_singleton,Nat.succ_mul];omega
def SF(ds l:List Int)(k:Nat):(B3 ds l k).length<=4:=by
 unfold B3;first|exact By _|(split<;>first|exact By _|simp)
def eK(a:Bool)(l:List Int)(sc:Nat)(mi po gr:Int)(fi ne:Nat)(ds:List Int)(h:l.length<=200)(hs:sc<=200):(Vm a l sc mi po gr fi ne ds).length<=5000:=by
 unfold Vm;have h1:(if a=true then yi mi else []).length<=4:=Wi;have h2:(VC gr fi ne ds (l.take (l.length - sc)) (l.length - sc)).length<=(l.length - sc)*8:=by
  unfold VC;refine Cn (λi=>?_) _;have:=SF ds (l.take (l.length - sc)) i;rw[zy];have b:(if (decide (0<i) && Ys gr fi ne ((l.take (l.length - sc)).length - i))=true then yi gr else []).length<=4:=Wi;omega
 have b:(fS po ds (l.drop (l.length - sc)) sc).length<=sc*8:=by
  unfold fS;refine Cn (λi=>?_) _;have:=SF ds (l.drop (l.length - sc)) i;rw[zy];have b:(if (i==0)=true then yi po else []).length<=4:=Wi;omega
 rw[zy,zy];omega
variable{s:MkS}{mb:Nat}{F F':Nat->Prop}{kv tv vC vI:zx}
def jS.fr{b:Nat}{f:Nat->Option Nat}(h:jS w b n f)(hf:Fr F F' w w')(hb:¬F b):jS w' b n f:=h.keep (hf.keep b h.lt hb)
def YH(cs:List Wd)(op:Nat):Nat->List Nat->Bool
 |_,[]=>true
 |j,k::r=>decide (k<cs.length) && (decide (j≠0) ||decide ((uA op).head?≠some 110) ||kK (cs.getD k [])) && YH cs op (j+1) r
def Lk(cs:List Wd)(op:Nat):∀(r:List Nat) (j:Nat),j≠0->YH cs op j r=r.all (λk=>decide (k<cs.length))
 |[],_,_=>rfl
 |k::r,j,h=>by
  rw[YH,Lk cs op r (j+1) J];simp[h]
def O0(cs:List Wd)(i:uF):Xv cs i=(YH cs i.op 0 i.k && decide (i.v<=999999999)):=by
 unfold Xv;cases i.k with
 |nil=>simp[YH]
 |cons k r =>
  rw[YH,Lk cs i.op r 1 zW];simp only[u7];cases decide (k<cs.length)<;>cases r.all (λk=>decide (k<cs.length))<;>simp
def sO{g o:Nat}{rs:List (zx×zx)}{i:uF}(h:uf q s vC vI rs mb w)(hi:IC w g o i kv tv)(W:i.op<12)(V:i.k≠[]->uA i.op≠[])(hF:qg w)(hk:∀x∈i.k,x<=4000000000)(hv:i.v<=4294967295)(hc:∀c∈s.cs,c.length<=1000)(T:i.k.length<=1000000) :
  zE Tryz.prog 101 #[(q,0),(g,o)] w λe w'=>e = .returned (.bool (Xv s.cs i))/\Fr yH yH w w':=by
 obtain⟨a,cap,rfl⟩:=hi.k.slice;have c3:=hi.c3;have c2:=hi.c2;have c0:=hi.c0;obtain⟨n,hn⟩:=zw i.k.length;rw[hn]at c3 T;have z:=Z (zf h (zf hi hF));have HN:=Z hn;clear h hi hF hn;go_enter func101,ntmps101;go_wp2_with fail;go_loopw [12] (λiv wr=>∃j,j<=n/\iv = .int .i64 (j:Nat)/\YH s.cs i.op 0 i.k=YH s.cs i.op j (i.k.drop j)/\Fr yH yH w wr) (λiv _=>n - (intOf iv).toNat)
 case atStart=>exact⟨0,zJ _,rfl,rfl,Fr.refl _ _⟩
 case round =>
  obtain⟨j,hj,rfl,he,hf⟩:=hrel;by_cases U:j<n
  .have l:j<i.k.length:=(by rw[HN.o];exact U);have S:(j:Int)<(n:Int):=J;obtain⟨x,hx⟩:=zw (i.k[j]);have hd:i.k.drop j=x::i.k.drop (j+1):=(by rw[<-hx];exact yd l);have d:=Z (zf (show YH s.cs i.op 0 i.k=YH s.cs i.op j (x::i.k.drop (j+1))by rw[he,hd]) hf);clear he hf hd;obtain⟨a2,GJ,f,N,O,G⟩:=z.o.2.1.k.ex;obtain⟨b,rfl,hb⟩:=(by cases f;exact G j l:∃b,a=some b/\w.cell? (b.add j)=some (.int .i64 i.k[j]));rw[hx]at hb;have M:=d.o.2.cell hb id;have c0r:=d.o.2.cell c0 id;have q0r:=d.o.2.cell z.o.1.q0 id;obtain⟨m,hm⟩:=zw s.cs.length;obtain⟨pa,pc,rfl⟩:∃pa pc,vC = .slice pa m pc:=by
    rcases z.o.1.cC.2 with⟨e,e2⟩|⟨g',D,cur,e,-⟩
    .exact⟨none,0,by rw[e,<-hm];have:=e2;simp_all⟩
    .exact⟨_,_,by rw[e,<-hm]⟩
   clear f N O G hb;by_cases hxm:m<=x
   .have hxi:(m:Int)<=(x:Int):=(by omega);have L:=Z (show Xv s.cs i=false by rw[O0,d.o.1,YH,decide_eq_false (show ¬x<s.cs.length by omega)];simp);go_wp2;go_ret;rw[L.o];exact⟨rfl,d.o.2⟩
   .have hxi:¬(m:Int)<=(x:Int):=(by omega);by_cases I:j=0
    .subst I;obtain⟨c,F,u⟩:∃c F,uA i.op=c::F:=by
      cases hf:uA i.op with
      |nil=>exact absurd hf (V (λe=>by rw[e]at l;simp at l))
      |cons c F=>exact⟨c,F,rfl⟩
     have R:=d.o.2.cell (z.o.2.2 i.op W) id;rw[u]at R;have PK:0<m:=J;have P:∃g',pa=some ⟨g',0,none⟩/\zk wr g' x (zO (s.cs.getD x [])):=by
      obtain⟨g',D,e1,-,-,e3⟩:=xY z.o.1.cC J;cases e1;refine⟨g',rfl,d.o.2.cell ?_ id⟩;rw[e3 x J];simp[show x<s.cs.length by omega]
     obtain⟨g',rfl,Q⟩:=P;have E:=M;have e0:b.add 0=b:=(by cases b;rfl);rw[e0]at E;have A:=Z u;clear u;by_cases r:c=110
     .subst r;have y:x<s.cs.length:=(by omega);have K:(s.cs.getD x []).length<=5000000:=by
       rw[zA,zj y];have:=hc _ (yf y);show(s.cs[x]).length<=5000000;omega
      have C:=Z (L7 (s.cs.getD x []) wr K);have p:=Z (show YH s.cs i.op 0 i.k=(kK (s.cs.getD x []) && YH s.cs i.op (0+1) (i.k.drop (0+1)))by rw[d.o.1,YH,A.o,decide_eq_true y];simp);obtain⟨t,ht⟩:=zw (s.cs.getD x []);rw[ht]at C p Q;clear K ht;go_wp2_with fail;refine C.o.mono ?_;rintro e w5 ⟨rfl,H⟩;have B:=Z (d.o.2.trans H);clear H;cases hb:kK t
      .have L:=Z (show Xv s.cs i=false by rw[O0,p.o,hb];simp);go_wp2;go_ret;rw[L.o];exact⟨rfl,B.o⟩
      .rw[hb,jd]at p;go_wp2;go_roundw
       case rel=>exact⟨0+1,J,rfl,p.o,B.o⟩
       case measure=>simp only[intOf];omega
     .have p:=Z (show YH s.cs i.op 0 i.k=YH s.cs i.op (0+1) (i.k.drop (0+1))by rw[d.o.1,YH,A.o,decide_eq_true (show x<s.cs.length by omega)];simp[r]);have hcn:¬(c.toNat:Int)=110:=λe=>r (Xf.1 (by show c.toNat=110;omega))
      go_wp2;all_goals go_roundw
      case rel=>exact⟨0+1,J,rfl,p.o,d.o.2⟩
      case measure=>simp only[intOf];omega
    .have OE:((j:Int)=0)=False:=(by simp;omega);have p:=Z (show YH s.cs i.op 0 i.k=YH s.cs i.op (j+1) (i.k.drop (j+1))by rw[d.o.1,YH,decide_eq_true (show x<s.cs.length by omega)];simp[I]);go_wp2;go_roundw
     case rel=>exact⟨j+1,J,uN,p.o,d.o.2⟩
     case measure=>simp only[intOf];omega
  .have S:¬(j:Int)<(n:Int):=(by omega);have hdr:i.k.drop j=[]:=bp (by rw[HN.o];omega);have d:=Z (show Xv s.cs i=decide (i.v<=999999999)by rw[O0,he,hdr];simp[YH]);have c2:=hf.cell c2 id;have HF:=Z hf;obtain⟨v,f⟩:=zw i.v;rw[f]at d c2;clear he hf hdr f z;go_wp2;go_ret;rw[d.o];refine⟨?_,HF.o⟩;show Ending.returned (.bool (decide ((v:Int)<=999999999)))=_;rw[show decide ((v:Int)<=999999999)=decide (v<=999999999)from decide_eq_decide.2 J]
variable{I d op:Nat}
def tgN(l:List uF):Nat:=(l.map λi=>i.tg.length+1).sum
def Db(code:List uF)(k:Nat)(i:uF):List (Option Nat):=(if ey i.op=true then [some (k+1)]else [])++i.tg.map (qp code code.length)
def zmj(l:List (Option Nat)):List zx:=l.map λo => .int .i64 (CZ o)
def jS.zmg{b:Nat}{f:Nat->Option Nat}(h:jS w b n f) :
  ∃(c:Int) (t:Bool),(Jr 82 (.map (some b)) (.int .i64 (-1)) true).run Tryz.prog w = .ok (.tuple #[c,.bool t]) w:=by
 obtain⟨D,h1,d⟩:=h;obtain⟨v,ps,a,hv⟩:=h1.look_ok (vz2 underlying3) underlying82 (z := .int .i64 0) K1 (bG underlying3 zW)
  (key := .int .i64 (-1)) (yev underlying3 zW)
 obtain⟨c,rfl,hc,_⟩:=plainElem_int_inv underlying3 hv;exact⟨c,_,a⟩
def sP(n:Nat)(w:z8)(hn:n<=2000000):∃w',(Instr.makeSlice 85 (.int .i64 0) (n:Int)).run Tryz.prog w = .ok (.slice (w,0) 0 n) w'/\w'.ownsRow 0 3 1 (.slice (w,0) 0 n) 0 []/\Fr yH yH w w':=by
 obtain⟨i,hi,d,h2,h3⟩:=qw.info;obtain⟨w',hr,c,a⟩:=run_make_own (P:=Tryz.prog) w 0 85 3 i _ 1 qw.under hi d h2 .i64 .i64 n GL dS (zJ _);exact⟨w',hr,c,a.os,a.tape,a.output,a.size,λk b _=>a.block k b zV,λ_ q=>q.elim⟩
def inV(op:Nat):Bool:=decide (5<=op/\op<=9)
def DZ(b:Bool)(d:Nat):Bool:=decide ((b=true/\d=0)\/6<d)
def yj1{d1:Nat}(h0:op=0->d=0)(h1:d1=if op=4 then d+1 else d):jU op d=if DZ (inV op) d1=true then none else some (if op=5 then d1 - 1 else d1):=by
 subst h1;unfold jU DZ inV;simp only[decide_eq_true_eq];by_cases a:op=0
 .obtain rfl:=h0 a;subst a;simp
 by_cases b:op=4
 .subst b;simp
 by_cases c:5<=op/\op<=9
 .simp[a,b,c]
 .simp only[a,b,c,if_false,decide_false,OG,false_and,false_or];rw[yv (show ¬op=5 by omega)]
def uf.fr{rs:List (zx×zx)}(h:uf q s vC vI rs mb w)(hf:Fr yH F' w w'):uf q s vC vI rs mb w' :=
 ⟨hf.cell h.q0 id,hf.cell h.q1 id,hf.cell h.q2 id,hf.own h.cC (λ_ _=>id),hf.own h.cI (λ_ _=>id),h.rows.fr hf (λ_ q=>q.elim),h.mp.fr hf id⟩
def zeq.at_{x:uF}{a:Nat}(h:zeq q k x I n a kv tv w)(hp:zk w I (k*5+1) x.pos)(hf:Fr yH F' w w'):IC w' I (k*5) x kv tv :=
 ⟨hf.cell h.op id,hf.cell hp id,hf.cell h.v id,hf.cell h.kc id,hf.cell h.tc id,uk.pC (hf.own h.kr (λ_ _=>id)),uk.pC (hf.own h.tr (λ_ _=>id))⟩
def uf.vi2{rs:List (zx×zx)}{x:uF}(h:uf q s vC vI rs mb w)(b:s.code[k]? = some x):∃I d kv tv,zeq q k x I s.code.length d kv tv w/\zk w I (k*5+1) x.pos:=by
 have i:=(zD.1 b).1;obtain⟨I,d,kv,tv,f⟩:=h.ins b;obtain⟨l,j,c,-,g,a⟩:=xY h.cI J;have e:=f.q1.symm.trans h.q1;rw[c]at e;cases e;obtain⟨r,hr⟩:∃r,rs[k]? = some r:=⟨_,zj GI⟩;exact⟨I,d,kv,tv,f,by rw[a _ J,Jx _ _ h.rows.len k 1 x r b hr J];rfl⟩
def xmd{F:Wd}{a b:Nat}(h:Hc F a b=true):∀l:List Nat,l.length=a->l≠[]->F≠[]:=λl e n q=>by
 subst q;cases l with
 |nil=>exact n rfl
 |cons y l=>subst e;simp[Hc]at h
def O1{rs:List (zx×zx)}(h:uf q s vC vI rs mb w)(hX:∀i∈s.code,cT i)(hF:qg w)(hc:∀c∈s.cs,c.length<=1000)(hn:s.code.length<=65535)(ht:tgN s.code<=1000000) :
  zE Tryz.prog 60 #[(q,0)] w λe w'=>e = .returned (.bool (fg s.cs s.code))/\Fr yH yH w w':=by
 have q1:=h.q1;obtain⟨n,S⟩:=zw s.code.length;obtain⟨pa,pc,rfl⟩:∃pa pc,vI = .slice pa n pc:=by
  rcases h.cI.2 with⟨e,e2⟩|⟨g',rY,cur,e,-⟩
  .exact⟨none,0,by rw[e,<-S];have:=e2;simp_all⟩
  .exact⟨_,_,by rw[e,<-S]⟩
 have HH:=Z (zf h (zf hX (zf hF hc)));clear h hX hF hc;have Ew:=@run_makeMap Tryz.prog;have hM0:=jS.made w;obtain⟨W,hu,hM,hg⟩:=hM0.put 0 zW 0 zW zW;have hu2:(TJ 82 (.map (some (w:Nat))) (.int .i64 0) (.int .i64 0)).run Tryz.prog (w.alloc (.map #[] 0)) = .ok () W:=hu;clear hu;obtain⟨M,hMs⟩:=zw (w:Nat);have hfM:Fr yH (· = M) w W:=by
  have hb:yE w w (w.alloc (.map #[] 0)):=(zu _ _).alloc (Y _) _;exact⟨hg.os.trans hb.os,hg.tape.trans hb.tape,hg.output.trans hb.output,zg hb.size hg.size,λk hk _=>(hg.block k (zC hk hb.size) (λe=>by cases e;exact qV _ hk)).trans (hb.block k hk),λk q => .inr (by rw[q,hMs];exact Y _)⟩
 rw[hMs]at hM hu2;have HMS:=Z hMs;have HM:=Z (zf hM hfM);have q1':=hfM.cell q1 id;have HN:=Z S;have hV0:fg s.cs s.code=UO s.cs s.code 0 (s.code.drop 0) (λx=>if 0=x then some 0 else none):=rfl;have HV0:=Z hV0;have HT:=Z ht;rw[S]at hn;clear hM0 hM hfM hV0 hg S ht;go_enter func60,ntmps60;go_wp2_with fail;clear hu2 Ew;go_loopw [24] (λkv wr=>∃(k cnt:Nat) (D:Nat->Option Nat),kv = .int .i64 k/\k<=n/\jS wr M cnt D/\cnt+tgN (s.code.drop k)<=1000001/\fg s.cs s.code=UO s.cs s.code k (s.code.drop k) D/\(∀y e,D y=some e->e<=6)/\Fr yH (· = M) w wr) (λkv _=>n - (intOf kv).toNat)
 case atStart=>exact⟨0,1,_,rfl,zJ _,HM.o.1,by have:=HT.o;simp;omega,HV0.o,λy e he=>by split at he<;>cases he;omega,HM.o.2⟩
 case round =>
  obtain⟨k,cnt,D,rfl,hk,hm,l,hv,hD,hf⟩:=hrel;have HF:=Z hf;have q1r:=hf.cell q1 id;by_cases uh:k<n
  .have hkn:(k:Int)<(n:Int):=(by omega);have lh:k<s.code.length:=Vv;obtain⟨x,hx⟩:=zw (s.code[k]);have IQ:s.code[k]? = some x:=(by rw[<-hx];exact zj lh);have hd:s.code.drop k=x::s.code.drop (k+1):=(by rw[<-hx];exact yd lh);have HXM:=Z (HH.o.2.1 x (ze IQ));obtain⟨I,ic,kv,tv,hI,hIp⟩:=HH.o.1.vi2 IQ;rw[hd]at l hv;obtain⟨HCN,HV,HDD,HMM⟩:=hdd l hv hD hm;have hI1:=hI.q1;have hpa:pa=some ⟨I,0,none⟩:=(by have:=hI1.symm.trans q1;cases this;rfl);subst hpa;have TO:=hm.look k J;have HIM:=Z (zf hI hIp);obtain⟨o,u⟩:=zw (D k);rw[u]at TO;have HO:=Z u;clear hf hm l hv hD hx IQ hd hI hIp u hI1;cases o with
   |none =>
    have HB:=Z (show fg s.cs s.code=false by rw[HV.o,UO,HO.o]);exact zq6
   |some d =>
    have iB:=HDD.o k d HO.o;have E:=HXM.o;have r:=HIM.o.1.at_ HIM.o.2 HF.o;have HFT:=Z (sO (i:=x) (g:=I) (o:=k*5) (kv:=kv) (tv:=tv) (HH.o.1.fr HF.o) r E.op (xmd E.ex _ rfl) (λop h=>HF.o.cell (HH.o.2.2.1 op h) id) (λy h=>by have:=E.k y h;omega) (by have:=E.v;omega) HH.o.2.2.2 (by have:=E.len;omega));have i0:=r.c0;have HIA:=Z r;clear r;go_wp2_with fail;refine HFT.o.mono ?_;rintro e w5 ⟨rfl,OA⟩;have i05:=OA.cell i0 id;have wP:=Z OA;clear OA i0 q1r;cases hb:Xv s.cs x
    .have HB:=Z (show fg s.cs s.code=false by rw[HV.o,UO,HO.o];simp only[hb,oK]);clear hb;exact zyv
    .have z:=Z (show fg s.cs s.code=match jU x.op d with|none=>false|some d2=>match TA k s.code.length d2 (Db s.code k x) D with|none=>false|some D2=>UO s.cs s.code (k+1) (s.code.drop (k+1)) D2 by rw[HV.o,UO,HO.o];simp only[hb,jd];rfl);clear hb;have h12:=E.op;obtain⟨op,u⟩:=zw x.op;rw[u]at i05 h12 z;have HOP:=Z u;clear u E;go_upto_block 2 with fail
     go_cut [6,8,9]from 25 to 150 (λdv iv ov wc=>∃d1 b,dv = .int .i64 (d1:Nat)/\iv = .bool b/\b=inV op/\(∃c,ov = .bool c/\c=ey op)/\(op=0->d=0)/\d1=(if op=4 then d+1 else d)/\w5=wc)
     case first =>
      by_cases hz:op=0
      .subst hz;by_cases hd0:d=0
       .subst hd0;go_wp2;go_meet
        exact⟨0,_,rfl,rfl,by simp[inV,ey]⟩
       .have hdp:0<d:=(by omega);have hdi:(0:Int)<(d:Int):=J;have HB:=Z (show fg s.cs s.code=false by rw[z.o];simp[jU,hdp]);exact zyv
      .have vi6:op=1\/op=2\/op=3\/op=4\/op=5\/op=6\/op=7\/op=8\/op=9\/op=10\/op=11:=(by omega);rcases vi6 with rfl|rfl|rfl|rfl|rfl|rfl|rfl|rfl|rfl|rfl|rfl;all_goals
        go_wp2;go_meet
       all_goals exact⟨_,_,rfl,rfl,by simp[inV,ey]⟩
     case rest =>
      obtain⟨d1,b,rfl,rfl,hbi,⟨c,rfl,hci⟩,hz,Tw,rfl⟩:=hcut;have G0:=yj1 hz Tw;have hd7:d1<=7:=(by split at Tw<;>omega);rw[G0,<-hbi]at z;have HBI:=Z (zf hbi hci);clear hbi hci;clear hz Tw G0;go_upto_region 28 with fail
      go_cut [77]from 25 to 150 (λbv wc=>bv = .bool (DZ b d1)/\w5=wc)
      case first =>
       clear z HBI;have h0:d1=0\/¬d1=0:=Decidable.em _;by_cases h6:6<d1
       .have h6i:(6:Int)<(d1:Int):=(by omega);have h0i:((d1:Int)==0)=false:=yF;have HE:=Z (λb:Bool=>(show DZ b d1=true by simp[DZ,h6]));exact Wf
       .have h6i:¬(6:Int)<(d1:Int):=(by omega);rcases h0 with h0|h0
        .have h0i:((d1:Int)==0)=true:=(by simp;omega);have HE:=Z (λb:Bool=>(show DZ b d1=b by simp[DZ,h6,h0]));clear h0;exact Wf
        .have h0i:((d1:Int)==0)=false:=(by simp;omega);have HE:=Z (λb:Bool=>(show DZ b d1=false by simp[DZ,h6,h0]));clear h0;exact Wf
      case rest =>
       obtain⟨rfl,rfl⟩:=hcut;by_cases a:DZ b d1=true
       .have HB:=Z (show fg s.cs s.code=false by rw[z.o,yK a]);rw[a];exact zyv
       .rw[bE]at a;rw[a];rw[a,yv zW]at z;obtain⟨d2,Ec⟩:=zw ((if op=5 then d1 - 1 else d1));rw[Ec]at z;have hd5:op=5->1<=d1:=by
         intro h5;have h:=HBI.o.1;rw[h5]at h;rcases xu6 d1 with q|q
         .rw[q,h]at a;simp[DZ,inV]at a
         .exact q
        have xmb:d1<=6:=by
         rcases ud 6 d1 with q|q
         .simp[DZ,q]at a
         .exact q
        have xn0:d2<=6:=(by rw[<-Ec];split<;>omega);have HD2:=Z Ec;have HBD:=Z (zf hd5 (zf xn0 xmb));clear Ec a hd7 xmb hd5 xn0;go_upto_if 82 with fail
        go_cut [6]from 25 to 150 (λdv wc=>dv = .int .i64 d2/\w5=wc)
        case first =>
         by_cases h5:op=5
         .have h5i:((op:Int)==5)=true:=(by simp;omega);have hw:vG.wrap ((d1:Int) - 1)=((d2:Nat):Int):=by
           have:=HD2.o;rw[yK h5]at this;have:=HBD.o.1 h5;have:=HBD.o.2.2;exact Yq
          clear h5;go_wp2;go_meet
          exact⟨rfl,rfl⟩
         .have h5i:((op:Int)==5)=false:=(by simp;omega);have he:d1=d2:=(by have:=HD2.o;rw[yv h5]at this;exact this);subst he;clear h5;go_wp2;go_meet
          exact⟨rfl,rfl⟩
        case rest =>
         obtain⟨rfl,rfl⟩:=hcut;have Vs:=Z (HF.o.over wP.o (λ_ q=>q.elim));have HM5:=Z (HMM.o.fr wP.o id);have r:=HIM.o.1.at_ HIM.o.2 Vs.o;obtain⟨ta,tc,rfl⟩:=r.t.slice;have c4:=r.c4;have HT5:=Z r.t;have l:=HCN.o;obtain⟨m,hm⟩:=zw x.tg.length;have Q9:m+1<=1000001:=(by simp only[tgN,vV,vq9,hm]at l;omega);rw[hm]at c4;have G:=Z hm;obtain⟨w6,Ks,G8,gW⟩:=sP (m+1) w5 J;rw[show((m+1:Nat):Int)=(m:Int)+1 from rfl]at Ks;obtain⟨H,hH⟩:=zw ((if c=true then [some (k+1)]else ([]:List (Option Nat))));have O:=Z hH;have HO6:=Z G8;have HF6:=Z gW;clear r l hm G8 gW hH i05;go_upto_if 92 with fail
         go_cut [10]from 25 to 150 (λtw wc=>wc.ownsRow 0 3 1 tw H.length (zmj H)/\Fr yH (zM tw) w5 wc)
         case first =>
          cases c
          .go_wp2;go_meet
           rw[<-O.o];exact⟨HO6.o,HF6.o.tg (λg hg => .inr AA)⟩
          .go_wp2_with (at_builtin;refine KA qw [_] 1 HO6.o J ?_);intro v7 w7 U Q;have HO7:=Z U;have HF7:=Z (HF6.o.tr Q (λg hg => .inr AA));clear U Q;go_wp2;go_meet
           rw[<-O.o];exact⟨HO7.o,HF7.o⟩
         case rest =>
          obtain⟨hOw,hFw⟩:=hcut;have c4w:=hFw.cell c4 id;have HOW:=Z hOw;have HFw:=Z hFw;clear hOw hFw Ks;go_wp2_with fail;go_loopw [10,103] (λtw jv wr2=>∃j,jv = .int .i64 (j:Nat)/\j<=m/\wr2.ownsRow 0 3 1 tw (H.length+j) (zmj (H++(x.tg.take j).map (qp s.code s.code.length)))/\Fr yH (zM tw) w5 wr2) (λ_ jv _=>m - (intOf jv).toNat)
          case atStart=>exact⟨0,rfl,zJ _,by simpa using HOW.o,HFw.o⟩
          case round =>
           obtain⟨j,rfl,hj,u,A⟩:=hrel;have Va:=Z A;by_cases hjm:j<m
           .have OE:(j:Int)<(m:Int):=(by omega);have lD:j<x.tg.length:=(by rw[G.o];exact hjm);obtain⟨a2,GJ,An,VK,XY,F⟩:=HT5.o.ex;obtain⟨p,hp⟩:=zw (x.tg[j]);obtain⟨bb,rfl,hb⟩:=(by cases An;exact F j lD:∃b,ta=some b/\w5.cell? (b.add j)=some (.int .i64 x.tg[j]));rw[hp]at hb;have Et:=A.cell hb id;have V:x.tg.take (j+1)=x.tg.take j++[p]:=(by rw[yj lD,hp]);have Rt:p<=4000000000:=(by have:=HXM.o.t p (by rw[<-hp];exact yf lD);omega);have hPA:=(HH.o.1.fr (Vs.o.over A (λ_ q=>q.elim)));have HAT:=Z (F9 q mb s.code.length p _ wr hPA.q2 hPA.mp Rt);have HO:=Z u;have HTK:=Z V;have hH1:H.length<=1:=(by rw[<-O.o];split<;>simp);have hLB:=Z (show H.length+j+1<=2147483648 by omega);clear An VK XY F hp hb A V Rt hPA u hH1;go_wp2_with fail;refine HAT.o.mono ?_;rintro e w9 ⟨rfl,rfl⟩;go_wp2_with (at_builtin;refine KA qw [_] 1 HO.o hLB.o ?_);intro v7 w7 U Q;have HO7:=Z U;have HF7:=Z (Va.o.trans Q);clear U Q;go_wp2;go_roundw
            case rel=>exact⟨j+1,uN,J,by have h:=HO7.o;rw[HTK.o,Tn,<-yk,List.map_take];unfold zmj at h|-;rw[Tn];exact h,HF7.o⟩
            case measure=>simp only[intOf];omega
           .have OE:¬(j:Int)<(m:Int):=(by omega);have xn1:j=m:=J;obtain⟨L,hL⟩:=zw (H.length+m);obtain⟨T,hT⟩:=zw (H++x.tg.map (qp s.code s.code.length));have hTL:T.length=L:=(by rw[<-hT,zy,vU,G.o,hL]);have hto:Db s.code k x=T:=(by rw[<-hT,<-O.o];unfold Db;rw[HOP.o,<-HBI.o.2]);have hL1:L<=m+1:=(by rw[<-hL,<-O.o];split<;>simp<;>omega);rw[xn1,hL,ye (TD G.o),hT]at u;obtain⟨t0,t1,rfl⟩:=zo u;have viv:M<(w5:Nat):=HM5.o.lt;have hrM:∀g,zM (.slice t0 L t1) g->g≠M:=λg hg e=>by
             rcases A.fp g hg with q|q
             .exact q
             .omega
            have hm8:=HM5.o.fr A id;have l:=HCN.o;simp only[tgN,vV,vq9,G.o]at l;obtain⟨HV8,HT8,HB8,HRM,PX⟩:=G0 (show fg s.cs s.code=match TA k n d2 T D with|none=>false|some D2=>UO s.cs s.code (k+1) (s.code.drop (k+1)) D2 by rw[z.o,hto,HN.o]) (zf hTL (zf hto u)) (Vs.o.over A (λ_ q=>q.elim)) hrM hL1;clear xn1 hL hT hTL hto hL1 viv hrM A u c4w c4;go_wp2_with fail;go_loopw [116] (λjv wr3=>∃(i c3:Nat) (D3:Nat->Option Nat),jv = .int .i64 (i:Nat)/\i<=L/\jS wr3 M c3 D3/\c3+(L - i)+((s.code.drop (k+1)).map λi=>i.tg.length+1).sum<=1000001/\fg s.cs s.code=(match TA k n d2 (T.drop i) D3 with|none=>false|some D2=>UO s.cs s.code (k+1) (s.code.drop (k+1)) D2)/\(∀y e,D3 y=some e->e<=6)/\Fr (· = M) (· = M) wr wr3) (λjv _=>L - (intOf jv).toNat)
            case atStart=>exact⟨0,cnt,D,rfl,zJ _,hm8,by have:=PX.o;omega,HV8.o,HDD.o,Fr.refl _ _⟩
            case round =>
             clear hm8 l OE hj hjm;obtain⟨i,c3,D3,rfl,hi,f,F,N,hD3,P⟩:=hrel;have OW:=HB8.o.trans P;have q13:=OW.cell q1 id;have Ix:=Z OW;have oe:=Z P;have hD6:=HBD.o.2.1;have hL6:L<=1000001:=(by have:=PX.o;omega);by_cases hil:i<L
             .have hii:(i:Int)<(L:Int):=(by omega);have hiT:i<T.length:=(by rw[HT8.o.1];exact hil);obtain⟨o,u⟩:=zw (T[i]);have hdr:T.drop i=o::T.drop (i+1):=(by rw[<-u];exact yd hiT);obtain⟨g',rY,e1,e2,e3,e4⟩:=xY HT8.o.2.2 J;cases e1;have hc:=e4 i J;have hjc:(zmj T)[i]? = some (.int .i64 (CZ o)):=(by unfold zmj;rw[Ql,zj hiT,u];rfl);rw[hjc]at hc;have hgM:=HRM.o g' rfl;have hcr:=P.cell hc hgM;rw[hdr]at N;have C:=Z N;have Dy:=Z (zf f (zf F hD3));have hot:∀t,o=some t->t<=n:=by
               intro t e;have R:some t∈Db s.code k x:=(by rw[HT8.o.2.1,<-e,<-u];exact yf hiT);unfold Db at R;rw[zS]at R;rcases R with q|q
               .split at q
                .simp at q;omega
                .cases q
               .obtain⟨y,_,q⟩:=uy.1 q;have:=Na _ _ _ _ q;have:=HN.o;omega
              clear hdr e2 e3 e4 hc hjc hgM P OW N F hD3 u hiT;cases o with
              |none =>
               obtain⟨cv,ct,TO⟩:=f.zmg;have HB:=Z (show fg s.cs s.code=false by rw[C.o,TA]);have hle:(-1:Int)<=(k:Int):=J;clear f hot;unfold CZ at hcr;exact iP
              |some t =>
               have htn:=hot t rfl;have TO:=f.look t J;unfold CZ at hcr;dsimp only at hcr;clear hot;obtain⟨o3,pT⟩:=zw (D3 t);rw[pT]at TO;have HO3:=Z pT;clear pT;by_cases V:t<=k
               .have viq:(t:Int)<=(k:Int):=(by omega);have HB:=Z (show fg s.cs s.code=false by rw[C.o,TA,yK (.inl V)]);clear f;exact iP
               .have viq:¬(t:Int)<=(k:Int):=(by omega);by_cases B:t=n
                .have HB:=Z (show fg s.cs s.code=false by rw[C.o,TA,yK (.inr (.inl B))]);have vik:((t:Int)==(n:Int))=true:=(by simp;omega);clear f B;exact iP
                .have vik:((t:Int)==(n:Int))=false:=(by simp;omega);by_cases hbd:∃e,o3=some e/\e≠d2
                 .obtain⟨e,rfl,hed⟩:=hbd;have vij:((e:Int)==(d2:Int))=false:=(by simp;omega);have HB:=Z (show fg s.cs s.code=false by rw[C.o,TA,yK (.inr (.inr (by rw[HO3.o];simpa using hed)))]);clear f B hed;exact iP
                 .have xn2:(D3 t).any (· ≠ d2)=false:=by
                   rw[HO3.o];cases o3 with
                   |none=>rfl
                   |some e=>simp;exact yy λq=>hbd ⟨e,rfl,q⟩
                  have HB:=Z (show fg s.cs s.code=(match TA k n d2 (T.drop (i+1)) (λx=>if t=x then some d2 else D3 x) with|none=>false|some D2=>UO s.cs s.code (k+1) (s.code.drop (k+1)) D2)by rw[C.o,TA,yv (by rintro(q|q|q);exact V q;exact B q;rw[xn2]at q;cases q)]);obtain⟨w9,hp9,hm9,K⟩:=f.put t J d2 J (by have:=Dy.o.2.1;omega);have HF9:=Z (show Fr (· = M) (· = M) wr w9 from⟨K.os,K.tape,K.output,K.size,λk hk hn=>K.block k hk (λe=>hn (zL e)),λ_ q => .inl q⟩);have HM9:=Z hm9;have vig:=Z hbd;clear f B xn2 hm9 K hbd;cases o3 with
                  |none =>
                   exact zgd
                  |some e =>
                   have hed:e=d2:=yy λq=>vig.o ⟨e,rfl,q⟩
                   have vij:((e:Int)==(d2:Int))=true:=yF;clear hed;exact zgd
             .have hii:¬(i:Int)<(L:Int):=(by omega);have hiL:i=L:=J;rw[hiL,<-HT8.o.1,List.drop_length]at N;have C:=Z (show fg s.cs s.code=UO s.cs s.code (k+1) (s.code.drop (k+1)) D3 from N);have Dy:=Z (zf f (zf F hD3));clear N f F hD3 hiL P OW;go_wp2;go_roundw
              case rel=>exact⟨k+1,c3,D3,uN,J,Dy.o.1,by have:=Dy.o.2.1;simp only[tgN];omega,C.o,Dy.o.2.2,Ix.o⟩
              case measure=>simp only[intOf];omega
  .have hkn:¬(k:Int)<(n:Int):=(by omega);have HB:=Z (show fg s.cs s.code=true by rw[hv,bp (by rw[HN.o];omega),UO]);clear hv hm l hD hf;exact zq6
def zmf(k n o:Nat):∀(T:List (Option Nat)) (D:Nat->Option Nat),(∀t∈T,∃j,t=some j/\k<j/\j≠n/\(D j=none\/D j=some o))->∃f,TA k n o T D=some f/\∀y,f y=if some y∈T then some o else D y
 |[],D,_=>⟨D,rfl,λy=>zV⟩
 |t::T,D,h=>by
  obtain⟨j,rfl,h1,h2,d⟩:=h t (.head _);obtain⟨f,e,l⟩:=zmf k n o T (λx=>if j=x then some o else D x) (λt' g=>by
   obtain⟨i,rfl,a,b,c⟩:=h t' (.tail _ g);refine⟨i,rfl,a,b,?_⟩;by_cases e:j=i
   .exact .inr (by simp[e])
   .simp only[e,if_false];exact c)
  refine⟨f,?_,λy=>?_⟩
  .rw[TA,yv,e];rintro(q|q|q)
   .omega
   .exact h2 q
   .rcases d with d|d
    .rw[d]at q;simp at q
    .rw[d]at q;simp at q
  .rw[l];by_cases hy:some y∈T
   .simp[hy]
   .by_cases e:j=y
    .simp[e]
    .rw[yv hy,yv e,yv];intro q;rcases yV.1 q with q|q
     .cases q;exact e rfl
     .exact hy q
structure ycz(cs:List Wd)(code:List uF)(h:Nat->Nat):Prop where
 h0:h 0=0
 fit:∀i∈code,Xv cs i=true
 step:∀k x,code[k]? = some x->∃o,jU x.op (h k)=some o/\∀t∈Db code k x,∃j,t=some j/\k<j/\j<code.length/\h j=o
 led:∀k,0<k->k<code.length->∃j x,j<k/\code[j]? = some x/\some k∈Db code j x
def SD{cs:List Wd}{code:List uF}{h:Nat->Nat}(H:ycz cs code h):∀(r:List uF) (k:Nat) (D:Nat->Option Nat),code.drop k=r->(∀y e,D y=some e->e=h y)->(∀y,(y=0\/∃j x,j<k/\code[j]? = some x/\some y∈Db code j x)->D y=some (h y))->UO cs code k r D=true
 |[],_,_,_,_,_=>rfl
 |i::r,k,D,hd,h1,h2=>by
  have f:k<code.length:=by
   rcases ud k code.length with q|q
   .exact q
   .rw[bp q]at hd;cases hd
  have hc:=yd f;rw[hd]at hc;obtain⟨n,p⟩:=ZZ hc;have hi:code[k]? = some i:=by rw[zj f,<-n]
  have d:D k=some (h k):=h2 k (by
   rcases xu6 k with q|q
   .exact .inl q
   .exact .inr (H.led k q f))
  obtain⟨o,u,g⟩:=H.step k i hi;obtain⟨l,e,m⟩:=zmf k code.length o (Db code k i) D (λt q=>by
   obtain⟨j,rfl,a,b,c⟩:=g t q;refine⟨j,rfl,a,J,?_⟩;cases s:D j with
   |none=>exact .inl rfl
   |some e=>exact .inr (by rw[h1 j e s,c]))
  rw[UO,d];simp only[H.fit i (ze hi),u,jd];rw[show TA k code.length o ((if ey i.op=true then [some (k+1)]else [])++i.tg.map (qp code code.length)) D=some l from e];simp only;refine SD H r (k+1) l p.symm (λy e' he=>?_) (λy hy=>?_)
  .rw[m]at he;split at he
   .rename_i q;obtain⟨j,q1,_,_,c⟩:=g _ q;cases q1;cases he;exact c.symm
   .exact h1 y e' he
  .rw[m];split
   .rename_i q;obtain⟨j,q1,_,_,c⟩:=g _ q;cases q1;rw[c]
   .rename_i q;refine h2 y ?_;rcases hy with hy|⟨j,x,a,b,c⟩
    .exact .inl hy
    .rcases ud j k with z|z
     .exact .inr ⟨j,x,z,b,c⟩
     .have:j=k:=(by omega);subst this;rw[hi]at b;cases b;exact absurd c q
def xzb{cs:List Wd}{code:List uF}{h:Nat->Nat}(H:ycz cs code h):fg cs code=true :=
 SD H _ 0 _ rfl (λy e he=>by
  split at he
  .rename_i q;cases he;rw[<-q,H.h0]
  .cases he) (λy hy=>by
  rcases hy with rfl|⟨j,x,a,_⟩
  .simp[H.h0]
  .omega)
variable{tg:List Nat}{i k':Nat}
def AtP(s:MkS)(k p:Nat):Prop:=(k=s.code.length/\p=s.pos)\/∃x,s.code[k]? = some x/\x.pos=p
def Led(s:MkS)(P:Nat×Nat->Prop)(k':Nat):Prop:=∃k x,k<k'/\s.code[k]? = some x/\((ey x.op=true/\k'=k+1)\/∃j t,x.tg[j]? = some t/\¬P (k,j)/\AtP s k' t)
def Xj(s:MkS)(P:Nat×Nat->Prop):Prop:=s.code=[]\/Led s P s.code.length
structure KJ(s:MkS)(H:Nat->Nat)(P:Nat×Nat->Prop):Prop where
 step:∀k x,s.code[k]? = some x->∃o,jU x.op (H k)=some o/\(ey x.op=true->H (k+1)=o)/\∀j t,x.tg[j]? = some t->P (k,j)\/∃k',k<k'/\k'<=s.code.length/\AtP s k' t/\H k'=o
 led:∀k',0<k'->k'<s.code.length->Led s P k'
section
variable {s s':MkS} {H H':Nat->Nat} {P Q:Nat×Nat->Prop}
def AtP.eq(h:AtP s k p)(h1:s'.code=s.code)(h2:s'.pos=s.pos):AtP s' k p:=by unfold AtP at *;rw[h1,h2];exact h
def KJ.eq(h:KJ s H P)(h1:s'.code=s.code)(h2:s'.pos=s.pos):KJ s' H P:=by
 refine⟨λk x hx=>?_,λk' a b=>?_⟩
 .rw[h1]at hx|-;obtain⟨o,a,b,c⟩:=h.step k x hx;exact⟨o,a,b,λj t g=>(c j t g).imp id (λ⟨k',q1,q2,f,i⟩=>⟨k',q1,q2,f.eq h1 h2,i⟩)⟩
 .rw[h1]at b;obtain⟨k,x,c,d,e⟩:=h.led k' a b;exact⟨k,x,c,by rw[h1];exact d,e.imp id (λ⟨j,t,q1,q2,f⟩=>⟨j,t,q1,q2,f.eq h1 h2⟩)⟩
def Xj.eq(h:Xj s P)(h1:s'.code=s.code)(h2:s'.pos=s.pos):Xj s' P:=by
 rcases h with h|⟨k,x,c,d,e⟩
 .exact .inl (h1.trans h)
 .exact .inr ⟨k,x,by rw[h1];exact c,by rw[h1];exact d,e.imp (λq=>by rw[h1];exact q) (λ⟨j,t,q1,q2,a⟩=>⟨j,t,q1,q2,by rw[h1];exact a.eq h1 h2⟩)⟩
def KJ.ext(h:KJ s H P)(d:∀k,k<=s.code.length->H' k=H k):KJ s H' P:=by
 refine⟨λk x hx=>?_,h.led⟩;have i:=(zD.1 hx).1;obtain⟨o,a,b,c⟩:=h.step k x hx;exact⟨o,by rw[d k J];exact a,λq=>by rw[d _ J];exact b q,λj t e=>(c j t e).imp id (λ⟨k',q1,q2,f,g⟩=>⟨k',q1,q2,f,by rw[d k' q2];exact g⟩)⟩
def KJ.US(h:KJ s H P)(f:∀k x j,s.code[k]? = some x->j<x.tg.length->(P (k,j) ↔ Q (k,j))):KJ s H Q:=by
 have g:∀{l:List Nat} {j t:Nat},l[j]? = some t->j<l.length:=λh=>(zD.1 h).1
 refine⟨λk x hx=>?_,λk' a b=>?_⟩
 .obtain⟨o,a,b,c⟩:=h.step k x hx;exact⟨o,a,b,λj t i=>(c j t i).imp (f k x j hx (g i)).1 id⟩
 .obtain⟨k,x,c,d,e⟩:=h.led k' a b;exact⟨k,x,c,d,e.imp id (λ⟨j,t,q1,q2,m⟩=>⟨j,t,q1,λq=>q2 ((f k x j d (g q1)).2 q),m⟩)⟩
def Xj.US(h:Xj s P)(a:∀k x j,s.code[k]? = some x->j<x.tg.length->(P (k,j) ↔ Q (k,j))):Xj s Q:=by
 rcases h with h|⟨k,x,c,d,e⟩
 .exact .inl h
 .exact .inr ⟨k,x,c,d,e.imp id (λ⟨j,t,q1,q2,b⟩=>⟨j,t,q1,λq=>q2 ((a k x j d (zD.1 q1).1).2 q),b⟩)⟩
def eJ{v:Nat}{ks:List Nat}(h:AtP s k p):AtP (s.put op v ks tg) k p:=by
 rcases h with⟨rfl,rfl⟩|⟨x,hx,hp⟩
 .exact .inr ⟨⟨op,s.pos,v,ks,tg⟩,Vn,rfl⟩
 .exact .inr ⟨x,by rw[xy,zi (zD.1 hx).1];exact hx,hp⟩
def nX{v:Nat}{ks:List Nat}(h:Led s P k')(a:∀p,p.1<s.code.length->Q p->P p):Led (s.put op v ks tg) Q k':=by
 obtain⟨k,x,c,d,e⟩:=h;have b:=(zD.1 d).1;exact⟨k,x,c,by rw[xy,zi b];exact d,e.imp id (λ⟨j,t,q1,q2,f⟩=>⟨j,t,q1,λq=>q2 (a _ b q),eJ f⟩)⟩
def KJ.push{o v d':Nat}{ks:List Nat}(h:KJ s H P)(he:Xj s P)(hd:jU op (H s.code.length)=some o)(l:ey op=true->d'=o) :
  ∃H',(∀k,k<=s.code.length->H' k=H k)/\KJ (s.put op v ks tg) H' (λp=>P p\/p.1=s.code.length)/\H' (s.code.length+1)=d'/\(ey op=true->Xj (s.put op v ks tg) (λp=>P p\/p.1=s.code.length)):=by
 have f:(s.put op v ks tg).code.length=s.code.length+1:=Vn;have d:(s.put op v ks tg).code[s.code.length]? = some ⟨op,s.pos,v,ks,tg⟩:=Vn;have g:∀k,k<=s.code.length->¬k=s.code.length+1:=λk i=>J
 refine⟨λk=>if k=s.code.length+1 then d' else H k,λk i=>yv (g k i),⟨λk x hx=>?_,λk' a b=>?_⟩,yK rfl,λm => .inr ⟨s.code.length,_,by rw[f];omega,d,.inl ⟨m,f⟩⟩⟩
 .rcases ud k s.code.length with i|i
  .rw[xy,zi i]at hx;obtain⟨u,a,b,c⟩:=h.step k x hx;refine⟨u,by simp only[yv (g k J)];exact a,λq=>by simp only[yv (g (k+1) J)];exact b q,λj t n=>?_⟩;rcases c j t n with q|⟨k',q1,q2,w,y⟩
   .exact .inl (.inl q)
   .exact .inr ⟨k',q1,by rw[f];omega,eJ w,by simp only[yv (g k' q2)];exact y⟩
  .have r:=(zD.1 hx).1;have:k=s.code.length:=(by omega);subst this;rw[d]at hx;cases hx;exact⟨o,by simp only[yv (g _ (Y _))];exact hd,λq=>by simp only[yK];exact l q,λj t n => .inl (.inr rfl)⟩
 .rcases ud k' s.code.length with i|i
  .exact nX (h.led k' a i) (λp hp q=>q.elim id (λe=>J))
  .have:k'=s.code.length:=(by omega);subst this;rcases he with he|he
   .rw[he]at a;simp at a
   .exact nX he (λp hp q=>q.elim id (λe=>J))
def KJ.more{o v:Nat}{ks:List Nat}(h:KJ s H P)(he:Xj s P)(hd:jU op (H s.code.length)=some o)(f:ey op=true) :
  ∃H',(∀k,k<=s.code.length->H' k=H k)/\KJ (s.put op v ks []) H' P/\H' (s.code.length+1)=o/\Xj (s.put op v ks []) P:=by
 obtain⟨H',a,b,c,d⟩:=h.push (v:=v) (ks:=ks) (tg:=[]) he hd (d':=o) (λ_=>rfl);have hc:∀k x j,(s.put op v ks []).code[k]? = some x->j<x.tg.length->((P (k,j)\/(k,j).1=s.code.length) ↔ P (k,j)):=λk x j hx g=>by
  refine⟨λq=>q.elim id (λe=>?_),.inl⟩;simp only at e;subst e;rw[xy]at hx;simp at hx;subst hx;simp at g
 exact⟨H',a,b.US hc,c,(d f).US hc⟩
def DB(h:AtP s k p):AtP (s.xL i j) k p:=by
 rcases h with⟨rfl,rfl⟩|⟨x,hx,hp⟩
 .exact .inl ⟨(fR _ _ _).symm,rfl⟩
 .refine .inr ?_;rw[kz];split
  .exact⟨{ x with tg:=x.tg.set j s.pos },by rw[hx];rfl,hp⟩
  .exact⟨x,hx,hp⟩
def sR(h:slot s (i,j)=none):(s.xL i j).code=s.code:=by
 refine List.ext_getElem? λn=>?_
 rw[kz];split
 .rename_i e;subst e;cases hc:s.code[i]? with
  |none=>rfl
  |some x =>
   unfold slot at h;simp only[hc,yzj]at h;rw[Y8,List.set_eq_of_length_le (by rcases ud j x.tg.length with q|q;rw[zj q]at h;cases h;exact q)]
 .rfl
def KJ.xL{x:uF}(h:KJ s H P)(hp:P (i,j))(hx:s.code[i]? = some x)(v:j<x.tg.length)(hd:jU x.op (H i)=some (H s.code.length)) :
  KJ (s.xL i j) H (λp=>P p/\p≠(i,j))/\Xj (s.xL i j) (λp=>P p/\p≠(i,j)):=by
 have hi:=(zD.1 hx).1;have l:(s.xL i j).code[i]? = some { x with tg:=x.tg.set j s.pos }:=by rw[kz,yK rfl,hx];rfl
 have f:AtP (s.xL i j) s.code.length s.pos:=DB (.inl ⟨rfl,rfl⟩);have r:∀k',Led s P k'->Led (s.xL i j) (λp=>P p/\p≠(i,j)) k':=λk' ⟨k,y,c,d,e⟩=>by
  by_cases n:i=k
  .subst n;rw[hx]at d;cases d;refine⟨i,_,c,l,e.imp id (λ⟨m,t,q1,q2,q3⟩=>⟨m,t,?_,λq=>q2 q.1,DB q3⟩)⟩;rw[Fw,yv (λe=>q2 (by rw[<-e];exact hp))];exact q1
  .exact⟨k,y,c,by rw[kz,yv n];exact d,e.imp id (λ⟨m,t,q1,q2,q3⟩=>⟨m,t,q1,λq=>q2 q.1,DB q3⟩)⟩
 refine⟨⟨λk y hy=>?_,λk' a b=>r k' (h.led k' a (by rw[fR]at b;exact b))⟩,.inr ⟨i,_,by rw[fR];exact hi,l,.inr ⟨j,s.pos,?_,λq=>q.2 rfl,by rw[fR];exact f⟩⟩⟩
 .by_cases n:i=k
  .subst n;rw[l]at hy;cases hy;obtain⟨o,a,b,c⟩:=h.step i x hx;refine⟨o,a,b,λm t g=>?_⟩;rw[Fw]at g;split at g
   .rename_i e;subst e;have u:some s.pos=some t:=(by first|exact g|(rw[yK v]at g;exact g));cases u;rw[hd]at a;cases a;exact .inr ⟨s.code.length,hi,by rw[fR];exact Y _,f,rfl⟩
   .rename_i e;rcases c m t g with q|⟨k',q1,q2,q3,q4⟩
    .exact .inl ⟨q,λe'=>e (by cases e';rfl)⟩
    .exact zqq
  .rw[kz,yv n]at hy;obtain⟨o,a,b,c⟩:=h.step k y hy;refine⟨o,a,b,λm t g=>?_⟩;rcases c m t g with q|⟨k',q1,q2,q3,q4⟩
   .exact .inl ⟨q,λe'=>n (by cases e';rfl)⟩
   .exact zqq
 .show(x.tg.set j s.pos)[j]? = some s.pos;rw[Fw,yK rfl,yK v]
end
def QV{H:Nat->Nat}:∀(l:List (Nat×Nat)) (s:MkS) (P:Nat×Nat->Prop),KJ s H P->l.Nodup->(∀p∈l,∀x,s.code[p.1]? = some x->p.2<x.tg.length->P p/\jU x.op (H p.1)=some (H s.code.length)) ->
  KJ (uD l s) H (λp=>P p/\p ∉ l)/\((Xj s P\/∃p∈l,∃x,s.code[p.1]? = some x/\p.2<x.tg.length)->Xj (uD l s) (λp=>P p/\p ∉ l))
 |[],s,P,h,_,_=>⟨h.US (λ_ _ _ _ _=>zV),λq=>q.elim (λq=>q.US (λ_ _ _ _ _=>zV)) (λ⟨p,hp,_⟩=>by cases hp)⟩
 |q::l,s,P,h,hn,g=>by
  obtain⟨i,j⟩:=q;rw[Yu]at hn;by_cases hs:∃x,s.code[i]? = some x/\j<x.tg.length
  .obtain⟨x,hx,r⟩:=hs;obtain⟨h1,h2⟩:=g (i,j) (.head _) x hx r;obtain⟨u,v⟩:=h.xL h1 hx r h2;obtain⟨m,o⟩:=QV l (s.xL i j) _ u hn.2 (λp hp y hy c=>by
    rw[kz]at hy;have f:p≠(i,j):=λe=>hn.1 (e▸hp)
    split at hy
    .rename_i e;subst e;rw[hx]at hy;cases hy;obtain⟨a,b⟩:=g p (.tail _ hp) x hx (by simpa using c);exact⟨⟨a,f⟩,by rw[fR];exact b⟩
    .obtain⟨a,b⟩:=g p (.tail _ hp) y hy c;exact⟨⟨a,f⟩,by rw[fR];exact b⟩)
   have hc:∀p:Nat×Nat,((P p/\p≠(i,j))/\p ∉ l) ↔ (P p/\p ∉ (i,j)::l):=λp=>by
    rw[yV,not_or,and_assoc]
   exact⟨m.US (λ_ _ _ _ _=>hc _),λ_=>(o (.inl v)).US (λ_ _ _ _ _=>hc _)⟩
  .have t:slot s (i,j)=none:=by
    unfold slot;cases hc:s.code[i]? with
    |none=>rfl
    |some x=>exact uG (Nat.le_of_not_lt (λq=>hs ⟨x,hc,q⟩))
   have e:=sR t;obtain⟨m,o⟩:=QV l (s.xL i j) P (h.eq e rfl) hn.2 (λp hp y hy c=>by
    rw[e]at hy|-;exact g p (.tail _ hp) y hy c)
   have hc:∀k x d,(uD l (s.xL i j)).code[k]? = some x->d<x.tg.length->((P (k,d)/\(k,d) ∉ l) ↔ (P (k,d)/\(k,d) ∉ (i,j)::l)):=λk x d hx r=>by
    refine⟨λ⟨a,b⟩=>⟨a,λq=>?_⟩,λ⟨a,b⟩=>⟨a,λq=>b (.tail _ q)⟩⟩;rcases yV.1 q with q|q
    .cases q;have h1:=SB l (s.xL i j) i x hx;obtain⟨y,hy,w⟩:=h1;rw[e]at hy;exact hs ⟨y,hy,J⟩
    .exact b q
   refine⟨m.US hc,λq=>(o ?_).US hc⟩;rcases q with q|⟨p,hp,y,hy,c⟩
   .exact .inl (q.eq e rfl)
   .rcases yV.1 hp with rfl|hp
    .exact absurd ⟨y,hy,c⟩ hs
    .exact .inr ⟨p,hp,y,by rw[e];exact hy,c⟩
where
 SB:∀(l:List (Nat×Nat)) (s:MkS) (n:Nat) (x:uF),(uD l s).code[n]? = some x->∃y,s.code[n]? = some y/\y.tg.length=x.tg.length
  |[],s,n,x,h=>⟨x,h,rfl⟩
  |p::l,s,n,x,h=>by
   obtain⟨y,a,b⟩:=SB l (s.xL p.1 p.2) n x h;rw[kz]at a;split at a
   .cases hc:s.code[n]? with
    |none=>rw[hc]at a;cases a
    |some z=>rw[hc]at a;cases a;exact⟨z,rfl,by simpa using b⟩
   .exact⟨y,a,b⟩
variable{bs:Fo}
def Fo.dp:Nat->Fo->Prop
 |_,.nil=>True
 |d,.text _ r=>r.dp d
 |d,.hash r=>0<d/\r.dp d
 |d,.put _ _ r=>r.dp d
 |d,.num _ _ r=>r.dp d
 |d,.br _ _ f _ _ bs r=>(if f=0 then bs.dp d else d+1<=6/\bs.dp (d+1))/\r.dp d
 |d,.xi _ _ m r=>m.dp d/\r.dp d
def Fo.kc:Fo->Prop
 |.nil=>True
 |.text _ r=>r.kc
 |.hash r=>r.kc
 |.put _ _ r=>r.kc
 |.num _ _ r=>r.kc
 |.br _ _ f _ _ bs r=>(f≠0->∀k∈bs.keys,k.head?≠some 61->k∈YF)/\bs.xm=true/\bs.keys.Nodup/\qf∈bs.keys/\bs.kc/\r.kc
 |.xi _ _ m r=>m.ya=true/\m.kc/\r.kc
def ff(h:op=1\/op=2\/op=3\/op=10\/op=11)(hd:d<=6):jU op d=some d:=by
 have:¬6<d:=J;rcases h with rfl|rfl|rfl|rfl|rfl<;>simp[jU,this]
def JW(h:op=6\/op=7\/op=8\/op=9)(h1:0<d)(hd:d<=6):jU op d=some d:=by
 have a:¬6<d:=J;have b:¬d=0:=J;rcases h with rfl|rfl|rfl|rfl<;>simp[jU,a,b]
def eG(hd:d+1<=6):jU 5 (d+1)=some d:=by
 have a:¬6<d+1:=J;simp[jU];omega
def eF(hd:d+1<=6):jU 4 d=some (d+1):=by
 simp[jU];omega
def VM(f:Fo):Prop:=∀(s:MkS) (H:Nat->Nat) (P:Nat×Nat->Prop) (d:Nat),f.kc->f.dp d->d<=6->KJ s H P->Xj s P->(∀p,P p->p.1<s.code.length)->H s.code.length=d ->
 ∃H',(∀k,k<=s.code.length->H' k=H k)/\KJ (MkS.Zx f s) H' P/\Xj (MkS.Zx f s) P/\H' (MkS.Zx f s).code.length=d
structure xy1(s:MkS)(H:Nat->Nat)(R:Nat×Nat->Prop)(d:Nat)(ks:List Wd)(sl:Wd->List (Nat×Nat)):Prop where
 nd:∀k∈ks,(sl k).Nodup
 ex:∀k∈ks,∃p∈sl k,∃x,s.code[p.1]? = some x/\p.2<x.tg.length
 lt:∀k∈ks,∀p∈sl k,p.1<s.code.length
 ok:∀k∈ks,∀p∈sl k,∀x,s.code[p.1]? = some x->p.2<x.tg.length->R p/\jU x.op (H p.1)=some d
 cS:∀k∈ks,∀k'∈ks,k≠k'->∀p∈sl k,p ∉ sl k'
def VL(f:Fo):Prop:=∀(s:MkS) (H:Nat->Nat) (R:Nat×Nat->Prop) (d:Nat) (sl:Wd->List (Nat×Nat)) (bg:Wd->MkS->MkS) (ls:List Nat),f.kc->f.dp d->d<=6->(∀k x,bg k x=uD (sl k) x)->KJ s H R->(∀p,R p->p.1<s.code.length)->H s.code.length=d->f.keys.Nodup->xy1 s H R d f.keys sl ->
 ∃(H':Nat->Nat) (new:List Nat),(MkS.uw f bg s ls).2=ls++new/\(∀k,k<=s.code.length->H' k=H k)/\KJ (MkS.uw f bg s ls).1 H' (λp=>(R p/\∀k∈f.keys,p ∉ sl k)\/p∈new.map λi=>(i,0))/\H' (MkS.uw f bg s ls).1.code.length=d /\
  (∀e∈new,s.code.length<=e/\e<(MkS.uw f bg s ls).1.code.length/\∃x,(MkS.uw f bg s ls).1.code[e]? = some x/\x.op=11/\x.tg.length=1/\H' e=d)/\new.Nodup/\(f.keys≠[]->new≠[])
def O2{s':MkS}(h:∀(i:Nat) (x:uF),s.code[i]? = some x->∃y,s'.code[i]? = some y/\shx y=shx x){y:uF}(hi:i<s.code.length)(hy:s'.code[i]? = some y):∃x,s.code[i]? = some x/\y.op=x.op/\y.tg.length=x.tg.length:=by
 obtain⟨y',a,b⟩:=h i _ (zj hi);rw[hy]at a;cases a;obtain⟨c,_,_,_,e⟩:=QZ b;exact⟨_,zj hi,c,e⟩
def nU(Q:VL bs){H:Nat->Nat}{R P:Nat×Nat->Prop}{sl:Wd->List (Nat×Nat)}{c:Wd->MkS->MkS}(w:bs.kc)(hd:bs.dp d)(m:d<=6)(f:∀k x,c k x=uD (sl k) x)(hv:KJ s H R)(hR:∀p,R p->p.1<s.code.length)
  (N:H s.code.length=d) (hn:bs.keys.Nodup) (D:bs.keys≠[]) (E:xy1 s H R d bs.keys sl) (l:∀k x j,s.code[k]? = some x->j<x.tg.length->R (k,j)->P (k,j)\/∃key∈bs.keys,(k,j)∈sl key) (O:∀p,P p->R p/\∀key∈bs.keys,p ∉ sl key) :
  ∃H',(∀k,k<=s.code.length->H' k=H k)/\KJ (uD ((MkS.uw bs c s []).2.map λi=>(i,0)) (MkS.uw bs c s []).1) H' P/\Xj (uD ((MkS.uw bs c s []).2.map λi=>(i,0)) (MkS.uw bs c s []).1) P/\H' (uD ((MkS.uw bs c s []).2.map λi=>(i,0)) (MkS.uw bs c s []).1).code.length=d:=by
 obtain⟨H',new,G,I,F,A,v,K,L⟩:=Q s H R d sl c [] w hd m f hv hR N hn E;have t:=go_inv (Fz s) bs f s [] (DS s);have o:=(go_facts bs sl c f s []).1;obtain⟨g,S⟩:=zw ((MkS.uw bs c s []).1);rw[S]at F A v t o|-;rw[G,xV];have C:(new.map λi=>((i,0):Nat×Nat)).Nodup :=
   LH _ (λa b h e=>h BP) K
 obtain⟨v1,v2⟩:=QV (new.map λi=>(i,0)) g _ F C (λp hp x hx _=>by
  obtain⟨e,he,rfl⟩:=uy.1 hp;obtain⟨_,_,y,c1,c2,_,c4⟩:=v e he;simp only at hx;rw[hx]at c1;cases c1;refine⟨.inr hp,?_⟩;rw[c2,c4,A];exact ff J m)
 have n:=v2 (.inr (by
  obtain⟨e,he⟩:=List.exists_mem_of_ne_nil _ (L D);obtain⟨_,_,y,c1,_,c3,_⟩:=v e he;exact⟨(e,0),uy.2 ⟨e,he,rfl⟩,y,c1,by simp only;omega⟩))
 have u:=Fy (Fz g) (new.map λi=>(i,0)) g (DS g);have B:=(km (new.map λi=>((i,0):Nat×Nat)) g).1;have hc:∀k x j,(uD (new.map λi=>(i,0)) g).code[k]? = some x->j<x.tg.length->(((R (k,j)/\∀key∈bs.keys,(k,j) ∉ sl key)\/(k,j)∈new.map λi=>(i,0))/\(k,j) ∉ (new.map λi=>((i,0):Nat×Nat)) ↔ P (k,j)):=λk x j hx T=>by
  constructor
  .rintro⟨q|q,q2⟩
   .have w:=hR _ q.1;simp only at w;obtain⟨y,a1,_,a3⟩:=O2 u J hx;obtain⟨z,b1,_,b3⟩:=O2 t w a1;rcases l k z j b1 J q.1 with r|⟨key,r1,r2⟩
    .exact r
    .exact absurd r2 (q.2 key r1)
   .exact absurd q q2
  .intro q;have h1:=O _ q;refine⟨.inl h1,λh2=>?_⟩;obtain⟨e,he,M⟩:=uy.1 h2;cases M;have:=(v _ he).1;have:=hR _ h1.1;exact Bx
 exact⟨H',I,v1.US hc,n.US hc,by rw[B];exact A⟩
def Da{r:Fo}(n:VM r){b:MkS}{H:Nat->Nat}{P:Nat×Nat->Prop}{v:Nat}{ks:List Nat}(a:b.code=s.code/\b.pos=s.pos)(f:r.kc)(e:r.dp d)(c:d<=6)(hv:KJ s H P)(he:Xj s P)(hP:∀p,P p->p.1<s.code.length)(m:H s.code.length=d)
  (h:jU op d=some d) (g:ey op=true):∃H',(∀k,k<=s.code.length->H' k=H k)/\KJ (MkS.Zx r (b.put op v ks [])) H' P/\Xj (MkS.Zx r (b.put op v ks [])) P/\H' (MkS.Zx r (b.put op v ks [])).code.length=d:=by
 obtain⟨i,a1,a2,a3,a4⟩:=(hv.eq a.1 a.2).more (v:=v) (ks:=ks) (he.eq a.1 a.2) (by rw[a.1,m];exact h) g;rw[a.1]at a1 a3;have o:(b.put op v ks []).code.length=s.code.length+1:=by rw[xy,zy,a.1];rfl
 obtain⟨j,b1,b2,b3,l⟩:=n (b.put op v ks []) i P d f e c a2 a4 (λp hp=>BN) (by rw[o];exact a3);exact⟨j,λk f=>(b1 k J).trans (a1 k f),b2,b3,l⟩
def yj2{k:Wd}{a:Nat}{m r:Fo}(hm:VM m)(hr:VL r):VL (.xi k a m r):=by
 intro s H R d sl M ls hk U n h hv hR hH hn b;obtain⟨Ew,W,hkr⟩:=hk;obtain⟨T,hdr⟩:=U;have t:(Fo.xi k a m r).keys=k::r.keys:=rfl;rw[t]at hn b|-;rw[Yu]at hn;obtain⟨v1,v2⟩:=QV (sl k) s R hv (b.nd k (.head _)) (λp hp x hx u=>by
  obtain⟨b1,b2⟩:=b.ok k (.head _) p hp x hx u;exact⟨b1,by rw[hH];exact b2⟩)
 have l:=v2 (.inr (b.ex k (.head _)));have A:=(km (sl k) s).1;obtain⟨N,E⟩:=zw (uD (sl k) s);have I:=Fy (Fz s) (sl k) s (DS s);rw[E]at v1 l A I;obtain⟨H2,c1,c2,c3,c4⟩:=hm N H _ d W T n v1 l (λp hp=>by have:=hR p hp.1;omega) (by rw[A];exact hH);obtain⟨f1,f2⟩:=su m N;have K:=mT (Fz s) m N I;obtain⟨c,F⟩:=zw (MkS.Zx m N);rw[F]at c2 c3 c4 f1 f2 K;obtain⟨O,d1,d2,d3,-⟩:=c2.push (v:=0) (ks:=[]) (tg:=[0]) (op:=11) (o:=d) (d':=d) c3 (by rw[c4];exact ff J n) (λq=>kG);have V:MkS.uw (.xi k a m r) M s ls=MkS.uw r M (c.put 11 0 [] [0]) (ls++[c.code.length]):=by
  rw[go_leg,h,E,F]
 have B:(c.put 11 0 [] [0]).code.length=c.code.length+1:=by rw[xy,zy];rfl
 have g:(c.put 11 0 [] [0]).code[c.code.length]? = some ⟨11,c.pos,0,[],[0]⟩:=Vn;have w:=(Fz s).put c 11 0 [] [0] K;rw[V];obtain⟨z,hs3⟩:=zw (c.put 11 0 [] [0]);rw[hs3]at d2 B g w|-;have S:∀i,i<s.code.length->O i=H i:=λi hi=>(d1 i J).trans (c1 i J)
 have G:xy1 z O (λp=>(R p/\p ∉ sl k)\/p.1=c.code.length) d r.keys sl:=by
  refine⟨λk' q=>b.nd k' (.tail _ q),λk' q=>?_,λk' q p hp=>by have:=b.lt k' (.tail _ q) p hp;omega,λk' q p hp x hx u=>?_,λk1 q1 k2 q2=>b.cS k1 (.tail _ q1) k2 (.tail _ q2)⟩
  .obtain⟨p,hp,x,hx,u⟩:=b.ex k' (.tail _ q);obtain⟨y,hy,hy2⟩:=w p.1 x hx;exact⟨p,hp,y,hy,by have:=(QZ hy2).2.2.2.2;omega⟩
  .have C:=b.lt k' (.tail _ q) p hp;obtain⟨y,hy,P,Q⟩:=O2 w C hx;obtain⟨b1,b2⟩:=b.ok k' (.tail _ q) p hp y hy J;refine⟨.inl ⟨b1,λq2=>b.cS k' (.tail _ q) k (.head _) (λe=>hn.1 (e▸q)) p hp q2⟩,?_⟩;rw[S _ C,P];exact b2
 obtain⟨H',new,P,Q,e3,e4,e5,e6,e7⟩:=hr z O _ d sl M (ls++[c.code.length]) hkr hdr n h d2 (λp hp=>by
  rcases hp with hp|hp
  .have:=hR p hp.1;omega
  .exact J) (by rw[B];exact d3) hn.2 G
 have L:=go_inv (Fz z) r h z (ls++[c.code.length]) (DS z);have uqd:=(go_facts r sl M h z (ls++[c.code.length])).1;have D:c.code.length ∉ new:=λq=>by have:=(e5 _ q).1;omega
 refine⟨H',c.code.length::new,by rw[P,yk];rfl,λi hi=>?_,e3.US (λi x j hx hj=>?_),e4,λe he=>?_,Yu.2 ⟨D,e6⟩,λ_ q=>kG⟩
 .rw[Q i J,d1 i J,c1 i J]
 .simp only[vV,yV];constructor
  .rintro(⟨q|q,q2⟩|q)
   .refine .inl ⟨q.1,λk' f=>?_⟩;rcases f with rfl|f
    .exact q.2
    .exact q2 k' f
   .have q:i=c.code.length:=q;subst q;obtain⟨y,a1,a2⟩:=L _ _ g;rw[hx]at a1;cases a1;have:=(QZ a2).2.2.2.2;simp only[zY,yG]at this;exact .inr (.inl (by rw[show j=0 by omega]))
   .exact .inr (.inr q)
  .rintro(q|q|q)
   .exact .inl ⟨.inl ⟨q.1,q.2 k (.inl rfl)⟩,λk' f=>q.2 k' (.inr f)⟩
   .cases q;refine .inl ⟨.inr rfl,λk' f q=>?_⟩;have:=b.lt k' (.tail _ f) _ q;exact Bx
   .exact .inr q
 .rcases yV.1 he with rfl|he
  .obtain⟨y,a1,a2⟩:=L _ _ g;obtain⟨b1,_,_,_,b5⟩:=QZ a2;exact⟨J,J,y,a1,b1,b5,by rw[Q _ J,d1 _ (Y _)];exact c4⟩
  .obtain⟨x1,x2,x3⟩:=e5 e he;exact⟨J,x2,x3⟩
def xy2:VL .nil:=by
 intro s H R d sl b ls _ _ _ _ hv _ a _ _;exact⟨H,[],by simp[MkS.uw],λ_ _=>rfl,hv.US (λ_ _ _ _ _=>by simp[Fo.keys]),a,λe he=>(by cases he),bo,λq=>absurd rfl q⟩
variable{ks:List Wd}
def Co:∀(f:Fo) (s:MkS) (acc:List Nat),f.xm=true->(MkS.vR f s acc).2.length=acc.length+(f.keys.filter (· ≠ qf)).length
 |.xi k a m r,s,acc,c=>by
  rw[MkS.vR,show(Fo.xi k a m r).keys=k::r.keys from rfl];by_cases b:k=qf
  .rw[yK b,List.filter_cons_of_neg (by simp[b])];exact Co r s acc c
  .rw[yv b,List.filter_cons_of_pos (by simp[b]),Co r (s.const k) (acc++[s.num k]) c];simp;omega
 |.nil,s,acc,_=>by simp[MkS.vR,Fo.keys]
 |.text _ _,_,_,h=>xp
 |.hash _,_,_,h=>xp
 |.put _ _ _,_,_,h=>xp
 |.num _ _ _,_,_,h=>xp
 |.br _ _ _ _ _ _ _,_,_,h=>xp
def eD(hn:ks.Nodup)(a:qf∈ks)(b:j<(ks.filter (· ≠ qf)).length+1):∃k∈ks,MkS.place ks k=j:=by
 rcases ud j (ks.filter (· ≠ qf)).length with q|q
 .have hm:=yf q;obtain⟨h1,h2⟩:=uv.1 hm;refine⟨_,h1,?_⟩;unfold MkS.place;rw[yv BG];exact List.Nodup.idxOf_getElem (hn.filter _) _ q
 .refine⟨qf,a,?_⟩;unfold MkS.place;rw[yK rfl];omega
def xy3{n:Wd}{a:Nat}{o:Wd}{r:Fo}(hb:VL bs)(hr:VM r)(G:r.ya=true):VM (.br n a 0 o c bs r):=by
 intro s H P d m z g hv he hP K;obtain⟨-,E,w,h,B,C⟩:=m;obtain⟨u,hdr⟩:=z;rw[yK rfl]at u;rw[yq9 n a o c bs r s G];obtain⟨z1,z2⟩:=Xz n bs s;have L:(MkS.fy n bs s).2.length=(bs.keys.filter (· ≠ qf)).length+1:=by
  unfold MkS.fy;rw[Co bs _ _ E];simp;omega
 obtain⟨N,a1,a2,a3,-⟩:=(hv.eq z1 z2).push (v:=0) (ks:=(MkS.fy n bs s).2) (tg:=zX (MkS.fy n bs s).2.length 0) (op:=10) (o:=d) (d':=d) (he.eq z1 z2) (by rw[z1,K];exact ff J g) (λq=>kG);rw[z1]at a1 a3;have hS:(MkS.ki n bs s).code=s.code++[⟨10,s.pos,0,(MkS.fy n bs s).2,zX (MkS.fy n bs s).2.length 0⟩]:=sk n bs s;have D:(MkS.ki n bs s).code.length=s.code.length+1:=by rw[hS];simp
 have t:(MkS.ki n bs s).code[s.code.length]? = some ⟨10,s.pos,0,(MkS.fy n bs s).2,zX (MkS.fy n bs s).2.length 0⟩:=by rw[hS];simp
 have a2:KJ (MkS.ki n bs s) N (λp=>P p\/p.1=s.code.length):=by
  have:=a2;rw[z1]at this;exact this
 have b:∀k p,p∈Ih n bs s k ↔ p=(s.code.length,MkS.place bs.keys k):=λk p=>by rw[Ih,zG,z1]
 have f:∀x,(MkS.ki n bs s).code[s.code.length]? = some x->x.op=10/\x.tg.length=(bs.keys.filter (· ≠ qf)).length+1:=λx hx=>by
  rw[t]at hx;cases hx;exact⟨rfl,by rw[<-L];simp⟩
 obtain⟨O,b1,b2,b3,I⟩:=nU hb (P:=P) B u g (KY n bs s) a2 (λp hp=>by
  rw[D];rcases hp with hp|hp
  .exact BN
  .exact J) (by rw[D];exact a3) w (λe=>by rw[e]at h;cases h)
  ⟨λk _=>by simp[Ih],λk m=>⟨_,(b k _).2 rfl,_,t,by have:=zl1 (ks:=bs.keys) k;show MkS.place bs.keys k<(zX _ 0).length;rw[fL,L];omega⟩,λk _ p hp=>by rw[(b k p).1 hp,D];exact dK _,λk _ p hp x hx _=>by
   rw[(b k p).1 hp]at hx|-;obtain⟨q1,q2⟩:=f x hx;exact⟨.inr rfl,by rw[q1,a1 _ (Y _),K];exact ff J g⟩,λk m k' A F p hp l=>by
   rw[b]at hp l;rw[hp]at l;exact F (sj m A (by injection l))⟩
  (λk x j hx S hR=>by
   rcases hR with hR|hR
   .exact .inl hR
   .have hR:k=s.code.length:=hR;subst hR;obtain⟨-,q2⟩:=f x hx;obtain⟨key,h1,h2⟩:=eD w h (j:=j) J;exact .inr ⟨key,h1,by rw[b,h2]⟩)
  (λp hp=>⟨.inl hp,λkey _ q=>by rw[b]at q;have:=hP p hp;rw[q]at this;exact qV _ this⟩)
 obtain⟨M,y⟩:=zw (uD ((MkS.uw bs (MkS.bO n bs s) (MkS.ki n bs s) []).2.map λi=>(i,0)) (MkS.uw bs (MkS.bO n bs s) (MkS.ki n bs s) []).1);have R:(MkS.ki n bs s).code.length<=M.code.length:=by
  rw[<-y,(km _ _).1];exact(go_facts bs _ _ (KY n bs s) _ []).1
 rw[y]at b2 b3 I|-;obtain⟨Q,c1,c2,c3,c4⟩:=hr M O P d C hdr g b2 b3 (λp hp=>BN) I;exact⟨Q,λk m=>by rw[c1 k J,b1 k J,a1 k m],c2,c3,c4⟩
def O3:∀(bs:Fo) (s:MkS) (acc:List (Wd×Nat)) (H:Nat->Nat) (P:Nat×Nat->Prop) (d N:Nat),bs.xm=true->0<d->d<=6->N<=s.code.length->KJ s H (λp=>P p\/N<=p.1/\p.1<s.code.length)->Xj s (λp=>P p\/N<=p.1/\p.1<s.code.length)->H s.code.length=d ->
  (∀i,N<=i->i<s.code.length->∃x,s.code[i]? = some x/\x.op=7/\x.tg.length=1/\H i=d)->(∀p∈acc,N<=p.2/\p.2<s.code.length)->(∀i,N<=i->i<s.code.length->∃k,(k,i)∈acc) ->
  ∃H',(∀k,k<=s.code.length->H' k=H k)/\KJ (MkS.vX bs s acc).1 H' (λp=>P p\/N<=p.1/\p.1<(MkS.vX bs s acc).1.code.length)/\Xj (MkS.vX bs s acc).1 (λp=>P p\/N<=p.1/\p.1<(MkS.vX bs s acc).1.code.length)/\H' (MkS.vX bs s acc).1.code.length=d /\
   (∀i,N<=i->i<(MkS.vX bs s acc).1.code.length->∃x,(MkS.vX bs s acc).1.code[i]? = some x/\x.op=7/\x.tg.length=1/\H' i=d)/\(∀i,N<=i->i<(MkS.vX bs s acc).1.code.length->∃k,(k,i)∈(MkS.vX bs s acc).2)
 |.xi k a m r,s,acc,H,P,d,N,l,h0,g,z,hv,he,f,hx,ha,hb=>by
  rw[MkS.vX];split
  .obtain⟨n,a1,a2,a3,a4⟩:=hv.push (op:=7) (v:=yb k.tail) (ks:=[]) (tg:=[0]) (o:=d) (d':=d) he (by rw[f];exact JW J h0 g) (λ_=>rfl);have b:(s.put 7 (yb k.tail) [] [0]).code.length=s.code.length+1:=(by rw[xy];simp);have c:(s.put 7 (yb k.tail) [] [0]).code[s.code.length]? = some ⟨7,s.pos,yb k.tail,[],[0]⟩:=Vn;have hc:∀p:Nat×Nat,((P p\/N<=p.1/\p.1<s.code.length)\/p.1=s.code.length) ↔ (P p\/N<=p.1/\p.1<(s.put 7 (yb k.tail) [] [0]).code.length):=λp=>by
    rw[b];constructor
    .rintro((q|q)|q)
     .exact .inl q
     .exact .inr ⟨q.1,J⟩
     .exact .inr ⟨J,J⟩
    .rintro(q|q)
     .exact .inl (.inl q)
     .by_cases e:p.1=s.code.length
      .exact .inr e
      .exact .inl (.inr ⟨q.1,J⟩)
   obtain⟨t,b1,b2,b3,u,w,y⟩:=O3 r (s.put 7 (yb k.tail) [] [0]) (acc++[(k,s.code.length)]) n P d N l h0 g J (a2.US (λ_ _ _ _ _=>hc _)) ((a4 rfl).US (λ_ _ _ _ _=>hc _)) (by rw[b];exact a3)
    (λi h1 h2=>by
     rw[b]at h2;by_cases e:i=s.code.length
     .subst e;exact⟨_,c,rfl,rfl,by rw[a1 _ (Y _)];exact f⟩
     .obtain⟨x,c1,c2,c3,c4⟩:=hx i h1 J;exact⟨x,by rw[xy,zi J];exact c1,c2,c3,by rw[a1 i J];exact c4⟩)
    (λp hp=>by
     rw[b];rcases zS.1 hp with hp|hp
     .have:=ha p hp;omega
     .rw[zG]at hp;rw[hp];simp only;omega)
    (λi h1 h2=>by
     rw[b]at h2;by_cases e:i=s.code.length
     .exact⟨k,zy0 _ (by rw[e];exact zG.2 rfl)⟩
     .obtain⟨k',j⟩:=hb i h1 J;exact⟨k',yex _ j⟩)
   exact⟨t,λi hi=>(b1 i J).trans (a1 i hi),b2,b3,u,w,y⟩
  .exact O3 r s acc H P d N l h0 g z hv he f hx ha hb
 |.nil,s,acc,H,P,d,N,_,_,_,_,hv,he,f,hx,_,hb=>⟨H,λ_ _=>rfl,hv,he,f,hx,hb⟩
 |.text _ _,_,_,_,_,_,_,h,_,_,_,_,_,_,_,_,_=>xp
 |.hash _,_,_,_,_,_,_,h,_,_,_,_,_,_,_,_,_=>xp
 |.put _ _ _,_,_,_,_,_,_,h,_,_,_,_,_,_,_,_,_=>xp
 |.num _ _ _,_,_,_,_,_,_,h,_,_,_,_,_,_,_,_,_=>xp
 |.br _ _ _ _ _ _ _,_,_,_,_,_,_,h,_,_,_,_,_,_,_,_,_=>xp
def Cp:∀(bs:Fo) (s:MkS) (acc:List (Wd×Nat)),∀p∈(MkS.vX bs s acc).2,p∈acc\/p.1∈bs.keys
 |.xi k a m r,s,acc,p,hp=>by
  rw[MkS.vX]at hp;show p∈acc\/p.1∈k::r.keys;split at hp
  .rcases Cp r _ _ p hp with q|q
   .rcases zS.1 q with q|q
    .exact .inl q
    .rw[zG]at q;rw[q];exact .inr (.head _)
   .exact .inr (.tail _ q)
  .exact(Cp r s acc p hp).imp id (.tail _)
 |.nil,_,_,_,hp => .inl hp
 |.text _ _,_,_,_,hp => .inl hp
 |.hash _,_,_,_,hp => .inl hp
 |.put _ _ _,_,_,_,hp => .inl hp
 |.num _ _ _,_,_,_,hp => .inl hp
 |.br _ _ _ _ _ _ _,_,_,_,hp => .inl hp
def O4:∀(bs:Fo) (s:MkS) (acc:List (Wd×Nat)),bs.keys.Nodup->(∀p∈acc,p.1 ∉ bs.keys)->(acc.map (·.1)).Nodup->((MkS.vX bs s acc).2.map (·.1)).Nodup
 |.xi k a m r,s,acc,hn,h1,h2=>by
  rw[show(Fo.xi k a m r).keys=k::r.keys from rfl]at hn h1;rw[Yu]at hn;rw[MkS.vX];split
  .refine O4 r _ _ hn.2 (λp hp=>?_) ?_
   .rcases zS.1 hp with q|q
    .exact λz=>h1 p q (.tail _ z)
    .rw[zG]at q;rw[q];exact hn.1
   .rw[Tn,List.nodup_append];refine⟨h2,zV,λx hx y hy e=>?_⟩;obtain⟨p,hp,rfl⟩:=uy.1 hx;simp only[vV,De,zG]at hy;rw[hy]at e;exact h1 p hp (e ▸ .head _)
  .exact O4 r s acc hn.2 (λp hp z=>h1 p hp (.tail _ z)) h2
 |.nil,_,_,_,_,h2=>h2
 |.text _ _,_,_,_,_,h2=>h2
 |.hash _,_,_,_,_,h2=>h2
 |.put _ _ _,_,_,_,_,h2=>h2
 |.num _ _ _,_,_,_,_,h2=>h2
 |.br _ _ _ _ _ _ _,_,_,_,_,h2=>h2
def nK{l:List (Wd×Nat)}(h:(l.map (·.1)).Nodup){k:Wd}(hm:(k,i)∈l):l.lookup k=some i:=by
 induction l with
 |nil=>cases hm
 |cons p l b =>
  obtain⟨k',i'⟩:=p;rw[vV,Yu]at h;rw[Qn];rcases yV.1 hm with e|e
  .cases e;simp
  .have a:¬k=k':=λq=>h.1 (by rw[<-q];exact uy.2 ⟨_,e,rfl⟩)
   rw[show(k==k')=false by simpa using a];exact b h.2 e
variable{f:Fo}
def eB:∀(bs:Fo) (s:MkS) (acc:List (Wd×Nat)),bs.xm=true->∀k∈bs.keys,k.head? = some 61->∃i,(k,i)∈(MkS.vX bs s acc).2
 |.xi k a m r,s,acc,b,k',hk,h=>by
  rw[MkS.vX];rw[show(Fo.xi k a m r).keys=k::r.keys from rfl]at hk;rcases yV.1 hk with rfl|hk
  .rw[yK h];exact⟨_,((ZG r _ _).2.1).subset (zy0 _ (zG.2 rfl))⟩
  .split
   .exact eB r _ _ b k' hk h
   .exact eB r s acc b k' hk h
 |.nil,_,_,_,_,hk,_=>YK
 |.text _ _,_,_,h,_,_,_=>xp
 |.hash _,_,_,h,_,_,_=>xp
 |.put _ _ _,_,_,h,_,_,_=>xp
 |.num _ _ _,_,_,h,_,_,_=>xp
 |.br _ _ _ _ _ _ _,_,_,h,_,_,_=>xp
def Zq{t:Nat}{key:Wd}{p:Nat×Nat}:p∈CU ks t key ↔ ∃c,c<6/\(YF.getD c []=key\/key=qf/\YF.getD c [] ∉ ks)/\p=(t,c):=by
 unfold CU;rw[uy];constructor
 .rintro⟨c,hc,rfl⟩;rw[uv,Y2,decide_eq_true_eq]at hc;exact⟨c,hc.1,hc.2,rfl⟩
 .rintro⟨c,h1,h2,rfl⟩;exact⟨c,by rw[uv,Y2,decide_eq_true_eq];exact⟨h1,h2⟩,rfl⟩
def yj3{k:Wd}(h:k∈YF):∃c,c<6/\YF.getD c []=k:=by
 obtain⟨c,hc,e⟩:=ja.1 h;refine⟨c,hc,?_⟩;rw[zA,zj hc];exact e
def xy4(h:c<6):YF.getD c []∈YF:=by
 rw[zA,zj (show c<YF.length from h)];exact yf _
def zmd:∀k∈YF,k.head?≠some 61:=zW
def xy5{n:Wd}{a f:Nat}{o:Wd}{r:Fo}(hf:f≠0)(hb:VL bs)(hr:VM r)(hrm:r.ya=true):VM (.br n a f o c bs r):=by
 intro s H P d C hdp iB hv he hP hH;obtain⟨wo,hlg,D9,R,hkb,hkr⟩:=C;obtain⟨G,hdr⟩:=hdp;rw[yv hf]at G;obtain⟨w,G⟩:=G;rw[yqz n a f o c bs r s hf hrm];obtain⟨-,z1,z2⟩:=xS s n;obtain⟨H1,a1,a2,a3,a4⟩:=(hv.eq z1 z2).more (op:=4) (v:=yb o) (ks:=[s.num n]) (o:=d+1) (he.eq z1 z2) (by rw[z1,hH];exact eF w) rfl;rw[z1]at a1 a3;obtain⟨u,S⟩:=zw ((s.const n).put 4 (yb o) [s.num n] []);have pj:u.code.length=s.code.length+1:=by rw[<-S,xy,zy,z1];rfl
 rw[S]at a2 a4;have pH:MkS.VH n o bs s=MkS.vX bs u []:=by rw[<-S];rfl
 have YU:∀p:Nat×Nat,P p ↔ (P p\/u.code.length<=p.1/\p.1<u.code.length):=λp=>⟨.inl,λq=>q.elim id (λq=>J)⟩
 obtain⟨H2,b1,b2,b3,b4,b5,b6⟩:=O3 bs u [] H1 P (d+1) u.code.length hlg J w (Y _) (a2.US (λ_ _ _ _ _=>YU _)) (a4.US (λ_ _ _ _ _=>YU _)) (by rw[pj];exact a3) (λi h1 h2=>J) (λp hp=>by cases hp) (λi h1 h2=>J);have g:=(ZG bs u []).2.2;have hAl:=((ZG bs u []).1).length_le;have E:=CK bs u [];have W:=NI bs u [] (λp hp=>by cases hp) (λp hp=>by cases hp);have F:=Cp bs u [];have L:=O4 bs u [] D9 (λp hp=>by cases hp) zV;have hAx:=eB bs u [] hlg;have B:∀k,QA n o bs s k=match (MkS.vX bs u []).2.lookup k with|some i=>[(i,0)]|none=>CU bs.keys (MkS.vX bs u []).1.code.length k:=λk=>by unfold QA;rw[pH];rfl
 have hS:MkS.kU n o f bs s=(MkS.vX bs u []).1.put (if f=2 then 9 else 8) 0 [] (zX 6 0):=by unfold MkS.kU;rw[pH]
 obtain⟨A,hA⟩:=zw ((MkS.vX bs u []).2);obtain⟨D,Yt⟩:=zw ((MkS.vX bs u []).1);rw[Yt]at b2 b3 b4 b5 b6 g hAl hS;simp only[hA,Yt]at g E W F L hAx B b6;have g:∀p∈A,u.code.length<=p.2/\p.2<D.code.length:=λp hp=>(g p hp).elim (λq=>kG) id
 have E:∀p∈A,p.1.head? = some 61:=λp hp=>(E p hp).elim (λq=>kG) id
 have F:∀p∈A,p.1∈bs.keys:=λp hp=>(F p hp).elim (λq=>kG) id
 obtain⟨op,dL⟩:=zw ((if f=2 then 9 else 8));rw[dL]at hS;have vid:op=8\/op=9:=by rw[<-dL];split<;>simp
 have vib:ey op=false:=by rcases vid with rfl|rfl<;>rfl
 obtain⟨H3,c1,c2,c3,-⟩:=b2.push (v:=0) (ks:=[]) (tg:=zX 6 0) (op:=op) (o:=d+1) (d':=d+1) b3 (by rw[b4];exact JW J J w) (λq=>absurd (vib.symm.trans q) zW);rw[<-hS]at c2;have O:(MkS.kU n o f bs s).code.length=D.code.length+1:=by rw[hS,xy];simp
 have M:(MkS.kU n o f bs s).code[D.code.length]? = some ⟨op,D.pos,0,[],zX 6 0⟩:=by rw[hS,xy];simp
 have z:∀i,i<D.code.length->(MkS.kU n o f bs s).code[i]? = D.code[i]? := λi hi=>by rw[hS,xy,zi hi]
 have l:∀k i,A.lookup k=some i->QA n o bs s k=[(i,0)]/\(k,i)∈A:=λk i h=>⟨by rw[B,h],CQ h⟩
 have m:∀k,A.lookup k=none->QA n o bs s k=CU bs.keys D.code.length k:=λk h=>by rw[B,h]
 have hlc:∀k∈YF,A.lookup k=none:=λk C=>by
  cases h:A.lookup k with
  |none=>rfl
  |some i=>exact absurd (E _ (CQ h)) (zmd k C)
 have hoC:qf∈YF:=zW;obtain⟨H4,d1,d2,d3,d4⟩:=nU hb (P:=P) hkb G w (Xr n o bs s) c2 (λp hp=>by
  rw[O];rcases hp with(hp|hp)|hp
  .exact BN
  .omega
  .exact J) (by rw[O];exact c3) D9 (λe=>by rw[e]at R;cases R)
  ⟨λk _=>by
   cases h:A.lookup k with
   |some i=>rw[(l k i h).1];simp
   |none =>
    rw[m k h];exact LH _ (λa b h e=>h BP) (List.nodup_range.filter _),
  λk C=>by
   cases h:A.lookup k with
   |some i =>
    obtain⟨h1,h2⟩:=l k i h;obtain⟨x,K,T,e3,U⟩:=b5 i (g _ h2).1 (g _ h2).2;exact⟨(i,0),by rw[h1];exact zG.2 rfl,x,by rw[z i (g _ h2).2];exact K,by simp only;omega⟩
   |none =>
    have I:k∈YF:=by
     by_cases hx:k.head? = some 61
     .obtain⟨i,hi⟩:=hAx k C hx;rw[nK L hi]at h;cases h
     .exact wo hf k C hx
    obtain⟨c,hc,e⟩:=yj3 I;exact⟨(D.code.length,c),by rw[m k h,Zq];exact⟨c,hc,.inl e,rfl⟩,_,M,by simp;exact hc⟩,
  λk _ p hp=>by
   rw[O];cases h:A.lookup k with
   |some i=>rw[(l k i h).1,zG]at hp;have:=(g _ (l k i h).2).2;rw[hp];simp only at *;omega
   |none=>rw[m k h,Zq]at hp;obtain⟨c,_,_,rfl⟩:=hp;exact dK _,
  λk _ p hp x hx _=>by
   cases h:A.lookup k with
   |some i =>
    obtain⟨h1,h2⟩:=l k i h;rw[h1,zG]at hp;subst hp;obtain⟨y,K,T,e3,U⟩:=b5 i (g _ h2).1 (g _ h2).2;simp only at hx|-;rw[z i (g _ h2).2,K]at hx;cases hx;exact⟨.inl (.inr (g _ h2)),by rw[T,c1 i (by have:=(g _ h2).2;simp only at this;omega),U];exact JW J J w⟩
   |none =>
    rw[m k h,Zq]at hp;obtain⟨c,_,_,rfl⟩:=hp;simp only at hx|-;rw[M]at hx;cases hx;refine⟨by first|exact .inr rfl|simp,?_⟩;show jU op (H3 D.code.length)=_;rw[c1 _ (Y _),b4];exact JW J J w,
  λk C k' hk' Q p hp t=>by
   cases h:A.lookup k with
   |some i =>
    obtain⟨h1,h2⟩:=l k i h;rw[h1,zG]at hp;cases V:A.lookup k' with
    |some i' =>
     obtain⟨h3,h4⟩:=l k' i' V;rw[h3,zG]at t;rw[hp]at t;cases t;have:=W _ h2 _ h4 rfl;cases this;exact Q rfl
    |none =>
     rw[m k' V,Zq]at t;obtain⟨c,_,_,e⟩:=t;rw[hp]at e;cases e;have:=(g _ h2).2;exact Bx
   |none =>
    rw[m k h,Zq]at hp;obtain⟨c,hc,q,e⟩:=hp;cases V:A.lookup k' with
    |some i' =>
     obtain⟨h3,h4⟩:=l k' i' V;rw[h3,zG]at t;rw[t]at e;cases e;have:=(g _ h4).2;exact Bx
    |none =>
     rw[m k' V,Zq]at t;obtain⟨c',hc',q',e'⟩:=t;rw[e]at e';cases e';rcases q with q|q
     .rcases q' with q' |q'
      .exact Q (q.symm.trans q')
      .exact q'.2 (q▸C)
     .rcases q' with q' |q'
      .exact q.2 (q'▸hk')
      .exact Q (q.1.trans q'.1.symm)⟩
  (λk x j hx hj hR=>by
   rcases hR with(hR|hR)|hR
   .exact .inl hR
   .obtain⟨key,hm⟩:=b6 k hR.1 hR.2;obtain⟨y,K,T,e3,U⟩:=b5 k hR.1 hR.2;rw[z k hR.2,K]at hx;cases hx;have hj0:j=0:=J;subst hj0;exact .inr ⟨key,F _ hm,by rw[(l key k (nK L hm)).1];exact zG.2 rfl⟩
   .have hR:k=D.code.length:=hR;subst hR;rw[M]at hx;cases hx;have N:j<6:=My;by_cases I:YF.getD j []∈bs.keys
    .exact .inr ⟨_,I,by rw[m _ (hlc _ (xy4 N)),Zq];exact⟨j,N,.inl rfl,rfl⟩⟩
    .exact .inr ⟨qf,R,by rw[m _ (hlc _ hoC),Zq];exact⟨j,N,.inr ⟨rfl,I⟩,rfl⟩⟩)
  (λp hp=>⟨.inl (.inl hp),λkey _ q=>by
   have hpl:=hP p hp;cases h:A.lookup key with
   |some i =>
    obtain⟨h1,h2⟩:=l key i h;rw[h1,zG]at q;have:=(g _ h2).1;rw[q]at hpl;simp only at *;omega
   |none =>
    rw[m key h,Zq]at q;obtain⟨c,_,_,rfl⟩:=q;simp only at hpl;omega⟩)
 obtain⟨s4,Ow⟩:=zw (uD ((MkS.uw bs (MkS.kV n o bs s) (MkS.kU n o f bs s) []).2.map λi=>(i,0)) (MkS.uw bs (MkS.kV n o bs s) (MkS.kU n o f bs s) []).1);have hl4:(MkS.kU n o f bs s).code.length<=s4.code.length:=by
  rw[<-Ow,(km _ _).1];exact(go_facts bs _ _ (Xr n o bs s) _ []).1
 rw[Ow]at d2 d3 d4|-;obtain⟨H5,K,T,e3,U⟩:=d2.more (op:=5) (v:=0) (ks:=[]) (o:=d) d3 (by rw[d4];exact eG w) rfl;have hl5:(s4.put 5 0 [] []).code.length=s4.code.length+1:=Vn;obtain⟨H6,g1,g2,g3,g4⟩:=hr (s4.put 5 0 [] []) H5 P d hkr hdr iB T U (λp hp=>BN) (by rw[hl5];exact e3);exact⟨H6,λk C=>by rw[g1 k J,K k J,d1 k J,c1 k J,b1 k J,a1 k C],g2,g3,g4⟩
def dy:∀f:Fo,(f.ya=true->VM f)/\(f.xm=true->VL f)
 |.nil=>⟨λ_=>λs H P d _ _ _ hv he _ i=>⟨H,λ_ _=>rfl,hv,he,i⟩,λ_=>xy2⟩
 |.text t r=>⟨λh=>λs H P d g e b hv he j i=>Da ((dy r).1 h) ⟨(xS s t).2.1,(xS s t).2.2⟩ g e b hv he j i (ff J b) rfl,λh=>xp⟩
 |.hash r=>⟨λh=>λs H P d g e b hv he j i=>Da ((dy r).1 h) ⟨rfl,rfl⟩ g e.2 b hv he j i (JW J e.1 b) rfl,λh=>xp⟩
 |.put n a r=>⟨λh=>λs H P d g e b hv he j i=>Da ((dy r).1 h) ⟨(xS s n).2.1,(xS s n).2.2⟩ g e b hv he j i (ff J b) rfl,λh=>xp⟩
 |.num n a r=>⟨λh=>λs H P d g e b hv he j i=>Da ((dy r).1 h) ⟨(xS s n).2.1,(xS s n).2.2⟩ g e b hv he j i (ff J b) rfl,λh=>xp⟩
 |.br n a f o c bs r=>⟨λh=>λs H P d g e b hv he j i=>by
   by_cases hf:f=0
   .subst hf;exact xy3 ((dy bs).2 g.2.1) ((dy r).1 h) h s H P d g e b hv he j i
   .exact xy5 hf ((dy bs).2 g.2.1) ((dy r).1 h) h s H P d g e b hv he j i,λh=>xp⟩
 |.xi k a m r=>⟨λh=>xp,λh=>λs H R d sl q ls g e b l hv hR i hn p=>yj2 ((dy m).1 g.1) ((dy r).2 h) s H R d sl q ls g e b l hv hR i hn p⟩
def yj4(hm:f.ya=true)(a:f.kc)(hd:f.dp 0)(l:∀i∈(MkS.all f).code,Xv (MkS.all f).cs i=true):fg (MkS.all f).cs (MkS.all f).code=true:=by
 obtain⟨H,a1,a2,a3,a4⟩:=(dy f).1 hm MkS.start (λ_=>0) (λ_=>False) 0 a hd J ⟨λk x hx=>by simp[MkS.start]at hx,λk' _ h=>by simp[MkS.start]at h⟩ (.inl rfl) (λp hp=>hp.elim) rfl;have n:mS (MkS.all f):=It.put _ 0 0 [] [] (mT It f _ ⟨λi j x y _ hx=>by simp[MkS.start]at hx,λx hx=>by simp[MkS.start]at hx⟩);obtain⟨s,hs⟩:=zw (MkS.Zx f MkS.start);have d:MkS.all f=s.put 0 0 [] []:=by rw[<-hs];rfl
 rw[hs]at a2 a3 a4;rw[d]at l n|-;have m:(s.put 0 0 [] []).code.length=s.code.length+1:=Vn;have b:(s.put 0 0 [] []).code[s.code.length]? = some ⟨0,s.pos,0,[],[]⟩:=Vn;have g:∀k' t,k'<=s.code.length->AtP s k' t->qp (s.put 0 0 [] []).code (s.put 0 0 [] []).code.length t=some k':=λk' t C h=>by
  rcases eJ (op:=0) (v:=0) (ks:=[]) (tg:=[]) h with⟨q,_⟩|⟨x,hx,rfl⟩
  .rw[m]at q;omega
  .exact zl0 n hx
 have hold:∀k x,k<s.code.length->(s.put 0 0 [] []).code[k]? = some x->s.code[k]? = some x:=λk x a hx=>by rw[xy,zi a]at hx;exact hx
 refine xzb (h:=H) ⟨?_,l,λk x hx=>?_,λk h0 a=>?_⟩
 .rw[a1 0 (zJ _)]
 .rcases ud k s.code.length with a|a
  .obtain⟨o,b1,b2,b3⟩:=a2.step k x (hold k x a hx);refine⟨o,b1,λt r=>?_⟩;unfold Db at r;rcases zS.1 r with q|q
   .split at q
    .rename_i c;rw[zG]at q;exact⟨k+1,q,J,J,b2 c⟩
    .cases q
   .obtain⟨t',h1,rfl⟩:=uy.1 q;obtain⟨j,u,e⟩:=ja.1 h1;rcases b3 j t' (by rw[zj u,e])with z|⟨k',z1,z2,E,F⟩
    .exact z.elim
    .exact⟨k',g k' t' z2 E,z1,J,F⟩
  .have D:=(zD.1 hx).1;have:k=s.code.length:=(by omega);subst this;rw[b]at hx;cases hx;exact⟨0,by rw[a4];rfl,λt r=>by simp[Db,ey]at r⟩
 .have B:Led s (λ_=>False) k:=by
   rcases ud k s.code.length with q|q
   .exact a2.led k h0 q
   .have:k=s.code.length:=(by omega);subst this;rcases a3 with z|z
    .rw[z]at h0;simp at h0
    .exact z
  obtain⟨j,x,c1,c2,c3⟩:=B;have u:=(zD.1 c2).1;refine⟨j,x,c1,by rw[xy,zi u];exact c2,?_⟩;unfold Db;rw[zS];rcases c3 with⟨c,e⟩|⟨G,t,w,_,A⟩
  .exact .inl (by rw[yK c,e];exact zG.2 rfl)
  .exact .inr (uy.2 ⟨t,ze w,g k t J A⟩)
variable{msg:Option jJ}
def Fo.hs:Bool->Fo->Prop
 |_,.nil=>True
 |b,.text _ r=>r.hs b
 |b,.hash r=>b=true/\r.hs b
 |b,.put _ _ r=>r.hs b
 |b,.num _ _ r=>r.hs b
 |b,.br _ _ f _ _ bs r=>bs.hs (decide (f≠0))/\r.hs b
 |b,.xi _ _ m r=>m.hs b/\r.hs b
def Fo.tb:Fo->Nat
 |.nil=>0
 |.text t r=>t.length+r.tb
 |.hash r=>r.tb
 |.put _ _ r=>r.tb
 |.num _ _ r=>r.tb
 |.br _ _ _ _ _ bs r=>bs.tb+r.tb
 |.xi _ _ m r=>m.tb+r.tb
def Fo.JA:∀f:Fo,f.tb<=5000->f.sh
 |.nil,_=>trivial
 |.text t r,h=>by simp only[Fo.tb]at h;exact⟨J,Fo.JA r J⟩
 |.hash r,h=>Fo.JA r h
 |.put _ _ r,h=>Fo.JA r h
 |.num _ _ r,h=>Fo.JA r h
 |.br _ _ _ _ _ bs r,h=>by simp only[Fo.tb]at h;exact⟨Fo.JA bs J,Fo.JA r J⟩
 |.xi _ _ m r,h=>by simp only[Fo.tb]at h;exact⟨Fo.JA m J,Fo.JA r J⟩
def Fo.fP:∀f g:Fo,(f.app g).tb=f.tb+g.tb
 |.nil,g=>by simp[Fo.app,Fo.tb]
 |.text t r,g=>WB
 |.hash r,g=>WM
 |.put _ _ r,g=>WM
 |.num _ _ r,g=>WM
 |.br _ _ _ _ _ bs r,g=>WB
 |.xi _ _ m r,g=>WB
def Fo.Vp(b:Bool):∀f g:Fo,(f.app g).hs b ↔ f.hs b/\g.hs b
 |.nil,g=>by simp[Fo.app,Fo.hs]
 |.text t r,g=>WH
 |.hash r,g=>WV
 |.put _ _ r,g=>WH
 |.num _ _ r,g=>WH
 |.br _ _ _ _ _ bs r,g=>WV
 |.xi _ _ m r,g=>WV
def Fo.eC{b:Bool}(h:f.hs b)(t:Wd):(f.yn t).hs b/\(f.yn t).tb<=f.tb+t.length:=by
 cases a:f.xD with
 |none =>
  rw[qv f t a];exact⟨(Fo.Vp b _ _).2 ⟨h,trivial⟩,by rw[Fo.fP];simp only[Fo.tb];omega⟩
 |some s =>
  obtain⟨pre,h1,h2,c⟩:=vo f s a;rw[h1]at h;rw[c];refine⟨(Fo.Vp b _ _).2 ⟨((Fo.Vp b _ _).1 h).1,trivial⟩,?_⟩;rw[Fo.fP,show f.tb=(pre.app (.text s .nil)).tb from congrArg _ h1,Fo.fP];simp only[Fo.tb,zy];omega
def SC(m:jJ):Prop:=∀num i f j,m num i = .ok (f,j)->f.hs num/\f.tb+4*i<=4*j
section
variable {rs:List Int}
def xy6{num:Bool}(hm:∀m,msg=some m->SC m)(h:bM rs msg num i = .ok (f,j)):f.hs num/\f.tb+4*i<=4*j:=by
 unfold bM at h;obtain⟨k,a,h1,h2⟩:=zF h;obtain⟨u,b,e,d⟩:=zF h2;obtain⟨x,r⟩:=NN h1;have s:=(yS e).2;have t:=yl rs a;cases msg with
 |none=>cases d
 |some m =>
  obtain⟨g,c,l,n⟩:=zF (show(m num b).then _=_ from d);obtain⟨u2,z,o,p⟩:=zF n;obtain⟨q,y⟩:=hm m rfl _ _ _ _ l;have v:=(yS o).2;have w:=yl rs z;cases p;refine⟨⟨q,trivial⟩,?_⟩;exact GK
def nJ{num:Bool}(hm:∀m,msg=some m->SC m):∀(n:Nat) (acc:Fo) (i j:Nat) (f:Fo),qx rs msg num n acc i = .ok (f,j)->acc.hs num->f.hs num/\f.tb+4*i<=acc.tb+4*j
 | 0,acc,i,j,f,h,_=>xp
 |n+1,acc,i,j,f,h,ha=>by
  rw[qx]at h;split at h
  .exact Wr
  .obtain⟨g,q,h1,h2⟩:=zF h;obtain⟨g1,g2⟩:=xy6 hm h1;obtain⟨k1,k2⟩:=nJ hm n _ _ _ _ h2 ((Fo.Vp num _ _).2 ⟨ha,g1⟩);rw[Fo.fP]at k2;exact⟨k1,J⟩
def xy7{num:Bool}(hm:∀m,msg=some m->SC m)(h:gH rs msg i = .ok (f,j)):f.hs num/\f.tb+4*i<=4*j:=by
 unfold gH at h;obtain⟨u,a,h1,h2⟩:=zF h;obtain⟨nm,b,y,g⟩:=zF h2;have B:=(yS h1).2;have C:=yl rs a;obtain⟨⟨hn,-⟩,D⟩:=JN y;have E:=yl rs b;clear h h1 h2 y;split at g
 .obtain⟨u,z,k,e⟩:=zF g;have:=(yS k).2;cases e;exact⟨trivial,GK⟩
 .obtain⟨L,c,k,e⟩:=zF g;have F:=jo k;have G:=yl rs (xx rs b+1);have H:=yl rs c;clear g k;split at e
  .obtain⟨u,z,v,w⟩:=zF e;have:=(yS v).2;cases w;exact⟨trivial,GK⟩
  .split at e
   .cases e
   .next form x =>
    obtain⟨u,d,v,w⟩:=zF e;obtain⟨o,l,A,n⟩:=zF w;obtain⟨bs,q,p,r⟩:=zF n;obtain⟨u,z,s,t⟩:=zF r;have:=(yS v).2;have:=yl rs d;obtain⟨K,_⟩:=NO A;obtain⟨b1,b2⟩:=nJ hm _ _ _ _ _ p trivial;have I:=(yS s).2;cases t;refine⟨⟨b1,trivial⟩,?_⟩;simp only[Fo.tb]at b2|-;omega
def Cr{num:Bool}(hm:∀m,msg=some m->SC m):∀(n:Nat) (acc:Fo) (i j:Nat) (f:Fo),vJ rs msg num n acc i = .ok (f,j)->acc.hs num->f.hs num/\f.tb+4*i<=acc.tb+4*j
 | 0,acc,i,j,f,h,_=>xp
 |n+1,acc,i,j,f,h,ha=>by
  rw[vJ]at h;split at h
  .exact Wr
  split at h
  .obtain⟨g,q,h1,h2⟩:=zF h;obtain⟨g1,g2⟩:=xy7 (num:=num) hm h1;obtain⟨k1,k2⟩:=Cr hm n _ _ _ _ h2 ((Fo.Vp num _ _).2 ⟨ha,g1⟩);rw[Fo.fP]at k2;exact⟨k1,J⟩
  split at h
  .next a =>
   obtain⟨k1,k2⟩:=Cr hm n _ _ _ _ h ((Fo.Vp num _ _).2 ⟨ha,a.2,trivial⟩);rw[Fo.fP]at k2;simp only[Fo.tb]at k2;exact⟨k1,J⟩
  .obtain⟨t1,t2⟩:=Fo.eC ha (qq rs num i).1;obtain⟨k1,k2⟩:=Cr hm n _ _ _ _ h t1;have b:=L5 rs num i;exact⟨k1,J⟩
def nG:∀n,SC (gI rs n)
 | 0,num,i,f,j,h=>by
  rw[gI]at h;simpa[Fo.tb]using Cr (λm e=>gG) _ _ _ _ _ h trivial
 |n+1,num,i,f,j,h=>by
  rw[gI]at h;simpa[Fo.tb]using Cr (λm e=>by cases e;exact nG n) _ _ _ _ _ h trivial
end
def yj5(h:vv l = .ok f):f.hs false/\f.sh:=by
 unfold vv at h;split at h
 .cases h
 split at h
 .cases h
 next h1 _ =>
 have QD:=Qk l;have hr:(xk l).length<=1000:=J;cases hp:gg (xk l) with
 |error e=>rw[hp]at h;cases h
 |ok x =>
  rw[hp]at h;cases h;unfold gg at hp;obtain⟨g,q,h2,a⟩:=zF (show _=Except.ok (x.1,x.2)from hp);obtain⟨hf,hm⟩:=nG 5 _ _ _ _ h2;have he:q<=(xk l).length:=ZK _ _ _ _ _ h2 (zJ _);split at a
  .cases a;exact⟨hf,Fo.JA _ J⟩
  .cases a
variable{N:Nat}
def Fo.OT:Fo->Prop
 |.nil=>True
 |.text _ r=>r.OT
 |.hash r=>r.OT
 |.put _ _ r=>r.OT
 |.num _ _ r=>r.OT
 |.br _ _ _ _ _ bs r=>qf∈bs.keys/\bs.OT/\r.OT
 |.xi _ _ m r=>m.OT/\r.OT
def xy8(b:Nat):∀(f:Fo) (xC:List Wd) (acc:List (Nat×Nat)),K6 b xC acc f=[]->qf∈xC\/qf∈f.keys:=by
 have hn:∀(f:Fo) (xC:List Wd) (acc:List (Nat×Nat)),(if Bo∈xC then acc else acc++[(6,b)])=[]->qf∈xC\/qf∈f.keys:=λf xC acc h=>by
  split at h
  .next c=>exact .inl c
  .simp at h
 intro f;induction f with
 |xi k a m r _ d =>
  intro xC acc h;rw[K6]at h;rcases d _ _ h with h1|h1
  .rcases yV.1 h1 with h1|h1
   .exact .inr (by rw[Fo.keys,h1];exact qO)
   .exact .inl h1
  .exact .inr (by rw[Fo.keys];exact uj _ h1)
 |nil=>intro xC acc h;exact hn .nil xC acc h
 |text _ _ _=>intro xC acc h;exact hn (.text _ _) xC acc h
 |hash _ _=>intro xC acc h;exact hn (.hash _) xC acc h
 |put _ _ _ _=>intro xC acc h;exact hn (.put _ _ _) xC acc h
 |num _ _ _ _=>intro xC acc h;exact hn (.num _ _ _) xC acc h
 |br _ _ _ _ _ _ _ _ _=>intro xC acc h;exact hn (.br _ _ _ _ _ _ _) xC acc h
def du:∀(f:Fo) (s s':KP),vg gB f s = .go true s'->s'.2=[]->s.2=[]/\f.OT
 |.nil,s,s',h,e=>by
  cases h;exact⟨e,trivial⟩
 |.text _ r,s,s',h,e=>du r s s' h e
 |.hash r,s,s',h,e=>du r s s' h e
 |.put n a r,s,s',h,e=>by
  obtain⟨h1,h2⟩:=du r (uV s n a 0) s' h e;exact⟨Xy h1,h2⟩
 |.num n a r,s,s',h,e=>by
  obtain⟨h1,h2⟩:=du r (uV s n a 1) s' h e;exact⟨Xy h1,h2⟩
 |.br n a f o c bs r,s,s',h,e=>by
  obtain⟨b,h1⟩:∃b:KP,((uV s n a (jH (.br n a f o c bs .nil))).1,(uV s n a (jH (.br n a f o c bs .nil))).2++K6 c [] [] bs)=b:=⟨_,rfl⟩;have h2:(vg gB bs b).then (λs=>vg gB r s) = .go true s':=by rw[<-h1];exact h
  obtain⟨p,l⟩:=jk bs b;rw[l]at h2;obtain⟨g,i⟩:=du r p s' h2 e;obtain⟨d,j⟩:=du bs b p l g;rw[<-h1]at d;obtain⟨q,t⟩:=xvj.1 d;exact⟨Xy q,(xy8 c bs _ _ t).resolve_left zV,j,i⟩
 |.xi k a m r,s,s',h,e=>by
  obtain⟨b,h1⟩:=jk m s;have h2:(vg gB m s).then (λs=>vg gB r s) = .go true s':=h;rw[h1]at h2;obtain⟨g,i⟩:=du r b s' h2 e;obtain⟨d,j⟩:=du m s b h1 g;exact⟨d,j,i⟩
def yj6(h:fD f=none):f.OT:=by
 obtain⟨s,hs⟩:=jk f ((λ_=>none),[]);have e:gO f=s.2:=Ws;unfold fD at h;refine(du f _ s hs ?_).2;exact zu9
def Fo.Vh:∀(b:Bool) (f:Fo),f.wf N=true->f.once->f.OT->f.hs b->f.vok b
 |_,.nil,_,_,_,_=>trivial
 |b,.text t r,w,o,t2,h=>Fo.Vh b r w o t2 h
 |b,.hash r,w,o,t2,h=>⟨h.1,Fo.Vh b r w o t2 h.2⟩
 |b,.put _ _ r,w,o,t2,h=>zuj
 |b,.num _ _ r,w,o,t2,h=>zuj
 |b,.br _ _ f _ _ bs r,w,o,t2,h=>by
  simp only[Fo.wf,zv]at w;exact⟨w.1.1.1.2,o.1,t2.1,Fo.Vh _ bs w.1.2 o.2.1 t2.2.1 h.1,Fo.Vh b r w.2 o.2.2 t2.2.2 h.2⟩
 |b,.xi _ _ m r,w,o,t2,h=>by
  simp only[Fo.wf,zv]at w;exact⟨w.1.1.1.2,Fo.Vh b m w.1.2 o.1 t2.1 h.1,Fo.Vh b r w.2 o.2 t2.2 h.2⟩
def Ja(h:vv l = .ok f)(hc:fD f=none):f.ya=true/\f.vok false/\f.YD/\f.sh/\f.cw<=90000:=by
 have a:=UZ h;obtain⟨h1,h2⟩:=yj5 h;obtain⟨b,c⟩:=CH h hc;exact⟨a.msg,Fo.Vh false f a.wf (S5 hc) (yj6 hc) h1,b,h2,J⟩
variable{pos:Nat}{t:Wd}
def zmb(num:Bool)(k:Wd):Prop:=num=true->k.head?≠some 61->k∈YF
def Fo.sq:Nat->Fo->Prop
 |_,.nil=>True
 |n,.text _ r=>r.sq n
 |n,.hash r=>r.sq n
 |n,.put _ _ r=>r.sq n
 |n,.num _ _ r=>r.sq n
 |n,.br _ _ f _ _ bs r=>(∀k∈bs.keys,zmb (decide (f≠0)) k)/\0<n/\bs.sq (n - 1)/\r.sq n
 |n,.xi _ _ m r=>m.sq n/\r.sq n
def Fo.Vo(n:Nat):∀f g:Fo,(f.app g).sq n ↔ f.sq n/\g.sq n
 |.nil,g=>by simp[Fo.app,Fo.sq]
 |.text t r,g=>Ln
 |.hash r,g=>Ln
 |.put _ _ r,g=>Ln
 |.num _ _ r,g=>Ln
 |.br _ _ _ _ _ bs r,g=>zuf
 |.xi _ _ m r,g=>zuf
def Fo.eE(h:f.sq n)(t:Wd):(f.yn t).sq n:=by
 cases a:f.xD with
 |none =>
  rw[qv f t a];exact(Fo.Vo n _ _).2 ⟨h,trivial⟩
 |some s =>
  obtain⟨pre,h1,h2,b⟩:=vo f s a;rw[h1]at h;rw[b];exact(Fo.Vo n _ _).2 ⟨((Fo.Vo n _ _).1 h).1,trivial⟩
def SE(n:Nat)(m:jJ):Prop:=∀num i f j,m num i = .ok (f,j)->f.sq n
section
variable {rs:List Int}
def yj7{num:Bool}(h:YJ rs num i = .ok (x,j)):zmb num x:=by
 unfold YJ at h;split at h
 .obtain⟨a,q,h1,h2⟩:=zF h;cases h2;exactλ_ q=>absurd rfl q
 .obtain⟨a,q,h1,h2⟩:=zF h;split at h2
  .cases h2
  .next b =>
   cases h2;exactλhn _=>yy λq=>b ⟨hn,q⟩
def xy9{num:Bool}(hm:∀m,msg=some m->SE n m)(h:bM rs msg num i = .ok (f,j)):f.sq n/\(∀k∈f.keys,zmb num k)/\msg.isSome=true/\f.xm=true:=by
 unfold bM at h;obtain⟨k,a,h1,h2⟩:=zF h;obtain⟨u,b,s,d⟩:=zF h2;cases msg with
 |none=>cases d
 |some m =>
  obtain⟨g,c,l,o⟩:=zF (show(m num b).then _=_ from d);obtain⟨u2,z,t,p⟩:=zF o;have r:=hm m rfl _ _ _ _ l;cases p;refine⟨⟨r,trivial⟩,λq e=>?_,rfl,rfl⟩;simp only[Fo.keys,zG]at e;subst e;exact yj7 h1
def nF{num:Bool}(hm:∀m,msg=some m->SE n m):∀(N:Nat) (acc:Fo) (i j:Nat) (f:Fo),qx rs msg num N acc i = .ok (f,j)->acc.xm=true->acc.sq n->(∀k∈acc.keys,zmb num k)->(acc.len≠0->msg.isSome=true)->f.sq n/\(∀k∈f.keys,zmb num k)/\msg.isSome=true
 | 0,acc,i,j,f,h,_,_,_,_=>xp
 |N+1,acc,i,j,f,h,b,ha,hc,hs=>by
  rw[qx]at h;split at h
  .next e =>
   cases h;exact⟨ha,hc,hs e.2⟩
  .obtain⟨g,q,h1,h2⟩:=zF h;obtain⟨g1,g2,c,d⟩:=xy9 hm h1;exact nF hm N _ _ _ _ h2 (Fo.gi _ _ b d) ((Fo.Vo n _ _).2 ⟨ha,g1⟩) (λk a=>by
    rw[Fo.CB _ _ b]at a;rcases zS.1 a with a|a
    .exact hc k a
    .exact g2 k a) (λ_=>c)
def xyz(hm:∀m,msg=some m->0<n/\SE (n - 1) m)(h:gH rs msg i = .ok (f,j)):f.sq n:=by
 unfold gH at h;obtain⟨u,a,h1,h2⟩:=zF h;obtain⟨nm,b,B,p⟩:=zF h2;clear h h1 h2 B;split at p
 .obtain⟨u,z,y,g⟩:=zF p;cases g;trivial
 .obtain⟨E,c,y,g⟩:=zF p;clear p y;split at g
  .obtain⟨u,z,C,w⟩:=zF g;cases w;trivial
  .split at g
   .cases g
   .next form x =>
    obtain⟨u,d,C,w⟩:=zF g;obtain⟨o,l,D,r⟩:=zF w;obtain⟨bs,q,s,t⟩:=zF r;obtain⟨u,z,A,v⟩:=zF t;obtain⟨b1,b2,b3⟩:=nF (λm e=>(hm m e).2) _ _ _ _ _ s rfl trivial (λk hk=>YK) (λq=>absurd rfl q);cases v;cases msg with
    |none=>cases b3
    |some m=>exact⟨b2,(hm m rfl).1,b1,trivial⟩
def Cs{num:Bool}(hm:∀m,msg=some m->0<N/\SE (N - 1) m):∀(n:Nat) (acc:Fo) (i j:Nat) (f:Fo),vJ rs msg num n acc i = .ok (f,j)->acc.sq N->f.sq N
 | 0,acc,i,j,f,h,_=>xp
 |n+1,acc,i,j,f,h,ha=>by
  rw[vJ]at h;split at h
  .cases h;exact ha
  split at h
  .obtain⟨g,q,h1,h2⟩:=zF h;exact Cs hm n _ _ _ _ h2 ((Fo.Vo N _ _).2 ⟨ha,xyz hm h1⟩)
  split at h
  .exact Cs hm n _ _ _ _ h ((Fo.Vo N _ _).2 ⟨ha,trivial⟩)
  .exact Cs hm n _ _ _ _ h (Fo.eE ha _)
def nD:∀n,SE n (gI rs n)
 | 0,num,i,f,j,h=>by
  rw[gI]at h;exact Cs (λm e=>gG) _ _ _ _ _ h trivial
 |n+1,num,i,f,j,h=>by
  rw[gI]at h;exact Cs (λm e=>by cases e;exact⟨vz8 _,nD n⟩) _ _ _ _ _ h trivial
end
def yj8(h:vv l = .ok f):f.sq 5:=by
 unfold vv at h;split at h
 .cases h
 split at h
 .cases h
 cases hp:gg (xk l) with
 |error e=>rw[hp]at h;cases h
 |ok x =>
  rw[hp]at h;cases h;unfold gg at hp;obtain⟨g,q,h2,a⟩:=zF (show _=Except.ok (x.1,x.2)from hp);have hf:=nD 5 _ _ _ _ h2;split at a
  .cases a;exact hf
  .cases a
def Qa:∀(f:Fo) (b:Bool) (n d:Nat),f.vok b->f.sq n->(b=true->0<d)->d+n<=6->f.dp d
 |.nil,_,_,_,_,_,_,_=>trivial
 |.text _ r,b,n,d,h,k,h0,hd=>Qa r b n d h k h0 hd
 |.hash r,b,n,d,h,k,h0,hd=>⟨h0 h.1,Qa r b n d h.2 k h0 hd⟩
 |.put _ _ r,b,n,d,h,k,h0,hd=>Qa r b n d h k h0 hd
 |.num _ _ r,b,n,d,h,k,h0,hd=>Qa r b n d h k h0 hd
 |.br _ _ f _ _ bs r,b,n,d,h,k,h0,hd=>by
  obtain⟨-,-,-,a,c⟩:=h;obtain⟨-,k2,k3,k4⟩:=k;refine⟨?_,Qa r b n d c k4 h0 hd⟩;split
  .next hf=>exact Qa bs _ (n - 1) d a k3 (λq=>by simp[hf]at q) J
  .exact⟨J,Qa bs _ (n - 1) (d+1) a k3 (λ_=>vz8 _) J⟩
 |.xi _ _ m r,b,n,d,h,k,h0,hd=>⟨Qa m b n d h.2.1 k.1 h0 hd,Qa r b n d h.2.2 k.2 h0 hd⟩
def Jc:∀(f:Fo) (b:Bool) (n:Nat),f.vok b->f.sq n->f.kc
 |.nil,_,_,_,_=>trivial
 |.text _ r,b,n,h,k=>Jc r b n h k
 |.hash r,b,n,h,k=>Jc r b n h.2 k
 |.put _ _ r,b,n,h,k=>Jc r b n h k
 |.num _ _ r,b,n,h,k=>Jc r b n h k
 |.br _ _ f _ _ bs r,b,n,h,k=>by
  obtain⟨h1,h2,a,c,d⟩:=h;obtain⟨k1,k2,k3,k4⟩:=k;exact⟨λhf key e hx=>k1 key e MA hx,h1,h2,a,Jc bs _ _ c k3,Jc r b n d k4⟩
 |.xi _ _ m r,b,n,h,k=>⟨h.1,Jc m b n h.2.1 k.1,Jc r b n h.2.2 k.2⟩
def NmX(cs:List Wd)(x:uF):Prop:=x.v<=999999999/\((uA x.op).head? = some 110->∃j r t,x.k=j::r/\cs[j]? = some t/\kK t=true)
def Zt(s:MkS):Prop:=∀x∈s.code,NmX s.cs x
section
variable {s:MkS}
def NmX.pre{cs d:List Wd}{x:uF}(h:NmX cs x)(hp:cs <+: d):NmX d x:=by
 refine⟨h.1,λq=>?_⟩;obtain⟨j,r,t,a,b,c⟩:=h.2 q;obtain⟨u,e⟩:=hp;exact⟨j,r,t,a,by rw[<-e,zi (zD.1 b).1];exact b,c⟩
def Zt.put(h:Zt s){v:Nat}{k:List Nat}(hx:NmX s.cs ⟨op,s.pos,v,k,tg⟩):Zt (s.put op v k tg):=λx a=>by
 rw[xy,zS,zG]at a;rcases a with a |rfl
 .exact h x a
 .exact hx
def sS(s:MkS)(t:Wd):s.cs <+: (s.const t).cs:=by
 unfold MkS.const;split
 .exact xZ _
 .exact DU _ _
def Zt.const(h:Zt s)(t:Wd):Zt (s.const t):=λx hx=>(h x (by rw[(xS s t).2.1]at hx;exact hx)).pre (sS s t)
def Zt.xL(h:Zt s)(i j:Nat):Zt (s.xL i j):=λx hx=>yb3
def V2{v:Nat}{k:List Nat}{cs:List Wd}(h:(uA op).head?≠some 110)(hv:v<=999999999):NmX cs ⟨op,pos,v,k,tg⟩:=⟨hv,λq=>absurd q h⟩
def O5{v:Nat}{r:List Nat}{s':MkS}(hp:(s.const t).cs <+: s'.cs)(hv:v<=999999999)(hn:kK t=true):NmX s'.cs ⟨op,pos,v,s.num t::r,tg⟩:=⟨hv,λ_=>⟨_,r,t,rfl,mW t hp,hn⟩⟩
def Zt.vR:∀(f:Fo) (s:MkS) (acc:List Nat),Zt s->Zt (MkS.vR f s acc).1
 |.xi k _ _ r,s,acc,h=>by
  rw[MkS.vR];split
  .exact Zt.vR r s acc h
  .exact Zt.vR r _ _ (h.const _)
 |.nil,_,_,h=>h
 |.text _ _,_,_,h=>h
 |.hash _,_,_,h=>h
 |.put _ _ _,_,_,h=>h
 |.num _ _ _,_,_,h=>h
 |.br _ _ _ _ _ _ _,_,_,h=>h
def Zt.vX:∀(f:Fo) (s:MkS) (acc:List (Wd×Nat)),(∀k∈f.keys,k.head? = some 61->yb k.tail<=999999999)->Zt s->Zt (MkS.vX f s acc).1
 |.xi k _ _ r,s,acc,a,h=>by
  rw[MkS.vX];split
  .next h1=>exact Zt.vX r _ _ (λq b=>a q (.tail _ b)) (h.put (V2 zW (a k (.head _) h1)))
  .exact Zt.vX r s acc (λq b=>a q (.tail _ b)) h
 |.nil,_,_,_,h=>h
 |.text _ _,_,_,_,h=>h
 |.hash _,_,_,_,h=>h
 |.put _ _ _,_,_,_,h=>h
 |.num _ _ _,_,_,_,h=>h
 |.br _ _ _ _ _ _ _,_,_,_,h=>h
def Zt.plu(h:Zt s)(n o:Wd)(bs:Fo)(s0:MkS)(k:Wd):Zt (MkS.kV n o bs s0 k s):=by
 unfold MkS.kV;split
 .exact h.xL _ _
 .exact MkS.ky Zt _ (λs c h=>by split;exact h.xL _ _;exact h) _ _ h
end
def sT(f:Fo):∀(s:MkS) (acc:List Nat),∃t,(MkS.vR f s acc).2=acc++t:=by
 induction f with
 |xi k a m r _ b =>
  intro s acc;rw[MkS.vR];split
  .exact b s acc
  .obtain⟨t,c⟩:=b (s.const k) (acc++[s.num k]);exact⟨s.num k::t,by rw[c,yk];rfl⟩
 |_=>intro s acc;exact⟨[],by simp[MkS.vR]⟩
def Zt.go:∀(f:Fo) (a:Wd->MkS->MkS) (s:MkS) (ls:List Nat),(∀k s,Zt s->Zt (a k s))->f.fit->f.YD->Zt s->Zt (MkS.uw f a s ls).1
 |.nil,_,_,_,_,_,_,h=>h
 |.text t r,a,s,ls,hb,hf,hc,h=>Zt.go r a _ ls hb hf hc.2 ((h.const t).put (V2 zW (zJ _)))
 |.hash r,a,s,ls,hb,hf,hc,h=>Zt.go r a _ ls hb hf hc (h.put (V2 zW (zJ _)))
 |.put n _ r,a,s,ls,hb,hf,hc,h=>Zt.go r a _ ls hb hf.2 hc.2 ((h.const n).put (O5 (xZ _) (zJ _) hf.1.2))
 |.num n _ r,a,s,ls,hb,hf,hc,h=>Zt.go r a _ ls hb hf.2 hc.2 ((h.const n).put (O5 (xZ _) (zJ _) hf.1.2))
 |.br n _ f o _ bs r,a,s,ls,hb,hf,hc,h=>by
  obtain⟨f1,f2,f3,f4,f5,f6⟩:=hf;obtain⟨-,-,-,-,-,-,c7,b⟩:=hc;rw[MkS.uw];split
  .next h0 =>
   refine Zt.go r a _ ls hb f6 b (MkS.ky Zt _ (λs i h=>h.xL _ _) _ _ (Zt.go bs _ _ _ (λk x hx=>hx.xL _ _) f5 c7 ?_));obtain⟨t,g⟩:=sT bs (s.const n) [s.num n];refine Zt.put (Zt.vR bs _ _ (h.const n)) ?_;show NmX (MkS.vR bs (s.const n) [s.num n]).1.cs ⟨10,_,0,(MkS.vR bs (s.const n) [s.num n]).2,_⟩;rw[g];exact O5 ((xz6 (s.const n).cs).vR bs (s.const n) _ (xZ _)) (zJ _) f1.2
  .next h0 =>
   refine Zt.go r a _ ls hb f6 b (Zt.put (MkS.ky Zt _ (λs i h=>h.xL _ _) _ _ (Zt.go bs _ _ _ (λk x hx=>hx.plu n o bs s k) f5 c7 ?_)) (V2 zW (zJ _)));refine Zt.put (Zt.vX bs _ _ (λk e he=>?_) ((h.const n).put (O5 (xZ _) f3 f1.2))) (V2 (by split<;>decide) (zJ _));obtain⟨j,c,d⟩:=(f4 k e).2 (by simpa using h0) he;exact S6 c d
 |.xi k _ m r,a,s,ls,hb,hf,hc,h=>Zt.go r a _ _ hb hf.2 hc.2.2 ((Zt.go m _ _ _ (λ_ _ h=>h) hf.1 hc.2.1 (hb k s h)).put (V2 zW (zJ _)))
def Ct(h:vv l = .ok f)(hc:fD f=none):fg (MkS.all f).cs (MkS.all f).code=true:=by
 obtain⟨h1,h2,g,u,w⟩:=Ja h hc;have n:=yj8 h;obtain⟨-,-,c⟩:=QY h hc;have e:=(Fx g u).1;have d:Zt (MkS.all f):=(Zt.go f _ _ _ (λ_ _ h=>h) c g (λx hx=>by simp[MkS.start]at hx)).put (V2 zW (zJ _));refine yj4 h1 (Jc f _ _ h2 n) (Qa f _ 5 0 h2 n (λq=>kG) J) (λi hi=>?_);have hx:=e i hi;have hn:=d i hi;unfold Xv;simp only[zv,zm,decide_eq_true_eq];refine⟨⟨λj v=>hx.1 j v,?_⟩,hn.1⟩;by_cases m:(uA i.op).head? = some 110
 .obtain⟨j,r,t,o,p,s⟩:=hn.2 m;rw[o];simp only[vW];refine .inr ?_;rw[zA,p];exact s
 .cases i.k with
  |nil=>rfl
  |cons a b=>simp[m]

section
variable {P q g mb:Nat} {vC vI cv ov:zx} {rs:List (zx×zx)} {mi po gr:Int} {fi ne:Nat} {dg:List UInt8} {t:Wd} {w:z8}
end


abbrev Oa:=Wd×List UInt8
def js(w:z8)(v:zx)(rs:List Oa):Prop :=
 ∃a cap,v = .slice a rs.length cap/\∀j (h:j<rs.length),∃g o,a=some ⟨g,o,none⟩/\zk w g (o+j*2) (zO rs[j].1)/\zk w g (o+j*2+1) (zO rs[j].2)
def js.below{rs:List Oa}(h:js w v rs)(hb:zR w w'):js w' v rs:=by
 obtain⟨a,cap,hv,h⟩:=h;refine⟨a,cap,hv,λj e=>?_⟩;obtain⟨g,o,d,b,c⟩:=h j e;exact⟨g,o,d,(hb.cell (X w _ b)).trans b,(hb.cell (X w _ c)).trans c⟩
def Ch(n:Wd):Int:=Lib.idxOfS Yd ⟨n.toArray⟩
def YI:List Oa->List Wd->List (Nat×gy)->Option (List (Nat×gy))
 |[],_,acc=>some acc
 |(n,c)::t,xC,acc=>match IM c with
  |none=>none
  |some T=>if Ch n<0\/n∈xC then none else YI t (n::xC) (acc++[((Ch n).toNat,T)])
def YX(rs:List Oa):Option (List (Nat×gy)):=YI rs [[111,116,104,101,114]] []
def zn0:Yz Tryz.prog 104 179 (.agg #[.int .i64 0,.nilFunc]) 2 16 :=
 ⟨underlying104,V9 yg,rfl,zW,zW⟩
def YL(lo:Nat)(w:z8)(sv:zx)(S:List (Nat×gy)):Prop :=
 ∃vs:List zx,w.ownsRow lo 179 2 sv S.length vs /\
  ∀j (h:j<S.length),∃u l h',vs[j*2]? = some (.int .i64 S[j].1)/\vs[j*2+1]? = some u/\lo<=l/\h'<=(w:Nat)/\(∀g,sv.ownBlock=some g->g<l\/h'<=g)/\j9 l h' w u S[j].2
def YL.nil(lo:Nat)(w:z8):YL lo w (.slice none 0 0) []:=⟨[],xz _ _ _ _,λj h=>absurd h (ZH j)⟩
def YL.form(h:YL lo w sv S):∃a cap,sv = .slice a S.length cap:=by
 obtain⟨vs,b,_⟩:=h;exact zo b
def YL.lt(h:YL lo w sv S):∀g,sv.ownBlock=some g->lo<=g/\g<(w:Nat):=by
 obtain⟨vs,a,_⟩:=h;exact a.lt
def YL.but{b:Nat}(h:YL lo w sv S)(hb:xN b w w')(a:sv.ownBlock≠some b)
  (s:b<lo\/(w:Nat)<=b):YL lo w' sv S:=by
 obtain⟨vs,q,r⟩:=h;refine⟨vs,q.kept (row:=some b) ⟨hb.os,hb.tape,hb.output,hb.size,λi hi hn=>hb.block i hi (λe=>hn (by rw[e]))⟩ (.inr a),λj p=>?_⟩;obtain⟨u,l,o,d,f,g,c,m,n⟩:=r j p;refine⟨u,l,o,d,f,g,zg c hb.size,m,n.keep ⟨zg c hb.size,λk k1 k2=>hb.block k J J⟩ (Y _) (Y _)⟩
def YL.below(h:YL lo w sv S)(hb:zR w w'):YL lo w' sv S :=
 h.but (xN.of (p:=(w:Nat)) hb) (λe=>by have:=(h.lt _ e).2;omega) (.inr (Y _))
def Lj{k:xM}{R:zx->Option (ib Unit×List MemPlace)}{b:Nat}{D:ib Unit}(h:w.ownsMap Tryz.prog k R b n D)(hb:zR w w'):w'.ownsMap Tryz.prog k R b n D :=
 h.kept (row:=none) ⟨hb.os,hb.tape,hb.output,hb.size,λi hi _=>hb.block i hi⟩ zV
def zn1(fn:Fn)(first cap:Array zx)(w:z8):(binOp .eql 177 (.func fn first cap) .nilFunc).run Tryz.prog w = .ok (.bool false) w:=by
 have h:∀d:Nat,(Z8 (d+1) 177 (.func fn first cap) .nilFunc).run Tryz.prog w = .ok false w:=λd=>by
  simp[Z8,kJ underlying177]
 exact Lo
def SH(w:z8):(binOp .eql 177 .nilFunc .nilFunc).run Tryz.prog w = .ok (.bool true) w:=by
 have h:∀d:Nat,(Z8 (d+1) 177 .nilFunc .nilFunc).run Tryz.prog w = .ok true w:=λd=>by
  simp[Z8,kJ underlying177]
 exact Lo
def YL.more{l0 h0:Nat}{a:zx}{q:Nat×gy}
  (t:∀j (h:j<S.length),∃u l h',vs[j*2]? = some (.int .i64 S[j].1)/\vs[j*2+1]? = some u/\lo<=l/\h'<=(w:Nat)/\(∀g,sv.ownBlock=some g->g<l\/h'<=g)/\j9 l h' w u S[j].2) (d:vs.length=S.length*2)
  (hT:j9 l0 h0 w u q.2) (i:lo<=l0) (EM:h0<=(w:Nat)) (hg0:∀g,sv.ownBlock=some g->g<l0\/h0<=g)
  (hb:zR w w1) (Z6:w1.grownBy w' sv.ownBlock) (wW:a.ownBlock=sv.ownBlock\/a.ownBlock=some (w1:Nat)) (ho:w'.ownsRow lo 179 2 a (S.length+1) (vs++[.int .i64 q.1,u])) :
  YL lo w' a (S++[q]):=by
 have lj:∀l h',h'<=(w:Nat)->(∀g,sv.ownBlock=some g->g<l\/h'<=g)->vx l h' w w':=zj7;have b:∀l h',h'<=(w:Nat)->(∀g,sv.ownBlock=some g->g<l\/h'<=g)->∀g,a.ownBlock=some g->g<l\/h'<=g:=zxj;refine⟨vs++[.int .i64 q.1,u],Bz,λj s=>?_⟩;by_cases c:j<S.length
 .obtain⟨x,l,h',n,o,p,f,m,r⟩:=t j c;refine⟨x,l,h',?_,?_,p,zg f (zg hb.size Z6.size),b l h' f m,?_⟩
  .rw[zi J,VR c];exact n
  .rw[zi J];exact o
  .rw[VR c];exact r.keep (lj l h' f m) (Y _) (Y _)
 .have e:j=S.length:=by simp at s;omega
  subst e;refine⟨u,l0,h0,?_,?_,i,zg EM (zg hb.size Z6.size),b l0 h0 EM hg0,?_⟩
  .rw[yp J,d,Te J];simp
  .rw[yp J,d];simp
  .exact zfz
def YL.set{a:Option yI}(h:YL lo w (.slice a S.length cap) S):Dd lo (w:Nat) w a S:=by
 obtain⟨vs,o,p⟩:=h;intro j n;obtain⟨u,l,r,e,f,i,d,q,k⟩:=p j n;obtain⟨g,c,hv,m,b,hc⟩:=xY o J;cases hv;refine⟨g,0,u,rfl,?_,?_,m,b,k.keep (vH d) i d⟩
 .rw[uE,hc (j*2) J];exact e
 .rw[uE,hc (j*2+1) J];exact f
def vl1(r:Option (List (Nat×gy)))(w:z8)(e:xX)(w':z8):Prop :=
 (match r with|none=>e = .returned (.tuple #[.slice none 0 0,.bool false])|some S=>∃a c,e = .returned (.tuple #[.slice a S.length c,.bool true])/\Dd (w:Nat) (w':Nat) w' a S)/\zR w w'
def nE(D:ib Unit)(xC:List Wd):Prop:=Maps.IsMap D/\∀n:Wd,∃c:Int,D.atKey (.string n) (.lit (.int .i64 0)) = .lit (.int .i64 c)/\(0<c ↔ n∈xC)/\0<=c/\c<=seen.length
def yj9(rs:List Oa)(r:Option (List (Nat×gy)))(mb:Nat)(w:z8)(sv:zx)(k:Nat)(wr:z8):Prop :=
 ∃(S:List (Nat×gy)) (xC:List Wd) (D:ib Unit),YL (mb+1) wr sv S/\wr.ownsMap Tryz.prog 9 (plainElem Tryz.prog 3) mb (k+1) D/\nE D xC/\seen.length<=k+1/\zR w wr/\(w:Nat)<=mb /\
  S.length<=k/\YI (rs.drop k) xC S=r
def eH:nE ((yfz []:ib Unit).put (.string [111,116,104,101,114]) (.lit (.int .i64 1))) [[111,116,104,101,114]]:=by
 refine⟨⟨_,rfl⟩,λn=>?_⟩;by_cases h:n=[111,116,104,101,114]
 .subst h;exact⟨1,yg,zV,zW,zV⟩
 .refine⟨0,?_,by simp[h],zW,zV⟩;rw[dc (by simpa using h)];rfl
def sA{D:ib Unit}{xC:List Wd}{n:Wd}(h:nE D xC){c:Int}(hc:D.atKey (.string n) (.lit (.int .i64 0)) = .lit (.int .i64 c)):nE (D.put (.string n) (.lit (.int .i64 (c+1)))) (n::xC):=by
 obtain⟨⟨es,rfl⟩,h2⟩:=h;refine⟨⟨_,rfl⟩,λm=>?_⟩;by_cases hm:m=n
 .subst hm;obtain⟨c',a,b,d,e⟩:=h2 m;rw[hc]at a;cases a;exact⟨c+1,Uo ⟨_,rfl⟩ (by trivial) _ _,yF,J,yF⟩
 .obtain⟨c',a,b,d,e⟩:=h2 m;refine⟨c',?_,by simp[hm,b],d,yF⟩;rw[dc (by simpa using hm)];exact a
def Cw(rs:List Oa)(v:zx)(w:z8)(hv:js w v rs)(hl:rs.length<=1000000)(hz:∀q∈rs,q.1.length<=1000000/\q.2.length<=1000000)(hT:nZ w)(hN:qu w) :
  zE Tryz.prog 37 #[v] w (vl1 (YX rs) w):=by
 obtain⟨a,cap,rfl,N⟩:=hv;obtain⟨r,hr⟩:=zw (YX rs);rw[hr];obtain⟨HR,HC,HZ,HT,HN⟩:=G0 hr N hz hT hN;have Ew:=@run_makeMap Tryz.prog;clear hr N hz hT hN;go_enter func37,ntmps37;go_wp2;obtain⟨w1,bu,Q,O⟩:=(Hh (H:=Unit) w Tryz.prog 9 (plainElem Tryz.prog 3)).update (xf underlying9) underlying139 dS (yT (s:=⟨#[111,116,104,101,114]⟩) underlying9 zW) (bG underlying3 (q := .i64) (a:=1) zW);rw[bu];simp only[yt];have hb:zR w w1:=((zu _ _).alloc (Y _) _).grown O zV (λj hj=>by cases hj;exact Y _);have oW:=Z Q;clear bu Q O;obtain⟨mb,hmb⟩:∃mb,mb=(w:Nat):=⟨_,rfl⟩;rw[<-hmb]at oW;go_wp2;rw[<-hmb];have HMB:=Z hmb;clear hmb;go_loopw [2,13] (λsv i wr=>∃k:Nat,k<=rs.length/\i = .int .i64 k/\yj9 rs r mb w sv k wr) (λ_ i _=>rs.length - (intOf i).toNat)
 case atStart=>exact⟨0,zJ _,rfl,[],[[111,116,104,101,114]],_,YL.nil _ _,oW.o,eH,zV,hb,by have:=HMB.o;omega,zV,HR.o⟩
 case round =>
  obtain⟨k,hk,rfl,S,xC,D,R,xn3,V,Mt,L,xn4,hSk,y⟩:=hrel;obtain⟨d,xn5,E,Gf⟩:=hdd R xn3 V y;obtain⟨sa,sc,rfl⟩:=R.form;clear R xn3 V y hb;by_cases uh:k<rs.length
  .obtain⟨g,o,rfl,c1,c2⟩:=HC.o k uh;have d1:=(L.cell (X w _ c1)).trans c1;have d2:=(L.cell (X w _ c2)).trans c2;clear c1 c2;go_wp2_with fail;have hzk:=HZ.o rs[k] (yf uh);obtain⟨nm,hnm⟩:=zw (rs[k].1);obtain⟨wh,hwh⟩:=zw (rs[k].2);rw[hnm,hwh]at hzk;rw[hnm]at d1|-;rw[hwh]at d2|-;have F:∃W,W=wr.alloc (.cells #[zO nm,zO wh] 47)/\zR wr W/\zk W (wr:Nat) 0 (zO nm)/\zk W (wr:Nat) 1 (zO wh):=⟨_,rfl,(zu _ _).alloc (Y _) _,zZ _ _ _ _ _,zZ _ _ _ _ _⟩;obtain⟨W,hW,m,b0,b1⟩:=F;rw[<-hW];have t:YI (rs.drop k) xC S=match IM wh with
     |none=>none
     |some T=>if Ch nm<0\/nm∈xC then none else YI (rs.drop (k+1)) (nm::xC) (S++[((Ch nm).toNat,T)]):=by
    rw[yd uh];have hp:rs[k]=(nm,wh):=(by rw[<-hnm,<-hwh]);rw[hp,YI]
   rw[Gf.o]at t;have Vk:=Z t;have x:zR w W:=L.trans (m.mono L.size);obtain⟨B,hB⟩:∃B,B=(wr:Nat):=⟨_,rfl⟩;rw[<-hB]at b0 b1|-;have HBB:=Z hB;clear hW t hnm hwh d1 d2 hB;have OI:zk W.drew B 0 (zO nm):=b0;refine Vy (λW':z8=>zk W' B 0 (zO nm)) [0,1,2] 2 OI ?_;refine gU 3 (λK hK=>?_);go_simp;have D9:qu W.drew:=HN.o.below (show yE w w W.drew from x.drew);refine(Tryz.slices_Index_string 0 0 6 6 Yd ⟨nm.toArray⟩ _ zW zW (λj hj=>by rw[uE];exact D9 j hj)).mono ?_;rintro e w' ⟨rfl,rfl⟩;refine hK.out _ _ OI λ_=>?_;clear hK K;refine Ve [4] 0 OI ?_;refine Y5 ?_ _;have hix:Lib.idxOfS (Yd.take 6) ⟨nm.toArray⟩=Ch nm:=rfl;rw[hix];obtain⟨ix,xn6⟩:=zw (Ch nm);rw[xn6]at Vk|-
   have hcnd:=Hn ⟨wh.toArray⟩ W.drew (by rw[size_mk];omega) (HT.o.below x.drew);rw[toList_mk]at hcnd;have vl2:=Z hcnd;have b1d:zk W.drew B 1 (zO wh):=b1;clear hix xn6 hcnd D9;go_wp2_with fail;refine vl2.o.mono ?_;rintro e w3 ⟨hq,dE⟩;have f:zR W w3:=(zu _ W).drew.trans dE;have yik:zR w w3:=x.trans (f.mono x.size);have hB:B<(W:Nat):=X W _ b0;have e0:=(f.cell (p:=(zQ B 0)) hB).trans b0;have C:=Z ((d.o.below m).below f);have l:=Z (Lj (Lj xn5.o m) f);obtain⟨c,uk1,wW,IF⟩:=l.o.lookup_int (xf underlying9) underlying139 underlying3 (q := .i64) K1 (key:=zO nm) (yT (s:=⟨nm.toArray⟩) underlying9 Vi);rw[toList_mk]at wW;obtain⟨c',z,A,hs3,Ow⟩:=E.o.2 nm;rw[z]at wW;cases wW;have hef:=zn1;have hen:=SH;cases hc:IM wh with
   |none =>
    rw[hc]at hq;obtain rfl:=hq;have h:r=none:=(by rw[Vk.o,hc]);have HRN:=Z h;clear hc h A z;by_cases h1:ix<0
    .have g1:decide (ix<0)=true:=decide_eq_true h1;exact Pk
    .have g1:decide (ix<0)=false:=decide_eq_false h1;by_cases h2:0<c
     .have g2:decide (0<c)=true:=decide_eq_true h2;exact Pk
     .have g2:decide (0<c)=false:=decide_eq_false h2;exact Pk
   |some T =>
    rw[hc]at hq;obtain⟨tv,rfl,hT3⟩:=hq;have ZR:=Vk.o;rw[hc]at ZR;dsimp only at ZR;have G:=Z ZR;have HFT:=Z hT3;obtain⟨kf,KN,rfl,_⟩:=hT3;clear hc ZR;by_cases h1:ix<0
    .have g1:decide (ix<0)=true:=decide_eq_true h1;have h:r=none:=(by rw[G.o,yK (.inl h1)]);have HRN:=Z h;clear h A z;exact Pk
    .have g1:decide (ix<0)=false:=decide_eq_false h1;by_cases h2:0<c
     .have g2:decide (0<c)=true:=decide_eq_true h2;have h:r=none:=(by rw[G.o,yK (.inr (A.1 h2))]);have HRN:=Z h;clear h A z;exact Pk
     .obtain rfl:c=0:=(by omega);have hns:¬nm∈xC:=λhm=>h2 (A.2 hm)
      have hrc:YI (rs.drop (k+1)) (nm::xC) (S++[(ix.toNat,T)])=r:=(by rw[G.o,yv (λq=>q.elim h1 hns)]);have aq:=Z hrc;have KM:=Z z;obtain⟨iN,hiN⟩:∃iN:Nat,ix=(iN:Int):=⟨ix.toNat,J⟩;subst hiN;rw[TX]at aq;obtain⟨w4,um3,n,b⟩:=l.o.update (xf underlying9) underlying139 dS (key:=zO nm) (yT (s:=⟨nm.toArray⟩) underlying9 (by rw[size_mk];unfold vp;omega)) (bG underlying3 (q := .i64) (a:=1) zW);rw[toList_mk]at n;have I:xN mb w3 w4:=⟨b.os,b.tape,b.output,b.size,λi hi hn=>b.block i hi (λe=>hn BP)⟩;have um4:=l.o.lt;have xn7:YL (mb+1) w4 (.slice sa S.length sc) S:=C.o.but I (λe=>by have:=(C.o.lt _ e).1;omega) (.inl (dK _));have M:zR w w4:=yik.grown b yik.size (λq hq=>by cases hq;exact xn4);have hmW:mb<(wr:Nat):=xn5.o.lt;have xn8:j9 W.drew.heap.size (w3:Nat) w4 (.func (.func kf) #[] KN) T:=HFT.o.keep ⟨b.size,λj j1 j2=>b.block j j2 (λe=>by cases e;have:=m.size;change (W:Nat)<=mb at j1;omega)⟩ (Y _) (Y _);have vl3:=Z xn8;have xn9:=Z n;obtain⟨vs,B8,ht4⟩:=xn7;have OL:=Z B8;have wN:=Z ht4;have e04:zk w4 B 0 (zO nm):=I.cell e0 (by show B≠mb;have:=HBB.o;omega);clear z A hrc xn8 n B8 ht4 hns h1 h2;go_wp2_with (at_builtin;refine V0 zn0 rfl _ _ rfl (mb+1) _ S.length vs rfl (OL.o.alloc _) ⟨(w4:Nat),0,none⟩ 1 1 [.int .i64 iN,.func (.func kf) #[] KN] rfl rfl ?k1 ?k2 J (by have:=b.size;have:=m.size;have:=f.size;simp;omega) ?_)
      case k1 =>
       intro j u hu;rw[ve];match j,hu with
       | 0,hu=>simp at hu;subst hu;exact zZ _ _ _ _ _
       | 1,hu=>simp at hu;subst hu;exact zZ _ _ _ _ _
      case k2 =>
       exact Pq
      intro ir w5 XP U0 BF;have hbA:yE w4 w4 (w4.alloc (.cells #[iN,.func (.func kf) #[] KN] 179)):=(zu _ _).alloc (Y _) _;have U:YL (mb+1) w5 ir (S++[(iN,T)]) :=
       YL.more wN.o Mz vl3.o (by have:=m.size;show mb+1<=(W:Nat);omega) b.size (λq hq => .inl (by have:=(d.o.lt q hq).2;have:=m.size;show q<(W:Nat);omega)) hbA U0 MB XP
      have P:=(xn9.o.alloc (.cells #[iN,.func (.func kf) #[] KN] 179)).kept U0 (λe=>by have:=(d.o.lt mb e.symm).1;omega);have yx8:zR w w5:=(M.alloc M.size _).grown U0 (by have:=M.size;simp;omega) (λq hq=>by have:=(d.o.lt q hq).1;omega);obtain⟨a5,c5,rfl⟩:=zo XP;have zn2:=Z U;have xnz:=Z P;clear U P XP U0 BF hbA;go_wp2;go_roundw
      case rel=>exact⟨k+1,J,uN,S++[(iN,T)],nm::xC,_,by simpa using zn2.o,xnz.o,sA E.o KM.o,yF,yx8,xn4,yF,aq.o⟩
      case measure=>simp[intOf];omega
  .obtain rfl:k=rs.length:=(by omega);have y:=Gf.o;rw[yL (Y _)]at y;have hr:r=some S:=(by rw[<-y,YI]);have VW:=Z hr;clear y hr;go_wp2;go_ret2
   refine⟨?_,L⟩;rw[VW.o];exact⟨sa,sc,rfl,d.o.set.keep (vH (Y _)) J (Y _)⟩
def KG:List Oa:=[([111,110,101],[105,32,61,32,49,32,97,110,100,32,118,32,61,32,48])]
def O6:List Oa:=[([111,110,101],[110,32,37,32,49,48,32,61,32,49,32,97,110,100,32,110,32,37,32,49,48,48,32,33,61,32,49,49]),([116,119,111],[110,32,37,32,49,48,32,61,32,50,32,97,110,100,32,110,32,37,32,49,48,48,32,33,61,32,49,50]),([102,101,119],[110,32,37,32,49,48,32,61,32,51,32,97,110,100,32,110,32,37,32,49,48,48,32,33,61,32,49,51])]
def Fi(w:z8):zE Tryz.prog 5 #[] w λe w'=>(∃c o,e = .returned (Hb c o 45 46 44 3 0 ⟨#[]⟩)/\js w' c KG/\js w' o O6)/\zR w w':=by
 go_enter func5,ntmps5;go_wp2;refine yU (v:=Hb (.slice ((w:Nat)+1,0) 1 1) (.slice ((w:Nat)+1+1+1,0) 3 3) 45 46 44 3 0 ⟨#[]⟩) ?_ rfl ⟨⟨_,_,rfl,⟨_,_,rfl,λj hj=>⟨_,_,rfl,?_,?_⟩⟩,⟨_,_,rfl,λj hj=>⟨_,_,rfl,?_,?_⟩⟩⟩,?_⟩
 .simp[yN,results5,go_sem]
 .obtain rfl:j=0:=by have:j<1:=hj;omega
  go_simp;rfl
 .obtain rfl:j=0:=by have:j<1:=hj;omega
  go_simp;rfl
 .exact zvy
 .exact zvy
 ·(repeat(first|(with_reducible exact zu _ _)|(with_reducible refine KH ?_ ?_ _;rotate_left;focus(first|(simp;done)|(simp;omega)))|(with_reducible refine ZE ?_ ?_ _;rotate_left;focus(first|(simp;done)|(simp;omega)))))
def xyy(S:List (Nat×gy))(W:z8)(u:zx):Prop:=∃a c hi,u = .slice a S.length c/\Dd 0 hi W a S/\hi<=(W:Nat)
def ZB(rs:List Oa)(S:List (Nat×gy))(v:zx)(w:z8)(hv:js w v rs)(h:rs.length<=1000000)(i:∀q∈rs,q.1.length<=1000000/\q.2.length<=1000000)(g:nZ w)(f:qu w)(hS:YX rs=some S) :
  ql w v true (xyy S):=by
 intro W b;refine(Cw rs v W (hv.below b) h i (g.below b) (f.below b)).mono ?_;rintro e w1 ⟨d,hb⟩;rw[hS]at d;obtain⟨a,c,he,hr⟩:=d;refine⟨⟨_,_,_,he,λj hA=>⟨a,c,(w1:Nat),rfl,?_,hA.1⟩⟩,hb⟩;exact hr.keep (lo':=0) (hi':=(w1:Nat)) ⟨hA.1,λk h1 h2=>hA.2 k (.inr ⟨h1,h2⟩)⟩ (zJ _) (Y _)
def js.slice{rs:List Oa}(h:js w v rs):∃a n k,v = .slice a n k:=by
 obtain⟨a,cap,hv,-⟩:=h;exact⟨a,_,cap,hv⟩
def fJ:(∀q∈KG,q.1.length<=1000000/\q.2.length<=1000000)/\∀q∈O6,q.1.length<=1000000/\q.2.length<=1000000:=zW
def E0:List (Nat×gy):=(YX KG).getD []
def E7:List (Nat×gy):=(YX O6).getD []
def bT:YX KG=some E0/\YX O6=some E7:=by
 have h:(YX KG).isSome=true/\(YX O6).isSome=true:=M8;constructor
 .obtain⟨S,hS⟩:=LI.1 h.1;unfold E0;rw[hS];rfl
 .obtain⟨S,hS⟩:=LI.1 h.2;unfold E7;rw[hS];rfl
abbrev dgL(s:List UInt8):Dg:=(vE s,uX s)
def Lg(h:ui l=true):(vE l).all yC=true/\(uX l).all yC=true/\0<(vE l).length/\(vE l).length+(uX l).length<=30:=zkg
def xyx(h:ui l=true):Ng (dgL l):=by
 obtain⟨h1,h2,a,b⟩:=Lg h;exact⟨h1,h2,(λq=>by rw[show vE l=[]from q]at a;cases a),by show(vE l).length<=100;omega,by show(uX l).length<=100;omega⟩
def nmC(k:Nat):Wd:=(Yd.getD k Y7).data.toList
def UT(rs:List Oa)(s:List UInt8):Wd:=match YX rs with|none=>[]|some S=>if ui s=true then nmC (nY S (dgL s))else []
def UW(rs:List Oa)(s:List UInt8):Int:=match YX rs with|none=>9|some _=>if ui s=true then 0 else 10
def ycv(rs:List Oa)(s:List UInt8)(w:z8)(e:xX)(w':z8):Prop:=e = .returned (.tuple #[zO (UT rs s),cX (UW rs s)])/\zR w w'
def zn3(x:ByteArray):∀(zs:List ByteArray) (i:Nat),iU zs x i<(i+zs.length:Nat)
 |[],i=>by simp[iU];omega
 |z::zs,i=>by
  rw[iU];split
  .simp;omega
  .have:=zn3 x zs (i+1);simp only[zY];omega
def zn4(n:Wd):Ch n<6:=by
 have h:=zn3 ⟨n.toArray⟩ Yd 0;have e:Yd.length=6:=zW;rw[e]at h;exact h
def Lf:∀(rs:List Oa) (xC:List Wd) (acc S:List (Nat×gy)),YI rs xC acc=some S->(∀q∈acc,q.1<6)->S.length=acc.length+rs.length/\∀q∈S,q.1<6
 |[],_,acc,S,h,ha=>by cases h;exact⟨zV,ha⟩
 |(n,c)::t,xC,acc,S,h,ha=>by
  rw[YI]at h;split at h
  .cases h
  .split at h
   .cases h
   .next hn =>
    have:=Lf t _ _ S h λq a=>by
     rcases zS.1 a with a|a
     .exact ha q a
     .have:=zn4 n;simp at a;subst a;simp only;omega
    refine⟨?_,this.2⟩;rw[this.1];simp;omega
def Ld{rs:List Oa}(h:YX rs=some S):S.length=rs.length/\∀q∈S,q.1<6:=by
 have:=Lf rs _ [] S h zV;simpa using this
def zn5{rs:List Oa}(h:YX rs=some S)(d:Dg):nY S d<6:=by
 have hS:=(Ld h).2;unfold nY;split
 .next q a=>exact hS q (OB a)
 .decide
def Dd.xny{a:Option yI}(h:Dd lo hi w a S)(hb:yE hi w w')(b:hi<=(w:Nat)):Dd lo hi w' a S :=
 h.keep (vY (lo:=lo) hb (Y _) b) (Y _) (Y _)
def zn6(rs:List Oa)(v:zx)(s:ByteArray)(w:z8)(hv:js w v rs)(T:rs.length<=1000000)(hz:∀q∈rs,q.1.length<=1000000/\q.2.length<=1000000)(hs:s.size<=1000000)(hT:nZ w)(P:qu w) :
  zE Tryz.prog 22 #[v,.string s] w (ycv rs s.data.toList w):=by
 have t:=Z (Cw rs v w hv T hz hT P);have HN:=Z P;obtain⟨va,vn,vc,rfl⟩:∃a n c,v = .slice a n c:=by obtain⟨a,c,rfl,_⟩:=hv;exact⟨_,_,_,rfl⟩
 have U:=Z T;clear hv hz hT P T;go_enter func22,ntmps22;go_wp2_with fail;refine t.o.mono ?_;rintro e w1 ⟨M,u⟩;cases hr:YX rs with
 |none =>
  rw[hr]at M;subst M;have H:=Z (show UT rs s.data.toList=[]by unfold UT;rw[hr]);have B:=Z (show UW rs s.data.toList=9 by unfold UW;rw[hr]);clear hr;go_wp2;go_ret2
  exact⟨by rw[H.o,B.o];rfl,u⟩
 |some S =>
  rw[hr]at M;obtain⟨a,c,rfl,r⟩:=M;have G:=Z r;have F:=Z hr;clear hr r;go_wp2_with fail;refine(X3 s _ hs).mono ?_;rintro e w2 ⟨b,pv,k,rfl,⟨pa,pn,pk,rfl⟩,x,j⟩;have f:=u.trans (x.mono u.size);cases hn:ui s.data.toList
  .have H:=Z (show UT rs s.data.toList=[]by unfold UT;rw[F.o];dsimp only;rw[hn];rfl);have B:=Z (show UW rs s.data.toList=10 by unfold UW;rw[F.o];dsimp only;rw[hn];rfl);clear hn j;go_wp2;go_ret2
   exact⟨by rw[H.o,B.o];rfl,f.alloc f.size _⟩
  .obtain⟨rfl,rfl,i⟩:=j hn;have L:=xyx hn;obtain⟨d1,d2,hwl,h30⟩:=Lg hn;obtain⟨g,cap,V,_,_,_,_⟩:=mN i J;cases V;have I:q9 w2 (.agg #[.bool (Xo s.data.toList),.slice (g,0) ((vE s.data.toList).length+(uX s.data.toList).length) pk,.int .i64 (dgL s.data.toList).2.length]) (dgL s.data.toList) :=
    Kt (d:=vE s.data.toList++uX s.data.toList) rfl zV i L
   have h:=Ld F.o;have K:nY S (dgL s.data.toList)<6:=by
    unfold nY;cases hf:S.find? (λq=>q.2 (dgL s.data.toList)) with
    |some q=>exact h.2 q (OB hf)
    |none=>decide
   have H:=Z (show UT rs s.data.toList=nmC (nY S (dgL s.data.toList))by unfold UT;rw[F.o];dsimp only;rw[yK hn]);have B:=Z (show UW rs s.data.toList=0 by unfold UW;rw[F.o];dsimp only;rw[yK hn]);obtain⟨ix,z⟩:=zw (nY S (dgL s.data.toList));obtain⟨E,C,O,D⟩:=hdd (show ix<6 by rw[<-z];exact K) z I h.1;clear hn j i L I h K z d1 d2;go_wp2_with fail;refine yw ?_;intro W hW;have y:zR w2 W:=QB;clear hW;have p:zR w1 W:=x.trans (y.mono x.size);have m:zR w W:=f.trans (y.mono f.size);refine(Nw S a c _ (dgL s.data.toList) (w:Nat) (w1:Nat) W (by rw[D.o];exact U.o) (G.o.xny p (Y _)) p.size (O.o.below y)).mono ?_;rintro e w3 ⟨rfl,Q⟩;rw[C.o];have l:=m.trans (Q.mono m.size);have R:=HN.o.below l ix E.o;have HE:=Z (show nmC ix=(Yd.getD ix Y7).data.toList from rfl);obtain⟨nm,A⟩:=zw (Yd.getD ix Y7);rw[A]at R;have N:=Z A;have um5:=E.o;clear A;go_wp2;go_ret2
   exact⟨by rw[H.o,B.o,C.o,HE.o,N.o];simp[cX,zO],l⟩
structure E8(w:z8):Prop where
 rt:nZ w
 names:qu w
 err:JM w
def E8.below(h:E8 w)(hb:zR w w'):E8 w':=⟨h.rt.below hb,h.names.below hb,h.err.below hb⟩
def SI(rs:List Oa)(v:zx)(s:ByteArray)(w:z8)(hv:js w v rs)(k:rs.length<=1000000)(h:∀q∈rs,q.1.length<=1000000/\q.2.length<=1000000)(hs:s.size<=1000000)(g:E8 w) :
  zE Tryz.prog 12 #[v,.string s] w λe w'=>e = .returned (.tuple #[zO (UT rs s.data.toList),.int .i64 (UW rs s.data.toList)])/\zR w w':=by
 have a:=zn6 rs v s w hv k h hs g.rt g.names;unfold ycv at a;generalize UT rs s.data.toList=l at *;generalize UW rs s.data.toList=j at *;have c:=Z a;have i:=Z g.err;clear a g h hv;go_enter func12,ntmps12;go_wp2_with fail;refine c.o.mono ?_;rintro e w1 ⟨rfl,b⟩;go_wp2_with fail;refine(Cg j _ (i.o.below b)).mono ?_;rintro e w2 ⟨rfl,f⟩;have d:=b.trans (f.mono b.size);clear f b;go_wp2;go_ret2
 exact⟨rfl,d⟩
variable{cv o ov:zx}
structure Vg(w:z8)(c o:zx):Prop where
 c:js w c KG
 o:js w o O6
def Vg.below{c:zx}(h:Vg w c o)(hb:zR w w'):Vg w' c o:=⟨h.c.below hb,h.o.below hb⟩
abbrev zn7(c o:zx):zx:=Hb c o 45 46 44 3 0 ⟨#[]⟩
def se:jY Unit:=xmf 45 46 44 3 3 (xk (Jy [])) E0 E7
def Fq:xl true true 45 46 44 ((3:Nat):Int) ((0:Nat):Int) []=true:=by simp[xl,kR,dM]
def nH{P g:Nat}{rs:List (zx×zx)}(h:CA P q g mb f vC vI rs 45 46 44 3 0 [] cv ov w)(hc:xyy E0 w cv)(e:xyy E7 w ov):xzz w g se:=by
 have hd:∀x∈xk (Jy []),I32 x:=λx hx=>Kb _ _ (Y _) x hx
 obtain⟨a,c,hi,rfl,i,b1⟩:=hc;obtain⟨a',c',hi',rfl,j,b2⟩:=e;have k1:vx 0 hi w w:=⟨b1,λ_ _ _=>rfl⟩;have k2:vx 0 hi' w w:=⟨b2,λ_ _ _=>rfl⟩;refine xzg (lo:=0) (hi:=(w:Nat)) (fi:=3) (ne:=3) h.loc h.gl ⟨zW,zW,zW,hd⟩ zW zW (by decide) h.g0 h.g1 ⟨by decide +kernel,by decide +kernel⟩ (i.keep k1 (Y _) b1) (j.keep k2 (Y _) b2) (Y _) (λn hn=>?_) (λb d=>?_)
 .have h1:=hn.C9;have h2:=hn.Dk;exact eK _ _ _ _ _ _ _ _ _ (by simp[xB];omega) J
 .cases b
  .exact zn5 bT.1 d
  .exact zn5 bT.2 d
def vl5(r:Except (Nat×Nat) Fo)(w:z8)(e:xX)(w':z8):Prop :=
 zR w w'/\match r with
  |.error (n,a)=>e = .returned (.tuple #[.pointer none,n,a])
  |.ok f=>∃P q g mb vC vI rs,e = .returned (.tuple #[.pointer (some ⟨P,0,none⟩),.int .i64 0,.int .i64 0])/\JT P q g mb f vC vI rs se w'
def E9{p:Wd}{c:zx}(hp:p.length<=1000000)(h:Zr w)(hR:nZ w)(hA:Vg w c o) :
  zE Tryz.prog 7 #[zO p,zn7 c o] w (vl5 (uo p) w):=by
 refine(Ni ⟨p.toArray⟩ c o true true 45 46 44 3 0 ⟨#[]⟩ _ _ w (by rw[size_mk];exact hp) zW zW zW (ZB KG E0 c w hA.c zW fJ.1 hR h.names bT.1) (ZB O6 E7 o w hA.o zW fJ.2 hR h.names bT.2) ⟨hA.c.slice,hA.o.slice⟩ h).mono ?_;rintro e w1 ⟨i,b⟩;rw[yv (by rw[Fq];decide),show(⟨p.toArray⟩:ByteArray).data.toList=p from rfl]at b;refine⟨i,?_⟩;cases hr:uo p with
 |error x=>obtain⟨n,a⟩:=x;rw[hr]at b;exact b
 |ok f =>
  rw[hr]at b;obtain⟨P,q,g,mb,vC,vI,rs,cv,ov,rfl,d,j,k⟩:=b;obtain⟨r1,r2⟩:=UP hr;obtain⟨v1,v2,v3,v4,v5⟩:=Ja r1 r2;exact⟨P,q,g,mb,vC,vI,rs,rfl,d.p0,d.p1,d.prog,nH d (j w1 (zu _ _)) (k w1 (zu _ _)),v1,Ct r1 r2,v3,v4,v5⟩
def zn8{p:Wd}{c:zx}(hp:p.length<=1000000)(z:Zr w)(hR:nZ w)(hA:Vg w c o){l:List Wd}{a:Option yI}{cc:Nat}(F:YC w a l)(hn:l.length=n)(E:∀t∈l,t.length<=1000000)(m:n<=1000000) :
  zE Tryz.prog 13 #[zO p,zn7 c o,.slice a n cc] w λe w'=>(match uo p with
   |.error _=>e = .returned (.tuple #[zO [],.bool false])
   |.ok f=>∃s k,e = .returned (.tuple #[zO s,.bool (decide (k=0))])/\CT se f (jT l (0,λ_=>none)).1 (jT l (0,λ_=>none)).2 s k)/\zR w w':=by
 obtain⟨r,hr⟩:=zw (uo p);have y:=Z (λ(W:z8) (hb:zR w W)=>E9 hp (z.below hb) (hR.below hb) (hA.below hb));rw[hr]at y|-;have H:=Z z.tabs.err;have u:=Z (zf F (zf hn (zf E m)));have G:=Z (zf hA.c.slice hA.o.slice);clear z hR hA hp hr F hn E m;go_enter func13,ntmps13;go_wp2_with fail;refine yw ?_;intro W hW;have hb:zR w W:=QB;clear hW;refine(y.o W hb).mono ?_;rintro e w1 ⟨h,d⟩;have b:zR w w1:=hb.trans (h.mono hb.size);cases r with
 |error x =>
  obtain⟨n,a⟩:=x;obtain rfl:=d;have v:=Z b;clear hb h b y;go_wp2;go_ret2
  exact⟨rfl,v.o⟩
 |ok f =>
  obtain⟨P,q,g,mb,vC,vI,rs,rfl,C⟩:=d;have A:=Z (Yf (c:=cc) C (H.o.below b) (u.o.1.fr (CW b)) u.o.2.1 u.o.2.2.1 u.o.2.2.2);have v:=Z b;clear hb h b C y;go_wp2_with fail;refine A.o.mono ?_;rintro e w2 ⟨⟨s,k,rfl,hs⟩,j⟩;have B:=Z hs;have i:=Z (v.o.trans ((KV j).mono v.o.size));clear A hs j;by_cases D:k=0
  .subst D;go_wp2;go_ret2
   exact⟨⟨s,0,rfl,B.o⟩,i.o⟩
  .have I:((k:Int)=0)=False:=(by simp;omega);go_wp2;go_ret2
   exact⟨⟨s,k,by simp[D],B.o⟩,i.o⟩
structure gP(w:z8):Prop where
 cmp:Zr w
 rt:nZ w
def gP.below(h:gP w)(hb:zR w w'):gP w':=⟨h.cmp.below hb,h.rt.below hb⟩
def gP.cat(h:gP w):E8 w:=⟨h.rt,h.cmp.names,h.cmp.tabs.err⟩
def eI{s:Wd}{c:zx}(hs:s.length<=1000000)(a:gP w)(hA:Vg w c o) :
  zE Tryz.prog 11 #[zO s,zn7 c o] w λe w'=>e = .returned (.tuple #[zO (QT true s 45 46 44 3 0 []),.int .i64 (QW true s)])/\zR w w':=by
 have h:=Ro ⟨s.toArray⟩ c o true true 45 46 44 3 0 ⟨#[]⟩ _ _ w (by rw[size_mk];exact hs) zW zW zW (ZB KG E0 c w hA.c zW fJ.1 a.rt a.cmp.names bT.1) (ZB O6 E7 o w hA.o zW fJ.2 a.rt a.cmp.names bT.2) ⟨hA.c.slice,hA.o.slice⟩ a.cmp.tabs;rw[show(⟨#[]⟩:ByteArray).data.toList=[]from rfl,Fq]at h;exact h
def zn9(E:jY Unit)(p:Wd)(l:List Wd):Option Wd :=
 match uo p with
 |.ok f=>(match sK (sf E (jT l (0,λ_=>none)).2) (MkS.all f) ()with |.ok (o,_)=>some o |.error _=>none)
 |.error _=>none
def SL:List Wd->Bool
 |k::d::t::r=>kK k && (bZ t (d==[110]) && SL r)
 |_=>true
def nL:∀(n:Nat) (l:List Wd),l.length<=n->∀p:Nat×(Wd->Option (Wd×Bool)),SL l=true->(∀m x,p.2 m=some x->kK m=true/\bZ x.1 x.2=true)->∀m x,(jT l p).2 m=some x->kK m=true/\bZ x.1 x.2=true
 |_,[],_,_,_,h=>h
 |_,[_],_,_,_,h=>h
 |_,[_,_],_,_,_,h=>h
 | 0,_::_::_::_,a,_,_,_=>by simp at a
 |n+1,k::d::t::r,a,p,ha,h=>by
  rw[SL,zv,zv]at ha;rw[jT];refine nL n r (by simp at a;omega) _ ha.2.2 λm x hx=>?_
  simp only at hx;split at hx
  .next e =>
   cases hx;subst e;exact⟨ha.1,ha.2.1⟩
  .exact h m x hx
def znz{l:List Wd}(h:SL l=true)(a:l.length<=16):Xt (jT l (0,λ_=>none)).2 (jT l (0,λ_=>none)).1:=by
 refine⟨?_,nL _ l (Y _) _ h (λm x hx=>K3)⟩;have:=KU _ l (Y _) (0,λ_=>none);exact Bx
def si{p:Wd}{l:List Wd}{c:zx}{a:Option yI}{cc:Nat}(hs:zn9 se p l=some t)(ha:SL l=true)(hp:p.length<=1000000)(d:∀t∈l,t.length<=1000000)(hn:l.length=n)(g:n<=16)(b:gP w)(hA:Vg w c o)(j:YC w a l) :
  zE Tryz.prog 13 #[zO p,zn7 c o,.slice a n cc] w λe w'=>e = .returned (.tuple #[zO t,.bool true])/\zR w w':=by
 refine(zn8 hp b.cmp b.rt hA j hn d J).mono ?_;rintro e w' ⟨h,hb⟩;refine⟨?_,hb⟩;unfold zn9 at hs;cases hr:uo p with
 |error x=>rw[hr]at hs;cases hs
 |ok f =>
  rw[hr]at hs h;obtain⟨s,k,rfl,i⟩:=h;dsimp only at hs;rcases i with⟨-,h2⟩|⟨h2,-⟩
  .split at hs
   .next m g1 he =>
    cases hs;rw[he]at h2;obtain⟨rfl,rfl⟩:=h2;rfl
   .cases hs
  .exact absurd (znz ha J) h2
def Fl:QT true [45,49,50,51,52,53,54,55,46,53,48] 45 46 44 3 0 []=[45,49,44,50,51,52,44,53,54,55,46,53,48]/\QW true [45,49,50,51,52,53,54,55,46,53,48]=0:=M8
def SM:UT KG [49]=[111,110,101]/\UW KG [49]=0:=M8
def SN:UT KG [50]=[111,116,104,101,114]/\UW KG [50]=0:=M8
def xnx:Wd:=[123,110,44,32,112,108,117,114,97,108,44,32,111,110,101,32,123,65,125,32,111,116,104,101,114,32,123,66,35,125,125]
def sr:zn9 se xnx [[110],[110],[49,48,48,48]]=some [66,49,44,48,48,48]:=yg
variable{B:Nat}{w0:z8}
structure eL(w0 w:z8)(B:Nat)(c o:zx):Prop where
 loc:Cf w B c o 45 46 44 3 0 ⟨#[]⟩
 eng:Vg w c o
 dD:zR w0 w
def eL.next{c:zx}(h:eL w0 w B c o)(hb:zR w w'):eL w0 w' B c o:=⟨h.loc.below hb (X _ _ h.loc.1),h.eng.below hb,h.dD.trans (hb.mono h.dD.size)⟩
def eL.made{c:zx}(hA:Vg w c o)(hb:zR w0 w):eL w0 (w.alloc (.cells #[c,o,.int .i32 45,.int .i32 46,.int .i32 44,.int .u8 3,.int .u8 0,.string ⟨#[]⟩] 26)) (w:Nat) c o:=by
 have a:yE w w (w.alloc (.cells #[c,o,.int .i32 45,.int .i32 46,.int .i32 44,.int .u8 3,.int .u8 0,.string ⟨#[]⟩] 26)):=(zu _ _).alloc (Y _) _;refine⟨?_,hA.below a,hb.trans (a.mono hb.size)⟩;refine⟨?_,?_,?_,?_,?_,?_,?_,?_⟩<;>exact zZ _ _ _ _ _
def eM(w:z8)(K:gP w):zE Tryz.prog 4 #[] w λe w'=>e = .returned (.bool true)/\zR w w':=by
 have y:=Z K;clear K;go_enter func4,ntmps4;go_wp2_with fail;refine(Fi w).mono ?_;rintro e w1 ⟨⟨c,o,rfl,hc,E⟩,p⟩;obtain⟨ca,cn,D,rfl⟩:=hc.slice;obtain⟨S,on,ok,rfl⟩:=E.slice;have i:=eL.made (Vg.mk hc E) p;go_wp2_with fail;generalize w1.alloc (.cells #[.slice ca cn D,.slice S on ok,.int .i32 45,.int .i32 46,.int .i32 44,.int .u8 3,.int .u8 0,.string ⟨#[]⟩] 26)=W at i|-;generalize (w1:Nat)=B at i|-;clear hc E p;have C:=Z (eI (s:=[45,49,50,51,52,53,54,55,46,53,48]) zW (y.o.below i.dD) i.eng);rw[Fl.1,Fl.2]at C;refine C.o.mono ?_;rintro e w2 ⟨rfl,q⟩;have a:=i.next q;obtain⟨F,-,-,-,-,-,-,-⟩:=a.loc;have A:=Z (SI KG (.slice ca cn D) ⟨#[49]⟩ w2 a.eng.c zW fJ.1 zW (y.o.below a.dD).cat);rw[show(⟨#[49]⟩:ByteArray).data.toList=[49]from rfl,SM.1,SM.2]at A;have H:=Z a;clear i a q C;go_wp2_with fail;refine A.o.mono ?_;rintro e w3 ⟨rfl,r⟩;have b:=H.o.next r;obtain⟨F,-,-,-,-,-,-,-⟩:=b.loc;have g:=Z (SI KG (.slice ca cn D) ⟨#[50]⟩ w3 b.eng.c zW fJ.1 zW (y.o.below b.dD).cat);rw[show(⟨#[50]⟩:ByteArray).data.toList=[50]from rfl,SN.1,SN.2]at g;have k:=Z b;clear b r A H;go_wp2_with fail;refine g.o.mono ?_;rintro e x ⟨rfl,u⟩;have h:=k.o.next u;obtain⟨F,L,M,N,O,P,Q,R⟩:=h.loc;have l:=Z h;clear h u g k;go_wp2_with fail;have m:yE x x (x.alloc (.cells #[zO [110],zO [110],zO [49,48,48,48]] 9)):=(zu _ _).alloc (Y _) _;have d:YC (x.alloc (.cells #[zO [110],zO [110],zO [49,48,48,48]] 9)) (some ⟨(x:Nat),0,none⟩) [[110],[110],[49,48,48,48]]:=λ_=>⟨_,_,rfl,λj t d=>by
  rw[uE,zZ];match j,d with
  | 0,d=>simpa using d
  | 1,d=>simpa using d
  | 2,d=>simpa using d⟩
 have f:=l.o.next m;have I:=Z (si (cc:=3) (n:=3) sr yg zW zW rfl zW (y.o.below f.dD) f.eng d);have G:=Z f.dD;clear m d f l F L M N O P Q R;refine I.o.mono ?_;rintro e T ⟨rfl,v⟩;have z:=Z (G.o.trans (v.mono G.o.size));clear v I;go_wp2;go_ret;exact⟨by first|rfl|simp,z.o⟩



variable{m:Nat}
def xyv(a b:Wd):((⟨a.toArray⟩:ByteArray)=⟨b.toArray⟩) ↔ a=b:=by
 constructor
 .intro h;have:=congrArg (λx:ByteArray=>x.data.toList) h;simpa using this
 .rintro rfl;rfl
def eN{a b:yI}{l k:Wd}(ha:jL w (some a) l)(hb:jL w (some b) k)(hn:l.length=n)(hm:k.length=m) :
  zE Tryz.prog 145 #[.slice (some a) n c,.slice (some b) m d] w λe w'=>e = .returned (.bool (decide (l=k)))/\w=w':=by
 subst hn hm;have h1:=run_convert_bytes_back (P:=Tryz.prog) w 34 9 5 a c l underlying34 underlying5 underlying9 (λj f=>by obtain⟨x,e,h⟩:=ha j f;cases e;exact h);have h2:=run_convert_bytes_back (P:=Tryz.prog) w 34 9 5 b d k underlying34 underlying5 underlying9 (λj f=>by obtain⟨x,e,h⟩:=hb j f;cases e;exact h);obtain⟨n,hn⟩:=zw l.length;obtain⟨m,hm⟩:=zw k.length;rw[hn]at h1|-;rw[hm]at h2|-;clear hn hm ha hb;go_enter func145,ntmps145;go_wp2;go_ret;simp[xyv];rw[xA];simp
def SP{a b:yI}{l:Wd}(ha:jL w (some a) l)(hb:jL w (some b) qF)(hn:l.length=n)(hc:n<=c)(hm:c<=vp) :
  zE Tryz.prog 100 #[.slice (some a) n c,.slice (some b) 3 3] w λe w'=>e = .returned (.bool (qF.isPrefixOf l))/\w=w':=by
 have p:n<=9223372036854775807:=by unfold vp at hm;omega
 by_cases h:3<=n
 .have k:∀w:z8,(VX 34 (.slice (some a) n c) none (some (.int .i64 3)) none).run Tryz.prog w = .ok (.slice (some a) 3 c) w:=UM a n 3 c h hc hm;have i:(3:Int)<=(c:Int):=by omega
  have j:3<=c:=J;have g:=Z (eN (c:=c) (d:=3) (w:=w) (ha.take 3) hb (n:=3) (m:=3) Wl rfl);have HR:=Z (show decide (l.take 3=qF)=qF.isPrefixOf l by
   rw[xA,decide_eq_true_eq,gM,List.prefix_iff_eq_take];exact eq_comm)
  have f:(3:Int)<=(n:Int):=J;clear ha hb hn hc hm;go_enter func100,ntmps100;go_wp2_with fail;refine g.o.mono ?_;rintro e w' ⟨rfl,rfl⟩;exact Ag
 .have HR:=Z (show qF.isPrefixOf l=false by
   rw[zr7];intro q;have:=(gM.1 q).length_le;simp[qF]at this;omega)
  have f:¬(3:Int)<=(n:Int):=J;clear ha hb hn hc hm;go_enter func100,ntmps100;exact Ag
def SR{a b:yI}{l:Wd}(ha:jL w (some a) l)(hb:jL w (some b) qF)(hn:l.length=n)(hc:n<=c)(hm:c<=vp) :
  zE Tryz.prog 56 #[.slice (some a) n c,.slice (some b) 3 3] w λe w'=>e = .returned (if qF.isPrefixOf l=true then .tuple #[.slice (some (BV a 3 c)) (n - 3) (c - 3),.bool true]else .tuple #[.slice (some a) n c,.bool false])/\w=w':=by
 have HP:=Z (SP ha hb hn hc hm);have m:n<=9223372036854775807:=by unfold vp at hm;omega
 by_cases hp:qF.isPrefixOf l=true
 .have g:3<=n:=by
   have:=(gM.1 hp).length_le;simp[qF]at this;omega
  have k:∀w:z8,(VX 34 (.slice (some a) n c) (some (.int .i64 3)) none none).run Tryz.prog w = .ok (.slice (some (BV a 3 c)) (n - 3) (c - 3)) w:=Sz a n 3 c g hc hm;rw[yK hp];have i:(3:Int)<=(c:Int):=J;have j:3<=c:=J;rw[hp]at HP;have f:=Z hp;have h:(3:Int)<=(n:Int):=J;clear ha hb hn hc hm hp;exact zxu
 .rw[yv hp];have d:qF.isPrefixOf l=false:=zr7.2 hp;rw[d]at HP;have f:=Z hp;clear ha hb hn hc hm hp d;exact zxu
def O7(w:z8):(za .nilIface 20 149 true).run Tryz.prog w = .ok (.tuple #[.agg #[],.bool false]) w:=xG
def Bg(A:Nat)(w:z8):CallsD Tryz.prog 55 #[(A,0)] .returning w λe c w'=>e = .returned (.tuple #[])/\c = .returning/\zR w w':=by
 refine Xd func55 rfl λa cs b=>?_
 have ha:=O7;apply wpS_seq;apply EJ;simp[wpOpsS,go_sem,recoverD,b,ha,ntmps55,VY];refine TQ ?_;go_wp2;cases a;simp_all [TK,yN,results55];exact(zu _ _).alloc (Y _) _
structure Ho(w:z8)(b:yI)(l:Wd)(n c:Nat):Prop where
 at_:jL w (some b) l
 len:l.length=n
 le:n<=c
 cap:c<=vp
 lt:b.block<(w:Nat)
def sw{b:yI}{l:Wd}(h:Ho w b l n c)(m:NP l=true) :
  zE Tryz.prog 32 #[.slice (some b) n c] w λe w'=>e = .returned (.pointer none)/\zR w w':=by
 have uh:∀x,(w:Nat)=x->b.block<x:=λx e=>e▸h.lt
 have C:Fr yH yH w (w.alloc (.cells #[.pointer none] 56)):=(Fr.refl _ _).alloc _;have hA:=λj=>zZ w #[.pointer none] 56 (0,0) j
 have H:(w.alloc (.cells #[.pointer none] 56)).frozen? (w,0)=false:=zV;have G:(w.alloc (.cells #[.pointer none] 56)).heap.size=(w:Nat)+1:=zV;obtain⟨W,hcv,i,A⟩:=CN (w.alloc (.cells #[.pointer none] 56));have c0:zk W (w:Nat) 0 (.pointer none):=i.cell (hA 0) id;have z0:W.frozen? (zQ (w:Nat) 0)=false:=(i.frozen (show (w:Nat)<_ by omega) id).trans H;have r:=C.trans i;have HC:=Z (SR (b:=⟨(w.alloc (.cells #[.pointer none] 56)).heap.size,0,none⟩) (h.at_.fr r (λ_ _=>id)) (λj hj=>⟨_,rfl,A j _ (by simp[gp,hj])⟩) h.len h.le h.cap);rw[G]at HC hcv;have I:=Z (zf h m);have HF:=Z r;clear h m C hA H i A r uh;go_enter_defers func32,ntmps32;go_wp2_with fail;refine HC.o.mono ?_;rintro e w1 ⟨rfl,rfl⟩;have Vs:=Z (zf c0 z0);by_cases hp:qF.isPrefixOf l=true
 .rw[yK hp];have HP:=Z hp;have h3:3<=n:=by
   have:=(gM.1 hp).length_le;rw[I.o.1.len]at this;exact this
  obtain⟨k,hk⟩:=zw (n - 3);rw[hk];clear hp;by_cases h1:65535<n
  .have T:(65535:Int)<(n:Int):=(by omega);exact zgj
  .have T:¬(65535:Int)<(n:Int):=(by omega);by_cases h2:k<4
   .have U:(k:Int)<4:=(by omega);exact zgj
   .have U:¬(k:Int)<4:=(by omega);obtain⟨y,F,E,B,hlb⟩:=I.o.1;have IK:k<=c - 3:=J;have gN:¬c - 3=k - 4:=J;have h44:k - (k - 4)=4:=J;have OO:=y.fr HF.o (λ_ _=>id);have e4:(l.drop 3).drop (k - 4)=l.drop (n - 4):=(by rw[Fh];congr 1;omega);have hbT:jL W (some ((BV b 3 c).add (k - 4))) (l.drop (n - 4)):=zjy;have uS:(l.drop (n - 4)).length=4:=FC;have hfa:Fr yH yH W (W.alloc (.cells #[.slice (some ((BV b 3 c).add (k - 4))) 4 (c - 3 - (k - 4)),.int .i64 0] 155)):=(Fr.refl _ _).alloc _;have d:ES (W.alloc (.cells #[.slice (some ((BV b 3 c).add (k - 4))) 4 (c - 3 - (k - 4)),.int .i64 0] 155)) (W:Nat) b.block (l.drop (n - 4)):=zd2;have z:=OO.take (n - 4);have a:fB (l.drop (n - 4))≠Xh (l.take (n - 4)):=by
     have h:=I.o.2;unfold NP at h;rw[HP.o,F,decide_eq_false (by omega:¬65535<n),decide_eq_false (by omega:¬n<7)]at h;simpa using h
    have IG:=KX (l:=l.drop (n - 4)) J;have Mt:=JP (l.take (n - 4));obtain⟨W1,v⟩:=zw (W.alloc (.cells #[.slice (some ((BV b 3 c).add (k - 4))) 4 (c - 3 - (k - 4)),.int .i64 0] 155));rw[v]at hfa d;have K:=Z (NS (w:=W1.drew) (n:=4) (show ES W1.drew (W:Nat) b.block (l.drop (n - 4)) from⟨d.ex,d.ne,d.fz⟩) J zW);rw[ye (TD uS)]at K;have L:=Z hfa;have s:=Z (zf z (show(l.take (n - 4)).length=n - 4 by rw[u4];omega));have hn4:n - 4<=2000000000:=J;have hlo:=UM b n (n - 4) c J E B;have Ta:((n - 4:Nat):Int)=(n:Int) - 4:=J;rw[Ta]at hlo;clear y F E B hlb OO e4 hbT uS hfa d z HC;go_wp2_with fail;have hu:IntKind.u32.wrap ((fB (l.drop (n - 4)):Nat):Int)=(fB (l.drop (n - 4)):Nat):=(by rw[IntKind.wrap_u32'];omega);obtain⟨N,u⟩:=zw (fB (l.drop (n - 4)));obtain⟨S,p⟩:=zw (Xh (l.take (n - 4)));rw[u]at K hu a;rw[p]at a;have P:=Z p;have V:((N:Nat):Int)≠((S:Nat):Int):=λq=>a J
    have um7:((N:Int)=(S:Int))=False:=eq_false V;clear a IG Mt v u p hcv c0 z0 G;have EP:vG.wrap ((n:Int) - 4)=(n:Int) - 4:=Yq;have hwt:((n:Int) - 4).toNat=n - 4:=J;have hw0:(0:Int)<=(n:Int) - 4:=J;have hwc:(n:Int) - 4<=(c:Int):=(by have:=I.o.1.le;omega);refine dC ?_;refine Vy (λ_=>True) [0,3,4,5,6,7] 4 trivial ?_;refine gU 1 (λQ t=>?_);go_simp;refine K.o.mono ?_;rintro e R ⟨rfl,-,D⟩;have g:Fr yH (λx=>x=(W:Nat)) W R:=L.o.tr D.und (λq hq=>by subst hq;exact .inr (Y _));have O:=Z (λ(c:Nat)=>NR (cap:=c) (s.o.1.fr g (λ_ _=>id)) s.o.2 hn4);rw[P.o]at O;have M:=Z (HF.o.trans g);have XY:=g.cell Vs.o.1 id;have EE:=(g.frozen (X _ _ Vs.o.1) id).trans Vs.o.2;refine t.out _ _ trivial λ_=>?_
    clear t Q K D g;refine Ve [2] 2 trivial ?_;refine gU 8 (λQ t=>?_);go_simp;refine(O.o _).mono ?_;rintro e W3 ⟨rfl,rfl⟩;refine t.out _ _ trivial λ_=>?_
    clear t Q O;refine Ve [9] 0 trivial ?_;refine Y5 ?_ _;refine dG ?_;have HE:=Z (show(R.setCell (zQ (w:Nat) 0) (.pointer none)).cell? (zQ (w:Nat) 0)=some (.pointer none)/\Fr yH (λx=>x=(W:Nat)) w (R.setCell (zQ (w:Nat) 0) (.pointer none)) from⟨xq XY _,M.o.set _ (.inr (Y _))⟩);exact zd9
 .rw[yv hp];have HE:=Z (show(W.setCell (zQ (w:Nat) 0) (.pointer none)).cell? (zQ (w:Nat) 0)=some (.pointer none)/\Fr yH yH w (W.setCell (zQ (w:Nat) 0) (.pointer none)) from⟨xq Vs.o.1 _,HF.o.set _ (.inr (Y _))⟩);clear hp HC;exact zd9
def Ho.below{b:yI}{l:Wd}(h:Ho w b l n c)(hb:zR w w'):Ho w' b l n c :=
 ⟨h.at_.fr (Fr.of hb (F:=yH)) (λ_ _=>id),h.len,h.le,h.cap,zC h.lt hb.size⟩
def zny{P:Nat}{Q:zx->z8->Prop}(h0:zk w P 0 (q,0))
  (hB:zE Tryz.prog 17 #[(q,0)] w λe w'=>∃v,e = .returned v/\Q v w') :
  zE Tryz.prog 8 #[(P,0)] w λe w'=>∃v,e = .returned v/\Q v w':=by
 have b:=Z hB;clear hB;go_enter func8,ntmps8;go_wp2_with fail;refine b.o.mono ?_;rintro e w' ⟨v,rfl,a⟩;have c:=Z a;clear a;go_wp2;go_ret;exact⟨v,rfl,c.o⟩
def SS:∀(k t t':List Nat),(YG k t).length=(YG k t').length
 |[],_,_=>rfl
 |a::k,t,t'=>by simp only[YG,zy,SS k t.tail t'.tail];rfl
def UA:∀(f:Wd) (v:Nat) (k t t':List Nat),(ue f v k t).length=(ue f v k t').length
 |[],_,_,_,_=>rfl
 |c::f,v,k,t,t'=>by
  unfold ue;split
  .rw[zy,zy,UA f v k.tail t t']
  .split
   .rw[zy,zy,UA f v k t t']
   .split
    .rw[zy,zy,UA f v k t.tail t'.tail];rfl
    .simp only[zy,SS k t t',UA f v [] (t.drop (k.length+1)) (t'.drop (k.length+1))]
def Lb(p j:Nat):∀(l:List uF) (i:Nat),(xF (l.modify i λx=>{ x with tg:=x.tg.set j p })).length=(xF l).length
 |[],_=>by simp[xF]
 |x::l,0=>by simp only[List.modify_zero_cons,xF,zh,zy,xE,zY,UA (uA x.op) x.v x.k (x.tg.set j p) x.tg]
 |x::l,i+1=>by
  have:=Lb p j l i;simp only[xF]at this;simp only[List.modify_succ_cons,xF,zh,zy,this]
def SW:qm λs=>(xF s.code).length=s.pos:=by
 refine⟨λs op v k tg h=>?_,λs t h=>?_,λs i j h=>?_⟩
 .simp only[MkS.put,xF,yh,zy]at h|-;rw[h];simp
 .obtain⟨-,z2,a⟩:=xS s t;rw[z2,a];exact h
 .show(xF (s.code.modify i _)).length=s.pos;rw[Lb];exact h
def SA:∀(cs:List Wd) (N:Nat),(∀t∈cs,t.length<=N)->(qZ cs).length<=cs.length*(N+2)
 |[],_,_=>by simp[qZ]
 |c::cs,N,h=>by
  have h1:=SA cs N (λt a=>h t (by simp[a]));have h2:=h c zV;simp only[qZ,zh,zy,zY]at h1|-;rw[show(vq c.length).length=2 from rfl,kh];omega
def nM(hc:f.YD)(hs:f.sh)(hw:f.cw<=90000):(jV (MkS.all f)).length<=1000000000/\(xF (MkS.all f).code).length<=1000000/\(MkS.all f).code≠[]/\7<=(jV (MkS.all f)).length:=by
 have h1:=SW.all f rfl;have a:=NL f;have h2:=SA (MkS.all f).cs 5000 (Fx hc hs).2;simp only[MkS.sz]at a;have b:(jV (MkS.all f)).length=5+(qZ (MkS.all f).cs).length+2+(xF (MkS.all f).code).length:=by simp only[jV,zy];rfl
 refine⟨J,J,?_,J⟩;unfold MkS.all;rw[xy];simp
structure tx(P q mb:Nat)(f:Fo)(vC vI:zx)(rs:List (zx×zx))(w:z8):Prop where
 p0:zk w P 0 (q,0)
 prog:uf q (MkS.all f) vC vI rs mb w
 YD:f.YD
 sh:f.sh
 cw:f.cw<=90000
def tx.below{P:Nat}{rs:List (zx×zx)}(h:tx P q mb f vC vI rs w)(hb:zR w w'):tx P q mb f vC vI rs w' :=
 ⟨(hb.cell (X _ _ h.p0)).trans h.p0,h.prog.below hb,h.YD,h.sh,h.cw⟩
def LZ{P:Nat}{rs:List (zx×zx)}(h:tx P q mb f vC vI rs w)(hF:qg w) :
  zE Tryz.prog 8 #[(P,0)] w λe w'=>∃v,e = .returned v/\fT w' v (qD (MkS.all f))/\Fr yH (zM v) w w':=by
 obtain⟨a1,a2,a3,-⟩:=nM h.YD h.sh h.cw;exact zny (Q:=λv w'=>fT w' v (qD (MkS.all f))/\Fr yH (zM v) w w') h.p0 (sU h.prog (yqy h.YD h.sh h.cw) hF a1 a2 a3)
variable{xs:List zx}{l':Wd}
def nN{r g:Nat}(pos:Nat){l:Wd}{w:z8}(c:ES w r g l)(G6:g<(w:Nat)):dR (w:Nat) r g 0 pos 0 [] [] l (.slice none 0 0) (.slice none 0 0) w (w.alloc (.cells #[.int .i64 0,(pos:Nat),.int .i64 0,.slice none 0 0,.slice none 0 0] 87)):=by
 obtain⟨b,cap,c0,-⟩:=c.ex;have Km:r<(w:Nat):=X _ _ c0;have hf:Fr yH yH w (w.alloc (.cells #[.int .i64 0,pos,.int .i64 0,.slice none 0 0,.slice none 0 0] 87)):=(Fr.refl _ _).alloc _;exact⟨zZ _ _ _ _ _,zZ _ _ _ _ _,zZ _ _ _ _ _,zZ _ _ _ _ _,zZ _ _ _ _ _,λj=>zV,c.fr hf id id,xz _ _ _ _,xz _ _ _ _,bN _ _ _,(λq a=>by rcases a with a|a<;>cases a),G6,Km,Y _,⟨zc _ _ _ Km,ym (hf.keep r Km id)⟩,(λq a=>by cases a),(hf.wide (G:=(· = r)) (λ_ q=>q.elim)).tg (λq a=>by
  rcases a with e|e|e|e
  .exact .inl e
  .exact .inr (by rw[e];exact Y _)
  .cases e
  .cases e)⟩
section
variable {A r g op pos v:Nat} {k t:List Nat} {l:Wd} {kv tv:zx} {w0 w w':z8}
def dR.yv1(h:dR A r g op pos v k t l kv tv w0 w)(y:j=0\/j=1\/j=2){op' pos' v':Nat}(h0:j≠0->op'=op)(h1:j≠1->pos'=pos)(h2:j≠2->v'=v)(p:u = .int .i64 ((if j=0 then op' else if j=1 then pos' else v':Nat):Int)) :
  dR A r g op' pos' v' k t l kv tv w0 (w.setCell (A,j) u):=by
 have hA:A≠r:=Lh;have gA:g≠A:=Wa;have f2:Fr (λq=>q=A) (λq=>q=A) w (w.setCell (zQ A j) u):=(Fr.refl _ _).set _ (.inl rfl);have c:∀i x,i≠j->zk w A i x->zk (w.setCell (zQ A j) u) A i x:=λi x hi hc=>by rw[zr,yv (λe=>hi (congrArg Addr.off e).symm)];exact hc
 have s:∀i,(w.setCell (zQ A j) u).frozen? ⟨A,i,none⟩=false:=λi=>by rw[zP];exact h.z i
 have d:Fr (· = r) (λq=>q=r\/q=A\/zM kv q\/zM tv q) w0 (w.setCell (zQ A j) u):=h.fr.set (a:=(zQ A j)) u (.inr h.WD);have o:gz (w.setCell (zQ A j) u) A=some 87:=by rw[qJ];exact h.tA
 have f:=h.rd.fr f2 (λq=>hA q.symm) gA;have n:=f2.own h.kr (λq a b=>(h.NW a).1 b);have m:=f2.own h.tr (λq a b=>(h.CL a).1 b);rcases y with rfl|rfl|rfl
 .obtain rfl:=h1 zW;obtain rfl:=h2 zW;exact⟨by rw[p];exact xq h.a0 _,c 1 _ zW h.a1,c 2 _ zW h.a2,c 3 _ zW h.a3,c 4 _ (by decide) h.a4,s,f,n,m,o,h.lo,h.G6,h.Km,h.WD,⟨(Xx _ hA).trans h.r1.1,(qJ _ _ _ _).trans h.r1.2⟩,h.cS,d⟩
 .obtain rfl:=h0 zW;obtain rfl:=h2 zW;exact⟨c 0 _ zW h.a0,by rw[p];exact xq h.a1 _,c 2 _ zW h.a2,c 3 _ zW h.a3,c 4 _ (by decide) h.a4,s,f,n,m,o,h.lo,h.G6,h.Km,h.WD,⟨(Xx _ hA).trans h.r1.1,(qJ _ _ _ _).trans h.r1.2⟩,h.cS,d⟩
 .obtain rfl:=h0 zW;obtain rfl:=h1 zW;exact⟨c 0 _ zW h.a0,c 1 _ zW h.a1,by rw[p];exact xq h.a2 _,c 3 _ zW h.a3,c 4 _ (by decide) h.a4,s,f,n,m,o,h.lo,h.G6,h.Km,h.WD,⟨(Xx _ hA).trans h.r1.1,(qJ _ _ _ _).trans h.r1.2⟩,h.cS,d⟩
def dR.drew(h:dR A r g op pos v k t l kv tv w0 w):dR A r g op pos v k t l kv tv w0 w.drew :=
 ⟨h.a0,h.a1,h.a2,h.a3,h.a4,h.z,⟨h.rd.ex,h.rd.ne,h.rd.fz⟩,h.kr,h.tr,h.tA,h.lo,h.G6,h.Km,h.WD,h.r1,h.cS,h.fr.drew⟩
end
def Ki{r g full:Nat}{l:Wd}{w w':z8}{a:List PanicEntry}(he:Ym full l=none)(b:a.dropWhile (!·.goexit)=[])(hf:Fr (· = r) F' w w') :
  n7 r g full l w (.panicked ({ v := .iface 149 (.agg #[]),recovered:=false }::a)) w':=by
 unfold n7;rw[he];exact⟨⟨a,rfl,b⟩,hf.tg (λq c=>c)⟩
def Zh{w:z8}{v:zx}{s:ByteArray}(h:w.ownsRow 0 3 1 v n xs)(hi:w.heap[I]? = some (.stringIter s j)):¬zM v I:=λq=>by
 rcases h.2 with⟨e,-⟩|⟨g',cap,b,e,-,a,-⟩
 .rw[e]at q;cases q
 .rw[e]at q;cases q;rw[hi]at a;cases a
def bK{w:z8}{b:yI}{s:ByteArray}(h:w.cell? b=some u)(hi:w.heap[I]? = some (.stringIter s j)):b.block≠I:=λe=>by
 unfold FK at h;rw[e,hi]at h;cases h
def dR.iter{A r g op pos v:Nat}{k t:List Nat}{l:Wd}{kv tv:zx}{w0 w:z8}(h:dR A r g op pos v k t l kv tv w0 w){s:ByteArray}(hi:w.heap[I]? = some (.stringIter s j))(f:(w0:Nat)<=I)(m:Nat) :
  dR A r g op pos v k t l kv tv w0 (w.iterAt I s m)/\(w.iterAt I s m).heap[I]? = some (.stringIter s m):=by
 have f2:Fr (λq=>q=I) (λq=>q=I) w (w.iterAt I s m):=⟨rfl,rfl,rfl,TD (vq3 _ _ _ _).symm,λk _ hn=>xrb _ _ _ _ _ hn,λ_ q => .inl q⟩;have c:A≠I:=bK h.a0 hi;have lA:A<(w:Nat):=X _ _ h.a0;have nr:r≠I:=by have:=h.Km;omega
 have i:g≠I:=by have:=h.G6;omega
 refine⟨⟨f2.cell h.a0 c,f2.cell h.a1 c,f2.cell h.a2 c,f2.cell h.a3 c,f2.cell h.a4 c,λj=>(f2.frozen (a:=⟨A,j,none⟩) lA c).trans (h.z j),h.rd.fr f2 nr i,f2.own h.kr (λq a b=>Zh h.kr hi (b▸a)),f2.own h.tr (λq a b=>Zh h.tr hi (b▸a)),(ym (f2.keep A lA c)).trans h.tA,h.lo,h.G6,h.Km,h.WD,⟨(yD (f2.keep r (zC h.Km h.fr.size) nr)).trans h.r1.1,(ym (f2.keep r (zC h.Km h.fr.size) nr)).trans h.r1.2⟩,h.cS,?_⟩,vq2 _ _ _ _ _ hi⟩;refine(h.fr.tr f2 (λq d => .inr (by rw[d];exact f))).tg (λq d=>?_);rcases d with e|e|e
 .exact .inl e
 .exact Lt
 .exact .inr (h.lo q e)
def dR.same{A r g op pos v:Nat}{k t:List Nat}{l:Wd}{kv tv:zx}{w0 w w':z8}(h:dR A r g op pos v k t l kv tv w0 w)(f:Fr yH yH w w'):dR A r g op pos v k t l kv tv w0 w':=by
 have lA:A<(w:Nat):=X _ _ h.a0;exact⟨f.cell h.a0 id,f.cell h.a1 id,f.cell h.a2 id,f.cell h.a3 id,f.cell h.a4 id,λj=>(f.frozen (a:=⟨A,j,none⟩) lA id).trans (h.z j),h.rd.fr f id id,f.own h.kr (λ_ _=>id),f.own h.tr (λ_ _=>id),(ym (f.keep A lA id)).trans h.tA,h.lo,h.G6,h.Km,h.WD,⟨(yD (f.keep r (zC h.Km h.fr.size) id)).trans h.r1.1,(ym (f.keep r (zC h.Km h.fr.size) id)).trans h.r1.2⟩,h.cS,(h.fr.tr f (λ_ q=>q.elim)).tg (λq hq=>zg6)⟩
def jt{w:z8}{v:zx}(h:w.ownsRow 0 3 1 v n xs):∃p a b,v = .slice p a b:=by
 rcases h.2 with⟨e,-⟩|⟨g',cap,c,e,-⟩
 .exact⟨_,_,_,e⟩
 .exact⟨_,_,_,e⟩
def uz{w w':z8}{s:ByteArray}(hf:Fr F F' w w')(hn:¬F I)(hi:w.heap[I]? = some (.stringIter s j)):w'.heap[I]? = some (.stringIter s j) :=
 (hf.keep I (by rcases ud I (w:Nat)with h|h;exact h;rw[jA h]at hi;cases hi) hn).trans hi
def Fk{w:z8}{a:yI}(h:w.cell? a=some u):w.setCell a u=w:=by
 unfold xu;have d:(w.heap.modify a.block fun
   |.cells c b frozen => .cells (if a.spot.isSome then c else c.setIfInBounds a.off u) b frozen
   |o=>o)=w.heap:=by
  refine wF λi=>?_
  rw[xc];by_cases e:a.block=i
  .rw[yK e];subst e;unfold FK at h;cases hb:w.heap[a.block]? with
   |none=>rw[hb]at h;cases h
   |some o =>
    rw[hb]at h;cases o with
    |cells c b fz =>
     by_cases hs:a.spot.isSome
     .simp[hs]at h
     .simp only[hs]at h;simp only[Y8,hs];have hc:c.setIfInBounds a.off u=c:=by
       refine wF λk=>?_
       rw[Array.getElem?_setIfInBounds];by_cases e:a.off=k
       .subst e;have h2:c[a.off]? = some u:=(by simpa using h);rw[yK rfl,h2];rcases ud a.off c.size with q|q
        .rw[yK q]
        .rw[jA q]at h2;cases h2
       .rw[yv e]
      simp[hc]
    |_=>cases h
  .rw[yv e]
 exact congrArg (λh=>({ w with heap:=h }:z8)) d
def bW{x:Nat}{l:Wd}(h:uQ n l=some (x,l')):l'.length+n=l.length:=by
 unfold uQ at h;split at h
 .cases h;exact FC
 .cases h
def eO(op:Nat):∀c∈uA op,c=107\/c=110\/c=118\/c=116\/c=42:=by
 unfold uA;split<;>decide
def yju{r g full:Nat}{l:Wd}{w:z8}(hrd:ES w r g l)(h1:zk w r 1 (full:Nat))(hl:l.length<=full)(hfl:full<=1000000)(hF:qg w)(G6:g<(w:Nat)) :
  zE Tryz.prog 59 #[(r,0)] w (n7 r g full l w):=by
 have hB0:=nN 0 hrd G6;have hB:=λpos=>nN pos hrd G6
 obtain⟨b,cap,c0,hlc,-⟩:=hrd.ex;have c0a:=λo=>yu c0 o
 have c1a:=λo=>yu h1 o
 have qI:=hB0.a1;have l8:=Z c0;obtain⟨m,hm⟩:=zw l.length;rw[hm]at c0 c0a hl;have EP:vG.wrap ((full:Int) - (m:Int))=((full - m:Nat):Int):=Yq;have HB:=Z hB;have HM:=Z hm;have HFO:=Z hF;clear hB hB0 hrd hm hF hlc;go_enter func59,ntmps59;go_wp2_with fail;refine Dp (λW':z8=>zk W' r 1 full/\zk W' r 0 (.slice (some b) m cap)) 11 [0,1,2,3,4,5,6,7,8,9,10] 1 ⟨c1a _,c0a _⟩ ?_;refine D0 11 (λB hJ=>?_);go_simp;refine hJ.out _ _ ?_;clear hJ B;refine D1 ?_ _;have DG:=(HB.o (full - m)).drew;have K:=Z (fh DG.rd 1 zW);have U:=Z DG;obtain⟨A,hA⟩:=zw (w:Nat);rw[hA]at U|-;clear DG c0a c1a qI c0 h1 EP hA HB;go_wp2_with fail;refine K.o.mono ?_;rintro e w2 ⟨hq,ZL⟩;have HIP:=Z (show Ym full l=match uQ 1 l with|none=>none|some (op,l1)=>if 12<=op then none else cR op (full - l.length) (Df (uA op) 0 [] [] l1)from rfl);cases uB:uQ 1 l with
 |none =>
  rw[uB]at hq;obtain⟨ZN,rfl,ho⟩:=hq;have HO:=Z ho;have HE:=Z (show Ym full l=none by rw[HIP.o,uB]);have Ei:=Z (U.o.fr.tr ZL.GZ (λq hq => .inl hq));clear uB ZL K ho;go_wp2;refine⟨rfl,?_⟩;exact Ki HE.o HO.o Ei.o
 |some p =>
  obtain⟨op,l1⟩:=p;rw[uB]at hq;obtain⟨rfl,S⟩:=hq;have PX:=Z (show l1.length<=1000000 by have:=bW uB;have:=HM.o;omega);have hS:=(U.o.read S ZL).yv1 (j:=0) (u := .int .i64 op) (op':=op) (pos':=full - m) (v':=0) (.inl rfl) (λq=>absurd rfl q) (λ_=>rfl) (λ_=>rfl) rfl;have EE:=(U.o.read S ZL).z 0;have ha2:=(U.o.read S ZL).a0;have HIQ:=Z (show Ym full l=if 12<=op then none else cR op (full - l.length) (Df (uA op) 0 [] [] l1)by rw[HIP.o,uB]);have ha0:=hS.a0;have HS:=Z hS;clear S ZL K U uB HIP hS;by_cases h12:12<=op
  .have vl8:(12:Int)<=(op:Int):=(by omega);have HE:=Z (show Ym full l=none by rw[HIQ.o,yK h12]);go_wp2;refine⟨rfl,?_⟩;exact Ki HE.o rfl HS.o.fr
  .have vl8:¬(12:Int)<=(op:Int):=(by omega);have gN:2≠r:=λe=>by
    have h1:=HFO.o 0 zW;rw[e]at h1;have h2:=l8.o;rw[h1]at h2;cases h2
   have hfc:=HS.o.fr.cell (HFO.o op J) gN;obtain⟨F,V⟩:=zw (uA op);rw[V]at hfc;have HFM:=Z (zf V (zf (show ∀c∈F,c.toNat<128 from V▸Bt op) (show ∀c∈F,c=107\/c=110\/c=118\/c=116\/c=42 from V▸eO op)));obtain⟨R,hR⟩:=zw (Df F 0 [] [] l1);have HIR:=Z (show Ym full l=cR op (full - m) R by rw[HIQ.o,yv h12,V,hR,HM.o]);have HR:=Z hR;clear V hR HIQ gN;go_wp2_with fail;have Z0:(w2.setCell (zQ A 0) op).heap.size=(w2:Nat):=ZM;rw[<-Z0];generalize w2.setCell (zQ A 0) op=w3 at ha0 HS hfc Z0|-;obtain⟨I,hI⟩:=zw (w3:Nat);rw[hI];have hIw:(w:Nat)<=I:=(by rw[<-hI];exact HS.o.fr.size);have HI:=Z hI;clear hI ha0 ha2 EE hfc Z0;go_loopw [4] (λ_ wr=>∃j v k t N kv tv,j<=F.length/\dR A r g op (full - m) v k t N kv tv w wr/\wr.heap[I]? = some (.stringIter ⟨F.toArray⟩ j)/\Df (F.drop j) v k t N=R/\k.length+t.length+N.length<=1000000) (λ_ wr=>F.length - wr.iterPos I)
   case atStart=>exact⟨0,0,[],[],l1,_,_,zJ _,HS.o.same ((Fr.refl _ _).alloc _),by rw[<-HI.o];exact ye8 w3 _ 0,HR.o,by have:=PX.o;simpa using this⟩
   case round =>
    obtain⟨j,v,k,t,N,kv,tv,hj,hS,hit,E,Z9⟩:=hrel;by_cases uh:j<F.length
    .obtain⟨c,hc⟩:=zw (F[j]);have hd:F.drop j=c::F.drop (j+1):=(by rw[<-hc];exact yd uh);have hn:=Lib.run_next_ascii_at (P:=Tryz.prog) wr I ⟨F.toArray⟩ j 0 hit zxk (by
      show(F[j]).toNat<128;exact HFM.o.2.1 _ (yf _))
     rw[show(vD F.toArray)[j]' zxk=c from hc]at hn;obtain⟨W,xyu⟩:=hS.iter hit hIw (j+1);have HJ0:=Z (show wr.iterPos I=j from jm hit);have IH:(c=107\/c=110)\/c=118\/c=116\/c=42:=or_assoc.mpr (HFM.o.2.2 c (hc▸yf _));obtain⟨W5,hW5⟩:=zw (wr.iterAt I ⟨F.toArray⟩ (j+1));rw[hW5]at hn W xyu;rw[hd]at E;have dw:=Z (zf W xyu);clear hW5 hd hc hS hit W xyu;rcases IH with XY|rfl|rfl|rfl
     .have HQ:=Z (show(match uQ 2 N with|none=>none|some (x,G)=>Df (F.drop (j+1)) v (k++[x]) t G)=R by rw[<-E];rcases XY with rfl|rfl<;>rfl);clear E;rcases XY with rfl|rfl;all_goals
       have a3:=dw.o.1.a3;have K:=Z (fh dw.o.1.drew.rd 2 zW);go_wp2_with fail;refine Dp (λW':z8=>zk W' A 3 kv) 7 [0,1,2] 5 a3 ?_;refine dF 3 (λB hJ=>?_);go_simp;refine K.o.mono ?_;rintro e W6 ⟨hq,gW⟩;cases uB:uQ 2 N with
       |none =>
        exact ydg
       |some p =>
        obtain⟨x,G⟩:=p;rw[uB]at hq;obtain⟨rfl,h⟩:=hq;have d:=dw.o.1.drew.read h gW;have f:=uz gW.GZ (show ¬I=r from λe=>M7) (show W5.drew.heap[I]? = _ from dw.o.2);have H:=Z (show Df (F.drop (j+1)) v (k++[x]) t G=R by rw[<-HQ.o,uB]);refine hJ.out _ _ d.a3 λ_=>?_
        clear hJ B;refine dF 4 (λB hJ=>?_);go_simp;refine hJ.out _ _ (yu d.a3 _) λ_=>?_
        clear hJ B;refine dF 5 (λB hJ=>?_);rw[yK xG];change j6 _ _ _ (W6.alloc (.cells [_].toArray _)) _ _
        refine jZ qw [_] 1 d.kr J ?_;intro v2 W7 D n;have a3':=n.cell d.a3 (λq=>(d.NW q).1 rfl);have z3:W7.frozen? (A,3)=false:=(n.frozen (a:=(A,3)) (X _ _ d.a3) (λq=>(d.NW q).1 rfl)).trans (d.z 3);obtain⟨v2a,v2b,v2c,rfl⟩:=jt D;have s:(W7.setCell (A,3) (.slice v2a v2b v2c)).heap[I]? = some (.stringIter ⟨F.toArray⟩ (j+1)) :=
         uz ((Fr.refl (λq=>q=A) W7).set (F':=λq=>q=A) _ (.inl rfl)) (λe=>bK d.a3 f e.symm) (uz n (Zh d.kr f) f)
        have OP:=Z (zf (d.push n D) (zf s (bW uB)));clear D n s;refine hJ.out _ _ a3' λ_=>?_
        clear hJ B;refine dF 6 (λB hJ=>?_);go_simp;refine hJ.out _ _ a3' λ_=>?_
        clear hJ B;refine D0 7 (λB hJ=>?_);go_simp;refine hJ.out _ _ ?_;clear hJ B;refine D1 ?_ _;clear h d uB gW f a3 a3' z3;go_wp2;go_roundw
        case rel=>exact⟨j+1,v,_,t,G,_,_,J,OP.o.1,OP.o.2.1,H.o,zjk⟩
        case measure=>rw[jm OP.o.2.1,HJ0.o];omega
     .have a2:=dw.o.1.a2;have K:=Z (fh dw.o.1.rd 4 zW);have HQ:=Z (show(match uQ 4 N with|none=>none|some (x,G)=>Df (F.drop (j+1)) x k t G)=R by rw[<-E];rfl);clear E;go_wp2_with fail;refine K.o.mono ?_;rintro e W6 ⟨hq,gW⟩;cases uB:uQ 4 N with
      |none =>
       exact ydf
      |some p =>
       obtain⟨x,G⟩:=p;rw[uB]at hq;obtain⟨rfl,h⟩:=hq;have d:=dw.o.1.read h gW;have f:=uz gW.GZ (show ¬I=r from λe=>M7) dw.o.2;have H:=Z (show Df (F.drop (j+1)) x k t G=R by rw[<-HQ.o,uB]);have s:(W6.setCell (zQ A 2) x).heap[I]? = some (.stringIter ⟨F.toArray⟩ (j+1)) :=
        uz ((Fr.refl (λq=>q=A) W6).set (F':=λq=>q=A) _ (.inl rfl)) (λe=>bK d.a3 f e.symm) f
       have OP:=Z (zf (d.yv1 (j:=2) (u := .int .i64 x) (op':=op) (pos':=full - m) (v':=x) (.inr (.inr rfl)) (λ_=>rfl) (λ_=>rfl) (λq=>absurd rfl q) rfl) (zf s (bW uB)));have a2:=d.a2;have z2:=d.z 2;clear h d uB gW f s;go_wp2;go_roundw
       case rel=>exact⟨j+1,x,k,t,G,_,_,J,OP.o.1,OP.o.2.1,H.o,by have:=OP.o.2.2;omega⟩
       case measure=>rw[jm OP.o.2.1,HJ0.o];omega
     .have a4:=dw.o.1.a4;have K:=Z (fh dw.o.1.drew.rd 2 zW);have HQ:=Z (show(match uQ 2 N with|none=>none|some (x,G)=>Df (F.drop (j+1)) v k (t++[x]) G)=R by rw[<-E];rfl);clear E;go_wp2_with fail;refine Dp (λW':z8=>zk W' A 4 tv) 7 [0,1,2] 5 a4 ?_;refine dF 3 (λB hJ=>?_);go_simp;refine K.o.mono ?_;rintro e W6 ⟨hq,gW⟩;cases uB:uQ 2 N with
      |none =>
       exact ydg
      |some p =>
       obtain⟨x,G⟩:=p;rw[uB]at hq;obtain⟨rfl,h⟩:=hq;have d:=dw.o.1.drew.read h gW;have f:=uz gW.GZ (show ¬I=r from λe=>M7) (show W5.drew.heap[I]? = _ from dw.o.2);have H:=Z (show Df (F.drop (j+1)) v k (t++[x]) G=R by rw[<-HQ.o,uB]);refine hJ.out _ _ d.a4 λ_=>?_
       clear hJ B;refine dF 4 (λB hJ=>?_);go_simp;refine hJ.out _ _ (yu d.a4 _) λ_=>?_
       clear hJ B;refine dF 5 (λB hJ=>?_);rw[yK xG];change j6 _ _ _ (W6.alloc (.cells [_].toArray _)) _ _
       refine jZ qw [_] 1 d.tr J ?_;intro v2 W7 D n;have a4':=n.cell d.a4 (λq=>(d.CL q).1 rfl);have z3:W7.frozen? (A,4)=false:=(n.frozen (a:=(A,4)) (X _ _ d.a4) (λq=>(d.CL q).1 rfl)).trans (d.z 4);obtain⟨v2a,v2b,v2c,rfl⟩:=jt D;have s:(W7.setCell (A,4) (.slice v2a v2b v2c)).heap[I]? = some (.stringIter ⟨F.toArray⟩ (j+1)) :=
        uz ((Fr.refl (λq=>q=A) W7).set (F':=λq=>q=A) _ (.inl rfl)) (λe=>bK d.a3 f e.symm) (uz n (Zh d.tr f) f)
       have OP:=Z (zf (d.zl9 n D) (zf s (bW uB)));clear D n s;refine hJ.out _ _ a4' λ_=>?_
       clear hJ B;refine dF 6 (λB hJ=>?_);go_simp;refine hJ.out _ _ a4' λ_=>?_
       clear hJ B;refine D0 7 (λB hJ=>?_);go_simp;refine hJ.out _ _ ?_;clear hJ B;refine D1 ?_ _;clear h d uB gW f a4 a4' z3;go_wp2;go_roundw
       case rel=>exact⟨j+1,v,k,_,G,_,_,J,OP.o.1,OP.o.2.1,H.o,zjk⟩
       case measure=>rw[jm OP.o.2.1,HJ0.o];omega
     .have K:=Z (fh dw.o.1.rd 2 zW);have HQ:=Z (show(match uQ 2 N with|none=>none|some (m,l1)=>match TW m k t l1 with|none=>none|some ((k1,t1),N)=>match uQ 2 N with|none=>none|some (y,G)=>Df (F.drop (j+1)) v k1 (t1++[y]) G)=R by rw[<-E];rfl);clear E;go_wp2_with fail;refine K.o.mono ?_;rintro e W6 ⟨hq,gW⟩;cases uB:uQ 2 N with
      |none =>
       exact ydf
      |some p =>
       obtain⟨M,G⟩:=p;rw[uB]at hq;obtain⟨rfl,h⟩:=hq;have d:=dw.o.1.read h gW;have f:=uz gW.GZ (show ¬I=r from λe=>M7) dw.o.2;have H:=Z (show(match TW M k t G with|none=>none|some ((k1,t1),N)=>match uQ 2 N with|none=>none|some (y,G)=>Df (F.drop (j+1)) v k1 (t1++[y]) G)=R by rw[<-HQ.o,uB]);have xnv:k.length+t.length+G.length<=1000000:=(by have:=bW uB;omega);have HS6:=Z (zf d f);clear h d uB gW f Z9 dw HQ K;obtain⟨T,hT⟩:=zw (TW M k t G);rw[hT]at H;have HT:=Z hT;clear hT;go_wp2_with fail;go_loopw [54] (λiv wr=>∃i k1 t1 l4 kv1 tv1,i<=M/\iv = .int .i64 (i:Nat)/\i<=k1.length/\k1.length+t1.length+l4.length<=1000000/\dR A r g op (full - m) v k1 t1 l4 kv1 tv1 w wr/\wr.heap[I]? = some (.stringIter ⟨F.toArray⟩ (j+1))/\TW (M - i) k1 t1 l4=T) (λiv _=>M - (intOf iv).toNat)
       case atStart=>exact⟨0,k,t,G,_,_,zJ _,rfl,zJ _,xnv,HS6.o.1,HS6.o.2,HT.o⟩
       case round =>
        obtain⟨i,k1,t1,l4,kv1,tv1,hi,rfl,hik,hl4,hSi,xnu,hTi⟩:=hrel;clear hj HS6 HT xnv;have lz:=Z (zf hSi xnu);clear hSi xnu;obtain⟨w8,e8⟩:∃w8,w8=wr:=⟨_,rfl⟩;subst e8;by_cases vlu:i<M
        .have hM1:M - i=(M - (i+1))+1:=(by omega);rw[hM1]at hTi;have O:=Z (show(match uQ 2 l4 with|none=>none|some (x,l5)=>match uQ 2 l5 with|none=>none|some (y,l6)=>TW (M - (i+1)) (k1++[x]) (t1++[y]) l6)=T from hTi);clear hTi hM1;have k9:(i:Int)<(M:Int):=J;have f3:=lz.o.1.a3;have K:=Z (fh lz.o.1.drew.rd 2 zW);go_wp2_with fail;refine Dp (λW':z8=>zk W' A 3 kv1) 7 [0,1,2] 5 f3 ?_;refine dF 3 (λB hJ=>?_);go_simp;refine K.o.mono ?_;rintro e W9 ⟨hq,gW⟩;cases uB:uQ 2 l4 with
         |none =>
          rw[uB]at hq;obtain⟨ZN,rfl,ho⟩:=hq;have HE:=Z (show Ym full l=none by rw[HIR.o,<-H.o,<-O.o,uB];rfl);exact zjv
         |some p =>
          obtain⟨x,l5⟩:=p;rw[uB]at hq;obtain⟨rfl,h⟩:=hq;have d:=lz.o.1.drew.read h gW;have f:=uz gW.GZ (show ¬I=r from λe=>by have:=lz.o.1.Km;omega) (show w8.drew.heap[I]? = _ from lz.o.2);have HTj:=Z (show(match uQ 2 l5 with|none=>none|some (y,l6)=>TW (M - (i+1)) (k1++[x]) (t1++[y]) l6)=T by rw[<-O.o,uB]);have hl5:=bW uB;refine hJ.out _ _ d.a3 λ_=>?_
          clear hJ B;refine dF 4 (λB hJ=>?_);go_simp;refine hJ.out _ _ (yu d.a3 _) λ_=>?_
          clear hJ B;refine dF 5 (λB hJ=>?_);rw[yK xG];change j6 _ _ _ (W9.alloc (.cells [_].toArray _)) _ _
          refine jZ qw [_] 1 d.kr J ?_;intro v2 L D n;have z3:L.frozen? (A,3)=false:=(n.frozen (a:=(A,3)) (X _ _ d.a3) (λq=>(d.NW q).1 rfl)).trans (d.z 3);have f3':=n.cell d.a3 (λq=>(d.NW q).1 rfl);obtain⟨f3a,f3b,f3c,rfl⟩:=jt D;have s:(L.setCell (A,3) (.slice f3a f3b f3c)).heap[I]? = some (.stringIter ⟨F.toArray⟩ (j+1)) :=
           uz ((Fr.refl (λq=>q=A) L).set (F':=λq=>q=A) _ (.inl rfl)) (λe=>bK d.a3 f e.symm) (uz n (Zh d.kr f) f)
          have C:=Z (zf (d.push n D) s);clear D n s;refine hJ.out _ _ f3' λ_=>?_
          clear hJ B;refine dF 6 (λB hJ=>?_);go_simp;refine hJ.out _ _ f3' λ_=>?_
          clear hJ B;refine D0 7 (λB hJ=>?_);go_simp;refine hJ.out _ _ ?_;clear hJ B;refine D1 ?_ _;clear h d gW f f3 f3' z3 K lz;have ek1:(k1++[x]).length=k1.length+1:=zV;clear uB O;obtain⟨w11,e11⟩:∃w11,w11=L.setCell (zQ A 3) (.slice f3a f3b f3c):=⟨_,rfl⟩;rw[<-e11]at C|-;clear e11;have f4:=C.o.1.a4;have K:=Z (fh C.o.1.drew.rd 2 zW);go_wp2_with fail;refine Dp (λW':z8=>zk W' A 4 tv1) 7 [0,1,2] 5 f4 ?_;refine dF 3 (λB hJ=>?_);go_simp;refine K.o.mono ?_;rintro e W12 ⟨hq,gW⟩;cases uB:uQ 2 l5 with
          |none =>
           rw[uB]at hq;obtain⟨ZN,rfl,ho⟩:=hq;have HE:=Z (show Ym full l=none by rw[HIR.o,<-H.o,<-HTj.o,uB];rfl);have HO:=Z ho;have Ei:=Z ((C.o.1.drew.fr.tr gW.GZ (λq hq => .inl hq)));clear hJ uB gW ho C;exact yb6
          |some p =>
           obtain⟨y,l6⟩:=p;rw[uB]at hq;obtain⟨rfl,h⟩:=hq;have d:=C.o.1.drew.read h gW;have f:=uz gW.GZ (show ¬I=r from λe=>by have:=C.o.1.Km;omega) (show w11.drew.heap[I]? = _ from C.o.2);have HTk:=Z (show TW (M - (i+1)) (k1++[x]) (t1++[y]) l6=T by rw[<-HTj.o,uB]);have hl6:=bW uB;refine hJ.out _ _ d.a4 λ_=>?_
           clear hJ B;refine dF 4 (λB hJ=>?_);go_simp;refine hJ.out _ _ (yu d.a4 _) λ_=>?_
           clear hJ B;refine dF 5 (λB hJ=>?_);rw[yK xG];change j6 _ _ _ (W12.alloc (.cells [_].toArray _)) _ _
           refine jZ qw [_] 1 d.tr J ?_;intro v2 W13 D n;have z3:W13.frozen? (A,4)=false:=(n.frozen (a:=(A,4)) (X _ _ d.a4) (λq=>(d.CL q).1 rfl)).trans (d.z 4);have Q:=n.cell d.a4 (λq=>(d.CL q).1 rfl);obtain⟨f4a,f4b,f4c,rfl⟩:=jt D;have s:(W13.setCell (A,4) (.slice f4a f4b f4c)).heap[I]? = some (.stringIter ⟨F.toArray⟩ (j+1)) :=
            uz ((Fr.refl (λq=>q=A) W13).set (F':=λq=>q=A) _ (.inl rfl)) (λe=>bK d.a3 f e.symm) (uz n (Zh d.tr f) f)
           have ycu:=Z (zf (d.zl9 n D) s);clear D n s;refine hJ.out _ _ Q λ_=>?_
           clear hJ B;refine dF 6 (λB hJ=>?_);go_simp;refine hJ.out _ _ Q λ_=>?_
           clear hJ B;refine D0 7 (λB hJ=>?_);go_simp;refine hJ.out _ _ ?_;clear hJ B;refine D1 ?_ _;clear h d gW f f4 Q z3 K C;clear uB HTj;go_wp2;go_roundw
           case rel=>exact⟨i+1,_,_,l6,_,_,J,uN,J,zfu,ycu.o.1,ycu.o.2,HTk.o⟩
           case measure=>simp only[intOf];omega
        .have hiM:i=M:=(by omega);have k9:¬(i:Int)<(M:Int):=J;have O:=Z (show some ((k1,t1),l4)=T by rw[<-hTi,show M - i=0 by omega];rfl);clear hTi vlu;have f4:=lz.o.1.a4;have K:=Z (fh lz.o.1.drew.rd 2 zW);go_wp2_with fail;refine Dp (λW':z8=>zk W' A 4 tv1) 7 [0,1,2] 5 f4 ?_;refine dF 3 (λB hJ=>?_);go_simp;refine K.o.mono ?_;rintro e W9 ⟨hq,gW⟩;cases uB:uQ 2 l4 with
         |none =>
          rw[uB]at hq;obtain⟨ZN,rfl,ho⟩:=hq;have HE:=Z (show Ym full l=none by rw[HIR.o,<-H.o,<-O.o];show cR _ _ (match uQ 2 l4 with|none=>none|some (y,G)=>_)=_;rw[uB];rfl);exact zjv
         |some p =>
          obtain⟨y,l5⟩:=p;rw[uB]at hq;obtain⟨rfl,h⟩:=hq;have d:=lz.o.1.drew.read h gW;have f:=uz gW.GZ (show ¬I=r from λe=>by have:=lz.o.1.Km;omega) (show w8.drew.heap[I]? = _ from lz.o.2);have HQ3:=Z (show Df (F.drop (j+1)) v k1 (t1++[y]) l5=R by rw[<-H.o,<-O.o];show _=(match uQ 2 l4 with|none=>none|some (y,G)=>_);rw[uB]);have hl5:=bW uB;refine hJ.out _ _ d.a4 λ_=>?_
          clear hJ B;refine dF 4 (λB hJ=>?_);go_simp;refine hJ.out _ _ (yu d.a4 _) λ_=>?_
          clear hJ B;refine dF 5 (λB hJ=>?_);rw[yK xG];change j6 _ _ _ (W9.alloc (.cells [_].toArray _)) _ _
          refine jZ qw [_] 1 d.tr J ?_;intro v2 L D n;have z3:L.frozen? (A,4)=false:=(n.frozen (a:=(A,4)) (X _ _ d.a4) (λq=>(d.CL q).1 rfl)).trans (d.z 4);have Q:=n.cell d.a4 (λq=>(d.CL q).1 rfl);obtain⟨f4a,f4b,f4c,rfl⟩:=jt D;have s:(L.setCell (A,4) (.slice f4a f4b f4c)).heap[I]? = some (.stringIter ⟨F.toArray⟩ (j+1)) :=
           uz ((Fr.refl (λq=>q=A) L).set (F':=λq=>q=A) _ (.inl rfl)) (λe=>bK d.a3 f e.symm) (uz n (Zh d.tr f) f)
          have C:=Z (zf (d.zl9 n D) s);clear D n s;refine hJ.out _ _ Q λ_=>?_
          clear hJ B;refine dF 6 (λB hJ=>?_);go_simp;refine hJ.out _ _ Q λ_=>?_
          clear hJ B;refine D0 7 (λB hJ=>?_);go_simp;refine hJ.out _ _ ?_;clear hJ B;refine D1 ?_ _;clear h d gW f f4 Q z3 K lz;clear uB O;go_wp2;go_roundw
          case rel=>exact⟨j+1,v,_,_,l5,_,_,J,C.o.1,C.o.2,HQ3.o,zfu⟩
          case measure=>rw[jm C.o.2,HJ0.o];omega
    .have hn:=ye9 (P:=Tryz.prog) wr I ⟨F.toArray⟩ j 0 hit (by rw[size_mk];exact uh);have xnj:F.drop j=[]:=bp J;rw[xnj]at E;have HE:=Z (show Ym full l=some (⟨op,full - m,v,k,t⟩,N)by rw[HIR.o,<-E];rfl);have W:=hS;obtain⟨ka,kb,kc,rfl⟩:=jt hS.kr;obtain⟨ta,tb,tc,rfl⟩:=jt hS.tr;have a0:=hS.a0;have a1:=hS.a1;have a2:=hS.a2;have a3:=hS.a3;have a4:=hS.a4;have z0:=hS.z 0;have z1:=hS.z 1;have z2:=hS.z 2;have z3:=hS.z 3;have z4:=hS.z 4;have dw:=Z W;clear hS W hit E xnj hj HS HIR HR PX;go_wp2;rw[Fk a0,Fk a1,Fk a2,Fk a3,Fk a4];refine yU (v := .agg #[op,((full - m:Nat):Int),v,.slice ka kb kc,.slice ta tb tc]) ?_ rfl ?_
     .simp[yN,results59,go_sem,a0,a1,a2,a3,a4]
     .unfold n7;rw[HE.o];exact⟨⟨⟨_,_,rfl,dw.o.kr,dw.o.tr,dw.o.cS,dw.o.lo⟩,dw.o.rd,dw.o.r1⟩,dw.o.fr.tg (λq hq=>hq)⟩
def Hp(w:z8):(za (.iface 149 (.agg #[])) 20 149 true).run Tryz.prog w = .ok (.tuple #[.agg #[],.bool true]) w:=xG
def O8(A:Nat)(u:zx)(b:List PanicEntry)(w:z8)(hA:zk w A 0 u)(f:w.frozen? (A,0)=false) :
  CallsD Tryz.prog 55 #[(A,0)] (.panicking ({ v := .iface 149 (.agg #[]),recovered:=false }::b)) w λe j w' =>
   e = .returned (.tuple #[])/\j = .panicking ({ v := .iface 149 (.agg #[]),recovered:=true }::b)/\zk w' A 0 (.pointer none)/\Fr (λq=>q=A) (λq=>q=A) w w':=by
 have ha:=Hp;refine Xd func55 rfl λh cs i=>?_
 apply wpS_seq;apply EJ;simp[wpOpsS,go_sem,recoverD,i,ha,ntmps55,VY];refine TQ ?_;simp only[vQ,zX,Qm,List.set_cons_zero,List.set_cons_succ,xu0,xd,xV,Act.put];have hf:Fr (λq=>q=A) (λq=>q=A) w (w.alloc (.cells #[] 149)):=(Fr.refl _ _).alloc _;have c:=yu hA (.cells #[] 149);have d:(w.alloc (.cells #[] 149)).frozen? (A,0)=false:=((Fr.refl (λ_=>False) w).alloc (F':=λ_=>False) (.cells #[] 149)).frozen (a:=(A,0)) (X _ _ hA) id |>.trans f
 generalize w.alloc (.cells #[] 149)=W at hf c d|-;have g:=Z (zf (xq c (.pointer none)) (hf.set (a:=(A,0)) (.pointer none) (.inl rfl)));clear hf hA f ha;go_wp2;cases h;simp_all [TK,yN,results55];exact g.o
end Go.Proofs.YtpggmjffejgakaaGreatDoor
