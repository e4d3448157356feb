import Derived.Test.YtpggmjffejgakaaGreatDoorJG2
import Derived.BigQuiet
import Derived.Deep.QuietTactic
import Derived.IntWalk
import Derived.Deep.RegionHeld
import Derived.Laws.IdiomStrings
import Derived.OwnWalk
import Derived.Laws.Externs
import Derived.Lib.BufferMore
import Derived.Shelf.SlicesE.Reverse
import Derived.Lib.Bytealg
import Derived.Deep.CutBlock
set_option linter.defProp false
set_option maxHeartbeats 64000000
open Go renaming Addr->yM,Calls->zC,Ending->xU,TypeId->xm,World->z8,bodyPost_ret->yK,heap_alloc_new->kU,madeCells->FO,ownsRow_setCell_other->vY,plainElem_int->bK,results->yN,run_underlying->kQ,wpList_make_full->OX
open Go.Addr renaming add->bW
open Go.Addr.mk renaming injEq->YL
open And renaming intro->zg
open Array renaming getElem?_eq_getElem->OA,getElem?_eq_some_iff->yO,getElem?_modify->vp,toList_append->zzk,toList_inj->xu0
open Go.RowKit renaming Below->yD
open Go.RowKit.Below renaming alloc->KY,drew->kp,heap_alloc->xZ,heap_setCell->yZ,refl->zv,setCell->ZD
open Bool renaming and_eq_true->zx,and_true->zzx,eq_iff_iff->xO,false_and->oq,not_eq_true->VG,not_eq_true'->qu,not_false->LZ,or_eq_true->vR,true_and->gR
open Go.Builtin renaming append_->Vv,len_->yfy,zeroCells->Je
open ByteArray renaming mk->vO
open Classical renaming byContradiction->yu
open Go.DataW.lit renaming injEq->EI
open Go.Extern.BytealgCompare renaming cmp->wb,compare->Xd
open Go.Extern.Bytes renaming bytesOf->Xf,loadBytes->vq4
open Go.ByteArray renaming toList_eq->yfx
open Go.Instr renaming field->vq5,index->Y2,lookup->TZ,makeMap->yeu,mapUpdate->TY,typeAssert->zA
open Go.IntKind renaming bits->Ob,i64->vH,signed->Ey,u8->KU,wrap->yf7
open Go.Lib renaming bytesOf->Zg,compareBytes->yfv,frozen_of_heap->uy,hasPrefix->yW,hid->Z,trimPrefix->vD
open List renaming all_append->uJ,all_cons->vh,all_eq_true->zi,any_eq_true->vq2,append_nil->jJ,cons_append->xX,dropWhile_cons_of_neg->fJ,dropWhile_cons_of_pos->Vq,dropWhile_sublist->dA,drop_eq_getElem_cons->yY,drop_of_length_le->yI,drop_replicate->wZ,drop_set->xu3,drop_zero->qR,eq_nil_of_length_eq_zero->zN,eq_of_mem_replicate->kC,ext_getElem->DI,filter_append->zzv,foldl_append->TX,foldl_cons->vB,getD_cons_succ->Fk,getD_cons_zero->Yb,getElem?_append_left->za,getElem?_append_right->xq,getElem?_cons_succ->qa,getElem?_cons_zero->qA,getElem?_eq_getElem->zk,getElem?_eq_none->qT,getElem?_eq_some_iff->zF,getElem?_map->og,getElem?_take->OY,getElem?_toArray->gV,getElem_append_left->zzu,getElem_mem->yf,idxOf_append->LU,idxOf_cons->xj8,idxOf_le_length->xrj,isPrefixOf->uS,length->xD,length_append->zy,length_cons->zY,length_drop->yh,length_pos_iff->yv,length_replicate->kl,length_take->uK,lookup_cons->QN,map_append->TT,map_cons->vE,map_nil->zpd,mem_append->zS,mem_cons_of_mem->uk,mem_cons_self->qI,mem_filter->ux,mem_map->uQ,mem_of_getElem?->zW,mem_of_mem_drop->dV,mem_reverse->Zj,nil_append->xK,nodup_append->yex,range->xB,replicate->zX,replicate_succ->qW,take_append_drop->Xx,take_left->oZ,take_length->fE,take_of_length_le->yr,take_succ_eq_append_getElem->yj
open Go.Lit.int renaming injEq->yzy
open Go.Maps renaming atKey_put_other->dT,atKey_put_same->UW,has_put_other->Od,has_put_same->QI,int_keyed->vz0,keyOf_int_mk->yev,string_keyed->xE
open Nat renaming add_assoc->kh,add_mul->ki,add_sub_cancel->Z1,add_sub_cancel_left->D9,add_zero->Ej,eq_zero_or_pos->xu4,le_refl->Y,le_succ->dK,le_trans->zj,lt_irrefl->kD,lt_of_lt_of_le->zD,lt_succ_self->dQ,mod_lt->xu1,mod_one->wg,mul_assoc->LY,mul_comm->dY,mul_le_mul_right->qp,mul_zero->ew,not_lt_zero->KV,one_le_pow->xu2,one_mul->vq3,pow_succ->Zw,zero_add->uE,zero_le->zQ
open Go.Op renaming bytesLess->bB
open Option renaming map_some->QM
open Option.some renaming inj->zL,injEq->vA
open Prod.mk renaming injEq->Hi
open Go.Result renaming andThen->ym
open Go.Sem renaming run_bind->js
open SizeOf renaming sizeOf->zE
open Go.Sort renaming ahead->zzq
open UInt8 renaming lt_iff_toNat_lt->TW,toNat_inj->dW,toNat_ofNat'->Ev
open UInt8.toNat renaming inj->Y6
open Go.Value renaming bool->gI,cells->Jc,int->yb,ownBlock->yl,slice->vL
open Go.Value.slice renaming injEq->gZ
open Go.WideAt renaming IsKeyLit->kJ
open Go.WideMaps renaming keyOf_string_mk->xu
open Go.World renaming block_lt_of_cell?->X,cell?_alloc_lt->zc,cell?_alloc_some->bQ,cell?_of_block->yE,cell?_setCell_other->yC,cell?_setCell_same->uX,frozen?_of_block->zV,frozen?_setCell->zO,ownsMap_made->Hl,ownsRow_nil->xx,setCell->xg
open Go.World.grownBy renaming refl->vz2
open Go.World.ownsRow renaming drew->Fj,lt->vz1
open Go.Proofs.Tryz
namespace Go.Proofs.YtpggmjffejgakaaGreatDoor
open Go Go.RowKit
set_option maxRecDepth 10000
variable{L:Xj}{s:MkS}{B c hi i lo p:Nat}{F F':Nat->Prop}{w w' w0 w1 w2:z8}
def Fr.over{G a:Nat->Prop}(h:Fr F F' w w1)(k:Fr G a w1 w2)(b:∀q,G q->F q\/(w:Nat)<=q):Fr F F' w w2 :=
 ⟨k.os.trans h.os,k.tape.trans h.tape,k.output.trans h.output,zj h.size k.size,λi hi hn=>(k.keep i (zD hi h.size) (λq=>(b i q).elim hn J)).trans (h.keep i hi hn),h.fp⟩
structure XR(lo hi:Nat)(w0:z8)(B:Nat)(w:z8):Prop where
 keep:xh lo hi w0 w
 hB:hi<=B
 fo:qj w
 na:qx w
 g1:2<B
 g2:0<B
def XR.fr(h:XR lo hi w0 B w)(hf:Fr F F' w w')(hF:∀k,F k->B<=k):XR lo hi w0 B w':=by
 have hb:=h.hB;have c:=h.keep;refine⟨⟨zj c.1 hf.size,λk a b=>(hf.keep k (by have:=c.1;omega) (λq=>by have:=hF k q;omega)).trans (c.2 k a b)⟩,hb,h.fo.fr hf hF h.g1,λj d=>hf.cell (h.na j d) (λq=>by have:=hF _ q;have:=h.g2;simp only at *;omega),h.g1,h.g2⟩
def Rk(lo hi:Nat)(w0:z8)(f:Fo):Prop:=∀p L s w a c vs,uZ p L s w->XR lo hi w0 L.B w->U4 lo hi w0 a vs->yd lo hi w0 vs f->f.yT=true->f.wf 2000000=true->f.YK->f.len<=2000000->s.sz+f.cw<=900000 ->
 zC prog 50 #[(p,0),.slice a f.len c] w (MQ p L (MkS.Z7 f s) w)
structure ypg(N p:Nat)(s0:MkS)(keys:List Wd)(bg:Wd->MkS->MkS)(v:Value)(I:Xj->z8->Prop):Prop where
 fn:∃k cap,v = .func (.func k) #[] cap/\(∀args w,(callFunc k args).run prog w = .ok (.enter k args) w) /\
  ∀L s W key (a:Nat) ma mn mc,uZ p L s W->I L W->s0.le s->s.sz<=900000->key∈keys->zC prog k (#[.agg #[zM key,a,.slice ma mn mc]]++cap) W (Ru p L (bg key s) W)
 fr:∀L L' W W',I L W->Fr (L.has p) (L'.has p) W W'->I L' W'
 al:∀L W W' F F',I L W->Fr F F' W W'->(∀k,F k->N<=k)->I L W'
 le:∀k s,s.le (bg k s)/\(bg k s).sz=s.sz
def jC(w:z8)(p:Nat)(L:Xj)(s:MkS)(ls:List Nat)(bcs:List (Nat×Nat)):Prop :=
 bcs.length=ls.length/\∀(n i:Nat) (x:Nat×Nat),ls[n]? = some i->bcs[n]? = some x->jQ w p i x.1 x.2/\¬L.has p x.1/\¬L.has p x.2/\∃y,s.code[i]? = some y/\y.tg.length=1
def jQ.fr{b:Nat}(h:jQ w p i b c)(hf:Fr F F' w w')(h1:¬F b)(h2:¬F c):jQ w' p i b c:=⟨hf.cell h.pb h1,hf.cell h.pc h2,(yc (hf.keep b (X w _ h.pb) h1)).trans h.tb,(yc (hf.keep c (X w _ h.pc) h2)).trans h.tc⟩
def jQ.lt{b:Nat}(h:jQ w p i b c):b<(w:Nat)/\c<(w:Nat):=⟨X w _ h.pb,X w _ h.pc⟩
def jC.fr{L':Xj}{s':MkS}{ls:List Nat}{f:List (Nat×Nat)}(h:jC w p L s ls f)(hf:Fr (L.has p) (L'.has p) w w')(hs:s.le s'):jC w' p L' s' ls f :=
 ⟨h.1,λn i x h1 h2=>by
  obtain⟨a,b,c,y,d,e⟩:=h.2 n i x h1 h2;obtain⟨j,d2,g⟩:=hs i y d;exact⟨a.fr hf b c,λq=>(hf.fp _ q).elim b (by have:=a.lt;omega),λq=>(hf.fp _ q).elim c (by have:=a.lt;omega),j,d2,g.trans e⟩⟩
def jC.ty{ls:List Nat}{e:List (Nat×Nat)}(h:jC w p L s ls e)(hf:Fr F F' w w')(hF:∀k,F k->jh w k=some 143):jC w' p L s ls e :=
 ⟨h.1,λn i x h1 h2=>by
  obtain⟨a,b,c,d⟩:=h.2 n i x h1 h2;exact⟨a.fr hf (λq=>by have:=hF _ q;rw[a.tb]at this;cases this) (λq=>by have:=hF _ q;rw[a.tc]at this;cases this),b,c,d⟩⟩
def jC.al{ls:List Nat}{e:List (Nat×Nat)}(h:jC w p L s ls e)(hf:Fr yH yH w w'):jC w' p L s ls e :=
 ⟨h.1,λn i x h1 h2=>by
  obtain⟨a,b,c,d⟩:=h.2 n i x h1 h2;exact⟨a.fr hf id id,b,c,d⟩⟩
def jC.more{ls:List Nat}{d:List (Nat×Nat)}{b:Nat}{y:uG}(h:jC w p L s ls d)(g:jQ w p i b c)(hb:¬L.has p b)(hc:¬L.has p c)(hy:s.code[i]? = some y)(h1:y.tg.length=1) :
  jC w p L s (ls++[i]) (d++[(b,c)]):=by
 refine⟨by simp[h.1],λn j x a e=>?_⟩;by_cases hn:n<ls.length
 .rw[za hn]at a;rw[za (by have:=h.1;omega)]at e;exact h.2 n j x a e
 .have f:n=ls.length:=by have:=(zF.1 a).1;simp at this;omega
  rw[f,xq (Y _)]at a;rw[f,xq (by have:=h.1;omega),h.1]at e;simp at a e;subst a e;exact⟨g,hb,hc,y,hy,h1⟩
def pD:Y7 prog 314 143 .nilFunc 1 8 :=
 ⟨underlying314,info_parts yq,rfl,zR,zR⟩
def zaj(bcs:List (Nat×Nat)):List Value:=bcs.map λx=>Zc x.1 x.2
def go_leg(k:Wd)(a:Nat)(m r:Fo)(b:Wd->MkS->MkS)(s:MkS)(ls:List Nat) :
  MkS.ur (.xR k a m r) b s ls=MkS.ur r b ((MkS.Z7 m (b k s)).put 11 0 [] [0]) (ls++[(MkS.Z7 m (b k s)).code.length]):=rfl
def pB(n:Nat):(FO (yb .i64 0).cells (n*1)).toList=bo (zX n 0):=by
 apply DI
 .simp[FO,bo]
 .intro j h1 h2;simp[FO,bo,Jc,wg]
def Q8(n:Nat)(w:z8)(hn:n<=1000000):∃w',(Instr.makeSlice 85 (n:Int) (n:Int)).run prog w = .ok (.slice (w,0) n n) w'/\uq w' (.slice (w,0) n n) (zX n 0)/\Fr yH yH w w':=by
 obtain⟨i,hi,d,h2,h3⟩:=qt.info;obtain⟨w',hr,b,a⟩:=run_makeSlice_full (P:=prog) (w:=w) 0 85 3 i _ 1 qt.under hi d h2 .i64 .i64 n J GX dO (zQ _);rw[pB]at b;refine⟨w',hr,by simpa[uq]using b,a.os,a.tape,a.output,a.size,λk c _=>a.block k c zZ,λ_ q=>q.elim⟩
def GN{b:Option yM}{ws us s:List Value}{k0:Wd}{a0 l mc:Nat}{ma:Option yM}(r:xh lo hi w0 w)(d:U4 lo hi w0 b ws)(f:us.length=i*3)(k:ws=us++(zM k0 :: .int .i64 (a0:Nat) :: .slice ma l mc::s)) :
  ∃g o,b=some ⟨g,o,none⟩/\zu w g (o+i*3) (zM k0)/\zu w g (o+i*3+1) a0/\zu w g (o+i*3+2) (.slice ma l mc):=by
 have a:∀j v,[zM k0,.int .i64 a0,.slice ma l mc][j]? = some v->j<3->ws[i*3+j]? = some v:=by
  intro j v q p;rw[k,<-f,xq J,D9,<-q];match j,p with
  | 0,_=>rfl
  | 1,_=>rfl
  | 2,_=>rfl
 have hc:∀j v,ws[i*3+j]? = some v->∃g o,b=some ⟨g,o,none⟩/\zu w g (o+(i*3+j)) v:=λj v h=>by
  obtain⟨h1,h2⟩:=zF.1 h;obtain⟨g,o,e,g1,g2,c⟩:=d _ h1;rw[h2]at c;exact⟨g,o,e,yL r c g1 g2⟩
 obtain⟨g,o,rfl,c0⟩:=hc 0 _ (a 0 _ rfl J);obtain⟨g1,t,m,c1⟩:=hc 1 _ (a 1 _ rfl J);obtain⟨g2,u,n,c2⟩:=hc 2 _ (a 2 _ rfl J);cases m;cases n;exact⟨g,o,rfl,c0,c1,c2⟩
def Fi(bs:Fo)(bg:Wd->MkS->MkS)(s:MkS):MkS:=(MkS.ur bs bg s []).2.foldl (λs i=>s.xH i 0) (MkS.ur bs bg s []).1
def Bc(b0:Nat)(n:Wd)(a fo:Nat)(of:Wd)(cl:Nat)(bs:Fo)(p:Nat)(L:Xj)(s:MkS)(bg:Wd->MkS->MkS)(v:Value)(I:Xj->z8->Prop)(w:z8)
  (ih:∀m:Fo,zE m<zE bs->Rk lo hi w0 m) (h:uZ p L s w) (he:XR lo hi w0 L.B w)
  (Fm:yd lo hi w0 [.iface 199 (b0,0)] (.br n a fo of cl bs .nil)) (hL:bs.xW=true) (hc:bs.YK) (hw:bs.wf 2000000=true) (hn:bs.len<=2000000) (hs:s.sz+bs.gw<=900000)
  (hb:ypg (w:Nat) p s bs.keys bg v I) (hI:I L w) :
  zC prog 141 #[(p,0),(b0,0),v] w (MQ p L (Fi bs bg s) w):=by
 obtain⟨vt,b',ba,bc,ws,hee,qE,qY,YZ,Vj,Xq,Ig,DV,R0,B4,Fp,_⟩:=Fm;cases hee;have c4:=yL he.keep DV qE qY;obtain⟨k,cap,rfl,ot,W⟩:=hb.fn;obtain⟨HH,HE,If,ax,HL,HC,HW,HB⟩:=OJ h he B4 Fp hL hc hw hb;obtain⟨HI,B1,HIH,HS⟩:=hdd hI W ih hs;obtain⟨R,hR⟩:=zr (MkS.ur bs bg s []);have HR:=Z hR;have hbR:Fi bs bg s=R.2.foldl (λs i=>s.xH i 0) R.1:=by unfold Fi;rw[hR]
 rw[hbR];obtain⟨M,hM⟩:=zr bs.len;have HM:=Z hM;rw[hM]at c4 hn;clear h he B4 Fp hL hc hw hb hI W ih hs hR hbR hM YZ Vj Xq Ig DV R0;go_enter func141,ntmps141;go_wp2_with fail;go_loopw [6,16] (λlv iv wr=>∃i us xs r z f ls N,iv = .int .i64 (i:Nat)/\i<=M/\yd lo hi w0 xs r/\r.xW=true/\r.YK/\r.wf 2000000=true/\us.length=i*3/\ws=us++xs/\i+r.len=M/\zE r<=zE bs/\(∀k∈r.keys,k∈bs.keys) /\
  uZ p f z wr/\(f.q=L.q/\f.B=L.B)/\Fr (L.has p) (f.has p) w wr/\I f wr/\s.le z/\z.sz+r.gw<=900000/\jC wr p f z ls N/\wr.ownsRow 0 143 1 lv ls.length (zaj N)/\(∀g,zH lv g->(w:Nat)<=g/\¬f.has p g)/\ls.length=i/\MkS.ur r bg z ls=R) (λ_ iv _=>M - (intOf iv).toNat)
 case atStart =>
  exact⟨0,[],ws,bs,s,L,[],[],rfl,zQ _,ax.o,HL.o,HC.o,HW.o,rfl,rfl,by have:=HM.o;omega,Y _,λ_ q=>q,HH.o,⟨rfl,rfl⟩,Fr.refl _ _,HI.o,s.le_refl,HS.o,⟨rfl,λn i x q=>by simp at q⟩,xx _ _ _ _,(λg q=>kK),rfl,HR.o⟩
 case round =>
  obtain⟨i,us,xs,r,z,f,ls,N,rfl,hiM,uD,d,O,EB,QA,Rj,C,bh,oN,Um,⟨hq1,oB⟩,Ue,hi1,ypf,T,hlp,F,hrg,ypd,N6⟩:=hrel;have he1:XR lo hi w0 f.B wr:=by rw[oB];exact HE.o.fr Ue HH.o.lo
  obtain⟨la,lc,rfl⟩:=zn F;by_cases uo:i<M
  .cases r with
   |nil=>exfalso;simp[Fo.len]at C;omega
   |text t r=>cases d
   |hash r=>cases d
   |put n a r=>cases d
   |num n a r=>cases d
   |br n a fo of cl bs r=>cases d
   |xR k0 a0 V r0 =>
    obtain⟨R1,ma,mc,ms,rfl,Uy,lU,U9⟩:=uD;obtain⟨g2,o2,rfl,e0,e1,e2⟩:=GN he1.keep If.o QA Rj;obtain⟨H,HE1,EF,Jo,xe3,HLP,u,A⟩:=OJ Um he1 Ue hi1 ypf hlp F hrg;obtain⟨G6,HLR,iT,Af,HUS,HWS,HKK,EJ⟩:=OJ N6 d O EB QA Rj oN Uy;obtain⟨HMN,DZ,QX,Zb,KG,HLS⟩:=EZ lU U9 C bh T ypd;have k3:(i:Int)<(M:Int):=J;have k4:decide ((i:Int)<(M:Int))=true:=yJ;clear Um he1 Ue hi1 ypf hlp F hrg N6 d O EB QA Rj oN Uy lU U9 C bh T ypd;go_wp2_with fail;obtain⟨wA,hwA⟩:=zr (wr.alloc (.cells #[zM k0,a0,.slice ma V.len mc] 221));have fA:Fr yH yH wr wA:=(by rw[<-hwA];exact(Fr.refl _ _).alloc _);have cA:=zf wr #[zM k0,a0,.slice ma V.len mc] 221 (0,0) 2;rw[hwA]at cA|-;clear hwA;have hmA:=H.o.fr fA (λ_ q=>q.elim);have yvy:k0∈bs.keys:=HKK.o k0 (by simp[Fo.keys]);have T:=KG.o;simp only[Fo.gw]at T;refine(B1.o f z wA k0 a0 ma V.len mc hmA (HB.o.al _ _ _ _ _ Jo.o fA (λ_ q=>q.elim)) xe3.o J yvy).mono ?_;rintro e w2 ⟨rfl,K,E⟩;obtain⟨lV,hbz⟩:=HB.o.le k0 z;have nA:¬f.has p (wr:Nat):=λq=>kD _ (H.o.lt q)
    have c2:=E.cell cA nA;have f12:Fr (f.has p) (f.has p) wr w2:=(fA.wide (λ_ q=>q.elim)).trans E;have TJ:XR lo hi w0 f.B w2:=HE1.o.fr f12 H.o.lo;have O:=iT.o;have U:(decide (k0.length<=4000001) && V.yT && decide (V.len<=2000000) && V.wf 2000000 && r0.wf 2000000)=true:=Af.o;simp only[zx,vJ]at U;have xe4:zE V<zE bs:=GZ;have xe5:=Z (HIH.o V xe4 p f (bg k0 z) w2 ma mc ms K TJ EJ.o HMN.o U.1.1.1.2 U.1.2 O.2.1 U.1.1.2 J);have F12:=Z f12;have HWQ:=Z U.2;clear K E f12 TJ O U xe4 cA fA hmA;go_wp2_with fail;refine xe5.o.mono ?_;rintro e w3 ⟨rfl,L2,iW,⟨KD,Dj⟩,PD⟩;have Fs:=Z iW;have G:=Z PD;clear iW PD xe5 c2;obtain⟨w4,hmk,KJ,GO⟩:=Q8 1 w3 J;rw[show((1:Nat):Int)=1 from rfl]at hmk;have ED:=Fs.o.fr GO (λ_ q=>q.elim);have he3:XR lo hi w0 L2.B w3:=by
     have:=(HE1.o.fr F12.o H.o.lo).fr G.o H.o.lo;rw[Dj];exact this
    have he4:XR lo hi w0 L2.B w4:=he3.fr GO (λ_ q=>q.elim);obtain⟨l,D⟩:=zr (MkS.Z7 V (bg k0 z));rw[D]at ED Fs;have hmz:=aV V (bg k0 z);rw[D]at hmz;have hx:(xF ⟨11,l.pos,0,[],zX 1 0⟩).length=3:=WJ;have EV:l.sz<=900000:=J;unfold MkS.sz at EV;have HP:=Z (Z6 p L2 l 11 0 [] (zX 1 0) (.slice none 0 0) (.slice (w3,0) 1 1) w4 ED (uq.nil _) KJ (λg hg=>Vp) (λg hg q=>zfq) (λg hg q=>kK)
     (λg hg=>by rcases hg with hg|hg<;>cases hg;have:=Fs.o.base;show L2.B<=(w3:Nat);omega)
     ⟨(by decide:11<12),zZ,zZ,zZ,by simp,rfl⟩ he4.fo he4.g1 J J J)
    have HF4:=Z GO;have vdf:=Z D;have HMZ:=Z hmz;clear ED he3 he4 KJ GO hmz hx D;go_wp2_with fail;refine HP.o.mono ?_;rintro e w5 ⟨b,c,rfl,Rf,ZZ,R0,L3,TE,⟨TB,hB3⟩,OO,nb5,nc5⟩;have HM5:=Z TE;have wI:=Z OO;have Wr:=Z Rf;clear HP TE OO Rf;have FA:=Z (show Fr (f.has p) (L3.has p) wr w5 from(((F12.o.trans G.o).trans (HF4.o.wide (λ_ q=>q.elim))).tr wI.o (λq Q=>by
     rcases Q with Q|Q|Q
     .exact(F12.o.trans G.o).fp q Q
     .cases Q
     .cases Q;exact .inr (F12.o.trans G.o).size)))
    have S:=FA.o.own u.o (λg hg=>(A.o g hg).2);obtain⟨ln,C⟩:=zr ls.length;rw[C]at S u A|-;have zzf:ln<=2000000:=(by have:=HLS.o;omega);have OC:=Z S;have av:=Z C;clear S C;go_wp2_with (at_builtin;refine KM pD [_] 1 OC.o J ?_);intro v6 w6 Jn P;have n3:∀g,zH (.slice la ln lc) g->¬L3.has p g:=λg hg q=>(FA.o.fp g q).elim (A.o g hg).2 (by have:=uj u.o hg;omega)
    have p9:z.le l:=MkS.le_trans (HB.o.le k0 z).1 HMZ.o.1;have hl3:=MkS.le_trans p9 (MkS.Ze l 11 0 [] (zX 1 0));have Te:=gh l 11 0 [] (zX 1 0);have hx3:(xF ⟨11,l.pos,0,[],zX 1 0⟩).length=3:=WJ;have oG:=HMZ.o.2;obtain⟨G1,G2,G3,G4,G5⟩:=Jl (HM5.o.fr P n3) ((EF.o.trans FA.o).over P (λq Q => .inr (A.o q Q).1)) (HB.o.al _ _ _ _ _ (HB.o.fr _ _ _ _ Jo.o FA.o) P (λq Q=>(A.o q Q).1)) (((HLP.o.fr FA.o hl3).more Wr.o nb5 nc5 (i:=l.code.length) (y:=⟨11,l.pos,0,[],zX 1 0⟩) (by simp[MkS.put]) zZ).ty P (λq Q=>xA OC.o Q)) (show ∀g,zH v6 g->(w:Nat)<=g/\¬L3.has p g from λg hg=>(P.fp g hg).elim (λq=>⟨(A.o g q).1,n3 g q⟩) (λq=>⟨zj (EF.o.trans FA.o).size q,λe=>by have:=HM5.o.lt e;omega⟩));obtain⟨a6,c6,rfl⟩:=zn Jn;have HO6:=Z Jn;clear Jn P n3 hmk;have hzb:=(HB.o.le k0 z).2;go_wp2;go_roundw
    case rel =>
     refine⟨i+1,us++[zM k0,.int .i64 a0,.slice ma V.len mc],R1,r0,l.put 11 0 [] (zX 1 0),L3,ls++[l.code.length],N++[(b,c)],uN,J,DZ.o,HLR.o,iT.o.2.2,HWQ.o,BX,BQ,by have:=QX.o;simp only[Fo.len]at this;omega,by have:=Zb.o;simp at this;omega,λk hk=>HKK.o k (by simp[Fo.keys,hk]),G1.o,⟨by rw[TB,KD,hq1],by rw[hB3,Dj,oB]⟩,G2.o,G3.o,MkS.le_trans xe3.o hl3,J,G4.o,?_,G5.o,by rw[zy,HLS.o];rfl,?_⟩
     .have:=HO6.o;rw[<-av.o]at this|-;simpa[zaj]using this
     .have:=G6.o;rw[go_leg,vdf.o]at this;exact this
    case measure=>simp only[intOf];omega
  .have kE:MkS.ur r bg z ls=(z,ls):=by
    cases r with
    |nil=>rfl
    |text t r=>cases d
    |hash r=>cases d
    |put n a r=>cases d
    |num n a r=>cases d
    |br n a fo of cl bs r=>cases d
    |xR k0 a0 V r0=>exfalso;simp only[Fo.len]at C;omega
   obtain rfl:(z,ls)=R:=kE.symm.trans N6;obtain⟨H,EF,HLP,u,A,KG⟩:=EZ Um Ue hlp F hrg T;obtain⟨ln,yr0⟩:=zr ls.length;rw[yr0]at u A|-;have zzf:ln<=2000000:=J;have QX:=Z yr0;clear Um he1 Ue hi1 ypf hlp F hrg N6 d O EB QA Rj oN C bh T uD kE yr0 ypd;go_wp2_with fail;go_loopw [37] (λjv wr2=>∃j l,jv = .int .i64 (j:Nat)/\j<=ln/\uZ p f l wr2/\Fr (f.has p) (f.has p) wr wr2/\l=(ls.take j).foldl (λs i=>s.xH i 0) z/\jC wr2 p f l ls N/\l.sz<=900000) (λjv _=>ln - (intOf jv).toNat)
   case atStart=>exact⟨0,z,rfl,zQ _,H.o,Fr.refl _ _,rfl,HLP.o,by have:=KG.o;omega⟩
   case round =>
    obtain⟨j,l,rfl,hj,K,E,D,hl2,EV⟩:=hrel;obtain⟨EK,VE,HL2,dn⟩:=hdd K E hl2 D;by_cases B2:j<ln
    .obtain⟨ij,hij⟩:∃ij,ls[j]? = some ij:=⟨_,zk Vt⟩;obtain⟨⟨b,c⟩,PT⟩:∃x,N[j]? = some x:=⟨_,zk (by have:=QX.o;have:=HLP.o.1;omega)⟩;obtain⟨hla,-,-,y,hy,hy1⟩:=hl2.2 j ij (b,c) hij PT;have S:=E.own u.o (λg hg=>(A.o g hg).2);obtain⟨g,gc,hve,-,-,QU⟩:=xf S J;cases hve;have Vj:zu wr g j (Zc b c):=by
      rw[QU j J];simp[zaj,PT]
     have xey:l.code.length<=1000000:=(by unfold MkS.sz at EV;omega);have HLA:=Z (Jf p f l ij 0 b c y wr K hla hy J xey J);have HIJ:=Z hij;have k3:(j:Int)<(ln:Int):=J;have k4:decide ((j:Int)<(ln:Int))=true:=yJ;clear K E hl2 D hla hy S QU hij PT;go_wp2_with fail;refine HLA.o.mono ?_;rintro e w3 ⟨rfl,iW,PD⟩;have Fs:=Z iW;have G:=Z PD;clear iW PD HLA;go_wp2;go_roundw
     case rel =>
      refine⟨j+1,l.xH ij 0,uN,J,Fs.o,VE.o.trans G.o,?_,HL2.o.fr G.o (l.Un _ _),by rw[XK];exact EV⟩;rw[List.take_add_one,HIJ.o];simp[dn.o]
     case measure=>simp only[intOf];omega
    .have HE2:=Z (show l=ls.foldl (λs i=>s.xH i 0) z by rw[D,yr Vt]);have k3:¬(j:Int)<(ln:Int):=(by omega);have k4:decide ((j:Int)<(ln:Int))=false:=yJ;clear K E hl2 D;go_wp2;refine yK (v := .tuple #[]) ?_ rfl ?_
     .simp[yN,results141,go_sem]
     rw[<-HE2.o];exact⟨rfl,f,EK.o,⟨hq1,oB⟩,EF.o.trans VE.o⟩
variable{n:Nat}{t:Wd}
def K0(w:z8)(b n:Nat)(f:Wd->Option Nat):Prop :=
 ∃D:DataW Unit,w.ownsMap prog 9 (plainElem prog 3) b n D/\Maps.size D=n/\∀m:Wd,Maps.has D (.string m)=(f m).isSome/\D.atKey (.string m) (.lit (.int .i64 0)) = .lit (.int .i64 (((f m).getD 0:Nat):Int))
def K0.g{w:z8}{b:Nat}{f:Wd->Option Nat}(h:K0 w b n f):jU 3 w b n f:=by
 obtain⟨D,h1,-,a⟩:=h;exact⟨D,h1,h1.isMap,a⟩
def K0.made(w:z8):K0 (w.alloc (.map #[] 0)) (w:Nat) 0 (λ_=>none):=⟨.map [],Hl w _ _ _,rfl,λm=>⟨rfl,rfl⟩⟩
def K0.fr{w w':z8}{b:Nat}{f:Wd->Option Nat}(h:K0 w b n f)(hf:Fr F F' w w')(hb:¬F b):K0 w' b n f:=by
 have c:=h.g.lt;obtain⟨D,⟨es,a,d,rest⟩,h2⟩:=h;exact⟨D,⟨es,a,(hf.keep b c hb).trans d,rest⟩,h2⟩
def K0.len{w:z8}{b:Nat}{f:Wd->Option Nat}(h:K0 w b n f)(ty:xm):(yfy #[139] ty #[.map (some b)]).run prog w = .ok (n:Nat) w:=by
 obtain⟨D,h1,rfl,_⟩:=h;exact h1.len underlying139 ty
def K0.put{w:z8}{b:Nat}{f:Wd->Option Nat}(h:K0 w b n f)(m:Wd)(hm:m.length<=5000000)(k:Nat)(i:k<=1000000000)(hn:n<=1000000000)(hf:f m=none) :
  ∃w',(TY 139 (.map (some b)) (zM m) (k:Int)).run prog w = .ok () w'/\K0 w' b (n+1) (λx=>if m=x then some k else f x)/\w.grownBy w' (some b):=by
 obtain⟨D,h1,h2,h3⟩:=h;have hi:=h1.isMap;have e:=h1.tidy (xE underlying9);obtain⟨w',d,c,g⟩:=h1.update (xE underlying9) underlying139 dO (key:=zM m) (xu (s:=⟨m.toArray⟩) underlying9 VP)
  (bK underlying3 (q := .i64) (a:=(k:Int)) zx1)
 rw[toList_mk]at c;refine⟨w',d,⟨_,c,?_,λx=>?_⟩,g⟩
 .rw[Maps.size_put e,(h3 m).1,hf];simp[h2]
 .by_cases hx:m=x
  .exact yb3
  .exact yb6
structure YJ(N p i4 pb mb:Nat)(kv:Value)(acc:List Nat)(done:List Wd)(L:Xj)(w:z8):Prop where
 k0:zu w i4 0 (.int .i64 10)
 k1:zu w i4 1 (.int .i64 0)
 k2:zu w i4 2 (.int .i64 0)
 k3:zu w i4 3 kv
 k4:zu w i4 4 (.slice none 0 0)
 z:∀j,w.frozen? ⟨i4,j,none⟩=false
 pm:zu w pb 0 (.map (some mb))
 mp:K0 w mb done.length (ju done)
 row:uq w kv acc
 lo:N<=i4/\N<=pb/\N<=mb/\∀g,zH kv g->N<=g
 out:¬L.has p i4/\¬L.has p pb/\¬L.has p mb/\∀g,zH kv g->¬L.has p g
 ne:i4≠pb/\i4≠mb/\pb≠mb/\¬zH kv i4/\¬zH kv pb/\¬zH kv mb
section
variable {N p i4 pb mb:Nat} {kv:Value} {acc:List Nat} {done:List Wd} {L L':Xj} {w w':z8}
def YJ.lt(h:YJ N p i4 pb mb kv acc done L w):i4<(w:Nat)/\pb<(w:Nat)/\mb<(w:Nat):=⟨X w _ h.k0,X w _ h.pm,h.mp.g.lt⟩
def YJ.keep(h:YJ N p i4 pb mb kv acc done L w)(hf:Fr F F' w w')(hF:∀g,(g=i4\/g=pb\/g=mb\/zH kv g)->¬F g)(d:∀g,(g=i4\/g=pb\/g=mb\/zH kv g)->¬L'.has p g):YJ N p i4 pb mb kv acc done L' w':=by
 have a:=hF i4 (.inl rfl);have b:=hF pb (.inr (.inl rfl));have c:=hF mb (.inr (.inr (.inl rfl)));exact⟨hf.cell h.k0 a,hf.cell h.k1 a,hf.cell h.k2 a,hf.cell h.k3 a,hf.cell h.k4 a,λj=>(hf.frozen h.lt.1 a).trans (h.z j),hf.cell h.pm b,h.mp.fr hf c,hf.own h.row (λg e=>hF g (.inr (.inr (.inr e)))),h.lo,⟨d i4 (.inl rfl),d pb (.inr (.inl rfl)),d mb (.inr (.inr (.inl rfl))),λg e=>d g (.inr (.inr (.inr e)))⟩,h.ne⟩
def YJ.all(h:YJ N p i4 pb mb kv acc done L w):∀g,(g=i4\/g=pb\/g=mb\/zH kv g)->¬L.has p g/\g<(w:Nat)/\N<=g:=by
 rintro g (rfl|rfl|rfl|a)
 .exact⟨h.out.1,h.lt.1,h.lo.1⟩
 .exact⟨h.out.2.1,h.lt.2.1,h.lo.2.1⟩
 .exact⟨h.out.2.2.1,h.lt.2.2,h.lo.2.2.1⟩
 .exact⟨h.out.2.2.2 g a,uj h.row a,h.lo.2.2.2 g a⟩
def YJ.fr(h:YJ N p i4 pb mb kv acc done L w)(hf:Fr (L.has p) (L'.has p) w w'):YJ N p i4 pb mb kv acc done L' w' :=
 h.keep hf (λg a=>(h.all g a).1) (λg a q=>(hf.fp g q).elim (h.all g a).1 (by have:=(h.all g a).2.1;omega))
def YJ.al(h:YJ N p i4 pb mb kv acc done L w)(hf:Fr F F' w w')(hF:∀g,F g->(w:Nat)<=g):YJ N p i4 pb mb kv acc done L w' :=
 h.keep hf (λg hg q=>zqj) (λg hg=>(h.all g hg).1)
def YJ.key(h:YJ N p i4 pb mb kv acc done L w)(c:t ∉ done)(hm:K0 w' mb (done.length+1) (λx=>if t=x then some done.length else ju done x))(a:w.grownBy w' (some mb)):YJ N p i4 pb mb kv acc (done++[t]) L w':=by
 have hf:Fr (λk=>k=mb) (λk=>k=mb) w w':=⟨a.os,a.tape,a.output,a.size,λk b hn=>a.block k b (λe=>hn (zL e)),λ_ q => .inl q⟩;obtain⟨n1,n2,n3,n4,f,d⟩:=h.ne;rw[FK c]at hm;exact⟨hf.cell h.k0 n2,hf.cell h.k1 n2,hf.cell h.k2 n2,hf.cell h.k3 n2,hf.cell h.k4 n2,λj=>(hf.frozen h.lt.1 n2).trans (h.z j),hf.cell h.pm n3,by simpa using hm,hf.own h.row (λg a e=>d (e▸a)),h.lo,h.out,h.ne⟩
def YJ.num{d:Value}(h:YJ N p i4 pb mb kv acc done L w)(hr:uq w2 d (acc++[n]))(hf:Fr (zH kv) (zH d) w w2)(o:∀g,L.has p g->g<(w:Nat))(r:N<=(w:Nat)):YJ N p i4 pb mb d (acc++[n]) done L (w2.setCell (i4,3) d):=by
 obtain⟨n1,n2,n3,n4,l,m⟩:=h.ne;have k:∀g,zH d g->zH kv g\/(w:Nat)<=g:=hf.fp;have f:∀g,g<(w:Nat)->¬zH kv g->¬zH d g:=λg a b c=>(k g c).elim b J
 have c:=λ(j:Nat) (v:Value) (hc:zu w i4 j v) (q:j≠3)=>(show(w2.setCell (zU i4 3) d).cell? (zU i4 j)=some v by rw[zo,yz (λe=>q BK)];exact hf.cell hc n4)
 refine⟨c 0 _ h.k0 zR,c 1 _ h.k1 zR,c 2 _ h.k2 zR,yw (hf.cell h.k3 n4) _,c 4 _ h.k4 zR,λj=>by rw[zO];exact(hf.frozen h.lt.1 n4).trans (h.z j),uH (hf.cell h.pm l) _ n1,
  (h.mp.fr hf m).fr (show Fr (λg=>g=i4) (λg=>g=i4) w2 (w2.setCell (i4,3) d) from(Fr.refl _ _).set _ (.inl rfl)) (λe=>n2 e.symm),vY hr (f _ h.lt.1 n4) _,⟨h.lo.1,h.lo.2.1,h.lo.2.2.1,λg i=>(k g i).elim (h.lo.2.2.2 g) J⟩,
  ⟨h.out.1,h.out.2.1,h.out.2.2.1,λg i=>(k g i).elim (h.out.2.2.2 g) (λa b=>by have:=o g b;omega)⟩,n1,n2,n3,f _ h.lt.1 n4,f _ h.lt.2.1 l,f _ h.lt.2.2 m⟩
end
structure JZ(N p idx tb b c pb mb n:Nat)(f:Wd->Option Nat)(L:Xj)(w:z8):Prop where
 t:zu w tb 0 (Zc b c)
 l:jQ w p idx b c
 pm:zu w pb 0 (.map (some mb))
 mp:jU 3 w mb n f
 out:¬L.has p tb/\¬L.has p b/\¬L.has p c/\¬L.has p pb/\¬L.has p mb
 lt:tb<N/\b<N/\c<N/\pb<N/\mb<N
section
variable {N p idx tb b c pb mb n:Nat} {f:Wd->Option Nat} {L L':Xj} {w w':z8}
def JZ.keep(h:JZ N p idx tb b c pb mb n f L w)(hf:Fr F F' w w')(hF:∀g,(g=tb\/g=b\/g=c\/g=pb\/g=mb)->¬F g/\¬L'.has p g):JZ N p idx tb b c pb mb n f L' w':=by
 have h1:=hF tb (.inl rfl);have h2:=hF b (.inr (.inl rfl));have a:=hF c (.inr (.inr (.inl rfl)));have d:=hF pb (.inr (.inr (.inr (.inl rfl))));have e:=hF mb (.inr (.inr (.inr (.inr rfl))));exact⟨hf.cell h.t h1.1,h.l.fr hf h2.1 a.1,hf.cell h.pm d.1,h.mp.fr hf e.1,⟨h1.2,h2.2,a.2,d.2,e.2⟩,h.lt⟩
def JZ.all(h:JZ N p idx tb b c pb mb n f L w):∀g,(g=tb\/g=b\/g=c\/g=pb\/g=mb)->¬L.has p g/\g<N/\g<(w:Nat):=by
 obtain⟨k,m,o,q,r⟩:=h.out;obtain⟨a,d,e,i,j⟩:=h.lt;rintro g (rfl|rfl|rfl|rfl|rfl)
 .exact⟨k,a,X w _ h.t⟩
 .exact⟨m,d,h.l.lt.1⟩
 .exact⟨o,e,h.l.lt.2⟩
 .exact⟨q,i,X w _ h.pm⟩
 .exact⟨r,j,h.mp.lt⟩
def JZ.fr(h:JZ N p idx tb b c pb mb n f L w)(hf:Fr (L.has p) (L'.has p) w w'):JZ N p idx tb b c pb mb n f L' w' :=
 h.keep hf (λg a=>⟨(h.all g a).1,λq=>(hf.fp g q).elim (h.all g a).1 (by have:=(h.all g a).2.2;omega)⟩)
def JZ.al(h:JZ N p idx tb b c pb mb n f L w)(hf:Fr F F' w w')(hF:∀g,F g->N<=g):JZ N p idx tb b c pb mb n f L w' :=
 h.keep hf (λg hg=>⟨λq=>zqj,(h.all g hg).1⟩)
def zag(s:MkS)(x:uG)(key:Wd)(a:Nat)(ma:Option yM)(E mc:Nat)(hm:uZ p L s w)(h:JZ N p idx tb b c pb mb n f L w)(M:key.length<=17)(hx:s.code[idx]? = some x)(C:(f key).getD 0<x.tg.length)(H:x.tg.length<=1000000)(hs:s.code.length<=900000) :
  zC prog 142 #[.agg #[zM key,a,.slice ma E mc],(tb,0),(pb,0)] w (Ru p L (s.xH idx ((f key).getD 0)) w):=by
 obtain⟨A,hA⟩:=zr (w.alloc (.cells #[zM key,a,.slice ma E mc] 221));have u:Fr yH yH w A:=Hw;have d:=h.keep u (L':=L) (λg G=>⟨id,(h.all g G).1⟩);have r:=hm.fr u (λ_ q=>q.elim);have K:=zf w #[zM key,a,.slice ma E mc] 221 (0,0) 0;obtain⟨j,k⟩:=zr ((f key).getD 0);have D:=d.mp.FQ GL key J;rw[k]at D C|-;have O:=d.t;have hp:=d.pm;have F:=Z (Jf p L s idx j b c x A r d.l hx C J H);have z:=Z u;have I:=Z hA;subst hA;clear h hm d r hx C k u;go_enter func142,ntmps142;go_wp2_with fail;refine F.o.mono ?_;rintro e w2 ⟨rfl,m,i⟩;have B:=Z m;have y:=Z i;clear F m i;go_wp2;refine yK (v := .tuple #[]) ?_ rfl ?_
 .simp[yN,results142,go_sem]
 exact⟨rfl,B.o,(z.o.wide (λ_ q=>q.elim)).trans y.o⟩
end
def pC(h:uZ p L s w)(n N:Nat)(o:N<=(w:Nat)) :
  ∃W,W=(((w.alloc (.cells #[n] 3)).alloc (.cells #[.int .i64 10,.int .i64 0,.int .i64 0,.slice (w,0) 1 1,.slice none 0 0] 87)).alloc (.map #[] 0)).alloc (.cells #[.map (some ((w:Nat)+2))] 139) /\
   YJ N p ((w:Nat)+1) ((w:Nat)+3) ((w:Nat)+2) (.slice (w,0) 1 1) [n] [] L W/\Fr yH yH w W:=by
 obtain⟨A,hA⟩:=zr (w.alloc (.cells #[n] 3));have b:(A:Nat)=(w:Nat)+1:=by rw[<-hA];simp
 have r:uq A (.slice (zU (w:Nat) 0) 1 1) [n]:=by rw[<-hA];exact uq.lit w [n] zZ
 have l:Fr yH yH w A:=Hw;rw[hA];clear hA;obtain⟨B,hB⟩:=zr (A.alloc (.cells #[.int .i64 10,.int .i64 0,.int .i64 0,.slice (zU (w:Nat) 0) 1 1,.slice none 0 0] 87));have a:=λj=>zf A #[.int .i64 10,.int .i64 0,.int .i64 0,.slice (zU (w:Nat) 0) 1 1,.slice none 0 0] 87 (0,0) j
 have zB:∀j,B.frozen? ⟨(w:Nat)+1,j,none⟩=false:=by intro j;rw[<-hB,<-b];simp
 rw[hB,b]at a;have k:(B:Nat)=(w:Nat)+2:=by rw[<-hB];simp[b]
 have c:Fr yH yH A B:=WD;rw[hB];clear hB;obtain⟨C,hC⟩:=zr (B.alloc (.map #[] 0));have i:=K0.made B;rw[hC,k]at i;have t:(C:Nat)=(w:Nat)+3:=by rw[<-hC];simp[k]
 have m:Fr yH yH B C:=WB;rw[hC];clear hC;have d:Fr yH yH C (C.alloc (.cells #[.map (some ((w:Nat)+2))] 139)):=(Fr.refl _ _).alloc _;have f:=m.trans d;have no:∀g,(w:Nat)<=g->¬L.has p g:=λg hg q=>by have:=h.lt q;omega
 refine⟨_,rfl,⟨f.cell (a 0) id,f.cell (a 1) id,f.cell (a 2) id,f.cell (a 3) id,f.cell (a 4) id,λj=>(f.frozen (show (w:Nat)+1<_ by omega) id).trans (zB j),?_,i.fr d id,(c.trans f).own r (λ_ _=>id),⟨J,J,J,λg hg=>by cases hg;exact o⟩,
  ⟨no _ J,no _ J,no _ J,λg hg=>no g AM⟩,⟨J,J,J,λe=>?_,λe=>?_,λe=>?_⟩⟩,l.trans (c.trans f)⟩
 .rw[<-t];exact zf C #[.map (some ((w:Nat)+2))] _ _ _
 all_goals
  have u:(w:Nat)=_:=zL e;omega
def zaf(ks:List Wd)(k:Wd)(h:k∈ks):(ju (ks.filter (· ≠ qg)++[qg]) k).getD 0=MkS.place ks k/\MkS.place ks k<=(ks.filter (· ≠ qg)).length:=by
 unfold ju MkS.place;by_cases a:k=qg
 .subst a;rw[yV zZ,yV rfl];have:qg ∉ ks.filter (· ≠ qg):=by simp
  simp[LU,this,xj8]
 .have hm:k∈ks.filter (· ≠ qg):=ux.2 ⟨h,by simp[a]⟩;rw[yV (by simp[h,a]),yz a,LU,yV hm];exact⟨rfl,xrj⟩
def N7(b0:Nat)(n:Wd)(a:Nat)(of:Wd)(cl:Nat)(bs:Fo)(p:Nat)(L:Xj)(s:MkS)(w:z8)
  (ih:∀m:Fo,zE m<zE bs->Rk lo hi w0 m) (h:uZ p L s w) (he:XR lo hi w0 L.B w)
  (Fm:yd lo hi w0 [.iface 199 (b0,0)] (.br n a 0 of cl bs .nil)) (hc:(Fo.br n a 0 of cl bs .nil).YK) (IZ:(Fo.br n a 0 of cl bs .nil).wf 2000000=true) (hs:s.sz+(40+bs.cw)<=900000) :
  zC prog 97 #[(p,0),(b0,0)] w (MQ p L (Fi bs (MkS.bL n bs s) (MkS.kT n bs s)) w):=by
 have Em:=@run_makeMap prog;have HND:=Z Fm;obtain⟨vt,b',ba,bc,ws,hee,qE,qY,YZ,Vj,Xq,Ig,DV,R0,B4,Fp,_⟩:=Fm;cases hee;obtain⟨Ib,-,-,hL,zad,hks,PT,-⟩:=hc;have B5:(decide (n.length<=4000001) && decide (0<3) && bs.xW && decide (bs.len<=2000000) && bs.wf 2000000 && Fo.nil.wf 2000000)=true:=IZ;simp only[zx,vJ]at B5;obtain⟨⟨⟨-,hbn⟩,XB⟩,-⟩:=B5;have c0:=yL he.keep YZ qE qY;have c4:=yL he.keep DV qE qY;have bh:s.cs.length<=900000/\s.code.length<=900000/\s.pos<=900000:=WK;obtain⟨HC,HH,HE,If,ax,HL,aq,HKS⟩:=OJ (Q6 p L s n w h J J) h he B4 Fp hL zad hks;obtain⟨HBC,HBW,HIH,HS⟩:=hdd PT XB ih hs;obtain⟨M,hM⟩:=zr bs.len;have HM:=Z hM;rw[hM]at c4 hbn;obtain⟨k0,iI⟩:=zr (s.num n);rw[iI]at HC;have HK0:=Z iI;clear h he B4 Fp hL zad hks PT XB ih hs hM YZ Vj Xq Ig DV R0 iI IZ;go_enter func97,ntmps97;go_wp2_with fail;refine HC.o.mono ?_;rintro e w1 ⟨rfl,L1,Um,⟨hq1,oB⟩,Ue⟩;clear HC;obtain⟨W,hW,oQ,ON⟩:=pC Um k0 (w:Nat) Ue.size;have c4:=Ue.cell (a:=(zU b0 4)) c4 (λq=>by have:=HH.o.lo _ q;have:=HE.o.hB;simp only at *;omega);have c4a:=λo1 o2 o3 o4=>yy (yy (yy (yy c4 o1) o2) o3) o4
 obtain⟨R,hR⟩:=zr (MkS.vN bs (s.const n) [k0]);have HR:=Z hR;have z1:=(xM s n).1;go_wp2_with fail;rw[<-hW];obtain⟨i4,hi4⟩:=zr ((w1:Nat)+1);obtain⟨pb,hpb⟩:=zr ((w1:Nat)+3);obtain⟨mb,hmb⟩:=zr ((w1:Nat)+2);rw[hi4,show i4+1+1=pb by omega];go_loopw [24] (λiv wr=>∃i us xs r D S acc kv done pre,iv = .int .i64 (i:Nat)/\i<=M/\yd lo hi w0 xs r/\r.xW=true/\us.length=i*3/\ws=us++xs/\i+r.len=M/\bs.keys=pre++r.keys/\done=pre.filter (· ≠ qg) /\
  uZ p S D wr/\(S.q=L.q/\S.B=L.B)/\Fr (L.has p) (S.has p) w wr/\YJ (w:Nat) p i4 pb mb kv acc done S wr/\MkS.vN r D acc=R/\done.length<=i/\(acc.length=done.length+1/\∀x∈acc,x<=900000)/\D.sz+r.keys.length<=899990) (λiv _=>M - (intOf iv).toNat)
 case atStart =>
  rw[hi4,hpb,hmb]at oQ;exact⟨0,[],ws,bs,s.const n,L1,[k0],_,[],[],rfl,zQ _,ax.o,HL.o,rfl,rfl,by have:=HM.o;omega,rfl,rfl,Um.fr ON (λ_ q=>q.elim),⟨hq1,oB⟩,Ue.trans (ON.wide (λ_ q=>q.elim)),oQ,HR.o,Y _,⟨rfl,by have:=Ms s n;have:=HK0.o;simp;omega⟩,by have:=HS.o;have:=Fo.XP bs;omega⟩
 case round =>
  clear hW oQ ON Um Ue c4 c4a hR;obtain⟨i,us,xs,r,D,S,acc,kv,done,pre,rfl,hiM,uD,Fa,QA,Rj,Z4,N,G,Ko,⟨KD,Dj⟩,ZE,Q,N6,uR,⟨KP,hax⟩,V4⟩:=hrel;have HAX:=Z hax;have HAL:=Z KP;have vb2:acc.length<=i+1:=J;clear hax KP;have TJ:XR lo hi w0 S.B wr:=by rw[Dj];exact HE.o.fr ZE HH.o.lo
  obtain⟨EK,HE2,VE,E,G6,HLR,HUS,HWS⟩:=OJ Ko TJ ZE Q N6 Fa QA Rj;obtain⟨QX,om,HDN,KG⟩:=hdd Z4 N G V4;by_cases uo:i<M
  .cases r with
   |nil=>exfalso;simp[Fo.len]at Z4;omega
   |text t r=>cases Fa
   |hash r=>cases Fa
   |put n a r=>cases Fa
   |num n a r=>cases Fa
   |br n a fo of cl bs r=>cases Fa
   |xR k1 a0 m0 r0 =>
    obtain⟨R1,ma,mc,ms,rfl,Uy,lU,U9⟩:=uD;obtain⟨g2,o2,rfl,e0,e1,e2⟩:=GN TJ.keep If.o QA Rj;have DZ:=Z U9;have k3:(i:Int)<(M:Int):=J;have k4:decide ((i:Int)<(M:Int))=true:=yJ;clear Ko TJ ZE N6 Fa QA Rj Uy lU U9 Z4 N G V4;have hfA:Fr yH yH wr (wr.alloc (.cells #[zM k1,a0,.slice ma m0.len mc] 221)):=(Fr.refl _ _).alloc _;have U:=E.o.al hfA (λ_ q=>q.elim);have HSA:=Z U;have HFA:=Z (VE.o.trans (hfA.wide (λ_ q=>q.elim)));have HMA:=Z (EK.o.fr hfA (λ_ q=>q.elim));have EA:=QX.o;simp only[Fo.len]at EA;have aU:=KG.o;simp only[Fo.keys,zY]at aU;by_cases hko:k1=qg
    .have kq:(k1==[111,116,104,101,114])=true:=(by rw[hko];decide);have HKO:=Z hko;clear hfA U Q hko;go_wp2;go_roundw
     case rel =>
      refine⟨i+1,us++[zM k1,.int .i64 a0,.slice ma m0.len mc],R1,r0,D,S,acc,kv,done,pre++[k1],by go_num,J,DZ.o,HLR.o,BX,BQ,J,by rw[om.o];simp[Fo.keys],by rw[HDN.o,zzv];simp[HKO.o],HMA.o,⟨KD,Dj⟩,HFA.o,HSA.o,?_,J,⟨HAL.o,HAX.o⟩,J⟩;have:=G6.o;rw[MkS.vN,yV HKO.o]at this;exact this
     case measure=>simp only[intOf];omega
    .have kq:(k1==[111,116,104,101,114])=false:=(by simpa[qg]using hko);have HKO:=Z hko;have hkb:k1∈bs.keys:=MI;have O:k1 ∉ done:=by
      rw[HDN.o];intro q;have h1:=aq.o;rw[om.o]at h1;exact(yex.1 h1).2.2 k1 (ux.1 q).1 k1 (by simp[Fo.keys]) rfl
     have vb4:=(HKS.o k1 hkb).1;obtain⟨A,hdn⟩:=zr done.length;have V:=U.mp.len;obtain⟨wp,P,hmp,j⟩:=U.mp.put k1 J done.length J J (by unfold ju;rw[yz O]);have pmA:=U.pm;have f:=Z (U.key O hmp j);have hfp:Fr (λg=>g=mb) (λg=>g=mb) (wr.alloc (.cells #[zM k1,a0,.slice ma m0.len mc] 221)) wp:=⟨j.os,j.tape,j.output,j.size,λk hk hn=>j.block k hk (λe=>hn (zL e)),λ_ q => .inl q⟩;rw[hdn]at V P uR;have I:=Z hfp;have HGP:=Z (show zu wp (wr:Nat) 0 (zM k1)from hfp.cell (zf _ _ _ _ _) (λe=>by have:=E.o.lt.2.2;simp only at e;omega));clear hfA U Q hfp hmp j hko;have yr2:=HMA.o.fr I.o (by rintro g rfl;exact E.o.out.2.2.1);have xek:D.cs.length<=1000000:=(by unfold MkS.sz at aU;omega);have HCC:=Z (Q6 p S D k1 wp.drew yr2.drew J xek);have HMP:=Z yr2;obtain⟨kn,hkn⟩:=zr (D.num k1);rw[hkn]at HCC;have oF:=Z hkn;have HHL:=Z (show Fr (L.has p) (S.has p) w wp from HFA.o.over I.o (by rintro g rfl;exact .inr E.o.lo.2.2.1));obtain⟨ac,cc,rfl⟩:=zn f.o.row;have k3c:=f.o.k3;have kec:=HGP.o;have neb:¬S.has p (wr:Nat):=λq=>by have:=EK.o.lt q;omega
     obtain⟨an,han⟩:=zr acc.length;rw[han]at k3c;have vb2:an<=i+1:=J;have Y9:=f.o.row;rw[show uq wp (.slice ac acc.length cc) acc=wp.ownsRow 0 3 1 (.slice ac acc.length cc) acc.length (bo acc)from rfl,han]at Y9;have Y8:=Z Y9;have HAN:=Z han;clear yr2 xek hkn Y9 han;go_wp2_with fail;clear P V pmA;refine DN (λW':z8=>zu W' i4 3 (.slice ac an cc)/\zu W' (wr:Nat) 0 (zM k1)) 9 [0,1,2,3,4] 5 ⟨k3c,kec⟩ ?_;refine dJ 5 (λJk hJ=>?_);go_simp;refine HCC.o.mono ?_;rintro e w5 ⟨rfl,L3,TE,⟨TB,hB3⟩,C⟩;have C:=C.und;have k5:=C.cell k3c f.o.out.1;have e5:=C.cell kec neb;have K:=f.o.fr C;refine hJ.out _ _ ⟨k5,e5⟩ λ_=>?_
     clear hJ Jk;refine dJ 6 (λJk hJ=>?_);go_simp;refine hJ.out _ _ ⟨yy k5 _,yy e5 _⟩ λ_=>?_
     clear hJ Jk;refine dJ 7 (λJk hJ=>?_);rw[yV (by rfl)];refine jf qt [_] 1 (C.own Y8.o (λg l=>f.o.out.2.2.2 g (by rw[HAN.o];exact l))) J ?_;intro v6 w6 Jn T;rw[HAN.o]at K;have Ke:uq w6 v6 (acc++[kn]):=by
      show World.ownsRow _ _ _ _ _ (acc++[kn]).length _;rw[zy,HAN.o];simpa[bo]using Jn
     have z6:=(T.frozen (a:=(i4,3)) K.lt.1 K.ne.2.2.2.1).trans (K.z 3);have HSN:=Z (K.num Ke T (λg l=>TE.lt l) (zj VE.o.size (zj zZ (zj I.o.size C.size))));have HM6:=Z (TE.fr T (λg l=>K.out.2.2.2 g l));have HF6:=Z ((HHL.o.trans C).over T (λg l => .inr (K.lo.2.2.2 g l)));have k6:=T.cell k5 K.ne.2.2.2.1;have hbo:¬zH (.slice ac an cc) (wr:Nat):=λq=>by
      have h1:=E.o.row;have h2:=f.o.ne;have:=uj E.o.row (g:=(wr:Nat)) (by rw[HAN.o];exact q);omega
     have e6:=T.cell e5 hbo;obtain⟨a6,c6,rfl⟩:=zn Jn;clear K Ke Jn;go_simp;refine hJ.out _ _ ⟨k6,e6⟩ λ_=>?_
     clear hJ Jk;refine jL [8] 1 rfl ZR yq yq ⟨k6,e6⟩ ?_;refine ty ?_;try simp only[pl]
     refine yS ?_;refine FT 9 (λJk hJ=>?_);go_simp;refine hJ.out _ _ ?_;clear hJ Jk;refine FW ?_ _;have fst:∀u,Fr (λg=>g=i4) (λg=>g=i4) w6 (w6.setCell (i4,3) u):=λu=>(Fr.refl _ _).set _ (.inl rfl)
     have HFS:=Z (fst (.slice a6 (an+1) c6));have HLO:=Z E.o.lo;have HOU:=Z (show ¬L3.has p i4 from HSN.o.out.1);clear C T TE k5 e5 k6 e6 fst;go_wp2;go_roundw
     case rel =>
      refine⟨i+1,us++[zM k1,.int .i64 a0,.slice ma m0.len mc],R1,r0,D.const k1,L3,acc++[kn],_,done++[k1],pre++[k1],by go_num,J,DZ.o,HLR.o,BX,BQ,J,MI,?_,HM6.o.fr HFS.o (by rintro g rfl;exact HOU.o),⟨TB.trans KD,hB3.trans Dj⟩,HF6.o.over HFS.o (by rintro g rfl;exact .inr HLO.o.1),HSN.o,?_,yJ,⟨by simp[HAL.o],?_⟩,?_⟩
      .rw[HDN.o,zzv];simp[HKO.o]
      .have:=G6.o;rw[MkS.vN,yz HKO.o,oF.o]at this;exact this
      .intro x hx;rcases zS.1 hx with hx|hx
       .exact HAX.o x hx
       .simp at hx;have:=Ms D k1;have:=oF.o;unfold MkS.sz at aU;omega
      .have:=(xM D k1).1;omega
     case measure=>simp only[intOf];omega
  .have kE:r.keys=[]/\MkS.vN r D acc=(D,acc):=yb0;have VB:=Z (show R=(D,acc)from N6.symm.trans kE.2);have HK1:=Z (show bs.keys=pre by rw[N,kE.1];simp);have O:qg ∉ done:=(by rw[G];simp);obtain⟨A,hdn⟩:=zr done.length;have V:=Q.mp.len;obtain⟨wp,P,hmp,j⟩:=Q.mp.put qg zR done.length J J (by unfold ju;rw[yz O]);have pmA:=Q.pm;have f:=Z (Q.key O hmp j);have hfp:Fr (λg=>g=mb) (λg=>g=mb) wr wp:=⟨j.os,j.tape,j.output,j.size,λk hk hn=>j.block k hk (λe=>hn (zL e)),λ_ q => .inl q⟩;rw[hdn]at V P uR;rw[show zM qg = .string ⟨#[111,116,104,101,114]⟩from rfl]at P;have uaj:A<=100000:=by
    have h1:done.length<=bs.keys.length:=(by rw[HK1.o,G];exact List.length_filter_le ..);have:=Fo.XP bs;have:=HS.o;omega
   have I:=Z hfp;have k3:¬(i:Int)<(M:Int):=J;have k4:decide ((i:Int)<(M:Int))=false:=yJ;have pmp:=f.o.pm;have hlp:=f.o.mp.len;rw[zy,hdn]at hlp;have uag:∀ty,(yfy #[139] ty #[.map (some mb)]).run prog wp = .ok ((A+1:Nat):Int) wp:=hlp;obtain⟨wm,hmk,hkm,lZ⟩:=Q8 (A+1) wp J;have xef:=Z hdn;clear Ko TJ ZE Q N6 Fa QA Rj Z4 N G V4 uD kE hmp j hfp hlp hdn;rw[show((A+1:Nat):Int)=(A:Int)+1 by omega]at hmk;have hS:=f.o.al lZ (λ_ q=>q.elim);obtain⟨ac,ak,aX⟩:=zn hS.row;have q0:=hS.k0;have q1:=hS.k1;have q2:=hS.k2;have q3:=hS.k3;have q4:=hS.k4;have z4:=hS.z 4;have FP:=I.o;have nmb:∀g,S.has p g->g≠mb:=(by rintro g l rfl;exact E.o.out.2.2.1 l);have fm2:Fr (λg=>g=mb) (λg=>g=mb) wr wm:=FP.trans (lZ.wide (λ_ q=>q.elim));have xed:=EK.o.fr fm2 (by rintro g rfl l;exact nmb _ l rfl);have hSt:∀u,Fr (λg=>g=i4) (λg=>g=i4) wm (wm.setCell (i4,4) u):=λu=>(Fr.refl _ _).set _ (.inl rfl)
   obtain⟨Fs,HEE,PY,HFM,HKM⟩:=Jl (xed.fr (hSt (.slice (zU (wp:Nat) 0) (A+1) (A+1))) (by rintro g rfl;exact E.o.out.1)) ((HE2.o.fr fm2 (by rintro g rfl;have:=E.o.lo.2.2.1;have:=EK.o.base;have:=HH.o.base;omega)).fr (hSt (.slice (zU (wp:Nat) 0) (A+1) (A+1))) (by rintro g rfl;have:=E.o.lo.1;have:=HH.o.base;omega)) hS lZ hkm;rw[aX]at q3;clear hS FP fm2 xed hSt lZ hkm nmb;go_wp2_with fail;obtain⟨wS,hwS⟩:=zr (wm.setCell (zU i4 4) (.slice (zU (wp:Nat) 0) (A+1) (A+1)));rw[hwS]at Fs HEE|-;have H:acc.length=A+1:=(by rw[HAL.o,xef.o]);obtain⟨x0,xi0,zk9⟩:∃x0 xi0,acc=x0::xi0:=by
    cases acc with
    |nil=>simp at H
    |cons a b=>exact⟨a,b,rfl⟩
   have hS:=PY.o;have lwp:∀g,S.has p g->g<(wp:Nat):=λg l=>by have:=EK.o.lt l;have:=I.o.size;omega
   have lkp:∀g,zH kv g->g<(wp:Nat):=λg l=>uj f.o.row l
   have rk1:uq wS kv acc:=(by rw[<-hwS];exact vY hS.row hS.ne.2.2.2.1 _);have rt1:uq wS (.slice (wp,0) (A+1) (A+1)) (zX (A+1) 0):=by
    rw[<-hwS];exact vY HKM.o (λe=>by have:=f.o.lt.1;have e2:(wp:Nat)=i4:=zL e;omega) _
   have Ab:IU ⟨10,D.pos,0,acc,zX (A+1) 0⟩:=by
    refine⟨(by decide:10<12),zZ,λx hx=>by have:=HAX.o x hx;omega,λx hx=>by have:=kC hx;omega,by show acc.length<=_;omega,?_⟩;show okB [110,42] acc.length (zX (A+1) 0).length=true;rw[H,kl];simp[okB]
   have hxl:(xF ⟨10,D.pos,0,acc,zX (A+1) 0⟩).length<=1000000:=by
    rw[zk9,N1];rw[zk9]at H;simp at H;omega
   have lK:=KG.o;unfold MkS.sz at lK;have HP:=Z (Z6 p S D 10 0 acc (zX (A+1) 0) kv (.slice (wp,0) (A+1) (A+1)) wS Fs.o rk1 rt1 (λg l=>hS.out.2.2.2 g l) (λg l q=>by cases l;exact kD _ (lwp _ q)) (λg l q=>by cases l;exact kD _ (lkp _ q))
    (λg l=>by
     have h1:=EK.o.base;have h2:=HH.o.base;have h3:=VE.o.size;have h4:=I.o.size;rcases l with l|l
     .have:=hS.lo.2.2.2 g l;omega
     .cases l;show S.B<=(wp:Nat);exact J) Ab HEE.o.fo HEE.o.g1 J J hxl)
   have hSS:D.put 10 0 acc (zX (A+1) 0)=MkS.kT n bs s:=by
    have h1:MkS.fy n bs s=(D,acc):=(by unfold MkS.fy;rw[HK0.o,HR.o,VB.o]);unfold MkS.kT;rw[h1,H]
   have xi1:D.code.length=(MkS.fy n bs s).1.code.length:=by
    have h1:MkS.fy n bs s=(D,acc):=(by unfold MkS.fy;rw[HK0.o,HR.o,VB.o]);rw[h1]
   obtain⟨HSS,HID,HTG,Vc⟩:=hdd hSS xi1 (show ∃x,(D.put 10 0 acc (zX (A+1) 0)).code[D.code.length]? = some x/\x.tg.length=A+1 from⟨_,by simp[MkS.put];rfl,zZ⟩) (show Fr (λg=>g=i4) (λg=>g=i4) wp wS by rw[<-hwS];exact(HFM.o.wide (λ_ q=>q.elim)).set _ (.inl rfl));clear rk1 rt1 Ab hxl lK hSS xi1 hS lwp lkp zk9 H;rw[aX]at HP;clear hwS;go_wp2_with fail;refine HP.o.mono ?_;rintro e w5 ⟨b,c,rfl,Rf,ZZ,R0,L3,TE,⟨TB,hB3⟩,C,nb5,nc5⟩;have HM5:=Z TE;have wI:=Z C;have Wr:=Z Rf;clear HP TE C Rf;go_wp2_with fail;obtain⟨wT,hwT⟩:=zr (w5.alloc (.cells #[Zc b c] 143));have hfT:Fr yH yH w5 wT:=(by rw[<-hwT];exact(Fr.refl _ _).alloc _);have hcT:=zf w5 #[Zc b c] 143 (0,0) 0;have hsT:(wT:Nat)=(w5:Nat)+1:=(by rw[<-hwT];simp);rw[hwT]at hcT;have ne:=f.o.ne;have lo:=f.o.lo;have ou:=f.o.out;have lt:=f.o.lt;have swr:=VE.o.size;have swp:=I.o.size;have swS:=Vc.o.size;have sw5:=wI.o.size;have hP:∀g,g=pb\/g=mb->¬(S.has p g\/zH kv g\/zH (.slice (zU (wp:Nat) 0) (A+1) (A+1)) g):=by
    rintro g (rfl|rfl) (q|q|q)
    .exact ou.2.1 q
    .exact ne.2.2.2.2.1 q
    .have:(wp:Nat)=_:=zL q;omega
    .exact ou.2.2.1 q
    .exact ne.2.2.2.2.2 q
    .have:(wp:Nat)=_:=zL q;omega
   rw[<-aX]at wI;have h3:∀g,g=pb\/g=mb->¬L3.has p g:=λg l q=>(wI.o.fp g q).elim (hP g l) (λq=>by rcases l with rfl|rfl<;>omega)
   have gS:Fr (λg=>g=i4) (λg=>g=i4) wp wS:=Vc.o;have FA:Fr (L.has p) (L3.has p) w wT:=((((VE.o.over I.o (by rintro g rfl;exact .inr lo.2.2.1)).over gS (by rintro g rfl;exact .inr lo.1)).tr wI.o (by
    rintro g (q|q|q)
    .exact VE.o.fp g q
    .exact .inr (lo.2.2.2 g q)
    .have:(wp:Nat)=g:=zL q;exact .inr J))).trans (hfT.wide (λ_ q=>q.elim))
   have HI:JZ (wT:Nat) p D.code.length (w5:Nat) b c pb mb (done++[qg]).length (ju (done++[qg])) L3 wT:=by
    have l5:=Wr.o.lt;refine⟨hcT,Wr.o.fr hfT id id,hfT.cell (wI.o.cell (gS.cell f.o.pm ne.1.symm) (hP pb (.inl rfl))) id,((f.o.mp.g.fr gS (λe=>ne.2.1 e.symm)).fr wI.o (hP mb (.inr rfl))).fr hfT id,
     ⟨λq=>by have:=HM5.o.lt q;omega,nb5,nc5,h3 pb (.inl rfl),h3 mb (.inr rfl)⟩,⟨J,J,J,J,J⟩⟩
   obtain⟨x,hx,hxt⟩:=HTG.o;have hdd:done=bs.keys.filter (· ≠ qg):=(by rw[HK1.o];exact HDN.o);have hB9:L3.B=L.B:=hB3.trans Dj;have xi2:ypg (wT:Nat) p (MkS.kT n bs s) bs.keys (MkS.bL n bs s) (.func (.func 142) #[] #[(w5,0),(pb,0)]) (λL W=>JZ (wT:Nat) p D.code.length (w5:Nat) b c pb mb (done++[qg]).length (ju (done++[qg])) L W):=by
    refine⟨⟨_,_,rfl,λargs w=>by first|rfl|simp[callFunc],λL s' W key a ma mn mc hm hI hle bh yvy=>?_⟩,λL L' W W' h hf=>h.fr hf,λL W W' F F' h hf hF=>h.al hf hF,λk x=>MkS.Mh n bs s k x⟩;obtain⟨e1,e2⟩:=zaf bs.keys key yvy;rw[<-hdd]at e1 e2;rw[HSS.o]at hx;obtain⟨y,hy,hyt⟩:=hle _ x hx;have QU:s'.code.length<=900000:=(by unfold MkS.sz at bh;omega);have:=zag s' y key a ma mn mc hm hI (HKS.o key yvy).1 hy (by rw[e1,hyt,hxt];have:=xef.o;omega) (by rw[hyt,hxt];omega) QU;rw[e1,HID.o]at this;exact this
   have xi3:=Z (Bc b0 n a 0 of cl bs p L3 (MkS.kT n bs s) (MkS.bL n bs s) _ _ wT HIH.o (by have:=HM5.o.fr hfT (λ_ q=>q.elim);rw[HSS.o]at this;exact this) (by rw[hB9];exact HE.o.fr FA HH.o.lo) HND.o HL.o HBC.o HBW.o (by rw[HM.o];exact hbn)
    (by have:=(MkS.N2 n bs s).2;have:=Fo.XP bs;have:=HS.o;omega) xi2 HI)
   have HFA:=Z FA;clear xi2 HI FA hx hfT hcT;rw[hwT];refine xi3.o.mono ?_;rintro e w9 ⟨rfl,L4,hm9,⟨hq9,vbv⟩,hf9⟩;have HM9:=Z hm9;have HF9:=Z hf9;clear hm9 hf9 xi3;go_wp2;refine yK (v := .tuple #[]) ?_ rfl ?_
   .simp[yN,results97,go_sem]
   exact⟨rfl,L4,HM9.o,⟨by rw[hq9,TB,KD],by rw[vbv,hB9]⟩,HFA.o.trans HF9.o⟩
variable{v:Value}
def VU(S:Nat->Prop)(p:Nat)(W0:z8)(L:Xj)(W:z8):Prop:=∀g,S g->g<(W0:Nat)/\¬L.has p g/\W.heap[g]? = W0.heap[g]?
section
variable {S:Nat->Prop} {p:Nat} {W0 W W':z8} {L L':Xj}
def VU.lt(h:VU S p W0 L W){g:Nat}(b:S g):g<(W:Nat):=by
 obtain⟨a,_,c⟩:=h g b;rw[OA a]at c;exact(yO.1 c).1
def VU.fr(h:VU S p W0 L W)(hf:Fr (L.has p) (L'.has p) W W'):VU S p W0 L' W':=λg d=>by
 obtain⟨a,b,c⟩:=h g d;have:=h.lt d;exact⟨a,λq=>(hf.fp g q).elim b J,(hf.keep g this b).trans c⟩
def VU.al(h:VU S p W0 L W)(hf:Fr F F' W W')(hF:∀g,F g->(W0:Nat)<=g):VU S p W0 L W':=λg d=>by
 obtain⟨a,b,c⟩:=h g d;exact⟨a,b,(hf.keep g (h.lt d) (λq=>by have:=hF g q;omega)).trans c⟩
def VU.cell(h:VU S p W0 L W){a:yM}(hc:W0.cell? a=some v)(b:S a.block):W.cell? a=some v:=(yE (h _ b).2.2).trans hc
def VU.xH(h:VU S p W0 L W){b:Nat}(a:jQ W0 p i b c)(hb:S b)(hc:S c):jQ W p i b c:=⟨h.cell a.pb hb,h.cell a.pc hc,(yc (h b hb).2.2).trans a.tb,(yc (h c hc).2.2).trans a.tc⟩
end
def fnR:Value->Option (DataW Unit×List MemPlace)
 |.func (.func k) first cap=>match first.toList,cap.toList with
  |[],[.pointer (some ⟨b,0,none⟩),.pointer (some ⟨c,0,none⟩)]=>if k=99 then some (.agg [.lit (.int .i64 (b:Nat)),.lit (.int .i64 (c:Nat))],[])else none
  |_,_=>none
 |.nilFunc=>some (.agg [],[])
 |_=>none
def zc0(b c:Nat):fnR (Zc b c)=some (.agg [.lit (.int .i64 (b:Nat)),.lit (.int .i64 (c:Nat))],[]):=by simp[fnR,Zc]
def yvu{b:Nat}{ps:List MemPlace}(h:fnR v=some (.agg [.lit (.int .i64 (b:Nat)),.lit (.int .i64 (c:Nat))],ps)):v=Zc b c:=by
 unfold fnR at h;split at h
 .next k first cap =>
  split at h
  .next b' c' h1 h2 =>
   split at h
   .next hk =>
    simp at h;obtain⟨⟨h3,h4⟩,_⟩:=h;have e1:first=#[]:=xu0.1 h1;have e2:cap=#[.pointer (some ⟨b',0,none⟩),.pointer (some ⟨c',0,none⟩)]:=xu0.1 h2;subst hk e1 e2;have h5:b'=b:=by omega
    have h6:c'=c:=by omega
    rw[h5,h6]
   .cases h
  .cases h
 .simp at h
 .cases h
def Yp(w:z8)(b n:Nat)(f:Wd->Option (Nat×Nat)):Prop :=
 ∃D:DataW Unit,w.ownsMap prog 9 fnR b n D/\∀m:Wd,Maps.has D (.string m)=(f m).isSome/\∀x,f m=some x->D.atKey (.string m) (.agg []) = .agg [.lit (.int .i64 (x.1:Nat)),.lit (.int .i64 (x.2:Nat))]
def Yp.lt{b:Nat}{f:Wd->Option (Nat×Nat)}(h:Yp w b n f):b<(w:Nat):=iG
def Yp.keep{b:Nat}{f:Wd->Option (Nat×Nat)}(h:Yp w b n f)(hb:w'.heap[b]? = w.heap[b]?):Yp w' b n f:=zyb
def Yp.fr{b:Nat}{f:Wd->Option (Nat×Nat)}(h:Yp w b n f)(hf:Fr F F' w w')(hb:¬F b):Yp w' b n f:=h.keep (hf.keep b h.lt hb)
def Yp.made(w:z8):Yp (w.alloc (.map #[] 0)) (w:Nat) 0 (λ_=>none):=⟨.map [],Hl w _ _ _,λm=>⟨rfl,λx hx=>Qe⟩⟩
def Yp.look{b:Nat}{f:Wd->Option (Nat×Nat)}(h:Yp w b n f)(m:Wd)(hm:m.length<=5000000) :
  ∃v,(TZ 279 (.map (some b)) (zM m) true).run prog w = .ok (.tuple #[v,.bool (f m).isSome]) w/\∀x,f m=some x->v=Zc x.1 x.2:=by
 obtain⟨D,h1,c⟩:=h;obtain⟨v,ps,a,hv⟩:=h1.look_ok (xE underlying9) underlying279 (z := .nilFunc) Qa (zd := .agg []) (zp:=[]) rfl
  (key:=zM m) (xu (s:=⟨m.toArray⟩) underlying9 VP)
 rw[toList_mk]at a hv;rw[(c m).1]at a;exact⟨v,a,λx hx=>yvu (ps:=ps) (by rw[hv,(c m).2 x hx])⟩
def Yp.put{b:Nat}{f:Wd->Option (Nat×Nat)}(h:Yp w b n f)(m:Wd)(hm:m.length<=5000000)(x:Nat×Nat)(hn:n<=1000000000) :
  ∃w',(TY 279 (.map (some b)) (zM m) (Zc x.1 x.2)).run prog w = .ok () w'/\Yp w' b (n+1) (λk=>if m=k then some x else f k)/\w.grownBy w' (some b):=by
 obtain⟨D,h1,h3⟩:=h;have hi:=h1.isMap;obtain⟨w',c,a,d⟩:=h1.update (xE underlying9) underlying279 dO (key:=zM m) (xu (s:=⟨m.toArray⟩) underlying9 VP) (zc0 x.1 x.2);rw[toList_mk]at a;refine⟨w',c,⟨_,a,λk=>?_⟩,d⟩;by_cases hx:m=k
 .subst hx;simp only[↓reduceIte];exact⟨by rw[QI hi (show kJ (.string m)from trivial)];simp,λy hy=>by cases hy;rw[UW hi (show kJ (.string m)from trivial)]⟩
 .simp only[hx,↓reduceIte];have gM:(Lit.string k) ≠ .string m:=λq=>hx (by cases q;rfl)
  exact⟨zqg,λy hy=>by rw[dT gM];exact(h3 k).2 y hy⟩
def Uj(ks:List Wd)(k:Wd):Option Nat:=if k∈ks then some 1 else none
def Rb(ks:List Wd)(t:Nat)(key:Wd)(s:MkS)(c:Nat):MkS:=if YQ.getD c []=key\/key=qg/\YQ.getD c [] ∉ ks then s.xH t c else s
structure pE(S:Nat->Prop)(p ab am hb hm tb b c idx na nh:Nat)(ks:List Wd)(fa:Wd->Option (Nat×Nat))(w:z8):Prop where
 ca:zu w ab 0 (.map (some am))
 ma:Yp w am na fa
 ch:zu w hb 0 (.map (some hm))
 mh:jU 3 w hm nh (Uj ks)
 ct:zu w tb 0 (Zc b c)
 l:jQ w p idx b c
 na:qx w
 s:S ab/\S am/\S hb/\S hm/\S tb/\S b/\S c/\S 0
section
variable {S:Nat->Prop} {p ab am hb hm tb b c idx na nh:Nat} {ks:List Wd} {fa:Wd->Option (Nat×Nat)} {W0 W:z8} {L L':Xj}
def pE.at(h:pE S p ab am hb hm tb b c idx na nh ks fa W0)(a:VU S p W0 L W):pE S p ab am hb hm tb b c idx na nh ks fa W:=by
 obtain⟨e,f,g,i,k,m,n,o⟩:=h.s;exact⟨a.cell h.ca e,h.ma.keep (a _ f).2.2,a.cell h.ch g,h.mh.keep (a _ i).2.2,a.cell h.ct k,a.xH h.l m n,λj d=>a.cell (h.na j d) o,h.s⟩
def pH(s:MkS)(x:uG)(key:Wd)(a:Nat)(ma:Option yM)(T mc:Nat)(C:uZ p L s W)(h:pE S p ab am hb hm tb b c idx na nh ks fa W0)(O:VU S p W0 L W)(hk:key.length<=17)(hx:s.code[idx]? = some x)(hj:x.tg.length=6)(hs:s.sz<=900000)(hf:fa key=none) :
  zC prog 144 #[.agg #[zM key,a,.slice ma T mc],(ab,0),(hb,0),(tb,0)] W (Ru p L (MkS.Rq ks idx key s) W):=by
 obtain⟨A,hA⟩:=zr (W.alloc (.cells #[zM key,a,.slice ma T mc] 221));have H:Fr yH yH W A:=Hw;have z:=O.al H (λ_ q=>q.elim);have f:=h.at z;have F:=C.fr H (λ_ q=>q.elim);have V:=zf W #[zM key,a,.slice ma T mc] 221 (0,0) 0;obtain⟨v,m,-⟩:=f.ma.look key J;rw[hf]at m;have c1:=f.ca;have n0:=f.na 0 J;have n1:=f.na 1 J;have n2:=f.na 2 J;have n3:=f.na 3 J;have n4:=f.na 4 J;have n5:=f.na 5 J;simp only[Yq,Yb,Fk]at n0 n1 n2 n3 n4 n5;have P:=λ{g:Nat} (hg:L.has p g)=>C.lt hg
 obtain⟨HI,HH,U,M,N,HX⟩:=EZ O h F H z hx;obtain⟨R,hR⟩:=zr (MkS.Rq ks idx key s);rw[hR];have HR:=Z (show(xB 6).foldl (Rb ks idx key) s=R from hR);subst hA;clear O h C H z f F hx hR hf;go_enter func144,ntmps144;go_wp2_with fail;go_loopw [20] (λQ wr=>∃j s',Q = .int .i64 (j:Nat)/\j<=6/\s'=(xB j).foldl (Rb ks idx key) s/\uZ p L s' wr/\Fr (L.has p) (L.has p) W wr/\VU S p W0 L wr/\s.le s'/\s'.sz=s.sz/\zu wr (W:Nat) 0 (zM key)) (λQ _=>6 - (intOf Q).toNat)
 case atStart=>exact⟨0,s,rfl,J,rfl,U.o,M.o.wide (λ_ q=>q.elim),N.o,s.le_refl,rfl,V⟩
 case round =>
  clear V c1 m n0 n1 n2 n3 n4 n5;obtain⟨j,s',rfl,hj6,n,w,B,r,u,G,wP⟩:=hrel;have i:=HH.o.at r;have nW:¬L.has p (W:Nat):=λq=>by have:=U.o;have h2:=P q;omega
  obtain⟨y,hy,hyt⟩:=u _ _ HX.o;obtain⟨HS',HM',HF',HI',HLE,Zb⟩:=EZ n w B r u G;by_cases E:j<6
  .obtain⟨t,I⟩:=zr (YQ.getD j []);have hix:∀W:z8,(Y2 107 (.agg #[.string ⟨#[122,101,114,111]⟩,.string ⟨#[111,110,101]⟩,.string ⟨#[116,119,111]⟩,.string ⟨#[102,101,119]⟩,.string ⟨#[109,97,110,121]⟩,.string ⟨#[111,116,104,101,114]⟩]) (j:Int)).run prog W = .ok (zM t) W:=by
    rw[<-I];match j,E with
    | 0,_=>exactλW=>yq
    | 1,_=>exactλW=>yq
    | 2,_=>exactλW=>yq
    | 3,_=>exactλW=>yq
    | 4,_=>exactλW=>yq
    | 5,_=>exactλW=>yq
   have htl:t.length<=5:=by
    rw[<-I];match j,E with
    | 0,_=>decide
    | 1,_=>decide
    | 2,_=>decide
    | 3,_=>decide
    | 4,_=>decide
    | 5,_=>decide
   have ch:=i.ch;have ct:=i.ct;have m:=i.mh.FQ GL t J;have k:=Z (show(xB (j+1)).foldl (Rb ks idx key) s=Rb ks idx key s' j by rw[List.range_succ,TX,<-n];rfl);have D:=Z (show Rb ks idx key s' j=if t=key\/key=qg/\t ∉ ks then s'.xH idx j else s' by unfold Rb;rw[I]);have QU:s'.code.length<=900000:=(by unfold MkS.sz at G hs;omega);have HLV:=Z (Jf p L s' idx j b c y wr w i.l hy J J J);have k3:(j:Int)<6:=J;clear w B r i u n I;by_cases d:t=key\/key=qg/\t ∉ ks
   .have HG:=Z (show(xB (j+1)).foldl (Rb ks idx key) s=s'.xH idx j by rw[k.o,D.o,yV d]);rcases (show t=key\/¬t=key/\key=qg/\t ∉ ks by by_cases q:t=key;exact .inl q;exact .inr ⟨q,d.resolve_left q⟩)with ha|⟨ha,hb,hc⟩
    .have kA:(t==key)=true:=(by simp[ha]);clear ha d;exact zkj
    .have kA:(t==key)=false:=(by simp[ha]);have kB:(key==[111,116,104,101,114])=true:=(by rw[hb];decide);rw[show Uj ks t=none from yz hc]at m;clear ha hb hc d;exact zkj
   .have HG:=Z (show(xB (j+1)).foldl (Rb ks idx key) s=s' by rw[k.o,D.o,yz d]);have ha:¬t=key:=λq=>d (.inl q)
    have kA:(t==key)=false:=(by simp[ha]);by_cases hb:key=qg
    .have hc:t∈ks:=yu λq=>d (.inr ⟨hb,q⟩)
     have kB:(key==[111,116,104,101,114])=true:=(by rw[hb];decide);rw[show Uj ks t=some 1 from yV hc]at m;clear ha hb hc d;exact zf1
    .have kB:(key==[111,116,104,101,114])=false:=(by simpa[qg]using hb);clear ha hb d;exact zf1
  .have K:=Z (show s'=R by rw[n,show j=6 by omega];exact HR.o);have k3:¬(j:Int)<6:=(by omega);clear w B r i u n;go_wp2;refine yK (v := .tuple #[]) ?_ rfl ?_
   .simp[yN,results144,go_sem]
   rw[<-K.o];exact⟨rfl,HM'.o,HF'.o⟩
def pI(s:MkS)(x:uG)(key:Wd)(a:Nat)(ma:Option yM)(B mc:Nat)(b1 c1 n:Nat)(l:uZ p L s W)(h:pE S p ab am hb hm tb b c idx na nh ks fa W0)(C:VU S p W0 L W)(I:key.length<=17)(D:jQ W0 p n b1 c1)(w:S b1)(y:S c1)(hx:s.code[n]? = some x)(H:x.tg.length=1)(hs:s.sz<=900000)(hf:fa key=some (b1,c1)) :
  zC prog 144 #[.agg #[zM key,a,.slice ma B mc],(ab,0),(hb,0),(tb,0)] W (Ru p L (s.xH n 0) W):=by
 obtain⟨A,hA⟩:=zr (W.alloc (.cells #[zM key,a,.slice ma B mc] 221));have m:Fr yH yH W A:=Hw;have d:=C.al m (λ_ q=>q.elim);have f:=h.at d;have k:=l.fr m (λ_ q=>q.elim);have G:=zf W #[zM key,a,.slice ma B mc] 221 (0,0) 0;obtain⟨v,z,hv⟩:=f.ma.look key J;obtain rfl:=hv _ hf;rw[hf]at z;have E:=f.ca;have F:s.code.length<=900000:=by unfold MkS.sz at hs;omega
 have g:=Z (Jf p L s n 0 b1 c1 x A k (d.xH D w y) hx J J J);have t:=Z m;subst hA;clear C h l m d f k hx hf hv D;go_enter func144,ntmps144;go_wp2_with fail;refine g.o.mono ?_;rintro e w3 ⟨rfl,j,i⟩;have u:=Z j;have r:=Z i;clear j i g;go_wp2;refine yK (v := .tuple #[]) ?_ rfl ?_
 .simp[yN,results144,go_sem]
 exact⟨rfl,u.o,(t.o.wide (λ_ q=>q.elim)).trans r.o⟩
end
variable{ks:List Wd}{m:Nat}
abbrev Ug:=List (Wd×Nat×Nat×Nat)
def Ug.fn(al:Ug)(k:Wd):Option (Nat×Nat):=(al.lookup k).map (·.2)
def Ug.ix(al:Ug):List (Wd×Nat):=al.map λe=>(e.1,e.2.1)
def IK:∀(al:Ug) (k:Wd),al.ix.lookup k=(al.lookup k).map (·.1)
 |[],_=>rfl
 |(k1,i,a)::al,k=>by
  have:=IK al k;simp only[Ug.ix,vE,QN]at this|-;split<;>simp_all
def Be:∀(al:Ug) (k:Wd) (x:Nat×Nat×Nat),al.lookup k=some x->(k,x)∈al
 |[],_,_,h=>xc
 |(k1,y)::al,k,x,h=>by
  simp only[QN]at h;split at h
  .next hk=>cases h;rw[eq_of_beq hk];exact qI
  .exact uk _ (Be al k x h)
def RZ(al:Ug)(m k:Wd)(x:Nat×Nat×Nat)(h:∀e∈al,e.1≠m):(al++[(m,x)]).lookup k=if m=k then some x else al.lookup k:=by
 induction al with
 |nil =>
  simp only[xK,QN,List.lookup_nil];by_cases b:m=k
  .simp[b]
  .rw[yz b,show(k==m)=false by simpa using λe=>b e.symm]
 |cons a al c =>
  obtain⟨k1,y⟩:=a;have h1:k1≠m:=h (k1,y) qI;have c:=c (λe he=>h e (uk _ he));simp only[xX,QN];by_cases b:k=k1
  .subst b;rw[yz (λe=>h1 e.symm)];simp
  .rw[show(k==k1)=false by simpa using b];exact c
def aQ{k:Wd}:(λx=>if k=x then some 1 else Uj ks x)=Uj (ks++[k]):=by
 funext x;unfold Uj;by_cases hx:k=x
 .simp[hx]
 .have:¬x=k:=λe=>hx e.symm
  simp[hx,this]
structure XS(N p ab am hb hm:Nat)(pre:List Wd)(al:Ug)(s:MkS)(L:Xj)(w:z8):Prop where
 ca:zu w ab 0 (.map (some am))
 ma:Yp w am al.length al.fn
 ch:zu w hb 0 (.map (some hm))
 mh:jU 3 w hm pre.length (Uj pre)
 lo:N<=ab/\N<=am/\N<=hb/\N<=hm
 out:¬L.has p ab/\¬L.has p am/\¬L.has p hb/\¬L.has p hm
 ne:ab≠am/\ab≠hm/\am≠hb/\am≠hm/\hb≠hm
 lp:∀e∈al,jQ w p e.2.1 e.2.2.1 e.2.2.2/\¬L.has p e.2.2.1/\¬L.has p e.2.2.2/\∃y,s.code[e.2.1]? = some y/\y.tg.length=1
 ks:∀e∈al,e.1∈pre
section
variable {N p ab am hb hm:Nat} {pre:List Wd} {al:Ug} {s s':MkS} {L L':Xj} {w w':z8}
def XS.lt(h:XS N p ab am hb hm pre al s L w):ab<(w:Nat)/\am<(w:Nat)/\hb<(w:Nat)/\hm<(w:Nat):=⟨X w _ h.ca,h.ma.lt,X w _ h.ch,h.mh.lt⟩
def XS.fr(h:XS N p ab am hb hm pre al s L w)(hf:Fr (L.has p) (L'.has p) w w')(hs:s.le s'):XS N p ab am hb hm pre al s' L' w':=by
 obtain⟨f,i,j,k⟩:=h.out;obtain⟨n,o,r,t⟩:=h.lt;have no:∀g,¬L.has p g->g<(w:Nat)->¬L'.has p g:=λg a b q=>(hf.fp g q).elim a J
 refine⟨hf.cell h.ca f,h.ma.fr hf i,hf.cell h.ch j,h.mh.fr hf k,h.lo,⟨no _ f n,no _ i o,no _ j r,no _ k t⟩,h.ne,λe he=>?_,h.ks⟩;obtain⟨a,b,c,y,d,l⟩:=h.lp e he;obtain⟨u,d2,m⟩:=hs _ y d;exact⟨a.fr hf b c,no _ b a.lt.1,no _ c a.lt.2,u,d2,m.trans l⟩
def XS.al'(h:XS N p ab am hb hm pre al s L w)(hf:Fr F F' w w')(hF:∀g,F g->(w:Nat)<=g):XS N p ab am hb hm pre al s L w':=by
 obtain⟨f,i,j,k⟩:=h.lt;have nf:∀g,g<(w:Nat)->¬F g:=λg a q=>by have:=hF g q;omega
 refine⟨hf.cell h.ca (nf _ f),h.ma.fr hf (nf _ i),hf.cell h.ch (nf _ j),h.mh.fr hf (nf _ k),h.lo,h.out,h.ne,λe he=>?_,h.ks⟩;obtain⟨a,b,c,d⟩:=h.lp e he;exact⟨a.fr hf (nf _ a.lt.1) (nf _ a.lt.2),b,c,d⟩
def XS.uF(h:XS N p ab am hb hm pre al s L w)(f:w.grownBy w' (some m))(hm:jh w m=none):∀e∈al,jQ w' p e.2.1 e.2.2.1 e.2.2.2/\¬L.has p e.2.2.1/\¬L.has p e.2.2.2/\∃y,s.code[e.2.1]? = some y/\y.tg.length=1:=λe he=>by
 obtain⟨a,b,c,d⟩:=h.lp e he;have hf:Fr (λk=>k=m) (λk=>k=m) w w':=⟨f.os,f.tape,f.output,f.size,λk g hn=>f.block k g (λe=>hn (zL e)),λ_ q => .inl q⟩;exact⟨a.fr hf (λe=>by have:=a.tb;rw[e,hm]at this;cases this) (λe=>by have:=a.tc;rw[e,hm]at this;cases this),b,c,d⟩
def zc1{w:z8}{b:Nat}{f:Wd->Option (Nat×Nat)}(h:Yp w b n f):jh w b=none:=by
 obtain⟨D,⟨es,a,c,_⟩,_⟩:=h;simp[jh,c]
def XS.key{k:Wd}(h:XS N p ab am hb hm pre al s L w)(b:jU 3 w' hm (pre.length+1) (λx=>if k=x then some 1 else Uj pre x))(a:w.grownBy w' (some hm)):XS N p ab am hb hm (pre++[k]) al s L w':=by
 have hf:Fr (λk=>k=hm) (λk=>k=hm) w w':=⟨a.os,a.tape,a.output,a.size,λk c hn=>a.block k c (λe=>hn (zL e)),λ_ q => .inl q⟩;obtain⟨n1,n2,n3,n4,d⟩:=h.ne;rw[aQ]at b;exact⟨hf.cell h.ca n2,h.ma.fr hf n4,hf.cell h.ch d,by simpa using b,h.lo,h.out,h.ne,h.uF a (XO h.mh),λe he=>List.mem_append_left _ (h.ks e he)⟩
def XS.ask{k:Wd}{b:Nat}{y:uG}(h:XS N p ab am hb hm pre al s L w)(g:k∈pre)(hn:∀e∈al,e.1≠k)(f:Yp w' am (al.length+1) (λx=>if k=x then some (b,c)else al.fn x))(d:w.grownBy w' (some am))
  (j:jQ w p i b c) (m:¬L.has p b) (n:¬L.has p c) (hy:s.code[i]? = some y) (h1:y.tg.length=1):XS N p ab am hb hm pre (al++[(k,i,b,c)]) s L w':=by
 have hf:Fr (λk=>k=am) (λk=>k=am) w w':=⟨d.os,d.tape,d.output,d.size,λk g hn=>d.block k g (λe=>hn (zL e)),λ_ q => .inl q⟩;obtain⟨n1,n2,n3,n4,o⟩:=h.ne;have a:=zc1 h.ma;have l:(λx=>if k=x then some (b,c)else al.fn x)=Ug.fn (al++[(k,i,b,c)]):=by
  funext x;unfold Ug.fn;rw[RZ al k x _ hn];split<;>rfl
 rw[l]at f;refine⟨hf.cell h.ca n1,by simpa using f,hf.cell h.ch n3.symm,h.mh.fr hf (λe=>n4 e.symm),h.lo,h.out,h.ne,λe he=>?_,λe he=>?_⟩
 .rcases zS.1 he with he|he
  .exact h.uF d a e he
  .simp at he;subst he;exact⟨j.fr hf (λe=>by have:=j.tb;rw[e,a]at this;cases this) (λe=>by have:=j.tc;rw[e,a]at this;cases this),m,n,y,hy,h1⟩
 .rcases zS.1 he with he|he
  .exact h.ks e he
  .simp at he;subst he;exact g
end
def plG(ks:List Wd)(ix:List (Wd×Nat))(t:Nat)(k:Wd)(x:MkS):MkS :=
 match ix.lookup k with
 |some i=>x.xH i 0
 |none=>MkS.Rq ks t k x
def aK(ab am hb hm tb b c:Nat)(al:Ug)(g:Nat):Prop:=g=ab\/g=am\/g=hb\/g=hm\/g=tb\/g=b\/g=c\/g=0\/∃e∈al,g=e.2.2.1\/g=e.2.2.2
def yvq{N p ab am hb hm idx b:Nat}{pre:List Wd}{al:Ug}{s:MkS}{L:Xj}{w i:z8}{x:uG}(h:XS N p ab am hb hm pre al s L w)(K:jQ w p idx b c)(ob:¬L.has p b)(oc:¬L.has p c)(D:qx w)(hB:0<L.B)(n:uZ p L s w)
  (hx:s.code[idx]? = some x) (E:x.tg.length=6) (R:∀k∈pre,k.length<=17) (A:w.alloc (.cells #[Zc b c] 143)=i) :
  ypg (i:Nat) p s pre (plG pre al.ix idx) (.func (.func 144) #[] #[(ab,0),(hb,0),(w,0)]) (λL W=>VU (aK ab am hb hm (w:Nat) b c al) p i L W)/\VU (aK ab am hb hm (w:Nat) b c al) p i L i:=by
 have m:Fr yH yH w i:=by rw[<-A];exact(Fr.refl _ _).alloc _
 have r:=zf w #[Zc b c] 143 (0,0) 0;rw[A]at r;have S:(i:Nat)=(w:Nat)+1:=by rw[<-A];simp
 have hp:=h.al' m (λ_ q=>q.elim);obtain⟨l1,l2,l3,l4⟩:=h.lt;obtain⟨U,V,o3,o4⟩:=h.out;have ll:=K.lt;have O:=n.base;refine⟨⟨⟨_,_,rfl,λargs w=>by first|rfl|simp[callFunc],λL' s' W key a ma M mc v H u z t=>?_⟩,λL L' W W' h hf=>h.fr hf,λL W W' F F' h hf hF=>h.al hf hF,λk x=>?_⟩,λg P=>?_⟩
 .have I:pE (aK ab am hb hm (w:Nat) b c al) p ab am hb hm (w:Nat) b c idx al.length pre.length pre al.fn i :=
   ⟨hp.ca,hp.ma,hp.ch,hp.mh,r,K.fr m id id,λj Q=>m.cell (D j Q) id,.inl rfl,.inr (.inl rfl),.inr (.inr (.inl rfl)),.inr (.inr (.inr (.inl rfl))),.inr (.inr (.inr (.inr (.inl rfl)))),.inr (.inr (.inr (.inr (.inr (.inl rfl))))),.inr (.inr (.inr (.inr (.inr (.inr (.inl rfl)))))),.inr (.inr (.inr (.inr (.inr (.inr (.inr (.inl rfl))))))) ⟩
  have f:=R key t;unfold plG;rw[IK];cases l:al.lookup key with
  |none =>
   obtain⟨y,hy,o⟩:=u _ x hx;exact pH s' y key a ma M mc v I H f hy (o.trans E) z (by unfold Ug.fn;rw[l];rfl)
  |some e =>
   obtain⟨T,b1,c1⟩:=e;have d:=Be al key _ l;obtain⟨q1,q2,G,y0,q4,q5⟩:=hp.lp _ d;obtain⟨y,hy,o⟩:=u _ y0 q4;exact pI s' y key a ma M mc b1 c1 T v I H f q1 (.inr (.inr (.inr (.inr (.inr (.inr (.inr (.inr ⟨_,d,.inl rfl⟩)))))))) (.inr (.inr (.inr (.inr (.inr (.inr (.inr (.inr ⟨_,d,.inr rfl⟩)))))))) hy (o.trans q5) z (by unfold Ug.fn;rw[l];rfl)
 .unfold plG;exact zuy
 .have C:∀k,L.has p k->L.B<=k:=n.lo;rcases P with rfl|rfl|rfl|rfl|rfl|rfl|rfl|rfl|⟨e,he,rfl|rfl⟩
  .exact⟨J,U,rfl⟩
  .exact⟨J,V,rfl⟩
  .exact⟨J,o3,rfl⟩
  .exact⟨J,o4,rfl⟩
  .exact⟨J,λq=>by have:=n.lt q;omega,rfl⟩
  .exact⟨J,ob,rfl⟩
  .exact⟨J,oc,rfl⟩
  .exact⟨J,λq=>by have:=C _ q;omega,rfl⟩
  .obtain⟨q1,q2,G,-⟩:=h.lp e he;exact⟨by have:=q1.lt;omega,q2,rfl⟩
  .obtain⟨q1,q2,G,-⟩:=h.lp e he;exact⟨by have:=q1.lt;omega,G,rfl⟩
def pL(h:uZ p L s w)(N:Nat)(r:N<=(w:Nat)) :
  ∃W,W=(((w.alloc (.map #[] 0)).alloc (.cells #[.map (some (w:Nat))] 139)).alloc (.map #[] 0)).alloc (.cells #[.map (some ((w:Nat)+2))] 279) /\
   XS N p ((w:Nat)+3) ((w:Nat)+2) ((w:Nat)+1) (w:Nat) [] [] s L W/\Fr yH yH w W:=by
 obtain⟨A,hA⟩:=zr (w.alloc (.map #[] 0));have j:(A:Nat)=(w:Nat)+1:=by rw[<-hA];simp
 have d:=jU.made 3 w;have m:Fr yH yH w A:=Hw;rw[hA]at d|-;clear hA;obtain⟨B,hB⟩:=zr (A.alloc (.cells #[.map (some (w:Nat))] 139));have k:(B:Nat)=(w:Nat)+2:=by rw[<-hB];simp[j]
 have a:=zf A #[.map (some (w:Nat))] 139 (0,0) 0;have b:Fr yH yH A B:=WD;rw[hB,j]at a;rw[hB];clear hB;obtain⟨C,hC⟩:=zr (B.alloc (.map #[] 0));have i:=Yp.made B;have o:(C:Nat)=(w:Nat)+3:=by rw[<-hC];simp[k]
 have n:Fr yH yH B C:=WB;rw[hC,k]at i;rw[hC];clear hC;have c:Fr yH yH C (C.alloc (.cells #[.map (some ((w:Nat)+2))] 279)):=(Fr.refl _ _).alloc _;have f:=n.trans c;have no:∀g,(w:Nat)<=g->¬L.has p g:=λg t q=>by have:=h.lt q;omega
 have l:Uj []=λ_=>none:=by funext x;simp[Uj]
 refine⟨_,rfl,⟨?_,i.fr c id,f.cell a id,by rw[l];exact d.fr (b.trans f) id,J,⟨no _ J,no _ J,no _ J,no _ J⟩,J,(λe he=>by cases he),(λe he=>by cases he)⟩,m.trans (b.trans f)⟩;rw[<-o];exact zf C #[.map (some ((w:Nat)+2))] _ _ _
def lL(k:Wd)(h:k.head? = some 61):yW k [61]=true/\vD k [61]=k.tail:=by
 cases k with
 |nil=>cases h
 |cons c t=>simp at h;subst h;constructor<;>simp[yW,vD]
def lN(k:Wd)(h:¬k.head? = some 61):yW k [61]=false/\vD k [61]=k:=by
 cases k with
 |nil=>constructor<;>simp[yW,vD]
 |cons c t =>
  have hc:¬c=61:=λe=>h (by rw[e];rfl)
  have a:¬61=c:=λe=>hc e.symm
  constructor<;>simp[yW,vD,uS,hc,a]
def pM(l:Wd)(h:l.length<=9)(hd:l.all yG=true):yg l<=4000000000:=zgq
def aJ(b0:Nat)(n:Wd)(a fo:Nat)(of:Wd)(cl:Nat)(bs:Fo)(p:Nat)(L:Xj)(s:MkS)(w:z8)
  (ih:∀m:Fo,zE m<zE bs->Rk lo hi w0 m) (h:uZ p L s w) (he:XR lo hi w0 L.B w) (lj:fo≠0)
  (Fm:yd lo hi w0 [.iface 199 (b0,0)] (.br n a fo of cl bs .nil)) (hc:(Fo.br n a fo of cl bs .nil).YK) (IZ:(Fo.br n a fo of cl bs .nil).wf 2000000=true) (hs:s.sz+(40+bs.cw)<=900000) :
  zC prog 98 #[(p,0),(b0,0)] w (MQ p L ((Fi bs (MkS.kZ n of bs s) (MkS.kY n of fo bs s)).put 5 0 [] []) w):=by
 have Em:=@run_makeMap prog;have HND:=Z Fm;obtain⟨vt,b',ba,bc,ws,hee,Q,S,YZ,Vj,Xq,Ig,DV,R0,B4,Fp,_⟩:=Fm;cases hee;obtain⟨Ib,hfl,hov,hL,zad,hks,PT,-⟩:=hc;have B5:(decide (n.length<=4000001) && decide (fo<3) && bs.xW && decide (bs.len<=2000000) && bs.wf 2000000 && Fo.nil.wf 2000000)=true:=IZ;simp only[zx,vJ]at B5;obtain⟨⟨⟨-,hbn⟩,XB⟩,-⟩:=B5;have c0:=yL he.keep YZ Q S;have c1:=yL he.keep Vj Q S;have c2:=yL he.keep Ig Q S;have c4:=yL he.keep DV Q S;have c3:=yL he.keep Xq Q S;have bh:s.cs.length<=900000/\s.code.length<=900000/\s.pos<=900000:=WK;obtain⟨HC,HH,HE,If,ax,HL,aq,HKS⟩:=OJ (Q6 p L s n w.drew h.drew J J) h he B4 Fp hL zad hks;obtain⟨HBC,HBW,HIH,HS⟩:=hdd PT XB ih hs;obtain⟨M,hM⟩:=zr bs.len;have HM:=Z hM;rw[hM]at c4 hbn;obtain⟨k0,iI⟩:=zr (s.num n);rw[iI]at HC;have HK0:=Z iI;obtain⟨ov,yr3⟩:=zr (yg of);rw[yr3]at c2 hov;have HOV:=Z yr3;clear h he B4 Fp hL zad hks PT XB ih hs hM YZ Vj Xq Ig DV R0 iI IZ yr3;go_enter func98,ntmps98;go_wp2_with fail;refine V1 (λW':z8=>zu W' b0 0 (zM n)/\zu W' b0 3 ov) [0,1,2,3,4,5,6,9,10,11,12] 4 ⟨c0,c2⟩ ?_;refine gX 7 (λP z=>?_);go_simp;refine HC.o.mono ?_;rintro e w1 ⟨rfl,L1,Um,⟨hq1,oB⟩,Ue⟩;clear HC;have Ue:=Ue.und;have F:¬L.has p b0:=λq=>by have:=HH.o.lo _ q;have:=HE.o.hB;omega
 have d0:=Ue.cell c0 F;have d2:=Ue.cell c2 F;refine z.out _ _ ⟨d0,d2⟩ λ_=>?_
 clear z P;refine gX 8 (λP z=>?_);go_simp;refine z.out _ _ ⟨yy d0 _,yy d2 _⟩ λ_=>?_
 clear z P;refine Tc [13] 1 ⟨yy d0 _,yy d2 _⟩ ?_;refine ty ?_;try simp only[pl]
 refine yS ?_;refine gX 14 (λP z=>?_);go_simp;have p9:=uq.lit w1 [k0] zZ;have xi6:=Um.alloc (.cells (bo [k0]).toArray 3);obtain⟨z1,z2,z3⟩:=xM s n;have hk9:k0<=900000:=by have:=Ms s n;have:=HK0.o;omega
 have DS:(xF ⟨4,(s.const n).pos,ov,[k0],[]⟩).length=7:=WH;have hF1:qj (w1.alloc (.cells (bo [k0]).toArray 3)):=(HE.o.fo.fr Ue HH.o.lo HE.o.g1).fr ((Fr.refl yH w1).alloc _) (λ_ q=>q.elim) HE.o.g1;have HP:=Z (Z6 p L1 (s.const n) 4 ov [k0] [] (.slice (w1,0) 1 1) (.slice none 0 0) (w1.alloc (.cells (bo [k0]).toArray 3)) xi6 p9 (uq.nil _) (λg hg q=>zqk) (λg hg=>Vp) (λg hg=>by cases hg)
  (λg hg=>zv9)
  ⟨(by decide:4<12),by show ov<=_;omega,yJ,zZ,zZ,rfl⟩ hF1 (by rw[oB];exact HE.o.g1) (by rw[z2];omega) (by rw[z3];omega) (by rw[DS];omega))
 refine HP.o.mono ?_;rintro e w2 ⟨bx,cx,rfl,-,-,-,L2,Ko,⟨KD,Dj⟩,ZE,-,-⟩;have fA:Fr yH yH w1 (w1.alloc (.cells (bo [k0]).toArray 3)):=(Fr.refl _ _).alloc _;have F2:Fr (L.has p) (L2.has p) w w2:=(Ue.trans (fA.wide (λ_ q=>q.elim))).tr ZE (λq hq=>zvj);obtain⟨s2,Ym⟩:=zr ((s.const n).put 4 ov [k0] []);have EV:s2.sz<=s.sz+9:=by rw[<-Ym,gh,DS];omega
 rw[Ym]at Ko;have d0:=F2.cell c0 F;have d2:=F2.cell c2 F;have d4:=F2.cell (a:=(zU b0 4)) c4 F;have d3:=F2.cell (a:=(zU b0 2)) c3 F;refine z.out _ _ ⟨d0,d2⟩ λ_=>?_
 clear z P;refine Y3 ?_ _;have VE:=Z F2;have EK:=Z Ko;have dn:=Z Ym;obtain⟨W,hW,ZN,ON⟩:=pL (s:=s2) Ko (w:Nat) F2.size;have c4a:=λo1 o2 o3 o4=>yy (yy (yy (yy d4 o1) o2) o3) o4
 have xi7:L2.q=L.q/\L2.B=L.B:=⟨KD.trans hq1,Dj.trans oB⟩;have HQ:=Z xi7;clear Um xi6 p9 hF1 HP Ue ZE fA F2 Ko Ym hq1 KD oB Dj xi7 DS z1 z2 z3;go_wp2_with fail;rw[show (w2:Nat)+1+1+1=(w2:Nat)+3 from rfl,show (w2:Nat)+1+1=(w2:Nat)+2 from rfl,<-hW];obtain⟨ab,hab⟩:=zr ((w2:Nat)+3);obtain⟨am,ham⟩:=zr ((w2:Nat)+2);obtain⟨hb,hhb⟩:=zr ((w2:Nat)+1);obtain⟨hm,hhm⟩:=zr (w2:Nat);rw[hab,hhb];rw[hab,ham,hhb,hhm]at ZN;obtain⟨R,hR⟩:=zr (MkS.vq bs s2 []);have HR:=Z hR;clear hab ham hhb hhm hR hW;go_loopw [36] (λiv wr=>∃i us xs r d u al pre,iv = .int .i64 (i:Nat)/\i<=M/\yd lo hi w0 xs r/\r.xW=true/\us.length=i*3/\ws=us++xs/\i+r.len=M/\bs.keys=pre++r.keys /\
  uZ p u d wr/\(u.q=L.q/\u.B=L.B)/\Fr (L.has p) (u.has p) w wr/\XS (w:Nat) p ab am hb hm pre al d u wr/\MkS.vq r d al.ix=R/\pre.length=i/\al.length<=i/\d.sz+8*r.keys.length<=899990) (λiv _=>M - (intOf iv).toNat)
 case atStart =>
  exact⟨0,[],ws,bs,s2,L2,[],[],rfl,zQ _,ax.o,HL.o,rfl,rfl,by have:=HM.o;omega,rfl,EK.o.fr ON (λ_ q=>q.elim),HQ.o,VE.o.trans (ON.wide (λ_ q=>q.elim)),ZN,HR.o,rfl,Y _,by have:=HS.o;have:=Fo.XP bs;omega⟩
 case round =>
  clear ZN ON c4a d0 d2 d3 d4;obtain⟨i,us,xs,r,d,u,al,pre,rfl,hiM,uD,Fa,QA,Rj,Z4,l,I,⟨TB,C⟩,D,A,N6,yr4,KP,V4⟩:=hrel;have U:XR lo hi w0 u.B wr:=by rw[C];exact HE.o.fr D HH.o.lo
  obtain⟨Fs,HE3,oR,HPL,G6,HLR,HUS,HWS⟩:=OJ I U D A N6 Fa QA Rj;obtain⟨QX,om,KG,HPR⟩:=hdd Z4 l V4 yr4;by_cases uo:i<M
  .cases r with
   |nil=>exfalso;simp[Fo.len]at Z4;omega
   |text t r=>cases Fa
   |hash r=>cases Fa
   |put n a r=>cases Fa
   |num n a r=>cases Fa
   |br n a fo of cl bs r=>cases Fa
   |xR k1 a0 m0 r0 =>
    obtain⟨R1,ma,mc,ms,rfl,Uy,lU,U9⟩:=uD;obtain⟨g2,o2,rfl,e0,e1,e2⟩:=GN U.keep If.o QA Rj;have DZ:=Z U9;have k3:(i:Int)<(M:Int):=J;have k4:decide ((i:Int)<(M:Int))=true:=yJ;have hfA:Fr yH yH wr (wr.alloc (.cells #[zM k1,a0,.slice ma m0.len mc] 221)):=(Fr.refl _ _).alloc _;have hpA:=A.al' hfA (λ_ q=>q.elim);have EA:=QX.o;simp only[Fo.len]at EA;have aU:=KG.o;simp only[Fo.keys,zY]at aU;have hkb:k1∈bs.keys:=MI;have yr5:k1 ∉ pre:=λq=>by
     have h1:=aq.o;rw[om.o]at h1;exact(yex.1 h1).2.2 k1 q k1 (by simp[Fo.keys]) rfl
    have vbf:=Z yr5;obtain⟨vb4,yr6⟩:=HKS.o k1 hkb;have TC:=hpA.mh.FQ GL k1 J;rw[show Uj pre k1=none from yz yr5]at TC;obtain⟨wp,xiz,hmp,E⟩:=hpA.mh.put GL k1 J 1 1 rfl J J;have H:=Z (hpA.key hmp E);have hfp:Fr (λg=>g=hm) (λg=>g=hm) (wr.alloc (.cells #[zM k1,a0,.slice ma m0.len mc] 221)) wp:=⟨E.os,E.tape,E.output,E.size,λk hk hn=>E.block k hk (λe=>hn (zL e)),λ_ q => .inl q⟩;have hcA:=hpA.ch;have HFP:=Z hfp;have kec:zu wp (wr:Nat) 0 (zM k1):=hfp.cell (zf _ _ _ _ _) (λe=>by have:=A.lt.2.2.2;simp only at e;omega);have HMP:=Z ((I.fr hfA (λ_ q=>q.elim)).fr hfp (by rintro g rfl;exact A.out.2.2.2));have Vc:=Z ((D.trans (hfA.wide (λ_ q=>q.elim))).over hfp (by rintro g rfl;exact .inr A.lo.2.2.2));have f:=Tryz.strings_CutPrefix ⟨k1.toArray⟩ ⟨#[61]⟩ wp;rw[show(vO k1.toArray).data.toList=k1 by simp,show(vO #[61]).data.toList=[61]from rfl]at f;clear I U D N6 Fa QA Rj Uy lU U9 Z4 l V4 yr4 hfA hpA A yr5 hmp E hfp;by_cases hx:k1.head? = some 61
    .rw[(lL k1 hx).1,(lL k1 hx).2]at f;have G:=Z f;obtain⟨q1,q2,q3⟩:=yr6 lj hx;have HAT:=Z (lz k1.tail wp q2 q3 q1);have HX:=Z hx;obtain⟨kv,aX⟩:=zr (yg k1.tail);obtain⟨kt,hkt⟩:=zr k1.tail;have uad:kv<=4000000000:=(by rw[<-aX];exact pM _ q2 q3);rw[aX,hkt]at HAT;rw[hkt]at G;have wR:=Z aX;clear f hx yr6 q1 q2 q3 aX hkt;go_wp2_with fail;refine G.o.mono ?_;rintro e w4 ⟨rfl,rfl⟩;go_wp2_with fail;refine HAT.o.mono ?_;rintro e w5 ⟨rfl,ZZ⟩;have f5:Fr yH yH w4 w5:=Fr.of ZZ;clear G HAT xiz TC hcA;have ca5:=f5.cell H.o.ca id;have ke5:=f5.cell kec id;go_wp2_with fail;refine V1 (λW':z8=>zu W' ab 0 (.map (some am))/\zu W' (wr:Nat) 0 (zM k1)) [0,1,2,3,4] 4 ⟨ca5,ke5⟩ ?_;refine gX 5 (λP z=>?_);obtain⟨w6,hmk,hk6,V⟩:=Q8 1 w5.drew J;rw[show((1:Nat):Int)=1 from rfl]at hmk;have V:=V.und;have ca6:=V.cell ca5 id;have ke6:=V.cell ke5 id;go_simp;refine z.out _ _ ⟨ca6,ke6⟩ λ_=>?_
     clear z P;refine Tc [6] 2 ⟨ca6,ke6⟩ ?_;refine ty ?_;try simp only[pl]
     refine yS ?_;refine gX 7 (λP z=>?_);go_simp;have f46:Fr yH yH w4 w6:=f5.trans V;have hm6:=HMP.o.fr f46 (λ_ q=>q.elim);have hp6:=H.o.al' f46 (λ_ q=>q.elim);have lK:=aU;unfold MkS.sz at lK;have h8:(xF ⟨7,d.pos,kv,[],zX 1 0⟩).length=7:=WH;have he6:XR lo hi w0 u.B w6:=(by rw[C];exact(HE.o.fr Vc.o HH.o.lo).fr f46 (λ_ q=>q.elim));have HP:=Z (Z6 p u d 7 kv [] (zX 1 0) (.slice none 0 0) (.slice (w5,0) 1 1) w6 hm6 (uq.nil _) hk6 (λg hg=>Vp) (λg hg q=>by cases hg;have h1:=HMP.o.lt q;have h2:=f5.size;exact absurd h1 (by show ¬(w5:Nat)<(w4:Nat);omega)) (λg hg q=>kK)
      (λg hg=>by rcases hg with hg|hg<;>cases hg;have h1:=HMP.o.base;have h2:=f5.size;show u.B<=(w5:Nat);omega)
      ⟨(by decide:7<12),by show kv<=_;omega,zZ,zZ,zZ,rfl⟩ he6.fo he6.g1 J J J)
     refine HP.o.mono ?_;rintro e w7 ⟨b,c,rfl,vbb,Xu,hc7,L4,hm7,⟨hq7,hB7⟩,PI,nb7,nc7⟩;have f47:Fr (u.has p) (L4.has p) w4 w7:=(f46.wide (λ_ q=>q.elim)).tr PI (λq hq=>by
      rcases hq with hq|hq|hq
      .exact .inl hq
      .cases hq
      .cases hq;exact .inr f5.size)
     have nk1:¬u.has p (wr:Nat):=λq=>by have:=Fs.o.lt q;omega
     have ca7:=f47.cell H.o.ca H.o.out.1;have ke7:=f47.cell kec nk1;have N:=H.o.fr f47 (MkS.Ze d 7 kv [] (zX 1 0));obtain⟨w8,xiy,xix,j⟩:=N.ma.put k1 J (b,c) J;have HP8:=Z (N.ask (k:=k1) zZ (λe he q=>vbf.o (by rw[<-q];exact HPL.o.ks e he)) xix j vbb nb7 nc7 (i:=d.code.length) (y:=⟨7,d.pos,kv,[],zX 1 0⟩) (by simp[MkS.put]) zZ);have hf8:Fr (λg=>g=am) (λg=>g=am) w7 w8:=⟨j.os,j.tape,j.output,j.size,λk hk hn=>j.block k hk (λe=>hn (zL e)),λ_ q => .inl q⟩;have HM8:=Z (hm7.fr hf8 (by rintro g rfl;exact N.out.2.1));have HF8:=Z ((Vc.o.trans f47).over hf8 (by rintro g rfl;exact .inr N.lo.2.1));have ca8:=hf8.cell ca7 N.ne.1;have ke8:=hf8.cell ke7 (λe=>by have:=HPL.o.lt.2.1;have e2:(wr:Nat)=am:=e;omega);have hz8:=gh d 7 kv [] (zX 1 0);refine z.out _ _ ⟨ca7,ke7⟩ λ_=>?_
     clear z P;refine gX 8 (λP z=>?_);go_simp;refine z.out _ _ ⟨ca8,ke8⟩ λ_=>?_
     clear z P;refine Y3 ?_ _;have hq9:=hq7;clear xiy N xix j hm7 PI f47 f46 hm6 hp6 he6 HP hmk;go_wp2;go_roundw
     case rel =>
      refine⟨i+1,us++[zM k1,.int .i64 a0,.slice ma m0.len mc],R1,r0,d.put 7 kv [] (zX 1 0),L4,al++[(k1,d.code.length,b,c)],pre++[k1],by go_num,J,DZ.o,HLR.o,BX,BQ,J,MI,HM8.o,⟨hq7.trans TB,hB7.trans C⟩,HF8.o,HP8.o,?_,by simp[HPR.o],by simp;omega,J⟩;have:=G6.o;rw[MkS.vq,yV HX.o,wR.o]at this;simpa[Ug.ix]using this
     case measure=>simp only[intOf];omega
    .rw[(lN k1 hx).1,(lN k1 hx).2]at f;have G:=Z f;have HX:=Z hx;clear f hx yr6;go_wp2_with fail;refine G.o.mono ?_;rintro e w4 ⟨rfl,rfl⟩;clear G xiz TC hcA;go_wp2;go_roundw
     case rel =>
      refine⟨i+1,us++[zM k1,.int .i64 a0,.slice ma m0.len mc],R1,r0,d,u,al,pre++[k1],by go_num,J,DZ.o,HLR.o,BX,BQ,J,by rw[om.o];simp[Fo.keys],HMP.o,⟨TB,C⟩,Vc.o,H.o,?_,by simp[HPR.o],J,J⟩;have:=G6.o;rw[MkS.vq,yz HX.o]at this;exact this
     case measure=>simp only[intOf];omega
  .have kE:r.keys=[]/\MkS.vq r d al.ix=(d,al.ix):=yb0;have hP1:MkS.VV n of bs s=(d,al.ix):=by
    unfold MkS.VV;rw[HK0.o,HOV.o,dn.o,HR.o];exact N6.symm.trans kE.2
   have wH:=Z hP1;have HK1:=Z (show bs.keys=pre by rw[l,kE.1];simp);have k3:¬(i:Int)<(M:Int):=J;have k4:decide ((i:Int)<(M:Int))=false:=yJ;obtain⟨wm,hmk,hkm,lZ⟩:=Q8 6 wr J;rw[show((6:Nat):Int)=6 from rfl]at hmk;have xiv:=I.fr lZ (λ_ q=>q.elim);have hem:=U.fr lZ (λ_ q=>q.elim);have hpm:=A.al' lZ (λ_ q=>q.elim);have f3m:Fr (L.has p) (u.has p) w wm:=D.trans (lZ.wide (λ_ q=>q.elim));have c3m:=D.cell (a:=(zU b0 2)) c3 F;obtain⟨HMM,HEM,HPM,H3M,HKM,HFM⟩:=EZ xiv hem hpm f3m hkm lZ;have lK:=V4;unfold MkS.sz at lK;have hs9:d.sz<=899990:=J;obtain⟨op,K⟩:=zr ((if fo=2 then 9 else 8));have HSS:=Z (show d.put op 0 [] (zX 6 0)=MkS.kY n of fo bs s by unfold MkS.kY;rw[hP1,K]);have lwr:=I.base.2;clear I U D A N6 Fa QA Rj Z4 l V4 uD kE yr4 hP1 xiv hem hpm f3m hkm;have yrz:(((fo:Int)==2)=true/\9=op)\/(((fo:Int)==2)=false/\8=op):=by
    by_cases q:fo=2
    .left;rw[yV q]at K;exact⟨by simp[q],K⟩
    .right;rw[yz q]at K;exact⟨yJ,K⟩
   clear K;have PH:op<12:=J;have DQ:okB (uW op) 0 6=true:=(by rcases yrz with⟨-,rfl⟩|⟨-,rfl⟩<;>rfl);have pN:(xF ⟨op,d.pos,0,[],zX 6 0⟩).length<=1000000:=(by rcases yrz with⟨-,rfl⟩|⟨-,rfl⟩<;>simp[xF,uW,ua,vy]);have HP:=Z (Z6 p u d op 0 [] (zX 6 0) (.slice none 0 0) (.slice (wr,0) 6 6) wm HMM.o (uq.nil _) HKM.o (λg hg=>Vp) (λg hg q=>zfq) (λg hg q=>kK)
    (λg hg=>by rcases hg with hg|hg<;>cases hg;have h1:=Fs.o.base;show u.B<=(wr:Nat);omega)
    ⟨PH,zZ,zZ,zZ,zZ,DQ⟩ HEM.o.fo HEM.o.g1 J J pN)
   have HI6:=Z (show ∃x,(d.put op 0 [] (zX 6 0)).code[d.code.length]? = some x/\x.tg.length=6 from⟨_,by simp[MkS.put];rfl,zZ⟩);have HLE:=Z (MkS.Ze d op 0 [] (zX 6 0));clear PH DQ pN;rcases yrz with⟨kf,rfl⟩|⟨kf,rfl⟩;all_goals
    go_wp2_with fail;refine HP.o.mono ?_;rintro e w5 ⟨b,c,rfl,Rf,-,-,L4,TE,⟨hq5,hB5⟩,OO,nb5,nc5⟩;have f35:Fr (u.has p) (L4.has p) wr w5:=(HFM.o.wide (λ_ q=>q.elim)).tr OO (λq hq=>by
     rcases hq with hq|hq|hq
     .exact .inl hq
     .cases hq
     .cases hq;exact .inr (Y _))
    have fw5:Fr (L.has p) (L4.has p) w w5:=oR.o.trans f35;have he5:XR lo hi w0 L4.B w5:=(by rw[hB5,C];exact HE.o.fr fw5 HH.o.lo);have hp5:=HPL.o.fr f35 HLE.o;obtain⟨x,hx,hx6⟩:=HI6.o;have oN:∀k∈pre,k.length<=17:=λk hk=>(HKS.o k (by rw[HK1.o];exact hk)).1
    obtain⟨wT,hwT⟩:=zr (w5.alloc (.cells #[Zc b c] 143));obtain⟨T,hI⟩:=yvq hp5 Rf nb5 nc5 he5.na he5.g2 TE hx hx6 oN hwT;have hfT:Fr yH yH w5 wT:=(by rw[<-hwT];exact(Fr.refl _ _).alloc _);have hbg:MkS.kZ n of bs s=plG pre al.ix d.code.length:=by
     funext k x;unfold MkS.kZ plG;rw[wH.o,HK1.o]<;>rfl
    rw[<-hbg,HSS.o,<-HK1.o]at T;have hmT:=TE.fr hfT (λ_ q=>q.elim);rw[HSS.o]at hmT;have hzp:=(MkS.N5 n of fo bs s).2;have hgk:=Fo.XP bs;have hsb:=HS.o;have O:=Z (Bc b0 n a fo of cl bs p L4 (MkS.kY n of fo bs s) (MkS.kZ n of bs s) _ _ wT HIH.o hmT (he5.fr hfT (λ_ q=>q.elim)) HND.o HL.o HBC.o HBW.o (by rw[HM.o];exact hbn) J T hI);have HWT:=Z (fw5.trans (hfT.wide (λ_ q=>q.elim)));have hz9:(Fi bs (MkS.kZ n of bs s) (MkS.kY n of fo bs s)).sz<=900000:=by
     obtain⟨-,q⟩:=MkS.go_le bs (MkS.kZ n of bs s) (MkS.kY n of fo bs s) [] (λk x=>MkS.Mw n of bs s k x);exact Wb
    obtain⟨s9,hs9⟩:=zr (Fi bs (MkS.kZ n of bs s) (MkS.kY n of fo bs s));rw[hs9]at O hz9;have HS9:=Z hs9;unfold MkS.sz at hz9;clear hs9 T hI hmT hx hp5 he5 fw5 f35 OO TE Rf hbg oN hfT;go_wp2_with fail;refine O.o.mono ?_;rintro e w9 ⟨rfl,L9,hm9,⟨hq9,hB9⟩,hf9⟩;have hw9:=HWT.o.trans hf9;have he9:XR lo hi w0 L9.B w9:=(by rw[hB9,hB5,C];exact HE.o.fr hw9 HH.o.lo);have Tl:=Z (Z6 p L9 s9 5 0 [] [] (.slice none 0 0) (.slice none 0 0) w9 hm9 (uq.nil _) (uq.nil _) (λg hg=>Vp) (λg hg=>by cases hg) (λg hg=>by cases hg) (λg hg=>WI)
     ⟨(by decide:5<12),zZ,zZ,zZ,zZ,rfl⟩ he9.fo he9.g1 J J (by simp[xF,uW,ua]))
    have HW9:=Z hw9;clear hm9 hf9 hw9 he9 O hwT;go_wp2_with fail;refine Tl.o.mono ?_;rintro e wX ⟨b9,c9,rfl,-,-,-,LX,hmX,⟨hqX,hBX⟩,hfX,-,-⟩;have HMX:=Z hmX;have HFX:=Z hfX;clear hmX hfX Tl;go_wp2;refine yK (v := .tuple #[]) ?_ rfl ?_
    .simp[yN,results98,go_sem]
    rw[HS9.o];refine⟨rfl,LX,HMX.o,⟨by rw[hqX,hq9,hq5,TB],by rw[hBX,hB9,hB5,C]⟩,HW9.o.tr HFX.o (λq hq=>?_)⟩;rcases hq with hq|hq|hq
    .exact HW9.o.fp q hq
    .cases hq
    .cases hq
section
variable (b:Nat) (t:Wd) (w:z8)
def yvj:(zA (.iface 206 (zM t)) 193 206 true).run prog w = .ok (.tuple #[zM t,.bool true]) w:=xV
def pO:(zA (.iface 208 (.agg #[])) 193 206 true).run prog w = .ok (.tuple #[.string ⟨#[]⟩,.bool false]) w:=xV
def yvg:(zA (.iface 208 (.agg #[])) 193 208 true).run prog w = .ok (.tuple #[.agg #[],.bool true]) w:=xV
def zc4:(zA (.iface 210 (b,0)) 193 206 true).run prog w = .ok (.tuple #[.string ⟨#[]⟩,.bool false]) w:=xV
def zc5:(zA (.iface 210 (b,0)) 193 208 true).run prog w = .ok (.tuple #[.agg #[],.bool false]) w:=xV
def zc6:(zA (.iface 213 (b,0)) 193 206 true).run prog w = .ok (.tuple #[.string ⟨#[]⟩,.bool false]) w:=xV
def zc7:(zA (.iface 213 (b,0)) 193 208 true).run prog w = .ok (.tuple #[.agg #[],.bool false]) w:=xV
def yvf:(zA (.iface 199 (b,0)) 193 206 true).run prog w = .ok (.tuple #[.string ⟨#[]⟩,.bool false]) w:=xV
def yvd:(zA (.iface 199 (b,0)) 193 208 true).run prog w = .ok (.tuple #[.agg #[],.bool false]) w:=xV
end
def zc8(f:Fo)(ih:∀m:Fo,zE m<zE f->Rk lo hi w0 m):Rk lo hi w0 f:=by
 intro p L s w a c vs h he S O hm hw hc hl hs;obtain⟨M,hM⟩:=zr f.len;rw[hM];have hvl:vs.length=M:=(yd.count f vs O hm).trans hM;obtain⟨R,hR⟩:=zr (MkS.Z7 f s);rw[hR];obtain⟨HH,HE,Y8,G9,HM,HC,HW,HR⟩:=OJ h he S O hm hc hw hR;obtain⟨HIH,ig,HL,HS⟩:=hdd ih hvl hM hs;have hL2:M<=2000000:=J;clear h he S O hm hc hw hR ih hvl hM hs hl;go_enter func50,ntmps50;go_wp2_with fail;go_loopw [13] (λiv wr=>∃i us xs r d u,iv = .int .i64 (i:Nat)/\i<=M/\yd lo hi w0 xs r/\r.yT=true/\r.YK/\r.wf 2000000=true/\us.length=i/\vs=us++xs/\i+r.len=M/\zE r<=zE f /\
  uZ p u d wr/\(u.q=L.q/\u.B=L.B)/\Fr (L.has p) (u.has p) w wr/\MkS.Z7 r d=R/\d.sz+r.cw<=900000) (λiv _=>M - (intOf iv).toNat)
 case atStart=>exact⟨0,[],vs,f,s,L,rfl,zQ _,G9.o,HM.o,HC.o,HW.o,rfl,rfl,by have:=HL.o;omega,Y _,HH.o,⟨rfl,rfl⟩,Fr.refl _ _,HR.o,HS.o⟩
 case round =>
  obtain⟨i,us,xs,r,d,u,rfl,hiL,uD,hmr,hcr,EB,QA,hvs,Z4,bh,Um,⟨hq1,T⟩,V,Dk,V4⟩:=hrel;have he1:XR lo hi w0 u.B wr:=by rw[T];exact HE.o.fr V HH.o.lo
  obtain⟨HN,EJ,iT,I,Pz,HUS,C,j⟩:=OJ uD hmr hcr EB hvs QA Um he1;obtain⟨EF,D,H,QX,Zb⟩:=Jl V Dk V4 Z4 bh;clear uD hmr hcr EB hvs QA Um he1 V Dk V4;by_cases uo:i<M
  .obtain⟨x0,xt,Ij⟩:∃x0 xt,xs=x0::xt:=zyq;subst Ij;obtain⟨g,o,rfl,Fg,I7,E⟩:=Y8.o i (by have:=ig.o;omega);have il:vs[i]'(by have:=ig.o;omega)=x0:=zyy;rw[il]at E;have Vj:=yL j.o.keep E Fg I7;have k1:(i:Int)<(M:Int):=J;have k2:decide ((i:Int)<(M:Int))=true:=yJ;clear E il Z4 bh;have P:∀(x:Value) (xt:List Value) (r':Fo) (s2:MkS) (L2:Xj) (w2:z8),x0=x->vs=us++x::xt->yd lo hi w0 xt r'->r'.yT=true->r'.YK->r'.wf 2000000=true->i+(r'.len+1)=M->zE r'<=zE f->uZ p L2 s2 w2->(L2.q=u.q/\L2.B=u.B)->Fr (u.has p) (L2.has p) wr w2->MkS.Z7 r' s2=R->s2.sz+r'.cw<=900000 ->
     ∃i' us' xs' r d u,(yb .i64 ((i:Int)+1)) = .int .i64 (i':Nat)/\i'<=M/\yd lo hi w0 xs' r/\r.yT=true/\r.YK/\r.wf 2000000=true/\us'.length=i'/\vs=us'++xs'/\i'+r.len=M/\zE r<=zE f /\
      uZ p u d w2/\(u.q=L.q/\u.B=L.B)/\Fr (L.has p) (u.has p) w w2/\MkS.Z7 r d=R/\d.sz+r.cw<=900000 :=
    λx xt r' s2 L2 w2 e1 e2 e3 e4 e5 e6 e7 e8 e9 e10 e11 e12 e13=>⟨i+1,us++[x],xt,r',s2,L2,zZ,J,e3,e4,e5,e6,Qr,by rw[e2];simp,J,e8,e9,⟨e10.1.trans hq1,e10.2.trans T⟩,EF.o.trans e11,e12,e13⟩
   have zkk:=Z P;clear P;cases r with
   |nil =>
    have:=HN.o;cases this
   |xR k0 a0 m0 r0=>have:=EJ.o;cases this
   |text t r =>
    obtain⟨vt,z,uD⟩:=HN.o;cases z;have a1:=yvj t;have DZ:=Z uD;have A:=iT.o;have y:=H.o;have hso:=d.GM 1 t (.inl rfl);simp only[Fo.cw]at y;have l:=Z (Mt p u d 1 t wr C.o (.inl rfl) A.1 J j.o.fo j.o.g1);clear uD A;go_wp2_with fail;refine l.o.mono ?_;rintro e w2 ⟨rfl,L2,Ko,KD,ZE⟩;have EK:=Z Ko;have VE:=Z ZE;clear Ko ZE l;go_wp2;go_roundw
    case rel=>exact zkk.o _ _ r (d.one 1 t) L2 w2 rfl Pz.o DZ.o EJ.o iT.o.2 I.o QX.o GZ EK.o KD VE.o D.o J
    case measure=>simp only[intOf];omega
   |hash r =>
    obtain⟨vt,z,uD⟩:=HN.o;cases z;have a1:=pO;have a2:=yvg;have DZ:=Z uD;have y:=H.o;simp only[Fo.cw]at y;have va6:=y;unfold MkS.sz at va6;have Q:Fr yH yH wr (wr.alloc (.cells #[] 208)):=(Fr.refl _ _).alloc _;have hx:(xF ⟨6,d.pos,0,[],[]⟩).length=1:=I6;have oG:=gh d 6 0 [] [];have U:=j.o.fr Q (λ_ q=>q.elim);have Tl:=Z (Z6 p u d 6 0 [] [] (.slice none 0 0) (.slice none 0 0) (wr.alloc (.cells #[] 208)) (C.o.fr Q (λ_ q=>q.elim)) (uq.nil _) (uq.nil _) (λg hg=>Vp) (λg hg=>by cases hg) (λg hg=>by cases hg) (λg hg=>WI)
     ⟨(by decide:6<12),zZ,zZ,zZ,zZ,rfl⟩ U.fo U.g1 J J (by rw[hx];omega))
    have HFA:=Z Q;clear uD Q U;go_wp2_with fail;refine Tl.o.mono ?_;rintro e w2 ⟨b9,c9,rfl,-,-,-,L2,Ko,KD,ZE,-,-⟩;have EK:=Z Ko;have VE:=Z (show Fr (u.has p) (L2.has p) wr w2 from(HFA.o.wide (λ_ q=>q.elim)).tr ZE (λq W=>by
     rcases W with W|W|W
     .exact .inl W
     .cases W
     .cases W))
    clear Ko ZE Tl;go_wp2;go_roundw
    case rel=>exact zkk.o _ _ r (d.put 6 0 [] []) L2 w2 rfl Pz.o DZ.o EJ.o iT.o I.o QX.o GZ EK.o KD VE.o D.o J
    case measure=>simp only[intOf];omega
   |put n a r =>
    obtain⟨vt,b0,z,F,G,K,-,uD⟩:=HN.o;cases z;have EG:=yL j.o.keep K F G;have a1:=zc4 b0;have a2:=zc5 b0;have a3:=Qh b0;have DZ:=Z uD;have A:=iT.o;have y:=H.o;have hso:=d.GM 2 n J;simp only[Fo.cw]at y;have B5:(decide (n.length<=4000001) && r.wf 2000000)=true:=I.o;simp only[zx,vJ]at B5;have HWQ:=Z B5.2;have l:=Z (Mt p u d 2 n wr C.o J (by have:=A.1;omega) J j.o.fo j.o.g1);clear uD A K B5;go_wp2_with fail;refine l.o.mono ?_;rintro e w2 ⟨rfl,L2,Ko,KD,ZE⟩;have EK:=Z Ko;have VE:=Z ZE;clear Ko ZE l;go_wp2;go_roundw
    case rel=>exact zkk.o _ _ r (d.one 2 n) L2 w2 rfl Pz.o DZ.o EJ.o iT.o.2 HWQ.o QX.o GZ EK.o KD VE.o D.o J
    case measure=>simp only[intOf];omega
   |num n a r =>
    obtain⟨vt,b0,z,F,G,K,-,uD⟩:=HN.o;cases z;have EG:=yL j.o.keep K F G;have a1:=zc6 b0;have a2:=zc7 b0;have a3:=Qw b0;have a4:=XL b0;have DZ:=Z uD;have A:=iT.o;have y:=H.o;have hso:=d.GM 3 n J;simp only[Fo.cw]at y;have B5:(decide (n.length<=4000001) && r.wf 2000000)=true:=I.o;simp only[zx,vJ]at B5;have HWQ:=Z B5.2;have l:=Z (Mt p u d 3 n wr C.o J (by have:=A.1;omega) J j.o.fo j.o.g1);clear uD A K B5;go_wp2_with fail;refine l.o.mono ?_;rintro e w2 ⟨rfl,L2,Ko,KD,ZE⟩;have EK:=Z Ko;have VE:=Z ZE;clear Ko ZE l;go_wp2;go_roundw
    case rel=>exact zkk.o _ _ r (d.one 3 n) L2 w2 rfl Pz.o DZ.o EJ.o iT.o.2 HWQ.o QX.o GZ EK.o KD VE.o D.o J
    case measure=>simp only[intOf];omega
   |br n a fo of cl bs r =>
    obtain⟨vt,b0,ba,bc,ws,z,F,G,hd0,Ti,EO,hd3,hd4,hd5,B4,Fp,uD⟩:=HN.o;cases z;have hh2:=yL j.o.keep EO F G;have a1:=yvf b0;have a2:=yvd b0;have a3:=GB b0;have a4:=Uw b0;have a5:=U8 b0;have DZ:=Z uD;have Fm:yd lo hi w0 [.iface 199 (b0,0)] (.br n a fo of cl bs .nil):=⟨[],b0,ba,bc,ws,rfl,F,G,hd0,Ti,EO,hd3,hd4,hd5,B4,Fp,rfl⟩;obtain⟨k1',k2',k3',k4',k5',k6',k7',k8'⟩:=iT.o;have hck:(Fo.br n a fo of cl bs .nil).YK:=⟨k1',k2',k3',k4',k5',k6',k7',trivial⟩;have B5:(decide (n.length<=4000001) && decide (fo<3) && bs.xW && decide (bs.len<=2000000) && bs.wf 2000000 && r.wf 2000000)=true:=I.o;have hwk:(Fo.br n a fo of cl bs .nil).wf 2000000=true:=by
     simp only[zx]at B5;simp only[Fo.wf,zx];exact⟨B5.1,trivial⟩
    simp only[zx,vJ]at B5;have HWQ:=Z B5.2;have y:=H.o;simp only[Fo.cw]at y;have hih:∀m:Fo,zE m<zE bs->Rk lo hi w0 m:=λm hm=>HIH.o m GZ
    by_cases N:fo=0
    .have kf:((fo:Int)==0)=true:=(by simp[N]);have G6:=Z (show MkS.Z7 r (Fi bs (MkS.bL n bs d) (MkS.kT n bs d))=R by
      have:=D.o;unfold MkS.Z7 at this|-;rw[MkS.ur,yV N]at this;exact this)
     have hzb:(Fi bs (MkS.bL n bs d) (MkS.kT n bs d)).sz+r.cw<=900000:=by
      obtain⟨-,q⟩:=MkS.go_le bs (MkS.bL n bs d) (MkS.kT n bs d) [] (λk x=>MkS.Mh n bs d k x);have:=(MkS.N2 n bs d).2;exact Wb
     subst N;have HBR:=Z (N7 b0 n a of cl bs p u d wr hih C.o j.o Fm hck hwk J);exact zkq
    .have kf:((fo:Int)==0)=false:=(by simp;omega);have G6:=Z (show MkS.Z7 r ((Fi bs (MkS.kZ n of bs d) (MkS.kY n of fo bs d)).put 5 0 [] [])=R by
      have:=D.o;unfold MkS.Z7 at this|-;rw[MkS.ur,yz N]at this;exact this)
     have hzb:((Fi bs (MkS.kZ n of bs d) (MkS.kY n of fo bs d)).put 5 0 [] []).sz+r.cw<=900000:=by
      obtain⟨-,q⟩:=MkS.go_le bs (MkS.kZ n of bs d) (MkS.kY n of fo bs d) [] (λk x=>MkS.Mw n of bs d k x);have:=(MkS.N5 n of fo bs d).2;have hx:∀p,(xF ⟨5,p,0,[],[]⟩).length=1:=λp=>I6
      rw[gh,hx];exact Wb
     have HBR:=Z (aJ b0 n a fo of cl bs p u d wr hih C.o j.o N Fm hck hwk J);exact zkq
  .have kE:r = .nil:=by
    have:=QX.o;have:=EJ.o;cases r with
    |nil=>rfl
    |xR k a m r=>cases this
    |_=>simp only[Fo.len]at *;omega
   have HX:=Z (show d=R by rw[<-D.o,kE];rfl);have k1:¬(i:Int)<(M:Int):=J;have k2:decide ((i:Int)<(M:Int))=false:=yJ;clear kE;go_wp2;refine yK (v := .tuple #[]) ?_ rfl ?_
   .simp[yN,results50,go_sem]
   rw[<-HX.o];exact⟨rfl,u,C.o,⟨hq1,T⟩,EF.o⟩
def yvb:∀f:Fo,Rk lo hi w0 f:=by
 have key:∀n (f:Fo),zE f<n->Rk lo hi w0 f:=by
  intro n;induction n with
  |zero=>intro f h;omega
  |succ n a=>intro f h;exact zc8 f (λm hm=>a m J)
 intro f;exact key _ f (dQ _)
def jR(w:z8)(b n:Nat)(f:Nat->Option Nat):Prop :=
 ∃D:DataW Unit,w.ownsMap prog 3 (plainElem prog 3) b n D/\∀m:Nat,Maps.has D (.int .i64 (m:Int))=(f m).isSome/\D.atKey (.int .i64 (m:Int)) (.lit (.int .i64 0)) = .lit (.int .i64 (((f m).getD 0:Nat):Int))
def jR.lt{b:Nat}{f:Nat->Option Nat}(h:jR w b n f):b<(w:Nat):=iG
def jR.keep{b:Nat}{f:Nat->Option Nat}(h:jR w b n f)(hb:w'.heap[b]? = w.heap[b]?):jR w' b n f:=zyb
def jR.made(w:z8):jR (w.alloc (.map #[] 0)) (w:Nat) 0 (λ_=>none):=⟨.map [],Hl w _ _ _,λm=>⟨rfl,rfl⟩⟩
def aG(hm:m<=4000000000):(Lit.int .i64 (m:Int)).wf=true:=zx1
def jR.look{b:Nat}{f:Nat->Option Nat}(h:jR w b n f)(m:Nat)(hm:m<=4000000000) :
  (TZ 82 (.map (some b)) (m:Int) true).run prog w = .ok (.tuple #[(((f m).getD 0:Nat):Int),.bool (f m).isSome]) w:=by
 obtain⟨D,h1,h3⟩:=h;obtain⟨v,ps,b7,hv⟩:=h1.look_ok (vz0 underlying3) underlying82 (z := .int .i64 0) Qa (bK underlying3 zR)
  (key := .int .i64 (m:Int)) (yev underlying3 (aG hm))
 rw[(h3 m).1]at b7;rw[(h3 m).2]at hv;obtain⟨c,rfl,hc,_⟩:=plainElem_int_inv underlying3 hv;simp only[Hi,EI,yzy]at hc;rw[b7,<-hc.1.2]
def jR.put{b:Nat}{f:Nat->Option Nat}(h:jR w b n f)(m:Nat)(hm:m<=4000000000)(k:Nat)(hk:k<=4000000000)(hn:n<=1000000000) :
  ∃w',(TY 82 (.map (some b)) (.int .i64 (m:Int)) (.int .i64 (k:Int))).run prog w = .ok () w'/\jR w' b (n+1) (λx=>if m=x then some k else f x)/\w.grownBy w' (some b):=by
 obtain⟨D,h1,h3⟩:=h;have hi:=h1.isMap;obtain⟨w',b7,uT,hg⟩:=h1.update (vz0 underlying3) underlying82 (by unfold maxLen;omega) (key := .int .i64 (m:Int)) (yev underlying3 (aG hm))
  (bK underlying3 (q := .i64) (a:=(k:Int)) (aG hk))
 refine⟨w',b7,⟨_,uT,λx=>?_⟩,hg⟩;by_cases hx:m=x
 .subst hx;simp only[↓reduceIte];exact⟨by rw[QI hi (show kJ (.int .i64 (m:Int))from trivial)];simp,by rw[UW hi (show kJ (.int .i64 (m:Int))from trivial)];simp⟩
 .simp only[hx,↓reduceIte];have gM:(Lit.int .i64 (x:Int)) ≠ .int .i64 (m:Int):=λq=>hx (by cases q;rfl)
  exact⟨by rw[Od gM];exact(h3 x).1,by rw[dT gM];exact(h3 x).2⟩
def qo(code:List uG):Nat->Nat->Option Nat
 | 0,_=>none
 |k+1,x=>if (code[k]?.map (·.pos))=some x then some k else qo code k x
def pP(t:xm)(k e:xm)(a:prog.underlying t=some (.map k e))(n:Nat)(w:z8):(yeu t (some (.int .i64 (n:Int)))).run prog w = .ok (.map (some (w:Nat))) (w.alloc (.map #[] 0)):=by
 simp[yeu,kQ a,asInt,go_sem]
def va7(p:Nat)(L:Xj)(s:MkS)(w:z8)(e:xU)(w':z8):Prop :=
 e = .returned (.tuple #[])/\∃mb,(w:Nat)<=mb/\zu w' L.q 0 L.vC/\zu w' L.q 1 L.vI/\zu w' L.q 2 (.map (some mb))/\jR w' mb s.code.length (qo s.code s.code.length)/\Fr (λg=>g=L.q) (λg=>g=L.q\/g=mb) w w'
def pR(p:Nat)(L:Xj)(s:MkS)(w:z8)(h:uZ p L s w)(hl:s.code.length<=1000000)(hp:∀x∈s.code,x.pos<=4000000000) :
  zC prog 52 #[(L.q,0)] w (va7 p L s w):=by
 have V:=Z h;have HP:=Z hp;obtain⟨ia,ic,l⟩:=zn h.cI;obtain⟨n,hn⟩:=zr s.code.length;have q1:=h.q1;rw[l,hn]at q1;have S:=λo=>yy q1 o
 have q2:=h.q2;have T:=λo=>yy q2 o
 have lq:=uO h.tq;have U:∀o j,(w.alloc o).frozen? ⟨L.q,j,none⟩=false:=λo j=>(zV (xZ _ _ _ lq)).trans (h.zq j)
 have N:=pP 82 _ _ underlying82 n;obtain⟨A,hA⟩:=zr ((w.alloc (.map #[] 0)).setCell (zU L.q 2) (.map (some (w:Nat))));have fA:Fr (λg=>g=L.q) (λg=>g=L.q) w A:=by rw[<-hA];exact((Fr.refl _ _).alloc _).set _ (.inl rfl)
 have a0:zu A L.q 0 L.vC:=by rw[<-hA,zo,yz zZ];exact yy h.q0 _
 have a1:zu A L.q 1 L.vI:=by rw[<-hA,zo,yz zZ];exact yy h.q1 _
 have a2:zu A L.q 2 (.map (some (w:Nat))):=by rw[<-hA];exact yw (yy h.q2 _) _
 have M:jR A (w:Nat) 0 (λ_=>none):=by
  rw[<-hA];exact(jR.made w).keep (yZ _ _ _ _ (by show (w:Nat)≠L.q;omega))
 have m:w.ownsRow 0 87 5 L.vI n (dI s.code L.rs):=by rw[<-hn];exact h.cI
 obtain⟨mb,c⟩:=zr (w:Nat);have u:=Z m;have p9:n<=1000000:=by rw[<-hn];exact hl
 have HN:=Z hn;have H:=Z fA;have t:=Z l;have nI:∀g,zH L.vI g->g≠L.q:=λg C=>(h.nI C).2.1
 have R:∀g,zH L.vI g->g<mb:=λg C=>by rw[<-c];exact uj h.cI C
 rw[l,hn]at a1;rw[c]at a2 M;clear h hp fA m hn l;go_enter func52,ntmps52;go_wp2_with fail;have z:(w.alloc (.map #[] 0)).setCell (zU L.q 2) (.map (some mb))=A:=by rw[<-c];exact hA
 rw[z];have i:=Z c;clear hA z c q1 S q2 T U N;go_loopw [17] (λkv wr=>∃k,kv = .int .i64 (k:Nat)/\k<=n/\jR wr mb k (qo s.code k)/\Fr (λg=>g=L.q) (λg=>g=L.q\/g=mb) w wr/\zu wr L.q 0 L.vC/\zu wr L.q 1 (.slice ia n ic)/\zu wr L.q 2 (.map (some mb))) (λkv _=>n - (intOf kv).toNat)
 case atStart=>exact⟨0,rfl,zQ _,M,H.o.tg (λg C=>C.elim .inl (λe => .inr (by rw[e,i.o];exact Y _))),a0,a1,a2⟩
 case round =>
  clear M a0 a1 a2;obtain⟨k,rfl,hk,d,hf,c0,c1,c2⟩:=hrel;have HF:=Z hf;by_cases uo:k<n
  .obtain⟨x,hx⟩:∃x,s.code[k]? = some x:=⟨_,zk V3⟩;obtain⟨r,hr⟩:∃r,L.rs[k]? = some r:=⟨_,zk (by have:=V.o.rows.len;have:=HN.o;omega)⟩;obtain⟨I,ic2,hv,-,hI,B⟩:=xf u.o J;have P:ia=some ⟨I,0,none⟩:=(by have:=t.o;rw[hv]at this;cases this;rfl);subst P;have rI:zH L.vI I:=(by rw[t.o];rfl);have d1:zu w I (k*5+1) x.pos:=by
    rw[B _ J,Kr _ _ V.o.rows.len k 1 x r hx hr J];rfl
   have d2:=hf.cell d1 (nI I rI);have Q:=HP.o x (zW hx);obtain⟨w2,F,f,b⟩:=(d.keep (w':=wr.drew) rfl).put x.pos Q k J J;have E:(λy=>if x.pos=y then some k else qo s.code k y)=qo s.code (k+1):=by
    funext y;simp only[qo,hx,QM,vA]
   rw[E]at f;have a:Fr (λg=>g=mb) (λg=>g=mb) wr w2:=(show Fr (λg=>g=mb) (λg=>g=mb) wr.drew w2 from⟨b.os,b.tape,b.output,b.size,λk hk hn=>b.block k hk (λe=>hn (zL e)),λ_ q => .inl q⟩).und;have O:L.q≠mb:=(by have:=i.o;omega);have K:=Z f;have G:=Z (hf.over a (by rintro g rfl;exact .inr (by rw[i.o];exact Y _)));have e0:=a.cell c0 O;have W:=a.cell c1 O;have e2:=a.cell c2 O;have d3:=a.cell d2 (show I≠mb by have:=R I rI;omega);have k3:(k:Int)<(n:Int):=J;have k4:decide ((k:Int)<(n:Int))=true:=yJ;clear hf d f b a B hx hr hv d1;go_wp2_with fail;refine V1 (λW':z8=>zu W' L.q 1 (.slice (zU I 0) n ic)/\zu W' L.q 2 (.map (some mb))/\zu W' I (k*5+1) x.pos) (xB 13) 1 ⟨c1,c2,d2⟩ ?_;refine gX 13 (λJk hJ=>?_);go_simp;refine hJ.out _ _ ⟨W,e2,d3⟩ λ_=>?_
   clear hJ Jk;refine Y3 ?_ _;clear F;go_wp2;go_roundw
   case rel=>exact⟨k+1,uN,J,K.o,G.o,e0,W,e2⟩
   case measure=>simp only[intOf];omega
  .have D:k=n:=(by omega);have HK:=Z (show jR wr mb s.code.length (qo s.code s.code.length)by rw[HN.o];rw[D]at d;exact d);have k3:¬(k:Int)<(n:Int):=J;have k4:decide ((k:Int)<(n:Int))=false:=yJ;clear hf d D;go_wp2;refine yK (v := .tuple #[]) ?_ rfl ?_
   .simp[yN,results52,go_sem]
   exact⟨rfl,mb,by rw[i.o];exact Y _,c0,by rw[t.o,HN.o];exact c1,c2,HK.o,HF.o⟩
variable{xs:List Value}{cap:Nat}{e:xm}
def QJ(c:UInt8):Nat:=if 97<=c.toNat/\c.toNat<=122 then 1 else if 48<=c.toNat/\c.toNat<=57 then 2 else if c.toNat=32 then 3 else 0
def Bi(l:List UInt8):Bool:=uf l && (decide (l.length<=9) && (decide (l.length=1) ||decide (l.headD 0≠48)))
def Z8(l:List UInt8):Nat:=l.foldl (λv c=>10*v+(c.toNat - 48)) 0
def IJ(l:List UInt8)(c:UInt8):Z8 (l++[c])=10*Z8 l+(c.toNat - 48):=by simp[Z8]
def lS:∀(l:List UInt8),l.all yG=true->Z8 l<10 ^ l.length:=by
 intro l;induction hn:l.length generalizing l with
 |zero=>intro _;have:=zN hn;subst this;simp[Z8]
 |succ n d =>
  intro h;have a:l≠[]:=λq=>by rw[q]at hn;cases hn
  obtain⟨t,c,rfl⟩:∃t c,l=t++[c]:=⟨l.dropLast,l.getLast a,Wj⟩;rw[uJ,zx]at h;have hc:yG c=true:=by simpa using h.2
  have hd:=(xr c).1 hc;have b:t.length=n:=by simpa using hn
  have:=d t b h.1;rw[IJ,Zw];omega
def XT(w:z8)(v:Value)(ws:List (List UInt8)):Prop:=∃a cap,v = .slice a ws.length cap/\ws.length<=cap/\cap<=maxLen/\(a=none->cap=0)/\∀j (h:j<ws.length),∃b,a=some b/\w.cell? (b.add j)=some (zM ws[j])
def XT.below{ws:List (List UInt8)}(h:XT w v ws)(hb:zP w w'):XT w' v ws:=by
 obtain⟨a,cap,hv,f,hm,h0,hc⟩:=h;refine⟨a,cap,hv,f,hm,h0,λj e=>?_⟩;obtain⟨b,d,c⟩:=hc j e;refine⟨b,d,?_⟩;rw[hb.cell (X w _ c)];exact c
def MZ{base:Nat}{g:Nat}(h:w.ownsRow base e 1 (.slice (g,0) n cap) n xs)(j:Nat)(k:j<n)(u:Value) :
  (w.setCell (g,j) u).ownsRow base e 1 (.slice (g,0) n cap) n (xs.set j u):=by
 have hx:xs.length=n:=by have:=h.1;simpa using this
 refine⟨by simp[hx],?_⟩;rcases h.2 with⟨hv,_⟩|⟨g2,b,a,hv,d,f,h1,h2,c,i⟩
 .cases hv
 .simp only[gZ,vA,YL]at hv;obtain⟨⟨rfl,-⟩,-,rfl⟩:=hv;refine .inr ⟨g,cap,a.setIfInBounds j u,rfl,d,?_,h1,h2,by simpa using c,?_⟩
  .simp[xg,vp,f]
  .rw[Array.toList_setIfInBounds,<-i,List.take_set]

def yc1(out:List (List UInt8))(c:UInt8):List (List UInt8):=out.set (out.length - 1) (out.getD (out.length - 1) []++[c])
def XW:List UInt8->List (List UInt8)->Nat->Option (List (List UInt8))
 |[],out,_=>some out
 |c::t,out,last =>
  if QJ c=3 then XW t out 3
  else if 0<QJ c/\QJ c=last then XW t (yc1 out c) (QJ c)
  else if 0<QJ c\/c=61\/c=44\/c=37 then XW t (out++[[c]]) (QJ c)
  else match t with
   |[]=>none
   |d::t2=>if (c=33/\d=61)\/(c=46/\d=46)then XW t2 (out++[[c,d]]) 0 else none
def go_join{c:UInt8}{t out last}(a:QJ c≠3)(h:0<QJ c/\QJ c=last):XW (c::t) out last=XW t (yc1 out c) (QJ c):=by rw[XW.eq_def];dsimp only;rw[yz a,yV h]
variable{k:Nat}
def xC:Y7 prog 34 5 (.int .u8 0) 1 1 :=
 ⟨underlying34,info_parts yq,rfl,zR,zR⟩
def vz(l:List UInt8):List Value:=l.map λc => .int .u8 ((c.toNat:Int) - 48)
def aF(l:List UInt8)(w:z8)(e:xU)(w':z8):Prop :=
 (if l.all yG then ∃v,e = .returned (.tuple #[v,.bool true])/\w'.ownsRow (w:Nat) 5 1 v l.length (vz l)else e = .returned (.tuple #[.slice none 0 0,.bool false]))/\zP w w'
def pS(c:UInt8)(h:yG c=true):KU.wrap ((c.toNat:Int) - 48)=(c.toNat:Int) - 48/\(c.toNat:Int) - 48<=9:=by
 have:=(xr _).1 h;refine⟨?_,J⟩;simp only[yf7,Ey,Ob];simp;omega
def zc9(c:UInt8)(h:yG c=false):9<((c.toNat:Int) - 48) % 256:=by
 have:=(Oi _).1 h;have:=c.toNat_lt;omega
def aD(s:ByteArray)(w:z8)(hs:s.size<=1000000) :
  zC prog 68 #[.string s] w (aF s.data.toList w):=by
 have hcv:=λw s=>run_bytes_of_string (P:=prog) w 9 34 5 s underlying9 underlying34 underlying5
 obtain⟨i,hi,Q,h2,L⟩:=xC.info;go_enter func68,ntmps68;go_wp2_with (refine wpList_make_own _ rfl _ _ _ rfl (w:Nat) _ i _ 1 xC.under hi Q h2 .i64 .i64 _ s.size rfl rfl ?c1 ?c2 ?c3 zZ ?_)
 case c1=>first|rfl|simp
 case c2=>rw[L];omega
 case c3=>unfold maxLen;omega
 intro w1 c t;go_wp2;refine Js ?_;intro wc e;have M:(wc:Nat)=(w1:Nat)+1:=by rw[e];simp
 have h:zP w w1:=(zv _ _).grown t (Y _) zZ;have A:zP w wc:=by rw[e];exact(kp h).alloc h.size _
 have a:∀j (x:j<s.size),zu wc (w1:Nat) j (.int .u8 (s[j].toNat:Int)):=by
  intro j x;rw[e];have:=bytesRow_at s (grownCap w1 s.size 0 5) j x;show(w1.alloc _).cell? _=_;rw[zf];exact this
 have p:wc.ownsRow (w:Nat) 5 1 (vL (zU (w:Nat) 0) 0 s.size) 0 []:=by rw[e];exact(Fj c).alloc _
 have N:=h.size;have G:=(c.lt (w:Nat) rfl).2;clear e c t;go_loopw [4,14] (λv i wr=>∃k:Nat,k<=s.size/\i = .int .i64 k/\v = .slice (w,0) k s.size/\wr.ownsRow (w:Nat) 5 1 v k (vz (s.data.toList.take k))/\zP w wr/\(s.data.toList.take k).all yG=true/\((w1:Nat)<wr.heap.size)/\∀j (x:j<s.size),zu wr (w1:Nat) j (.int .u8 (s[j].toNat:Int))) (λ_ i _=>s.size - (intOf i).toNat)
 case atStart=>exact⟨0,J,rfl,rfl,by simpa[vz]using p,A,zZ,J,a⟩
 case round =>
  obtain⟨k,R,rfl,hv,d,hb,F,D,a⟩:=hrel;have z:=Z F;have E:=Z hv;clear F hv;by_cases f:k<s.size
  .have hc:=a k f;by_cases hd:yG s[k]=true
   .obtain⟨hy,O⟩:=pS _ hd;have I:=Z hd;clear hd;have m:wr.ownsRow (w:Nat) 5 1 (.slice (zU (w:Nat) 0) k s.size) k (vz (s.data.toList.take k)):=(by rw[<-E.o];exact d);go_wp2_with (at_builtin;refine wpList_append_own_spare _ rfl _ _ _ rfl (w:Nat) _ i 1 xC.under hi h2 (w:Nat) k s.size (vz (s.data.toList.take k)) E.o (m.alloc _) ⟨(wr:Nat),0,none⟩ 1 1 [.int .u8 ((s[k].toNat:Int) - 48)] rfl rfl ?c1 ?c2 ?c3 ?_)
    case c1=>exact cells_one zZ
    case c2=>intro u H;simp at H;subst H;rfl
    case c3=>omega
    intro w2 n b;have C:=b.size;have r:=zzd z.o I.o;rw[<-Ho s k f]at r;have K:=Z r;clear r;go_wp2;go_roundw
    case rel =>
     refine⟨k+1,J,uN,rfl,?_,((hb.alloc hb.size _).grown b bw (λq hq=>AZ)),K.o,?_,?_⟩
     .rw[Ho s k f];simpa[vz]using n
     .simp at C;omega
     .intro j x;refine b.cell ?_ yJ;rw[zc _ _ _ D];exact a j x
    case measure=>simp[intOf];omega
   .have l:yG s[k]=false:=(by simpa using hd);have hn:=zc9 _ l;have g:s.data.toList.all yG=false:=LD s k f l;have HF:=Z g;clear g hd l;go_wp2;go_ret2
    refine⟨gK,hb⟩
  .have B:k=s.size:=(by omega);subst B;have y:=z.o;rw[DL]at y;rw[DL]at d;have HF:=Z y;clear y z;go_wp2;go_ret2
   refine⟨?_,hb⟩;rw[yV HF.o,vG];exact⟨_,rfl,d⟩
def RY(d:Int)(w:z8):zC prog 118 #[.int .u8 d] w λe w'=>e = .returned (.bool (d !=0))/\w=w':=by
 go_enter func118,ntmps118;exact DA
def yry{l:List Int}(h:k<l.length)(hn:(l[k] !=0)=true):l.any (· != 0)=true:=vq2.2 ⟨l[k],yf h,hn⟩
def zcz{l:List Int}(h:k<l.length)(a:(l.take k).any (· != 0)=false)(hn:(l[k] !=0)=false):(l.take (k+1)).any (· != 0)=false:=by
 rw[yj h,List.any_append,a];simpa using hn
def yU(w:z8)(a:Option yM)(l:List Int):Prop:=∀j (h:j<l.length),∃b,a=some b/\w.cell? (b.add j)=some (.int .u8 l[j])
def yU.alloc{a:Option yM}{l:List Int}(h:yU w a l)(o:Obj):yU (w.alloc o) a l:=λj c=>by
 obtain⟨b,hb,hc⟩:=h j c;refine⟨b,hb,?_⟩;exact AF
def RX(l:List Int)(a:Option yM)(c:Nat)(w:z8)(q:l.length<=1000000)(hc:yU w a l) :
  zC prog 156 #[.slice a l.length c,.func (.func 118) #[] #[]] w λe w'=>(∃n:Int,e = .returned n/\decide (0<=n)=l.any (· != 0))/\w=w':=by
 go_enter func156,ntmps156;go_wp2;go_loop [8] (λi=>∃k:Nat,k<=l.length/\i = .int .i64 k/\(l.take k).any (· != 0)=false) (λi=>l.length - (intOf i).toNat)
 case atStart=>exact⟨0,J,rfl,zZ⟩
 case round =>
  obtain⟨k,p,rfl,f⟩:=hrel;have g:=Z f;clear f;by_cases d:k<l.length
  .obtain⟨b,rfl,h⟩:=hc k d;go_wp2_with fail;refine(RY _ _).mono ?_;rintro e w' ⟨rfl,rfl⟩;by_cases hn:(l[k] !=0)=true
   .have HF:=Z (yry d hn);go_wp2;go_ret;exact⟨⟨_,rfl,by rw[HF.o];simp⟩,rfl⟩
   .have m:(l[k] !=0)=false:=(by simpa using hn);have HF:=Z (zcz d g.o m);clear hn;exact zf8
  .have j:k=l.length:=(by omega);subst j;have f:=g.o;rw[fE]at f;have HF:=Z f;clear f g;go_wp2;go_ret;exact⟨⟨_,rfl,gK⟩,rfl⟩
def Uf(l:List Int)(a:Option yM)(c:Nat)(w:z8)(b:l.length<=1000000)(hc:yU w a l) :
  zC prog 117 #[.slice a l.length c,.func (.func 118) #[] #[]] w λe w'=>e = .returned (.bool (l.any (· != 0)))/\w=w':=by
 go_enter func117,ntmps117;go_wp2_with fail;refine(RX l a c w b hc).mono ?_;rintro e w' ⟨⟨n,rfl,hn⟩,rfl⟩;go_wp2;go_ret;exact⟨rfl,rfl⟩
def zcy(l:List Int)(a:Option yM)(c:Nat)(b:Bool)(sc:Int)(w:z8)(d:l.length<=1000000)(hc:yU w a l) :
  zC prog 69 #[.agg #[.bool b,.slice a l.length c,sc]] w λe w'=>e = .returned (.bool (!l.any (· != 0)))/\zP w w':=by
 go_enter func69,ntmps69;go_wp2_with fail;refine(Uf l a c _ d (hc.alloc _)).mono ?_;rintro e w' ⟨rfl,rfl⟩;go_wp2;go_ret;exact⟨rfl,(zv _ _).alloc (Y _) _⟩
variable{vs:List Value}{u v':Value}
def pT(s:ByteArray):s.toList=s.data.toList:=by
 exact yfx s
def lT(w0 w:z8)(base:Nat)(v:Value)(ps:List (List (List UInt8))):Prop :=
 ∃vs:List Value,w.ownsRow base 22 1 v ps.length vs/\∀j (h:j<ps.length),∃u,vs[j]? = some u/\XT w0 u ps[j]
def add_add(a:yM)(i j:Nat):(a.add i).add j=a.add (i+j):=by
 unfold bW;by_cases hi:i=0
 .subst hi;simp
 .by_cases b:j=0
  .subst b;simp
  .simp[hi,b,kh]
def lT.more{wr:z8}{base:Nat}{acc:List (List (List UInt8))}{p:List (List UInt8)}(b:vs.length=acc.length)
  (hp:∀j (h:j<acc.length),∃u,vs[j]? = some u/\XT w u acc[j]) (ho:w1.ownsRow base 22 1 v' (acc.length+1) (vs++[u])) (c:XT w u p):lT w w1 base v' (acc++[p]):=by
 refine⟨vs++[u],Dr,λj h=>?_⟩;by_cases a:j<acc.length
 .obtain⟨x,hx,hs⟩:=hp j a;exact⟨x,by rw[za J];exact hx,by rw[zzu a];exact hs⟩
 .have e:j=acc.length:=by simp at h;omega
  subst e;refine⟨u,by rw[xq J,b];simp,?_⟩;rw[List.getElem_append_right J];simpa using c
def cmpL(a b:List UInt8):Int:=if a.length<b.length\/(a.length=b.length/\bB a b=true)then -1 else if a=b then 0 else 1
variable{l:List UInt8}
def Ud(l:List UInt8)(m:Nat):Nat:=l.foldl (λr c=>(10*r+(c.toNat - 48)) % m) 0
def Bl(l:List UInt8)(c:UInt8)(m:Nat):Ud (l++[c]) m=(10*Ud l m+(c.toNat - 48)) % m:=by simp[Ud]
def zcx(l:List UInt8)(m:Nat)(hm:0<m):Ud l m<m:=by
 by_cases h:l=[]
 .subst h;exact hm
 .obtain⟨t,c,rfl⟩:∃t c,l=t++[c]:=⟨l.dropLast,l.getLast h,Wj⟩;rw[Bl];exact xu1 _ hm
def stripL:List UInt8->List UInt8
 |c::d::t=>if c=48 then stripL (d::t)else c::d::t
 |l=>l
def gq(l:List UInt8):List UInt8:=if l=[]then [48]else stripL l
def aB{c:UInt8}(h:l≠[])(hc:c=48):stripL (c::l)=stripL l:=by
 cases l with
 |nil=>exact absurd rfl h
 |cons d t=>rw[stripL,yV hc]
def aC{c:UInt8}(hc:¬c=48):stripL (c::l)=c::l:=by
 cases l with
 |nil=>rfl
 |cons d t=>rw[stripL,yz hc]
def uP(l:List UInt8):List UInt8:=(l.reverse.dropWhile (· == 48)).reverse
def short_zero(l:List UInt8):uP (l++[48])=uP l:=by simp[uP]
def aE(l:List UInt8)(c:UInt8)(h:¬c=48):uP (l++[c])=l++[c]:=by
 have:(c==48)=false:=QY;simp[uP,this]



end Go.Proofs.YtpggmjffejgakaaGreatDoor
namespace Go.Proofs.YtpggmjffejgakaaGreatDoor
open Go
set_option maxRecDepth 10000
abbrev Dg:=List UInt8×List UInt8
def brk(f:Wd):Bool:=f.any (· != 48)
def Ag(w:Wd):Bool:=w==[109,111,100] ||w==[37]
abbrev gj:=Dg->Bool
def Yr(w:Wd)(ws:List Wd):Bool:=ws.head? == some w
def gG:List Wd->Option (Nat×List Wd)
 |[]=>none
 |w::t=>if Bi w=true then some (Z8 w,t)else none
def GR(x:Dg)(v:Nat):Int :=
 if cmpL x.1 (xd v)<0 then -1 else if 0<cmpL x.1 (xd v)\/brk x.2=true then 1 else 0
def fU(a b:Nat)(broken:Bool):gj:=λx=>decide (0<=GR x a) && (decide (GR x b<=0) && (broken || !(brk x.2)))
def QG(ws:List Wd):Option ((Nat×Nat)×List Wd) :=
 match gG ws with
 |none=>none
 |some (a,t) =>
  if Yr [46,46] t then
   match gG t.tail with
   |none=>none
   |some (b,u)=>if b<a then none else some ((a,b),u)
  else some ((a,a),t)
def qc(within:Bool):Nat->List gj->List Wd->Option (List gj×List Wd)
 | 0,_,_=>none
 |n+1,acc,ws=>match QG ws with
  |none=>none
  |some (q,t)=>if Yr [44] t then qc within n (acc++[fU q.1 q.2 within]) t.tail else some (acc++[fU q.1 q.2 within],t)
def Zi(l:List gj):gj:=λx=>l.any (λt=>t x)
def allT(l:List gj):gj:=λx=>l.all (λt=>t x)
abbrev Parser:=List Wd->Option (gj×List Wd)
def jw(within:Bool):Parser:=λws=>(qc within (ws.length+1) [] ws).map λq=>(Zi q.1,q.2)
def uw(ws:List Wd):Option ((gj×Bool)×List Wd) :=
 if Yr [61] ws then (jw false ws.tail).map λq=>((q.1,false),q.2)
 else if Yr [33,61] ws then (jw false ws.tail).map λq=>((q.1,true),q.2)
 else if Yr [105,115] ws then
  (gG (if Yr [110,111,116] ws.tail then ws.tail.tail else ws.tail)).map λq=>((fU q.1 q.1 false,Yr [110,111,116] ws.tail),q.2)
 else
  let nt:=Yr [110,111,116] ws
  let u:=if nt then ws.tail else ws
  if Yr [119,105,116,104,105,110] u then (jw true u.tail).map λq=>((q.1,nt),q.2)
  else if Yr [105,110] u then (jw false u.tail).map λq=>((q.1,nt),q.2)
  else none
def uI(c:Wd):Option (Dg->Dg) :=
 if c=[110]then some (λx=>x)else if c=[105]then some (λx=>(gq x.1,[]))else if c=[118]then some (λx=>(xd x.2.length,[]))
 else if c=[119]then some (λx=>(xd (uP x.2).length,[]))else if c=[102]then some (λx=>(gq x.2,[]))
 else if c=[116]then some (λx=>(gq (uP x.2),[]))else none
def oL(of:Dg->Dg)(m:Nat):Dg->Dg:=λx=>(xd (Ud (of x).1 m),(of x).2)
def P8(of:Dg->Dg)(t:List Wd):Option ((Dg->Dg)×List Wd) :=
 if Ag (t.headD []) then
  match gG t.tail with
  |none=>none
  |some (m,u)=>if m=0 then none else some (oL of m,u)
 else some (of,t)
def Vg:Parser
 |[]=>none
 |w::t=>match uI w with
  |none=>none
  |some of=>match P8 of t with
   |none=>none
   |some (of',u)=>match uw u with
    |none=>none
    |some ((i,nt),v)=>some ((λx=>i (of' x) !=nt),v)
def bk(word:Wd)(one:Parser):Nat->List gj->List Wd->Option (List gj×List Wd)
 | 0,_,_=>none
 |n+1,acc,ws=>match one ws with
  |none=>none
  |some (T,t)=>if Yr word t then bk word one n (acc++[T]) t.tail else some (acc++[T],t)
def N8(word:Wd)(tog:List gj->gj)(one:Parser):Parser:=λws=>(bk word one (ws.length+1) [] ws).map λq=>(tog q.1,q.2)
def RV:Parser:=N8 [97,110,100] allT Vg
def pOr:Parser:=N8 [111,114] Zi RV
def yi(c:UInt8):Nat:=if 97<=c.toNat/\c.toNat<=122 then 3 else if 48<=c.toNat/\c.toNat<=57 then 2 else if c.toNat=32 then 1 else 0
def Bm:List UInt8->Option Wd
 | 33::61::_=>some [33,61]
 | 46::46::_=>some [46,46]
 | 61::_=>some [61]
 | 44::_=>some [44]
 | 37::_=>some [37]
 |_=>none
def bC:Nat->List (Wd)->List UInt8->Option (List Wd)
 |_,acc,[]=>some acc
 | 0,_,_::_=>none
 |n+1,acc,c::t=>match Bm (c::t) with
  |some g=>bC n (acc++[g]) ((c::t).drop g.length)
  |none =>
   if yi c=0 then none
   else bC n (if yi c=1 then acc else acc++[c::t.takeWhile (λd=>yi d==yi c)]) (t.dropWhile (λd=>yi d==yi c))
def aH(s:List UInt8):Option (List Wd):=bC (s.length+1) [] (s.take (s.idxOf 64))
def IG(s:List UInt8):Option gj :=
 if 200<s.length then none else match aH s with
 |none=>none
 |some ws=>match pOr ws with
  |some (T,[])=>some T
  |_=>none
end Go.Proofs.YtpggmjffejgakaaGreatDoor
namespace Go.Proofs.YtpggmjffejgakaaGreatDoor
open Go Go.RowKit
set_option maxRecDepth 10000
variable{l wh:List UInt8}
def Kn(l:List UInt8):List UInt8:=if l.head? = some 45 then l.tail else l
def XA(l:List UInt8):Bool:=l.head? == some 45
def vQ(l:List UInt8):List UInt8:=(Kn l).take ((Kn l).idxOf 46)
def ud(l:List UInt8):List UInt8:=(Kn l).drop ((Kn l).idxOf 46+1)
def Vo(l:List UInt8):Bool:=decide ((Kn l).idxOf 46<(Kn l).length)
def FY(l:List UInt8):Bool:=uf (vQ l) && (!(Vo l) ||uf (ud l)) && decide ((vQ l).length+(ud l).length<=30)
def ue(l:List UInt8):Bool :=
 FY l && !(decide (1<(vQ l).length) && ((vQ l).headD 0==48)) && !(XA l && (vQ l++ud l).all (· == 48))
def yrx{fr:List UInt8}{pt:Bool}(b:vQ l=wh)(hF:ud l=fr)(a:Vo l=pt)(h:¬(uf wh=true/\(pt=true->uf fr=true)/\wh.length+fr.length<=30)):ue l=false:=by
 have hf:FY l=false:=by
  rw[<-VG];intro hf;unfold FY at hf;rw[b,hF,a]at hf;simp only[zx,vR,qu,vJ]at hf;refine h ⟨hf.1.1,λhp=>?_,hf.2⟩;rcases hf.1.2 with h1|h1
  .rw[h1]at hp;cases hp
  .exact h1
 simp[ue,hf]
def Bn{fr:List UInt8}{b:Bool}(c:vQ l=wh)(hF:ud l=fr)(hB:XA l=b)(a:FY l=true) :
  ue l=(!(decide (1<wh.length) && (wh.headD 0==48)) && !(b && (wh++fr).all (· == 48))):=by
 simp[ue,a,c,hF,hB]
def yrv(wh:List UInt8)(h:0<(vO wh.toArray).size):(wh.headD 0==48)=(((vO wh.toArray)[0].toNat:Int)==48):=by
 have h1:=zb8 ⟨wh.toArray⟩ h;rw[toList_mk]at h1;have h2:=YO (vO wh.toArray)[0] 48;have a:((48:UInt8).toNat:Int)=48:=rfl;rw[a]at h2;rw[h1,h2];exact Bool.beq_eq_decide_eq _ _
def yu0{fr:List UInt8}{pt:Bool}(c:vQ l=wh)(hF:ud l=fr)(b:Vo l=pt)(h1:uf wh=true)(h2:pt=true->uf fr=true)(d:¬((30:Int)<(wh.length:Int)+(fr.length:Int))):FY l=true:=by
 unfold FY;rw[c,hF,b,h1];have a:wh.length+fr.length<=30:=J;cases pt
 .simp[a]
 .simp[a,h2 rfl]
abbrev uL:=Bool×Dg
def bj(t:Wd)(num:Bool):Bool:=if num then ue t else decide (t.length<=60)
def numOf(t:Wd):uL:=(XA t,(vQ t,ud t))
def dL(k:Nat)(l:Wd):Wd:=zX (k - l.length) 48++l
def H7(r k:Nat):Dg:=((dL (k+1) (xd r)).take ((dL (k+1) (xd r)).length - k),(dL (k+1) (xd r)).drop ((dL (k+1) (xd r)).length - k))
def Bo(n:uL)(v:Nat):uL :=
 if n.1 then (decide (yg (n.2.1++n.2.2)+v*10 ^ n.2.2.length≠0),H7 (yg (n.2.1++n.2.2)+v*10 ^ n.2.2.length) n.2.2.length)
 else if yg (n.2.1++n.2.2)<v*10 ^ n.2.2.length then (true,H7 (v*10 ^ n.2.2.length - yg (n.2.1++n.2.2)) n.2.2.length)
 else (false,H7 (yg (n.2.1++n.2.2) - v*10 ^ n.2.2.length) n.2.2.length)
def Ub(n:uL)(v:Nat):Bool := !n.1 && decide (GR n.2 v=0)
inductive yru where
 |no
 |yrq
 |val (t:Wd) (num:Bool)
structure jd(τ:Type) where
 wr:uL->Wd
 sort:Bool->Dg->Nat
 get:Wd->τ->yru×τ
inductive aI (σ:Type) where
 |go (k:Nat) (s:σ)
 |fin (s:σ)
 |err (n:Nat) (s:σ)
 |bad
def VQ{σ:Type}(F:Nat->σ->aI σ):Nat->Nat->σ->Option (Except (Nat×σ) σ)
 | 0,_,_=>none
 |f+1,k,s=>match F k s with |.go k' s'=>VQ F f k' s' |.fin s'=>some (.ok s') |.err n s'=>some (.error (n,s')) |.bad=>none
structure ZU(τ:Type) where
 out:Wd
 stk:List (uL×uL)
 gs:τ
section
variable {τ:Type} (E:jd τ)
def VK(n:Wd)(g:τ):Except (Nat×τ) ((Wd×Bool)×τ) :=
 match E.get n g with
 |(.no,g') => .error (12,g')
 |(.yrq,g') => .error (15,g')
 |(.val t num,g')=>if bj t num then .ok ((t,num),g')else .error (11,g')
def Qk(n:Wd)(g:τ):Except (Nat×τ) (uL×τ) :=
 match VK E n g with
 |.error e => .error e
 |.ok ((t,num),g')=>if num then .ok (numOf t,g')else .error (13,g')
def TI(n:Wd)(g:τ):Except (Nat×τ) (Wd×τ) :=
 match VK E n g with
 |.error e => .error e
 |.ok ((t,num),g')=>if num then .error (13,g')else .ok (t,g')
def zcv(t:Wd)(num:Bool):Wd:=if num then E.wr (numOf t)else t
def Ys(s:MkS)(x:uG):Option Wd:=x.k[0]?.bind λj=>s.cs[j]?
def TL(s:MkS)(t:Option Nat)(r:ZU τ):aI (ZU τ) :=
 match t with
 |none => .bad
 |some p=>match qo s.code s.code.length p with|some k => .go k r|none => .fin r
def Ql(s:MkS)(x:uG)(t:Wd):Nat:=(x.k.tail.map λj=>s.cs[j]?).idxOf (some t)
def dC(s:MkS)(x:uG)(k:Nat)(r:ZU τ):aI (ZU τ) :=
 match x.op with
 | 0 => .fin r
 | 1=>match Ys s x with|none => .bad|some t => .go (k+1) { r with out:=r.out++t }
 | 2=>match Ys s x with
  |none => .bad
  |some n=>match VK E n r.gs with |.error (e,g) => .err e { r with gs:=g } |.ok ((t,num),g) => .go (k+1) { r with out:=r.out++zcv E t num,gs:=g }
 | 3=>match Ys s x with
  |none => .bad
  |some n=>match Qk E n r.gs with |.error (e,g) => .err e { r with gs:=g } |.ok (v,g) => .go (k+1) { r with out:=r.out++E.wr v,gs:=g }
 | 4=>match Ys s x with
  |none => .bad
  |some n=>match Qk E n r.gs with |.error (e,g) => .err e { r with gs:=g } |.ok (v,g) => .go (k+1) { r with stk:=r.stk++[(v,Bo v x.v)],gs:=g }
 | 5=>match r.stk.getLast? with|none => .bad|some _ => .go (k+1) { r with stk:=r.stk.dropLast }
 | 6=>match r.stk.getLast? with|none => .bad|some t => .go (k+1) { r with out:=r.out++E.wr t.2 }
 | 7=>match r.stk.getLast? with|none => .bad|some t=>if Ub t.1 x.v then TL s x.tg[0]? r else .go (k+1) r
 | 8=>match r.stk.getLast? with|none => .bad|some t=>TL s x.tg[E.sort false t.2.2]? r
 | 9=>match r.stk.getLast? with|none => .bad|some t=>TL s x.tg[E.sort true t.2.2]? r
 | 10=>match Ys s x with
  |none => .bad
  |some n=>match TI E n r.gs with
   |.error (e,g) => .err e { r with gs:=g }
   |.ok (t,g)=>if x.k.tail.all (λj=>decide (j<s.cs.length))then TL s x.tg[Ql s x t]? { r with gs:=g }else .bad
 | 11=>TL s x.tg[0]? r
 |_ => .bad
def V7(s:MkS)(k:Nat)(r:ZU τ):aI (ZU τ):=match s.code[k]? with|none => .bad|some x=>dC E s x k r
end
def JY(c:UInt8):∀l:List UInt8,Lib.indexByte l c=if l.idxOf c<l.length then ((l.idxOf c:Nat):Int)else -1
 |[]=>rfl
 |b::l=>by
  have d:=JY c l;rw[Lib.indexByte,d,xj8];by_cases h:b==c
  .simp[h]
  .simp only[h,cond_false,zY];by_cases h2:l.idxOf c<l.length
   .rw[yV h2,yV (show l.idxOf c+1<l.length+1 by omega)];have a:(((l.idxOf c:Nat):Int)==-1)=false:=(by rw[beq_eq_false_iff_ne];omega);rw[a];simp
   .rw[yz h2,yz (show ¬(l.idxOf c+1<l.length+1)by omega)];simp
def FJ(s:ByteArray)(c:UInt8)(w:z8)(hs:s.size<=1000000) :
  zC prog 116 #[.string s,.string ⟨#[c]⟩] w λe w' =>
   e = .returned (.tuple #[.string ⟨(s.data.toList.take (s.data.toList.idxOf c)).toArray⟩,.string ⟨(s.data.toList.drop (s.data.toList.idxOf c+1)).toArray⟩,.bool (decide (s.data.toList.idxOf c<s.size))])/\∃n,w'=w.drewN n:=by
 have hx:=JY c s.data.toList;rw[vG]at hx;have g:=Z hx;clear hx;go_enter func116,ntmps116;go_wp2_with fail;refine(Tryz.stringslite_Index_one s c _).mono ?_;rw[g.o];rintro e w' ⟨rfl,rfl⟩;by_cases b:s.data.toList.idxOf c<s.size
 .rw[yV b];generalize d:s.data.toList.idxOf c=k at b;have f:=Z d;clear d;have hr:(k+1:Nat)<=s.size:=b;go_wp2_with fail;go_quiet (fail)
  go_wp2;go_ret3
  rw[fH,fI,f.o];exact⟨by simp[b],nq,rfl⟩
 .rw[yz b];have hi:s.data.toList.idxOf c=s.size:=by have:=xrj (a:=c) (l:=s.data.toList);simp only[vG]at this;omega
  have h:=Z hi;clear hi b;go_wp2;go_ret3
  rw[h.o,DL,oU,yI zZ];exact⟨zZ,0,rfl⟩
variable{xs:List Value}{B cap n size:Nat}{e:xm}{v:Value}{w w':z8}
def zcu{base:Nat}(h:w.ownsRow base e size v n xs):∃a m k,v = .slice a m k:=by
 obtain⟨a,cap,hv⟩:=zn h;exact⟨a,n,cap,hv⟩
def yu1(l:List UInt8)(w:z8)(e:xU)(w':z8):Prop :=
 ∃(b:Bool) (v:Value) (k:Int),e = .returned (.tuple #[.agg #[.bool b,v,k],.bool (ue l)])/\(∃a n k',v = .slice a n k')/\zP w w' /\
  (ue l=true->b=XA l/\k=((ud l).length:Int)/\w'.ownsRow (w:Nat) 5 1 v ((vQ l).length+(ud l).length) (vz (vQ l++ud l)))
def aL(s:ByteArray)(l:List UInt8)(a:s.data.toList=l)(w:z8)(hs:s.size<=1000000) :
  zC prog 67 #[.string s,.string ⟨#[46]⟩] w λe w' =>
   e = .returned (.tuple #[zM (l.take (l.idxOf 46)),zM (l.drop (l.idxOf 46+1)),.bool (decide (l.idxOf 46<l.length))])/\∃n,w'=w.drewN n:=by
 subst a;go_enter func67,ntmps67;go_wp2_with fail;refine(FJ s 46 _ hs).mono ?_;rintro e w' ⟨rfl,n,rfl⟩;go_wp2;go_ret3
 exact⟨by rw[vG];rfl,n,rfl⟩
def pW(l:List UInt8):vD l [45]=Kn l/\yW l [45]=XA l:=by
 cases l with
 |nil=>exact⟨rfl,rfl⟩
 |cons x l =>
  by_cases h:x=45
  .subst h;simp[vD,yW,Kn,XA,uS]
  .have h2:((45:UInt8)==x)=false:=(by rw[beq_eq_false_iff_ne];exactλe=>h e.symm);simp[vD,yW,Kn,XA,uS,h,h2]
def bE{base d:Nat}(h:w.ownsRow base e size v n xs)(hb:d<=base):w.ownsRow d e size v n xs :=
 ⟨h.1,h.2.imp id λ⟨g,cap,f,a,b,c⟩=>⟨g,cap,f,a,zj hb b,c⟩⟩
def xG(l:List UInt8):List Int:=l.map λc=>(c.toNat:Int) - 48
def zero_eq(l:List UInt8):(!(xG l).any (· != 0))=l.all (· == 48):=by
 induction l with
 |nil=>rfl
 |cons c l b =>
  have h:(((c.toNat:Int) - 48) !=0) = !(c==48):=by
   have h2:=YO c 48;have d:((48:UInt8).toNat:Int)=48:=rfl;rw[d]at h2;by_cases a:c=48
   .subst a;rfl
   .have e:(c==48)=false:=(by simpa using a);rw[e,LZ,bne_iff_ne];intro g;have f:((c.toNat:Int)==48)=true:=(by rw[beq_iff_eq];omega);rw[f]at h2;simp[a]at h2
  simp only[xG,vE,List.any_cons,vh]at b|-;rw[h,<-b];simp
def j6{ad:Option yM}(h:w.ownsRow B 5 1 (.slice ad n cap) n (vz l))(hn:n=l.length):yU w ad (xG l):=by
 subst hn;intro j c;have a:j<l.length:=by simpa[xG]using c
 obtain⟨g,b,hv,_,_,hc⟩:=xf h J;cases hv;refine⟨⟨g,0,none⟩,rfl,?_⟩;have:=hc j J;rw[vS,this];simp[vz,xG,a]
def yU.set{a:Option yM}{l:List Int}(h:yU w a l){p:yM}(hp:∀b,a=some b->b.block≠p.block)(u:Value):yU (w.setCell p u) a l:=λj c=>by
 obtain⟨b,hb,hc⟩:=h j c;refine⟨b,hb,?_⟩;rw[<-hc];exact yE (yZ _ _ _ _ (by rw[addr_add];exact hp b hb))
def Hp(l:List UInt8)(n:Nat)(hn:n=l.length)(a:Option yM)(c:Nat)(b:Bool)(sc:Int)(w:z8)(d:l.length<=1000000)(hc:yU w a (xG l)) :
  zC prog 69 #[.agg #[.bool b,.slice a n c,sc]] w λe w'=>e = .returned (.bool (l.all (· == 48)))/\zP w w':=by
 subst hn;have:=zcy (xG l) a c b sc w (by simpa[xG]using d) hc;rw[zero_eq]at this;simpa[xG]using this
def xp{base:Nat}(h:w.ownsRow base e size v n xs){p:yM}(hp:some p.block≠v.ownBlock)(u:Value):(w.setCell p u).ownsRow base e size v n xs :=
 h.kept (row:=some p.block) ⟨rfl,rfl,rfl,zZ,λi _ a=>yZ _ _ _ _ (λhe=>a (by rw[he]))⟩ (.inr (λhe=>hp he.symm))
def di{base:Nat}(h:w.ownsRow base e size v n xs)(hb:zP w w'):w'.ownsRow base e size v n xs :=
 h.kept (row:=none) ⟨hb.os,hb.tape,hb.output,hb.size,λi hi _=>hb.block i hi⟩ (by cases v.ownBlock<;>simp)
def zcq{fr:List UInt8}{pt:Bool}(d:vQ l=wh)(hF:ud l=fr)(c:Vo l=pt)(b:pt=false->fr=[])(h:¬((wh++fr).all yG=true/\wh≠[]/\(pt=true->fr≠[])/\wh.length+fr.length<=30)):ue l=false:=by
 refine yrx d hF c λ⟨h1,h2,a⟩=>h ⟨?_,?_,?_,a⟩
 .simp only[uf,zx]at h1 h2;rw[uJ,h1.1];cases pt with
  |false=>rw[b rfl];rfl
  |true=>simp[(h2 rfl).1]
 .intro e;subst e;simp[uf]at h1
 .intro hp e;subst e;simp[uf]at h2;exact absurd hp Bq
def yu2{fr:List UInt8}{pt:Bool}(c:vQ l=wh)(hF:ud l=fr)(b:Vo l=pt)(h1:(wh++fr).all yG=true)(h2:wh≠[])(a:pt=true->fr≠[])(d:wh.length+fr.length<=30):FY l=true:=by
 rw[uJ,zx]at h1;refine yu0 c hF b (by simp[uf,h1.1,h2]) (λhp=>by simp[uf,h1.2,a hp]) J
def Yt(s:ByteArray)(w:z8)(hs:s.size<=1000000) :
  zC prog 35 #[.string s] w (yu1 s.data.toList w):=by
 have F:(Kn s.data.toList).length<=s.size:=by unfold Kn;split<;>simp
 have hp:=pW s.data.toList;have A:=Z hp;generalize C:Kn s.data.toList=al at F;have j:=Z C;clear C hp;go_enter func35,ntmps35;go_wp2_with fail;refine(Tryz.strings_CutPrefix s _ _).mono ?_;rintro e w' ⟨rfl,rfl⟩;have H:vD s.data.toList [45]=al:=A.o.1.trans j.o;have I:=A.o.2;rw[show({ data:=#[45] }:ByteArray).data.toList=[45]from rfl,H,I];clear H I;generalize D:XA s.data.toList=b;have HB:=Z D;clear D;go_wp2_with fail;refine(aL _ al (toList_mk al) _ (by rw[size_mk];omega)).mono ?_;rintro e w' ⟨rfl,nq,rfl⟩;have L:(al.take (al.idxOf 46)).length+(al.drop (al.idxOf 46+1)).length<=s.size:=yJ;have Q:vQ s.data.toList=al.take (al.idxOf 46):=by rw[vQ,j.o]
 have hF:ud s.data.toList=al.drop (al.idxOf 46+1):=by rw[ud,j.o]
 have P:Vo s.data.toList=decide (al.idxOf 46<al.length):=by rw[Vo,j.o]
 have M:decide (al.idxOf 46<al.length)=false->al.drop (al.idxOf 46+1)=[]:=by
  intro h;simp at h;exact yI J
 generalize al.take (al.idxOf 46)=wh at Q L|-;generalize al.drop (al.idxOf 46+1)=fr at hF L M|-;generalize decide (al.idxOf 46<al.length)=pt at P M|-;obtain⟨HW,HF,N,S⟩:=hdd Q hF P M;clear Q hF P M;go_wp2_with fail;refine(aD _ _ (by first|(rw[Jr,size_mk];simp;omega)|simp;omega)).mono ?_;rw[Jr,toList_mk];rintro e w' ⟨hv,hb⟩;have U:(w:Nat)+1<=(w':Nat):=by have:=hb.size;simpa using this
 have hB:zP w w':=(below_drewN ((zv _ _).alloc (Y _) _) nq).trans (hb.mono zZ);have YZ:zu w' (w:Nat) 0 (.bool b):=AY;have Vj:zu w' (w:Nat) 1 (.slice none 0 0):=AY;have Xq:zu w' (w:Nat) 2 (.int .i64 0):=AY;have hf0:w'.frozen? (zU (w:Nat) 0)=false:=Ay;have Ue:w'.frozen? (zU (w:Nat) 1)=false:=Ay;have ZE:w'.frozen? (zU (w:Nat) 2)=false:=Ay;have i:∀v,w'.ownsRow ((w.alloc (.cells #[.bool b,.slice none 0 0,.int .i64 0] 99)).drewN nq).heap.size 5 1 v (wh++fr).length (vz (wh++fr))->w'.ownsRow (w:Nat) 5 1 v (wh++fr).length (vz (wh++fr)):=λv h=>bE h zZ
 have r:∀v,w'.ownsRow ((w.alloc (.cells #[.bool b,.slice none 0 0,.int .i64 0] 99)).drewN nq).heap.size 5 1 v (wh++fr).length (vz (wh++fr))->some (w:Nat)≠v.ownBlock:=λv h e=>by have:=(vz1 h _ e.symm).1;simp at this;omega
 clear hb;by_cases c:(wh++fr).all yG=true
 .rw[yV c]at hv;obtain⟨v,rfl,g⟩:=hv;have HSV:=Z (zcu g);have d:=i v g;have ib:=r v g;clear i r g;obtain⟨ad,cap,rfl⟩:=zn d;have y:=Z c;clear c;have G:(wh++fr).length=wh.length+fr.length:=by simp
  rw[G]at d ib|-;have Y8:=Z d;clear G d;by_cases f:¬(wh≠[]/\(pt=true->fr≠[])/\wh.length+fr.length<=30)
  .have a:=zcq HW.o HF.o N.o S.o (λh=>f h.2);have XX:=Z a;clear a;go_wp2;all_goals first
    |(exfalso;refine f ⟨by assumption,?_,?_⟩<;>first|(intro h;contradiction)|(intro _;assumption)|omega)
    |(refine yK (v := .tuple #[.agg #[.bool b,.slice none 0 0,.int .i64 0],.bool false]) ?_ rfl ?_
      focus(simp[yN,results35,go_sem, *])
      refine⟨b,_,_,by rw[XX.o],by first|exact⟨_,_,_,rfl⟩|exact HSV.o,?_,λh=>by rw[XX.o]at h;cases h⟩;refine hB.trans ?_;(repeat(first|(with_reducible exact zv _ _)|(with_reducible refine below_drewN ?_ _)|(with_reducible refine kp ?_)|(with_reducible refine KY ?_ ?_ _;rotate_left;focus(first|(simp;done)|(simp;omega)))|(with_reducible refine ZD ?_ ?_ _;rotate_left;focus(first|(simp;done)|(simp;omega)))))
      done)
  .have n:wh≠[]/\(pt=true->fr≠[])/\wh.length+fr.length<=30:=Classical.not_not.1 f;clear f;obtain⟨Fg,m,R⟩:=n;have E:=yu2 HW.o HF.o N.o y.o Fg m R;have k:=Z E;clear E;have T:¬((30:Int)<(wh.length:Int)+(fr.length:Int)):=(by omega);have K:0<(vO wh.toArray).size:=by
    rw[size_mk];cases wh with
    |nil=>exact absurd rfl Fg
    |cons x l=>simp
   have B:=yrv wh K;have u:=Z B;clear B;have t:(pt=true/\¬fr=[])\/pt=false:=by
    cases pt
    .exact .inr rfl
    .exact .inl ⟨rfl,m rfl⟩
   clear m;rcases t with⟨t,hfr⟩|t;all_goals
    by_cases c1:(1:Int)<(wh.length:Int)
    .by_cases c2:(((vO wh.toArray)[0].toNat:Int)==48)=true
     .have a:ue s.data.toList=false:=by
       rw[Bn HW.o HF.o HB.o k.o,u.o,c2];simp;omega
      have XX:=Z a;clear a;go_wp2;all_goals first
       |(exfalso;rename_i hh;simp[Fg,hfr]at hh;omega)|(exfalso;rename_i hh;simp[Fg]at hh;omega)
       |skip
      refine yK (v := .tuple #[.agg #[.bool b,.slice ad (wh.length+fr.length) cap,(fr.length:Int)],.bool false]) ?_ rfl ?_
      .simp[yN,results35,go_sem,zo, *]
      .exact zj6
     .have O:(((vO wh.toArray)[0].toNat:Int)==48)=false:=(by simpa using c2);have a:ue s.data.toList = !(b && (wh++fr).all (· == 48)):=by
       rw[Bn HW.o HF.o HB.o k.o,u.o,O];simp
      have XX:=Z a;clear a c2;exact xjb
    .have a:ue s.data.toList = !(b && (wh++fr).all (· == 48)):=by
      rw[Bn HW.o HF.o HB.o k.o,decide_eq_false J];simp
     have XX:=Z a;clear a;exact xjb
 .rw[yz c]at hv;subst hv;have a:=zcq HW.o HF.o N.o S.o (λh=>c h.1);have XX:=Z a;clear a c i r;go_wp2;refine yK (v := .tuple #[.agg #[.bool b,.slice none 0 0,.int .i64 0],.bool false]) ?_ rfl ?_
  .simp[yN,results35,go_sem, *]
  .exact zj6
def pA(g o j:Nat):(⟨g,o,none⟩:yM).add j=⟨g,o+j,none⟩:=by
 unfold bW;split
 .simp_all
 .simp
def yU.take{a:Option yM}{l:List Int}(h:yU w a l)(m:Nat):yU w a (l.take m):=λj hj=>by
 have c:j<l.length:=Gv;obtain⟨b,hb,hc⟩:=h j c;exact⟨b,hb,by simpa using hc⟩
def yU.drop{g o:Nat}{l:List Int}(h:yU w (some ⟨g,o,none⟩) l)(k:Nat):yU w (some ⟨g,o+k,none⟩) (l.drop k):=λj hj=>by
 have a:k+j<l.length:=Gv;obtain⟨b,hb,hc⟩:=h (k+j) a;cases hb;refine⟨_,rfl,?_⟩;rw[pA]at hc|-;simpa[kh]using hc
def yyy(g o:Nat)(n cap sc:Nat)(b:Bool)(l:List Int)(w:z8)(h:l.length=n)(hs:sc<=n)(d:n<=cap)(hn:n<=1000000)(hB:yU w (some ⟨g,o,none⟩) l) :
  zC prog 71 #[.agg #[.bool b,.slice (g,o) n cap,sc]] w λe w'=>(∃a c,e = .returned (.slice a (n - sc) c)/\(∀q,a=some q->q.block=g)/\yU w' a (l.take (n - sc)))/\zP w w':=by
 obtain⟨k,f⟩:∃k,n=k+sc:=⟨n - sc,J⟩;subst f;rw[show k+sc - sc=k from J];have h0:(0:Int)<=((k+sc:Nat):Int) - (sc:Int):=J;have h1:((k+sc:Nat):Int) - (sc:Int)=(k:Int):=J;have h2:k<=cap:=J;go_enter func71,ntmps71;go_wp2;go_ret;exact⟨⟨_,_,rfl,Ax,(hB.alloc _).take k⟩,(zv _ _).alloc (Y _) _⟩
def zqb(g o:Nat)(n cap sc:Nat)(b:Bool)(l:List Int)(w:z8)(r:l.length=n)(hs:sc<=n)(d:n<=cap)(hn:n<=1000000)(hB:yU w (some ⟨g,o,none⟩) l) :
  zC prog 73 #[.agg #[.bool b,.slice (g,o) n cap,sc]] w λe w'=>(∃a c,e = .returned (.slice a sc c)/\(∀q,a=some q->q.block=g)/\yU w' a (l.drop (n - sc)))/\zP w w':=by
 obtain⟨k,p⟩:∃k,n=k+sc:=⟨n - sc,J⟩;subst p;rw[show k+sc - sc=k from J];have h1:((k+sc:Nat):Int) - (sc:Int)=(k:Int):=J;have h2:k<=cap:=J;go_enter func73,ntmps73;by_cases i:cap=k
 .have f:l.drop k=[]:=yI J;have h:=Z f;clear f;go_wp2;go_ret;refine⟨⟨_,_,rfl,Ax,?_⟩,(zv _ _).alloc (Y _) _⟩;rw[h.o];intro j m;simp at m
 .go_wp2;go_ret;exact⟨⟨_,_,rfl,Ax,(hB.alloc _).drop k⟩,(zv _ _).alloc (Y _) _⟩
end Go.Proofs.YtpggmjffejgakaaGreatDoor
namespace Go.Proofs.YtpggmjffejgakaaGreatDoor
open Go
set_option maxRecDepth 10000

end Go.Proofs.YtpggmjffejgakaaGreatDoor
namespace Go.Proofs.YtpggmjffejgakaaGreatDoor
open Go
set_option maxRecDepth 10000
variable{l:List UInt8}
def pw(l:List UInt8):∀a:Nat,l.foldl (λv c=>10*v+(c.toNat - 48)) a=a*10 ^ l.length+Z8 l:=by
 induction l with
 |nil=>intro a;simp[Z8]
 |cons c t b =>
  intro a;unfold Z8;rw[vB,vB,b,b,zY,Zw,ew,uE,ki,kh];congr 1;rw[dY 10 a,LY,dY 10]
def r6(c:UInt8)(t:List UInt8):Z8 (c::t)=(c.toNat - 48)*10 ^ t.length+Z8 t:=by
 show(c::t).foldl (λv c=>10*v+(c.toNat - 48)) 0=_;rw[vB,pw];simp
structure Fig(l:List UInt8):Prop where
 dig:l.all yG=true
 ne:l≠[]
 lead:l.length=1\/l.headD 0≠48
def Fig.of(h:Bi l=true):Fig l/\l.length<=9:=by
 simp only[Bi,uf,zx,vR,vJ,qu]at h;refine⟨⟨h.1.1,λe=>?_,h.2.2⟩,h.2.1⟩;rw[e]at h;exact absurd h.1.2 zR
def zck{c:UInt8}{t:List UInt8}(hc:yG c=true)(h:c≠48):10 ^ t.length<=Z8 (c::t):=by
 rw[r6];have h1:=(xr c).1 hc;have h2:c.toNat≠48:=λe=>h (dW.1 (by rw[e];rfl))
 have:1*10 ^ t.length<=(c.toNat - 48)*10 ^ t.length:=qp _ J;omega
def RU{c:UInt8}(hc:yG c=true):kH (c.toNat - 48)=c:=by
 have h1:=(xr c).1 hc;unfold kH;apply dW.1;exact Dn
def r7:∀(n:Nat) (l:List UInt8),l.length=n->Fig l->xd (Z8 l)=l:=by
 intro n;induction n with
 |zero=>intro l d h;exact absurd (zN d) h.ne
 |succ n i =>
  intro l d h;obtain⟨t,c,rfl⟩:∃t c,l=t++[c]:=⟨l.dropLast,l.getLast h.ne,Wj⟩;have hd:=h.dig;rw[uJ,zx]at hd;have hc:yG c=true:=by simpa using hd.2
  have h1:=(xr c).1 hc;rw[IJ];by_cases f:t=[]
  .subst f;have:(10*Z8 []+(c.toNat - 48))=c.toNat - 48:=(by simp[Z8]);rw[this,qq J,RU hc];rfl
  .have b:t.length=n:=(by simpa using d);have a:(t++[c]).headD 0≠48:=by
    rcases h.lead with q|q
    .exact absurd (zN (by simpa using q)) f
    .exact q
   obtain⟨e,u,rfl⟩:∃e u,t=e::u:=(by cases t with|nil=>exact absurd rfl f|cons e u=>exact⟨e,u,rfl⟩);have he:e≠48:=(by simpa using a);have Jl:yG e=true:=(by have:=hd.1;simp at this;exact this.1);have g:=zck (t:=u) Jl he;have:0<10 ^ u.length:=Nat.pow_pos zR;rw[fL J,show(10*Z8 (e::u)+(c.toNat - 48)) / 10=Z8 (e::u)by omega,show(10*Z8 (e::u)+(c.toNat - 48)) % 10=c.toNat - 48 by omega,RU hc,
    i (e::u) b ⟨hd.1,zZ,.inr (by simpa using he)⟩]
def Fig.val(h:Fig l):xd (Z8 l)=l:=r7 _ l rfl h
def r8(x y:List UInt8):cmpL x y = -1\/cmpL x y=0\/cmpL x y=1:=by
 unfold cmpL;split
 .exact .inl rfl
 split
 .exact .inr (.inl rfl)
 .exact .inr (.inr rfl)
end Go.Proofs.YtpggmjffejgakaaGreatDoor
namespace Go.Proofs.YtpggmjffejgakaaGreatDoor
open Go
set_option maxRecDepth 10000
variable{α β:Type}
abbrev va9:Wd:=[97,110,100]
abbrev wOr:Wd:=[111,114]
def r9{α:Type}(R:Option (α×List Wd))(seg rest:List Wd)(vaz:α->Prop)(bad:Prop):Prop :=
 (∃a,R=some (a,rest)/\vaz a)\/(bad/\(R=none\/∃a h t,h∈seg/\R=some (a,h::(t++rest))))
def r9.imp{R:Option (α×List Wd)}{c rest:List Wd}{g g':α->Prop}{b d:Prop}(h:r9 R c rest g b)(e:∀a,g a->g' a)(hb:b->d):r9 R c rest g' d:=by
 rcases h with⟨a,r,q⟩|⟨q,r⟩
 .exact .inl ⟨a,r,e a q⟩
 .exact .inr ⟨hb q,r⟩
def r9.map{R:Option (α×List Wd)}{c rest:List Wd}{g:α->Prop}{b:Prop}(f:α->β){g':β->Prop}(h:r9 R c rest g b)(d:∀a,g a->g' (f a)) :
  r9 (R.map λq=>(f q.1,q.2)) c rest g' b:=by
 rcases h with⟨a,r,q⟩|⟨q,r|⟨a,h,t,hm,r⟩⟩
 .exact .inl ⟨f a,by rw[r];rfl,d a q⟩
 .exact .inr ⟨q,.inl (by rw[r];rfl)⟩
 .exact .inr ⟨q,.inr ⟨f a,h,t,hm,by rw[r];rfl⟩⟩
def Stop(rest:List Wd):Prop:=∀c,rest.head? = some c->c=va9\/c=wOr
def RQ(w c:Wd)(t:List Wd):Yr w (c::t)=(c==w):=by
 unfold Yr;rw[List.head?_cons,xO];simp
end Go.Proofs.YtpggmjffejgakaaGreatDoor
namespace Go.Proofs.YtpggmjffejgakaaGreatDoor
open Go
set_option maxRecDepth 10000

end Go.Proofs.YtpggmjffejgakaaGreatDoor
namespace Go.Proofs.YtpggmjffejgakaaGreatDoor
open Go Go.RowKit
set_option maxRecDepth 10000
variable{w w':z8}
def aN{b:yM}{x:Int}{l:List Int}(h:yU w (some b) (x::l)):w.cell? b=some (.int .u8 x):=by
 obtain⟨c,hc,hx⟩:=h 0 zZ;cases hc;simpa[bW]using hx
def aO{b:yM}{x:Int}{l:List Int}(h:yU w (some b) (x::l)):yU w (some (b.add 1)) l:=λj a=>by
 obtain⟨c,hc,hx⟩:=h (j+1) yJ;cases hc;refine⟨_,rfl,?_⟩;rw[add_add,Nat.add_comm 1 j];simpa using hx
def yU.below{a:Option yM}{l:List Int}(h:yU w a l)(hb:zP w w'):yU w' a l:=λj c=>by
 obtain⟨b,h1,h2⟩:=h j c;refine⟨b,h1,?_⟩;exact zq8
def Yg(w:z8)(a:Option yM):yU w a []:=λj b=>absurd b (KV j)
def RJ(a:Option yM)(l:List Int)(w:z8)(e:xU)(w':z8):Prop :=
 (∃a' ry,e = .returned (.slice a' (l.dropWhile (· == 0)).length ry)/\yU w a' (l.dropWhile (· == 0))/\(l.dropWhile (· == 0)).length<=ry/\(∀q,a'=some q->∃p,a=some p/\q.block=p.block))/\w'=w
def GA(l:List Int)(a:Option yM)(cap:Nat)(w:z8)(B:l.length<=1000000)(i:l.length<=cap)(y:cap<=9223372036854775807)(hB:yU w a l) :
  zC prog 250 #[.slice a l.length cap,.int .u8 0] w (RJ a l w):=by
 go_enter func250,ntmps250;go_wp2;go_loop [0] (λv=>∃(a':Option yM) (c:Nat) (r:List Int),v = .slice a' r.length c/\r.length<=c/\c<=9223372036854775807/\r.length<=1000000/\yU w a' r/\r.dropWhile (· == 0)=l.dropWhile (· == 0)/\(∀q,a'=some q->∃p,a=some p/\q.block=p.block)) (λv=>match v with |.slice _ n _=>n|_=>0)
 case atStart=>exact⟨a,cap,l,rfl,i,y,B,hB,rfl,λq h=>⟨q,h,rfl⟩⟩
 case round =>
  obtain⟨a',c,r,rfl,h1,h2,z,g,hd,A⟩:=hrel;have f:=Z hd;have m:=Z g;have s:=Z A;clear hd g A;cases r with
  |nil =>
   go_wp2;go_ret;refine⟨⟨none,0,?_,?_,?_,λq h=>xc⟩,rfl⟩
   .rw[<-f.o];rfl
   .rw[<-f.o];exact Yg _ _
   .rw[<-f.o];exact Yc
  |cons x t =>
   have hx:=m.o 0 zZ;obtain⟨b,rfl,k⟩:=hx;have E:=aN m.o;have d:(x::t).length=t.length+1:=rfl;clear k;by_cases h0:x=0
   .subst h0;by_cases u:c=1
    .have D:t=[]:=by
      apply zN;rw[d]at h1;omega
     subst D;subst u;go_wp2;refine⟨⟨some b,0,[],rfl,Y _,zR,zR,Yg _ _,?_,s.o⟩,?_⟩
     .rw[<-f.o];rfl
     .show 0<[0].length;simp
    .have F:((0:Int)<=(t.length+1:Nat) - 1):=(by omega);have C:¬(c:Int)=1:=J;rw[d]at h1 z|-;go_wp2;refine⟨⟨some (b.add 1),c - 1,t,rfl,J,J,J,aO m.o,?_,λq h=>?_⟩,?_⟩
     .rw[<-f.o];rfl
     .cases h;exact s.o b rfl
     .show t.length<t.length+1;omega
   .have k:(x==0)=false:=(by simpa using h0);rw[d]at h1 z|-;have j:l.dropWhile (· == 0)=x::t:=(by rw[<-f.o,fJ (by simpa using h0)]);have e:=Z j;clear j h0;go_wp2;go_ret;refine⟨⟨some b,c,?_,?_,?_,s.o⟩,rfl⟩
    .rw[e.o];rfl
    .rw[e.o];exact m.o
    .rw[e.o];simpa using h1
def N9(l:List Int)(a:Option yM)(cap:Nat)(w:z8)(r:l.length<=1000000)(b:l.length<=cap)(c:cap<=9223372036854775807)(hB:yU w a l) :
  zC prog 233 #[.slice a l.length cap,.string ⟨#[0]⟩] w (RJ a l w):=by
 have k:=Z hB;clear hB;by_cases h0:l=[]
 .subst h0;go_enter func233,ntmps233;go_wp2;go_ret;exact⟨⟨none,0,rfl,Yg _ _,Y _,λq h=>xc⟩,rfl⟩
 .obtain⟨n,hn⟩:∃n,l.length=n+1:=⟨l.length - 1,by have:=yv.2 h0;omega⟩;have h1:((l.length:Int)==0)=false:=by simp;omega
  have g:=GA l a cap w r b c k.o;have m:=Z g;clear g h0 hn;go_enter func233,ntmps233;go_wp2_with fail;refine m.o.mono ?_;rintro e w1 ⟨⟨a',d,rfl,h2,p,f⟩,rfl⟩;have i:=Z h2;have j:=Z f;clear h2 f;go_wp2;go_ret;exact⟨⟨_,_,rfl,i.o,p,j.o⟩,rfl⟩
def To(l:List UInt8):vz l=(xG l).map (Value.int .u8):=by simp[vz,xG]
def ru(l:List UInt8)(a:yM)(cap:Nat)(w:z8)(i:l.length<=1000000)(hB:yU w (some a) (xG l)) :
  zC prog 234 #[.slice (some a) l.length cap] w λe w'=>(∃v,e = .returned v/\w'.ownsRow (w:Nat) 5 1 v l.length (vz l))/\zP w w':=by
 have h:=Z hB;clear hB;have g:∀W,(binOp .eql 34 (.slice (some a) l.length cap) (.slice none 0 0)).run prog W = .ok (.bool false) W:=λW=>Lib.run_eql_slice_some_nil W _ _ _ underlying34
 go_enter func234,ntmps234;go_wp2_with (at_builtin;refine j9 xC rfl _ _ rfl (w:Nat) _ 0 [] rfl (by exact World.ownsRow_lit w _ 0 (Y _) zR rfl) a l.length cap (vz l) rfl BZ ?c2 ?c3 J zZ ?_)
 case c2 =>
  intro j u hu;have hj:j<(xG l).length:=Wy;obtain⟨b,hb,hc⟩:=h.o j hj;cases hb;rw[bQ _ _ _ (by rw[hc];rfl),hc];exact Tn
 case c3 =>
  exact Tt
 intro v' w1 f d;have hb:zP w w1:=((zv _ _).alloc (Y _) _).grown d zZ (λq hq=>AZ);clear d;go_wp2;go_ret;exact⟨⟨_,rfl,by simpa using f⟩,hb⟩
end Go.Proofs.YtpggmjffejgakaaGreatDoor
namespace Go.Proofs.YtpggmjffejgakaaGreatDoor
open Go Go.RowKit Go.Shelf Go.Sort
set_option maxRecDepth 10000
variable{xs:List Value}{B cap d n:Nat}{e:xm}{w:z8}
def rj{base g:Nat}{zs:List Int}(h:w.ownsRow base e 1 (.slice (g,0) zs.length cap) zs.length (zs.map (yb .u8))):Holds (yb .u8) w g 0 zs.toArray:=by
 intro j hj;have hj':j<zs.length:=M4;refine⟨?_,?_⟩
 .rw[uE,h.cellAt j J];simp[hj',getElem!_pos]
 .exact h.frozenAt _
def aP{base g:Nat}{zs:List Int}(h:w.ownsRow base e 1 (.slice (g,0) n cap) n xs)(hz:zs.length=n) :
  (putRow (yb .u8) w g 0 zs.toArray).ownsRow base e 1 (.slice (g,0) n cap) n (zs.map (yb .u8)):=by
 refine⟨by simp[hz],?_⟩;rcases h.2 with⟨hv,_⟩|⟨g2,Gk,cur,hv,hg,hh,h1,h2,h3,ht⟩
 .cases hv
 .simp only[gZ,vA,YL]at hv;obtain⟨⟨rfl,-⟩,-,rfl⟩:=hv;refine .inr ⟨g,cap,putCells (yb .u8) 0 zs.toArray cur,rfl,hg,?_,h1,h2,by simpa[putCells]using h3,?_⟩
  .simp[putRow,mapBlock,vp,hh,onCells]
  .apply List.ext_getElem?;intro j;by_cases hj:j<n
   .have hjc:j<cur.size:=(by omega);simp[putCells,OY,hj,hjc,hz]
   .rw[qT yJ,qT yJ]
def Nz{a:z8}(h:yD B a w){g:Nat}(hg:B<=g)(d:Array Int):yD B a (putRow (yb .u8) w g 0 d):=by
 refine h.trans ⟨rfl,rfl,rfl,by simp[putRow,mapBlock],λk hk=>?_⟩;simp only[putRow,mapBlock,vp];rw[yz J]
def RG(g cap base:Nat)(zs:List Int)(w:z8)(hz:zs.length<=2000000000)(h:w.ownsRow base 5 1 (.slice (g,0) zs.length cap) zs.length (zs.map (yb .u8))) :
  zC prog 192 #[.slice (g,0) zs.length cap] w λe w'=>e = .returned (.tuple #[])/\w'.ownsRow base 5 1 (.slice (g,0) zs.length cap) zs.length (zs.reverse.map (yb .u8)) /\
   (w':Nat)=(w:Nat)/\(∀k,k≠g->w'.heap[k]? = w.heap[k]?)/\yD base w w':=by
 have hg:base<=g:=(h.lt g rfl).1;refine(AnyE.slices_Reverse Tryz.laysRev (yb .u8) (λ_=>rfl) g 0 cap zs w (rj h) J).mono ?_;rintro e w' ⟨rfl,n,rfl⟩;have ha:(zzq w n).ownsRow base 5 1 (.slice (zU g 0) zs.length cap) zs.length (zs.map (yb .u8)):=h;refine⟨rfl,aP ha zZ,by simp[putRow,mapBlock,zzq],λk hk=>?_,Nz (show yD base w (zzq w n) from⟨rfl,rfl,rfl,Y _,λ_ _=>rfl⟩) hg _⟩;simp only[putRow,mapBlock,vp];rw[yz J];rfl
def IF(l:List UInt8):vz l=(xG l).map (Value.int .u8):=by simp[vz,xG]
def Yh(h:d<10):((kH d).toNat:Int) - 48=d:=by
 unfold kH;exact Dn
def rf(v:Nat)(w:z8)(e:xU)(w':z8):Prop :=
 (∃g cap,e = .returned (.agg #[.bool false,.slice (some ⟨g,0,none⟩) (xd v).length cap,.int .i64 0])/\w'.ownsRow (w:Nat) 5 1 (.slice (some ⟨g,0,none⟩) (xd v).length cap) (xd v).length (vz (xd v)))/\zP w w'
def Yw(v:Nat)(w:z8)(hv:v<=1000000000):zC prog 147 #[v] w (rf v w):=by
 have hL:=Ol v;obtain⟨i,hi,hz,h2,h3⟩:=xC.info;go_enter func147,ntmps147;go_wp2;refine Js ?_;intro W hW;have F:(W:Nat)=(w:Nat)+1/\zP w W/\zu W (w:Nat) 0 (.bool false)/\zu W (w:Nat) 1 (.slice none 0 0)/\zu W (w:Nat) 2 (.int .i64 0)/\W.frozen? (w,1)=false/\W.frozen? (w,0)=false/\W.frozen? (w,2)=false:=by
  subst hW;exact⟨zZ,(zv _ _).alloc (Y _) _,uU,uU,uU,uU,by go_simp,by go_simp⟩
 obtain⟨f1,f2,f3,f4,f5,f6,f7,f8⟩:=F;clear hW;go_loopw [0,3] (λn ok wr=>∃(m:Nat) (acc:List UInt8) (sv:Value) (b:Bool),n = .int .i64 m/\ok = .bool b/\m<=v/\wr.ownsRow ((w:Nat)+1) 5 1 sv acc.length (vz acc)/\zP w wr/\(w:Nat)<wr.heap.size /\
   wr.cell? (w,0)=some (.bool false)/\zu wr (w:Nat) 1 sv/\zu wr (w:Nat) 2 (.int .i64 0)/\wr.frozen? (w,1)=false/\wr.frozen? (w,0)=false/\wr.frozen? (w,2)=false /\
   (b=true->xd v=xd m++acc.reverse)/\(b=false->xd v=acc.reverse)) (λn ok _=>(intOf n).toNat+match ok with |.bool true=>1|_=>0)
 case atStart=>exact⟨v,[],.slice none 0 0,true,rfl,rfl,Y _,xx _ _ _ _,f2,J,f3,f4,f5,f6,f7,f8,λ_=>zZ,λh=>xc⟩
 case round =>
  obtain⟨m,acc,sv,b,rfl,rfl,hm,uT,hb,hs,g0,g1,g2,g3,g4,g5,ht,hf⟩:=hrel;clear f2 f3 f4 f5 f6 f7 f8;cases b with
  |false =>
   have hd:=hf rfl;clear ht hf;have yu3:acc.length=(xd v).length:=(by rw[hd];simp);have hlen:0<acc.length:=by
    rw[yu3];by_cases wB:v<10
    .rw[qq wB];simp
    .rw[fL wB];simp
   obtain⟨g,cap,rfl,hg0,Fg,hgc⟩:=xf uT hlen;have hR:=RG g cap ((w:Nat)+1) (xG acc) wr (by simp[xG];omega) (by rw[<-IF];simpa[xG]using uT);have hvl:(xG acc).length=acc.length:=GV;have hrd:(xG acc).reverse.map (yb .u8)=vz (xd v):=(by rw[hd,IF];simp[xG,List.map_reverse]);rw[hvl,hrd,yu3]at hR;rw[yu3]at g1;have HR:=Z hR;clear hR hrd hd yu3 hvl hgc uT;go_wp2_with fail;refine HR.o.mono ?_;rintro e w1 ⟨rfl,RF,bh,aR,qE⟩;have gM:(w:Nat)≠g:=J;have e0:zu w1 (w:Nat) 0 (.bool false):=(yE (aR _ gM)).trans g0;have e1:zu w1 (w:Nat) 1 (.slice (g,0) (xd v).length cap):=(yE (aR _ gM)).trans g1;have e2:zu w1 (w:Nat) 2 (.int .i64 0):=(yE (aR _ gM)).trans g2;have OB:zP w w1:=hb.trans (qE.mono J);have z1:w1.frozen? (w,1)=false:=(zV (aR _ gM)).trans g3;have z0:w1.frozen? (w,0)=false:=(zV (aR _ gM)).trans g4;have z2:w1.frozen? (w,2)=false:=(zV (aR _ gM)).trans g5;clear aR g0 g1 g2 g3 g4 g5;go_wp2;refine yK (v := .agg #[.bool false,.slice (g,0) (xd v).length cap,.int .i64 0]) ?_ rfl ?_
   .simp[yN,results147,go_sem,e0,e1,e2]
   have hn:some (w:Nat)≠(vL (g,0) (xd v).length cap).ownBlock:=λe=>gM (by simpa[yl]using e)
   exact⟨⟨g,cap,rfl,xp (xp (xp (bE RF (dK _)) hn _) hn _) hn _⟩,((OB.setCell (Y _) _).setCell (Y _) _).setCell (Y _) _⟩
  |true =>
   have hd:=ht rfl;have HD:=Z hd;clear ht hf hd;go_wp2_with (at_builtin;refine j9 xC rfl _ _ rfl ((w:Nat)+1) sv acc.length (vz acc) rfl (uT.alloc _) ⟨(wr:Nat),0,none⟩ 1 1 [.int .u8 ((m:Int) % 10)] rfl rfl Qp (by intro u hu;simp at hu;subst hu;rfl) ?c3 yJ ?_)
   case c3 =>
    have:=congrArg xD HD.o;simp at this;omega
   intro iP w1 RF Z3;have qE:zP w w1:=(hb.alloc hb.size _).grown Z3 bw (λq hq=>by have:=(uT.lt q hq).1;omega);have gM:some (w:Nat)≠sv.ownBlock:=λe=>by have:=(uT.lt _ e.symm).1;omega
   have k0:zu w1 (w:Nat) 0 (.bool false):=Z3.cell ((zc _ _ _ hs).trans g0) gM;have k1:zu w1 (w:Nat) 1 sv:=Z3.cell ((zc _ _ _ hs).trans g1) gM;have k2:zu w1 (w:Nat) 2 (.int .i64 0):=Z3.cell ((zc _ _ _ hs).trans g2) gM;have k3:w1.frozen? (zU (w:Nat) 1)=false:=(zV (Z3.block (w:Nat) yJ gM)).trans ((zV (xZ _ _ _ hs)).trans g3);have k4:w1.frozen? (zU (w:Nat) 0)=false:=(zV (Z3.block (w:Nat) yJ gM)).trans ((zV (xZ _ _ _ hs)).trans g4);have k5:w1.frozen? (zU (w:Nat) 2)=false:=(zV (Z3.block (w:Nat) yJ gM)).trans ((zV (xZ _ _ _ hs)).trans g5);have V4:(w:Nat)<(w1:Nat):=X w1 _ k0;have hq:((m:Int).tdiv 10)=((m / 10:Nat):Int):=(by rw[Int.tdiv_eq_ediv_of_nonneg J];rfl);obtain⟨a1,c1,rfl⟩:=zn RF;clear Z3 uT g0 g1 g2 g3 g4 g5 hb hs;go_wp2;have xik:(w1.setCell (w,1) (.slice a1 (acc.length+1) c1)).ownsRow ((w:Nat)+1) 5 1 (.slice a1 (acc.length+1) c1) (acc.length+1) (vz acc++[.int .u8 ((m:Int) % 10)]) :=
    xp RF (λe=>by have:=(RF.lt _ e.symm).1;simp at this;omega) _
   have EY:vz (acc++[kH (m % 10)])=vz acc++[.int .u8 ((m:Int) % 10)]:=by
    have wB:=Yh (d:=m % 10) J;simp only[vz,TT,vE,zpd,wB];rfl
   refine⟨⟨m / 10,acc++[kH (m % 10)],.slice a1 (acc.length+1) c1,decide (0<m / 10),uN,?_,J,?_,qE.setCell (Y _) _,by simpa[xg]using V4,?_,?_,?_,?_,?_,?_,?_,?_⟩,?_⟩
   .congr 1;exact decide_eq_decide.2 J
   .rw[EY];simpa using xik
   .go_simp
   .go_simp
   .go_simp
   .go_simp
   .go_simp
   .go_simp
   .intro h;have wB:0<m / 10:=of_decide_eq_true h;rw[HD.o,fL J];simp
   .intro h;have wB:¬0<m / 10:=of_decide_eq_false h;have:m % 10=m:=(by omega);rw[HD.o,qq J,this];simp
   .by_cases wB:0<m / 10
    .have:decide (0<(m:Int) / 10)=true:=decide_eq_true J;rw[this];simp[intOf];omega
    .have:decide (0<(m:Int) / 10)=false:=decide_eq_false J;rw[this];simp[intOf];omega
end Go.Proofs.YtpggmjffejgakaaGreatDoor
namespace Go.Proofs.YtpggmjffejgakaaGreatDoor
open Go Go.RowKit
set_option maxRecDepth 10000
variable{l:List UInt8}{cap n:Nat}{v:Value}{w w':z8}
structure Ny(x:Dg):Prop where
 zcj:x.1.all yG=true
 zk4:x.2.all yG=true
 ne:x.1≠[]
 Bp:x.1.length<=100
 D1:x.2.length<=100
def uh(w:z8)(v:Value)(x:Dg):Prop :=
 ∃b g o cap,v = .agg #[.bool b,.slice (some ⟨g,o,none⟩) (x.1.length+x.2.length) cap,.int .i64 x.2.length]/\x.1.length+x.2.length<=cap/\cap<=maxLen/\(∃c,zu w g 0 (.int .u8 c))/\yU w (some ⟨g,o,none⟩) (xG (x.1++x.2))/\Ny x
def uh.below{x:Dg}(h:uh w v x)(hb:zP w w'):uh w' v x:=by
 obtain⟨b,g,o,cap,h1,h2,a,c,d,e⟩:=h;exact⟨b,g,o,cap,h1,h2,a,c.imp λ_ hc=>(hb.cell (X w _ hc)).trans hc,d.below hb,e⟩
def uh.ok{x:Dg}(h:uh w v x):Ny x:=by
 obtain⟨b,g,o,cap,h1,h2,c,d,e,a⟩:=h;exact a
def FG(a b:List UInt8):xG (a++b)=xG a++xG b:=GV
def xN(a:List UInt8):(xG a).length=a.length:=GV
def rZ(l:List UInt8):(xG l).dropWhile (· == 0)=xG (l.dropWhile (· == 48)):=by
 induction l with
 |nil=>rfl
 |cons c t d =>
  have h2:=YO c 48;have b:((48:UInt8).toNat:Int)=48:=rfl;rw[b]at h2;have a:(((c.toNat:Int) - 48)==0)=(c==48):=zxf;rw[show xG (c::t)=((c.toNat:Int) - 48)::xG t from rfl];by_cases hc:(c==48)=true
  .rw[Vq (p:=λx:Int=>x==0) (a.trans hc),Vq (p:=λx:UInt8=>x==48) hc,d]
  .rw[fJ (p:=λx:Int=>x==0) (by rw[a];exact hc),fJ (p:=λx:UInt8=>x==48) hc];rfl
def K1(l:List UInt8):gq l=if l.dropWhile (· == 48)=[]then [48]else l.dropWhile (· == 48):=by
 unfold gq;by_cases h:l=[]
 .subst h;rfl
 .rw[yz h];induction l with
  |nil=>exact absurd rfl h
  |cons c t b =>
   by_cases hc:c=48
   .subst hc;rw[Vq zR];by_cases a:t=[]
    .subst a;rfl
    .rw[aB a rfl,b a]
   .rw[aC hc,fJ (by simpa using hc),yz zZ]
def rY(h:l.all yG=true):(gq l).all yG=true:=by
 rw[K1];split
 .decide
 .rw[zi]at h|-;exactλc hc=>h c ((dA _).subset hc)
def rX(l:List UInt8):(gq l).length<=l.length\/(gq l).length=1:=by
 rw[K1];split
 .exact .inr rfl
 .exact .inl (dA (· == 48) (l:=l)).length_le
def Kl(n:Nat):(xd n).all yG=true:=by
 induction n using Nat.strongRecOn with
 |_ n a =>
  have hd:∀d,d<10->yG (kH d)=true:=by
   intro d h;rw[xr];have:=Yh h;omega
  by_cases h:n<10
  .rw[qq h];simp[hd n h]
  .rw[fL h,uJ,a (n / 10) J];simp[hd (n % 10) J]
def Uo(n:Nat):xd n≠[]:=by
 by_cases h:n<10
 .rw[qq h];simp
 .rw[fL h];simp
def jM:∀(k n:Nat),n<10 ^ (k+1)->(xd n).length<=k+1
 | 0,n,h=>by rw[qq QY];simp
 |k+1,n,h=>by
  by_cases a:n<10
  .rw[qq a];simp
  .rw[fL a];have:=jM k (n / 10) (by rw[Zw]at h;omega);simp;omega
def kW(x:Dg)(w:z8)(e:xU)(w':z8):Prop:=(∃v,e = .returned v/\uh w' v x)/\zP w w'
def Ki{g:Nat}{b:Bool}{d:List UInt8}{x:Dg}(hx:x.1++x.2=d)(hn:n=d.length)(h:w'.ownsRow (w:Nat) 5 1 (.slice (g,0) n cap) n (vz d))(a:Ny x) :
  uh w' (.agg #[.bool b,.slice (g,0) n cap,.int .i64 x.2.length]) x:=by
 subst hn;have j:x.1.length+x.2.length=d.length:=by rw[<-hx];simp
 have hB:=j6 h rfl;rw[<-hx]at hB;have e:∃c,zu w' g 0 (.int .u8 c):=by
  obtain⟨q,k,hc⟩:=hB 0 (by rw[xN,zy];have:=yv.2 a.ne;omega);cases k;exact⟨_,hc⟩
 refine⟨b,g,0,cap,by rw[j],?_,?_,e,hB,a⟩;all_goals
  rcases h.2 with⟨hv,_⟩|⟨g2,f,i,hv,_,_,h1,h2,_⟩
  .cases hv
  .cases hv;omega
def ID(v:Nat)(w:z8)(hv:v<=1000000000):zC prog 147 #[v] w (kW (xd v,[]) w):=by
 refine(Yw v w hv).mono ?_;rintro e w' ⟨⟨g,cap,rfl,a⟩,hb⟩;have:=jM 9 v J;exact⟨⟨_,rfl,Ki (x:=(xd v,[])) (jJ _) rfl a ⟨Kl v,rfl,Uo v,by show(xd v).length<=100;omega,zZ⟩⟩,hb⟩
def Br(l:List UInt8)(a:Option yM)(cap:Nat)(w:z8)(hd:l.all yG=true)(T:l.length<=100)(s:l.length<=cap)(H:cap<=maxLen)(hB:yU w a (xG l)) :
  zC prog 202 #[.slice a l.length cap] w (kW (gq l,[]) w):=by
 have z:=xN l;have E:=N9 (xG l) a cap;rw[z]at E;have M:=Z E;have L:=Z hB;obtain⟨r,hr⟩:=zr (l.dropWhile (· == 48));have y:(xG l).dropWhile (· == 0)=xG r:=by rw[rZ,hr]
 have u:gq l=if r=[]then [48]else r:=by rw[K1,hr]
 have j:=rY hd;have Q:=rX l;have n:=Z u;have D:=Z y;have B:=Z j;clear E hB z hr y u j;go_enter func202,ntmps202;go_wp2_with fail;refine(M.o _ J s (by unfold maxLen at H;omega) ?_).mono ?_
 .exact L.o.alloc _
 rintro e w1 ⟨⟨a',q,rfl,h2,R,S⟩,rfl⟩;rw[D.o,xN]at *;obtain⟨W,G⟩:∃W,W=w.alloc (.cells #[.bool false,.slice none 0 0,.int .i64 0] 99):=⟨_,rfl⟩;have F:W.heap.size=(w:Nat)+1/\zP w W/\zu W (w:Nat) 0 (.bool false)/\zu W (w:Nat) 1 (.slice none 0 0)/\W.cell? (zU (w:Nat) 2)=some (.int .i64 0) /\
   W.frozen? (w,0)=false/\W.frozen? (w,1)=false/\W.frozen? (w,2)=false:=by
  subst G;exact⟨zZ,(zv _ _).alloc (Y _) _,uU,uU,uU,uU,by go_simp,by go_simp⟩
 obtain⟨f1,f2,f3,f4,f5,f6,f7,f8⟩:=F;rw[<-G]at h2|-;clear G;have f:(w:Nat)<(W:Nat):=J;by_cases i:r=[]
 .have hp:=n.o;rw[yV i]at hp;have A:=Z hp;clear hp;subst i;go_wp2_with fail;refine(Yw 0 _ J).mono ?_;rintro e w2 ⟨⟨g,h,rfl,t⟩,c⟩;have c0:=(c.cell (p:=(zU (w:Nat) 0)) f).trans f3;have c1:=(c.cell (p:=(zU (w:Nat) 1)) f).trans f4;have c2:=(c.cell (p:=(zU (w:Nat) 2)) f).trans f5;have z0:=(c.frozen (p:=(zU (w:Nat) 0)) f).trans f6;have z1:=(c.frozen (p:=(zU (w:Nat) 1)) f).trans f7;have z2:=(c.frozen (p:=(zU (w:Nat) 2)) f).trans f8;have N:=(t.lt g rfl).1;have m:zP w w2:=f2.trans (c.mono J);clear f3 f4 f5 f6 f7 f8 c f2;go_wp2;refine yK (v := .agg #[.bool false,.slice (zU g 0) (xd 0).length h,.int .i64 0]) ?_ rfl ?_
  .simp[yN,results202,go_sem,c0,c1,c2]
  have hn:some (w:Nat)≠(vL (g,0) (xd 0).length h).ownBlock:=λe=>by simp[yl]at e;omega
  rw[A.o];exact⟨⟨_,rfl,Ki (w:=w) (x:=([48],[])) (d:=xd 0) (by rw[qq zR];rfl) rfl (xp (xp (xp (bE t J) hn _) hn _) hn _) ⟨zR,rfl,zZ,zZ,zZ⟩⟩,((m.setCell (Y _) _).setCell (Y _) _).setCell (Y _) _⟩
 .have hp:=n.o;rw[yz i]at hp;have A:=Z hp;clear hp;have k:0<r.length:=yv.2 i;obtain⟨b,rfl,_⟩:=h2 0 (by rw[xN];exact k);have P:((r.length:Int)==0)=false:=by simp;omega
  have I:r.length<=100:=by rw[<-A.o];omega
  have K:=Z h2;have C:=Z i;clear h2 i;go_wp2_with fail;refine(ru r b q _ J K.o).mono ?_;rintro e w2 ⟨⟨v,rfl,t⟩,c⟩;obtain⟨g,h,rfl,N,O,_⟩:=xf t k;have c0:=(c.cell (p:=(w,0)) f).trans f3;have c1:=(c.cell (p:=(w,1)) f).trans f4;have c2:=(c.cell (p:=(w,2)) f).trans f5;have z0:=(c.frozen (p:=(w,0)) f).trans f6;have z1:=(c.frozen (p:=(w,1)) f).trans f7;have z2:=(c.frozen (p:=(w,2)) f).trans f8;have m:zP w w2:=f2.trans (c.mono J);clear f3 f4 f5 f6 f7 f8 c f2;go_wp2;refine yK (v := .agg #[.bool false,.slice (g,0) r.length h,.int .i64 0]) ?_ rfl ?_
  .simp[yN,results202,go_sem,c0,c1,c2]
  have hn:some (w:Nat)≠(vL (g,0) r.length h).ownBlock:=λe=>by simp[yl]at e;omega
  have j:=B.o;rw[A.o]at j|-;exact⟨⟨_,rfl,Ki (w:=w) (x:=(r,[])) (jJ _) rfl (xp (xp (xp (bE t J) hn _) hn _) hn _) ⟨j,rfl,C.o,I,zZ⟩⟩,((m.setCell (Y _) _).setCell (Y _) _).setCell (Y _) _⟩
def rV(h:l.all yG=true):∀x∈xG l,0<=x/\x<=9:=by
 intro x hx;simp only[xG,uQ]at hx;obtain⟨c,hc,rfl⟩:=hx;have:=(xr c).1 (zi.1 h c hc);omega
def yu4(l:List UInt8):(xG l).any (· != 0)=brk l:=by
 have:=zero_eq l;unfold brk;have h2:(l.all (· == 48)) = !(l.any (· != 48)):=by
  rw[List.all_eq_not_any_not];rfl
 rw[h2]at this;simpa using congrArg (λb => !b) this
def zcg(g o:Nat)(n cap sc:Nat)(b:Bool)(l:List Int)(w:z8)(h:l.length=n)(hs:sc<=n)(d:n<=cap)(hn:n<=1000000)(hB:yU w (some ⟨g,o,none⟩) l) :
  zC prog 71 #[.agg #[.bool b,.slice (g,o) n cap,sc]] w λe w'=>(∃c a,e = .returned (.slice c (n - sc) a)/\n - sc<=a/\a<=cap/\yU w' c (l.take (n - sc)))/\zP w w':=by
 obtain⟨k,f⟩:∃k,n=k+sc:=⟨n - sc,J⟩;subst f;rw[show k+sc - sc=k from J];have h0:(0:Int)<=((k+sc:Nat):Int) - (sc:Int):=J;have h1:((k+sc:Nat):Int) - (sc:Int)=(k:Int):=J;have h2:k<=cap:=J;go_enter func71,ntmps71;go_wp2;go_ret;exact⟨⟨_,_,rfl,J,J,(hB.alloc _).take k⟩,(zv _ _).alloc (Y _) _⟩
def rU(g o:Nat)(n cap sc:Nat)(b:Bool)(l:List Int)(w:z8)(q:l.length=n)(hs:sc<=n)(d:n<=cap)(hn:n<=1000000)(hB:yU w (some ⟨g,o,none⟩) l) :
  zC prog 73 #[.agg #[.bool b,.slice (g,o) n cap,sc]] w λe w'=>(∃c a,e = .returned (.slice (some c) sc a)/\sc<=a/\a<=cap/\yU w' (some c) (l.drop (n - sc)))/\zP w w':=by
 obtain⟨k,p⟩:∃k,n=k+sc:=⟨n - sc,J⟩;subst p;rw[show k+sc - sc=k from J];have h1:((k+sc:Nat):Int) - (sc:Int)=(k:Int):=J;have h2:k<=cap:=J;go_enter func73,ntmps73;by_cases i:cap=k
 .have f:l.drop k=[]:=yI J;have h:=Z f;clear f;go_wp2;go_ret;refine⟨⟨_,_,rfl,J,J,?_⟩,(zv _ _).alloc (Y _) _⟩;rw[h.o];intro j m;simp at m
 .go_wp2;go_ret;exact⟨⟨_,_,rfl,J,J,(hB.alloc _).drop k⟩,(zv _ _).alloc (Y _) _⟩
def Ga(v:Value)(x:Dg)(w:z8)(h:uh w v x) :
  zC prog 73 #[v] w λe w'=>(∃c a,e = .returned (.slice (some c) x.2.length a)/\x.2.length<=a/\a<=maxLen/\yU w' (some c) (xG x.2))/\zP w w':=by
 obtain⟨b,g,go,cap,rfl,h2,m,n,i,f⟩:=h;have j:=f.Bp;have k:=f.D1;refine(rU g go (x.1.length+x.2.length) cap x.2.length b (xG (x.1++x.2)) w (by rw[xN];simp) J h2 J i).mono ?_;rintro e w' ⟨⟨c,a,rfl,d,l,hB⟩,hb⟩;refine⟨⟨c,a,rfl,d,J,?_⟩,hb⟩;have:(xG (x.1++x.2)).drop (x.1.length+x.2.length - x.2.length)=xG x.2:=by
  rw[Z1,FG,List.drop_append_of_le_length (by rw[xN];exact Y _),yI (by rw[xN];exact Y _),xK]
 rw[this]at hB;exact hB
def Bs(v:Value)(x:Dg)(w:z8)(h:uh w v x) :
  zC prog 73 #[v] w λe w'=>(∃d b,e = .returned (.slice d x.2.length b)/\x.2.length<=b/\b<=maxLen/\yU w' d (xG x.2))/\zP w w' :=
 (Ga v x w h).mono λ_ _ ⟨⟨a,c,h1,h2,f,g⟩,hb⟩=>⟨⟨some a,c,h1,h2,f,g⟩,hb⟩
def Nx(v:Value)(x:Dg)(w:z8)(h:uh w v x) :
  zC prog 71 #[v] w λe w'=>(∃c a,e = .returned (.slice c x.1.length a)/\x.1.length<=a/\a<=maxLen/\yU w' c (xG x.1))/\zP w w':=by
 obtain⟨b,g,go,cap,rfl,h2,m,n,i,f⟩:=h;have j:=f.Bp;have k:=f.D1;refine(zcg g go (x.1.length+x.2.length) cap x.2.length b (xG (x.1++x.2)) w (by rw[xN];simp) J h2 J i).mono ?_;rintro e w' ⟨⟨c,a,rfl,d,l,hB⟩,hb⟩;rw[Z1]at hB d|-;refine⟨⟨c,a,rfl,d,J,?_⟩,hb⟩;have:(xG (x.1++x.2)).take x.1.length=xG x.1:=by
  rw[FG,List.take_append_of_le_length (by rw[xN];exact Y _),yr (by rw[xN];exact Y _)]
 rw[this]at hB;exact hB
def Bt(v:Value)(x:Dg)(w:z8)(h:uh w v x) :
  zC prog 194 #[v] w λe w'=>e = .returned (.bool (brk x.2))/\zP w w':=by
 have hb:=yu4 x.2;have p:=h.ok.D1;have hF:=λW (n:uh W v x)=>Bs v x W n
 have l:=Z hF;have m:=Z h;have j:=Z hb;obtain⟨b,g,go,cap,rfl,_,_,_,_,_⟩:=h;clear hF hb;go_enter func194,ntmps194;go_wp2_with fail;refine(l.o _ (m.o.below ((zv _ _).alloc (Y _) _))).mono ?_;rintro e w1 ⟨⟨d,a,rfl,_,_,hB⟩,c⟩;have i:zP w w1:=((zv _ _).alloc (Y _) _).trans (c.mono zZ);have f:=Uf (xG x.2) d a w1 (by rw[xN];omega) hB;rw[xN,j.o]at f;have k:=Z f;clear f hB c;go_wp2_with fail;refine k.o.mono ?_;rintro e w2 ⟨rfl,rfl⟩;go_wp2;go_ret;exact⟨rfl,i⟩
def yu5(v:Value)(x:Dg)(w:z8)(h:uh w v x):zC prog 200 #[v] w (kW x w):=by
 have f:=Z h;obtain⟨b,g,go,cap,rfl,h2,a,c,d,e⟩:=h;go_enter func200,ntmps200;go_wp2;refine yK (v := .agg #[.bool false,.slice (g,go) (x.1.length+x.2.length) cap,.int .i64 x.2.length]) ?_ rfl ?_
 .simp[yN,results200,go_sem]
 have hb:yD w w ((w.alloc (.cells #[.bool false,.slice (g,go) (x.1.length+x.2.length) cap,.int .i64 x.2.length] 99)).alloc (.cells #[.bool false,.slice (g,go) (x.1.length+x.2.length) cap,.int .i64 x.2.length] 99)):=((zv _ _).alloc (Y _) _).alloc zZ _;exact⟨⟨_,rfl,false,g,go,cap,rfl,h2,a,c.imp λ_ hc=>(hb.cell (X w _ hc)).trans hc,d.below hb,e⟩,hb⟩
variable{k:Nat}{x:Wd}
def IB(l:Wd)(c:UInt8):yg (l++[c])=10*yg l+(c.toNat - 48):=by simp[yg]
def RD(l:Wd):∀v,l.foldl (λv c=>10*v+(c.toNat - 48)) v=v*10 ^ l.length+yg l:=by
 induction l with
 |nil=>intro v;simp[yg]
 |cons c t a =>
  intro v;unfold yg;rw[vB,vB,a,a,zY,Zw];simp only[ew,uE,ki];rw[dY 10 v,LY,dY 10 (10 ^ t.length),kh]
def qD(c:UInt8)(l:Wd):yg (c::l)=(c.toNat - 48)*10 ^ l.length+yg l:=by
 rw[yg,vB,RD];simp
def zcf(a b:Wd):yg (a++b)=yg a*10 ^ b.length+yg b:=by rw[yg,TX,RD];rfl
def JX(k:Nat)(l:Wd):yg (zX k 48++l)=yg l:=by
 induction k with
 |zero=>simp
 |succ k a =>
  rw[qW,xX,qD,a];simp
def UZ(k:Nat):yg (zX k 48)=0:=by
 have:=JX k [];rw[jJ]at this;rw[this];rfl
def RB(l:Wd)(k:Nat):yg (l++zX k 48)=yg l*10 ^ k:=by rw[zcf,UZ];simp
def jq{c:UInt8}(h:yG c=true):48<=c.toNat/\c.toNat<=57:=by have:=(xr c).1 h;omega
def JV:∀(l:Wd),l.all yG=true->yg l<10 ^ l.length
 |[],_=>by simp[yg]
 |c::l,h=>by
  rw[vh,zx]at h;have h1:=JV l h.2;have h2:=jq h.1;rw[qD,zY,Zw];have a:(c.toNat - 48)*10 ^ l.length<=9*10 ^ l.length:=qp _ J;omega
def IC{c:UInt8}(h:yG c=true):kH (c.toNat - 48)=c:=by
 have h2:=jq h;unfold kH;apply Y6;exact Dn
def RE{c:UInt8}{l:Wd}(hc:yG c=true)(h:c≠48):10 ^ l.length<=yg (c::l):=by
 have h2:=jq hc;have a:c.toNat≠48:=λe=>h (Y6 e)
 rw[qD];have:1*10 ^ l.length<=(c.toNat - 48)*10 ^ l.length:=qp _ J;omega
def Nv:∀(n:Nat) (l:Wd),l.length=n->l.all yG=true->(l.headD 48≠48\/l.length=1)->xd (yg l)=l
 | 0,l,h,_,h2=>by
  have:l=[]:=zN h;subst this;simp at h2
 |n+1,l,h,hd,h2=>by
  rcases List.eq_nil_or_concat l with rfl|⟨l',c,rfl⟩
  .simp at h
  .rw[List.concat_eq_append]at *;rw[uJ,zx]at hd;have hc:yG c=true:=(by simpa using hd.2);have d:=jq hc;rw[IB];cases l' with
   |nil =>
    rw[show yg []=0 from rfl,ew,uE,qq J,IC hc];rfl
   |cons a t =>
    have ha:a≠48:=by
     rcases h2 with h2|h2
     .simpa using h2
     .simp at h2
    have b:yG a=true:=by
     have:=hd.1;rw[vh,zx]at this;exact this.1
    have e:=RE (l:=t) b ha;have f:1<=10 ^ t.length:=xu2 _ _ J;rw[fL J,show(10*yg (a::t)+(c.toNat - 48)) / 10=yg (a::t)by omega,show(10*yg (a::t)+(c.toNat - 48)) % 10=c.toNat - 48 by omega,IC hc,
     Nv n (a::t) (by simp at h|-;omega) hd.1 (.inl (by simpa using ha))]
def lW(n:Nat):yg (xd n)=n:=by
 induction n using Nat.strongRecOn with
 |_ n a =>
  have hd:∀d,d<10->(kH d).toNat - 48=d:=by
   intro d h;unfold kH;exact Dn
  by_cases h:n<10
  .rw[qq h,qD];simp[hd n h,yg]
  .rw[fL h,IB,a (n / 10) J,hd _ J];omega
def lr:∀(l:Wd),l.all yG=true->l≠[]->dL l.length (xd (yg l))=l
 |[],_,h=>absurd rfl h
 |c::t,hd,_=>by
  by_cases hc:c=48
  .subst hc;have a:t.all yG=true:=by
    rw[vh,zx]at hd;exact hd.2
   have e:yg (48::t)=yg t:=(by rw[qD];simp);rw[e];by_cases d:t=[]
   .subst d;rw[show yg []=0 from rfl,qq J];rfl
   .have b:=lr t a d;have f:(xd (yg t)).length<=t.length:=by
     have:=congrArg xD b;rw[dL,zy,kl]at this;omega
    unfold dL at b|-;rw[zY,show t.length+1 - (xd (yg t)).length=(t.length - (xd (yg t)).length)+1 by omega,qW,xX,b]
  .rw[Nv _ (c::t) rfl hd (.inl (by simpa using hc))];simp[dL]
def lh{d:Wd}(hd:d.all yG=true)(a:d≠[])(b:k<=d.length)(h:d.length=k\/d.headD 48≠48):dL k (xd (yg d))=d:=by
 rcases h with h|h
 .rw[<-h];exact lr d hd a
 .rw[Nv _ d rfl hd (.inl h),dL,Nat.sub_eq_zero_of_le b];rfl
def DK(k:Nat)(l:Wd):(dL k l).length=max k l.length:=by rw[dL,zy,kl];omega
def mz{l:Wd}(h:l.all yG=true):(dL k l).all yG=true:=by
 rw[dL,uJ,h,zzx,zi];intro c hc;rw[kC hc];rfl
def Bh:∀{l:Wd},l.all yG=true->((l.all (· == 48))=true ↔ yg l=0)
 |[],_=>by simp[yg]
 |c::t,h=>by
  rw[vh,zx]at h;have h1:=Bh h.2;rw[vh,zx,beq_iff_eq,h1];by_cases hc:c=48
  .subst hc;rw[qD];simp
  .have:=RE (l:=t) h.1 hc;have a:1<=10 ^ t.length:=xu2 _ _ J;simp only[hc,false_and,false_iff];omega
def RH:∀(x y:Wd),x.length=y.length->x.all yG=true->y.all yG=true->(bB x y=true ↔ yg x<yg y)
 |[],[],_,_,_=>by simp[bB]
 |[],_::_,h,_,_=>Va
 |_::_,[],h,_,_=>Va
 |a::x,b::y,h,hx,hy=>by
  rw[vh,zx]at hx hy;have f:x.length=y.length:=QY;have i:=RH x y f hx.2 hy.2;have h1:=JV x hx.2;have h2:=JV y hy.2;have ha:=jq hx.1;have hb:=jq hy.1;rw[f]at h1;rw[bB,vR,vJ,zx,beq_iff_eq,i,TW,qD,qD,f];by_cases g:a.toNat<b.toNat
  .have c:(a.toNat - 48+1)*10 ^ y.length<=(b.toNat - 48)*10 ^ y.length:=qp _ J;rw[ki,vq3]at c;simp only[g,true_or,true_iff];omega
  .by_cases d:a=b
   .subst d;simp
   .have j:b.toNat<a.toNat:=by
     have:a.toNat≠b.toNat:=λe=>d (Y6 e)
     omega
    have c:(b.toNat - 48+1)*10 ^ y.length<=(a.toNat - 48)*10 ^ y.length:=qp _ J;rw[ki,vq3]at c;simp only[g,d,false_or,false_and,false_iff];omega
def zcd{y:Wd}(h:x.length=y.length)(hx:x.all yG=true)(hy:y.all yG=true):(if bB x y=true then (-1:Int)else if x=y then 0 else 1)<0 ↔ yg x<yg y:=by
 rw[<-RH x y h hx hy];split
 .next h1=>simp[h1]
 .next h1 =>
  simp only[h1];split<;>simp
def aS{a:Option yM}{l:List Int}(h:yU w a l)(k:Nat):yU w a (l.take k):=λj hj=>by
 obtain⟨b,h1,h2⟩:=h j Gv;exact⟨b,h1,Bq⟩
def aW(a:k<l.length)(h:l[k]=48):uP (l.take (k+1))=uP (l.take k):=by
 rw[yj a,h,short_zero]
def aA(a:k<l.length)(h:¬l[k]=48):uP (l.take (k+1))=l.take (k+1):=by
 rw[yj a,aE _ _ h]
def Nu(c:UInt8):(((c.toNat:Int) - 48)==0)=(c==48):=by
 have h2:=YO c 48;have a:((48:UInt8).toNat:Int)=48:=rfl;rw[a]at h2;exact zxf
def IE(v:Value)(x:Dg)(w:z8)(h:uh w v x) :
  zC prog 205 #[v] w λe w'=>(∃ad cap,e = .returned (.slice ad (uP x.2).length cap)/\yU w' ad (xG (uP x.2))/\(uP x.2).length<=cap/\cap<=maxLen)/\zP w w':=by
 have L:=h.ok.D1;have hF:=λW (I:uh W v x)=>Bs v x W I
 have F:=Z hF;have G:=Z h;obtain⟨b,g,go,cap,rfl,_,_,_,_,_⟩:=h;clear hF;go_enter func205,ntmps205;go_wp2_with fail;refine(F.o _ (G.o.below ((zv _ _).alloc (Y _) _))).mono ?_;rintro e w1 ⟨⟨r,i,rfl,y,D,hB⟩,s⟩;have t:zP w w1:=((zv _ _).alloc (Y _) _).trans (s.mono zZ);have B:=Z hB;have K:i<=9223372036854775807:=by unfold maxLen at D;omega
 clear s hB;obtain⟨f,hf⟩:∃f,f=x.2:=⟨_,rfl⟩;rw[<-hf]at L y B|-;have q:=Z hf;clear hf;go_wp2_with fail;go_loop [3] (λu=>∃k a:Nat,k<=f.length/\u = .slice r k a/\k<=a/\a<=i/\uP (f.take k)=uP f) (λu=>match u with |.slice _ n _=>n|_=>0)
 case atStart=>exact⟨f.length,i,Y _,rfl,y,Y _,by rw[fE]⟩
 case round =>
  obtain⟨k,a,O,rfl,h1,h2,hs⟩:=hrel;have C:=Z hs;clear hs;by_cases h0:k=0
  .subst h0;have l:uP f=[]:=(by rw[<-C.o];rfl);have H:=Z l;clear l;go_wp2;go_ret;rw[<-q.o,H.o];exact⟨⟨r,a,rfl,Yg _ _,zQ _,J⟩,t⟩
  .obtain⟨m,rfl⟩:∃m,k=m+1:=⟨k - 1,J⟩;have hm:m<f.length:=(by omega);obtain⟨p,rfl,hc⟩:=B.o m (by rw[xN];exact hm);have A:(xG f)[m]'(by rw[xN];exact hm)=(f[m].toNat:Int) - 48:=GV;rw[A]at hc;have l:=Nu f[m];have M:((m+1:Nat):Int) - 1=(m:Int):=J;have N:(0:Int)<=((m+1:Nat):Int) - 1:=J;clear A;by_cases d:f[m]=48
   .have E:(((f[m].toNat:Int) - 48)==0)=true:=(by rw[l,d];rfl);have c:=aW hm d;rw[C.o]at c;have j:=Z c;clear c l d;go_wp2;exact⟨⟨m,a,J,rfl,J,h2,j.o.symm⟩,dQ _⟩
   .have E:(((f[m].toNat:Int) - 48)==0)=false:=(by rw[l];simpa using d);have c:=aA hm d;rw[C.o]at c;have j:=Z c;clear c l d;go_wp2;go_ret;have z:(uP f).length=m+1:=(by rw[j.o];simp;omega);rw[<-q.o,z];refine⟨⟨some p,a,rfl,?_,h1,J⟩,t⟩;rw[j.o,show xG (f.take (m+1))=(xG f).take (m+1)by simp[xG]];exact aS B.o _
def rQ(h:l.all yG=true):(uP l).all yG=true:=by
 unfold uP;rw[zi]at h|-;intro c hc;exact h c (Zj.1 ((dA _).subset (Zj.1 hc)))
def IH(l:List UInt8):(uP l).length<=l.length:=by
 unfold uP;have:=(dA (· == 48) (l:=l.reverse)).length_le;simpa using this
variable{q:Nat}{W W':z8}
structure bM(W:z8)(q:Nat):Prop where
 c0:zu W q 0 (.bool false)
 c1:zu W q 1 (.slice none 0 0)
 c2:zu W q 2 (.int .i64 0)
 z0:W.frozen? (q,0)=false
 z1:W.frozen? (q,1)=false
 z2:W.frozen? (q,2)=false
 lt:q<(W:Nat)
def bM.below(h:bM W q)(hb:zP W W'):bM W' q :=
 ⟨(hb.cell h.lt).trans h.c0,(hb.cell h.lt).trans h.c1,(hb.cell h.lt).trans h.c2,(hb.frozen h.lt).trans h.z0,(hb.frozen h.lt).trans h.z1,(hb.frozen h.lt).trans h.z2,zD h.lt hb.size⟩
def bd(w:z8)(o:Obj):yD w w ((w.alloc o).alloc (.cells #[.bool false,.slice none 0 0,.int .i64 0] 99))/\bM ((w.alloc o).alloc (.cells #[.bool false,.slice none 0 0,.int .i64 0] 99)) ((w:Nat)+1):=by
 have hs:(w.alloc o).heap.size=(w:Nat)+1:=zZ;refine⟨((zv _ _).alloc (Y _) _).alloc J _,?_⟩;rw[<-hs];exact yn7
def uh.set{x:Dg}{b:Bool}(h:uh w v x)(l:zu w q 0 (.bool b))(j:Nat)(u:Value):uh (w.setCell (q,j) u) v x:=by
 obtain⟨e,g,go,cap,h1,h2,f,d,i,k⟩:=h;have a:g≠q:=by
  rintro rfl;obtain⟨c,hc⟩:=d;rw[l]at hc;cases hc
 exact⟨e,g,go,cap,h1,h2,f,d.imp λ_ hc=>by rw[yC (h:=by simp[a,Ne.symm a])];exact hc,i.set (λb hb=>by cases hb;exact a) u,k⟩
def Gd{x:Dg}{b:Bool}{s k:Value}(h:uh W (.agg #[.bool b,s,k]) x)(hr:bM W q)(a:(w:Nat)<=q)(hb:zP w W) :
  kW x w (.returned (.agg #[.bool b,s,k])) (((W.setCell (q,0) (.bool b)).setCell (q,1) s).setCell (q,2) k):=by
 have c:zu (W.setCell (zU q 0) (.bool b)) q 0 (.bool b):=by rw[uX (h:=hr.c0)]
 have d:zu ((W.setCell (zU q 0) (.bool b)).setCell (zU q 1) s) q 0 (.bool b):=by rw[yC (h:=zZ)];exact c
 exact⟨⟨_,rfl,((h.set hr.c0 0 _).set c 1 _).set d 2 _⟩,((hb.setCell a _).setCell a _).setCell a _⟩
def uh.form{x:Dg}(h:uh w v x):∃b g go cap n k,v = .agg #[.bool b,.slice (some ⟨g,go,none⟩) n cap,.int .i64 k]:=by
 obtain⟨b,g,go,cap,h1,_⟩:=h;exact⟨b,g,go,cap,_,_,h1⟩
def vay(v:Value)(x:Dg)(w:z8)(h:uh w v x):zC prog 203 #[v] w (kW (xd x.2.length,[]) w):=by
 have a:=h.ok;have k:=a.Bp;have l:=a.D1;have m:=Z h;have n:=Z a;obtain⟨b,g,go,cap,rfl,_,_,_,_,_⟩:=h;clear a;obtain⟨Qi,i⟩:=bd w (.cells #[.bool b,.slice (g,go) (x.1.length+x.2.length) cap,.int .i64 x.2.length] 99);go_enter func203,ntmps203;go_wp2_with fail;generalize (w.alloc (.cells #[.bool b,.slice (g,go) (x.1.length+x.2.length) cap,.int .i64 x.2.length] 99)).alloc (.cells #[.bool false,.slice none 0 0,.int .i64 0] 99)=W at Qi i|-;refine(ID x.2.length _ J).mono ?_;rintro e w2 ⟨⟨v2,rfl,c⟩,f⟩;have hr:=i.below f;have OB:zP w w2:=Qi.trans (f.mono Bu);have c0:=hr.c0;have c1:=hr.c1;have c2:=hr.c2;have z0:=hr.z0;have z1:=hr.z1;have z2:=hr.z2;have HNV:=Z c;obtain⟨b2,g2,j,d,n2,k2,rfl⟩:=c.form;clear c;go_wp2;refine yK (v := .agg #[.bool b2,.slice (g2,j) n2 d,k2]) ?_ rfl ?_
 .simp[yN,results203,go_sem,c0,c1,c2]
 exact Bx
def vax(v:Value)(x:Dg)(w:z8)(h:uh w v x):zC prog 201 #[v] w (kW (gq x.1,[]) w):=by
 have a:=h.ok;have u:=a.Bp;have y:=a.D1;have s:=Z h;have t:=Z a;obtain⟨b,g,go,cap,rfl,_,_,_,_,_⟩:=h;clear a;obtain⟨Qi,k⟩:=bd w (.cells #[.bool b,.slice (g,go) (x.1.length+x.2.length) cap,.int .i64 x.2.length] 99);go_enter func201,ntmps201;go_wp2_with fail;generalize (w.alloc (.cells #[.bool b,.slice (g,go) (x.1.length+x.2.length) cap,.int .i64 x.2.length] 99)).alloc (.cells #[.bool false,.slice none 0 0,.int .i64 0] 99)=W at Qi k|-;refine(Nx _ x _ (s.o.below Qi)).mono ?_;rintro e w1 ⟨⟨l,d,rfl,n,p,hB⟩,i⟩;have q:=k.below i;have XE:zP w w1:=Qi.trans (i.mono Bu);have r:=Z hB;clear hB;go_wp2_with fail;refine(Br x.1 l d _ t.o.zcj J n p r.o).mono ?_;rintro e w2 ⟨⟨v2,rfl,c⟩,j⟩;have hr:=q.below j;have OB:zP w w2:=XE.trans (j.mono MF);have c0:=hr.c0;have c1:=hr.c1;have c2:=hr.c2;have z0:=hr.z0;have z1:=hr.z1;have z2:=hr.z2;have HNV:=Z c;obtain⟨b2,g2,m,f,n2,k2,rfl⟩:=c.form;clear c;go_wp2;refine yK (v := .agg #[.bool b2,.slice (g2,m) n2 f,k2]) ?_ rfl ?_
 .simp[yN,results201,go_sem,c0,c1,c2]
 exact Bx
def vav(v:Value)(x:Dg)(w:z8)(h:uh w v x):zC prog 204 #[v] w (kW (xd (uP x.2).length,[]) w):=by
 have a:=h.ok;have s:=a.Bp;have t:=a.D1;have n:=Z h;have y:=Z a;have u:=IH x.2;obtain⟨b,g,go,cap,rfl,_,_,_,_,_⟩:=h;clear a;obtain⟨Qi,j⟩:=bd w (.cells #[.bool b,.slice (g,go) (x.1.length+x.2.length) cap,.int .i64 x.2.length] 99);go_enter func204,ntmps204;go_wp2_with fail;generalize (w.alloc (.cells #[.bool b,.slice (g,go) (x.1.length+x.2.length) cap,.int .i64 x.2.length] 99)).alloc (.cells #[.bool false,.slice none 0 0,.int .i64 0] 99)=W at Qi j|-;refine(IE _ x _ (n.o.below Qi)).mono ?_;rintro e w1 ⟨⟨p,m,rfl,hB,q,r⟩,f⟩;have l:=j.below f;have XE:zP w w1:=Qi.trans (f.mono Bu);clear hB;go_wp2_with fail;refine(ID (uP x.2).length _ J).mono ?_;rintro e w2 ⟨⟨v2,rfl,c⟩,i⟩;have hr:=l.below i;have OB:zP w w2:=XE.trans (i.mono MF);have c0:=hr.c0;have c1:=hr.c1;have c2:=hr.c2;have z0:=hr.z0;have z1:=hr.z1;have z2:=hr.z2;have HNV:=Z c;obtain⟨b2,g2,k,d,n2,k2,rfl⟩:=c.form;clear c;go_wp2;refine yK (v := .agg #[.bool b2,.slice (g2,k) n2 d,k2]) ?_ rfl ?_
 .simp[yN,results204,go_sem,c0,c1,c2]
 exact Bx
def vau(v:Value)(x:Dg)(w:z8)(h:uh w v x):zC prog 206 #[v] w (kW (gq x.2,[]) w):=by
 have a:=h.ok;have u:=a.Bp;have y:=a.D1;have s:=Z h;have t:=Z a;obtain⟨b,g,go,cap,rfl,_,_,_,_,_⟩:=h;clear a;obtain⟨Qi,k⟩:=bd w (.cells #[.bool b,.slice (g,go) (x.1.length+x.2.length) cap,.int .i64 x.2.length] 99);go_enter func206,ntmps206;go_wp2_with fail;generalize (w.alloc (.cells #[.bool b,.slice (g,go) (x.1.length+x.2.length) cap,.int .i64 x.2.length] 99)).alloc (.cells #[.bool false,.slice none 0 0,.int .i64 0] 99)=W at Qi k|-;refine(Bs _ x _ (s.o.below Qi)).mono ?_;rintro e w1 ⟨⟨l,d,rfl,n,p,hB⟩,i⟩;have q:=k.below i;have XE:zP w w1:=Qi.trans (i.mono Bu);have r:=Z hB;clear hB;go_wp2_with fail;refine(Br x.2 l d _ t.o.zk4 J n p r.o).mono ?_;rintro e w2 ⟨⟨v2,rfl,c⟩,j⟩;have hr:=q.below j;have OB:zP w w2:=XE.trans (j.mono MF);have c0:=hr.c0;have c1:=hr.c1;have c2:=hr.c2;have z0:=hr.z0;have z1:=hr.z1;have z2:=hr.z2;have HNV:=Z c;obtain⟨b2,g2,m,f,n2,k2,rfl⟩:=c.form;clear c;go_wp2;refine yK (v := .agg #[.bool b2,.slice (g2,m) n2 f,k2]) ?_ rfl ?_
 .simp[yN,results206,go_sem,c0,c1,c2]
 exact Bx
def vaq(v:Value)(x:Dg)(w:z8)(h:uh w v x):zC prog 207 #[v] w (kW (gq (uP x.2),[]) w):=by
 have a:=h.ok;have u:=a.Bp;have y:=a.D1;have s:=Z h;have t:=Z a;have z:=IH x.2;obtain⟨b,g,go,cap,rfl,_,_,_,_,_⟩:=h;clear a;obtain⟨Qi,k⟩:=bd w (.cells #[.bool b,.slice (g,go) (x.1.length+x.2.length) cap,.int .i64 x.2.length] 99);go_enter func207,ntmps207;go_wp2_with fail;generalize (w.alloc (.cells #[.bool b,.slice (g,go) (x.1.length+x.2.length) cap,.int .i64 x.2.length] 99)).alloc (.cells #[.bool false,.slice none 0 0,.int .i64 0] 99)=W at Qi k|-;refine(IE _ x _ (s.o.below Qi)).mono ?_;rintro e w1 ⟨⟨l,d,rfl,hB,n,p⟩,i⟩;have q:=k.below i;have XE:zP w w1:=Qi.trans (i.mono Bu);have r:=Z hB;clear hB;go_wp2_with fail;refine(Br (uP x.2) l d _ (rQ t.o.zk4) J n p r.o).mono ?_;rintro e w2 ⟨⟨v2,rfl,c⟩,j⟩;have hr:=q.below j;have OB:zP w w2:=XE.trans (j.mono MF);have c0:=hr.c0;have c1:=hr.c1;have c2:=hr.c2;have z0:=hr.z0;have z1:=hr.z1;have z2:=hr.z2;have HNV:=Z c;obtain⟨b2,g2,m,f,n2,k2,rfl⟩:=c.form;clear c;go_wp2;refine yK (v := .agg #[.bool b2,.slice (g2,m) n2 f,k2]) ?_ rfl ?_
 .simp[yN,results207,go_sem,c0,c1,c2]
 exact Bx
def Nq(a b:List UInt8):Int:=if bB a b=true then -1 else if a=b then 0 else 1
def Bw{c:UInt8}(h:yG c=true):(((c.toNat:Int) - 48).toNat.toUInt8).toNat=c.toNat - 48:=by
 have h1:=(xr c).1 h;have h2:=c.toNat_lt;simp only[Nat.toUInt8,Ev];omega
def JU:∀(a b:List UInt8),a.length=b.length->a.all yG=true->b.all yG=true->yfv (Zg (xG a)) (Zg (xG b))=Nq a b
 |[],[],_,_,_=>rfl
 |c::a,d::b,h,ha,hb=>by
  simp only[vh,zx]at ha hb;have i:=JU a b (by simpa using h) ha.2 hb.2;have h1:=Bw ha.1;have h2:=Bw hb.1;have j:=(xr c).1 ha.1;have k:=(xr d).1 hb.1;have hx:Zg (xG (c::a))=((c.toNat:Int) - 48).toNat.toUInt8::Zg (xG a):=rfl;have hy:Zg (xG (d::b))=((d.toNat:Int) - 48).toNat.toUInt8::Zg (xG b):=rfl;rw[hx,hy,yfv,i];unfold Nq;rw[bB];simp only[TW,h1,h2];by_cases q1:c.toNat<d.toNat
  .rw[yV J,yV (by simp[q1])]
  .by_cases q2:d.toNat<c.toNat
   .have f:¬c=d:=λe=>by rw[e]at q2;omega
    rw[yz J,yV J,yz (by simp[q1,f]),yz (by simp[f])]
   .have g:c=d:=dW.1 J;subst g;rw[yz J,yz J];simp
def II(l:List UInt8)(n c:Nat)(a:yM)(w:z8)(hn:n=l.length)(h:yU w (some a) (xG l)):(Xf (.slice (some a) n c)).run prog w = .ok ⟨(Zg (xG l)).toArray⟩ w:=by
 subst hn;have:=Lib.run_loadBytesX (P:=prog) w (xG l) a .empty (λj x hx=>by
  have d:=(zF.1 hx).1;obtain⟨b,hb,hc⟩:=h j d;cases hb;rw[hc];have:=(zF.1 hx).2;rw[this])
 rw[xN]at this;show(vq4 a l.length .empty).run prog w=_;rw[this];congr 2;simp
def RI(c d:List UInt8)(n1 c1 n2 c2:Nat)(a b:yM)(w:z8)(f:n1=c.length)(g:n2=d.length)(h1:yU w (some a) (xG c))(h2:yU w (some b) (xG d))(h:c.length=d.length)(d1:c.all yG=true)(d2:d.all yG=true) :
  (callFunc 193 #[.slice (some a) n1 c1,.slice (some b) n2 c2]).run prog w = .ok (.value (.int .i64 (Nq c d))) w:=by
 rw[run_callFunc_extern func193 yq yq yq (e:=Xd) yq];have:(Xd #[.slice (some a) n1 c1,.slice (some b) n2 c2]).run prog w = .ok (.int .i64 (Nq c d)) w:=by
  change (Sem.run prog (do pure (goInt (wb (<-Xf (.slice (some a) n1 c1)) (<-Xf (.slice (some b) n2 c2))))) w)=_
  simp only[js,II c n1 c1 a w f h1,ym,II d n2 c2 b w g h2,Lib.cmp_eq,JU c d h d1 d2];rfl
 rw[this];rfl
def X0(c d:List UInt8)(n1 c1 n2 c2:Nat)(a b:yM)(w:z8)(f:n1=c.length)(g:n2=d.length)(h1:yU w (some a) (xG c))(h2:yU w (some b) (xG d))(h:c.length=d.length)(d1:c.all yG=true)(d2:d.all yG=true) :
  zC prog 149 #[.slice (some a) n1 c1,.slice (some b) n2 c2] w λe w'=>e = .returned (.int .i64 (Nq c d))/\w=w':=by
 have i:=RI c d n1 c1 n2 c2 a b w f g h1 h2 h d1 d2;clear f g h d1 d2 h1 h2;go_enter func149,ntmps149;go_wp2;go_ret;exact⟨rfl,rfl⟩
def rK{a b:List UInt8}(h:a.length=b.length):Nq a b=cmpL a b:=by
 unfold Nq cmpL;rw[h];simp
def JQ(b:Bool)(s k:Value)(w:z8):(vq5 99 (.agg #[.bool b,s,k]) 1).run prog w = .ok s w:=by
 kernel_rfl
def FD(v:Value)(x:Dg)(m:Nat)(w:z8)(h:uh w v x)(hm:m<=1000000000) :
  zC prog 152 #[v,m] w λe w'=>e = .returned (.int .i64 (GR x m))/\zP w w':=by
 have n:=h.ok;have p9:=n.Bp;have M:=Z h;have N:=Z n;have A:=λW (O:uh W v x)=>Bt v x W O
 have H:=Z A;have O:=jM 9 m J;obtain⟨b,g,go,cap,rfl,_,_,_,_,_⟩:=h;have hfd:=JQ;clear n A;go_enter func152,ntmps152;go_wp2_with fail;refine(Nx _ x _ (M.o.below ((zv _ _).alloc (Y _) _))).mono ?_;rintro e w1 ⟨⟨T,t,rfl,U,V,hB⟩,a⟩;have i:(w.alloc (.cells #[.bool b,.slice (g,go) (x.1.length+x.2.length) cap,.int .i64 x.2.length] 99)).heap.size=(w:Nat)+1:=zZ;have k0:zu w1 (w:Nat) 0 (.bool b):=(a.cell zZ).trans (zf _ _ _ _ _);have k1:zu w1 (w:Nat) 1 (.slice (zU g go) (x.1.length+x.2.length) cap):=(a.cell zZ).trans (zf _ _ _ _ _);have k2:zu w1 (w:Nat) 2 (.int .i64 x.2.length):=(a.cell zZ).trans (zf _ _ _ _ _);have y:zP w w1:=((zv _ _).alloc (Y _) _).trans (a.mono zZ);have s:(w:Nat)<(w1:Nat):=by have:=a.size;rw[i]at this;omega
 clear a i;obtain⟨p,rfl,_⟩:=hB 0 (by rw[xN];exact yv.2 N.o.ne);have R:=Z hB;clear hB;go_wp2_with fail;refine(Yw m _ hm).mono ?_;rintro e w2 ⟨⟨g2,u,rfl,P⟩,c⟩;have j0:=(c.cell (p:=(zU (w:Nat) 0)) s).trans k0;have j1:=(c.cell (p:=(zU (w:Nat) 1)) s).trans k1;have j2:=(c.cell (p:=(zU (w:Nat) 2)) s).trans k2;have zjg:zP w w2:=y.trans (c.mono J);have D:=Z (R.o.below c);have E:=Z (j6 P rfl);have I:=Z (M.o.below zjg);clear P c k0 k1 k2 y;have uR:=Uo m;by_cases h1:x.1.length<(xd m).length
 .have hc:cmpL x.1 (xd m) = -1:=by
   unfold cmpL;rw[yV (.inl h1)]
  have hf:GR x m = -1:=by
   unfold GR;rw[hc];rfl
  have HF:=Z hf;have g1:((x.1.length:Int) - ((xd m).length:Int)==0)=false:=yJ;have K:decide ((x.1.length:Int) - ((xd m).length:Int)<0)=true:=yJ;exact zjj
 .by_cases h2:(xd m).length<x.1.length
  .have hc:cmpL x.1 (xd m)=1:=by
    unfold cmpL;rw[yz (λq=>q.elim h1 (λq=>J)),yz (λe=>by rw[e]at h2;omega)]
   have hf:GR x m=1:=by
    unfold GR;rw[hc];simp
   have HF:=Z hf;have g1:((x.1.length:Int) - ((xd m).length:Int)==0)=false:=yJ;have K:decide ((x.1.length:Int) - ((xd m).length:Int)<0)=false:=yJ;have g3:decide (0<(x.1.length:Int) - ((xd m).length:Int))=true:=yJ;exact zjj
  .have he:x.1.length=(xd m).length:=(by omega);have g1:((x.1.length:Int) - ((xd m).length:Int)==0)=true:=yJ;have B:=rK he;have z:=X0 x.1 (xd m) x.1.length t (xd m).length u p ⟨g2,0,none⟩ w2 rfl rfl D.o E.o he N.o.zcj (Kl m);have F:=Z z;obtain⟨r,hr⟩:=zr (Nq x.1 (xd m));have l:cmpL x.1 (xd m)=r:=(by rw[<-B,hr]);have C:=r8 x.1 (xd m);rw[l]at C;have j:GR x m=if r<0 then -1 else if 0<r\/brk x.2=true then 1 else 0:=by unfold GR;rw[l]
   have d:=Z j;have S:=Z hr;clear z hr l B j he h1 h2;go_wp2_with fail;refine F.o.mono ?_;rw[S.o];rintro e w3 ⟨rfl,rfl⟩;rcases C with rfl|rfl|rfl
   .have hf:=d.o;rw[yV zR]at hf;exact zfy
   .have hf:=d.o;rw[yz zR]at hf;have k:=H.o w2 I.o;obtain⟨q,Q⟩:=zr (brk x.2);rw[Q]at hf k;have HF:=Z hf;have G:=Z k;clear hf k Q;go_wp2_with fail;refine G.o.mono ?_;rintro e w4 ⟨rfl,L⟩;have f:zP w w4:=zjg.trans (L.mono zjg.size);cases q
    .go_wp2;go_ret;exact⟨gK,f⟩
    .go_wp2;go_ret;exact⟨gK,f⟩
   .have hf:=d.o;rw[yz zR,yV (.inl zR)]at hf;exact zfy
def UY(k:Nat):vz (zX k 48)=zX k (.int .u8 0):=BZ
def C0(a b:Wd):vz (a++b)=vz a++vz b:=BZ
def C1(k:Nat):(FO #[yb .u8 0] k).toList=zX k (.int .u8 0):=by
 apply DI
 .simp[FO]
 .intro j h1 h2;simp[FO];rw[wg];rfl
def zcb(l:Wd)(a:yM)(c k:Nat)(w:z8)(C:l.length<=300)(G:k<=300)(hB:yU w (some a) (xG l)) :
  zC prog 148 #[.slice (some a) l.length c,((l.length+k:Nat):Int)] w λe w'=>(∃v,e = .returned v/\w'.ownsRow (w:Nat) 5 1 v (l.length+k) (vz (dL (l.length+k) l)))/\zP w w':=by
 obtain⟨i,hi,D,h2,h3⟩:=xC.info;obtain⟨n,hn⟩:=zr l.length;rw[hn]at C|-;have t:=Z hn;have x:((n+k:Nat):Int) - (n:Int)=(k:Int):=J;have hmx:max (0:Int) (k:Int)=(k:Int):=J;have y:=Z hB;clear hn hB;go_enter func148,ntmps148;go_wp2_with (refine OX _ rfl _ _ _ rfl (w:Nat) _ i _ 1 xC.under hi D h2 .i64 .i64 _ _ k rfl rfl J J GX dO Yc ?_);intro w1 d p;rw[C1]at d;have h:zP w w1:=(zv _ _).grown p (Y _) zZ;have r:=Z (y.o.below h);have m:=Z d;have A:=Z h;have B:=h.size;clear d p h;go_wp2_with (at_builtin;refine j9 xC rfl _ _ rfl (w:Nat) _ k _ rfl m.o a n c (vz l) rfl (by simp[vz,t.o]) ?d2 ?d3 J (by exact B) ?_)
 case d2 =>
  intro j u hu;have hj:j<(xG l).length:=Wy;obtain⟨b,hb,hc⟩:=r.o j hj;cases hb;rw[hc];exact Tn
 case d3 =>
  exact Tt
 intro v' w2 g f;have s:zP w w2:=A.o.grown f J (λq hq=>AZ);have z:=Z (show w2.ownsRow (w:Nat) 5 1 v' (n+k) (vz (dL (n+k) l)) by
  rw[dL,t.o,D9,C0,UY,Nat.add_comm n k];exact g)
 obtain⟨E,F,rfl⟩:=zn g;clear g f;go_wp2;go_ret;exact⟨⟨_,rfl,z.o⟩,s⟩
variable{c d m:Nat}
def yu6(n r:Nat)(w:z8)(e:xU)(w':z8):Prop:=(∃v d,e = .returned v/\w'.ownsRow (w:Nat) 5 1 v n (vz d)/\d.length=n/\d.all yG=true/\yg d=r)/\zP w w'
def JK{a:yM}{l:Wd}(h:yU w (some a) (xG l))(hm:m<l.length):w.cell? (a.add m)=some (.int .u8 ((l[m].toNat:Int) - 48)):=by
 obtain⟨b,hb,hc⟩:=h m (by rw[xN];exact hm);cases hb;rw[hc];simp[xG]
def Xa{base g:Nat}{d:Wd}(h:w.ownsRow base 5 1 (.slice (g,0) n cap) n (vz d))(hm:m<d.length)(hn:d.length=n):zu w g m (.int .u8 ((d[m].toNat:Int) - 48)):=by
 rw[h.cellAt m J];simp[vz,hm]
def Bv(d:Wd)(m x:Nat)(hx:x<10):(vz d).set m (.int .u8 (x:Int))=vz (d.set m (kH x)):=by
 rw[vz,vz,List.map_set,Yh hx]
def UX(h:d<10):yG (kH d)=true:=by rw[xr];have:=Yh h;omega
def Nk{d:Wd}(h:d.all yG=true)(m:Nat){c:UInt8}(hc:yG c=true):(d.set m c).all yG=true:=by
 rw[zi]at h|-;intro x hx;rcases List.mem_or_eq_of_mem_set hx with q|rfl
 .exact h x q
 .exact hc
def UU{l:Wd}(hm:m<l.length):yg (l.drop m)=(l[m].toNat - 48)*10 ^ (l.length - m - 1)+yg (l.drop (m+1)):=by
 rw[yY hm,qD,yh];congr 3
def Gc{x:Nat}(h:x<10):(kH x).toNat - 48=x:=by have:=Yh h;omega
def my(a b:Wd)(n k:Nat)(o:Wd):Prop:=k<=n/\o.length=n+1/\o.all yG=true/\yg (o.drop k)=yg (a.drop k)+yg (b.drop k)
def rJ{a b o:Wd}(ha:a.length=n)(hb:b.length=n)(da:a.all yG=true)(db:b.all yG=true)(h:my a b n (m+1) o)(h1:m<a.length)(h2:m<b.length)(c:m+1<o.length) :
  my a b n m ((o.set (m+1) (kH (((a[m].toNat - 48)+(b[m].toNat - 48)+(o[m+1].toNat - 48)) % 10))).set m (kH (((a[m].toNat - 48)+(b[m].toNat - 48)+(o[m+1].toNat - 48)) / 10))):=by
 obtain⟨k1,k2,k3,k4⟩:=h;have q:=jq (zi.1 da _ (yf h1));have r:=jq (zi.1 db _ (yf h2));have s:=jq (zi.1 k3 _ (yf c));obtain⟨v,hv⟩:=zr ((a[m].toNat - 48)+(b[m].toNat - 48)+(o[m+1].toNat - 48));have v1:v % 10<10:=xu1 _ J;have v2:v / 10<10:=J;refine⟨J,by simp[k2],Nk (Nk k3 _ (UX (by rw[hv];exact v1))) _ (UX (by rw[hv];exact v2)),?_⟩;rw[hv];have e:((o.set (m+1) (kH (v % 10))).set m (kH (v / 10))).drop m=kH (v / 10)::kH (v % 10)::o.drop (m+2):=by
  rw[yY yJ,yY yJ];simp[xu3];intro k;omega
 rw[e,qD,qD,Gc v1,Gc v2,UU h1,UU h2];rw[UU c]at k4;have g:(o.drop (m+2)).length=n - m - 1:=Fb;rw[zY,g,ha,hb];rw[k2,show n+1 - (m+1) - 1=n - m - 1 by omega]at k4;obtain⟨p,hp⟩:=zr (10 ^ (n - m - 1));rw[Zw,hp];rw[hp]at k4;obtain⟨x,hx⟩:=zr (a[m].toNat - 48);obtain⟨y,hy⟩:=zr (b[m].toNat - 48);obtain⟨z,d⟩:=zr (o[m+1].toNat - 48);rw[hx,hy,d]at hv;rw[d]at k4;rw[hx,hy];have f:v=v / 10*10+v % 10:=J;have i:v / 10*(p*10)+v % 10*p=v*p:=by
  rw[dY p 10,<-LY,<-ki,<-f]
 have j:v*p=x*p+y*p+z*p:=by rw[<-hv,ki,ki]
 show v / 10*(p*10)+(v % 10*p+yg (o.drop (m+2)))=_;have l:z*p+yg (o.drop (m+2))=yg (a.drop (m+1))+yg (b.drop (m+1)):=k4;omega
def ze0(a b:Wd)(n c1 c2:Nat)(p q:yM)(w:z8)(ha:a.length=n)(hb:b.length=n)(hn:n<=300)(U:1<=n)(da:a.all yG=true)(db:b.all yG=true)(hA:yU w (some p) (xG a))(hB:yU w (some q) (xG b)) :
  zC prog 150 #[.slice (some p) n c1,.slice (some q) n c2] w (yu6 (n+1) (yg a+yg b) w):=by
 obtain⟨i,hi,s,h2,h3⟩:=xC.info;have L:=Z hA;have M:=Z hB;have H:=Z (zg ha (zg hb (zg da db)));clear ha hb da db hA hB;go_enter func150,ntmps150;go_wp2_with (refine OX _ rfl _ _ _ rfl (w:Nat) _ i _ 1 xC.under hi s h2 .i64 .i64 _ _ (n+1) rfl rfl zZ zZ GX dO Yc ?_);intro w1 d l;rw[C1,<-UY]at d;have e:zP w w1:=(zv _ _).grown l (Y _) zZ;have Q:=Z (show my a b n n (zX (n+1) 48) from⟨Y _,zZ,zd6,by
  obtain⟨h1,h2,_⟩:=H.o;rw[yI (by omega:a.length<=n),yI (by omega:b.length<=n),wZ,UZ];rfl⟩)
 obtain⟨G,B⟩:=zr (w:Nat);rw[B]at d e|-;have HG:=Z B;have O:=Z d;have R:=Z e;clear B d e l;go_wp2_with fail;have N:=Z (show ∃I,n=I+1 from⟨n - 1,J⟩);go_loopw [6] (λt wr=>∃(k:Nat) (o:Wd),(match k with|0=>t = .int .i64 (-1)|m+1=>t = .int .i64 m)/\my a b n k o/\wr.ownsRow G 5 1 (.slice (G,0) (n+1) (n+1)) (n+1) (vz o)/\yD G w wr) (λt _=>(intOf t+1).toNat)
 case atStart=>exact⟨n,_,by obtain⟨I,C⟩:=N.o;rw[C];simp,Q.o,O.o,R.o⟩
 case round =>
  obtain⟨k,o,r,hR,hO,hb⟩:=hrel;cases k with
  |zero =>
   obtain rfl:=r;have P:=Z (show yu6 (n+1) (yg a+yg b) w (.returned (.slice (zU G 0) (n+1) (n+1))) wr from⟨⟨_,o,rfl,by rw[HG.o];exact hO,hR.2.1,hR.2.2.1,hR.2.2.2⟩,MX⟩);clear hR hO hb;go_wp2;go_ret;exact P.o
  |succ m =>
   obtain rfl:=r;obtain⟨ha,h,da,db⟩:=H.o;have D:m<a.length:=M8;have E:m<b.length:=M8;have F:m+1<o.length:=(by have:=hR.1;have:=hR.2.1;omega);have g:=rJ ha h da db hR D E F;have f:zP w wr:=MX;have K:=JK (L.o.below f) D;have pb:=JK (M.o.below f) E;have po:=Xa hO F hR.2.1;have W:=jq (zi.1 da _ (yf D));have xb:=jq (zi.1 db _ (yf E));have xo:=jq (zi.1 hR.2.2.1 _ (yf F));obtain⟨x,hx⟩:=zr (a[m].toNat - 48);obtain⟨y,hy⟩:=zr (b[m].toNat - 48);obtain⟨z,s⟩:=zr (o[m+1].toNat - 48);rw[hx,hy,s]at g;rw[show((a[m].toNat:Int) - 48)=(x:Int)by omega]at K;rw[show((b[m].toNat:Int) - 48)=(y:Int)by omega]at pb;rw[show((o[m+1].toNat:Int) - 48)=(z:Int)by omega]at po;have x9:x<=9:=J;have y9:y<=9:=J;have z9:z<=9:=J;have mn:m+1<=n:=hR.1;have mi:(m:Int)<(n:Int):=J;have mj:(m:Int)+1<(n:Int)+1:=J;have wm:vH.wrap ((m:Int)+1)=(m:Int)+1:=Yy;have tm:((m:Int)+1).toNat=m+1:=J;have m0:(0:Int)<=(m:Int)+1:=J;have w1:((x:Int)+(y:Int)) % 256=(x:Int)+(y:Int):=J;have w2:((x:Int)+(y:Int)+(z:Int)) % 256=((x+y+z:Nat):Int):=J;have A:=Z g;have v:=Z hO;have u:=Z hb;have V:=Xa hO (m:=m) J hR.2.1;have fz:∀j,wr.frozen? ⟨G,j,none⟩=false:=by
    intro j;exact zv0
   clear g hO hb f hR W xb xo hx hy s da db ha h;go_wp2_with fail;refine V1 (λW':z8=>W'.cell? (p.add m)=some (.int .u8 x)/\W'.cell? (q.add m)=some (.int .u8 y)/\zu W' G (m+1) (.int .u8 z)) (xB 16) 0 ⟨K,pb,po⟩ ?_;refine Y3 ?_ _;go_wp2;refine⟨⟨m,_,?_,A.o,?_,?_⟩,?_⟩
   .exact A2
   .have h1:=MZ (MZ v.o (m+1) J (.int .u8 (((x+y+z) % 10:Nat):Int))) m J (.int .u8 (((x+y+z) / 10:Nat):Int));rw[Bv _ _ _ (xu1 _ J),Bv _ _ _ J]at h1;have S:((x:Int)+(y:Int)+(z:Int)) % 10=(((x+y+z) % 10:Nat):Int):=(by omega);have T:((x:Int)+(y:Int)+(z:Int)) / 10=(((x+y+z) / 10:Nat):Int):=J;rw[S,T];exact h1
   .exact kp ((u.o.setCell (Y _) _).setCell (Y _) _)
   .simp only[intOf];omega
def yu7(a b:Wd)(n k c:Nat)(o:Wd):Prop:=k<=n/\o.length=n/\o.all yG=true/\c<=1/\yg (a.drop k)+c*10 ^ (n - k)=yg (b.drop k)+yg (o.drop k)
def ze1{a b o:Wd}{c':Nat}(ha:a.length=n)(hb:b.length=n)(h:yu7 a b n (m+1) c o)(h1:m<a.length)(h2:m<b.length)(hd:d<10)(e:c'<=1)(he:(b[m].toNat - 48)+c+d=(a[m].toNat - 48)+10*c') :
  yu7 a b n m c' (o.set m (kH d)):=by
 obtain⟨k1,k2,k3,k4,f⟩:=h;refine⟨J,by simp[k2],Nk k3 _ (UX hd),e,?_⟩;have l:m<o.length:=J;have g:(o.set m (kH d)).drop m=kH d::o.drop (m+1):=by
  rw[yY yJ];simp[xu3]
 rw[g,qD,Gc hd,UU h1,UU h2,ha,hb];have i:(o.drop (m+1)).length=n - m - 1:=Fb;rw[i];rw[show n - (m+1)=n - m - 1 by omega]at f;rw[show n - m=n - m - 1+1 by omega,Zw,Z1];obtain⟨p,hp⟩:=zr (10 ^ (n - m - 1));rw[hp]at f|-;obtain⟨x,hx⟩:=zr (a[m].toNat - 48);obtain⟨y,hy⟩:=zr (b[m].toNat - 48);rw[hx,hy]at he|-;have j:y*p+c*p+d*p=x*p+10*c'*p:=by rw[<-ki,<-ki,he,ki]
 have k:c'*(p*10)=10*c'*p:=by rw[dY p 10,<-LY,dY c' 10]
 omega
def IL(a b:Wd)(n c1 c2:Nat)(p q:yM)(w:z8)(ha:a.length=n)(hb:b.length=n)(hn:n<=300)(U:1<=n)(da:a.all yG=true)(db:b.all yG=true)(l:yg b<=yg a)(hA:yU w (some p) (xG a))(hB:yU w (some q) (xG b)) :
  zC prog 151 #[.slice (some p) n c1,.slice (some q) n c2] w (yu6 n (yg a - yg b) w):=by
 obtain⟨i,hi,V,h2,h3⟩:=xC.info;have N:=Z hA;have O:=Z hB;have E:=Z (zg ha (zg hb (zg da (zg db l))));clear ha hb da db hA hB l;go_enter func151,ntmps151;go_wp2_with (refine OX _ rfl _ _ _ rfl (w:Nat) _ i _ 1 xC.under hi V h2 .i64 .i64 _ _ n rfl rfl (by rfl) (by rfl) GX dO Yc ?_);intro w1 e A;rw[C1,<-UY]at e;have f:zP w w1:=(zv _ _).grown A (Y _) zZ;have S:=Z (show yu7 a b n n 0 (zX n 48) from⟨Y _,zZ,zd6,J,by
  obtain⟨h1,h2,_⟩:=E.o;rw[yI (by omega:a.length<=n),yI (by omega:b.length<=n),wZ,UZ];simp⟩)
 obtain⟨G,F⟩:=zr (w:Nat);rw[F]at e f|-;have HG:=Z F;have Q:=Z e;have T:=Z f;clear F e f A;go_wp2_with fail;have P:=Z (show ∃M,n=M+1 from⟨n - 1,J⟩);go_loopw [6,7] (λcv D wr=>∃(k c:Nat) (o:Wd),(match k with|0=>D = .int .i64 (-1)|m+1=>D = .int .i64 m)/\cv = .int .u8 (c:Nat)/\yu7 a b n k c o/\wr.ownsRow G 5 1 (.slice (G,0) n n) n (vz o)/\yD G w wr) (λ_ D _=>(intOf D+1).toNat)
 case atStart=>exact⟨n,0,_,by obtain⟨M,H⟩:=P.o;rw[H];simp,rfl,S.o,Q.o,T.o⟩
 case round =>
  obtain⟨k,c,o,C,rfl,hR,hO,hb⟩:=hrel;cases k with
  |zero =>
   obtain rfl:=C;have R:=Z (show yu6 n (yg a - yg b) w (.returned (.slice (zU G 0) n n)) wr from⟨⟨_,o,rfl,by rw[HG.o];exact hO,hR.2.1,hR.2.2.1,by
    obtain⟨_,r2,r3,r4,r5⟩:=hR;have:=JV o r3;rw[r2]at this;have l:=E.o.2.2.2.2;simp only[qR,Nat.sub_zero]at r5;rcases xu4 c with rfl|h
    .omega
    .obtain rfl:c=1:=(by omega);exact J⟩,MX⟩)
   clear hR hO hb;go_wp2;go_ret;exact R.o
  |succ m =>
   obtain rfl:=C;obtain⟨ha,z,da,db,_⟩:=E.o;have I:m<a.length:=M8;have K:m<b.length:=M8;have W:m<o.length:=(by have:=hR.1;have:=hR.2.1;omega);have r:=λc' d=>ze1 (c':=c') (d:=d) ha z hR I K
   have g:zP w wr:=MX;have L:=JK (N.o.below g) I;have pb:=JK (O.o.below g) K;have po:=Xa hO W hR.2.1;have xa:=jq (zi.1 da _ (yf I));have xb:=jq (zi.1 db _ (yf K));obtain⟨x,hx⟩:=zr (a[m].toNat - 48);obtain⟨y,hy⟩:=zr (b[m].toNat - 48);rw[hx,hy]at r;rw[show((a[m].toNat:Int) - 48)=(x:Int)by omega]at L;rw[show((b[m].toNat:Int) - 48)=(y:Int)by omega]at pb;have x9:x<=9:=J;have y9:y<=9:=J;have c1:c<=1:=hR.2.2.2.1;have mn:m+1<=n:=hR.1;have mi:(m:Int)<(n:Int):=J;have fz:∀j,wr.frozen? ⟨G,j,none⟩=false:=by
    intro j;exact zv0
   have v:=Z r;have HOW:=Z hO;have s:=Z hb;clear r hO hb g hR xa xb hx hy da db ha z;by_cases B:y+c<=x
   .have w1:((x:Int) - (y:Int)) % 256=(x:Int) - (y:Int):=(by omega);have w2:((x:Int) - (y:Int) - (c:Int)) % 256=((x - y - c:Nat):Int):=J;have hd:x - y - c<10:=J;have t:=Z (v.o 0 (x - y - c) hd J J);obtain⟨d,hdd⟩:=zr (x - y - c);rw[hdd]at w2 hd t;have s1:((x:Int) - (y:Int) - (c:Int)) / 128=0:=J;have HDD:=Z (show(x:Int) - (y:Int) - (c:Int)=(d:Int)by omega);clear hdd B;go_wp2_with fail;refine V1 (λW':z8=>W'.cell? (p.add m)=some (.int .u8 x)/\W'.cell? (q.add m)=some (.int .u8 y)) (xB 12) 0 ⟨L,pb⟩ ?_;refine Y3 ?_ _;go_wp2;refine⟨⟨m,0,_,?_,?_,t.o,?_,?_⟩,?_⟩
    .exact A2
    .exact congrArg (yb .u8) J
    .exact zjy
    .exact kp (s.o.setCell (Y _) _)
    .simp only[intOf];omega
   .have hd:x+10 - y - c<10:=(by omega);have t:=Z (v.o 1 (x+10 - y - c) hd J J);obtain⟨d,hdd⟩:=zr (x+10 - y - c);obtain⟨u,hu⟩:∃u:Nat,((x:Int) - (y:Int)) % 256=(u:Int):=⟨(((x:Int) - (y:Int)) % 256).toNat,J⟩;have w2:((u:Int) - (c:Int)) % 256=((d+246:Nat):Int):=J;have s1:((d:Int)+246) / 128=1:=J;have s2:((d:Int)+246+10) % 256=(d:Int):=J;rw[hdd]at hd t;have HDD:=Z hdd;clear hdd B;go_wp2_with fail;refine V1 (λW':z8=>W'.cell? (p.add m)=some (.int .u8 x)/\W'.cell? (q.add m)=some (.int .u8 y)) (xB 12) 0 ⟨L,pb⟩ ?_;refine Y3 ?_ _;go_wp2;refine⟨⟨m,1,_,?_,?_,t.o,?_,?_⟩,?_⟩
    .exact A2
    .exact congrArg (yb .u8) J
    .exact zjy
    .exact kp (s.o.setCell (Y _) _)
    .simp only[intOf];omega
variable{B j r:Nat}{F F' M:Nat->Prop}{u:Value}
def fS(M:Nat->Prop)(w:z8)(v:Value)(n:uL):Prop :=
 ∃g o cap,v = .agg #[.bool n.1,.slice (some ⟨g,o,none⟩) (n.2.1.length+n.2.2.length) cap,.int .i64 n.2.2.length]/\n.2.1.length+n.2.2.length<=cap/\cap<=maxLen/\¬M g/\(∃c,zu w g 0 (.int .u8 c))/\yU w (some ⟨g,o,none⟩) (xG (n.2.1++n.2.2))/\Ny n.2
def fS.num{n:uL}(h:fS M w v n):uh w v n.2:=by
 obtain⟨g,o,cap,h1,h2,a,_,b,c,d⟩:=h;exact⟨n.1,g,o,cap,h1,h2,a,b,c,d⟩
def yU.fr{a:yM}{l:List Int}(h:yU w (some a) l)(hf:Fr F F' w w')(ha:¬F a.block):yU w' (some a) l:=λj c=>by
 obtain⟨b,hb,hc⟩:=h j c;cases hb;have e:(a.add j).block=a.block:=by unfold bW;split<;>rfl
 exact⟨a,rfl,hf.cell hc (by rw[e];exact ha)⟩
def fS.fr{M':Nat->Prop}{n:uL}(h:fS M w v n)(hf:Fr F F' w w')(hF:∀k,F k->M k)(i:∀k,M' k->M k\/(w:Nat)<=k):fS M' w' v n:=by
 obtain⟨g,o,cap,h1,h2,d,a,⟨c,b⟩,e,f⟩:=h;have j:=X w _ b;exact⟨g,o,cap,h1,h2,d,λq=>(i g q).elim a (λq=>by simp only at j;omega),⟨c,hf.cell b (λq=>a (hF g q))⟩,e.fr hf (λq=>a (hF g q)),f⟩
def mq(l:Wd)(a:yM)(c sz:Nat)(w:z8)(hs:l.length<=sz)(h0:0<sz)(i:sz<=300)(hB:yU w (some a) (xG l)) :
  zC prog 148 #[.slice (some a) l.length c,(sz:Int)] w λe w'=>(∃g b,e = .returned (.slice (some ⟨g,0,none⟩) sz b)/\yU w' (some ⟨g,0,none⟩) (xG (dL sz l))/\(w:Nat)<=g)/\zP w w':=by
 obtain⟨k,rfl⟩:∃k,sz=l.length+k:=⟨sz - l.length,J⟩;refine(zcb l a c k w J J hB).mono ?_;rintro e w' ⟨⟨v,rfl,f⟩,hb⟩;have d:(dL (l.length+k) l).length=l.length+k:=by rw[DK];omega
 obtain⟨g,b,rfl,h,-,-⟩:=xf f h0;exact⟨⟨g,b,rfl,j6 f d.symm,h⟩,hb⟩
def rG(w:z8)(B g cap n:Nat)(l:Wd)(a:w.ownsRow B 5 1 (.slice (g,0) n cap) n (vz l))(k:Nat)(hn:n+k<=1000000)(ty:xm) :
  ∃v' w',(Vv #[34,3] ty #[.slice (g,0) n cap,(k:Int)]).run prog w = .ok v' w'/\w'.ownsRow B 5 1 v' (n+k) (vz (l++zX k 48))/\w.grownBy w' (some g):=by
 obtain⟨i,hi,I,h2,h3⟩:=xC.info;have A:=xC.under;have f:=underlying3;rcases a.2 with⟨hv,_⟩|⟨g',F,b,hv,q,x,z,r,s,d⟩
 .cases hv
 cases hv;have Pq:l.length=n:=by have:=a.1;simpa[vz]using this
 have H:b.size=cap:=by simpa using s
 have hw:vH.wrap (k:Int)=k:=Yy;have m:¬((k:Int)<0):=J;have K:¬(281474976710656<(k:Int)*(i.bytes:Int)):=GX;have p:(Je (yb .u8 0).cells k)=(zX k (yb .u8 0)).toArray:=by
  apply Array.ext';apply DI
  .simp[Je,Jc]
  .intro j h1 h2;simp[Je,Jc];rw[wg];rfl
 by_cases c:n+k<=cap
 .by_cases h0:k=0
  .subst h0;refine⟨_,w,?_,by simpa using a,vz2 _ _⟩;have D:vH.wrap 0=0:=(by decide);have h:n<=cap:=z;simp[Vv,kQ A,kQ f,sizeOf,typeInfo,hi,h2,h3,asInt,asIntOf,D,h];rfl
  .have o:=run_storeCells_at prog g n 5 (zX k (yb .u8 0)) 0 b w x yJ (by intro v hv;rw[kC hv];rfl);simp only[Ej,kl]at o;refine⟨.slice (zU g 0) (n+k) cap,w.setRow g (b.toList.take n++zX k (yb .u8 0)++b.toList.drop (n+k)).toArray,?_,⟨by simp[vz,Pq],.inr ⟨g,cap,_,rfl,q,setRow_heap w g b _ _ _ x,c,r,?_,?_⟩⟩,⟨rfl,rfl,rfl,zZ,λj _ L=>setRow_other w g j _ (λe=>L (by simp[e]))⟩⟩
   .simp[Vv,kQ A,kQ f,sizeOf,typeInfo,zeroValue,hi,I,h2,h3,asInt,asIntOf,hw,m,h0,c,p,Addr.add_lit,o];intro G;omega
   .simp;omega
   .have C:b.toList.take n=vz l:=(by simpa using d);rw[C,C0,UY];exact zxq
 .have holds:∀j u,(vz l)[j]? = some u->w.cell? ((⟨g,0,none⟩:yM).add j)=some u:=a.cells (g:=g) rfl;have t:=run_firstCells_some (P:=prog) w.drew i.size n ⟨g,0,none⟩ n cap (vz l) (by rw[h2];simp[vz,Pq]) (by simpa using holds);have hr:=Lib.run_append_grow_zeros (P:=prog) w _ _ ty _ i _ .i64 .i64 A f hi I (some ⟨g,0,none⟩) n cap (vz l) t k J J J J (by rw[h3];omega) (by rw[h3];exact growslice_fits J J);have N:=(yO.1 x).1;have y:=grownCap_ge w (n+k) cap 5;refine⟨_,_,hr,⟨by simp[vz,Pq],.inr ⟨(w:Nat),_,_,rfl,J,kU w.drew _,y,grownCap_le_maxLen w (n+k) cap 5 (by unfold maxLen;omega),?_,?_⟩⟩,⟨rfl,rfl,rfl,zZ,λk M _=>heap_alloc_old w.drew _ M⟩⟩
  .have E:(yb KU 0).cells.size=1:=rfl;simp only[Array.size_append,List.size_toArray,size_zeroCells,E];simp[vz,Pq];omega
  .rw[p,zzk,zzk,C0,UY];exact zxq
def ze2(n:uL)(v:Nat):Bo n v=if n.1 then (decide (yg (n.2.1++n.2.2)+v*10 ^ n.2.2.length≠0),H7 (yg (n.2.1++n.2.2)+v*10 ^ n.2.2.length) n.2.2.length)
 else if yg (n.2.1++n.2.2)<v*10 ^ n.2.2.length then (true,H7 (v*10 ^ n.2.2.length - yg (n.2.1++n.2.2)) n.2.2.length)
 else (false,H7 (yg (n.2.1++n.2.2) - v*10 ^ n.2.2.length) n.2.2.length):=rfl
def Nj(B O q sc:Nat)(nb:Bool)(r:Nat)(w wc:z8):Prop :=
 ∃g n' cap d,zu wc O 0 (.bool nb)/\zu wc O 1 (.slice (some ⟨g,0,none⟩) n' cap)/\zu wc O 2 sc/\(∀j,wc.frozen? ⟨O,j,none⟩=false) /\
  wc.cell? (q,2)=some (.int .i64 sc)/\bM wc (q+1)/\wc.ownsRow B 5 1 (.slice (g,0) n' cap) n' (vz d)/\g≠O/\d.length=n'/\sc+1<=n'/\n'<=61/\d.all yG=true/\yg d=r/\yD B w wc
def bM.other(h:bM w q){a:yM}(ha:a.block≠q)(u:Value):bM (w.setCell a u) q :=
 ⟨uH h.c0 _ ha,uH h.c1 _ ha,uH h.c2 _ ha,A5,AQ,by rw[zO];exact h.z2,by simpa[xg]using h.lt⟩
def Nj.mk1{O sc b g:Nat}{e:Bool}{a:z8}{d:Wd}(c0:zu a O 0 (.bool e))(c1:zu a O 1 u)(c2:zu a O 2 (sc:Nat))(fz:∀j,a.frozen? ⟨O,j,none⟩=false)
  (f:zu a q 2 sc) (hR:bM a (q+1)) (m:q+1<O) (l:a.ownsRow B 5 1 (.slice (g,0) b cap) b (vz d)) (c:g≠O) (k:d.length=b) (h1:sc+1<=b) (h:b<=61) (hd:d.all yG=true) (hr:yg d=r) (hb:yD B w a) (i:B<=O) :
  Nj B O q sc e r w (a.setCell (O,1) (.slice (g,0) b cap)) :=
 ⟨g,b,cap,d,zdu,yw c1 _,zdz,λj=>by rw[zO];exact fz j,uH f _ (by show O≠q;omega),hR.other (by show O≠q+1;omega) _,xp l (by simp[yl,Ne.symm c]) _,c,k,h1,h,hd,hr,hb.setCell i _⟩
def Nj.VX{O sc:Nat}{m:Bool}{wc:z8}(h:Nj B O q sc m r w wc)(n:q+1<O)(f:B<=O)(b:Bool):Nj B O q sc b r w (wc.setCell (O,0) (.bool b)):=by
 obtain⟨g,l,cap,d,c0,c1,c2,fz,c,hR,k,a,i,h1,e,hd,hr,hb⟩:=h;exact⟨g,l,cap,d,yw c0 _,by rw[zo,yz zZ];exact c1,zdz,λj=>by rw[zO];exact fz j,uH c _ (by show O≠q;omega),hR.other (by show O≠q+1;omega) _,xp k (by simp[yl,Ne.symm a]) _,a,i,h1,e,hd,hr,hb.setCell f _⟩
def mg{gd a b sc:Nat}{d:Wd}(h:Bool)(ho:w.ownsRow B 5 1 (.slice (gd,0) a b) a (vz d))(n:j+m=a)(o:j+c=b)(i:d.length=a)(hd:d.all yG=true)(p:a<=61)(hp:dL (sc+1) (xd r)=d.drop j) :
  fS (λk=>k<B) w (.agg #[.bool h,.slice (gd,j) m c,sc]) (h,H7 r sc):=by
 have l:a<=b/\b<=maxLen:=zjv;have uR:(d.drop j).length=m:=Fb;have hm:sc+1<=m:=by rw[<-uR,<-hp,DK];omega
 have hdd:(d.drop j).all yG=true:=by
  rw[zi]at hd|-;exactλx hx=>hd x (dV hx)
 have hf:H7 r sc=((d.drop j).take (m - sc),(d.drop j).drop (m - sc)):=by unfold H7;rw[hp,uR]
 have hB:=(j6 ho i.symm).drop j;rw[uE,show(xG d).drop j=xG (d.drop j)by simp[xG]]at hB;have f:((d.drop j).take (m - sc)).length=m - sc:=WS;have g:((d.drop j).drop (m - sc)).length=sc:=Fb;refine⟨gd,j,c,?_,?_,J,by have:=(ho.lt gd rfl).1;omega,⟨_,Xa ho (m:=0) J i⟩,?_,?_⟩
 .rw[hf,f,g,show m - sc+sc=m by omega]
 .rw[hf,f,g];omega
 .rw[hf,Xx];exact hB
 .rw[hf];refine⟨?_,?_,λe=>?_,by rw[f];omega,by rw[g];omega⟩
  .rw[zi]at hdd|-;exactλx hx=>hdd x (List.mem_of_mem_take hx)
  .rw[zi]at hdd|-;exactλx hx=>hdd x (dV hx)
  .have:=congrArg xD e;rw[f]at this;simp at this;omega
def rF(v:Value)(n:uL)(x:Nat)(w:z8)(h:fS (λ_=>False) w v n)(hx:x<=1000000000)(hl:n.2.1.length+n.2.2.length<=40) :
  zC prog 110 #[v,.int .i64 (x:Nat)] w λe w'=>(∃v',e = .returned v'/\fS (λk=>k<w.heap.size) w' v' (Bo n x))/\yD w.heap.size w w':=by
 obtain⟨neg,Xk⟩:=n;obtain⟨g,o,cap,rfl,Pf,LI,-,h0,hB,KC⟩:=h;simp only at hl Pf hB KC|-
 obtain⟨B,hBe⟩:=zr w.heap.size;obtain⟨L,hL⟩:=zr (Xk.1.length+Xk.2.length);obtain⟨sc,hsc⟩:=zr Xk.2.length;have hL1:sc+1<=L:=by have:=yv.2 KC.ne;omega
 rw[hL]at hl Pf|-
 rw[hsc]at|-
 obtain⟨W,hW⟩:=zr ((w.alloc (.cells #[.bool neg,.slice (some ⟨g,o,none⟩) L cap,.int .i64 (sc:Nat)] 99)).alloc (.cells #[.bool false,.slice none 0 0,.int .i64 0] 99));have s1:(w.alloc (.cells #[.bool neg,.slice (some ⟨g,o,none⟩) L cap,.int .i64 (sc:Nat)] 99)).heap.size=B+1:=by simp[hBe]
 have b1:yD B w (w.alloc (.cells #[.bool neg,.slice (some ⟨g,o,none⟩) L cap,.int .i64 (sc:Nat)] 99)):=(zv _ _).alloc (by omega) _;have b2:yD B w W:=by rw[<-hW];exact b1.alloc (by omega) _
 have cW:∀j,j<3->W.cell? ⟨B,j,none⟩=(#[gI neg,.slice (some ⟨g,o,none⟩) L cap,.int .i64 (sc:Nat)]:Array Value)[j]? := λj hj=>by
  rw[<-hW,zc _ _ _ (by show B<_;omega),<-hBe];exact zf _ _ _ _ _
 have hRW:bM W (B+1):=by
  rw[<-hW,<-s1];exact⟨zf _ _ _ _ _,zf _ _ _ _ _,zf _ _ _ _ _,by simp,by simp,by simp,by simp⟩
 have If:=Z hRW;have q0:=cW 0 (by omega);have q1:=cW 1 (by omega);have q2:=cW 2 (by omega);simp only[gV,qA,qa]at q0 q1 q2;have sW:W.heap.size=B+2:=by rw[<-hW];simp[hBe]
 have HB:=Z hB;have HX:=Z (zg KC (zg hL hsc));have HW:=Z b2;have mf:=Z hBe;have HSW:=Z sW;clear hB KC hL hsc b1 b2 s1 cW h0 hRW;go_enter func110,ntmps110;go_wp2_with fail;have HWE:=Z hW;clear hW hBe;refine rt (λW':z8=>W'.cell? ⟨B,2,none⟩=some (.int .i64 (sc:Nat))) [0,3,4] 4 q2 ?_;(iterate 3 (refine ty ?_;try simp only[pl]))
 refine yS ?_;refine gX 1 (λJk hJ=>?_);go_simp;refine(Yw x W.drew hx).mono ?_;rintro e w1 ⟨⟨g1,cp1,rfl,PH⟩,qE⟩;have rD:yD W.heap.size W w1:=⟨qE.os,qE.tape,qE.output,qE.size,qE.block⟩;have r0:=(rD.cell (p:=⟨B,0,none⟩) (by show B<_;omega)).trans q0;have r1:=(rD.cell (p:=⟨B,1,none⟩) (by show B<_;omega)).trans q1;have r2:=(rD.cell (p:=⟨B,2,none⟩) (by show B<_;omega)).trans q2;have hfd:=JQ;have V4:=rD.size;have uR:=jM 9 x (by omega);obtain⟨w2,v2,Ry,DQ,I7⟩:∃w2 v2,(Vv #[34,3] 34 #[.slice (some ⟨g1,0,none⟩) (xd x).length cp1,.int .i64 (sc:Int)]).run prog w1 = .ok v2 w2/\w2.ownsRow (B+2) 5 1 v2 ((xd x).length+sc) (vz (xd x++zX sc 48))/\w1.grownBy w2 (some g1):=by
  obtain⟨v2,w2,a,b,c⟩:=rG w1 _ g1 cp1 _ _ PH sc (by omega) 34;exact⟨w2,v2,a,by rw[<-HSW.out];exact b,c⟩
 have Fg:B+2<=g1:=by
  have:=(PH.lt g1 rfl).1;rw[show W.drew.heap.size=W.heap.size from rfl,HSW.out]at this;exact this
 have ze3:yD (B+2) W w2:=(rD.mono (by omega)).grown I7 (by omega) (λq hq=>by cases hq;exact Fg);have u0:=(ze3.cell (p:=⟨B,0,none⟩) (by show B<_;omega)).trans q0;have u1:=(ze3.cell (p:=⟨B,1,none⟩) (by show B<_;omega)).trans q1;have u2:=(ze3.cell (p:=⟨B,2,none⟩) (by show B<_;omega)).trans q2;obtain⟨dl,yu8⟩:=zr ((xd x).length);have Ti:1<=dl:=by have:=yv.2 (Uo x);omega
 rw[yu8]at DQ uR Ry;have HDL:=Z yu8;have HO2:=Z DQ;have oM:=Z ze3;clear PH qE rD I7 ze3 DQ;rw[yu8];clear yu8;refine hJ.out _ _ r2 λ_=>?_
 clear hJ Jk;refine Tc [2] 2 r2 ?_;refine ty ?_;try simp only[pl]
 refine yS ?_;refine gX 5 (λJk hJ=>?_);refine Lib.wp_append_run _ _ _ _ _ rfl _ _ rfl rfl _ _ Ry ?_;refine hJ.out _ _ u2 λ_=>?_
 clear hJ Jk;refine Tc [6] 0 u2 ?_;refine ty ?_;try simp only[pl]
 refine yS ?_;refine Y3 ?_ _;have AW:=xf HO2.out (by omega);obtain⟨g2,cp2,rfl,I7,vad,-⟩:=AW;obtain⟨sz,bh⟩:∃sz:Nat,max (L:Int) ((dl:Int)+(sc:Int))=(sz:Int):=⟨max L (dl+sc),by omega⟩;have z1:L<=sz:=by omega
 have z2:dl+sc<=sz:=by omega
 have z3:sz<=60:=by omega
 clear Ry r0 r1 r2 q0 q1 q2;have Qq:yD B w w2:=HW.out.trans (oM.out.mono (by omega));have hw1:=mq (Xk.1++Xk.2) ⟨g,o,none⟩ cap sz w2 (by rw[zy,HX.out.2.1];exact z1) (by omega) (by omega) (HB.out.below (by rw[mf.out];exact Qq));rw[zy,HX.out.2.1]at hw1;have HW1:=Z hw1;have xig:=Z Qq;clear hw1 Qq;go_wp2_with fail;refine HW1.out.mono ?_;rintro e w3 ⟨⟨ga,ca,rfl,hA3,hga⟩,dD⟩;have Ym:=dD.size;have xif:yD B w w3:=xig.out.trans (dD.mono (by have:=oM.out.size;omega));have Te:yD (B+2) W w3:=oM.out.trans (dD.mono (by have:=oM.out.size;omega));have Pq:(xd x++zX sc 48).length=dl+sc:=by rw[zy,kl,HDL.out]
 have hw2:=mq (xd x++zX sc 48) ⟨g2,0,none⟩ cp2 sz w3 (by rw[Pq];exact z2) (by omega) (by omega) ((j6 HO2.out Pq.symm).below dD);rw[Pq]at hw2;have HW2:=Z hw2;have HA3:=Z hA3;have xid:=Z xif;have HZ3:=Z Te;have dn:=Z Ym;clear hw2 hA3 dD xif Te HW1 oM xig Ym;go_wp2_with fail;refine HW2.out.mono ?_;rintro e w4 ⟨⟨gb,cb,rfl,hB4,hgb⟩,VD⟩;have hs3:=VD.size;have hz4:yD (B+2) W w4:=HZ3.out.trans (VD.mono (by have:=HZ3.out.size;omega));have EN:yD B w w4:=xid.out.trans (VD.mono (by have:=HZ3.out.size;omega));have t0:w4.cell? ⟨B,0,none⟩=some (.bool neg):=by
  rw[hz4.cell (p:=⟨B,0,none⟩) (by show B<B+2;omega),<-HWE.out,zc _ _ _ (by simp[mf.out]),<-mf.out];exact zf _ _ _ _ _
 have t2:w4.cell? ⟨B,2,none⟩=some (.int .i64 (sc:Nat)):=by
  rw[hz4.cell (p:=⟨B,2,none⟩) (by show B<B+2;omega),<-HWE.out,zc _ _ _ (by simp[mf.out]),<-mf.out];exact zf _ _ _ _ _
 have hR4:bM w4 (B+1):=If.out.below (by rw[HSW.out];exact hz4);have hA4:=HA3.out.below VD;obtain⟨P1,hP1⟩:=zr (dL sz (Xk.1++Xk.2));obtain⟨P2,hP2⟩:=zr (dL sz (xd x++zX sc 48));have dX:(Xk.1++Xk.2).all yG=true:=by rw[uJ,HX.out.1.zcj,HX.out.1.zk4];rfl
 have dZ:(xd x++zX sc 48).all yG=true:=by rw[uJ,Kl,gR,zi];intro c hc;rw[kC hc];rfl
 have l1:P1.length=sz:=by rw[<-hP1,DK,zy,HX.out.2.1];omega
 have l2:P2.length=sz:=by rw[<-hP2,DK,Pq];omega
 have d1:P1.all yG=true:=by rw[<-hP1];exact mz dX
 have d2:P2.all yG=true:=by rw[<-hP2];exact mz dZ
 have v1:yg P1=yg (Xk.1++Xk.2):=by rw[<-hP1];exact JX _ _
 have v2:yg P2=x*10 ^ sc:=by rw[<-hP2,dL,JX,RB,lW]
 rw[hP1]at hA4;rw[hP2]at hB4;have HA4:=Z hA4;have EX:=Z hB4;have HP:=Z (zg l1 (zg l2 (zg d1 (zg d2 (zg v1 v2)))));have HZ4:=Z hz4;have HR4:=Z hR4;have xl0:=Z EN;have t4:B+2<=w4.heap.size:=by have:=hz4.size;omega
 clear hA4 hB4 l1 l2 d1 d2 v1 v2 hP1 hP2 dX dZ VD hz4 hR4 EN HA3 xid HZ3 dn HW2 Pq hs3 hfd u0 u1 u2;go_wp2_with fail;obtain⟨l1,l2,d1,d2,v1,v2⟩:=HP.out;refine(X0 P1 P2 sz ca sz cb ⟨ga,0,none⟩ ⟨gb,0,none⟩ _ l1.symm l2.symm (HA4.out.alloc _) (EX.out.alloc _) (l1.trans l2.symm) d1 d2).mono ?_;rintro e w5' ⟨rfl,hw5⟩;obtain⟨O,hO⟩:=zr w4.heap.size;obtain⟨cc,hcc⟩:=zr (Nq P1 P2);have QU:cc<0 ↔ yg P1<yg P2:=by rw[<-hcc];exact zcd (l1.trans l2.symm) d1 d2
 rw[hcc];have o0:w5'.cell? ⟨O,0,none⟩=some (.bool neg):=by rw[<-hw5,<-hO];exact zf _ _ _ _ _
 have o1:w5'.cell? ⟨O,1,none⟩=some (.slice none 0 0):=by rw[<-hw5,<-hO];exact zf _ _ _ _ _
 have o2:w5'.cell? ⟨O,2,none⟩=some (.int .i64 (sc:Nat)):=by rw[<-hw5,<-hO];exact zf _ _ _ _ _
 have b45:yD O w4 w5':=by rw[<-hw5];exact(zv _ _).alloc (by omega) _
 have u0:=(b45.cell (p:=⟨B,0,none⟩) (by show B<O;omega)).trans t0;have u2:=(b45.cell (p:=⟨B,2,none⟩) (by show B<O;omega)).trans t2;have fz:∀j,w5'.frozen? ⟨O,j,none⟩=false:=by intro j;rw[<-hw5,<-hO];simp
 have s5:w5'.heap.size=O+1:=by rw[<-hw5,<-hO];simp
 have HA5:=Z (HA4.out.below (by rw[hO];exact b45));have MC:=Z (EX.out.below (by rw[hO];exact b45));have yuy:=Z (xl0.out.trans (b45.mono (by omega)));have HR5:=Z (HR4.out.below (by rw[hO];exact b45));have HCL:=Z QU;have HLV:=Z (ze2 (neg,Xk) x);rw[hO]at t4|-
 have wO:=Z s5;clear QU hw5 hcc b45 HA4 EX xl0 HZ4 t0 t2 hO l1 l2 d1 d2 v1 v2 s5 hgb hga vad I7;go_upto_block 0 with fail
 go_cut [] (λwc=>∃nb r,Nj B O B sc nb r w wc/\Bo (neg,Xk) x=(nb && decide (r≠0),H7 r sc))
 case rest =>
  obtain⟨nb,r,⟨gd,n',cp,d,c0,c1,c2,cz,cq,hR,ho,hgO,xl1,DX,hn3,hdd,hdr,PT⟩,Z4⟩:=hcut;clear o0 o1 o2 u0 u2 fz HA5 MC yuy HCL HLV HP HO2 wO HDL;have HO:=Z ho;have HD:=Z (zg xl1 (zg hdd hdr));have QX:=Z Z4;have HBC:=Z PT;clear ho xl1 hdd hdr Z4 PT;have HR:=Z hR;clear hR HR5 HR4 If;go_upto_block 1 with fail
  go_cut [] (λwl=>∃j m c,j+m=n'/\j+c=cp/\wl.cell? ⟨O,0,none⟩=some (.bool nb)/\wl.cell? ⟨O,1,none⟩=some (.slice (some ⟨gd,j,none⟩) m c)/\wl.cell? ⟨O,2,none⟩=some (.int .i64 (sc:Nat))/\(∀j,wl.frozen? ⟨O,j,none⟩=false)/\bM wl (B+1)/\wl.ownsRow B 5 1 (.slice (some ⟨gd,0,none⟩) n' cp) n' (vz d)/\yD B w wl /\
   dL (sc+1) (xd r)=d.drop j)
  case rest =>
   obtain⟨j,m,c,e1,e2,c0,c1,c2,cz,hR,ho,hb,RL⟩:=hcut;have hgB:gd≠B+1:=by
    rintro rfl;have h1:=Xa ho (m:=0) (by have:=HD.out.1;omega) HD.out.1;rw[hR.c0]at h1
    cases h1
   have uR:(d.drop j).length=m:=by rw[yh,HD.out.1];omega
   have hB:=(j6 ho HD.out.1.symm).drop j;rw[uE,show(xG d).drop j=xG (d.drop j)by simp[xG]]at hB;have HZ:=Z (Hp (d.drop j) m uR.symm (some ⟨gd,j,none⟩) c nb (sc:Int) wc (by omega) hB);have hz:(d.drop j).all (· == 48)=decide (r=0):=by
    have h1:(d.drop j).all yG=true:=by
     have:=HD.out.2.1;rw[zi]at this|-
     exactλx hx=>this x (dV hx)
    have h2:=Bh h1;rw[<-RL,dL,JX,lW]at h2;rw[xO,vJ,<-h2,<-RL,dL]
   rw[hz]at HZ;have HQ:=Z (zg e1 (zg e2 (zg ho (zg hb RL))));have r0:=hR.c0;have r1:=hR.c1;have r2:=hR.c2;have y0:=hR.z0;have y1:=hR.z1;have y2:=hR.z2;clear e1 e2 ho hb RL uR hB hz hR HR
   cases nb
   .go_wp2;obtain⟨e1,e2,ho,hb,RL⟩:=HQ.out;refine yK (v := .agg #[.bool false,.slice (some ⟨gd,j,none⟩) m c,.int .i64 (sc:Nat)]) ?_ rfl ?_
    .simp[yN,results110,go_sem,r0,r1,r2]
    .refine⟨⟨_,rfl,?_⟩,?_⟩
     .rw[QX.out,mf.out];exact mg _ (xp (xp (xp (xp ho (by simp[yl];omega) _) (by simp[yl];omega) _) (by simp[yl];omega) _) (by simp[yl];omega) _) e1 e2 HD.out.1 HD.out.2.1 hn3 RL
     .rw[mf.out];exact(((hb.setCell (by show B<=O;omega) _).setCell (by show B<=B+1;omega) _).setCell (by show B<=B+1;omega) _).setCell (by show B<=B+1;omega) _
   .go_wp2_with fail;refine HZ.out.mono ?_;rintro e w7 ⟨rfl,Xu⟩;have lO:=X wc _ c0;have lR:=X wc _ r0;have c0':=(Xu.cell (p:=⟨O,0,none⟩) lO).trans c0;have c1':=(Xu.cell (p:=⟨O,1,none⟩) lO).trans c1;have c2':=(Xu.cell (p:=⟨O,2,none⟩) lO).trans c2;have cz':∀j,w7.frozen? ⟨O,j,none⟩=false:=λj=>(zV (Xu.block O lO)).trans (cz j)
    have r0':=(Xu.cell (p:=⟨B+1,0,none⟩) lR).trans r0;have r1':=(Xu.cell (p:=⟨B+1,1,none⟩) lR).trans r1;have r2':=(Xu.cell (p:=⟨B+1,2,none⟩) lR).trans r2;have y0':=(Xu.frozen (p:=⟨B+1,0,none⟩) lR).trans y0;have y1':=(Xu.frozen (p:=⟨B+1,1,none⟩) lR).trans y1;have y2':=(Xu.frozen (p:=⟨B+1,2,none⟩) lR).trans y2;have HB7:=Z Xu;clear c0 c1 c2 cz r0 r1 r2 y0 y1 y2 Xu HZ;obtain⟨zz,oG⟩:=zr (decide (r=0));rw[oG];have HZZ:=Z oG;clear oG;go_wp2;obtain⟨e1,e2,ho,hb,RL⟩:=HQ.out;refine yK (v := .agg #[.bool (!zz),.slice (some ⟨gd,j,none⟩) m c,.int .i64 (sc:Nat)]) ?_ rfl ?_
    .simp[yN,results110,go_sem,r0',r1',r2']
    .refine⟨⟨_,rfl,?_⟩,?_⟩
     .rw[QX.out,mf.out,gR,show decide (r≠0) = !zz by rw[<-HZZ.out];simp];exact mg _ (xp (xp (xp (xp (di ho HB7.out) (by simp[yl];omega) _) (by simp[yl];omega) _) (by simp[yl];omega) _) (by simp[yl];omega) _) e1 e2 HD.out.1 HD.out.2.1 hn3 RL
     .rw[mf.out];exact((((hb.trans (HB7.out.mono (by omega))).setCell (by show B<=O;omega) _).setCell (by show B<=B+1;omega) _).setCell (by show B<=B+1;omega) _).setCell (by show B<=B+1;omega) _
  case first =>
   go_wp2_with fail;go_loopw [] (λwr=>∃j m c,j+m=n'/\j+c=cp/\sc+1<=m/\wr.cell? ⟨O,0,none⟩=some (.bool nb)/\wr.cell? ⟨O,1,none⟩=some (.slice (some ⟨gd,j,none⟩) m c)/\wr.cell? ⟨O,2,none⟩=some (.int .i64 (sc:Nat))/\(∀j,wr.frozen? ⟨O,j,none⟩=false)/\wr.cell? ⟨B,2,none⟩=some (.int .i64 (sc:Nat))/\bM wr (B+1)/\wr.ownsRow B 5 1 (.slice (some ⟨gd,0,none⟩) n' cp) n' (vz d)/\yD B w wr/\yg (d.drop j)=r) (λwr=>match wr.cell? ⟨O,1,none⟩ with|some (.slice _ n _)=>n|_=>0)
   case atStart=>exact⟨0,n',cp,by omega,by omega,DX,c0,c1,c2,cz,cq,HR.out,HO.out,HBC.out,HD.out.2.2⟩
   case round =>
    clear c0 c1 c2 cz cq;obtain⟨j,m,c,e1,e2,e3,c0,c1,c2,cz,cq,hR,ho,hb,hv⟩:=hrel;obtain⟨dl1,dl2,-⟩:=HD.out;have wF:n'<=cp:=by
     rcases ho.2 with⟨hv,_⟩|⟨g2,Gk,cur,hv,_,_,hh,_⟩
     .cases hv
     .cases hv;exact hh
    have hjd:j<d.length:=by omega
    have ph:=Xa ho hjd dl1;have xj:=jq (zi.1 dl2 _ (yf hjd));obtain⟨y,hy⟩:=zr (d[j].toNat - 48);rw[show((d[j].toNat:Int) - 48)=(y:Int)by omega]at ph;have hdd:(d.drop j).all yG=true:=by
     rw[zi]at dl2|-
     exactλx hx=>dl2 x (dV hx)
    have uR:(d.drop j).length=m:=by rw[yh];omega
    have gM:d.drop j≠[]:=λe=>by rw[e]at uR;simp at uR;omega
    have hdc:=yY hjd;by_cases hm:sc+1<m
    .have k1:(sc:Int)+1<(m:Int):=by omega
     have k2:decide ((sc:Int)+1<(m:Int))=true:=decide_eq_true k1;by_cases h0:y=0
     .subst h0;have h48:d[j]=48:=Y6 (by show _=48;omega);have AW:yg (d.drop (j+1))=r:=by
       rw[hdc,h48,qD]at hv;simpa using hv
      have ue4:¬(c=1):=by omega
      have Vj:1<=c:=by omega
      have Um:1<=m:=by omega
      have HQ:=Z (zg e1 (zg e2 (zg e3 (zg hR (zg ho (zg hb AW))))));have HM:=Z hm;clear e1 e2 e3 hR ho hb AW hv xj hy hdd uR gM hdc h48 dl1 dl2 wF hjd hm;go_wp2;obtain⟨e1,e2,e3,hR,ho,hb,AW⟩:=HQ.out;have hm:=HM.out;refine⟨⟨j+1,m - 1,c - 1,by omega,by omega,by omega,by rw[zo,if_neg (by simp)];exact c0,yw c1 _,by rw[zo,if_neg (by simp)];exact c2,λi=>by rw[zO];exact cz i,uH cq _ (by show O≠B;omega),hR.other (by show O≠B+1;omega) _,xp ho (by simp[yl,Ne.symm hgO]) _,hb.setCell (by show B<=O;omega) _,AW⟩,?_⟩;rw[yw c1,c1];show m - 1<m;omega
     .have h0':((y:Int)==0)=false:=by simp;omega
      have HQ:=Z (zg e1 (zg e2 (zg hR (zg ho (zg hb (show dL (sc+1) (xd r)=d.drop j by
       rw[<-hv];exact lh hdd gM (by omega) (.inr (by rw[hdc];intro q;apply h0;rw[<-hy,show d[j]=48 from q];rfl))))))))
      clear e1 e2 e3 hR ho hb hv xj hy hdd uR gM hdc dl1 dl2 wF hjd hm h0;go_wp2;go_meet
      obtain⟨e1,e2,hR,ho,hb,AW⟩:=HQ.out;exact⟨j,m,c,e1,e2,c0,c1,c2,cz,hR,ho,hb,AW⟩
    .have k1:¬((sc:Int)+1<(m:Int)):=by omega
     have k2:decide ((sc:Int)+1<(m:Int))=false:=decide_eq_false k1;have HQ:=Z (zg e1 (zg e2 (zg hR (zg ho (zg hb (show dL (sc+1) (xd r)=d.drop j by
      rw[<-hv];exact lh hdd gM (by omega) (.inl (by omega))))))))
     clear e1 e2 e3 hR ho hb hv xj hy hdd uR gM hdc dl1 dl2 wF hjd hm ph;go_wp2;go_meet
     obtain⟨e1,e2,hR,ho,hb,AW⟩:=HQ.out;exact⟨j,m,c,e1,e2,c0,c1,c2,cz,hR,ho,hb,AW⟩
 case first =>
  obtain⟨l1,l2,d1,d2,v1,v2⟩:=HP.out
  cases neg
  .by_cases uo:yg P1<yg P2
   .have HM:=Z (IL P2 P1 sz cb ca ⟨gb,0,none⟩ ⟨ga,0,none⟩ w5' l2 l1 (by omega) (by omega) d2 d1 (by omega) MC.out HA5.out);have HVV:=Z (zg v1 v2);have kc:decide (cc<0)=true:=decide_eq_true (HCL.out.2 uo);clear l1 l2 d1 d2 v1 v2;go_wp2_with fail;refine HM.out.mono ?_;rintro e w6 ⟨⟨v6,d,rfl,Jn,hl6,iV,Ke⟩,gT⟩;rw[wO.out]at Jn gT;obtain⟨g6,cp6,rfl,hg6,-,-⟩:=xf Jn (by omega);have e0:=(gT.cell (p:=⟨O,0,none⟩) (by show O<_;omega)).trans o0;have e1:=(gT.cell (p:=⟨O,1,none⟩) (by show O<_;omega)).trans o1;have e2:=(gT.cell (p:=⟨O,2,none⟩) (by show O<_;omega)).trans o2;have e3:=(gT.cell (p:=⟨B,2,none⟩) (by show B<_;omega)).trans u2;have ez:∀j,w6.frozen? ⟨O,j,none⟩=false:=λj=>(zV (gT.block O (by omega))).trans (fz j)
    have HOM:=Z (Nj.mk1 e0 e1 e2 ez e3 (HR5.out.below (by rw[wO.out];exact gT)) (by omega) (bE Jn (by omega)) (by omega) hl6 (by omega) (by omega) iV Ke (yuy.out.trans (gT.mono (by omega))) (by omega));clear Jn gT Ke iV hl6 e3 fz o0 o1 o2 u0 u2;go_wp2;go_meet
    have Ai:=HLV.out;try simp only at Ai
    rw[HX.out.2.2,<-HVV.out.1,<-HVV.out.2]at Ai;refine⟨true,_,HOM.out.VX (by omega) (by omega) true,?_⟩;rw[Ai,if_neg (by simp),if_pos uo,decide_eq_true (by omega)];rfl
   .have HM:=Z (IL P1 P2 sz ca cb ⟨ga,0,none⟩ ⟨gb,0,none⟩ w5' l1 l2 (by omega) (by omega) d1 d2 (by omega) HA5.out MC.out);have HVV:=Z (zg v1 v2);have kc:decide (cc<0)=false:=decide_eq_false (λq=>uo (HCL.out.1 q));clear l1 l2 d1 d2 v1 v2;go_wp2_with fail;refine HM.out.mono ?_;rintro e w6 ⟨⟨v6,d,rfl,Jn,hl6,iV,Ke⟩,gT⟩;rw[wO.out]at Jn gT;obtain⟨g6,cp6,rfl,hg6,-,-⟩:=xf Jn (by omega);have e0:=(gT.cell (p:=⟨O,0,none⟩) (by show O<_;omega)).trans o0;have e1:=(gT.cell (p:=⟨O,1,none⟩) (by show O<_;omega)).trans o1;have e2:=(gT.cell (p:=⟨O,2,none⟩) (by show O<_;omega)).trans o2;have e3:=(gT.cell (p:=⟨B,2,none⟩) (by show B<_;omega)).trans u2;have ez:∀j,w6.frozen? ⟨O,j,none⟩=false:=λj=>(zV (gT.block O (by omega))).trans (fz j)
    have HOM:=Z (Nj.mk1 e0 e1 e2 ez e3 (HR5.out.below (by rw[wO.out];exact gT)) (by omega) (bE Jn (by omega)) (by omega) hl6 (by omega) (by omega) iV Ke (yuy.out.trans (gT.mono (by omega))) (by omega));clear Jn gT Ke iV hl6 e3 fz o0 o1 o2 u0 u2;go_wp2;go_meet
    have Ai:=HLV.out;try simp only at Ai
    rw[HX.out.2.2,<-HVV.out.1,<-HVV.out.2]at Ai;refine⟨false,_,HOM.out,?_⟩;rw[Ai,if_neg (by simp),if_neg uo];rfl
  .have HM:=Z (ze0 P1 P2 sz ca cb ⟨ga,0,none⟩ ⟨gb,0,none⟩ w5' l1 l2 (by omega) (by omega) d1 d2 HA5.out MC.out);have HVV:=Z (zg v1 v2);clear l1 l2 d1 d2 v1 v2;go_wp2_with fail;refine HM.out.mono ?_;rintro e w6 ⟨⟨v6,d,rfl,Jn,hl6,iV,Ke⟩,gT⟩;rw[wO.out]at Jn gT;obtain⟨g6,cp6,rfl,hg6,-,-⟩:=xf Jn (by omega);have e0:=(gT.cell (p:=⟨O,0,none⟩) (by show O<_;omega)).trans o0;have e1:=(gT.cell (p:=⟨O,1,none⟩) (by show O<_;omega)).trans o1;have e2:=(gT.cell (p:=⟨O,2,none⟩) (by show O<_;omega)).trans o2;have e3:=(gT.cell (p:=⟨B,2,none⟩) (by show B<_;omega)).trans u2;have ez:∀j,w6.frozen? ⟨O,j,none⟩=false:=λj=>(zV (gT.block O (by omega))).trans (fz j)
   have HOM:=Z (Nj.mk1 e0 e1 e2 ez e3 (HR5.out.below (by rw[wO.out];exact gT)) (by omega) (bE Jn (by omega)) (by omega) hl6 (by omega) (by omega) iV Ke (yuy.out.trans (gT.mono (by omega))) (by omega));clear Jn gT Ke iV hl6 e3 fz o0 o1 o2 u0 u2;go_wp2;go_meet
   have Ai:=HLV.out;try simp only at Ai
   rw[HX.out.2.2,<-HVV.out.1,<-HVV.out.2]at Ai;refine⟨true,_,HOM.out,?_⟩;rw[Ai];simp
end Go.Proofs.YtpggmjffejgakaaGreatDoor
