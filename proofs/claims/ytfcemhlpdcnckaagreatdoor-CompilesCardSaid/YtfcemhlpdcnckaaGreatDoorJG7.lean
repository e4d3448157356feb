import Derived.Test.YtfcemhlpdcnckaaGreatDoorJG6
import Derived.Lib.AppendStr
import Derived.Lib.Builder
import Derived.Lib.UnsafeStr
import Derived.Shelf.RegionOpenPlain
import Derived.Deep.LoopGhost
set_option linter.defProp false
set_option maxHeartbeats 64000000
open Go renaming Addr->yi,Calls->zE,Ending->gG,TypeId->uP,Value->zx,World->z7,bodyPost_ret->zU,madeCells->ypk,ownsRow_setCell_other->yC,plainElem_int->Zh,results->yk,run_underlying->zuu
open Array renaming getElem?_eq_getElem->XN,getElem?_eq_some_iff->vN,toList_inj->zej
open Go.RowKit renaming Below->yX
open Go.RowKit.Below renaming heap_alloc->xA,heap_setCell->zh,refl->z8
open Bool renaming and_eq_true->zQ
open Go.Builtin renaming len_->zek
open ByteArray renaming mk->jW
open Classical renaming byContradiction->zi
open Go.DataW.lit renaming injEq->Hs
open Go.Instr renaming index->ZF,lookup->C6,makeMap->znj,mapUpdate->Cw,typeAssert->zA
open Go.Lib renaming hasPrefix->ye,hid->Z,trimPrefix->qE
open List renaming all_cons->kP,append_assoc->vv,cons_append->yw,filter_append->lN,flatMap_cons->zn,foldl_append->kS,foldl_cons->QA,getElem?_append_left->qM,getElem?_append_right->zc,getElem?_eq_getElem->zw,getElem?_eq_none->Xe,getElem?_eq_some_iff->vq,idxOf_le_length->ypy,isPrefixOf->kZ,length_append->zI,length_cons->zm,length_nil->ur,lookup_cons->Xm,map_cons->ve,mem_append->xY,mem_cons->yp,mem_cons_of_mem->yo,mem_cons_self->xB,mem_filter->kY,mem_of_getElem?->gg,mem_singleton->uG,nil_append->kr,nodup_append->zuq,range->Um,replicate->yu,take_of_length_le->xJ
open Go.Lit.int renaming injEq->zk5
open Go.Maps renaming atKey_put_other->fF,atKey_put_same->dC,has->znq,has_put_other->Xc,has_put_same->Vr,int_keyed->znk,keyOf_int_mk->zuk,string_keyed->vE
open Nat renaming add_assoc->jo,add_sub_cancel_left->dD,add_zero->fD,le_refl->X,le_trans->zZ,lt_irrefl->yO,lt_of_lt_of_le->ze,lt_succ_self->xf,mul_le_mul_right->MI,not_lt_zero->uf,pow_le_pow_right->zux,zero_le->zG
open Option renaming map_some->MH
open Option.some renaming inj->zR,injEq->vw
open Prod.mk renaming injEq->Yg
open SizeOf renaming sizeOf->zW
open Go.Value renaming cells->Xl,int->yF,slice->yI
open Go.WideAt renaming IsKeyLit->ku
open Go.WideMaps renaming keyOf_string_mk->xy
open Go.World renaming block_lt_of_cell?->Y,cell?_of_block->yZ,frozen?_of_block->zb,frozen?_setCell->zO,ownsMap_made->C5,ownsRow_nil->yr
open Go.Proofs.Tryz
namespace Go.Proofs.YtfcemhlpdcnckaaGreatDoor
open Go Go.RowKit
set_option maxRecDepth 10000
variable{hi j lo:Nat}{v:zx}{W w0:z7}
def ym(h:xS lo hi w0 W){b:Nat}(hc:zy w0 b j v)(h1:lo<=b)(h2:b<hi):zy W b j v:=(h.cell (p:=(b,j)) h1 h2).trans hc
def zz5{σ:Type}(lo hi:Nat)(w0:z7)(v:zx)(I:σ->Nat->z7->Prop)(F:σ->Fo->Out σ)(f:Fo):Prop :=
 ∀s room W a c vs,I s (room+f.cnt) W->QJ lo hi w0 a vs->zt lo hi w0 vs f->zE prog 60 #[.slice a f.len c,v] W (yyv I room (vG F f s))
def eO{σ:Type}{I:σ->Nat->z7->Prop}{F:σ->Fo->Out σ}(hy:Tq lo hi w0 v I F)(f:Fo)(hm:f.vS=true)(hw:f.wf 2000000=true)(hl:f.len<=2000000)
  (ih:∀m:Fo,zW m<zW f->m.vS=true->m.wf 2000000=true->m.len<=2000000->zz5 lo hi w0 v I F m):zz5 lo hi w0 v I F f:=by
 intro s room W a c vs hI Y4 Q;obtain⟨⟨k,cap,rfl,tX,G⟩,M,yib,N⟩:=hy;have EU:=Z N;obtain⟨L,hL⟩:=zo f.len;rw[hL];have hvl:vs.length=L:=(zt.count f vs Q hm).trans hL;obtain⟨R,hR⟩:=zo (vG F f s);rw[hR];obtain⟨HI0,gi,D3,HM,HW,HR,B,d⟩:=l8 hI Y4 Q hm hw hR G M;obtain⟨xfx,HIH,HVL,HL⟩:=hdd yib ih hvl hL;have Nj:L<=2000000:=J;clear hI Y4 Q hm hw hR G M yib N ih hvl hl hL;go_enter func60,ntmps60;go_wp2_with fail;go_loopw [14] (λiv wr=>∃i us xs r s1,iv = .int .i64 (i:Nat)/\i<=L/\zt lo hi w0 xs r/\r.vS=true/\r.wf 2000000=true/\us.length=i/\vs=us++xs/\i+r.len=L/\zW r<=zW f/\I s1 (room+r.cnt) wr/\vG F r s1=R) (λiv _=>L - (intOf iv).toNat)
 case atStart=>exact⟨0,[],vs,f,s,rfl,zG _,D3.o,HM.o,HW.o,rfl,rfl,by have:=HL.o;omega,X _,HI0.o,HR.o⟩
 case round =>
  obtain⟨i,us,xs,r,s1,rfl,hiL,bA,hmr,AL,Kr,hvs,Vf,dw,lS,I6⟩:=hrel;obtain⟨HN,Cv,ae,aF,nQ,JE,lQ⟩:=l7 bA hmr AL hvs Kr lS I6;clear bA hmr AL hvs Kr lS I6;by_cases ud:i<L
  .obtain⟨x0,xt,PI⟩:∃x0 xt,xs=x0::xt:=nN;subst PI;obtain⟨g,o,rfl,hg1,oO,C⟩:=gi.o i (by have:=HVL.o;omega);have hx0:vs[i]'(by have:=HVL.o;omega)=x0:=nU;rw[hx0]at C;have La:=ym (d.o _ _ wr JE.o) C hg1 oO;have k1:(i:Int)<(L:Int):=J;have k2:decide ((i:Int)<(L:Int))=true:=zV;have U5:=Z dw;clear C hx0 dw;obtain⟨y,hy⟩:∃y,y=x0:=⟨_,rfl⟩;replace aF:=Z (show vs=us++y::xt by rw[hy];exact aF.o);clear hy;cases r with
   |nil =>
    have:=HN.o;cases this
   |uB k0 a0 D T=>have:=Cv.o;cases this
   |text t r =>
    obtain⟨vt,he,bA⟩:=HN.o;cases he;have e1:=OO t;have e2:=OP t;have e3:=Tk t;exact rO
   |hash r =>
    obtain⟨vt,he,bA⟩:=HN.o;cases he;have e1:=OR;have e2:=OS;have e3:=Tj;exact rO
   |put n a r =>
    obtain⟨vt,b0,he,l,p,FN,CF,bA⟩:=HN.o;cases he;have S2:=ym (d.o _ _ wr JE.o) FN l p;have hh1:=ym (d.o _ _ wr JE.o) CF l p;have e1:=BJ b0;have FI:=Z bA;have q:(decide (n.length<=4000001) && r.wf 2000000)=true:=ae.o;simp only[zQ,qP]at q;have z:room+(Fo.put n a r).cnt=(room+r.cnt)+(Fo.put n a .nil).wt:=Rk;have u:=JE.o;rw[z]at u;have lK:=Z (B.o s1 (room+r.cnt) wr (.put n a .nil) (.iface 170 (zX b0 0)) n a u ⟨[],b0,rfl,l,p,FN,CF,rfl⟩ (by simp[Fo.wf,q.1]) rfl);have ae:=Z q.2;clear bA q z u;have Cv:=Z (show r.vS=true from Cv.o);have DZ:=Z (show i+(r.len+1)=L from Vf);have U5:=Z (show zW r<=zW f by have:=U5.o;simp at this;omega);obtain⟨o1,rN⟩:=zo (F s1 (.put n a .nil));exact rM
   |num n a r =>
    obtain⟨vt,b0,he,l,p,FN,CF,bA⟩:=HN.o;cases he;have S2:=ym (d.o _ _ wr JE.o) FN l p;have hh1:=ym (d.o _ _ wr JE.o) CF l p;have e1:=BG b0;have e2:=QG b0;have FI:=Z bA;have q:(decide (n.length<=4000001) && r.wf 2000000)=true:=ae.o;simp only[zQ,qP]at q;have z:room+(Fo.num n a r).cnt=(room+r.cnt)+(Fo.num n a .nil).wt:=Rk;have u:=JE.o;rw[z]at u;have lK:=Z (B.o s1 (room+r.cnt) wr (.num n a .nil) (.iface 173 (zX b0 0)) n a u ⟨[],b0,rfl,l,p,FN,CF,rfl⟩ (by simp[Fo.wf,q.1]) rfl);have ae:=Z q.2;clear bA q z u;have Cv:=Z (show r.vS=true from Cv.o);have DZ:=Z (show i+(r.len+1)=L from Vf);have U5:=Z (show zW r<=zW f by have:=U5.o;simp at this;omega);obtain⟨o1,rN⟩:=zo (F s1 (.num n a .nil));exact rM
   |br n a fo of cl x r =>
    obtain⟨vt,b0,ba,bc,ws,he,l,p,FN,CF,I9,SD,Lc,Tf,EX,EV,bA⟩:=HN.o;cases he;have S2:=ym (d.o _ _ wr JE.o) FN l p;have hh1:=ym (d.o _ _ wr JE.o) CF l p;have e1:=Ep b0;have e2:=Jh b0;have e3:=KH b0;have FI:=Z bA;have HBS:=Z EV;have Td:=Z EX;have q:(decide (n.length<=4000001) && decide (fo<3) && x.ug && decide (x.len<=2000000) && x.wf 2000000 && r.wf 2000000)=true:=ae.o;simp only[zQ,qP]at q;obtain⟨⟨⟨⟨⟨hnl,hfo⟩,Cm⟩,hbn⟩,CS⟩,yl1⟩:=q;have z:room+(Fo.br n a fo of cl x r).cnt=(room+r.cnt+x.cnt)+(Fo.br n a fo of cl x .nil).wt:=Rk;have u:=JE.o;rw[z]at u;obtain⟨lK,HC4,ae,HBL,HBW⟩:=FD (B.o s1 (room+r.cnt+x.cnt) wr (.br n a fo of cl x .nil) (.iface 159 (zX b0 0)) n a u ⟨[],b0,ba,bc,ws,rfl,l,p,FN,CF,I9,SD,Lc,Tf,EX,EV,rfl⟩ (by simp[Fo.wf,hnl,hfo,Cm,hbn,CS]) rfl) Lc yl1 Cm CS;have Cv:=Z (show r.vS=true from Cv.o);have DZ:=Z (show i+(r.len+1)=L from Vf);have U5:=Z (show zW r<=zW f/\zW x<zW f by have:=U5.o;simp at this;omega);obtain⟨o1,rN⟩:=zo (F s1 (.br n a fo of cl x .nil));have MT:=lQ.o;rw[vG,rN]at MT;have MS:=Z MT.symm;rw[rN]at lK;clear rN MT lQ FN CF I9 SD Lc Tf EX EV bA yl1 Cm CS z u;go_wp2_with fail;refine lK.o.mono ?_;rintro e w2 hq;cases o1 with
    |pan c s2 =>
     exact pT
    |go b s2 =>
     obtain⟨rfl,lV⟩:=hq;have HIX:=Z lV;clear lV;cases b with
     |false =>
      exact pA
     |true =>
      have CG:=Z (show(vG F x s2).then (λs=>vG F r s)=R from MS.o.symm);have hh4:=ym (d.o _ _ w2 HIX.o) HC4.o l p;clear S2 hh1 La lK MS JE;go_wp2_with fail;go_loopw [60] (λiv wq=>∃A S xs2 r2 s3,iv = .int .i64 (A:Nat)/\A<=x.len/\zt lo hi w0 xs2 r2/\r2.ug=true/\r2.wf 2000000=true/\S.length=A*3/\ws=S++xs2/\A+r2.len=x.len/\zW r2<=zW x/\I s3 (room+r.cnt+r2.cnt) wq/\(vG F r2 s3).then (λs=>vG F r s)=R) (λiv _=>x.len - (intOf iv).toNat)
      case atStart=>exact⟨0,[],ws,x,s2,rfl,zG _,HBS.o,HBL.o,HBW.o,rfl,rfl,J,X _,HIX.o,CG.o⟩
      case round =>
       obtain⟨A,S,xs2,r2,s3,rfl,vg5,yl2,yl3,yl4,yl5,yl6,O,JJ,hi3,hr3⟩:=hrel;obtain⟨HN2,w,yyq,ry,aB,E,HR3,xfu⟩:=l8 yl2 yl3 yl4 yl6 yl5 hi3 hr3 JJ;have zz6:=Z O;clear yl2 yl3 yl4 yl6 yl5 hi3 hr3 JJ;by_cases Qt:A<x.len
       .cases r2 with
        |nil=>exfalso;simp[Fo.len]at O;omega
        |text t r=>have:=w.o;cases this
        |hash r=>have:=w.o;cases this
        |put n a r=>have:=w.o;cases this
        |num n a r=>have:=w.o;cases this
        |br n a fo of cl x r=>have:=w.o;cases this
        |uB k0 a0 D T =>
         obtain⟨AM,ma,mc,ms,he2,P,hmn,KM⟩:=HN2.o;subst he2;have hwl:ws.length=S.length+(AM.length+3):=(by rw[ry.o];simp);have U:∀j v,[zv k0,.int .i64 a0,.slice ma D.len mc][j]? = some v->∃(h:A*3+j<ws.length),ws[A*3+j]=v:=by
          intro j v hj;have hj3:j<3:=rX;refine⟨by have:=aB.o;omega,?_⟩;have h1:ws[A*3+j]? = some v:=rz;exact oz
         obtain⟨q0,p0⟩:=U 0 _ rfl;obtain⟨q1,p1⟩:=U 1 _ rfl;obtain⟨q2,p2⟩:=U 2 _ rfl;obtain⟨g2,o2,rfl,H,K,d0⟩:=Td.o (A*3+0) q0;obtain⟨g2',o2',hgg,_,_,d1⟩:=Td.o (A*3+1) q1;cases hgg;obtain⟨g2',o2',hgg,_,_,d2⟩:=Td.o (A*3+2) q2;cases hgg;rw[p0]at d0;rw[p1]at d1;rw[p2]at d2;have c0:=ym (d.o _ _ wr E.o) d0 H K;have c1:=ym (d.o _ _ wr E.o) d1 H K;have c2:=ym (d.o _ _ wr E.o) d2 H K;simp only[fD,<-jo]at c0 c1 c2;have xfj:=Z P;have xfg:=Z hmn;have zb0:=Z KM;have k3:(A:Int)<(x.len:Int):=J;have k4:decide ((A:Int)<(x.len:Int))=true:=zV;clear P hmn KM d0 d1 d2 p0 p1 p2 U;have zz9:(decide (k0.length<=4000001) && D.vS && decide (D.len<=2000000) && D.wf 2000000 && T.wf 2000000)=true:=yyq.o;simp only[zQ,qP]at zz9;obtain⟨⟨⟨⟨_,Dz⟩,GJ⟩,rR⟩,LY⟩:=zz9;have hss:zW D<zW f/\zW T<=zW x:=(by have:=U5.o;have:=xfu.o;simp at this;omega);obtain⟨HEC,HSS,zb1,zb2,zb3⟩:=FD (HIH.o D hss.1 Dz rR GJ s3 (room+r.cnt+T.cnt) (wr.alloc (.cells #[zv k0,a0,.slice ma D.len mc] 219)) ma mc ms (xfx.o s3 _ wr _ (by have:=E.o;rw[show room+r.cnt+(Fo.uB k0 a0 D T).cnt=room+r.cnt+T.cnt+D.cnt by simp only[Fo.cnt];omega]at this;exact this) ((z8 _ _).alloc (X _) _)) xfj.o xfg.o) hss.2 LY (show T.ug=true from w.o) (show A+(T.len+1)=x.len from zz6.o);obtain⟨oo,hoo⟩:=zo (vG F D s3);have hr4:=HR3.o;rw[vG,hoo]at hr4;have MS:=Z hr4.symm;rw[hoo]at HEC;clear hoo hr4 Dz GJ rR LY hss;go_wp2_with fail;refine HEC.o.mono ?_;rintro e w3 hq;cases oo with
         |pan c s4 =>
          obtain⟨rfl,V⟩:=hq;have CG:=Z (show R = .pan c s4 from MS.o);go_wp2;refine⟨rfl,?_⟩;rw[CG.o];exact⟨rfl,EU.o _ _ _ _ V J⟩
         |go b s4 =>
          obtain⟨rfl,V⟩:=hq;have yl7:=Z V;clear V;cases b with
          |false =>
           have CG:=Z (show R = .go false s4 from MS.o);go_wp2;go_ret;rw[CG.o];exact⟨rfl,EU.o _ _ _ _ yl7.o J⟩
          |true =>
           have CG:=Z (show(vG F T s4).then (λs=>vG F r s)=R from MS.o.symm);go_wp2;go_roundw
           case rel=>exact⟨A+1,S++[zv k0,.int .i64 a0,.slice ma D.len mc],AM,T,s4,zY,J,zb0.o,zb2.o,zb1.o,Sq,S8,by have:=zb3.o;omega,HSS.o,yl7.o,CG.o⟩
           case measure=>simp only[intOf];omega
       .have k4:decide ((A:Int)<(x.len:Int))=false:=(by simp;omega);have j8:r2 = .nil:=by
         have:=w.o;cases r2<;>simp[Fo.len]at O<;>first|rfl|omega
        have HRY:=Z (show vG F r s3=R by rw[<-HR3.o,j8];rfl);have U5:=Z U5.o.1;go_wp2;go_roundw
        case rel=>exact⟨i+1,us++[y],_,r,s3,zY,J,FI.o,Cv.o,ae.o,by simp[nQ.o],by rw[aF.o,vv];rfl,by have:=DZ.o;omega,by have:=U5.o;omega,EU.o _ _ _ _ E.o J,HRY.o⟩
        case measure=>simp only[intOf];omega
  .have k2:decide ((i:Int)<(L:Int))=false:=(by simp;omega);have j8:r = .nil:=by
    cases r<;>simp[Fo.len]at Vf<;>first|rfl|omega
   have CG:=Z (show R = .go true s1 by rw[<-lQ.o,j8];rfl);go_wp2;go_ret;rw[CG.o];exact⟨rfl,EU.o _ _ _ _ JE.o J⟩
def OT{σ:Type}{I:σ->Nat->z7->Prop}{F:σ->Fo->Out σ}(hy:Tq lo hi w0 v I F):∀(n:Nat) (f:Fo),zW f<n->f.vS=true->f.wf 2000000=true->f.len<=2000000->zz5 lo hi w0 v I F f
 | 0,f,h,_,_,_=>absurd h (uf _)
 |n+1,f,h,hm,hw,c=>eO hy f hm hw c λm h1 h2 a b=>OT hy n m J h2 a b
variable{L:Yc}{B p:Nat}{F F':Nat->Prop}{w w' w1 w2:z7}
def Fr.over{G a:Nat->Prop}(h:Fr F F' w w1)(k:Fr G a w1 w2)(b:∀q,G q->F q\/(w:Nat)<=q):Fr F F' w w2 :=
 ⟨k.os.trans h.os,k.tape.trans h.tape,k.output.trans h.output,zZ h.size k.size,λi hi hn=>(k.keep i (ze hi h.size) (λq=>(b i q).elim hn J)).trans (h.keep i hi hn),h.fp⟩
structure XQ(lo hi:Nat)(w0:z7)(B:Nat)(w:z7):Prop where
 keep:xS lo hi w0 w
 hB:hi<=B
 fo:gQ w
 na:kb w
 g1:4<B
 g2:1<B
def XQ.fr(h:XQ lo hi w0 B w)(hf:Fr F F' w w')(hF:∀k,F k->B<=k):XQ lo hi w0 B w':=by
 have hb:=h.hB;have c:=h.keep;refine⟨⟨zZ c.1 hf.size,λk a b=>(hf.keep k (by have:=c.1;omega) (λq=>by have:=hF k q;omega)).trans (c.2 k a b)⟩,hb,h.fo.fr hf hF h.g1,λj d=>hf.cell (h.na j d) (λq=>by have:=hF _ q;have:=h.g2;simp only at *;omega),h.g1,h.g2⟩
def OW(lo hi:Nat)(w0:z7)(f:Fo):Prop:=∀p L s w a c vs,uq p L s w->XQ lo hi w0 L.B w->QJ lo hi w0 a vs->zt lo hi w0 vs f->f.vS=true->f.wf 2000000=true->f.Cl->f.len<=2000000->s.sz+f.cw<=900000 ->
 zE prog 39 #[(p,0),.slice a f.len c] w (MQ p L (MkS.MA f s) w)
structure yyg(N p:Nat)(s0:MkS)(keys:List Wd)(bg:Wd->MkS->MkS)(v:zx)(I:Yc->z7->Prop):Prop where
 fn:∃k cap,v = .func (.func k) #[] cap/\(∀args w,(callFunc k args).run prog w = .ok (.enter k args) w) /\
  ∀L s W key (a:Nat) ma mn mc,uq p L s W->I L W->s0.le s->s.sz<=900000->key∈keys->zE prog k (#[.agg #[zv key,a,.slice ma mn mc]]++cap) W (OX p L (bg key s) W)
 fr:∀L L' W W',I L W->Fr (L.has p) (L'.has p) W W'->I L' W'
 al:∀L W W' F F',I L W->Fr F F' W W'->(∀k,F k->N<=k)->I L W'
 le:∀k s,s.le (bg k s)/\(bg k s).sz=s.sz
def jQ(w:z7)(p:Nat)(L:Yc)(s:MkS)(ls:List Nat)(bcs:List (Nat×Nat)):Prop :=
 bcs.length=ls.length/\∀(n i:Nat) (x:Nat×Nat),ls[n]? = some i->bcs[n]? = some x->jg w p i x.1 x.2/\¬L.has p x.1/\¬L.has p x.2/\∃y,s.code[i]? = some y/\y.tg.length=1
def jg.fr{i b c:Nat}(h:jg w p i b c)(hf:Fr F F' w w')(h1:¬F b)(h2:¬F c):jg w' p i b c:=⟨hf.cell h.pb h1,hf.cell h.pc h2,(ue (hf.keep b (Y w _ h.pb) h1)).trans h.tb,(ue (hf.keep c (Y w _ h.pc) h2)).trans h.tc⟩
def jg.lt{i b c:Nat}(h:jg w p i b c):b<(w:Nat)/\c<(w:Nat):=⟨Y w _ h.pb,Y w _ h.pc⟩
def jQ.fr{L':Yc}{s s':MkS}{ls:List Nat}{f:List (Nat×Nat)}(h:jQ w p L s ls f)(hf:Fr (L.has p) (L'.has p) w w')(hs:s.le s'):jQ w' p L' s' ls f :=
 ⟨h.1,λn i x h1 h2=>by
  obtain⟨a,b,c,y,d,e⟩:=h.2 n i x h1 h2;obtain⟨y2,d2,e2⟩:=hs i y d;exact⟨a.fr hf b c,λq=>(hf.fp _ q).elim b (by have:=a.lt;omega),λq=>(hf.fp _ q).elim c (by have:=a.lt;omega),y2,d2,e2.trans e⟩⟩
def jQ.ty{s:MkS}{ls:List Nat}{e:List (Nat×Nat)}(h:jQ w p L s ls e)(hf:Fr F F' w w')(hF:∀k,F k->Ua w k=some 107):jQ w' p L s ls e :=
 ⟨h.1,λn i x h1 h2=>by
  obtain⟨a,b,c,d⟩:=h.2 n i x h1 h2;exact⟨a.fr hf (λq=>by have:=hF _ q;rw[a.tb]at this;cases this) (λq=>by have:=hF _ q;rw[a.tc]at this;cases this),b,c,d⟩⟩
def jQ.al{s:MkS}{ls:List Nat}{e:List (Nat×Nat)}(h:jQ w p L s ls e)(hf:Fr j6 j6 w w'):jQ w' p L s ls e :=
 ⟨h.1,λn i x h1 h2=>by
  obtain⟨a,b,c,d⟩:=h.2 n i x h1 h2;exact⟨a.fr hf id id,b,c,d⟩⟩
def jQ.more{s:MkS}{ls:List Nat}{a:List (Nat×Nat)}{i b c:Nat}{y:Jn}(h:jQ w p L s ls a)(e:jg w p i b c)(hb:¬L.has p b)(hc:¬L.has p c)(hy:s.code[i]? = some y)(h1:y.tg.length=1) :
  jQ w p L s (ls++[i]) (a++[(b,c)]):=by
 refine⟨by simp[h.1],λn j x e1 e2=>?_⟩;by_cases hn:n<ls.length
 .rw[qM hn]at e1;rw[qM (by have:=h.1;omega)]at e2;exact h.2 n j x e1 e2
 .have d:n=ls.length:=by have:=(vq.1 e1).1;simp at this;omega
  rw[d,zc (X _)]at e1;rw[d,zc (by have:=h.1;omega),h.1]at e2;simp at e1 e2;subst e1 e2;exact⟨e,hb,hc,y,hy,h1⟩
def eP:bH prog 263 107 .nilFunc 1 8 :=
 ⟨underlying263,info_parts yy,rfl,zj,zj⟩
def zzz(bcs:List (Nat×Nat)):List zx:=bcs.map λx=>ZY x.1 x.2
def go_leg(k:Wd)(a:Nat)(m r:Fo)(b:Wd->MkS->MkS)(s:MkS)(ls:List Nat) :
  MkS.VZ (.uB k a m r) b s ls=MkS.VZ r b ((MkS.MA m (b k s)).put 11 0 [] [0]) (ls++[(MkS.MA m (b k s)).code.length]):=rfl
def eR(n:Nat):(ypk (yF .i64 0).cells (n*1)).toList=Yx (yu n 0):=by
 apply List.ext_getElem
 .simp[ypk,Yx]
 .intro j h1 h2;simp[ypk,Yx,Xl,Nat.mod_one]
def UZ(n:Nat)(w:z7)(hn:n<=1000000):∃w',(Instr.makeSlice 23 (n:Int) (n:Int)).run prog w = .ok (.slice (w,0) n n) w'/\qT w' (.slice (w,0) n n) (yu n 0)/\Fr j6 j6 w w':=by
 obtain⟨i,hi,e,h2,c⟩:=U1.info;obtain⟨w',hr,b,a⟩:=run_makeSlice_full (P:=prog) (w:=w) 0 23 3 i _ 1 U1.under hi e h2 .i64 .i64 n J (by rw[c];omega) Z7 (zG _);rw[eR]at b;refine⟨w',hr,by simpa[qT]using b,a.os,a.tape,a.output,a.size,λk d _=>a.block k d zY,λ_ q=>q.elim⟩
def G6{d:Option yi}{ws us r:List zx}{k0:Wd}{b i m mc:Nat}{ma:Option yi}(q:xS lo hi w0 w)(f:QJ lo hi w0 d ws)(k:us.length=i*3)(l:ws=us++(zv k0 :: .int .i64 (b:Nat) :: .slice ma m mc::r)) :
  ∃g o,d=some ⟨g,o,none⟩/\zy w g (o+i*3) (zv k0)/\zy w g (o+i*3+1) b/\zy w g (o+i*3+2) (.slice ma m mc):=by
 have a:∀j v,[zv k0,.int .i64 b,.slice ma m mc][j]? = some v->j<3->ws[i*3+j]? = some v:=by
  intro j v p n;rw[l,<-k,zc J,dD,<-p];match j,n with
  | 0,_=>rfl
  | 1,_=>rfl
  | 2,_=>rfl
 have hc:∀j v,ws[i*3+j]? = some v->∃g o,d=some ⟨g,o,none⟩/\zy w g (o+(i*3+j)) v:=λj v h=>by
  obtain⟨h1,h2⟩:=vq.1 h;obtain⟨g,o,e,g1,g2,c⟩:=f _ h1;rw[h2]at c;exact⟨g,o,e,ym q c g1 g2⟩
 obtain⟨g,o,rfl,c0⟩:=hc 0 _ (a 0 _ rfl J);obtain⟨g1,s,e1,c1⟩:=hc 1 _ (a 1 _ rfl J);obtain⟨g2,t,e2,c2⟩:=hc 2 _ (a 2 _ rfl J);cases e1;cases e2;exact⟨g,o,rfl,c0,c1,c2⟩
def Fk(bs:Fo)(bg:Wd->MkS->MkS)(s:MkS):MkS:=(MkS.VZ bs bg s []).2.foldl (λs i=>s.qh i 0) (MkS.VZ bs bg s []).1
def BD(b0:Nat)(n:Wd)(a fo:Nat)(of:Wd)(cl:Nat)(C:Fo)(p:Nat)(L:Yc)(s:MkS)(bg:Wd->MkS->MkS)(v:zx)(I:Yc->z7->Prop)(w:z7)
  (ih:∀m:Fo,zW m<zW C->OW lo hi w0 m) (h:uq p L s w) (he:XQ lo hi w0 L.B w)
  (Cy:zt lo hi w0 [.iface 159 (b0,0)] (.br n a fo of cl C .nil)) (hL:C.ug=true) (hc:C.Cl) (hw:C.wf 2000000=true) (hn:C.len<=2000000) (hs:s.sz+C.gw<=900000)
  (hb:yyg (w:Nat) p s C.keys bg v I) (hI:I L w) :
  zE prog 97 #[(p,0),(b0,0),v] w (MQ p L (Fk C bg s) w):=by
 obtain⟨vt,b',ba,bc,ws,hee,qV,qX,FN,La,I9,SD,Lc,Tf,EX,EV,_⟩:=Cy;cases hee;have c4:=ym he.keep Lc qV qX;obtain⟨k,cap,rfl,tX,Df⟩:=hb.fn;obtain⟨HH,HE,Td,HBS,HL,HC,HW,HB⟩:=l8 h he EX EV hL hc hw hb;obtain⟨HI,Dd,HIH,HS⟩:=hdd hI Df ih hs;obtain⟨R,hR⟩:=zo (MkS.VZ C bg s []);have HR:=Z hR;have hbR:Fk C bg s=R.2.foldl (λs i=>s.qh i 0) R.1:=by unfold Fk;rw[hR]
 rw[hbR];obtain⟨M,hM⟩:=zo C.len;have HM:=Z hM;rw[hM]at c4 hn;clear h he EX EV hL hc hw hb hI Df ih hs hR hbR hM FN La I9 SD Lc Tf;go_enter func97,ntmps97;go_wp2_with fail;go_loopw [6,16] (λlv iv wr=>∃i us xs r z f ls O,iv = .int .i64 (i:Nat)/\i<=M/\zt lo hi w0 xs r/\r.ug=true/\r.Cl/\r.wf 2000000=true/\us.length=i*3/\ws=us++xs/\i+r.len=M/\zW r<=zW C/\(∀k∈r.keys,k∈C.keys) /\
  uq p f z wr/\(f.q=L.q/\f.B=L.B)/\Fr (L.has p) (f.has p) w wr/\I f wr/\s.le z/\z.sz+r.gw<=900000/\jQ wr p f z ls O/\wr.ownsRow 0 107 1 lv ls.length (zzz O)/\(∀g,yd lv g->(w:Nat)<=g/\¬f.has p g)/\ls.length=i/\MkS.VZ r bg z ls=R) (λ_ iv _=>M - (intOf iv).toNat)
 case atStart =>
  exact⟨0,[],ws,C,s,L,[],[],rfl,zG _,HBS.o,HL.o,HC.o,HW.o,rfl,rfl,by have:=HM.o;omega,X _,λ_ q=>q,HH.o,⟨rfl,rfl⟩,Fr.refl _ _,HI.o,s.le_refl,HS.o,⟨rfl,λn i x q=>by simp at q⟩,yr _ _ _ _,(λg q=>X0),rfl,HR.o⟩
 case round =>
  obtain⟨i,us,xs,r,z,f,ls,O,rfl,hiM,bA,d,P,AL,Kr,Ma,D,dw,NV,Dz,⟨aH,hB1⟩,Kp,lS,yyf,U,hlp,G,hrg,yyd,XR⟩:=hrel;have he1:XQ lo hi w0 f.B wr:=by rw[hB1];exact HE.o.fr Kp HH.o.lo
  obtain⟨la,lc,rfl⟩:=zD G;by_cases ud:i<M
  .cases r with
   |nil=>exfalso;simp[Fo.len]at D;omega
   |text t r=>cases d
   |hash r=>cases d
   |put n a r=>cases d
   |num n a r=>cases d
   |br n a fo of cl C r=>cases d
   |uB k0 a0 W r0 =>
    obtain⟨AM,ma,mc,ms,rfl,GA,hmn,KM⟩:=bA;obtain⟨g2,o2,rfl,e0,e1,e2⟩:=G6 he1.keep Td.o Kr Ma;obtain⟨K,HE1,QP,JE,yl9,HLP,u,A⟩:=l8 Dz he1 Kp lS yyf hlp G hrg;obtain⟨Qm,HLR,lX,ae,nQ,HWS,HKK,Cv⟩:=l8 XR d P AL Kr Ma NV GA;obtain⟨HMN,FI,DZ,U5,UR,HLS⟩:=l6 hmn KM D dw U yyd;have k3:(i:Int)<(M:Int):=J;have k4:decide ((i:Int)<(M:Int))=true:=zV;clear Dz he1 Kp lS yyf hlp G hrg XR d P AL Kr Ma NV GA hmn KM D dw U yyd;go_wp2_with fail;obtain⟨wA,hwA⟩:=zo (wr.alloc (.cells #[zv k0,a0,.slice ma W.len mc] 219));have fA:Fr j6 j6 wr wA:=(by rw[<-hwA];exact(Fr.refl _ _).alloc _);have cA:=zg wr #[zv k0,a0,.slice ma W.len mc] 219 (0,0) 2;rw[hwA]at cA|-;clear hwA;have hmA:=K.o.fr fA (λ_ q=>q.elim);have zb4:k0∈C.keys:=HKK.o k0 (by simp[Fo.keys]);have U:=UR.o;simp only[Fo.gw]at U;refine(Dd.o f z wA k0 a0 ma W.len mc hmA (HB.o.al _ _ _ _ _ JE.o fA (λ_ q=>q.elim)) yl9.o J zb4).mono ?_;rintro e w2 ⟨rfl,N,F⟩;obtain⟨Cm,UF⟩:=HB.o.le k0 z;have nA:¬f.has p (wr:Nat):=λq=>yO _ (K.o.lt q)
    have c2:=F.cell cA nA;have f12:Fr (f.has p) (f.has p) wr w2:=(fA.wide (λ_ q=>q.elim)).trans F;have he2:XQ lo hi w0 f.B w2:=HE1.o.fr f12 K.o.lo;have P:=lX.o;have V:(decide (k0.length<=4000001) && W.vS && decide (W.len<=2000000) && W.wf 2000000 && r0.wf 2000000)=true:=ae.o;simp only[zQ,qP]at V;have ylz:zW W<zW C:=JF;have yly:=Z (HIH.o W ylz p f (bg k0 z) w2 ma mc ms N he2 Cv.o HMN.o V.1.1.1.2 V.1.2 P.2.1 V.1.1.2 J);have F12:=Z f12;have HWQ:=Z V.2;clear N F f12 he2 P V ylz cA fA hmA;go_wp2_with fail;refine yly.o.mono ?_;rintro e w3 ⟨rfl,L2,rR,⟨QW,OY⟩,A0⟩;have NG:=Z rR;have H:=Z A0;clear rR A0 yly c2;obtain⟨w4,Av,QS,lG⟩:=UZ 1 w3 J;rw[show((1:Nat):Int)=1 from rfl]at Av;have LY:=NG.o.fr lG (λ_ q=>q.elim);have he3:XQ lo hi w0 L2.B w3:=by
     have:=(HE1.o.fr F12.o K.o.lo).fr H.o K.o.lo;rw[OY];exact this
    have he4:XQ lo hi w0 L2.B w4:=he3.fr lG (λ_ q=>q.elim);obtain⟨l,E⟩:=zo (MkS.MA W (bg k0 z));rw[E]at LY NG;have hmz:=zz4 W (bg k0 z);rw[E]at hmz;have hx:(qI ⟨11,l.pos,0,[],yu 1 0⟩).length=3:=RY;have Vk:l.sz<=900000:=J;unfold MkS.sz at Vk;have HP:=Z (bO p L2 l 11 0 [] (yu 1 0) (.slice none 0 0) (.slice (w3,0) 1 1) w4 LY (qT.nil _) QS (λg hg=>VJ) (λg hg q=>sG) (λg hg q=>X0)
     (λg hg=>by rcases hg with hg|hg<;>cases hg;have:=NG.o.base;show L2.B<=(w3:Nat);omega)
     ⟨(by decide:11<12),zY,zY,by simp,by simp,rfl⟩ he4.fo he4.g1 J J J)
    have HF4:=Z lG;have xfb:=Z E;have HMZ:=Z hmz;clear LY he3 he4 QS lG hmz hx E;go_wp2_with fail;refine HP.o.mono ?_;rintro e w5 ⟨b,c,rfl,OA,Xv,Tf,L3,PM,⟨MR,hB3⟩,hf5,nb5,nc5⟩;have HM5:=Z PM;have HF5:=Z hf5;have pK:=Z OA;clear HP PM hf5 OA;have FA:=Z (show Fr (f.has p) (L3.has p) wr w5 from(((F12.o.trans H.o).trans (HF4.o.wide (λ_ q=>q.elim))).tr HF5.o (λq S=>by
     rcases S with S|S|S
     .exact(F12.o.trans H.o).fp q S
     .cases S
     .cases S;exact .inr (F12.o.trans H.o).size)))
    have T:=FA.o.own u.o (λg hg=>(A.o g hg).2);obtain⟨ln,D⟩:=zo ls.length;rw[D]at T u A|-;have lR:ln<=2000000:=(by have:=HLS.o;omega);have MS:=Z T;have zz6:=Z D;clear T D;go_wp2_with (at_builtin;refine I3 eP [_] 1 MS.o J ?_);intro v6 w6 aM Q;have n3:∀g,yd (.slice la ln lc) g->¬L3.has p g:=λg hg q=>(FA.o.fp g q).elim (A.o g hg).2 (by have:=ji u.o hg;omega)
    have cM:z.le l:=MkS.le_trans (HB.o.le k0 z).1 HMZ.o.1;have hl3:=MkS.le_trans cM (MkS.ZU l 11 0 [] (yu 1 0));have PD:=fZ l 11 0 [] (yu 1 0);have hx3:(qI ⟨11,l.pos,0,[],yu 1 0⟩).length=3:=RY;have hzz:=HMZ.o.2;obtain⟨G1,G2,G3,G4,G5⟩:=FD (HM5.o.fr Q n3) ((QP.o.trans FA.o).over Q (λq S => .inr (A.o q S).1)) (HB.o.al _ _ _ _ _ (HB.o.fr _ _ _ _ JE.o FA.o) Q (λq S=>(A.o q S).1)) (((HLP.o.fr FA.o hl3).more pK.o nb5 nc5 (i:=l.code.length) (y:=⟨11,l.pos,0,[],yu 1 0⟩) (by simp[MkS.put]) zY).ty Q (λq S=>jR MS.o S)) (show ∀g,yd v6 g->(w:Nat)<=g/\¬L3.has p g from λg hg=>(Q.fp g hg).elim (λq=>⟨(A.o g q).1,n3 g q⟩) (λq=>⟨zZ (QP.o.trans FA.o).size q,λe=>by have:=HM5.o.lt e;omega⟩));obtain⟨a6,c6,rfl⟩:=zD aM;have HO6:=Z aM;clear aM Q n3 Av;have hzb:=(HB.o.le k0 z).2;go_wp2;go_roundw
    case rel =>
     refine⟨i+1,us++[zv k0,.int .i64 a0,.slice ma W.len mc],AM,r0,l.put 11 0 [] (yu 1 0),L3,ls++[l.code.length],O++[(b,c)],xi,J,FI.o,HLR.o,lX.o.2.2,HWQ.o,DL,DM,by have:=DZ.o;simp only[Fo.len]at this;omega,by have:=U5.o;simp at this;omega,λk hk=>HKK.o k (by simp[Fo.keys,hk]),G1.o,⟨by rw[MR,QW,aH],by rw[hB3,OY,hB1]⟩,G2.o,G3.o,MkS.le_trans yl9.o hl3,J,G4.o,?_,G5.o,by rw[zI,HLS.o];rfl,?_⟩
     .have:=HO6.o;rw[<-zz6.o]at this|-;simpa[zzz]using this
     .have:=Qm.o;rw[go_leg,xfb.o]at this;exact this
    case measure=>simp only[intOf];omega
  .have j8:MkS.VZ r bg z ls=(z,ls):=by
    cases r with
    |nil=>rfl
    |text t r=>cases d
    |hash r=>cases d
    |put n a r=>cases d
    |num n a r=>cases d
    |br n a fo of cl C r=>cases d
    |uB k0 a0 W r0=>exfalso;simp only[Fo.len]at D;omega
   obtain rfl:(z,ls)=R:=j8.symm.trans XR;obtain⟨K,QP,HLP,u,A,UR⟩:=l6 Dz Kp hlp G hrg U;obtain⟨ln,yx1⟩:=zo ls.length;rw[yx1]at u A|-;have lR:ln<=2000000:=J;have DZ:=Z yx1;clear Dz he1 Kp lS yyf hlp G hrg XR d P AL Kr Ma NV D dw U bA j8 yx1 yyd;go_wp2_with fail;go_loopw [37] (λjv wr2=>∃j l,jv = .int .i64 (j:Nat)/\j<=ln/\uq p f l wr2/\Fr (f.has p) (f.has p) wr wr2/\l=(ls.take j).foldl (λs i=>s.qh i 0) z/\jQ wr2 p f l ls O/\l.sz<=900000) (λjv _=>ln - (intOf jv).toNat)
   case atStart=>exact⟨0,z,rfl,zG _,K.o,Fr.refl _ _,rfl,HLP.o,by have:=UR.o;omega⟩
   case round =>
    obtain⟨j,l,rfl,hj,N,F,E,hl2,Vk⟩:=hrel;obtain⟨Cx,ZT,ld,Jx⟩:=hdd N F hl2 E;by_cases Qt:j<ln
    .obtain⟨ij,hij⟩:∃ij,ls[j]? = some ij:=⟨_,zw (by have:=DZ.o;omega)⟩;obtain⟨⟨b,c⟩,MW⟩:∃x,O[j]? = some x:=⟨_,zw (by have:=DZ.o;have:=HLP.o.1;omega)⟩;obtain⟨hla,-,-,y,hy,hy1⟩:=hl2.2 j ij (b,c) hij MW;have T:=F.own u.o (λg hg=>(A.o g hg).2);obtain⟨g,gc,hve,-,-,CD⟩:=vK T J;cases hve;have La:zy wr g j (ZY b c):=by
      rw[CD j J];simp[zzz,MW]
     have ylq:l.code.length<=1000000:=(by unfold MkS.sz at Vk;omega);have HLA:=Z (KQ p f l ij 0 b c y wr N hla hy J ylq J);have HIJ:=Z hij;have k3:(j:Int)<(ln:Int):=J;have k4:decide ((j:Int)<(ln:Int))=true:=zV;clear N F hl2 E hla hy T CD hij MW;go_wp2_with fail;refine HLA.o.mono ?_;rintro e w3 ⟨rfl,rR,A0⟩;have NG:=Z rR;have H:=Z A0;clear rR A0 HLA;go_wp2;go_roundw
     case rel =>
      refine⟨j+1,l.qh ij 0,xi,J,NG.o,ZT.o.trans H.o,?_,ld.o.fr H.o (l.U6 _ _),by rw[X3];exact Vk⟩;rw[List.take_add_one,HIJ.o];simp[Jx.o]
     case measure=>simp only[intOf];omega
    .have HE2:=Z (show l=ls.foldl (λs i=>s.qh i 0) z by rw[E,xJ (by have:=DZ.o;omega)]);have k3:¬(j:Int)<(ln:Int):=(by omega);have k4:decide ((j:Int)<(ln:Int))=false:=zV;clear N F hl2 E;go_wp2;refine zU (v := .tuple #[]) ?_ rfl ?_
     .simp[yk,results97,go_sem]
     rw[<-HE2.o];exact⟨rfl,f,Cx.o,⟨aH,hB1⟩,QP.o.trans ZT.o⟩
variable{n:Nat}
def QD(w:z7)(b n:Nat)(f:Wd->Option Nat):Prop :=
 ∃D:DataW Unit,w.ownsMap prog 9 (plainElem prog 3) b n D/\Maps.size D=n/\∀m:Wd,znq D (.string m)=(f m).isSome/\D.atKey (.string m) (.lit (.int .i64 0)) = .lit (.int .i64 (((f m).getD 0:Nat):Int))
def QD.g{w:z7}{b:Nat}{f:Wd->Option Nat}(h:QD w b n f):jk 3 w b n f:=by
 obtain⟨D,h1,-,a⟩:=h;exact⟨D,h1,h1.isMap,a⟩
def QD.made(w:z7):QD (w.alloc (.map #[] 0)) (w:Nat) 0 (λ_=>none):=⟨.map [],C5 w _ _ _,rfl,λm=>⟨rfl,rfl⟩⟩
def QD.fr{w w':z7}{b:Nat}{f:Wd->Option Nat}(h:QD w b n f)(hf:Fr F F' w w')(hb:¬F b):QD w' b n f:=by
 have c:=h.g.lt;obtain⟨D,⟨es,a,d,rest⟩,h2⟩:=h;exact⟨D,⟨es,a,(hf.keep b c hb).trans d,rest⟩,h2⟩
def QD.len{w:z7}{b:Nat}{f:Wd->Option Nat}(h:QD w b n f)(ty:uP):(zek #[103] ty #[.map (some b)]).run prog w = .ok (n:Nat) w:=by
 obtain⟨D,h1,rfl,_⟩:=h;exact h1.len underlying103 ty
def QD.put{w:z7}{b:Nat}{f:Wd->Option Nat}(h:QD w b n f)(m:Wd)(hm:m.length<=5000000)(k:Nat)(i:k<=1000000000)(hn:n<=1000000000)(hf:f m=none) :
  ∃w',(Cw 103 (.map (some b)) (zv m) (k:Int)).run prog w = .ok () w'/\QD w' b (n+1) (λx=>if m=x then some k else f x)/\w.grownBy w' (some b):=by
 obtain⟨D,h1,h2,h3⟩:=h;have hi:=h1.isMap;have e:=h1.tidy (vE underlying9);obtain⟨w',d,c,g⟩:=h1.update (vE underlying9) underlying103 Z7 (key:=zv m) (xy (s:=⟨m.toArray⟩) underlying9 GV)
  (Zh underlying3 (q := .i64) (a:=(k:Int)) Pr)
 rw[toList_mk]at c;refine⟨w',d,⟨_,c,?_,λx=>?_⟩,g⟩
 .rw[Maps.size_put e,(h3 m).1,hf];simp[h2]
 .by_cases hx:m=x
  .subst hx;simp only[↓reduceIte];exact⟨nl,by rw[dC hi (show ku (.string m)from trivial)];simp⟩
  .exact mL
structure Yq(N p i4 pb mb:Nat)(kv:zx)(acc:List Nat)(done:List Wd)(L:Yc)(w:z7):Prop where
 k0:zy w i4 0 (.int .i64 10)
 k1:zy w i4 1 (.int .i64 0)
 k2:zy w i4 2 (.int .i64 0)
 k3:zy w i4 3 kv
 k4:zy w i4 4 (.slice none 0 0)
 z:∀j,w.frozen? ⟨i4,j,none⟩=false
 pm:zy w pb 0 (.map (some mb))
 mp:QD w mb done.length (ke done)
 row:qT w kv acc
 lo:N<=i4/\N<=pb/\N<=mb/\∀g,yd kv g->N<=g
 out:¬L.has p i4/\¬L.has p pb/\¬L.has p mb/\∀g,yd kv g->¬L.has p g
 ne:i4≠pb/\i4≠mb/\pb≠mb/\¬yd kv i4/\¬yd kv pb/\¬yd kv mb
section
variable {N p i4 pb mb:Nat} {kv:zx} {acc:List Nat} {done:List Wd} {L L':Yc} {w w':z7}
def Yq.lt(h:Yq N p i4 pb mb kv acc done L w):i4<(w:Nat)/\pb<(w:Nat)/\mb<(w:Nat):=⟨Y w _ h.k0,Y w _ h.pm,h.mp.g.lt⟩
def Yq.keep(h:Yq N p i4 pb mb kv acc done L w)(hf:Fr F F' w w')(hF:∀g,(g=i4\/g=pb\/g=mb\/yd kv g)->¬F g)(d:∀g,(g=i4\/g=pb\/g=mb\/yd kv g)->¬L'.has p g):Yq N p i4 pb mb kv acc done L' w':=by
 have a:=hF i4 (.inl rfl);have b:=hF pb (.inr (.inl rfl));have c:=hF mb (.inr (.inr (.inl rfl)));exact⟨hf.cell h.k0 a,hf.cell h.k1 a,hf.cell h.k2 a,hf.cell h.k3 a,hf.cell h.k4 a,λj=>(hf.frozen h.lt.1 a).trans (h.z j),hf.cell h.pm b,h.mp.fr hf c,hf.own h.row (λg e=>hF g (.inr (.inr (.inr e)))),h.lo,⟨d i4 (.inl rfl),d pb (.inr (.inl rfl)),d mb (.inr (.inr (.inl rfl))),λg e=>d g (.inr (.inr (.inr e)))⟩,h.ne⟩
def Yq.all(h:Yq N p i4 pb mb kv acc done L w):∀g,(g=i4\/g=pb\/g=mb\/yd kv g)->¬L.has p g/\g<(w:Nat)/\N<=g:=by
 rintro g (rfl|rfl|rfl|a)
 .exact⟨h.out.1,h.lt.1,h.lo.1⟩
 .exact⟨h.out.2.1,h.lt.2.1,h.lo.2.1⟩
 .exact⟨h.out.2.2.1,h.lt.2.2,h.lo.2.2.1⟩
 .exact⟨h.out.2.2.2 g a,ji h.row a,h.lo.2.2.2 g a⟩
def Yq.fr(h:Yq N p i4 pb mb kv acc done L w)(hf:Fr (L.has p) (L'.has p) w w'):Yq N p i4 pb mb kv acc done L' w' :=
 h.keep hf (λg a=>(h.all g a).1) (λg a q=>(hf.fp g q).elim (h.all g a).1 (by have:=(h.all g a).2.1;omega))
def Yq.al(h:Yq N p i4 pb mb kv acc done L w)(hf:Fr F F' w w')(hF:∀g,F g->(w:Nat)<=g):Yq N p i4 pb mb kv acc done L w' :=
 h.keep hf (λg hg q=>pd) (λg hg=>(h.all g hg).1)
def Yq.key{t:Wd}(h:Yq N p i4 pb mb kv acc done L w)(d:t ∉ done)(hm:QD w' mb (done.length+1) (λx=>if t=x then some done.length else ke done x))(a:w.grownBy w' (some mb)):Yq N p i4 pb mb kv acc (done++[t]) L w':=by
 have hf:Fr (λk=>k=mb) (λk=>k=mb) w w':=⟨a.os,a.tape,a.output,a.size,λk c hn=>a.block k c (λe=>hn (zR e)),λ_ q => .inl q⟩;obtain⟨l,b,f,m,n,i⟩:=h.ne;rw[GM d]at hm;exact⟨hf.cell h.k0 b,hf.cell h.k1 b,hf.cell h.k2 b,hf.cell h.k3 b,hf.cell h.k4 b,λj=>(hf.frozen h.lt.1 b).trans (h.z j),hf.cell h.pm f,by simpa using hm,hf.own h.row (λg a e=>i (e▸a)),h.lo,h.out,h.ne⟩
def Yq.num{d:zx}(h:Yq N p i4 pb mb kv acc done L w)(hr:qT w2 d (acc++[n]))(hf:Fr (yd kv) (yd d) w w2)(s:∀g,L.has p g->g<(w:Nat))(x:N<=(w:Nat)):Yq N p i4 pb mb d (acc++[n]) done L (w2.setCell (i4,3) d):=by
 obtain⟨m,o,u,f,q,r⟩:=h.ne;have l:∀g,yd d g->yd kv g\/(w:Nat)<=g:=hf.fp;have i:∀g,g<(w:Nat)->¬yd kv g->¬yd d g:=λg a b c=>(l g c).elim b J
 have c:=λ(j:Nat) (v:zx) (hc:zy w i4 j v) (t:j≠3)=>(show(w2.setCell (zX i4 3) d).cell? (zX i4 j)=some v by rw[zN,zL (λe=>t (by cases e;rfl))];exact hf.cell hc f)
 refine⟨c 0 _ h.k0 zj,c 1 _ h.k1 zj,c 2 _ h.k2 zj,Z5 (hf.cell h.k3 f) _,c 4 _ h.k4 zj,λj=>by rw[zO];exact(hf.frozen h.lt.1 f).trans (h.z j),Qe (hf.cell h.pm q) _ m,
  (h.mp.fr hf r).fr (show Fr (λg=>g=i4) (λg=>g=i4) w2 (w2.setCell (i4,3) d) from(Fr.refl _ _).set _ (.inl rfl)) (λe=>o e.symm),yC hr (i _ h.lt.1 f) _,⟨h.lo.1,h.lo.2.1,h.lo.2.2.1,λg k=>(l g k).elim (h.lo.2.2.2 g) J⟩,
  ⟨h.out.1,h.out.2.1,h.out.2.2.1,λg k=>(l g k).elim (h.out.2.2.2 g) (λa b=>by have:=s g b;omega)⟩,m,o,u,i _ h.lt.1 f,i _ h.lt.2.1 q,i _ h.lt.2.2 r⟩
end
structure KN(N p idx tb b c pb mb n:Nat)(f:Wd->Option Nat)(L:Yc)(w:z7):Prop where
 t:zy w tb 0 (ZY b c)
 l:jg w p idx b c
 pm:zy w pb 0 (.map (some mb))
 mp:jk 3 w mb n f
 out:¬L.has p tb/\¬L.has p b/\¬L.has p c/\¬L.has p pb/\¬L.has p mb
 lt:tb<N/\b<N/\c<N/\pb<N/\mb<N
section
variable {N p idx tb b c pb mb n:Nat} {f:Wd->Option Nat} {L L':Yc} {w w':z7}
def KN.keep(h:KN N p idx tb b c pb mb n f L w)(hf:Fr F F' w w')(hF:∀g,(g=tb\/g=b\/g=c\/g=pb\/g=mb)->¬F g/\¬L'.has p g):KN N p idx tb b c pb mb n f L' w':=by
 have h1:=hF tb (.inl rfl);have h2:=hF b (.inr (.inl rfl));have a:=hF c (.inr (.inr (.inl rfl)));have d:=hF pb (.inr (.inr (.inr (.inl rfl))));have e:=hF mb (.inr (.inr (.inr (.inr rfl))));exact⟨hf.cell h.t h1.1,h.l.fr hf h2.1 a.1,hf.cell h.pm d.1,h.mp.fr hf e.1,⟨h1.2,h2.2,a.2,d.2,e.2⟩,h.lt⟩
def KN.all(h:KN N p idx tb b c pb mb n f L w):∀g,(g=tb\/g=b\/g=c\/g=pb\/g=mb)->¬L.has p g/\g<N/\g<(w:Nat):=by
 obtain⟨k,m,o,q,r⟩:=h.out;obtain⟨a,d,e,i,j⟩:=h.lt;rintro g (rfl|rfl|rfl|rfl|rfl)
 .exact⟨k,a,Y w _ h.t⟩
 .exact⟨m,d,h.l.lt.1⟩
 .exact⟨o,e,h.l.lt.2⟩
 .exact⟨q,i,Y w _ h.pm⟩
 .exact⟨r,j,h.mp.lt⟩
def KN.fr(h:KN N p idx tb b c pb mb n f L w)(hf:Fr (L.has p) (L'.has p) w w'):KN N p idx tb b c pb mb n f L' w' :=
 h.keep hf (λg a=>⟨(h.all g a).1,λq=>(hf.fp g q).elim (h.all g a).1 (by have:=(h.all g a).2.2;omega)⟩)
def KN.al(h:KN N p idx tb b c pb mb n f L w)(hf:Fr F F' w w')(hF:∀g,F g->N<=g):KN N p idx tb b c pb mb n f L w' :=
 h.keep hf (λg hg=>⟨λq=>pd,(h.all g hg).1⟩)
def zzx(s:MkS)(x:Jn)(key:Wd)(a:Nat)(ma:Option yi)(E mc:Nat)(hm:uq p L s w)(h:KN N p idx tb b c pb mb n f L w)(M:key.length<=17)(hx:s.code[idx]? = some x)(C:(f key).getD 0<x.tg.length)(H:x.tg.length<=1000000)(hs:s.code.length<=900000) :
  zE prog 98 #[.agg #[zv key,a,.slice ma E mc],(tb,0),(pb,0)] w (OX p L (s.qh idx ((f key).getD 0)) w):=by
 obtain⟨A,hA⟩:=zo (w.alloc (.cells #[zv key,a,.slice ma E mc] 219));have u:Fr j6 j6 w A:=Jj;have d:=h.keep u (L':=L) (λg G=>⟨id,(h.all g G).1⟩);have r:=hm.fr u (λ_ q=>q.elim);have K:=zg w #[zv key,a,.slice ma E mc] 219 (0,0) 0;obtain⟨j,k⟩:=zo ((f key).getD 0);have D:=d.mp.Ee Jp key J;rw[k]at D C|-;have O:=d.t;have hp:=d.pm;have F:=Z (KQ p L s idx j b c x A r d.l hx C J H);have z:=Z u;have I:=Z hA;subst hA;clear h hm d r hx C k u;go_enter func98,ntmps98;go_wp2_with fail;refine F.o.mono ?_;rintro e w2 ⟨rfl,m,i⟩;have B:=Z m;have y:=Z i;clear F m i;go_wp2;refine zU (v := .tuple #[]) ?_ rfl ?_
 .simp[yk,results98,go_sem]
 exact⟨rfl,B.o,(z.o.wide (λ_ q=>q.elim)).trans y.o⟩
end
def eS{s:MkS}(h:uq p L s w)(n N:Nat)(r:N<=(w:Nat)) :
  ∃W,W=(((w.alloc (.cells #[n] 3)).alloc (.cells #[.int .i64 10,.int .i64 0,.int .i64 0,.slice (w,0) 1 1,.slice none 0 0] 110)).alloc (.map #[] 0)).alloc (.cells #[.map (some ((w:Nat)+2))] 103) /\
   Yq N p ((w:Nat)+1) ((w:Nat)+3) ((w:Nat)+2) (.slice (w,0) 1 1) [n] [] L W/\Fr j6 j6 w W:=by
 obtain⟨A,hA⟩:=zo (w.alloc (.cells #[n] 3));have c:(A:Nat)=(w:Nat)+1:=by rw[<-hA];simp
 have t:qT A (.slice (zX (w:Nat) 0) 1 1) [n]:=by rw[<-hA];exact qT.lit w [n] zY
 have m:Fr j6 j6 w A:=Jj;rw[hA];clear hA;obtain⟨B,hB⟩:=zo (A.alloc (.cells #[.int .i64 10,.int .i64 0,.int .i64 0,.slice (zX (w:Nat) 0) 1 1,.slice none 0 0] 110));have a:=λj=>zg A #[.int .i64 10,.int .i64 0,.int .i64 0,.slice (zX (w:Nat) 0) 1 1,.slice none 0 0] 110 (0,0) j
 have zB:∀j,B.frozen? ⟨(w:Nat)+1,j,none⟩=false:=by intro j;rw[<-hB,<-c];simp
 rw[hB,c]at a;have l:(B:Nat)=(w:Nat)+2:=by rw[<-hB];simp[c]
 have d:Fr j6 j6 A B:=R8;rw[hB];clear hB;obtain⟨C,hC⟩:=zo (B.alloc (.map #[] 0));have k:=QD.made B;rw[hC,l]at k;have u:(C:Nat)=(w:Nat)+3:=by rw[<-hC];simp[l]
 have o:Fr j6 j6 B C:=R9;rw[hC];clear hC;have i:Fr j6 j6 C (C.alloc (.cells #[.map (some ((w:Nat)+2))] 103)):=(Fr.refl _ _).alloc _;have f:=o.trans i;have no:∀g,(w:Nat)<=g->¬L.has p g:=λg b q=>by have:=h.lt q;omega
 refine⟨_,rfl,⟨f.cell (a 0) id,f.cell (a 1) id,f.cell (a 2) id,f.cell (a 3) id,f.cell (a 4) id,λj=>(f.frozen (show (w:Nat)+1<_ by omega) id).trans (zB j),?_,k.fr i id,(d.trans f).own t (λ_ _=>id),⟨J,J,J,λg b=>by cases b;exact r⟩,
  ⟨no _ J,no _ J,no _ J,λg b=>no g (by cases b;exact X _)⟩,⟨J,J,J,λe=>?_,λe=>?_,λe=>?_⟩⟩,m.trans (d.trans f)⟩
 .rw[<-u];exact zg C #[.map (some ((w:Nat)+2))] _ _ _
 all_goals
  have e2:(w:Nat)=_:=zR e;omega
def zzv(ks:List Wd)(k:Wd)(h:k∈ks):(ke (ks.filter (· ≠ fY)++[fY]) k).getD 0=MkS.place ks k/\MkS.place ks k<=(ks.filter (· ≠ fY)).length:=by
 unfold ke MkS.place;by_cases a:k=fY
 .subst a;rw[zl zY,zl rfl];have:fY ∉ ks.filter (· ≠ fY):=by simp
  simp[List.idxOf_append,this,List.idxOf_cons]
 .have hm:k∈ks.filter (· ≠ fY):=kY.2 ⟨h,by simp[a]⟩;rw[zl (by simp[h,a]),zL a,List.idxOf_append,zl hm];exact⟨rfl,ypy⟩
def My(b0:Nat)(n:Wd)(a:Nat)(of:Wd)(cl:Nat)(bs:Fo)(p:Nat)(L:Yc)(s:MkS)(w:z7)
  (ih:∀m:Fo,zW m<zW bs->OW lo hi w0 m) (h:uq p L s w) (he:XQ lo hi w0 L.B w)
  (Cy:zt lo hi w0 [.iface 159 (b0,0)] (.br n a 0 of cl bs .nil)) (hc:(Fo.br n a 0 of cl bs .nil).Cl) (SS:(Fo.br n a 0 of cl bs .nil).wf 2000000=true) (hs:s.sz+(40+bs.cw)<=900000) :
  zE prog 68 #[(p,0),(b0,0)] w (MQ p L (Fk bs (MkS.FX n bs s) (MkS.QF n bs s)) w):=by
 have lY:=@run_makeMap prog;have HND:=Z Cy;obtain⟨vt,b',ba,bc,ws,hee,qV,qX,FN,La,I9,SD,Lc,Tf,EX,EV,_⟩:=Cy;cases hee;obtain⟨hnl,-,-,hL,zzu,Tu,MW,-⟩:=hc;have Db:(decide (n.length<=4000001) && decide (0<3) && bs.ug && decide (bs.len<=2000000) && bs.wf 2000000 && Fo.nil.wf 2000000)=true:=SS;simp only[zQ,qP]at Db;obtain⟨⟨⟨-,hbn⟩,CS⟩,-⟩:=Db;have c0:=ym he.keep FN qV qX;have c4:=ym he.keep Lc qV qX;have dw:s.cs.length<=900000/\s.code.length<=900000/\s.pos<=900000:=R7;obtain⟨HC,HH,HE,Td,HBS,HL,Tb,HKS⟩:=l8 (Ud p L s n w h J J) h he EX EV hL zzu Tu;obtain⟨HBC,HBW,HIH,HS⟩:=hdd MW CS ih hs;obtain⟨M,hM⟩:=zo bs.len;have HM:=Z hM;rw[hM]at c4 hbn;obtain⟨k0,AN⟩:=zo (s.num n);rw[AN]at HC;have TZ:=Z AN;clear h he EX EV hL zzu Tu MW CS ih hs hM FN La I9 SD Lc Tf AN SS;go_enter func68,ntmps68;go_wp2_with fail;refine HC.o.mono ?_;rintro e w1 ⟨rfl,L1,Dz,⟨aH,hB1⟩,Kp⟩;clear HC;obtain⟨W,hW,af,hfw⟩:=eS Dz k0 (w:Nat) Kp.size;have c4:=Kp.cell (a:=(zX b0 4)) c4 (λq=>by have:=HH.o.lo _ q;have:=HE.o.hB;simp only at *;omega);have c4a:=λo1 o2 o3 o4=>yG (yG (yG (yG c4 o1) o2) o3) o4
 obtain⟨R,hR⟩:=zo (MkS.ZL bs (s.const n) [k0]);have HR:=Z hR;have z1:=(gu s n).1;go_wp2_with fail;rw[<-hW];obtain⟨i4,hi4⟩:=zo ((w1:Nat)+1);obtain⟨pb,hpb⟩:=zo ((w1:Nat)+3);obtain⟨mb,PL⟩:=zo ((w1:Nat)+2);rw[hi4,show i4+1+1=pb by omega];go_loopw [24] (λiv wr=>∃i us xs r D S acc kv done pre,iv = .int .i64 (i:Nat)/\i<=M/\zt lo hi w0 xs r/\r.ug=true/\us.length=i*3/\ws=us++xs/\i+r.len=M/\bs.keys=pre++r.keys/\done=pre.filter (· ≠ fY) /\
  uq p S D wr/\(S.q=L.q/\S.B=L.B)/\Fr (L.has p) (S.has p) w wr/\Yq (w:Nat) p i4 pb mb kv acc done S wr/\MkS.ZL r D acc=R/\done.length<=i/\(acc.length=done.length+1/\∀x∈acc,x<=900000)/\D.sz+r.keys.length<=899990) (λiv _=>M - (intOf iv).toNat)
 case atStart =>
  rw[hi4,hpb,PL]at af;exact⟨0,[],ws,bs,s.const n,L1,[k0],_,[],[],rfl,zG _,HBS.o,HL.o,rfl,rfl,by have:=HM.o;omega,rfl,rfl,Dz.fr hfw (λ_ q=>q.elim),⟨aH,hB1⟩,Kp.trans (hfw.wide (λ_ q=>q.elim)),af,HR.o,X _,⟨rfl,by have:=Lr s n;have:=TZ.o;simp;omega⟩,by have:=HS.o;have:=Fo.Ub bs;omega⟩
 case round =>
  clear hW af hfw Dz Kp c4 c4a hR;obtain⟨i,us,xs,r,D,S,acc,kv,done,pre,rfl,hiM,bA,Fu,Kr,Ma,Vf,N,G,GJ,⟨QW,OY⟩,V0,Q,XR,uw,⟨CT,hax⟩,ZE⟩:=hrel;have HAX:=Z hax;have HAL:=Z CT;have xd3:acc.length<=i+1:=J;clear hax CT;have he2:XQ lo hi w0 S.B wr:=by rw[OY];exact HE.o.fr V0 HH.o.lo
  obtain⟨Cx,HE2,ZT,E,Qm,HLR,nQ,HWS⟩:=l8 GJ he2 V0 Q XR Fu Kr Ma;obtain⟨DZ,zg4,HDN,UR⟩:=hdd Vf N G ZE;by_cases ud:i<M
  .cases r with
   |nil=>exfalso;simp[Fo.len]at Vf;omega
   |text t r=>cases Fu
   |hash r=>cases Fu
   |put n a r=>cases Fu
   |num n a r=>cases Fu
   |br n a fo of cl bs r=>cases Fu
   |uB k1 a0 m0 r0 =>
    obtain⟨AM,ma,mc,ms,rfl,GA,hmn,KM⟩:=bA;obtain⟨g2,o2,rfl,e0,e1,e2⟩:=G6 he2.keep Td.o Kr Ma;have FI:=Z KM;have k3:(i:Int)<(M:Int):=J;have k4:decide ((i:Int)<(M:Int))=true:=zV;clear GJ he2 V0 XR Fu Kr Ma GA hmn KM Vf N G ZE;have hfA:Fr j6 j6 wr (wr.alloc (.cells #[zv k1,a0,.slice ma m0.len mc] 219)):=(Fr.refl _ _).alloc _;have U:=E.o.al hfA (λ_ q=>q.elim);have L8:=Z U;have HFA:=Z (ZT.o.trans (hfA.wide (λ_ q=>q.elim)));have HMA:=Z (Cx.o.fr hfA (λ_ q=>q.elim));have zb6:=DZ.o;simp only[Fo.len]at zb6;have Dh:=UR.o;simp only[Fo.keys,zm]at Dh;by_cases hko:k1=fY
    .have kq:(k1==[111,116,104,101,114])=true:=(by rw[hko];decide);have HKO:=Z hko;clear hfA U Q hko;go_wp2;go_roundw
     case rel =>
      refine⟨i+1,us++[zv k1,.int .i64 a0,.slice ma m0.len mc],AM,r0,D,S,acc,kv,done,pre++[k1],by go_num,J,FI.o,HLR.o,DL,DM,J,JN,by rw[HDN.o,lN];simp[HKO.o],HMA.o,⟨QW,OY⟩,HFA.o,L8.o,?_,J,⟨HAL.o,HAX.o⟩,J⟩;have:=Qm.o;rw[MkS.ZL,zl HKO.o]at this;exact this
     case measure=>simp only[intOf];omega
    .have kq:(k1==[111,116,104,101,114])=false:=(by simpa[fY]using hko);have HKO:=Z hko;have hkb:k1∈bs.keys:=JN;have O:k1 ∉ done:=by
      rw[HDN.o];intro q;have h1:=Tb.o;rw[zg4.o]at h1;exact(zuq.1 h1).2.2 k1 (kY.1 q).1 k1 (by simp[Fo.keys]) rfl
     have xd4:=(HKS.o k1 hkb).1;obtain⟨A,hdn⟩:=zo done.length;have V:=U.mp.len;obtain⟨wp,P,hmp,j⟩:=U.mp.put k1 J done.length J J (by unfold ke;rw[zL O]);have pmA:=U.pm;have f:=Z (U.key O hmp j);have lF:Fr (λg=>g=mb) (λg=>g=mb) (wr.alloc (.cells #[zv k1,a0,.slice ma m0.len mc] 219)) wp:=⟨j.os,j.tape,j.output,j.size,λk hk hn=>j.block k hk (λe=>hn (zR e)),λ_ q => .inl q⟩;rw[hdn]at V P uw;have I:=Z lF;have HGP:=Z (show zy wp (wr:Nat) 0 (zv k1)from lF.cell (zg _ _ _ _ _) (λe=>by have:=E.o.lt.2.2;simp only at e;omega));clear hfA U Q lF hmp j hko;have yx4:=HMA.o.fr I.o (by rintro g rfl;exact E.o.out.2.2.1);have ylg:D.cs.length<=1000000:=(by unfold MkS.sz at Dh;omega);have lK:=Z (Ud p S D k1 wp.drew yx4.drew J ylg);have HMP:=Z yx4;obtain⟨kn,Qn⟩:=zo (D.num k1);rw[Qn]at lK;have IH:=Z Qn;have HHL:=Z (show Fr (L.has p) (S.has p) w wp from HFA.o.over I.o (by rintro g rfl;exact .inr E.o.lo.2.2.1));obtain⟨ac,cc,rfl⟩:=zD f.o.row;have k3c:=f.o.k3;have kec:=HGP.o;have neb:¬S.has p (wr:Nat):=λq=>by have:=Cx.o.lt q;omega
     obtain⟨an,han⟩:=zo acc.length;rw[han]at k3c;have xd3:an<=i+1:=J;have Y4:=f.o.row;rw[show qT wp (.slice ac acc.length cc) acc=wp.ownsRow 0 3 1 (.slice ac acc.length cc) acc.length (Yx acc)from rfl,han]at Y4;have gi:=Z Y4;have HAN:=Z han;clear yx4 ylg Qn Y4 han;go_wp2_with fail;clear P V pmA;refine PG (λW':z7=>zy W' i4 3 (.slice ac an cc)/\zy W' (wr:Nat) 0 (zv k1)) 9 [0,1,2,3,4] 5 ⟨k3c,kec⟩ ?_;refine UG 5 (λJk hJ=>?_);go_simp;refine lK.o.mono ?_;rintro e w5 ⟨rfl,L3,PM,⟨MR,hB3⟩,C⟩;have C:=C.und;have k5:=C.cell k3c f.o.out.1;have e5:=C.cell kec neb;have K:=f.o.fr C;refine hJ.out _ _ ⟨k5,e5⟩ λ_=>?_
     clear hJ Jk;refine UG 6 (λJk hJ=>?_);go_simp;refine hJ.out _ _ ⟨yG k5 _,yG e5 _⟩ λ_=>?_
     clear hJ Jk;refine UG 7 (λJk hJ=>?_);rw[zl (by rfl)];refine Qi U1 [_] 1 (C.own gi.o (λg l=>f.o.out.2.2.2 g (by rw[HAN.o];exact l))) J ?_;intro v6 w6 aM T;rw[HAN.o]at K;have EZ:qT w6 v6 (acc++[kn]):=by
      show World.ownsRow _ _ _ _ _ (acc++[kn]).length _;rw[zI,HAN.o];simpa[Yx]using aM
     have z6:=(T.frozen (a:=(i4,3)) K.lt.1 K.ne.2.2.2.1).trans (K.z 3);have HSN:=Z (K.num EZ T (λg l=>PM.lt l) (zZ ZT.o.size (zZ zY (zZ I.o.size C.size))));have HM6:=Z (PM.fr T (λg l=>K.out.2.2.2 g l));have HF6:=Z ((HHL.o.trans C).over T (λg l => .inr (K.lo.2.2.2 g l)));have k6:=T.cell k5 K.ne.2.2.2.1;have eT:¬yd (.slice ac an cc) (wr:Nat):=λq=>by
      have h1:=E.o.row;have h2:=f.o.ne;have:=ji E.o.row (g:=(wr:Nat)) (by rw[HAN.o];exact q);omega
     have e6:=T.cell e5 eT;obtain⟨a6,c6,rfl⟩:=zD aM;clear K EZ aM;go_simp;refine hJ.out _ _ ⟨k6,e6⟩ λ_=>?_
     clear hJ Jk;refine qY [8] 1 rfl fy yy yy ⟨k6,e6⟩ ?_;refine ty ?_;try simp only[pl]
     refine yA ?_;refine N3 9 (λJk hJ=>?_);go_simp;refine hJ.out _ _ ?_;clear hJ Jk;refine N4 ?_ _;have fst:∀u,Fr (λg=>g=i4) (λg=>g=i4) w6 (w6.setCell (i4,3) u):=λu=>(Fr.refl _ _).set _ (.inl rfl)
     have HFS:=Z (fst (.slice a6 (an+1) c6));have HLO:=Z E.o.lo;have HOU:=Z (show ¬L3.has p i4 from HSN.o.out.1);clear C T PM k5 e5 k6 e6 fst;go_wp2;go_roundw
     case rel =>
      refine⟨i+1,us++[zv k1,.int .i64 a0,.slice ma m0.len mc],AM,r0,D.const k1,L3,acc++[kn],_,done++[k1],pre++[k1],xi,J,FI.o,HLR.o,DL,DM,J,JN,?_,HM6.o.fr HFS.o (by rintro g rfl;exact HOU.o),⟨MR.trans QW,hB3.trans OY⟩,HF6.o.over HFS.o (by rintro g rfl;exact .inr HLO.o.1),HSN.o,?_,zV,⟨by simp[HAL.o],?_⟩,?_⟩
      .rw[HDN.o,lN];simp[HKO.o]
      .have:=Qm.o;rw[MkS.ZL,zL HKO.o,IH.o]at this;exact this
      .intro x hx;rcases xY.1 hx with hx|hx
       .exact HAX.o x hx
       .simp at hx;have:=Lr D k1;have:=IH.o;unfold MkS.sz at Dh;omega
      .have:=(gu D k1).1;omega
     case measure=>simp only[intOf];omega
  .have j8:r.keys=[]/\MkS.ZL r D acc=(D,acc):=zl5;have ZC:=Z (show R=(D,acc)from XR.symm.trans j8.2);have Cf:=Z (show bs.keys=pre by rw[N,j8.1];simp);have O:fY ∉ done:=(by rw[G];simp);obtain⟨A,hdn⟩:=zo done.length;have V:=Q.mp.len;obtain⟨wp,P,hmp,j⟩:=Q.mp.put fY zj done.length J J (by unfold ke;rw[zL O]);have pmA:=Q.pm;have f:=Z (Q.key O hmp j);have lF:Fr (λg=>g=mb) (λg=>g=mb) wr wp:=⟨j.os,j.tape,j.output,j.size,λk hk hn=>j.block k hk (λe=>hn (zR e)),λ_ q => .inl q⟩;rw[hdn]at V P uw;rw[show zv fY = .string ⟨#[111,116,104,101,114]⟩from rfl]at P;have vgu:A<=100000:=by
    have h1:done.length<=bs.keys.length:=(by rw[Cf.o,G];exact List.length_filter_le ..);have:=Fo.Ub bs;have:=HS.o;omega
   have I:=Z lF;have k3:¬(i:Int)<(M:Int):=J;have k4:decide ((i:Int)<(M:Int))=false:=zV;have pmp:=f.o.pm;have hlp:=f.o.mp.len;rw[zI,hdn]at hlp;have vgq:∀ty,(zek #[103] ty #[.map (some mb)]).run prog wp = .ok ((A+1:Nat):Int) wp:=hlp;obtain⟨wm,Av,hkm,AB⟩:=UZ (A+1) wp J;have yld:=Z hdn;clear GJ he2 V0 Q XR Fu Kr Ma Vf N G ZE bA j8 hmp j lF hlp hdn;rw[show((A+1:Nat):Int)=(A:Int)+1 by omega]at Av;have hS:=f.o.al AB (λ_ q=>q.elim);obtain⟨ac,ak,wK⟩:=zD hS.row;have q0:=hS.k0;have q1:=hS.k1;have q2:=hS.k2;have q3:=hS.k3;have q4:=hS.k4;have z4:=hS.z 4;have FP:=I.o;have nmb:∀g,S.has p g->g≠mb:=(by rintro g l rfl;exact E.o.out.2.2.1 l);have fm2:Fr (λg=>g=mb) (λg=>g=mb) wr wm:=FP.trans (AB.wide (λ_ q=>q.elim));have ylb:=Cx.o.fr fm2 (by rintro g rfl l;exact nmb _ l rfl);have hSt:∀u,Fr (λg=>g=i4) (λg=>g=i4) wm (wm.setCell (i4,4) u):=λu=>(Fr.refl _ _).set _ (.inl rfl)
   obtain⟨NG,HEE,GZ,HFM,HKM⟩:=FD (ylb.fr (hSt (.slice (zX (wp:Nat) 0) (A+1) (A+1))) (by rintro g rfl;exact E.o.out.1)) ((HE2.o.fr fm2 (by rintro g rfl;have:=E.o.lo.2.2.1;have:=Cx.o.base;have:=HH.o.base;omega)).fr (hSt (.slice (zX (wp:Nat) 0) (A+1) (A+1))) (by rintro g rfl;have:=E.o.lo.1;have:=HH.o.base;omega)) hS AB hkm;rw[wK]at q3;clear hS FP fm2 ylb hSt AB hkm nmb;go_wp2_with fail;obtain⟨wS,hwS⟩:=zo (wm.setCell (zX i4 4) (.slice (zX (wp:Nat) 0) (A+1) (A+1)));rw[hwS]at NG HEE|-;have H:acc.length=A+1:=(by rw[HAL.o,yld.o]);obtain⟨x0,ym1,pE⟩:∃x0 ym1,acc=x0::ym1:=by
    cases acc with
    |nil=>simp at H
    |cons a b=>exact⟨a,b,rfl⟩
   have hS:=GZ.o;have lwp:∀g,S.has p g->g<(wp:Nat):=λg l=>by have:=Cx.o.lt l;have:=I.o.size;omega
   have lkp:∀g,yd kv g->g<(wp:Nat):=λg l=>ji f.o.row l
   have rk1:qT wS kv acc:=(by rw[<-hwS];exact yC hS.row hS.ne.2.2.2.1 _);have rt1:qT wS (.slice (wp,0) (A+1) (A+1)) (yu (A+1) 0):=by
    rw[<-hwS];exact yC HKM.o (λe=>by have:=f.o.lt.1;have e2:(wp:Nat)=i4:=zR e;omega) _
   have EJ:AV ⟨10,D.pos,0,acc,yu (A+1) 0⟩:=by
    refine⟨(by decide:10<12),zY,λx hx=>by have:=HAX.o x hx;omega,λx hx=>by have:=List.eq_of_mem_replicate hx;omega,by show acc.length<=_;omega,?_⟩;show okB [110,42] acc.length (yu (A+1) 0).length=true;rw[H,List.length_replicate];simp[okB]
   have hxl:(qI ⟨10,D.pos,0,acc,yu (A+1) 0⟩).length<=1000000:=by
    rw[pE,AI];rw[pE]at H;simp at H;omega
   have hss:=UR.o;unfold MkS.sz at hss;have HP:=Z (bO p S D 10 0 acc (yu (A+1) 0) kv (.slice (wp,0) (A+1) (A+1)) wS NG.o rk1 rt1 (λg l=>hS.out.2.2.2 g l) (λg l q=>by cases l;exact yO _ (lwp _ q)) (λg l q=>by cases l;exact yO _ (lkp _ q))
    (λg l=>by
     have h1:=Cx.o.base;have h2:=HH.o.base;have h3:=ZT.o.size;have h4:=I.o.size;rcases l with l|l
     .have:=hS.lo.2.2.2 g l;omega
     .cases l;show S.B<=(wp:Nat);exact J) EJ HEE.o.fo HEE.o.g1 J J hxl)
   have hSS:D.put 10 0 acc (yu (A+1) 0)=MkS.QF n bs s:=by
    have h1:MkS.Ci n bs s=(D,acc):=(by unfold MkS.Ci;rw[TZ.o,HR.o,ZC.o]);unfold MkS.QF;rw[h1,H]
   have ym2:D.code.length=(MkS.Ci n bs s).1.code.length:=by
    have h1:MkS.Ci n bs s=(D,acc):=(by unfold MkS.Ci;rw[TZ.o,HR.o,ZC.o]);rw[h1]
   obtain⟨HSS,HID,HTG,HFW⟩:=hdd hSS ym2 (show ∃x,(D.put 10 0 acc (yu (A+1) 0)).code[D.code.length]? = some x/\x.tg.length=A+1 from⟨_,by simp[MkS.put];rfl,zY⟩) (show Fr (λg=>g=i4) (λg=>g=i4) wp wS by rw[<-hwS];exact(HFM.o.wide (λ_ q=>q.elim)).set _ (.inl rfl));clear rk1 rt1 EJ hxl hss hSS ym2 hS lwp lkp pE H;rw[wK]at HP;clear hwS;go_wp2_with fail;refine HP.o.mono ?_;rintro e w5 ⟨b,c,rfl,OA,Xv,Tf,L3,PM,⟨MR,hB3⟩,C,nb5,nc5⟩;have HM5:=Z PM;have HF5:=Z C;have pK:=Z OA;clear HP PM C OA;go_wp2_with fail;obtain⟨wT,hwT⟩:=zo (w5.alloc (.cells #[ZY b c] 107));have hfT:Fr j6 j6 w5 wT:=(by rw[<-hwT];exact(Fr.refl _ _).alloc _);have hcT:=zg w5 #[ZY b c] 107 (0,0) 0;have hsT:(wT:Nat)=(w5:Nat)+1:=(by rw[<-hwT];simp);rw[hwT]at hcT;have ne:=f.o.ne;have lo:=f.o.lo;have ou:=f.o.out;have lt:=f.o.lt;have swr:=ZT.o.size;have swp:=I.o.size;have swS:=HFW.o.size;have sw5:=HF5.o.size;have hP:∀g,g=pb\/g=mb->¬(S.has p g\/yd kv g\/yd (.slice (zX (wp:Nat) 0) (A+1) (A+1)) g):=by
    rintro g (rfl|rfl) (q|q|q)
    .exact ou.2.1 q
    .exact ne.2.2.2.2.1 q
    .have:(wp:Nat)=_:=zR q;omega
    .exact ou.2.2.1 q
    .exact ne.2.2.2.2.2 q
    .have:(wp:Nat)=_:=zR q;omega
   rw[<-wK]at HF5;have h3:∀g,g=pb\/g=mb->¬L3.has p g:=λg l q=>(HF5.o.fp g q).elim (hP g l) (λq=>by rcases l with rfl|rfl<;>omega)
   have gS:Fr (λg=>g=i4) (λg=>g=i4) wp wS:=HFW.o;have FA:Fr (L.has p) (L3.has p) w wT:=((((ZT.o.over I.o (by rintro g rfl;exact .inr lo.2.2.1)).over gS (by rintro g rfl;exact .inr lo.1)).tr HF5.o (by
    rintro g (q|q|q)
    .exact ZT.o.fp g q
    .exact .inr (lo.2.2.2 g q)
    .have:(wp:Nat)=g:=zR q;exact .inr J))).trans (hfT.wide (λ_ q=>q.elim))
   have HI:KN (wT:Nat) p D.code.length (w5:Nat) b c pb mb (done++[fY]).length (ke (done++[fY])) L3 wT:=by
    have l5:=pK.o.lt;refine⟨hcT,pK.o.fr hfT id id,hfT.cell (HF5.o.cell (gS.cell f.o.pm ne.1.symm) (hP pb (.inl rfl))) id,((f.o.mp.g.fr gS (λe=>ne.2.1 e.symm)).fr HF5.o (hP mb (.inr rfl))).fr hfT id,
     ⟨λq=>by have:=HM5.o.lt q;omega,nb5,nc5,h3 pb (.inl rfl),h3 mb (.inr rfl)⟩,⟨J,J,J,J,J⟩⟩
   obtain⟨x,hx,hxt⟩:=HTG.o;have hdd:done=bs.keys.filter (· ≠ fY):=(by rw[Cf.o];exact HDN.o);have hB9:L3.B=L.B:=hB3.trans OY;have ym4:yyg (wT:Nat) p (MkS.QF n bs s) bs.keys (MkS.FX n bs s) (.func (.func 98) #[] #[(w5,0),(pb,0)]) (λL W=>KN (wT:Nat) p D.code.length (w5:Nat) b c pb mb (done++[fY]).length (ke (done++[fY])) L W):=by
    refine⟨⟨_,_,rfl,λargs w=>by first|rfl|simp[callFunc],λL s' W key a ma mn mc hm hI hle dw zb4=>?_⟩,λL L' W W' h hf=>h.fr hf,λL W W' F F' h hf hF=>h.al hf hF,λk x=>MkS.M5 n bs s k x⟩;obtain⟨e1,e2⟩:=zzv bs.keys key zb4;rw[<-hdd]at e1 e2;rw[HSS.o]at hx;obtain⟨y,hy,hyt⟩:=hle _ x hx;have CD:s'.code.length<=900000:=(by unfold MkS.sz at dw;omega);have:=zzx s' y key a ma mn mc hm hI (HKS.o key zb4).1 hy (by rw[e1,hyt,hxt];have:=yld.o;omega) (by rw[hyt,hxt];omega) CD;rw[e1,HID.o]at this;exact this
   have ym5:=Z (BD b0 n a 0 of cl bs p L3 (MkS.QF n bs s) (MkS.FX n bs s) _ _ wT HIH.o (by have:=HM5.o.fr hfT (λ_ q=>q.elim);rw[HSS.o]at this;exact this) (by rw[hB9];exact HE.o.fr FA HH.o.lo) HND.o HL.o HBC.o HBW.o (by rw[HM.o];exact hbn)
    (by have:=(MkS.M9 n bs s).2;have:=Fo.Ub bs;have:=HS.o;omega) ym4 HI)
   have HFA:=Z FA;clear ym4 HI FA hx hfT hcT;rw[hwT];refine ym5.o.mono ?_;rintro e w9 ⟨rfl,L4,hm9,⟨hq9,xdu⟩,hf9⟩;have HM9:=Z hm9;have HF9:=Z hf9;clear hm9 hf9 ym5;go_wp2;refine zU (v := .tuple #[]) ?_ rfl ?_
   .simp[yk,results68,go_sem]
   exact⟨rfl,L4,HM9.o,⟨by rw[hq9,MR,QW],by rw[xdu,hB9]⟩,HFA.o.trans HF9.o⟩
def V5(S:Nat->Prop)(p:Nat)(W0:z7)(L:Yc)(W:z7):Prop:=∀g,S g->g<(W0:Nat)/\¬L.has p g/\W.heap[g]? = W0.heap[g]?
section
variable {S:Nat->Prop} {p:Nat} {W0 W W':z7} {L L':Yc}
def V5.lt(h:V5 S p W0 L W){g:Nat}(b:S g):g<(W:Nat):=by
 obtain⟨a,_,c⟩:=h g b;rw[XN a]at c;exact(vN.1 c).1
def V5.fr(h:V5 S p W0 L W)(hf:Fr (L.has p) (L'.has p) W W'):V5 S p W0 L' W':=λg d=>by
 obtain⟨a,b,c⟩:=h g d;have:=h.lt d;exact⟨a,λq=>(hf.fp g q).elim b J,(hf.keep g this b).trans c⟩
def V5.al(h:V5 S p W0 L W)(hf:Fr F F' W W')(hF:∀g,F g->(W0:Nat)<=g):V5 S p W0 L W':=λg d=>by
 obtain⟨a,b,c⟩:=h g d;exact⟨a,b,(hf.keep g (h.lt d) (λq=>by have:=hF g q;omega)).trans c⟩
def V5.cell(h:V5 S p W0 L W){a:yi}(hc:W0.cell? a=some v)(b:S a.block):W.cell? a=some v:=(yZ (h _ b).2.2).trans hc
def V5.qh(h:V5 S p W0 L W){i b c:Nat}(a:jg W0 p i b c)(hb:S b)(hc:S c):jg W p i b c:=⟨h.cell a.pb hb,h.cell a.pc hc,(ue (h b hb).2.2).trans a.tb,(ue (h c hc).2.2).trans a.tc⟩
end
def fnR:zx->Option (DataW Unit×List MemPlace)
 |.func (.func k) first cap=>match first.toList,cap.toList with
  |[],[.pointer (some ⟨b,0,none⟩),.pointer (some ⟨c,0,none⟩)]=>if k=71 then some (.agg [.lit (.int .i64 (b:Nat)),.lit (.int .i64 (c:Nat))],[])else none
  |_,_=>none
 |.nilFunc=>some (.agg [],[])
 |_=>none
def zzj(b c:Nat):fnR (ZY b c)=some (.agg [.lit (.int .i64 (b:Nat)),.lit (.int .i64 (c:Nat))],[]):=by simp[fnR,ZY]
def zb8{b c:Nat}{ps:List MemPlace}(h:fnR v=some (.agg [.lit (.int .i64 (b:Nat)),.lit (.int .i64 (c:Nat))],ps)):v=ZY b c:=by
 unfold fnR at h;split at h
 .next k first cap =>
  split at h
  .next b' c' h1 h2 =>
   split at h
   .next hk =>
    simp at h;obtain⟨⟨h3,h4⟩,_⟩:=h;have e1:first=#[]:=zej.1 h1;have e2:cap=#[.pointer (some ⟨b',0,none⟩),.pointer (some ⟨c',0,none⟩)]:=zej.1 h2;subst hk e1 e2;have h5:b'=b:=by omega
    have h6:c'=c:=by omega
    rw[h5,h6]
   .cases h
  .cases h
 .simp at h
 .cases h
def YM(w:z7)(b n:Nat)(f:Wd->Option (Nat×Nat)):Prop :=
 ∃D:DataW Unit,w.ownsMap prog 9 fnR b n D/\∀m:Wd,znq D (.string m)=(f m).isSome/\∀x,f m=some x->D.atKey (.string m) (.agg []) = .agg [.lit (.int .i64 (x.1:Nat)),.lit (.int .i64 (x.2:Nat))]
def YM.lt{b:Nat}{f:Wd->Option (Nat×Nat)}(h:YM w b n f):b<(w:Nat):=Ph
def YM.keep{b:Nat}{f:Wd->Option (Nat×Nat)}(h:YM w b n f)(hb:w'.heap[b]? = w.heap[b]?):YM w' b n f:=o6
def YM.fr{b:Nat}{f:Wd->Option (Nat×Nat)}(h:YM w b n f)(hf:Fr F F' w w')(hb:¬F b):YM w' b n f:=h.keep (hf.keep b h.lt hb)
def YM.made(w:z7):YM (w.alloc (.map #[] 0)) (w:Nat) 0 (λ_=>none):=⟨.map [],C5 w _ _ _,λm=>⟨rfl,λx hx=>by cases hx⟩⟩
def YM.look{b:Nat}{f:Wd->Option (Nat×Nat)}(h:YM w b n f)(m:Wd)(hm:m.length<=5000000) :
  ∃v,(C6 223 (.map (some b)) (zv m) true).run prog w = .ok (.tuple #[v,.bool (f m).isSome]) w/\∀x,f m=some x->v=ZY x.1 x.2:=by
 obtain⟨D,h1,c⟩:=h;obtain⟨v,ps,a,hv⟩:=h1.look_ok (vE underlying9) underlying223 (z := .nilFunc) Io (zd := .agg []) (zp:=[]) rfl
  (key:=zv m) (xy (s:=⟨m.toArray⟩) underlying9 GV)
 rw[toList_mk]at a hv;rw[(c m).1]at a;exact⟨v,a,λx hx=>zb8 (ps:=ps) (by rw[hv,(c m).2 x hx])⟩
def YM.put{b:Nat}{f:Wd->Option (Nat×Nat)}(h:YM w b n f)(m:Wd)(hm:m.length<=5000000)(x:Nat×Nat)(hn:n<=1000000000) :
  ∃w',(Cw 223 (.map (some b)) (zv m) (ZY x.1 x.2)).run prog w = .ok () w'/\YM w' b (n+1) (λk=>if m=k then some x else f k)/\w.grownBy w' (some b):=by
 obtain⟨D,h1,e⟩:=h;have hi:=h1.isMap;obtain⟨w',d,a,g⟩:=h1.update (vE underlying9) underlying223 Z7 (key:=zv m) (xy (s:=⟨m.toArray⟩) underlying9 GV) (zzj x.1 x.2);rw[toList_mk]at a;refine⟨w',d,⟨_,a,λk=>?_⟩,g⟩;by_cases hx:m=k
 .subst hx;simp only[↓reduceIte];exact⟨nl,λy hy=>by cases hy;rw[dC hi (show ku (.string m)from trivial)]⟩
 .simp only[hx,↓reduceIte];have c:(Lit.string k) ≠ .string m:=λq=>hx (by cases q;rfl)
  exact⟨by rw[Xc c];exact(e k).1,λy hy=>by rw[fF c];exact(e k).2 y hy⟩
def VT(ks:List Wd)(k:Wd):Option Nat:=if k∈ks then some 1 else none
def Oa(ks:List Wd)(t:Nat)(key:Wd)(s:MkS)(c:Nat):MkS:=if zz3.getD c []=key\/key=fY/\zz3.getD c [] ∉ ks then s.qh t c else s
structure eW(S:Nat->Prop)(p ab am hb hm tb b c idx na nh:Nat)(ks:List Wd)(fa:Wd->Option (Nat×Nat))(w:z7):Prop where
 ca:zy w ab 0 (.map (some am))
 ma:YM w am na fa
 ch:zy w hb 0 (.map (some hm))
 mh:jk 3 w hm nh (VT ks)
 ct:zy w tb 0 (ZY b c)
 l:jg w p idx b c
 na:kb w
 s:S ab/\S am/\S hb/\S hm/\S tb/\S b/\S c/\S 1
section
variable {S:Nat->Prop} {p ab am hb hm tb b c idx na nh:Nat} {ks:List Wd} {fa:Wd->Option (Nat×Nat)} {W0 W:z7} {L L':Yc}
def eW.at(h:eW S p ab am hb hm tb b c idx na nh ks fa W0)(a:V5 S p W0 L W):eW S p ab am hb hm tb b c idx na nh ks fa W:=by
 obtain⟨e,f,g,i,k,m,n,o⟩:=h.s;exact⟨a.cell h.ca e,h.ma.keep (a _ f).2.2,a.cell h.ch g,h.mh.keep (a _ i).2.2,a.cell h.ct k,a.qh h.l m n,λj d=>a.cell (h.na j d) o,h.s⟩
def eA(s:MkS)(x:Jn)(key:Wd)(a:Nat)(ma:Option yi)(T mc:Nat)(C:uq p L s W)(h:eW S p ab am hb hm tb b c idx na nh ks fa W0)(O:V5 S p W0 L W)(hk:key.length<=17)(hx:s.code[idx]? = some x)(hj:x.tg.length=6)(hs:s.sz<=900000)(hf:fa key=none) :
  zE prog 101 #[.agg #[zv key,a,.slice ma T mc],(ab,0),(hb,0),(tb,0)] W (OX p L (MkS.eM ks idx key s) W):=by
 obtain⟨A,hA⟩:=zo (W.alloc (.cells #[zv key,a,.slice ma T mc] 219));have H:Fr j6 j6 W A:=Jj;have z:=O.al H (λ_ q=>q.elim);have f:=h.at z;have F:=C.fr H (λ_ q=>q.elim);have V:=zg W #[zv key,a,.slice ma T mc] 219 (0,0) 0;obtain⟨v,m,-⟩:=f.ma.look key J;rw[hf]at m;have c1:=f.ca;have n0:=f.na 0 J;have n1:=f.na 1 J;have n2:=f.na 2 J;have n3:=f.na 3 J;have n4:=f.na 4 J;have n5:=f.na 5 (by omega);simp only[XW,List.getD_cons_zero,List.getD_cons_succ]at n0 n1 n2 n3 n4 n5;have P:=λ{g:Nat} (hg:L.has p g)=>C.lt hg
 obtain⟨HI,HH,U,M,N,HX⟩:=l6 O h F H z hx;obtain⟨R,hR⟩:=zo (MkS.eM ks idx key s);rw[hR];have HR:=Z (show(Um 6).foldl (Oa ks idx key) s=R from hR);subst hA;clear O h C H z f F hx hR hf;go_enter func101,ntmps101;go_wp2_with fail;go_loopw [20] (λQ wr=>∃j s',Q = .int .i64 (j:Nat)/\j<=6/\s'=(Um j).foldl (Oa ks idx key) s/\uq p L s' wr/\Fr (L.has p) (L.has p) W wr/\V5 S p W0 L wr/\s.le s'/\s'.sz=s.sz/\zy wr (W:Nat) 0 (zv key)) (λQ _=>6 - (intOf Q).toNat)
 case atStart=>exact⟨0,s,rfl,J,rfl,U.o,M.o.wide (λ_ q=>q.elim),N.o,s.le_refl,rfl,V⟩
 case round =>
  clear V c1 m n0 n1 n2 n3 n4 n5;obtain⟨j,s',rfl,hj6,n,w,B,r,u,G,hkc⟩:=hrel;have i:=HH.o.at r;have nW:¬L.has p (W:Nat):=λq=>by have:=U.o;have h2:=P q;omega
  obtain⟨y,hy,hyt⟩:=u _ _ HX.o;obtain⟨HS',HM',HF',HI',HLE,U5⟩:=l6 n w B r u G;by_cases E:j<6
  .obtain⟨t,I⟩:=zo (zz3.getD j []);have hix:∀W:z7,(ZF 130 (.agg #[.string ⟨#[122,101,114,111]⟩,.string ⟨#[111,110,101]⟩,.string ⟨#[116,119,111]⟩,.string ⟨#[102,101,119]⟩,.string ⟨#[109,97,110,121]⟩,.string ⟨#[111,116,104,101,114]⟩]) (j:Int)).run prog W = .ok (zv t) W:=by
    rw[<-I];match j,E with
    | 0,_=>exactλW=>yy
    | 1,_=>exactλW=>yy
    | 2,_=>exactλW=>yy
    | 3,_=>exactλW=>yy
    | 4,_=>exactλW=>yy
    | 5,_=>exactλW=>yy
   have htl:t.length<=5:=by
    rw[<-I];match j,E with
    | 0,_=>decide
    | 1,_=>decide
    | 2,_=>decide
    | 3,_=>decide
    | 4,_=>decide
    | 5,_=>decide
   have ch:=i.ch;have ct:=i.ct;have m:=i.mh.Ee Jp t J;have k:=Z (show(Um (j+1)).foldl (Oa ks idx key) s=Oa ks idx key s' j by rw[List.range_succ,kS,<-n];rfl);have D:=Z (show Oa ks idx key s' j=if t=key\/key=fY/\t ∉ ks then s'.qh idx j else s' by unfold Oa;rw[I]);have CD:s'.code.length<=900000:=(by unfold MkS.sz at G hs;omega);have HLV:=Z (KQ p L s' idx j b c y wr w i.l hy J J J);have k3:(j:Int)<6:=J;clear w B r i u n I;by_cases d:t=key\/key=fY/\t ∉ ks
   .have HG:=Z (show(Um (j+1)).foldl (Oa ks idx key) s=s'.qh idx j by rw[k.o,D.o,zl d]);rcases (show t=key\/¬t=key/\key=fY/\t ∉ ks by by_cases q:t=key;exact .inl q;exact .inr ⟨q,d.resolve_left q⟩)with ha|⟨ha,hb,hc⟩
    .have kA:(t==key)=true:=(by simp[ha]);clear ha d;exact rP
    .have kA:(t==key)=false:=(by simp[ha]);have kB:(key==[111,116,104,101,114])=true:=(by rw[hb];decide);rw[show VT ks t=none from zL hc]at m;clear ha hb hc d;exact rP
   .have HG:=Z (show(Um (j+1)).foldl (Oa ks idx key) s=s' by rw[k.o,D.o,zL d]);have ha:¬t=key:=λq=>d (.inl q)
    have kA:(t==key)=false:=(by simp[ha]);by_cases hb:key=fY
    .have hc:t∈ks:=zi λq=>d (.inr ⟨hb,q⟩)
     have kB:(key==[111,116,104,101,114])=true:=(by rw[hb];decide);rw[show VT ks t=some 1 from zl hc]at m;clear ha hb hc d;exact sy
    .have kB:(key==[111,116,104,101,114])=false:=(by simpa[fY]using hb);clear ha hb d;exact sy
  .have K:=Z (show s'=R by rw[n,show j=6 by omega];exact HR.o);have k3:¬(j:Int)<6:=(by omega);clear w B r i u n;go_wp2;refine zU (v := .tuple #[]) ?_ rfl ?_
   .simp[yk,results101,go_sem]
   rw[<-K.o];exact⟨rfl,HM'.o,HF'.o⟩
def ee(s:MkS)(x:Jn)(key:Wd)(a:Nat)(ma:Option yi)(z mc:Nat)(b1 c1 i1:Nat)(l:uq p L s W)(h:eW S p ab am hb hm tb b c idx na nh ks fa W0)(B:V5 S p W0 L W)(H:key.length<=17)(C:jg W0 p i1 b1 c1)(u:S b1)(w:S c1)(hx:s.code[i1]? = some x)(G:x.tg.length=1)(hs:s.sz<=900000)(hf:fa key=some (b1,c1)) :
  zE prog 101 #[.agg #[zv key,a,.slice ma z mc],(ab,0),(hb,0),(tb,0)] W (OX p L (s.qh i1 0) W):=by
 obtain⟨A,hA⟩:=zo (W.alloc (.cells #[zv key,a,.slice ma z mc] 219));have m:Fr j6 j6 W A:=Jj;have d:=B.al m (λ_ q=>q.elim);have f:=h.at d;have k:=l.fr m (λ_ q=>q.elim);have F:=zg W #[zv key,a,.slice ma z mc] 219 (0,0) 0;obtain⟨v,y,hv⟩:=f.ma.look key J;obtain rfl:=hv _ hf;rw[hf]at y;have D:=f.ca;have E:s.code.length<=900000:=by unfold MkS.sz at hs;omega
 have g:=Z (KQ p L s i1 0 b1 c1 x A k (d.qh C u w) hx J J J);have r:=Z m;subst hA;clear B h l m d f k hx hf hv C;go_enter func101,ntmps101;go_wp2_with fail;refine g.o.mono ?_;rintro e w3 ⟨rfl,j,i⟩;have t:=Z j;have n:=Z i;clear j i g;go_wp2;refine zU (v := .tuple #[]) ?_ rfl ?_
 .simp[yk,results101,go_sem]
 exact⟨rfl,t.o,(r.o.wide (λ_ q=>q.elim)).trans n.o⟩
end
abbrev VW:=List (Wd×Nat×Nat×Nat)
def VW.fn(al:VW)(k:Wd):Option (Nat×Nat):=(al.lookup k).map (·.2)
def VW.ix(al:VW):List (Wd×Nat):=al.map λe=>(e.1,e.2.1)
def Es:∀(al:VW) (k:Wd),al.ix.lookup k=(al.lookup k).map (·.1)
 |[],_=>rfl
 |(k1,i,a)::al,k=>by
  have:=Es al k;simp only[VW.ix,ve,Xm]at this|-;split<;>simp_all
def BB:∀(al:VW) (k:Wd) (x:Nat×Nat×Nat),al.lookup k=some x->(k,x)∈al
 |[],_,_,h=>xp
 |(k1,y)::al,k,x,h=>by
  simp only[Xm]at h;split at h
  .next hk=>cases h;rw[eq_of_beq hk];exact xB
  .exact yo _ (BB al k x h)
def Oc(al:VW)(m k:Wd)(x:Nat×Nat×Nat)(h:∀e∈al,e.1≠m):(al++[(m,x)]).lookup k=if m=k then some x else al.lookup k:=by
 induction al with
 |nil =>
  simp only[kr,Xm,List.lookup_nil];by_cases b:m=k
  .simp[b]
  .rw[zL b,show(k==m)=false by simpa using λe=>b e.symm]
 |cons a al c =>
  obtain⟨k1,y⟩:=a;have h1:k1≠m:=h (k1,y) xB;have c:=c (λe he=>h e (yo _ he));simp only[yw,Xm];by_cases b:k=k1
  .subst b;rw[zL (λe=>h1 e.symm)];simp
  .rw[show(k==k1)=false by simpa using b];exact c
def TY{ks:List Wd}{k:Wd}:(λx=>if k=x then some 1 else VT ks x)=VT (ks++[k]):=by
 funext x;unfold VT;by_cases hx:k=x
 .simp[hx]
 .have:¬x=k:=λe=>hx e.symm
  simp[hx,this]
structure XK(N p ab am hb hm:Nat)(pre:List Wd)(al:VW)(s:MkS)(L:Yc)(w:z7):Prop where
 ca:zy w ab 0 (.map (some am))
 ma:YM w am al.length al.fn
 ch:zy w hb 0 (.map (some hm))
 mh:jk 3 w hm pre.length (VT pre)
 lo:N<=ab/\N<=am/\N<=hb/\N<=hm
 out:¬L.has p ab/\¬L.has p am/\¬L.has p hb/\¬L.has p hm
 ne:ab≠am/\ab≠hm/\am≠hb/\am≠hm/\hb≠hm
 lp:∀e∈al,jg w p e.2.1 e.2.2.1 e.2.2.2/\¬L.has p e.2.2.1/\¬L.has p e.2.2.2/\∃y,s.code[e.2.1]? = some y/\y.tg.length=1
 ks:∀e∈al,e.1∈pre
section
variable {N p ab am hb hm:Nat} {pre:List Wd} {al:VW} {s s':MkS} {L L':Yc} {w w':z7}
def XK.lt(h:XK N p ab am hb hm pre al s L w):ab<(w:Nat)/\am<(w:Nat)/\hb<(w:Nat)/\hm<(w:Nat):=⟨Y w _ h.ca,h.ma.lt,Y w _ h.ch,h.mh.lt⟩
def XK.fr(h:XK N p ab am hb hm pre al s L w)(hf:Fr (L.has p) (L'.has p) w w')(hs:s.le s'):XK N p ab am hb hm pre al s' L' w':=by
 obtain⟨f,i,j,k⟩:=h.out;obtain⟨l,m,n,o⟩:=h.lt;have no:∀g,¬L.has p g->g<(w:Nat)->¬L'.has p g:=λg a b q=>(hf.fp g q).elim a J
 refine⟨hf.cell h.ca f,h.ma.fr hf i,hf.cell h.ch j,h.mh.fr hf k,h.lo,⟨no _ f l,no _ i m,no _ j n,no _ k o⟩,h.ne,λe he=>?_,h.ks⟩;obtain⟨a,b,c,y,d,e2⟩:=h.lp e he;obtain⟨y2,d2,e3⟩:=hs _ y d;exact⟨a.fr hf b c,no _ b a.lt.1,no _ c a.lt.2,y2,d2,e3.trans e2⟩
def XK.al'(h:XK N p ab am hb hm pre al s L w)(hf:Fr F F' w w')(hF:∀g,F g->(w:Nat)<=g):XK N p ab am hb hm pre al s L w':=by
 obtain⟨f,i,j,k⟩:=h.lt;have nf:∀g,g<(w:Nat)->¬F g:=λg a q=>by have:=hF g q;omega
 refine⟨hf.cell h.ca (nf _ f),h.ma.fr hf (nf _ i),hf.cell h.ch (nf _ j),h.mh.fr hf (nf _ k),h.lo,h.out,h.ne,λe he=>?_,h.ks⟩;obtain⟨a,b,c,d⟩:=h.lp e he;exact⟨a.fr hf (nf _ a.lt.1) (nf _ a.lt.2),b,c,d⟩
def XK.zn4{m:Nat}(h:XK N p ab am hb hm pre al s L w)(f:w.grownBy w' (some m))(hm:Ua w m=none):∀e∈al,jg w' p e.2.1 e.2.2.1 e.2.2.2/\¬L.has p e.2.2.1/\¬L.has p e.2.2.2/\∃y,s.code[e.2.1]? = some y/\y.tg.length=1:=λe he=>by
 obtain⟨a,b,c,d⟩:=h.lp e he;have hf:Fr (λk=>k=m) (λk=>k=m) w w':=⟨f.os,f.tape,f.output,f.size,λk g hn=>f.block k g (λe=>hn (zR e)),λ_ q => .inl q⟩;exact⟨a.fr hf (λe=>by have:=a.tb;rw[e,hm]at this;cases this) (λe=>by have:=a.tc;rw[e,hm]at this;cases this),b,c,d⟩
def zzg{w:z7}{b:Nat}{f:Wd->Option (Nat×Nat)}(h:YM w b n f):Ua w b=none:=by
 obtain⟨D,⟨es,a,c,_⟩,_⟩:=h;simp[Ua,c]
def XK.key{k:Wd}(h:XK N p ab am hb hm pre al s L w)(b:jk 3 w' hm (pre.length+1) (λx=>if k=x then some 1 else VT pre x))(a:w.grownBy w' (some hm)):XK N p ab am hb hm (pre++[k]) al s L w':=by
 have hf:Fr (λk=>k=hm) (λk=>k=hm) w w':=⟨a.os,a.tape,a.output,a.size,λk c hn=>a.block k c (λe=>hn (zR e)),λ_ q => .inl q⟩;obtain⟨i,d,j,f,g⟩:=h.ne;rw[TY]at b;exact⟨hf.cell h.ca d,h.ma.fr hf f,hf.cell h.ch g,by simpa using b,h.lo,h.out,h.ne,h.zn4 a (XX h.mh),λe he=>List.mem_append_left _ (h.ks e he)⟩
def XK.ask{k:Wd}{i b c:Nat}{y:Jn}(h:XK N p ab am hb hm pre al s L w)(g:k∈pre)(hn:∀e∈al,e.1≠k)(f:YM w' am (al.length+1) (λx=>if k=x then some (b,c)else al.fn x))(d:w.grownBy w' (some am))
  (j:jg w p i b c) (o:¬L.has p b) (r:¬L.has p c) (hy:s.code[i]? = some y) (h1:y.tg.length=1):XK N p ab am hb hm pre (al++[(k,i,b,c)]) s L w':=by
 have hf:Fr (λk=>k=am) (λk=>k=am) w w':=⟨d.os,d.tape,d.output,d.size,λk g hn=>d.block k g (λe=>hn (zR e)),λ_ q => .inl q⟩;obtain⟨l,t,m,n,u⟩:=h.ne;have a:=zzg h.ma;have e1:(λx=>if k=x then some (b,c)else al.fn x)=VW.fn (al++[(k,i,b,c)]):=by
  funext x;unfold VW.fn;rw[Oc al k x _ hn];split<;>rfl
 rw[e1]at f;refine⟨hf.cell h.ca l,by simpa using f,hf.cell h.ch m.symm,h.mh.fr hf (λe=>n e.symm),h.lo,h.out,h.ne,λe he=>?_,λe he=>?_⟩
 .rcases xY.1 he with he|he
  .exact h.zn4 d a e he
  .simp at he;subst he;exact⟨j.fr hf (λe=>by have:=j.tb;rw[e,a]at this;cases this) (λe=>by have:=j.tc;rw[e,a]at this;cases this),o,r,y,hy,h1⟩
 .rcases xY.1 he with he|he
  .exact h.ks e he
  .simp at he;subst he;exact g
end
def plG(ks:List Wd)(ix:List (Wd×Nat))(t:Nat)(k:Wd)(x:MkS):MkS :=
 match ix.lookup k with
 |some i=>x.qh i 0
 |none=>MkS.eM ks t k x
def TX(ab am hb hm tb b c:Nat)(al:VW)(g:Nat):Prop:=g=ab\/g=am\/g=hb\/g=hm\/g=tb\/g=b\/g=c\/g=1\/∃e∈al,g=e.2.2.1\/g=e.2.2.2
def zb9{N p ab am hb hm idx b c:Nat}{pre:List Wd}{al:VW}{s:MkS}{L:Yc}{w i:z7}{x:Jn}(h:XK N p ab am hb hm pre al s L w)(K:jg w p idx b c)(ob:¬L.has p b)(oc:¬L.has p c)(D:kb w)(hB:1<L.B)(n:uq p L s w)
  (hx:s.code[idx]? = some x) (E:x.tg.length=6) (R:∀k∈pre,k.length<=17) (A:w.alloc (.cells #[ZY b c] 107)=i) :
  yyg (i:Nat) p s pre (plG pre al.ix idx) (.func (.func 101) #[] #[(ab,0),(hb,0),(w,0)]) (λL W=>V5 (TX ab am hb hm (w:Nat) b c al) p i L W)/\V5 (TX ab am hb hm (w:Nat) b c al) p i L i:=by
 have m:Fr j6 j6 w i:=by rw[<-A];exact(Fr.refl _ _).alloc _
 have r:=zg w #[ZY b c] 107 (0,0) 0;rw[A]at r;have S:(i:Nat)=(w:Nat)+1:=by rw[<-A];simp
 have hp:=h.al' m (λ_ q=>q.elim);obtain⟨l1,l2,l3,l4⟩:=h.lt;obtain⟨T,U,V,o4⟩:=h.out;have ll:=K.lt;have O:=n.base;refine⟨⟨⟨_,_,rfl,λargs w=>by first|rfl|simp[callFunc],λL' s' W key a ma M mc v H u z t=>?_⟩,λL L' W W' h hf=>h.fr hf,λL W W' F F' h hf hF=>h.al hf hF,λk x=>?_⟩,λg P=>?_⟩
 .have I:eW (TX ab am hb hm (w:Nat) b c al) p ab am hb hm (w:Nat) b c idx al.length pre.length pre al.fn i :=
   ⟨hp.ca,hp.ma,hp.ch,hp.mh,r,K.fr m id id,λj Q=>m.cell (D j Q) id,.inl rfl,.inr (.inl rfl),.inr (.inr (.inl rfl)),.inr (.inr (.inr (.inl rfl))),.inr (.inr (.inr (.inr (.inl rfl)))),.inr (.inr (.inr (.inr (.inr (.inl rfl))))),.inr (.inr (.inr (.inr (.inr (.inr (.inl rfl)))))),.inr (.inr (.inr (.inr (.inr (.inr (.inr (.inl rfl))))))) ⟩
  have f:=R key t;unfold plG;rw[Es];cases l:al.lookup key with
  |none =>
   obtain⟨y,hy,o⟩:=u _ x hx;exact eA s' y key a ma M mc v I H f hy (o.trans E) z (by unfold VW.fn;rw[l];rfl)
  |some e =>
   obtain⟨i1,b1,c1⟩:=e;have d:=BB al key _ l;obtain⟨q1,q2,G,y0,q4,q5⟩:=hp.lp _ d;obtain⟨y,hy,o⟩:=u _ y0 q4;exact ee s' y key a ma M mc b1 c1 i1 v I H f q1 (.inr (.inr (.inr (.inr (.inr (.inr (.inr (.inr ⟨_,d,.inl rfl⟩)))))))) (.inr (.inr (.inr (.inr (.inr (.inr (.inr (.inr ⟨_,d,.inr rfl⟩)))))))) hy (o.trans q5) z (by unfold VW.fn;rw[l];rfl)
 .unfold plG;exact oL
 .have C:∀k,L.has p k->L.B<=k:=n.lo;rcases P with rfl|rfl|rfl|rfl|rfl|rfl|rfl|rfl|⟨e,he,rfl|rfl⟩
  .exact⟨J,T,rfl⟩
  .exact⟨J,U,rfl⟩
  .exact⟨J,V,rfl⟩
  .exact⟨J,o4,rfl⟩
  .exact⟨J,λq=>by have:=n.lt q;omega,rfl⟩
  .exact⟨J,ob,rfl⟩
  .exact⟨J,oc,rfl⟩
  .exact⟨J,λq=>by have:=C _ q;omega,rfl⟩
  .obtain⟨q1,q2,G,-⟩:=h.lp e he;exact⟨by have:=q1.lt;omega,q2,rfl⟩
  .obtain⟨q1,q2,G,-⟩:=h.lp e he;exact⟨by have:=q1.lt;omega,G,rfl⟩
def ei{s:MkS}(h:uq p L s w)(N:Nat)(r:N<=(w:Nat)) :
  ∃W,W=(((w.alloc (.map #[] 0)).alloc (.cells #[.map (some (w:Nat))] 103)).alloc (.map #[] 0)).alloc (.cells #[.map (some ((w:Nat)+2))] 223) /\
   XK N p ((w:Nat)+3) ((w:Nat)+2) ((w:Nat)+1) (w:Nat) [] [] s L W/\Fr j6 j6 w W:=by
 obtain⟨A,hA⟩:=zo (w.alloc (.map #[] 0));have j:(A:Nat)=(w:Nat)+1:=by rw[<-hA];simp
 have d:=jk.made 3 w;have m:Fr j6 j6 w A:=Jj;rw[hA]at d|-;clear hA;obtain⟨B,hB⟩:=zo (A.alloc (.cells #[.map (some (w:Nat))] 103));have k:(B:Nat)=(w:Nat)+2:=by rw[<-hB];simp[j]
 have a:=zg A #[.map (some (w:Nat))] 103 (0,0) 0;have b:Fr j6 j6 A B:=R8;rw[hB,j]at a;rw[hB];clear hB;obtain⟨C,hC⟩:=zo (B.alloc (.map #[] 0));have i:=YM.made B;have o:(C:Nat)=(w:Nat)+3:=by rw[<-hC];simp[k]
 have n:Fr j6 j6 B C:=R9;rw[hC,k]at i;rw[hC];clear hC;have c:Fr j6 j6 C (C.alloc (.cells #[.map (some ((w:Nat)+2))] 223)):=(Fr.refl _ _).alloc _;have f:=n.trans c;have no:∀g,(w:Nat)<=g->¬L.has p g:=λg t q=>by have:=h.lt q;omega
 have l:VT []=λ_=>none:=by funext x;simp[VT]
 refine⟨_,rfl,⟨?_,i.fr c id,f.cell a id,by rw[l];exact d.fr (b.trans f) id,J,⟨no _ J,no _ J,no _ J,no _ J⟩,J,(λe he=>by cases he),(λe he=>by cases he)⟩,m.trans (b.trans f)⟩;rw[<-o];exact zg C #[.map (some ((w:Nat)+2))] _ _ _
def AO(k:Wd)(h:k.head? = some 61):ye k [61]=true/\qE k [61]=k.tail:=by
 cases k with
 |nil=>cases h
 |cons c t=>simp at h;subst h;constructor<;>simp[ye,qE]
def AP(k:Wd)(h:¬k.head? = some 61):ye k [61]=false/\qE k [61]=k:=by
 cases k with
 |nil=>constructor<;>simp[ye,qE]
 |cons c t =>
  have hc:¬c=61:=λe=>h (by rw[e];rfl)
  have a:¬61=c:=λe=>hc e.symm
  constructor<;>simp[ye,qE,kZ,hc,a]
def eo(l:Wd)(h:l.length<=9)(hd:l.all yn=true):ZH l<=4000000000:=rA
def TV(b0:Nat)(n:Wd)(a fo:Nat)(of:Wd)(cl:Nat)(bs:Fo)(p:Nat)(L:Yc)(s:MkS)(w:z7)
  (ih:∀m:Fo,zW m<zW bs->OW lo hi w0 m) (h:uq p L s w) (he:XQ lo hi w0 L.B w) (hfo:fo≠0)
  (Cy:zt lo hi w0 [.iface 159 (b0,0)] (.br n a fo of cl bs .nil)) (hc:(Fo.br n a fo of cl bs .nil).Cl) (SS:(Fo.br n a fo of cl bs .nil).wf 2000000=true) (hs:s.sz+(40+bs.cw)<=900000) :
  zE prog 69 #[(p,0),(b0,0)] w (MQ p L ((Fk bs (MkS.XU n of bs s) (MkS.VS n of fo bs s)).put 5 0 [] []) w):=by
 have lY:=@run_makeMap prog;have HND:=Z Cy;obtain⟨vt,b',ba,bc,ws,hee,Q,S,FN,La,I9,SD,Lc,Tf,EX,EV,_⟩:=Cy;cases hee;obtain⟨hnl,hfl,hov,hL,zzu,Tu,MW,-⟩:=hc;have Db:(decide (n.length<=4000001) && decide (fo<3) && bs.ug && decide (bs.len<=2000000) && bs.wf 2000000 && Fo.nil.wf 2000000)=true:=SS;simp only[zQ,qP]at Db;obtain⟨⟨⟨-,hbn⟩,CS⟩,-⟩:=Db;have c0:=ym he.keep FN Q S;have c1:=ym he.keep La Q S;have c2:=ym he.keep SD Q S;have c4:=ym he.keep Lc Q S;have c3:=ym he.keep I9 Q S;have dw:s.cs.length<=900000/\s.code.length<=900000/\s.pos<=900000:=R7;obtain⟨HC,HH,HE,Td,HBS,HL,Tb,HKS⟩:=l8 (Ud p L s n w.drew h.drew J J) h he EX EV hL zzu Tu;obtain⟨HBC,HBW,HIH,HS⟩:=hdd MW CS ih hs;obtain⟨M,hM⟩:=zo bs.len;have HM:=Z hM;rw[hM]at c4 hbn;obtain⟨k0,AN⟩:=zo (s.num n);rw[AN]at HC;have TZ:=Z AN;obtain⟨ov,yx5⟩:=zo (ZH of);rw[yx5]at c2 hov;have HOV:=Z yx5;clear h he EX EV hL zzu Tu MW CS ih hs hM FN La I9 SD Lc Tf AN SS yx5;go_enter func69,ntmps69;go_wp2_with fail;refine bW (λW':z7=>zy W' b0 0 (zv n)/\zy W' b0 3 ov) [0,1,2,3,4,5,6,9,10,11,12] 4 ⟨c0,c2⟩ ?_;refine bF 7 (λP z=>?_);go_simp;refine HC.o.mono ?_;rintro e w1 ⟨rfl,L1,Dz,⟨aH,hB1⟩,Kp⟩;clear HC;have Kp:=Kp.und;have F:¬L.has p b0:=λq=>by have:=HH.o.lo _ q;have:=HE.o.hB;omega
 have d0:=Kp.cell c0 F;have d2:=Kp.cell c2 F;refine z.out _ _ ⟨d0,d2⟩ λ_=>?_
 clear z P;refine bF 8 (λP z=>?_);go_simp;refine z.out _ _ ⟨yG d0 _,yG d2 _⟩ λ_=>?_
 clear z P;refine rqm [13] 1 ⟨yG d0 _,yG d2 _⟩ ?_;refine ty ?_;try simp only[pl]
 refine yA ?_;refine bF 14 (λP z=>?_);go_simp;have cM:=qT.lit w1 [k0] zY;have ymz:=Dz.alloc (.cells (Yx [k0]).toArray 3);obtain⟨z1,z2,z3⟩:=gu s n;have hk9:k0<=900000:=by have:=Lr s n;have:=TZ.o;omega
 have Fh:(qI ⟨4,(s.const n).pos,ov,[k0],[]⟩).length=7:=Ru;have Vz:gQ (w1.alloc (.cells (Yx [k0]).toArray 3)):=(HE.o.fo.fr Kp HH.o.lo HE.o.g1).fr ((Fr.refl j6 w1).alloc _) (λ_ q=>q.elim) HE.o.g1;have HP:=Z (bO p L1 (s.const n) 4 ov [k0] [] (.slice (w1,0) 1 1) (.slice none 0 0) (w1.alloc (.cells (Yx [k0]).toArray 3)) ymz cM (qT.nil _) (λg hg q=>pj) (λg hg=>VJ) (λg hg=>by cases hg)
  (λg hg=>o5)
  ⟨(by decide:4<12),by show ov<=_;omega,zV,zY,zY,rfl⟩ Vz (by rw[hB1];exact HE.o.g1) (by rw[z2];omega) (by rw[z3];omega) (by rw[Fh];omega))
 refine HP.o.mono ?_;rintro e w2 ⟨bx,cx,rfl,-,-,-,L2,GJ,⟨QW,OY⟩,V0,-,-⟩;have fA:Fr j6 j6 w1 (w1.alloc (.cells (Yx [k0]).toArray 3)):=(Fr.refl _ _).alloc _;have F2:Fr (L.has p) (L2.has p) w w2:=(Kp.trans (fA.wide (λ_ q=>q.elim))).tr V0 (λq hq=>oy);obtain⟨s2,ZW⟩:=zo ((s.const n).put 4 ov [k0] []);have Vk:s2.sz<=s.sz+9:=by rw[<-ZW,fZ,Fh];omega
 rw[ZW]at GJ;have d0:=F2.cell c0 F;have d2:=F2.cell c2 F;have d4:=F2.cell (a:=(zX b0 4)) c4 F;have d3:=F2.cell (a:=(zX b0 2)) c3 F;refine z.out _ _ ⟨d0,d2⟩ λ_=>?_
 clear z P;refine fR ?_ _;have ZT:=Z F2;have Cx:=Z GJ;have Jx:=Z ZW;obtain⟨W,hW,Zz,hfw⟩:=ei (s:=s2) GJ (w:Nat) F2.size;have c4a:=λo1 o2 o3 o4=>yG (yG (yG (yG d4 o1) o2) o3) o4
 have ymy:L2.q=L.q/\L2.B=L.B:=⟨QW.trans aH,OY.trans hB1⟩;have HQ:=Z ymy;clear Dz ymz cM Vz HP Kp V0 fA F2 GJ ZW aH QW hB1 OY ymy Fh z1 z2 z3;go_wp2_with fail;rw[show (w2:Nat)+1+1+1=(w2:Nat)+3 from rfl,show (w2:Nat)+1+1=(w2:Nat)+2 from rfl,<-hW];obtain⟨ab,hab⟩:=zo ((w2:Nat)+3);obtain⟨am,ham⟩:=zo ((w2:Nat)+2);obtain⟨hb,hhb⟩:=zo ((w2:Nat)+1);obtain⟨hm,hhm⟩:=zo (w2:Nat);rw[hab,hhb];rw[hab,ham,hhb,hhm]at Zz;obtain⟨R,hR⟩:=zo (MkS.VR bs s2 []);have HR:=Z hR;clear hab ham hhb hhm hR hW;go_loopw [36] (λiv wr=>∃i us xs r d u al pre,iv = .int .i64 (i:Nat)/\i<=M/\zt lo hi w0 xs r/\r.ug=true/\us.length=i*3/\ws=us++xs/\i+r.len=M/\bs.keys=pre++r.keys /\
  uq p u d wr/\(u.q=L.q/\u.B=L.B)/\Fr (L.has p) (u.has p) w wr/\XK (w:Nat) p ab am hb hm pre al d u wr/\MkS.VR r d al.ix=R/\pre.length=i/\al.length<=i/\d.sz+8*r.keys.length<=899990) (λiv _=>M - (intOf iv).toNat)
 case atStart =>
  exact⟨0,[],ws,bs,s2,L2,[],[],rfl,zG _,HBS.o,HL.o,rfl,rfl,by have:=HM.o;omega,rfl,Cx.o.fr hfw (λ_ q=>q.elim),HQ.o,ZT.o.trans (hfw.wide (λ_ q=>q.elim)),Zz,HR.o,rfl,X _,by have:=HS.o;have:=Fo.Ub bs;omega⟩
 case round =>
  clear Zz hfw c4a d0 d2 d3 d4;obtain⟨i,us,xs,r,d,u,al,pre,rfl,hiM,bA,Fu,Kr,Ma,Vf,l,I,⟨MR,C⟩,D,A,XR,yx6,CT,ZE⟩:=hrel;have U:XQ lo hi w0 u.B wr:=by rw[C];exact HE.o.fr D HH.o.lo
  obtain⟨NG,HE3,HF3,HPL,Qm,HLR,nQ,HWS⟩:=l8 I U D A XR Fu Kr Ma;obtain⟨DZ,zg4,UR,HPR⟩:=hdd Vf l ZE yx6;by_cases ud:i<M
  .cases r with
   |nil=>exfalso;simp[Fo.len]at Vf;omega
   |text t r=>cases Fu
   |hash r=>cases Fu
   |put n a r=>cases Fu
   |num n a r=>cases Fu
   |br n a fo of cl bs r=>cases Fu
   |uB k1 a0 m0 r0 =>
    obtain⟨AM,ma,mc,ms,rfl,GA,hmn,KM⟩:=bA;obtain⟨g2,o2,rfl,e0,e1,e2⟩:=G6 U.keep Td.o Kr Ma;have FI:=Z KM;have k3:(i:Int)<(M:Int):=J;have k4:decide ((i:Int)<(M:Int))=true:=zV;have hfA:Fr j6 j6 wr (wr.alloc (.cells #[zv k1,a0,.slice ma m0.len mc] 219)):=(Fr.refl _ _).alloc _;have hpA:=A.al' hfA (λ_ q=>q.elim);have zb6:=DZ.o;simp only[Fo.len]at zb6;have Dh:=UR.o;simp only[Fo.keys,zm]at Dh;have hkb:k1∈bs.keys:=JN;have yx7:k1 ∉ pre:=λq=>by
     have h1:=Tb.o;rw[zg4.o]at h1;exact(zuq.1 h1).2.2 k1 q k1 (by simp[Fo.keys]) rfl
    have xdj:=Z yx7;obtain⟨xd4,yx8⟩:=HKS.o k1 hkb;have hlk:=hpA.mh.Ee Jp k1 J;rw[show VT pre k1=none from zL yx7]at hlk;obtain⟨wp,ymv,hmp,E⟩:=hpA.mh.put Jp k1 J 1 1 rfl J J;have H:=Z (hpA.key hmp E);have lF:Fr (λg=>g=hm) (λg=>g=hm) (wr.alloc (.cells #[zv k1,a0,.slice ma m0.len mc] 219)) wp:=⟨E.os,E.tape,E.output,E.size,λk hk hn=>E.block k hk (λe=>hn (zR e)),λ_ q => .inl q⟩;have hcA:=hpA.ch;have HFP:=Z lF;have kec:zy wp (wr:Nat) 0 (zv k1):=lF.cell (zg _ _ _ _ _) (λe=>by have:=A.lt.2.2.2;simp only at e;omega);have HMP:=Z ((I.fr hfA (λ_ q=>q.elim)).fr lF (by rintro g rfl;exact A.out.2.2.2));have HFW:=Z ((D.trans (hfA.wide (λ_ q=>q.elim))).over lF (by rintro g rfl;exact .inr A.lo.2.2.2));have f:=Tryz.strings_CutPrefix ⟨k1.toArray⟩ ⟨#[61]⟩ wp;rw[show(jW k1.toArray).data.toList=k1 by simp,show(jW #[61]).data.toList=[61]from rfl]at f;clear I U D XR Fu Kr Ma GA hmn KM Vf l ZE yx6 hfA hpA A yx7 hmp E lF;by_cases hx:k1.head? = some 61
    .rw[(AO k1 hx).1,(AO k1 hx).2]at f;have G:=Z f;obtain⟨q1,q2,q3⟩:=yx8 hfo hx;have HAT:=Z (AK k1.tail wp q2 q3 q1);have HX:=Z hx;obtain⟨kv,wK⟩:=zo (ZH k1.tail);obtain⟨kt,hkt⟩:=zo k1.tail;have vgf:kv<=4000000000:=(by rw[<-wK];exact eo _ q2 q3);rw[wK,hkt]at HAT;rw[hkt]at G;have lU:=Z wK;clear f hx yx8 q1 q2 q3 wK hkt;go_wp2_with fail;refine G.o.mono ?_;rintro e w4 ⟨rfl,rfl⟩;go_wp2_with fail;refine HAT.o.mono ?_;rintro e w5 ⟨rfl,Xv⟩;have f5:Fr j6 j6 w4 w5:=Fr.of Xv;clear G HAT ymv hlk hcA;have ca5:=f5.cell H.o.ca id;have ke5:=f5.cell kec id;go_wp2_with fail;refine bW (λW':z7=>zy W' ab 0 (.map (some am))/\zy W' (wr:Nat) 0 (zv k1)) [0,1,2,3,4] 4 ⟨ca5,ke5⟩ ?_;refine bF 5 (λP z=>?_);obtain⟨w6,Av,hk6,V⟩:=UZ 1 w5.drew J;rw[show((1:Nat):Int)=1 from rfl]at Av;have V:=V.und;have ca6:=V.cell ca5 id;have ke6:=V.cell ke5 id;go_simp;refine z.out _ _ ⟨ca6,ke6⟩ λ_=>?_
     clear z P;refine rqm [6] 2 ⟨ca6,ke6⟩ ?_;refine ty ?_;try simp only[pl]
     refine yA ?_;refine bF 7 (λP z=>?_);go_simp;have f46:Fr j6 j6 w4 w6:=f5.trans V;have hm6:=HMP.o.fr f46 (λ_ q=>q.elim);have hp6:=H.o.al' f46 (λ_ q=>q.elim);have hss:=Dh;unfold MkS.sz at hss;have h8:(qI ⟨7,d.pos,kv,[],yu 1 0⟩).length=7:=Ru;have he6:XQ lo hi w0 u.B w6:=(by rw[C];exact(HE.o.fr HFW.o HH.o.lo).fr f46 (λ_ q=>q.elim));have HP:=Z (bO p u d 7 kv [] (yu 1 0) (.slice none 0 0) (.slice (w5,0) 1 1) w6 hm6 (qT.nil _) hk6 (λg hg=>VJ) (λg hg q=>by cases hg;have h1:=HMP.o.lt q;have h2:=f5.size;exact absurd h1 (by show ¬(w5:Nat)<(w4:Nat);omega)) (λg hg q=>X0)
      (λg hg=>by rcases hg with hg|hg<;>cases hg;have h1:=HMP.o.base;have h2:=f5.size;show u.B<=(w5:Nat);omega)
      ⟨(by decide:7<12),by show kv<=_;omega,zY,zY,by simp,rfl⟩ he6.fo he6.g1 J J J)
     refine HP.o.mono ?_;rintro e w7 ⟨b,c,rfl,xdd,PF,lD,L4,hm7,⟨hq7,hB7⟩,hf7,nb7,nc7⟩;have f47:Fr (u.has p) (L4.has p) w4 w7:=(f46.wide (λ_ q=>q.elim)).tr hf7 (λq hq=>by
      rcases hq with hq|hq|hq
      .exact .inl hq
      .cases hq
      .cases hq;exact .inr f5.size)
     have nk1:¬u.has p (wr:Nat):=λq=>by have:=NG.o.lt q;omega
     have ca7:=f47.cell H.o.ca H.o.out.1;have ke7:=f47.cell kec nk1;have N:=H.o.fr f47 (MkS.ZU d 7 kv [] (yu 1 0));obtain⟨w8,ymq,ymk,j⟩:=N.ma.put k1 J (b,c) J;have HP8:=Z (N.ask (k:=k1) zY (λe he q=>xdj.o (by rw[<-q];exact HPL.o.ks e he)) ymk j xdd nb7 nc7 (i:=d.code.length) (y:=⟨7,d.pos,kv,[],yu 1 0⟩) (by simp[MkS.put]) zY);have hf8:Fr (λg=>g=am) (λg=>g=am) w7 w8:=⟨j.os,j.tape,j.output,j.size,λk hk hn=>j.block k hk (λe=>hn (zR e)),λ_ q => .inl q⟩;have HM8:=Z (hm7.fr hf8 (by rintro g rfl;exact N.out.2.1));have HF8:=Z ((HFW.o.trans f47).over hf8 (by rintro g rfl;exact .inr N.lo.2.1));have ca8:=hf8.cell ca7 N.ne.1;have ke8:=hf8.cell ke7 (λe=>by have:=HPL.o.lt.2.1;have e2:(wr:Nat)=am:=e;omega);have hz8:=fZ d 7 kv [] (yu 1 0);refine z.out _ _ ⟨ca7,ke7⟩ λ_=>?_
     clear z P;refine bF 8 (λP z=>?_);go_simp;refine z.out _ _ ⟨ca8,ke8⟩ λ_=>?_
     clear z P;refine fR ?_ _;have hq9:=hq7;clear ymq N ymk j hm7 hf7 f47 f46 hm6 hp6 he6 HP Av;go_wp2;go_roundw
     case rel =>
      refine⟨i+1,us++[zv k1,.int .i64 a0,.slice ma m0.len mc],AM,r0,d.put 7 kv [] (yu 1 0),L4,al++[(k1,d.code.length,b,c)],pre++[k1],xi,J,FI.o,HLR.o,DL,DM,J,JN,HM8.o,⟨hq7.trans MR,hB7.trans C⟩,HF8.o,HP8.o,?_,by simp[HPR.o],by simp;omega,J⟩;have:=Qm.o;rw[MkS.VR,zl HX.o,lU.o]at this;simpa[VW.ix]using this
     case measure=>simp only[intOf];omega
    .rw[(AP k1 hx).1,(AP k1 hx).2]at f;have G:=Z f;have HX:=Z hx;clear f hx yx8;go_wp2_with fail;refine G.o.mono ?_;rintro e w4 ⟨rfl,rfl⟩;clear G ymv hlk hcA;go_wp2;go_roundw
     case rel =>
      refine⟨i+1,us++[zv k1,.int .i64 a0,.slice ma m0.len mc],AM,r0,d,u,al,pre++[k1],by go_num,J,FI.o,HLR.o,DL,DM,J,JN,HMP.o,⟨MR,C⟩,HFW.o,H.o,?_,by simp[HPR.o],J,J⟩;have:=Qm.o;rw[MkS.VR,zL HX.o]at this;exact this
     case measure=>simp only[intOf];omega
  .have j8:r.keys=[]/\MkS.VR r d al.ix=(d,al.ix):=zl5;have hP1:MkS.eN n of bs s=(d,al.ix):=by
    unfold MkS.eN;rw[TZ.o,HOV.o,Jx.o,HR.o];exact XR.symm.trans j8.2
   have HP1:=Z hP1;have Cf:=Z (show bs.keys=pre by rw[l,j8.1];simp);have k3:¬(i:Int)<(M:Int):=J;have k4:decide ((i:Int)<(M:Int))=false:=zV;obtain⟨wm,Av,hkm,AB⟩:=UZ 6 wr J;rw[show((6:Nat):Int)=6 from rfl]at Av;have ymj:=I.fr AB (λ_ q=>q.elim);have hem:=U.fr AB (λ_ q=>q.elim);have hpm:=A.al' AB (λ_ q=>q.elim);have f3m:Fr (L.has p) (u.has p) w wm:=D.trans (AB.wide (λ_ q=>q.elim));have c3m:=D.cell (a:=(zX b0 2)) c3 F;obtain⟨HMM,HEM,HPM,H3M,HKM,HFM⟩:=l6 ymj hem hpm f3m hkm AB;have hss:=ZE;unfold MkS.sz at hss;have hs9:d.sz<=899990:=J;obtain⟨op,K⟩:=zo ((if fo=2 then 9 else 8));have HSS:=Z (show d.put op 0 [] (yu 6 0)=MkS.VS n of fo bs s by unfold MkS.VS;rw[hP1,K]);have lwr:=I.base.2;clear I U D A XR Fu Kr Ma Vf l ZE bA j8 yx6 hP1 ymj hem hpm f3m hkm;have yx9:(((fo:Int)==2)=true/\9=op)\/(((fo:Int)==2)=false/\8=op):=by
    by_cases q:fo=2
    .left;rw[zl q]at K;exact⟨by simp[q],K⟩
    .right;rw[zL q]at K;exact⟨zV,K⟩
   clear K;have rN:op<12:=J;have ho2:okB (YK op) 0 6=true:=(by rcases yx9 with⟨-,rfl⟩|⟨-,rfl⟩<;>rfl);have ho3:(qI ⟨op,d.pos,0,[],yu 6 0⟩).length<=1000000:=(by rcases yx9 with⟨-,rfl⟩|⟨-,rfl⟩<;>simp[qI,YK,gm,gz]);have HP:=Z (bO p u d op 0 [] (yu 6 0) (.slice none 0 0) (.slice (wr,0) 6 6) wm HMM.o (qT.nil _) HKM.o (λg hg=>VJ) (λg hg q=>sG) (λg hg q=>X0)
    (λg hg=>by rcases hg with hg|hg<;>cases hg;have h1:=NG.o.base;show u.B<=(wr:Nat);omega)
    ⟨rN,zY,zY,zY,by simp,ho2⟩ HEM.o.fo HEM.o.g1 J J ho3)
   have HI6:=Z (show ∃x,(d.put op 0 [] (yu 6 0)).code[d.code.length]? = some x/\x.tg.length=6 from⟨_,by simp[MkS.put];rfl,zY⟩);have HLE:=Z (MkS.ZU d op 0 [] (yu 6 0));clear rN ho2 ho3;rcases yx9 with⟨kf,rfl⟩|⟨kf,rfl⟩;all_goals
    go_wp2_with fail;refine HP.o.mono ?_;rintro e w5 ⟨b,c,rfl,OA,-,-,L4,PM,⟨hq5,hB5⟩,hf5,nb5,nc5⟩;have f35:Fr (u.has p) (L4.has p) wr w5:=(HFM.o.wide (λ_ q=>q.elim)).tr hf5 (λq hq=>by
     rcases hq with hq|hq|hq
     .exact .inl hq
     .cases hq
     .cases hq;exact .inr (X _))
    have fw5:Fr (L.has p) (L4.has p) w w5:=HF3.o.trans f35;have he5:XQ lo hi w0 L4.B w5:=(by rw[hB5,C];exact HE.o.fr fw5 HH.o.lo);have tF:=HPL.o.fr f35 HLE.o;obtain⟨x,hx,hx6⟩:=HI6.o;have NV:∀k∈pre,k.length<=17:=λk hk=>(HKS.o k (by rw[Cf.o];exact hk)).1
    obtain⟨wT,hwT⟩:=zo (w5.alloc (.cells #[ZY b c] 107));obtain⟨T,hI⟩:=zb9 tF OA nb5 nc5 he5.na he5.g2 PM hx hx6 NV hwT;have hfT:Fr j6 j6 w5 wT:=(by rw[<-hwT];exact(Fr.refl _ _).alloc _);have hbg:MkS.XU n of bs s=plG pre al.ix d.code.length:=by
     funext k x;unfold MkS.XU plG;rw[HP1.o,Cf.o];rfl
    rw[<-hbg,HSS.o,<-Cf.o]at T;have hmT:=PM.fr hfT (λ_ q=>q.elim);rw[HSS.o]at hmT;have hzp:=(MkS.Mz n of fo bs s).2;have hgk:=Fo.Ub bs;have hsb:=HS.o;have O:=Z (BD b0 n a fo of cl bs p L4 (MkS.VS n of fo bs s) (MkS.XU n of bs s) _ _ wT HIH.o hmT (he5.fr hfT (λ_ q=>q.elim)) HND.o HL.o HBC.o HBW.o (by rw[HM.o];exact hbn) J T hI);have HWT:=Z (fw5.trans (hfT.wide (λ_ q=>q.elim)));have hz9:(Fk bs (MkS.XU n of bs s) (MkS.VS n of fo bs s)).sz<=900000:=by
     obtain⟨-,q⟩:=MkS.go_le bs (MkS.XU n of bs s) (MkS.VS n of fo bs s) [] (λk x=>MkS.M6 n of bs s k x);exact R4
    obtain⟨s9,hs9⟩:=zo (Fk bs (MkS.XU n of bs s) (MkS.VS n of fo bs s));rw[hs9]at O hz9;have HS9:=Z hs9;unfold MkS.sz at hz9;clear hs9 T hI hmT hx tF he5 fw5 f35 hf5 PM OA hbg NV hfT;go_wp2_with fail;refine O.o.mono ?_;rintro e w9 ⟨rfl,L9,hm9,⟨hq9,hB9⟩,hf9⟩;have hw9:=HWT.o.trans hf9;have he9:XQ lo hi w0 L9.B w9:=(by rw[hB9,hB5,C];exact HE.o.fr hw9 HH.o.lo);have Pl:=Z (bO p L9 s9 5 0 [] [] (.slice none 0 0) (.slice none 0 0) w9 hm9 (qT.nil _) (qT.nil _) (λg hg=>VJ) (λg hg=>by cases hg) (λg hg=>by cases hg) (λg hg=>Rq)
     ⟨(by decide:5<12),zY,zY,zY,by simp,rfl⟩ he9.fo he9.g1 J J (by simp[qI,YK,gm]))
    have HW9:=Z hw9;clear hm9 hf9 hw9 he9 O hwT;go_wp2_with fail;refine Pl.o.mono ?_;rintro e wX ⟨b9,c9,rfl,-,-,-,LX,hmX,⟨hqX,hBX⟩,hfX,-,-⟩;have HMX:=Z hmX;have HFX:=Z hfX;clear hmX hfX Pl;go_wp2;refine zU (v := .tuple #[]) ?_ rfl ?_
    .simp[yk,results69,go_sem]
    rw[HS9.o];refine⟨rfl,LX,HMX.o,⟨by rw[hqX,hq9,hq5,MR],by rw[hBX,hB9,hB5,C]⟩,HW9.o.tr HFX.o (λq hq=>?_)⟩;rcases hq with hq|hq|hq
    .exact HW9.o.fp q hq
    .cases hq
    .cases hq
section
variable (b:Nat) (t:Wd) (w:z7)
def zby:(zA (.iface 166 (zv t)) 153 166 true).run prog w = .ok (.tuple #[zv t,.bool true]) w:=xK
def ep:(zA (.iface 169 (.agg #[])) 153 166 true).run prog w = .ok (.tuple #[.string ⟨#[]⟩,.bool false]) w:=xK
def zbx:(zA (.iface 169 (.agg #[])) 153 169 true).run prog w = .ok (.tuple #[.agg #[],.bool true]) w:=xK
def zzf:(zA (.iface 170 (b,0)) 153 166 true).run prog w = .ok (.tuple #[.string ⟨#[]⟩,.bool false]) w:=xK
def zzd:(zA (.iface 170 (b,0)) 153 169 true).run prog w = .ok (.tuple #[.agg #[],.bool false]) w:=xK
def zzb:(zA (.iface 173 (b,0)) 153 166 true).run prog w = .ok (.tuple #[.string ⟨#[]⟩,.bool false]) w:=xK
def zy0:(zA (.iface 173 (b,0)) 153 169 true).run prog w = .ok (.tuple #[.agg #[],.bool false]) w:=xK
def zbv:(zA (.iface 159 (b,0)) 153 166 true).run prog w = .ok (.tuple #[.string ⟨#[]⟩,.bool false]) w:=xK
def zbu:(zA (.iface 159 (b,0)) 153 169 true).run prog w = .ok (.tuple #[.agg #[],.bool false]) w:=xK
end
def zy1(f:Fo)(ih:∀m:Fo,zW m<zW f->OW lo hi w0 m):OW lo hi w0 f:=by
 intro p L s w a c vs h he T P hm hw hc hl hs;obtain⟨M,hM⟩:=zo f.len;rw[hM];have hvl:vs.length=M:=(zt.count f vs P hm).trans hM;obtain⟨R,hR⟩:=zo (MkS.MA f s);rw[hR];obtain⟨HH,HE,gi,D3,HM,HC,HW,HR⟩:=l8 h he T P hm hc hw hR;obtain⟨HIH,HVL,HL,HS⟩:=hdd ih hvl hM hs;have Nj:M<=2000000:=J;clear h he T P hm hc hw hR ih hvl hM hs hl;go_enter func39,ntmps39;go_wp2_with fail;go_loopw [13] (λiv wr=>∃i us xs r d y,iv = .int .i64 (i:Nat)/\i<=M/\zt lo hi w0 xs r/\r.vS=true/\r.Cl/\r.wf 2000000=true/\us.length=i/\vs=us++xs/\i+r.len=M/\zW r<=zW f /\
  uq p y d wr/\(y.q=L.q/\y.B=L.B)/\Fr (L.has p) (y.has p) w wr/\MkS.MA r d=R/\d.sz+r.cw<=900000) (λiv _=>M - (intOf iv).toNat)
 case atStart=>exact⟨0,[],vs,f,s,L,rfl,zG _,D3.o,HM.o,HC.o,HW.o,rfl,rfl,by have:=HL.o;omega,X _,HH.o,⟨rfl,rfl⟩,Fr.refl _ _,HR.o,HS.o⟩
 case round =>
  obtain⟨i,us,xs,r,d,y,rfl,hiL,bA,hmr,hcr,AL,Kr,hvs,Vf,dw,Dz,⟨aH,U⟩,W,I6,ZE⟩:=hrel;have he1:XQ lo hi w0 y.B wr:=by rw[U];exact HE.o.fr W HH.o.lo
  obtain⟨HN,Cv,lX,K,aF,nQ,D,l⟩:=l8 bA hmr hcr AL hvs Kr Dz he1;obtain⟨QP,E,I,DZ,U5⟩:=FD W I6 ZE Vf dw;clear bA hmr hcr AL hvs Kr Dz he1 W I6 ZE;by_cases ud:i<M
  .obtain⟨x0,xt,PI⟩:∃x0 xt,xs=x0::xt:=nN;subst PI;obtain⟨g,o,rfl,hg1,oO,F⟩:=gi.o i (by have:=HVL.o;omega);have hx0:vs[i]'(by have:=HVL.o;omega)=x0:=nU;rw[hx0]at F;have La:=ym l.o.keep F hg1 oO;have k1:(i:Int)<(M:Int):=J;have k2:decide ((i:Int)<(M:Int))=true:=zV;clear F hx0 Vf dw;have Q:∀(x:zx) (xt:List zx) (r':Fo) (s2:MkS) (L2:Yc) (w2:z7),x0=x->vs=us++x::xt->zt lo hi w0 xt r'->r'.vS=true->r'.Cl->r'.wf 2000000=true->i+(r'.len+1)=M->zW r'<=zW f->uq p L2 s2 w2->(L2.q=y.q/\L2.B=y.B)->Fr (y.has p) (L2.has p) wr w2->MkS.MA r' s2=R->s2.sz+r'.cw<=900000 ->
     ∃i' us' xs' r d y,(yF .i64 ((i:Int)+1)) = .int .i64 (i':Nat)/\i'<=M/\zt lo hi w0 xs' r/\r.vS=true/\r.Cl/\r.wf 2000000=true/\us'.length=i'/\vs=us'++xs'/\i'+r.len=M/\zW r<=zW f /\
      uq p y d w2/\(y.q=L.q/\y.B=L.B)/\Fr (L.has p) (y.has p) w w2/\MkS.MA r d=R/\d.sz+r.cw<=900000 :=
    λx xt r' s2 L2 w2 e1 e2 e3 e4 e5 e6 e7 e8 e9 e10 e11 e12 e13=>⟨i+1,us++[x],xt,r',s2,L2,zY,J,e3,e4,e5,e6,by simp[nQ.o],by rw[e2];simp,J,e8,e9,⟨e10.1.trans aH,e10.2.trans U⟩,QP.o.trans e11,e12,e13⟩
   have RR:=Z Q;clear Q;cases r with
   |nil =>
    have:=HN.o;cases this
   |uB k0 a0 m0 r0=>have:=Cv.o;cases this
   |text t r =>
    obtain⟨vt,A,bA⟩:=HN.o;cases A;have a1:=zby t;have FI:=Z bA;have C:=lX.o;have z:=I.o;have hso:=d.G0 1 t (.inl rfl);simp only[Fo.cw]at z;have u:=Z (Ls p y d 1 t wr D.o (.inl rfl) C.1 J l.o.fo l.o.g1);clear bA C;go_wp2_with fail;refine u.o.mono ?_;rintro e w2 ⟨rfl,L2,GJ,QW,V0⟩;have Cx:=Z GJ;have ZT:=Z V0;clear GJ V0 u;go_wp2;go_roundw
    case rel=>exact RR.o _ _ r (d.one 1 t) L2 w2 rfl aF.o FI.o Cv.o lX.o.2 K.o DZ.o JF Cx.o QW ZT.o E.o J
    case measure=>simp only[intOf];omega
   |hash r =>
    obtain⟨vt,A,bA⟩:=HN.o;cases A;have a1:=ep;have a2:=zbx;have FI:=Z bA;have z:=I.o;simp only[Fo.cw]at z;have xb4:=z;unfold MkS.sz at xb4;have S:Fr j6 j6 wr (wr.alloc (.cells #[] 169)):=(Fr.refl _ _).alloc _;have hx:(qI ⟨6,d.pos,0,[],[]⟩).length=1:=IX;have hzz:=fZ d 6 0 [] [];have V:=l.o.fr S (λ_ q=>q.elim);have Pl:=Z (bO p y d 6 0 [] [] (.slice none 0 0) (.slice none 0 0) (wr.alloc (.cells #[] 169)) (D.o.fr S (λ_ q=>q.elim)) (qT.nil _) (qT.nil _) (λg hg=>VJ) (λg hg=>by cases hg) (λg hg=>by cases hg) (λg hg=>Rq)
     ⟨(by decide:6<12),zY,zY,zY,by simp,rfl⟩ V.fo V.g1 J J (by rw[hx];omega))
    have HFA:=Z S;clear bA S V;go_wp2_with fail;refine Pl.o.mono ?_;rintro e w2 ⟨b9,c9,rfl,-,-,-,L2,GJ,QW,V0,-,-⟩;have Cx:=Z GJ;have ZT:=Z (show Fr (y.has p) (L2.has p) wr w2 from(HFA.o.wide (λ_ q=>q.elim)).tr V0 (λq hq=>by
     rcases hq with hq|hq|hq
     .exact .inl hq
     .cases hq
     .cases hq))
    clear GJ V0 Pl;go_wp2;go_roundw
    case rel=>exact RR.o _ _ r (d.put 6 0 [] []) L2 w2 rfl aF.o FI.o Cv.o lX.o K.o DZ.o JF Cx.o QW ZT.o E.o J
    case measure=>simp only[intOf];omega
   |put n a r =>
    obtain⟨vt,b0,A,G,H,N,-,bA⟩:=HN.o;cases A;have S2:=ym l.o.keep N G H;have a1:=zzf b0;have a2:=zzd b0;have a3:=BJ b0;have FI:=Z bA;have C:=lX.o;have z:=I.o;have hso:=d.G0 2 n J;simp only[Fo.cw]at z;have Db:(decide (n.length<=4000001) && r.wf 2000000)=true:=K.o;simp only[zQ,qP]at Db;have HWQ:=Z Db.2;have u:=Z (Ls p y d 2 n wr D.o J (by have:=C.1;omega) J l.o.fo l.o.g1);clear bA C N Db;go_wp2_with fail;refine u.o.mono ?_;rintro e w2 ⟨rfl,L2,GJ,QW,V0⟩;have Cx:=Z GJ;have ZT:=Z V0;clear GJ V0 u;go_wp2;go_roundw
    case rel=>exact RR.o _ _ r (d.one 2 n) L2 w2 rfl aF.o FI.o Cv.o lX.o.2 HWQ.o DZ.o JF Cx.o QW ZT.o E.o J
    case measure=>simp only[intOf];omega
   |num n a r =>
    obtain⟨vt,b0,A,G,H,N,-,bA⟩:=HN.o;cases A;have S2:=ym l.o.keep N G H;have a1:=zzb b0;have a2:=zy0 b0;have a3:=BG b0;have a4:=QG b0;have FI:=Z bA;have C:=lX.o;have z:=I.o;have hso:=d.G0 3 n J;simp only[Fo.cw]at z;have Db:(decide (n.length<=4000001) && r.wf 2000000)=true:=K.o;simp only[zQ,qP]at Db;have HWQ:=Z Db.2;have u:=Z (Ls p y d 3 n wr D.o J (by have:=C.1;omega) J l.o.fo l.o.g1);clear bA C N Db;go_wp2_with fail;refine u.o.mono ?_;rintro e w2 ⟨rfl,L2,GJ,QW,V0⟩;have Cx:=Z GJ;have ZT:=Z V0;clear GJ V0 u;go_wp2;go_roundw
    case rel=>exact RR.o _ _ r (d.one 3 n) L2 w2 rfl aF.o FI.o Cv.o lX.o.2 HWQ.o DZ.o JF Cx.o QW ZT.o E.o J
    case measure=>simp only[intOf];omega
   |br n a fo of cl j r =>
    obtain⟨vt,b0,ba,bc,ws,A,G,H,hd0,hd1,Yt,Ez,hd4,hd5,EX,EV,bA⟩:=HN.o;cases A;have hh2:=ym l.o.keep Yt G H;have a1:=zbv b0;have a2:=zbu b0;have a3:=Ep b0;have a4:=Jh b0;have a5:=KH b0;have FI:=Z bA;have Cy:zt lo hi w0 [.iface 159 (b0,0)] (.br n a fo of cl j .nil):=⟨[],b0,ba,bc,ws,rfl,G,H,hd0,hd1,Yt,Ez,hd4,hd5,EX,EV,rfl⟩;obtain⟨k1',k2',k3',k4',k5',k6',k7',k8'⟩:=lX.o;have hck:(Fo.br n a fo of cl j .nil).Cl:=⟨k1',k2',k3',k4',k5',k6',k7',trivial⟩;have Db:(decide (n.length<=4000001) && decide (fo<3) && j.ug && decide (j.len<=2000000) && j.wf 2000000 && r.wf 2000000)=true:=K.o;have hwk:(Fo.br n a fo of cl j .nil).wf 2000000=true:=by
     simp only[zQ]at Db;simp only[Fo.wf,zQ];exact⟨Db.1,trivial⟩
    simp only[zQ,qP]at Db;have HWQ:=Z Db.2;have z:=I.o;simp only[Fo.cw]at z;have hih:∀m:Fo,zW m<zW j->OW lo hi w0 m:=λm hm=>HIH.o m JF
    by_cases O:fo=0
    .have kf:((fo:Int)==0)=true:=(by simp[O]);have Qm:=Z (show MkS.MA r (Fk j (MkS.FX n j d) (MkS.QF n j d))=R by
      have:=E.o;unfold MkS.MA at this|-;rw[MkS.VZ,zl O]at this;exact this)
     have hzb:(Fk j (MkS.FX n j d) (MkS.QF n j d)).sz+r.cw<=900000:=by
      obtain⟨-,q⟩:=MkS.go_le j (MkS.FX n j d) (MkS.QF n j d) [] (λk x=>MkS.M5 n j d k x);have:=(MkS.M9 n j d).2;exact R4
     subst O;have HBR:=Z (My b0 n a of cl j p y d wr hih D.o l.o Cy hck hwk J);exact pO
    .have kf:((fo:Int)==0)=false:=(by simp;omega);have Qm:=Z (show MkS.MA r ((Fk j (MkS.XU n of j d) (MkS.VS n of fo j d)).put 5 0 [] [])=R by
      have:=E.o;unfold MkS.MA at this|-;rw[MkS.VZ,zL O]at this;exact this)
     have hzb:((Fk j (MkS.XU n of j d) (MkS.VS n of fo j d)).put 5 0 [] []).sz+r.cw<=900000:=by
      obtain⟨-,q⟩:=MkS.go_le j (MkS.XU n of j d) (MkS.VS n of fo j d) [] (λk x=>MkS.M6 n of j d k x);have:=(MkS.Mz n of fo j d).2;have hx:∀p,(qI ⟨5,p,0,[],[]⟩).length=1:=λp=>IX
      rw[fZ,hx];exact R4
     have HBR:=Z (TV b0 n a fo of cl j p y d wr hih D.o l.o O Cy hck hwk J);exact pO
  .have j8:r = .nil:=by
    have:=DZ.o;have:=Cv.o;cases r with
    |nil=>rfl
    |uB k a m r=>cases this
    |_=>simp only[Fo.len]at *;omega
   have HX:=Z (show d=R by rw[<-E.o,j8];rfl);have k1:¬(i:Int)<(M:Int):=J;have k2:decide ((i:Int)<(M:Int))=false:=zV;clear j8;go_wp2;refine zU (v := .tuple #[]) ?_ rfl ?_
   .simp[yk,results39,go_sem]
   rw[<-HX.o];exact⟨rfl,y,D.o,⟨aH,U⟩,QP.o⟩
def zbk:∀f:Fo,OW lo hi w0 f:=by
 have key:∀n (f:Fo),zW f<n->OW lo hi w0 f:=by
  intro n;induction n with
  |zero=>intro f h;omega
  |succ n a=>intro f h;exact zy1 f (λm hm=>a m J)
 intro f;exact key _ f (xf _)
def V6(w:z7)(b n:Nat)(f:Nat->Option Nat):Prop :=
 ∃D:DataW Unit,w.ownsMap prog 3 (plainElem prog 3) b n D/\∀m:Nat,znq D (.int .i64 (m:Int))=(f m).isSome/\D.atKey (.int .i64 (m:Int)) (.lit (.int .i64 0)) = .lit (.int .i64 (((f m).getD 0:Nat):Int))
def V6.lt{b:Nat}{f:Nat->Option Nat}(h:V6 w b n f):b<(w:Nat):=Ph
def V6.keep{b:Nat}{f:Nat->Option Nat}(h:V6 w b n f)(hb:w'.heap[b]? = w.heap[b]?):V6 w' b n f:=o6
def V6.made(w:z7):V6 (w.alloc (.map #[] 0)) (w:Nat) 0 (λ_=>none):=⟨.map [],C5 w _ _ _,λm=>⟨rfl,rfl⟩⟩
def TU{m:Nat}(hm:m<=4000000000):(Lit.int .i64 (m:Int)).wf=true:=Pr
def V6.look{b:Nat}{f:Nat->Option Nat}(h:V6 w b n f)(m:Nat)(hm:m<=4000000000) :
  (C6 100 (.map (some b)) (m:Int) true).run prog w = .ok (.tuple #[(((f m).getD 0:Nat):Int),.bool (f m).isSome]) w:=by
 obtain⟨D,h1,h3⟩:=h;obtain⟨v,ps,dy,hv⟩:=h1.look_ok (znk underlying3) underlying100 (z := .int .i64 0) Io (Zh underlying3 zj)
  (key := .int .i64 (m:Int)) (zuk underlying3 (TU hm))
 rw[(h3 m).1]at dy;rw[(h3 m).2]at hv;obtain⟨c,rfl,hc,_⟩:=plainElem_int_inv underlying3 hv;simp only[Yg,Hs,zk5]at hc;rw[dy,<-hc.1.2]
def V6.put{b:Nat}{f:Nat->Option Nat}(h:V6 w b n f)(m:Nat)(hm:m<=4000000000)(k:Nat)(hk:k<=4000000000)(hn:n<=1000000000) :
  ∃w',(Cw 100 (.map (some b)) (.int .i64 (m:Int)) (.int .i64 (k:Int))).run prog w = .ok () w'/\V6 w' b (n+1) (λx=>if m=x then some k else f x)/\w.grownBy w' (some b):=by
 obtain⟨D,h1,h3⟩:=h;have hi:=h1.isMap;obtain⟨w',dy,uT,hg⟩:=h1.update (znk underlying3) underlying100 (by unfold maxLen;omega) (key := .int .i64 (m:Int)) (zuk underlying3 (TU hm))
  (Zh underlying3 (q := .i64) (a:=(k:Int)) (TU hk))
 refine⟨w',dy,⟨_,uT,λx=>?_⟩,hg⟩;by_cases hx:m=x
 .subst hx;simp only[↓reduceIte];exact⟨by rw[Vr hi (show ku (.int .i64 (m:Int))from trivial)];simp,by rw[dC hi (show ku (.int .i64 (m:Int))from trivial)];simp⟩
 .simp only[hx,↓reduceIte];have fH:(Lit.int .i64 (x:Int)) ≠ .int .i64 (m:Int):=λq=>hx (by cases q;rfl)
  exact⟨by rw[Xc fH];exact(h3 x).1,by rw[fF fH];exact(h3 x).2⟩
def Oe(code:List Jn):Nat->Nat->Option Nat
 | 0,_=>none
 |k+1,x=>if (code[k]?.map (·.pos))=some x then some k else Oe code k x
def eh(t:uP)(k e:uP)(a:prog.underlying t=some (.map k e))(n:Nat)(w:z7):(znj t (some (.int .i64 (n:Int)))).run prog w = .ok (.map (some (w:Nat))) (w.alloc (.map #[] 0)):=by
 simp[znj,zuu a,asInt,go_sem]
def xb5(p:Nat)(L:Yc)(s:MkS)(w:z7)(e:gG)(w':z7):Prop :=
 e = .returned (.tuple #[])/\∃mb,(w:Nat)<=mb/\zy w' L.q 0 L.vC/\zy w' L.q 1 L.vI/\zy w' L.q 2 (.map (some mb))/\V6 w' mb s.code.length (Oe s.code s.code.length)/\Fr (λg=>g=L.q) (λg=>g=L.q\/g=mb) w w'
def ew(p:Nat)(L:Yc)(s:MkS)(w:z7)(h:uq p L s w)(hl:s.code.length<=1000000)(hp:∀x∈s.code,x.pos<=4000000000) :
  zE prog 41 #[(L.q,0)] w (xb5 p L s w):=by
 have V:=Z h;have HP:=Z hp;obtain⟨ia,ic,l⟩:=zD h.cI;obtain⟨n,hn⟩:=zo s.code.length;have q1:=h.q1;rw[l,hn]at q1;have S:=λo=>yG q1 o
 have q2:=h.q2;have T:=λo=>yG q2 o
 have lq:=ZZ h.tq;have U:∀o j,(w.alloc o).frozen? ⟨L.q,j,none⟩=false:=λo j=>(zb (xA _ _ _ lq)).trans (h.zq j)
 have N:=eh 100 _ _ underlying100 n;obtain⟨A,hA⟩:=zo ((w.alloc (.map #[] 0)).setCell (zX L.q 2) (.map (some (w:Nat))));have fA:Fr (λg=>g=L.q) (λg=>g=L.q) w A:=by rw[<-hA];exact((Fr.refl _ _).alloc _).set _ (.inl rfl)
 have W:zy A L.q 0 L.vC:=by rw[<-hA,zN,zL zY];exact yG h.q0 _
 have a1:zy A L.q 1 L.vI:=by rw[<-hA,zN,zL zY];exact yG h.q1 _
 have a2:zy A L.q 2 (.map (some (w:Nat))):=by rw[<-hA];exact Z5 (yG h.q2 _) _
 have M:V6 A (w:Nat) 0 (λ_=>none):=by
  rw[<-hA];exact(V6.made w).keep (zh _ _ _ _ (by show (w:Nat)≠L.q;omega))
 have m:w.ownsRow 0 110 5 L.vI n (Yy s.code L.rs):=by rw[<-hn];exact h.cI
 obtain⟨mb,c⟩:=zo (w:Nat);have u:=Z m;have cM:n<=1000000:=by rw[<-hn];exact hl
 have HN:=Z hn;have H:=Z fA;have t:=Z l;have nI:∀g,yd L.vI g->g≠L.q:=λg C=>(h.nI C).2.1
 have R:∀g,yd L.vI g->g<mb:=λg C=>by rw[<-c];exact ji h.cI C
 rw[l,hn]at a1;rw[c]at a2 M;clear h hp fA m hn l;go_enter func41,ntmps41;go_wp2_with fail;have z:(w.alloc (.map #[] 0)).setCell (zX L.q 2) (.map (some mb))=A:=by rw[<-c];exact hA
 rw[z];have i:=Z c;clear hA z c q1 S q2 T U N;go_loopw [17] (λkv wr=>∃k,kv = .int .i64 (k:Nat)/\k<=n/\V6 wr mb k (Oe s.code k)/\Fr (λg=>g=L.q) (λg=>g=L.q\/g=mb) w wr/\zy wr L.q 0 L.vC/\zy wr L.q 1 (.slice ia n ic)/\zy wr L.q 2 (.map (some mb))) (λkv _=>n - (intOf kv).toNat)
 case atStart=>exact⟨0,rfl,zG _,M,H.o.tg (λg C=>C.elim .inl (λe => .inr (by rw[e,i.o];exact X _))),W,a1,a2⟩
 case round =>
  clear M W a1 a2;obtain⟨k,rfl,hk,d,hf,c0,c1,c2⟩:=hrel;have HF:=Z hf;by_cases ud:k<n
  .obtain⟨x,hx⟩:∃x,s.code[k]? = some x:=⟨_,zw gA⟩;obtain⟨r,hr⟩:∃r,L.rs[k]? = some r:=⟨_,zw (by have:=V.o.rows.len;have:=HN.o;omega)⟩;obtain⟨I,ic2,hv,-,hI,B⟩:=vK u.o J;have P:ia=some ⟨I,0,none⟩:=(by have:=t.o;rw[hv]at this;cases this;rfl);subst P;have rI:yd L.vI I:=(by rw[t.o];rfl);have d1:zy w I (k*5+1) x.pos:=by
    rw[B _ J,Lp _ _ V.o.rows.len k 1 x r hx hr J];rfl
   have d2:=hf.cell d1 (nI I rI);have Q:=HP.o x (gg hx);obtain⟨w2,F,f,b⟩:=(d.keep (w':=wr.drew) rfl).put x.pos Q k J J;have E:(λy=>if x.pos=y then some k else Oe s.code k y)=Oe s.code (k+1):=by
    funext y;simp only[Oe,hx,MH,vw]
   rw[E]at f;have a:Fr (λg=>g=mb) (λg=>g=mb) wr w2:=(show Fr (λg=>g=mb) (λg=>g=mb) wr.drew w2 from⟨b.os,b.tape,b.output,b.size,λk hk hn=>b.block k hk (λe=>hn (zR e)),λ_ q => .inl q⟩).und;have O:L.q≠mb:=(by have:=i.o;omega);have K:=Z f;have G:=Z (hf.over a (by rintro g rfl;exact .inr (by rw[i.o];exact X _)));have e0:=a.cell c0 O;have e1:=a.cell c1 O;have e2:=a.cell c2 O;have d3:=a.cell d2 (show I≠mb by have:=R I rI;omega);have k3:(k:Int)<(n:Int):=J;have k4:decide ((k:Int)<(n:Int))=true:=zV;clear hf d f b a B hx hr hv d1;go_wp2_with fail;refine bW (λW':z7=>zy W' L.q 1 (.slice (zX I 0) n ic)/\zy W' L.q 2 (.map (some mb))/\zy W' I (k*5+1) x.pos) (Um 13) 1 ⟨c1,c2,d2⟩ ?_;refine bF 13 (λJk hJ=>?_);go_simp;refine hJ.out _ _ ⟨e1,e2,d3⟩ λ_=>?_
   clear hJ Jk;refine fR ?_ _;clear F;go_wp2;go_roundw
   case rel=>exact⟨k+1,xi,J,K.o,G.o,e0,e1,e2⟩
   case measure=>simp only[intOf];omega
  .have D:k=n:=(by omega);have HK:=Z (show V6 wr mb s.code.length (Oe s.code s.code.length)by rw[HN.o];rw[D]at d;exact d);have k3:¬(k:Int)<(n:Int):=J;have k4:decide ((k:Int)<(n:Int))=false:=zV;clear hf d D;go_wp2;refine zU (v := .tuple #[]) ?_ rfl ?_
   .simp[yk,results41,go_sem]
   exact⟨rfl,mb,by rw[i.o];exact X _,c0,by rw[t.o,HN.o];exact c1,c2,HK.o,HF.o⟩
variable{α:Type}
def MkS.UY(P:MkS->Prop)(g:MkS->α->MkS)(b:∀s a,P s->P (g s a)):∀(l:List α) (s:MkS),P s->P (l.foldl g s)
 |[],_,h=>h
 |a::l,s,h=>MkS.UY P g b l _ (b s a h)
structure ja(P:MkS->Prop):Prop where
 put:∀s op v k tg,P s->P (s.put op v k tg)
 const:∀s t,P s->P (s.const t)
 qh:∀s i j,P s->P (s.qh i j)
section
variable {P:MkS->Prop} (I:ja P)
include I
def ja.one{s:MkS}(op:Nat)(t:Wd)(h:P s):P (s.one op t):=I.put _ _ _ _ _ (I.const _ _ h)
def ja.ZL:∀(f:Fo) (s:MkS) (acc:List Nat),P s->P (MkS.ZL f s acc).1
 |.uB k _ _ r,s,acc,h=>by
  rw[MkS.ZL];split
  .exact ja.ZL r s acc h
  .exact ja.ZL r _ _ (I.const _ _ h)
 |.nil,_,_,h=>h
 |.text _ _,_,_,h=>h
 |.hash _,_,_,h=>h
 |.put _ _ _,_,_,h=>h
 |.num _ _ _,_,_,h=>h
 |.br _ _ _ _ _ _ _,_,_,h=>h
def ja.VR:∀(f:Fo) (s:MkS) (acc:List (Wd×Nat)),P s->P (MkS.VR f s acc).1
 |.uB k _ _ r,s,acc,h=>by
  rw[MkS.VR];split
  .exact ja.VR r _ _ (I.put _ _ _ _ _ h)
  .exact ja.VR r s acc h
 |.nil,_,_,h=>h
 |.text _ _,_,_,h=>h
 |.hash _,_,_,h=>h
 |.put _ _ _,_,_,h=>h
 |.num _ _ _,_,_,h=>h
 |.br _ _ _ _ _ _ _,_,_,h=>h
def ja.plu{s:MkS}(n o:Wd)(a:Fo)(s0:MkS)(k:Wd)(h:P s):P (MkS.XU n o a s0 k s):=by
 unfold MkS.XU;split
 .exact I.qh _ _ _ h
 .exact MkS.UY P _ (λs c h=>by split;exact I.qh _ _ _ h;exact h) _ _ h
def ja.go:∀(f:Fo) (a:Wd->MkS->MkS) (s:MkS) (ls:List Nat),(∀k s,P s->P (a k s))->P s->P (MkS.VZ f a s ls).1
 |.nil,_,_,_,_,h=>h
 |.text t r,a,s,ls,hb,h=>ja.go r a _ ls hb (I.one _ _ h)
 |.hash r,a,s,ls,hb,h=>ja.go r a _ ls hb (I.put _ _ _ _ _ h)
 |.put n _ r,a,s,ls,hb,h=>ja.go r a _ ls hb (I.one _ _ h)
 |.num n _ r,a,s,ls,hb,h=>ja.go r a _ ls hb (I.one _ _ h)
 |.br n _ f o _ b r,a,s,ls,hb,h=>by
  rw[MkS.VZ];split
  .exact ja.go r a _ ls hb (MkS.UY P _ (λs i h=>I.qh _ _ _ h) _ _ (ja.go b _ _ _ (λk x hx=>I.qh _ _ _ hx) (I.put _ _ _ _ _ (I.ZL b _ _ (I.const _ _ h)))))
  .exact ja.go r a _ ls hb (I.put _ _ _ _ _ (MkS.UY P _ (λs i h=>I.qh _ _ _ h) _ _ (ja.go b _ _ _ (λk x hx=>I.plu n o b s k hx) (I.put _ _ _ _ _ (I.VR b _ _ (I.put _ _ _ _ _ (I.const _ _ h)))))))
 |.uB k _ m r,a,s,ls,hb,h=>ja.go r a _ _ hb (I.put _ _ _ _ _ (ja.go m _ _ _ (λ_ _ h=>h) (hb k s h)))
def ja.all(f:Fo)(h:P MkS.start):P (MkS.all f):=I.put _ _ _ _ _ (I.go f _ _ _ (λ_ _ h=>h) h)
end
def zbj:ja λs=>∀x∈s.code,x.pos<=s.pos:=by
 refine⟨λs op v k tg h x hx=>?_,λs t h=>?_,λs i j h x hx=>?_⟩
 .simp only[MkS.put,xY,uG]at hx|-;rcases hx with hx|rfl
  .have:=h x hx;omega
  .show s.pos<=_;omega
 .obtain⟨-,z2,a⟩:=gu s t;rw[z2,a];exact h
 .simp only[MkS.qh]at hx|-;obtain⟨n,hn,e⟩:=List.mem_iff_getElem.1 hx;have h1:(s.code.modify i λx=>{ x with tg:=x.tg.set j s.pos })[n]? = some x:=by rw[zw hn,e]
  rw[List.getElem?_modify]at h1;cases hc:s.code[n]? with
  |none=>rw[hc]at h1;cases h1
  |some y =>
   rw[hc]at h1;have:=h y (gg hc);simp at h1;subst h1;split<;>exact this
structure VA(q:Nat)(s:MkS)(vC vI:zx)(rs:List (zx×zx))(mb:Nat)(w:z7):Prop where
 q0:zy w q 0 vC
 q1:zy w q 1 vI
 q2:zy w q 2 (.map (some mb))
 cC:w.ownsRow 0 9 1 vC s.cs.length (s.cs.map zv)
 cI:w.ownsRow 0 110 5 vI s.code.length (Yy s.code rs)
 rows:Bg w s.code rs
 mp:V6 w mb s.code.length (Oe s.code s.code.length)
def ymg(s:MkS)(w:z7)(e:gG)(w':z7):Prop:=∃q vC vI rs mb,e = .returned (.pointer (some ⟨q,0,none⟩))/\VA q s vC vI rs mb w'/\(w:Nat)<=q/\zJ w w'
def zy2(w:z7):∃W,W=((w.alloc (.cells #[.slice none 0 0,.slice none 0 0,.map none] 102)).alloc (.map #[] 0)).alloc (.cells #[(w,0),.int .i64 0,.map (some ((w:Nat)+1))] 105) /\
  uq ((w:Nat)+2) ⟨(w:Nat),(w:Nat),(w:Nat)+1,.slice none 0 0,.slice none 0 0,[]⟩ MkS.start W/\Fr j6 j6 w W:=by
 obtain⟨A,hA⟩:=zo (w.alloc (.cells #[.slice none 0 0,.slice none 0 0,.map none] 102));have g:(A:Nat)=(w:Nat)+1:=by rw[<-hA];simp
 have a:=λj=>zg w #[.slice none 0 0,.slice none 0 0,.map none] 102 (0,0) j
 have t:∀j,A.frozen? ⟨(w:Nat),j,none⟩=false:=by intro j;rw[<-hA];simp
 have q:Ua A (w:Nat)=some 102:=by rw[<-hA];exact KU _ _ _
 have o:Fr j6 j6 w A:=Jj;rw[hA]at a|-;clear hA;obtain⟨B,hB⟩:=zo (A.alloc (.map #[] 0));have c:(B:Nat)=(w:Nat)+2:=by rw[<-hB];simp[g]
 have e:=jk.made 3 A;have p:Fr j6 j6 A B:=R8;rw[hB,g]at e;rw[hB];clear hB;obtain⟨C,hC⟩:=zo (B.alloc (.cells #[(zX (w:Nat) 0),.int .i64 0,.map (some ((w:Nat)+1))] 105));have cC:=λj=>zg B #[(zX (w:Nat) 0),.int .i64 0,.map (some ((w:Nat)+1))] 105 (0,0) j
 have u:∀j,C.frozen? ⟨(w:Nat)+2,j,none⟩=false:=by intro j;rw[<-hC,<-c];simp
 have s:Ua C ((w:Nat)+2)=some 105:=by rw[<-hC,<-c];exact KU _ _ _
 have d:Fr j6 j6 B C:=R9;rw[hC,c]at cC;rw[hC];clear hC;have f:=p.trans d;have l:ke []=λ_=>none:=by funext x;simp[ke]
 refine⟨C,rfl,⟨cC 0,cC 1,cC 2,f.cell (a 0) id,f.cell (a 1) id,f.cell (a 2) id,u,λj=>(f.frozen (show (w:Nat)<_ by omega) id).trans (t j),s,(ue (f.keep (w:Nat) J id)).trans q,?_,yr _ _ _ _,yr _ _ _ _,⟨rfl,λn i r h=>by simp[MkS.start]at h,λn m r r' h=>JC⟩,?_⟩,o.trans f⟩
 .show jk _ _ _ 0 (ke []);rw[l];exact e.fr d id
 .rintro k (rfl|rfl|rfl|b|b|⟨r,hr,-⟩)
  .show (w:Nat)<=(w:Nat)+2;omega
  .exact VX
  .show (w:Nat)<=(w:Nat)+1;omega
  .cases b
  .cases b
  .cases hr
def zy3(f:Fo)(w:z7)(a:Option yi)(c:Nat)(vs:List zx)(hr:QJ lo hi w a vs)(S:zt lo hi w vs f)(Q:hi<=(w:Nat))(hm:f.vS=true)(hw:f.wf 2000000=true)(hc:f.Cl)(hl:f.len<=2000000)(hs:f.cw<=890000)
  (hF:gQ w) (hN:kb w):zE prog 22 #[.slice a f.len c] w (ymg (MkS.all f) w):=by
 have lY:=@run_makeMap prog;obtain⟨W,hW,D,h⟩:=zy2 w;have g1:=Y w _ (hF 0 J);have g2:=Y w _ (hN 0 J);have m:XQ lo hi w (w:Nat) W:=⟨⟨zZ Q h.size,λk h1 h2=>h.keep k J id⟩,Q,hF.fr h (λ_ q=>q.elim) g1,λj hj=>h.cell (hN j hj) id,g1,g2⟩;obtain⟨i,E,p,H⟩:=hdd (zbk f _ _ MkS.start W a c vs D m hr S hm hw hc hl (by show 0+_<=_;omega)) m D h;clear hr S hm hw hc hl hF hN m D h;go_enter func22,ntmps22;go_wp2_with fail;rw[<-hW];obtain⟨P,hP⟩:=zo ((w:Nat)+2);rw[show (w:Nat)+1+1=P from hP];rw[hP]at i p;clear hP;refine i.o.mono ?_;rintro e w1 ⟨rfl,L1,z,⟨A,u⟩,y⟩;dsimp only at A u;obtain⟨s1,C⟩:=zo (MkS.MA f MkS.start);have N7:=(zz4 f MkS.start).2;rw[C]at z N7;have Vk:s1.sz<=890000:=by have:MkS.start.sz=0:=rfl;omega
 unfold MkS.sz at Vk;have v:XQ lo hi w L1.B w1:=by rw[u];exact E.o.fr y p.o.lo
 have V:(qI ⟨0,s1.pos,0,[],[]⟩).length=1:=IX;have t:=Z (bO P L1 s1 0 0 [] [] (.slice none 0 0) (.slice none 0 0) w1 z (qT.nil _) (qT.nil _) (λg hg=>VJ) (λg hg=>by cases hg) (λg hg=>by cases hg) (λg hg=>Rq)
  ⟨(by decide:0<12),zY,zY,zY,by simp,rfl⟩ v.fo v.g1 J J (by rw[V];omega))
 have l:s1.put 0 0 [] []=MkS.all f:=by unfold MkS.all;rw[C]
 rw[l]at t;have L:=Z (zbj.all f (λx hx=>by cases hx));have hza:(MkS.all f).code.length<=900000/\(MkS.all f).pos<=900000:=by
  rw[<-l];have:=fZ s1 0 0 [] [];rw[V]at this;unfold MkS.sz at this;omega
 have F:=Z y;clear hW z y i C N7 v l;go_wp2_with fail;refine t.o.mono ?_;rintro e w2 ⟨b9,c9,rfl,-,-,-,n,r,⟨T,OY⟩,O,-,-⟩;have p0:=r.p0;obtain⟨I,b,ZT,K⟩:=hdd (ew _ n (MkS.all f) w2 r J (λx hx=>by have:=L.o x hx;omega)) r O (show n.q=(w:Nat)from T.trans A);clear r O t A T u OY;go_wp2_with fail;refine I.o.mono ?_;rintro e w3 ⟨rfl,mb,PL,q0,q1,q2,R,d⟩;have nq:∀g,n.has P g->Ua w2 g≠some 102->g≠n.q:=by rintro g - hg rfl;exact hg b.o.tq
 have M:=d.own b.o.cC (λg hg=>(b.o.nC hg).2.1);have N:=d.own b.o.cI (λg hg=>(b.o.nI hg).2.1);have U:=b.o.rows.fr d (by rintro g rfl;rw[b.o.tq];simp);have p03:=d.cell p0 b.o.nP.1;have hqq:n.q=(w:Nat):=K.o;have s:zJ w w3:=by
  have f12:Fr (λg=>(w:Nat)<=g) (λg=>(w:Nat)<=g) W w2:=((F.o.wide (G:=λg=>(w:Nat)<=g) (λg hg=>p.o.lo g hg)).trans (ZT.o.wide (G:=λg=>(w:Nat)<=g) (λg hg=>by
   rcases hg with hg|hg|hg
   .have h1:=F.o.fp g hg;rcases h1 with h1|h1
    .exact p.o.lo g h1
    .have:=H.o.size;omega
   .cases hg
   .cases hg)))
  have f13:=f12.trans (d.wide (G:=λg=>(w:Nat)<=g) (by rintro g rfl;show (w:Nat)<=n.q;omega));have:=((H.o.wide (G:=λg=>(w:Nat)<=g) (λ_ q=>q.elim)).trans f13);exact this.low (λk hk=>hk) (X _)
 have HPA:=Z (show VA n.q (MkS.all f) n.vC n.vI n.rs mb w3 from⟨q0,q1,q2,M,N,U,R⟩);have HBE:=Z s;clear M N U s R q0 q1 q2 d I nq hqq p0;go_wp2;go_ret;exact⟨_,_,_,_,mb,rfl,HPA.o,by rw[K.o];exact X _,HBE.o⟩
section
variable {b:Nat} {x0 x1 x2 st v:zx} {l:Wd} {w w':z7}
end
section
variable {q mb k:Nat} {s:MkS} {vC vI:zx} {rs:List (zx×zx)} {w:z7}
def VA.con{t:Wd}(h:VA q s vC vI rs mb w)(b:s.cs[j]? = some t):∃C a,zy w q 0 (.slice (some ⟨C,0,none⟩) s.cs.length a)/\zy w C j (zv t)/\j<s.cs.length:=by
 have c:=(vq.1 b).1;obtain⟨C,a,hv,-,-,hc⟩:=vK h.cC J;exact⟨C,a,by rw[h.q0,hv],by rw[hc j J,List.getElem?_map,b];rfl,c⟩
def qT.at_{v:zx}{l:List Nat}{x:Nat}(h:qT w v l)(a:l[j]? = some x):∃g c,v = .slice (some ⟨g,0,none⟩) l.length c/\zy w g j x/\j<l.length:=by
 have b:=(vq.1 a).1;obtain⟨g,c,hv,-,-,hc⟩:=vK h J;exact⟨g,c,hv,by rw[hc j J];simp[Yx,a],b⟩
end
section
variable {b q mb k:Nat} {s:MkS} {vC vI x1 x2 st v:zx} {rs:List (zx×zx)} {l:Wd} {w:z7} {x:Jn}
end
abbrev xb6:=Bool×Dg
inductive xb7 where
 |no
 |vff
 |val (t:Wd) (num:Bool)
structure xb8(τ:Type) where
 wr:xb6->Wd
 sort:Bool->Dg->Nat
 get:Wd->τ->xb7×τ
section
variable {τ:Type} (E:xb8 τ)
end
variable{A:Nat}{u:zx}
def jU.fr(h:jU A u v w)(hf:Fr F F' w w')(ha:¬F A)(hb:¬F (A+1)):jU A u v w' :=
 h.keep λk a=>hf.keep k It (by rcases a with rfl|rfl<;>assumption)
variable{q:Nat}
def all_nil:MkS.all .nil=⟨[],[⟨0,0,0,[],[]⟩],1⟩:=by
 simp[MkS.all,MkS.MA,MkS.VZ,MkS.start,MkS.put,qI,YK,gm]
def VA.below{mb:Nat}{s:MkS}{vC vI:zx}{rs:List (zx×zx)}(h:VA q s vC vI rs mb w)(hb:zJ w w'):VA q s vC vI rs mb w':=by
 have hf:Fr j6 j6 w w':=Fr.of hb;exact⟨hf.cell h.q0 id,hf.cell h.q1 id,hf.cell h.q2 id,hf.own h.cC (λ_ _ q=>q),hf.own h.cI (λ_ _ q=>q),h.rows.fr hf (λ_ q=>q.elim),h.mp.keep (hb.block mb h.mp.lt)⟩
def kC(l:List (Nat×Nat)):List zx:=l.flatMap λx=>[.int .i64 (x.1:Nat),.int .i64 (x.2:Nat)]
def BC(l:List (Nat×Nat)):(kC l).length=l.length*2:=by
 induction l with
 |nil=>rfl
 |cons a t b=>simp only[kC,zn,zI,zm,ur]at b|-;omega
def X9(a b:List (Nat×Nat)):kC (a++b)=kC a++kC b:=by simp[kC]
def ki:bH prog 149 72 (.agg #[.int .i64 0,.int .i64 0]) 2 16 :=
 ⟨underlying149,info_parts yy,rfl,zj,zj⟩
def Va:eU 103 3:=⟨underlying103,underlying3,λw=>dz⟩
def ZM:Wd:=[111,116,104,101,114]
def FM(cl:Nat):List Wd->List (Nat×Nat)->Fo->List (Nat×Nat)
 |seen,acc,.uB k a _ r=>FM cl (k::seen) (if k∈seen then acc++[(7,a)]else acc) r
 |seen,acc,_=>if ZM∈seen then acc else acc++[(6,cl)]
def vr(base:Nat)(w:z7)(v:zx)(l:List (Nat×Nat)):Prop:=w.ownsRow base 72 2 v l.length (kC l)
def ai{b:Nat}(h:zy w b 0 u)(h2:zy w b 1 v):∀j x,[u,v][j]? = some x->w.cell? ((⟨b,0,none⟩:yi).add j)=some x:=by
 intro j x hx;match j,hx with
 | 0,hx=>simp at hx;subst hx;exact h
 | 1,hx=>simp at hx;subst hx;rw[vA];exact h2
 |j+2,hx=>simp at hx
def AR(f:Wd->Option Nat)(seen:List Wd):Prop:=∀k,(0<(f k).getD 0 ↔ k∈seen)/\(f k).getD 0<=seen.length
def AR.more{f:Wd->Option Nat}{seen:List Wd}(h:AR f seen)(k:Wd):AR (λx=>if k=x then some ((f k).getD 0+1)else f x) (k::seen):=by
 intro x;have:=h x;have h2:=h k;by_cases hx:k=x
 .subst hx;simp;omega
 .simp only[hx,↓reduceIte,yp,zm];have a:¬x=k:=λe=>hx e.symm
  refine⟨by rw[this.1];simp[a],J⟩
def vr.Uc{base:Nat}{l:List (Nat×Nat)}(h:vr base w v l)(hb:zJ w w'):vr base w' v l :=
 h.kept (row:=some (w:Nat)) ⟨hb.os,hb.tape,hb.output,hb.size,λi hi _=>hb.block i hi⟩ (by
  cases hv:v.ownBlock with
  |none=>exact .inl rfl
  |some g=>exact .inr (λe=>by have:=(h.lt g hv).2;cases e;omega))
def vr.zy4{base b:Nat}{l:List (Nat×Nat)}(h:vr base w v l)(a:w.grownBy w' (some b))(hb:b<base):vr base w' v l :=
 h.kept a (nD)
def KO{mb:Nat}{l:List (Nat×Nat)}(h:vr (mb+1) w v l)(hm:(w0:Nat)=mb):vr (w0:Nat) w v l:=by
 obtain⟨h1,h2⟩:=h;refine⟨h1,?_⟩;rcases h2 with h2|⟨g,cap,cur,hv,a,rest⟩
 .exact .inl h2
 .exact .inr ⟨g,cap,cur,hv,J,rest⟩
def XJ(b0:Nat)(n:Wd)(a fo:Nat)(of:Wd)(A:Nat)(l:Fo)(w:z7)(s:xS lo hi w0 w)
  (Cy:zt lo hi w0 [.iface 159 (b0,0)] (.br n a fo of A l .nil)) (SS:(Fo.br n a fo of A l .nil).wf 2000000=true) :
  zE prog 63 #[(b0,0)] w λe w'=>(∃v,e = .returned v/\vr (w:Nat) w' v (FM A [] [] l))/\zJ w w':=by
 have lY:=@run_makeMap prog;obtain⟨vt,b',ba,bc,ws,he,qV,qX,FN,La,I9,SD,Lc,Tf,EX,EV,_⟩:=Cy;cases he;have Db:(decide (n.length<=4000001) && decide (fo<3) && l.ug && decide (l.len<=2000000) && l.wf 2000000 && Fo.nil.wf 2000000)=true:=SS;simp only[Bool.and_eq_true,qP]at Db;obtain⟨⟨⟨⟨⟨hnl,hfo⟩,Cm⟩,hbn⟩,CS⟩,_⟩:=Db;obtain⟨HK,HBS,Td,HBL,HBW,HC5⟩:=l6 s EV EX Cm CS Tf;have c4:=ym s Lc qV qX;obtain⟨R,hR⟩:=zo (FM A [] [] l);rw[hR];have HR:=Lib.hid hR;have pX:hi<=(w:Nat):=s.1;obtain⟨mb,PL⟩:=zo (w:Nat);have E:=Lib.hid PL;clear s EV EX Cm CS FN La I9 SD Lc Tf SS hR;have hmd:=jk.made 3 w;rw[PL]at hmd;have hbd:Below w w (w.alloc (.map #[] 0)):=(Below.refl _ _).alloc (Nat.le_refl _) _;have c4':zy (w.alloc (.map #[] 0)) b0 4 (.slice ba l.len bc):=(World.cell?_alloc_lt _ _ _ (show b0<(w:Nat)by omega)).trans c4;have xbz:(w.alloc (.map #[] 0)).heap.size=mb+1:=by simp[PL]
 obtain⟨W0,PE⟩:=zo (w.alloc (.map #[] 0));rw[PE]at hmd hbd xbz;have HW0:=Z PE;clear PE;go_enter func63,ntmps63;go_wp2_with fail;clear c4 c4' PL;go_loopw [2,12] (λfv iv wr=>∃i us xs r acc seen nm fm,iv = .int .i64 (i:Nat)/\i<=l.len/\zt lo hi w0 xs r/\r.ug=true/\r.wf 2000000=true/\us.length=i*3/\ws=us++xs/\i+r.len=l.len/\zJ w wr/\mb<wr.heap.size/\vr (mb+1) wr fv acc/\jk 3 wr mb nm fm/\nm<=i/\AR fm seen/\seen.length=i/\acc.length<=i/\FM A seen acc r=R) (λ_ iv _=>l.len - (intOf iv).toNat)
 case atStart =>
  rw[HW0.o];exact⟨0,[],ws,l,[],[],0,λ_=>none,rfl,zG _,HBS.o,HBL.o,HBW.o,rfl,rfl,J,hbd,J,yr _ _ _ _,hmd,X _,(λk=>zY),rfl,X _,HR.o⟩
 case round =>
  obtain⟨i,us,xs,r,acc,seen,nm,fm,rfl,hiL,bA,hmr,AL,Kr,hvs,W,rC,hmw,how,hmp,Cq,hsn,hsl,CT,I6⟩:=hrel;have O:xS lo hi w0 wr:=HK.o.below rC;obtain⟨F,HMP,HSN,HSL,S,lQ,HN2,d⟩:=l8 how hmp hsn hsl CT I6 bA hmr;obtain⟨yyq,ry,aB,zz6⟩:=hdd AL hvs Kr W;obtain⟨fa,fc,rfl⟩:=zD how;clear bA hmr AL hvs Kr how hmp hsn hsl CT I6;by_cases Qt:i<l.len
  .cases r with
   |nil=>exfalso;simp[Fo.len]at W;omega
   |text t r=>have:=d.o;cases this
   |hash r=>have:=d.o;cases this
   |put n a r=>have:=d.o;cases this
   |num n a r=>have:=d.o;cases this
   |br n a fo of A l r=>have:=d.o;cases this
   |uB k0 q H r0 =>
    obtain⟨AM,ma,mc,ms,he2,GA,hmn,KM⟩:=HN2.o;subst he2;have hwl:ws.length=us.length+(AM.length+3):=(by rw[ry.o];simp);have T:∀j v,[zv k0,.int .i64 q,.slice ma H.len mc][j]? = some v->∃(h:i*3+j<ws.length),ws[i*3+j]=v:=by
     intro j v hj;have hj3:j<3:=rX;refine⟨by have:=aB.o;omega,?_⟩;have h1:ws[i*3+j]? = some v:=rz;exact oz
    obtain⟨q0,p0⟩:=T 0 _ rfl;obtain⟨q1,p1⟩:=T 1 _ rfl;obtain⟨q2,p2⟩:=T 2 _ rfl;obtain⟨g2,o2,rfl,M,N,d0⟩:=Td.o (i*3+0) q0;obtain⟨g2',o2',hgg,_,_,d1⟩:=Td.o (i*3+1) q1;cases hgg;obtain⟨g2',o2',hgg,_,_,d2⟩:=Td.o (i*3+2) q2;cases hgg;rw[p0]at d0;rw[p1]at d1;rw[p2]at d2;have c0:=ym O d0 M N;have c1:=ym O d1 M N;have c2:=ym O d2 M N;simp only[fD,<-jo]at c0 c1 c2;have zb0:=Z KM;have k3:(i:Int)<(l.len:Int):=J;have k4:decide ((i:Int)<(l.len:Int))=true:=zV;have zz9:(decide (k0.length<=4000001) && H.vS && decide (H.len<=2000000) && H.wf 2000000 && r0.wf 2000000)=true:=yyq.o;simp only[zQ,qP]at zz9;obtain⟨⟨⟨⟨AN,_⟩,_⟩,_⟩,LY⟩:=zz9;have zb1:=Z LY;have zb2:=Z (show r0.ug=true from d.o);have zb3:=Z (show i+(r0.len+1)=l.len from zz6.o);have U:yX wr wr (wr.alloc (.cells #[zv k0,q,.slice ma H.len mc] 219)):=(z8 _ _).alloc (X _) _;have I:=HMP.o.below U;have V:=I.Ee Va k0 J;obtain⟨B,g⟩:=zo ((fm k0).getD 0);rw[g]at V;have UR:=Z (HSN.o.more k0);rw[g]at UR;have hck:=HSN.o k0;rw[g]at hck;have CD:B<=i:=(by have:=HSL.o;omega);have HCN:=Z g;have HCK:=Z hck.1;clear GA hmn KM d0 d1 d2 p0 p1 p2 T g hck LY O W hwl;have hwA:=rC.trans (U.mono Rr);by_cases c:k0∈seen
    .have D:=HCK.o.2 c;have j1:decide ((0:Int)<(B:Int))=true:=(by simp;omega);have j2:decide (0<B)=true:=zV;have HRN:=Z (show FM A (k0::seen) (acc++[(7,q)]) r0=R by rw[<-lQ.o,FM,zl c]);clear c;have HMA:=Z I;have HOA:=Z (F.o.Uc U);clear I;go_wp2_with (at_builtin;refine uI ?_);intro W3 fE;have b:yX (wr.alloc (.cells #[zv k0,q,.slice ma H.len mc] 219)).heap.size (wr.alloc (.cells #[zv k0,q,.slice ma H.len mc] 219)) W3:=D2;have hsA:(wr.alloc (.cells #[zv k0,q,.slice ma H.len mc] 219)).heap.size=(wr:Nat)+1:=zY;have ND:=λi=>zg (wr.alloc (.cells #[zv k0,q,.slice ma H.len mc] 219)) #[.int .i64 7,q] 72 (0,0) i
     rw[<-fE,hsA]at ND;have ymb:=(b.cell (p:=(zX (wr:Nat) 0)) (by show (wr:Nat)<_;omega)).trans (zg wr #[zv k0,q,.slice ma H.len mc] 219 (0,0) 0);have NG:=Z (HMA.o.below b);have HO3:=Z (HOA.o.Uc b);have zjk:=b.size;have m:=hwA.trans (b.mono Rr);clear fE;refine vY ki rfl _ _ rfl (mb+1) _ acc.length (kC acc) rfl HO3.o ⟨(wr:Nat)+1,0,none⟩ 1 1 [.int .i64 7,.int .i64 q] rfl rfl Lu ?u2 (by have:=S.o;omega) J ?u3
     case u2 =>
      exact Ef
     intro v4 w4 G x;have MP:=Z (show vr (mb+1) w4 v4 (acc++[(7,q)])by unfold vr;rw[X9,zI];exact G);have f:∀k,(yI fa acc.length fc).ownBlock=some k->mb+1<=k/\k<(wr:Nat):=λk s=>F.o.lt k s
     have hM4:=NG.o.keep (x.block mb NG.o.lt (λe=>by have:=f mb e.symm;omega));have C:zJ w w4:=m.grown x m.size (λk s=>by have:=f k s;have:=E.o;omega);have vd1:zy w4 (wr:Nat) 0 (zv k0):=x.cell ymb (λe=>absurd (f _ e.symm).2 (yO _));obtain⟨fa4,fc4,rfl⟩:=zD G;obtain⟨w5,we,z,y⟩:=hM4.put Va k0 J ((B:Int)+1) (B+1) J J J;have xbv:=hM4.Ee Va k0 J;rw[HCN.o]at xbv;have HM5:=Z z;have aO:=Z (MP.o.zy4 y J);have K:zJ w w5:=C.grown y C.size (λk s=>by cases s;have:=E.o;omega);have P:=z.lt;have yn2:(acc.length+1)=(acc++[(7,q)]).length:=(by simp);have HO6:=Z (show vr (mb+1) w5 (.slice fa4 (acc.length+1) fc4) (acc++[(7,q)])from aO.o);clear G x f z y hM4 V ND ymb yn2;go_wp2;go_roundw
     case rel=>exact⟨i+1,us++[zv k0,.int .i64 q,.slice ma H.len mc],AM,r0,acc++[(7,q)],k0::seen,nm+1,_,zY,J,zb0.o,zb2.o,zb1.o,Sq,S8,by have:=zb3.o;omega,K,P,HO6.o,HM5.o,J,UR.o,by simp[HSL.o],by have:=S.o;simp;omega,HRN.o⟩
     case measure=>simp only[intOf];omega
    .have D:¬0<B:=λh=>c (HCK.o.1 h)
     have j1:decide ((0:Int)<(B:Int))=false:=zV;have j2:decide (0<B)=false:=zV;have HRN:=Z (show FM A (k0::seen) acc r0=R by rw[<-lQ.o,FM,zL c]);clear c D;obtain⟨w5,we,z,y⟩:=I.put Va k0 J ((B:Int)+1) (B+1) J J J;have HM5:=Z z;have aO:=Z ((F.o.Uc U).zy4 y J);have K:zJ w w5:=hwA.grown y hwA.size (λk s=>by cases s;have:=E.o;omega);have P:=z.lt;clear z y I;go_wp2;go_roundw
     case rel=>exact⟨i+1,us++[zv k0,.int .i64 q,.slice ma H.len mc],AM,r0,acc,k0::seen,nm+1,_,zY,J,zb0.o,zb2.o,zb1.o,Sq,S8,by have:=zb3.o;omega,K,P,aO.o,HM5.o,J,UR.o,by simp[HSL.o],by have:=S.o;omega,HRN.o⟩
     case measure=>simp only[intOf];omega
  .have k4:decide ((i:Int)<(l.len:Int))=false:=(by simp;omega);have j8:r = .nil:=by
    have:=d.o;cases r<;>simp[Fo.len]at W<;>first|rfl|omega
   have V:(C6 103 (.map (some mb)) (.string ⟨#[111,116,104,101,114]⟩) false).run prog wr = .ok (((fm ZM).getD 0:Nat):Int) wr:=HMP.o.Ee Va ZM zj;have Q:=HSN.o ZM;obtain⟨B,g⟩:=zo ((fm ZM).getD 0);rw[g]at V Q;have c5:=ym O HC5.o qV qX;have L:FM A seen acc r=if ZM∈seen then acc else acc++[(6,A)]:=by rw[j8];rfl
   have HFN:=Z (L.symm.trans lQ.o);have HOB:=Z (KO F.o E.o);by_cases c:ZM∈seen
   .have D:=Q.1.2 c;have j1:((B:Int)==0)=false:=(by simp;omega);have CG:=Z (show R=acc by rw[<-HFN.o,zl c]);clear Q g L c;go_wp2;go_ret;rw[CG.o];exact⟨⟨_,rfl,HOB.o⟩,rC⟩
   .have D:¬0<B:=λh=>c (Q.1.1 h)
    have j1:((B:Int)==0)=true:=zV;have CG:=Z (show R=acc++[(6,A)]by rw[<-HFN.o,zL c]);clear Q g L c;go_wp2_with (at_builtin;refine uI ?_);intro W3 fE;have b:zJ wr W3:=D2;have ND:=λi=>zg wr #[.int .i64 6,A] 72 (0,0) i
    rw[<-fE]at ND;have HO3:=Z (F.o.Uc b);have zjk:=b.size;have m:=rC.trans (b.mono Rr);clear fE;refine vY ki rfl _ _ rfl (mb+1) _ acc.length (kC acc) rfl HO3.o ⟨(wr:Nat),0,none⟩ 1 1 [.int .i64 6,.int .i64 A] rfl rfl Lu ?u5 (by have:=S.o;omega) J ?u6
    case u5 =>
     exact Ef
    intro v4 w4 G x;have MP:=Z (KO (show vr (mb+1) w4 v4 (acc++[(6,A)])by unfold vr;rw[X9,zI];exact G) E.o);have f:∀k,(yI fa acc.length fc).ownBlock=some k->mb+1<=k:=λk s=>(F.o.lt k s).1
    have C:zJ w w4:=m.grown x m.size (λk s=>by have:=f k s;have:=E.o;omega);clear G x f;go_wp2;go_ret;rw[CG.o];exact⟨⟨_,rfl,MP.o⟩,C⟩
end Go.Proofs.YtfcemhlpdcnckaaGreatDoor
