import Derived.Test.YtpggmjffejgakaaGreatDoorJG1
import Derived.Laws.OwnMore
import Derived.Defers
import Derived.Lib.DecodeN
import Derived.Lib.MapLaws
import Derived.Lib.RuneCount
import Derived.Lib.ValidU
import GoSem.Conv.StringToRunes
import Derived.Laws.IdiomStrings
import Derived.Recover
import Derived.WalkSmall
import Derived.Maps.OwnSet
import Derived.Maps.Views
import Derived.Lib.OthersKept
set_option linter.defProp false
set_option maxHeartbeats 64000000
open Go renaming Addr->yM,Calls->zC,Ending->xU,Leaves->UA,Oper->jk,PanicEntry->Eg,TypeId->xm,World->z8,bodyPost_ret->yK,callsD_of_wpS->EL,iterPos_of->jc,leaves_cons->qb,ownsRow_setCell_other->vY,plainElem_int->bK,results->yN,run_underlying->kQ,settle->Eu,wpAnyH_ready->ep
open Go.Addr renaming add->bW,block->qd
open Go.AllReadyH renaming cons->vo,nil->Zq
open And renaming intro->zg
open Array renaming getElem?_eq_getElem->OA,getElem?_eq_some_iff->yO,getElem?_modify->vp,replicate->xl
open Go.RowKit renaming Below->yD
open Go.RowKit.Below renaming heap_alloc->xZ,heap_setCell->yZ,refl->zv
open Bool renaming and_eq_true->zx,and_true->zzx,not_eq_true->VG
open ByteArray renaming mk->vO,size_extract->He
open Classical renaming byContradiction->yu
open Go.Conv renaming runesFrom->V9
open Go.DataW.lit renaming injEq->EI
open Except renaming ok->yzx
open Go.Exit renaming thenS->Fq
open Go.Instr renaming lookup->TZ,makeFunc->uV,mapUpdate->TY,slice->Vu,sliceBound->yfz,sliceBounds->yzv,typeAssert->zA
open Go.IntKind renaming bits->Ob,i64->vH,signed->Ey,u32->yey,u8->KU,wrap->yf7
open Go.Lib renaming Utf8Tabs->du,compareInt->V0,decodeGo->zpg,decodeN->jI,encodeRune->yA,hid->Z,iterAt_heap->vq0,iterAt_other->xrf,iterAt_size->vq1,run_next_end_at->yez,runeCountFrom->Dx,validD->zpf,validGoD->Dy
open List renaming all_cons->vh,all_nil->TS,append_assoc->yk,append_nil->jJ,cons_append->xX,drop_drop->Xy,drop_eq_getElem_cons->yY,drop_of_length_le->yI,drop_zero->qR,eq_nil_of_length_eq_zero->zN,flatMap_cons->zh,foldl_append->TX,getD_eq_getElem?_getD->ze,getElem?_append_left->za,getElem?_append_right->xq,getElem?_drop->TR,getElem?_eq_getElem->zk,getElem?_eq_none->qT,getElem?_eq_some_iff->zF,getElem?_modify->Ja,getElem_mem->yf,idxOf_append->LU,idxOf_cons->xj8,idxOf_eq_length->zpb,idxOf_le_length->xrj,length->xD,length_append->zy,length_cons->zY,length_drop->yh,length_nil->yF,length_pos_iff->yv,length_take->uK,map_cons->vE,map_nil->zpd,map_toArray->JA,mem_append->zS,mem_cons->yX,mem_iff_getElem->ql,mem_of_getElem?->zW,mem_singleton->zJ,nil_append->xK,range->xB,replicate->zX,setIfInBounds_toArray->QL,take_of_length_le->yr,take_succ_eq_append_getElem->yj
open Go.Lit.int renaming injEq->yzy
open Go.Maps renaming atKey_put_other->dT,atKey_put_same->UW,has_put_other->Od,has_put_same->QI,string_keyed->xE
open Nat renaming add_assoc->kh,add_sub_cancel->Z1,add_sub_cancel_left->D9,add_zero->Ej,le_add_right->bA,le_of_eq->TV,le_refl->Y,le_trans->zj,lt_irrefl->kD,lt_of_lt_of_le->zD,lt_succ_self->dQ,not_lt_zero->KV,zero_add->uE,zero_le->zQ,zero_mul->xrd
open Go.Oper renaming wp->kd
open Option renaming getD_some->Ex
open Option.some renaming inj->zL
open Prod.mk renaming injEq->Hi
open Go.Result renaming andThen_ok->Xg
open Go.Sem renaming run_bind->js,run_pure->wj
open SizeOf renaming sizeOf->zE
open UInt8 renaming ofNat->uC
open Go.Utf8 renaming decode->ja
open Go.Value renaming int->yb,ownBlock->yl,slice->vL
open Go.WideAt renaming IsKeyLit->kJ
open Go.WideMaps renaming keyOf_string_mk->xu
open Go.World renaming block_lt_of_cell?->X,cell?_alloc_lt->zc,cell?_of_block->yE,frozen?_of_block->zV,frozen?_setCell->zO,iter_heap->ye9,ownsMap_made->Hl,ownsRow_nil->xx,setCell->xg
open Go.World.ownsRow renaming cellAt->xrb
open Go.Proofs.Tryz
namespace Go.Proofs.YtpggmjffejgakaaGreatDoor
open Go Go.RowKit
set_option maxRecDepth 10000
def Jx(p:Nat)(rs:List Int)(i d:Nat)(msg:Option jH)(w:z8)(h:xe p rs i d w)(he:FX p w)(hd:msg=none ↔ d=6)(hm:∀m,msg=some m->yx7 p rs d m)(wa:∀m,msg=some m->BC m) :
  zC prog 130 #[(p,0)] w (xb2 p rs d (gC rs msg i) w):=by
 obtain⟨HH,oI,hu,HBR⟩:=hdd h he wa (λnum j W hs hE=>AT p rs j d num msg W hs hE hd hm);have vjb:=h.lt;have h5:=h.at_;obtain⟨R,hR⟩:=zr (gC rs msg i);rw[hR];unfold gC at hR;have HTW:=Z hR.symm;clear h he hd hm hR wa;go_enter func130,ntmps130;go_wp2_with fail;refine yo ?_;intro W hW;have OE:zP w W:=Qd;have U:BH (w:Nat) (.string ⟨#[]⟩) i W:=by
  rw[hW];exact⟨zf _ _ _ _ _,zf _ _ _ _ _,λj=>uU⟩
 clear hW h5;obtain⟨B,hB⟩:=zr (w:Nat);rw[hB]at U|-;have HB:=Z hB;have hpB:p<B:=J;have HLW:=Z U;have HSW:=Z (HH.o.below OE);have OE:=xI.of (p:=p) OE;clear hB U;refine(ZO p rs i d 123 W HSW.o zR).mono ?_;rintro e x1 ⟨hq,ynu⟩;have xb4:=OE.trans ynu;have vg0:=Z (HLW.o.but ynu J);by_cases hw:zt rs i=123
 .rw[yV hw]at hq;obtain⟨rfl,hs⟩:=hq;have ht:=HTW.o;rw[Jy hw]at ht;have yx9:=Z ht;have xb5:=Z hs;clear ht hs hw ynu HTW HSW;go_wp2_with fail;refine(ji p rs (i+1) d x1 xb5.o).mono ?_;rintro e x2 ⟨rfl,hs,ynq⟩;have vg1:=xb4.trans ynq;have vg2:=Z (vg0.o.but ynq J);obtain⟨J1,hJ⟩:∃H,yt rs (i+1)=H:=⟨_,rfl⟩;have ud4:i+1<=J1:=by rw[<-hJ];exact ya rs _
  have ht:=yx9.o;rw[hJ]at ht hs;have ynk:=Z ht;have xb6:=Z hs;clear ht hs hJ ynq yx9 xb5;go_wp2_with fail;refine(Kt p rs J1 d x2 xb6.o).mono ?_;rintro e x3 ⟨hq,ynj⟩;have xb7:=vg1.trans ynj;have yxz:=Z (vg2.o.but ynj J);by_cases hn:ky rs J1=0
  .rw[yV hn]at hq;have ht:=ynk.o;rw[lu hn]at ht;have yxy:=Z ht;clear ht hn;have HQ:=Z hq;obtain⟨bf,rfl,_,_⟩:=hq;go_wp2;exact⟨rfl,by rw[yxy.o];exact HQ.o,xb7⟩
  .rw[yz hn]at hq;obtain⟨rfl,hs⟩:=hq;have ht:=ynk.o;rw[lx hn]at ht;obtain⟨K,hK⟩:=zr (ui rs J1 (ky rs J1));obtain⟨J2,hJ⟩:∃H,J1+ky rs J1=H:=⟨_,rfl⟩;rw[hJ,hK]at ht;rw[hJ]at hs;rw[hK];have hlK:K.length<=4000000:=by
    have:=ZT rs J1 (ky rs J1);have:=HH.o.len;rw[<-hK];omega
   have yxy:=Z ht;have vg3:=Z hs;clear ht hs hK hJ hn ynj ynk xb6;have zz:=yxz.o.z 0;have z0:=yxz.o.c0;have z1:=yxz.o.c1;have yng:=Z (vg3.o.own hpB 0 (zM K));have xb8:=Z (yxz.o.VX (u:=zM K));have xb9:xI p w (x3.setCell (zU B 0) (zM K)):=xb7.own MD 0 _;have xbz:=yxy;obtain⟨x4,V⟩:∃Xk,x3.setCell (zU B 0) (zM K)=Xk:=⟨_,rfl⟩;rw[V]at yng xb8 xb9;have HX:=Z V;clear V yxy;go_wp2_with fail;rw[HX.o];clear zz z0 z1;refine(ji p rs (J2) d x4 yng.o).mono ?_;rintro e x5 ⟨rfl,hs,ynf⟩;have vg4:=xb9.trans ynf;have vg5:=Z (xb8.o.but ynf J);obtain⟨J3,hJ⟩:∃H,yt rs (J2)=H:=⟨_,rfl⟩;have ud5:J2<=J3:=A4;have ht:=xbz.out;rw[hJ]at ht hs;have yxx:=Z ht;have ynd:=Z hs;clear ht hs hJ ynf xbz yng;go_wp2_with fail;refine(Vh p rs J3 d 44 x5 ynd.o zR).mono ?_;rintro e x6 ⟨rfl,hs,hx6⟩;have xby:=vg4.trans hx6;have xbx:=Z (vg5.o.but hx6 J);by_cases P:zt rs J3=44
   .rw[yV P]at hs;rw[show(zt rs J3==44)=true by rw[P];rfl];have L:=Z hs;have ht:=yxx.o;rw[yz (λe=>e P)]at ht;have F:=Z ht;clear ht hs P hx6 yxx ynd;go_wp2_with fail;refine(ji p rs (J3+1) d x6 L.o).mono ?_;rintro e x7 ⟨rfl,hs,D⟩;have Q:=xby.trans D;have yxv:=Z (xbx.o.but D J);obtain⟨J4,hJ⟩:∃H,yt rs (J3+1)=H:=⟨_,rfl⟩;have ud6:J3+1<=J4:=(by rw[<-hJ];exact ya rs _);have ht:=F.o;rw[hJ]at ht hs;have A:=Z ht;have M:=Z hs;clear ht hs hJ D F L;have g7:=M.o.at_;go_wp2_with fail;refine(Kt p rs J4 d x7 M.o).mono ?_;rintro e x8 ⟨hq,ynb⟩;have xbv:=Q.trans ynb;have vg6:=Z (yxv.o.but ynb J);by_cases hn:ky rs J4=0
    .rw[yV hn]at hq;have ht:=A.o;rw[lu hn]at ht;have yxu:=Z ht;clear ht hn;have HQ:=Z hq;obtain⟨bf,rfl,_,_⟩:=hq;go_wp2;exact⟨rfl,by rw[yxu.o];exact HQ.o,xbv⟩
    .rw[yz hn]at hq;obtain⟨rfl,hs⟩:=hq;have ht:=A.o;rw[lx hn]at ht;obtain⟨K2,hK⟩:∃K,ui rs J4 (ky rs J4)=K:=⟨_,rfl⟩;obtain⟨J5,hJ⟩:∃H,J4+ky rs J4=H:=⟨_,rfl⟩;rw[hJ,hK]at ht;rw[hJ]at hs;rw[hK];have ud7:K2.length<=4000000:=by
      have:=ZT rs J4 (ky rs J4);have:=HH.o.len;rw[<-hK];omega
     have yxu:=Z ht;have xbu:=Z hs;clear ht hs hK hJ hn ynb A M;clear g7;go_wp2_with fail;refine(ji p rs (J5) d x8 xbu.o).mono ?_;rintro e x9 ⟨rfl,hs,yo0⟩;have xbq:=xbv.trans yo0;have xbk:=Z (vg6.o.but yo0 J);obtain⟨J6,hJ⟩:∃H,yt rs (J5)=H:=⟨_,rfl⟩;have ud8:J5<=J6:=A4;have ht:=yxu.o;rw[hJ]at ht hs;have c:=Z ht;have yxq:=Z hs;clear ht hs hJ yo0 yxu xbu;by_cases hk:(K2==[110,117,109,98,101,114])=true
     .have ht:=c.o;rw[yV (show K2=zb1 from eq_of_beq hk)]at ht;have HT9:=c;clear c;have c:=Z ht;clear ht HT9;go_wp2_with fail;clear hk;refine(ZO p rs J6 d 125 x9 yxq.o zR).mono ?_;rintro e E ⟨hq,zb6⟩;have a:=xbq.trans zb6;have t:=Z (xbk.o.but zb6 J);by_cases hw:zt rs J6=125
      .rw[yV hw]at hq;obtain⟨rfl,hs⟩:=hq;have ht:=c.o;rw[Jy hw]at ht;have y:=Z ht;have x:=Z hs;clear ht hs hw zb6 c yxq;have k0:=t.o.c0;have k1:=t.o.c1;have V:=a.size;go_wp2;rw[y.o];have KP:=λo=>(zv (E:Nat) E).alloc (Y _) o
       refine yK (v := .iface 213 (E,0)) ?_ rfl ?_
       .exact WA
       exact⟨⟨⟨_,rfl,[],(E:Nat),rfl,V,zZ,zf _ _ _ _ _,zf _ _ _ _ _,rfl⟩,rfl,rfl,x.o.below (KP _)⟩,a.below (KP _)⟩
      .rw[yz hw]at hq;have ht:=c.o;rw[DY hw]at ht;have y:=Z ht;clear ht hw;have HQ:=Z hq;obtain⟨bf,rfl,_,_⟩:=hq;go_wp2;exact⟨rfl,by rw[y.o];exact HQ.o,a⟩
     .have hk':(K2==[110,117,109,98,101,114])=false:=(by simpa using hk);have ht:=c.o;rw[yz (show ¬K2=zb1 from λe=>hk (beq_iff_eq.2 e))]at ht;have HTf:=Z ht;clear ht hk c;go_wp2_with fail;clear hk';refine(p7 x9).mono ?_;rintro e E ⟨⟨bm,rfl,hF⟩,yxk⟩;have a:=xbq.below yxk;have t:=Z (xbk.o.but (xI.of (p:=p) yxk) J);have x:=Z (yxq.o.below yxk);have HF:=Z hF;have I:=hF.look K2 J;clear yxk hF yxq;obtain⟨fo,lj⟩:=zr (U3 K2);rw[lj]at I;have ht:=HTf.o;rw[lj]at ht;have HTg:=Z ht;clear ht HTf;have HFO:=Z lj;clear lj;cases fo with
      |none =>
       have y:=Z (show R = .error (3,J4)from HTg.o);clear HTg;simp only[Option.getD_none,Option.isSome_none]at I;go_wp2_with fail;refine(YT p 3 J4 E x.o.Ht).mono ?_;rintro e x11 ⟨hf,vg7⟩;have VE:=Z hf;obtain⟨bf,rfl,_,_⟩:=hf;go_wp2;exact⟨rfl,by rw[y.o];exact VE.o,a.below vg7⟩
      |some form =>
       simp only[Ex,Option.isSome_some]at I;have PD:form<3:=BE HFO.o;have ht:=HTg.o;have HTY:=Z ht;clear HTg ht;have k0:=t.o.c0;have k1:=t.o.c1;go_wp2_with fail;refine yo ?_;intro Yk hY;have hbY:zP E Yk:=(by rw[hY];exact(zv _ _).alloc (Y _) _);have U:Eh (E:Nat) (zM K) i form (.int .i64 0) (.slice none 0 0) (.int .i64 0) Yk:=by
        rw[hY];exact⟨zf _ _ _ _ _,zf _ _ _ _ _,zf _ _ _ _ _,zf _ _ _ _ _,zf _ _ _ _ _,zf _ _ _ _ _,λj=>uU⟩
       have hwx:(w:Nat)<=(E:Nat):=a.size;have HSY:=Z (x.o.below hbY);have hbY:=a.below hbY;obtain⟨C,hC⟩:=zr (E:Nat);rw[hC]at U hwx|-;have hwC:=hwx;clear hY k0 k1 I x hC t HF hwx;have HLY:=Z U;have hpC:p<C:=J;clear U;refine(ZO p rs J6 d 44 Yk HSY.o zR).mono ?_;rintro e y1 ⟨hq,yo1⟩;have xbj:=hbY.trans yo1;have vg9:=Z (HLY.o.but yo1 J);by_cases hw:zt rs J6=44
       .rw[yV hw]at hq;obtain⟨rfl,hs⟩:=hq;have ht:=HTY.o;rw[Jy hw]at ht;have yxg:=Z ht;have xbg:=Z hs;clear ht hs hw yo1 HTY HSY;go_wp2_with fail;refine(ji p rs (J6+1) d y1 xbg.o).mono ?_;rintro e y2 ⟨rfl,hs,yo2⟩;have yo3:=xbj.trans yo2;have yo4:=Z (vg9.o.but yo2 J);obtain⟨J7,hJ⟩:∃H,yt rs (J6+1)=H:=⟨_,rfl⟩;have udy:J6+1<=J7:=(by rw[<-hJ];exact ya rs _);have ht:=yxg.o;rw[hJ]at ht hs;have xbf:=Z ht;have N:=Z hs;clear ht hs hJ yo2 yxg xbg;obtain⟨FF,hFF⟩:∃FF:Wd->Nat->qm Fo,FF=λo l=>(q9 rs msg (decide (form≠0)) (rs.length+1) .nil l).then λbs q=>(uA rs 125 q).then λ_ z => .ok (.br K i form o q bs .nil,z):=⟨_,rfl⟩
        have HFF:=Z hFF;have T:=Z (show R=(U5 rs form J7).then FF by rw[hFF];exact xbf.o);clear hFF xbf;go_upto_region 23 with fail
        go_cut [76] (λs wc=>∃b l,s = .bool b/\xe p rs l d wc/\xI p w wc/\Eh C (zM K) i form (.int .i64 0) (.slice none 0 0) (.int .i64 0) wc/\J7<=l/\(b=true->R=((qO rs (yt rs l)).then λo j=>(.ok (o,yt rs j):qm Wd)).then FF)/\(b=false->R=FF [48] l))
        case first =>
         by_cases h0:form=0
         .subst h0;have ht:=T.o;rw[PS (λe=>e.1 rfl),then_ok]at ht;have HTX:=Z ht;clear ht T;go_wp2_with fail;go_meet
          case rel=>exact⟨false,J7,rfl,N.o,yo3,yo4.o,Y _,(λe=>gJ),λ_=>HTX.o⟩
         .have hf0:((form:Int)==0)=false:=(by simp;omega);have Ue:((form:Int) !=0)=true:=yJ;have HF0:=Z h0;clear h0;go_wp2_with fail;refine(PL p rs J7 d y2 N.o).mono ?_;rintro e y3 ⟨rfl,hs,hx⟩;have xbd:=yo3.trans hx;have xbb:=Z (yo4.o.but hx J);by_cases ho:Fw rs J7=true
          .rw[yV ho]at hs;rw[ho];have ht:=T.o;rw[zb5 ⟨HF0.o,ho⟩]at ht;have yo5:=Z ht;have yo6:=Z hs;clear ht hs hx ho T N;go_wp2_with fail;go_meet
           case rel=>exact⟨true,J7+7,rfl,yo6.o,xbd,xbb.o,bA _ _,(λ_=>yo5.o),(λe=>gJ)⟩
          .rw[yz ho]at hs;rw[show Fw rs J7=false from Dr];have ht:=T.o;rw[PS (λe=>ho e.2),then_ok]at ht;have yo5:=Z ht;have yo6:=Z hs;clear ht hs hx ho T N;go_wp2_with fail;go_meet
           case rel=>exact⟨false,J7,rfl,yo6.o,xbd,xbb.o,Y _,(λe=>gJ),λ_=>yo5.o⟩
        case rest =>
         obtain⟨b,l,rfl,hs,PT,hl,hJl,ht1,ht0⟩:=hcut;obtain⟨HSc,HLc,I0,HT0⟩:=hdd hs hl ht1 ht0;clear hs hl ht1 ht0 N yo4 T yo3;go_upto_if 76 with fail
         go_cut [] (λwc=>∃l ov O,yg O=ov/\xe p rs l d wc/\xI p w wc/\Eh C (zM K) i form (.int .i64 ov) (.slice none 0 0) (.int .i64 0) wc/\J7<=l/\R=FF O l)
         case first =>
          cases b with
          |false =>
           have HTc:=Z (HT0.o rfl);clear HT0 I0;go_wp2_with fail;go_meet
           case rel=>exact⟨l,0,[48],rfl,HSc.o,PT,HLc.o,hJl,HTc.o⟩
          |true =>
           have HTc:=Z (I0.o rfl);have vgx:=PT;have xa0:=HSc;have vgv:=HLc;have xa1:=HTc;clear PT HSc HLc HTc I0 HT0;go_wp2_with fail;refine(ji p rs (l) d wc xa0.out).mono ?_;rintro e y4 ⟨rfl,hs,yo7⟩;have vgu:=vgx.trans yo7;have vgq:=Z (vgv.out.but yo7 J);obtain⟨J8,hJ⟩:∃H,yt rs (l)=H:=⟨_,rfl⟩;have udv:l<=J8:=A4;have ht:=xa1.out;rw[hJ]at ht hs;have yo8:=Z ht;have xa2:=Z hs;clear ht hs hJ yo7 xa1 xa0;go_wp2_with fail;refine(Iv p rs J8 d y4 xa2.o).mono ?_;rintro e y5 ⟨hq,hx⟩;have xa3:=vgu.trans hx;have vgk:=Z (vgq.o.but hx J);by_cases hn:qk rs J8=0
           .rw[yV hn]at hq;have ht:=yo8.o;rw[then_assoc,zb4 hn]at ht;have yxf:=Z ht;clear ht hn;have HQ:=Z hq;obtain⟨bf,rfl,_,_⟩:=hq;go_wp2;exact⟨rfl,by rw[yxf.o];exact HQ.o,xa3⟩
           .rw[yz hn]at hq;obtain⟨rfl,hs⟩:=hq;have ht:=yo8.o;rw[then_assoc,zb3 hn]at ht;simp only[then_ok]at ht;obtain⟨w1,w2,w3⟩:=FV rs J8 hn;obtain⟨O,hO⟩:∃K,ui rs J8 (qk rs J8)=K:=⟨_,rfl⟩;obtain⟨J9,hJ⟩:∃H,J8+qk rs J8=H:=⟨_,rfl⟩;have udu:J8<=J9:=(by omega);rw[hJ,hO]at ht;rw[hJ]at hs;rw[hO]at w1 w2 w3|-;have yxf:=Z ht;have xa4:=Z hs;have HAT:=Z (λW=>lz O W w1 w2 w3);clear ht hs hO hJ hn hx yo8 xa2 w1 w2 w3;go_wp2_with fail;refine(HAT.o y5).mono ?_;rintro e y6 ⟨rfl,hx⟩;have vgj:=xa3.below hx;have yo9:=Z (vgk.o.but (xI.of (p:=p) hx) J);have vgg:=Z (xa4.o.below hx);obtain⟨ov,hov⟩:∃v,yg O=v:=⟨_,rfl⟩;rw[hov];have HOV:=Z hov;have q3:=yo9.o.c3;have z3:=yo9.o.z 3;have yoz:=Z (vgg.o.own hpC 3 ov);have xa6:=Z (yo9.o.vjf (u := .int .i64 ov));have xa7:xI p w (y6.setCell (zU C 3) ov):=vgj.own hwC 3 _;have xa8:=yxf;obtain⟨y7,V⟩:∃Xk,y6.setCell (zU C 3) ov=Xk:=⟨_,rfl⟩;rw[V]at yoz xa6 xa7;have HX:=Z V;clear V yxf hov hx xa4;go_wp2_with fail;rw[HX.o];clear q3 z3;refine(ji p rs (J9) d y7 yoz.o).mono ?_;rintro e y8 ⟨rfl,hs,yoy⟩;have vgf:=xa7.trans yoy;have vgd:=Z (xa6.o.but yoy J);obtain⟨J10,hJ⟩:∃H,yt rs (J9)=H:=⟨_,rfl⟩;have uz3:J9<=J10:=(by rw[<-hJ];exact ya rs _);have ht:=xa8.out;rw[hJ]at ht hs;have vgb:=Z ht;have vf0:=Z hs;clear ht hs hJ yoy xa8 yoz;go_wp2_with fail;go_meet
            case rel=>exact⟨J10,ov,O,HOV.o,vf0.o,vgf,vgd.o,J,vgb.o⟩
         case rest =>
          obtain⟨l2,ov,O,hov,hs,hbz,hl,udq,ht⟩:=hcut;obtain⟨HOV,HSz,HLz,HTz⟩:=hdd hov hs hl (show R=(q9 rs msg (decide (form≠0)) (rs.length+1) .nil l2).then λbs q=>(uA rs 125 q).then λ_ z => .ok (.br K i form O q bs .nil,z)by rw[ht,HFF.o]);obtain⟨NB,hNB⟩:∃b,decide (form≠0)=b:=⟨_,rfl⟩;have ie:=Z hNB;have vkd:=Z (show((form:Int) !=0)=NB by rw[<-hNB];by_cases h:form=0<;>simp[h]);clear hov hs hl ht PT HSc HLc I0 HT0 HFF hNB;go_wp2_with fail;obtain⟨G,hG,hGe⟩:∃G:Fo->Nat->qm Fo,R=(q9 rs msg NB (rs.length+1) .nil l2).then G/\∀bs q,zt rs q=125->G bs q = .ok (.br K i form O q bs .nil,q+1):=⟨_,(show decide (form≠0)=NB from ie.o)▸HTz.o,λbs q h=>Jy h⟩;have HGE:=Z hGe;clear hGe;have HG:=Z hG;have p9:1<=l2:=J;clear hG HTz;go_loopw [] (λwr=>∃acc j n v ws,xe p rs j d wr/\xI p w wr/\Eh C (zM K) i form ov v (.int .i64 0) wr/\kP (C+1) 221 3 v acc ws wr/\acc.xW=true/\R=(q9 rs msg NB n acc j).then G/\rs.length+2<=n+j/\acc.len<=j) (λwr=>rs.length+2 - AN p wr)
          case atStart=>exact⟨.nil,l2,rs.length+1,_,[],HSz.o,hbz,HLz.o,kP.start _ _ _ _,rfl,HG.o,J,zQ _⟩
          case round =>
           obtain⟨acc,j,n,v,ws,hs,zb7,Ei,Pd,ya5,hR,hfu,ya6⟩:=hrel;obtain⟨ga,gc,hv,_⟩:=Pd.row;subst hv;obtain⟨HSR,vf2,HGR,VB,HLG,xd4⟩:=EZ hs Ei Pd hR ya5 (show acc.len<=j/\j<=rs.length+1 from⟨ya6,hs.here⟩);have hCC:=Ei.lt;clear hs Ei Pd hR ya5 ya6;go_wp2_with fail;refine(gB p rs j d wr HSR.o).mono ?_;rintro e w1 ⟨rfl,qE⟩;have HB1:=Z (vf2.o.but (xI.of (p:=p) qE) J);have q4:=HB1.o.c4;have KG:=Z (HSR.o.below qE);have Fc:=zb7.below qE;by_cases g:zt rs j=125
           .rw[g];by_cases ha0:acc.len=0
            .have vf3:((acc.len:Int)==0)=true:=(by simp[ha0]);have HA0:=Z ha0;clear ha0 g;obtain⟨n',hn'⟩:∃n',n=n'+1:=⟨n - 1,AI⟩;have ht:=VB.o;rw[hn',q9,yz (λe=>e.2 HA0.o),then_assoc]at ht;exact zk7
            .have vf3:((acc.len:Int)==0)=false:=(by simp[ha0]);have u1:=KG.o.at_;have q5:=HB1.o.c5;have z5:=HB1.o.z 5;obtain⟨n',hn'⟩:∃n',n=n'+1:=⟨n - 1,AI⟩;have ht:=VB.o;rw[hn',q9,yV ⟨g,ha0⟩,then_ok]at ht;have I0:=Z ht;have dn:=Z (KG.o.own hpC 5 j);have oM:=Z (HB1.o.vjd (u := .int .i64 j));have qY:xI p w (w1.setCell (zU C 5) j):=Fc.own hwC 5 _;have xa9:=Z ((HGR.o.but (xI.of (p:=p) qE) J).but (xI.set C w1 5 j) J);obtain⟨y9,V⟩:∃Xk,w1.setCell (zU C 5) j=Xk:=⟨_,rfl⟩;rw[V]at dn oM qY xa9;have HX9:=Z V;clear V ht hn';go_wp2_with fail;rw[HX9.o];refine(ZO p rs j d 125 y9 dn.o zR).mono ?_;rintro e y10 ⟨hq,hx⟩;rw[yV g]at hq;obtain⟨rfl,hs⟩:=hq;have HTZ:=Z (I0.o.trans (HGE.o _ _ g));have Zb:=Z hs;have hbz:=qY.trans hx;have S:=Z (oM.o.but hx J);have xay:=Z (xa9.o.but hx J);have hCZ:=S.o.lt;clear hs g;go_wp2;rw[HTZ.o];refine yK (v := .iface 199 (zU C 0)) ?_ rfl ?_
             .exact WA
             obtain⟨ga2,gc2,AW,xax⟩:=xay.o.row;cases AW;have oN:xh (C+1) (y10:Nat) y10 y10:=vK (Y _);exact⟨⟨⟨_,rfl,[],C,_,_,ws,rfl,hwC,hCZ,S.o.c0,S.o.c1,S.o.c2,(HOV.o ▸  S.o.c3),S.o.c4,S.o.c5,xax.keep oN J (Y _),yd.keep oN J (Y _) _ _ xay.o.nodes,rfl⟩,rfl,rfl,Zb.o⟩,hbz⟩
           .have uz6:(zt rs j==125)=false:=(by simp[g]);have vf5:=Z g;clear g;obtain⟨n',hn'⟩:∃n',n=n'+1:=⟨n - 1,AI⟩;have ht:=VB.o;rw[hn',q9,yz (λe=>vf5.o e.1),then_assoc]at ht;exact zk7
       .rw[yz hw]at hq;have ht:=HTY.o;rw[DY hw]at ht;have yxg:=Z ht;clear ht hw;have HQ:=Z hq;obtain⟨bf,rfl,_,_⟩:=hq;go_wp2;exact⟨rfl,by rw[yxg.o];exact HQ.o,xbj⟩
   .rw[yz P]at hs;rw[show(zt rs J3==44)=false by simp[P]];have L:=Z hs;have ht:=yxx.o;rw[yV P]at ht;have F:=Z ht;clear ht hs P hx6 yxx ynd;go_wp2_with fail;refine(ZO p rs J3 d 125 x6 L.o zR).mono ?_;rintro e x7 ⟨hq,D⟩;have Q:=xby.trans D;have yxv:=Z (xbx.o.but D J);by_cases hw:zt rs J3=125
    .rw[yV hw]at hq;obtain⟨rfl,hs⟩:=hq;have ht:=F.o;rw[Jy hw]at ht;have A:=Z ht;have M:=Z hs;clear ht hs hw D F L;have k0:=yxv.o.c0;have k1:=yxv.o.c1;have V:=Q.size;go_wp2;rw[A.o];have KP:=λo=>(zv (x7:Nat) x7).alloc (Y _) o
     refine yK (v := .iface 210 (x7,0)) ?_ rfl ?_
     .exact WA
     exact⟨⟨⟨_,rfl,[],(x7:Nat),rfl,V,zZ,zf _ _ _ _ _,zf _ _ _ _ _,rfl⟩,rfl,rfl,M.o.below (KP _)⟩,Q.below (KP _)⟩
    .rw[yz hw]at hq;have ht:=F.o;rw[DY hw]at ht;have A:=Z ht;clear ht hw;have HQ:=Z hq;obtain⟨bf,rfl,_,_⟩:=hq;go_wp2;exact⟨rfl,by rw[A.o];exact HQ.o,Q⟩
 .rw[yz hw]at hq;have ht:=HTW.o;rw[DY hw]at ht;have yx9:=Z ht;clear ht hw;have HQ:=Z hq;obtain⟨bf,rfl,_,_⟩:=hq;go_wp2;exact⟨rfl,by rw[yx9.o];exact HQ.o,xb4⟩
variable{acc f:Fo}{rs:List Int}{cap hi i j lo:Nat}{msg:Option jH}{e:xm}{v:Value}{x:Wd}{w:z8}
def vW:∀(f:Fo) (s:Wd),f.xJ=some s->∃pre:Fo,f=pre.app (.text s .nil)/\(f.yT=true->pre.yT=true)/\∀t,f.ye t=pre.app (.text (s++t) .nil)
 |.nil,s,h=>xc
 |.text x .nil,s,h=>by
  have e:x=s:=XV;subst e;exact⟨.nil,rfl,λ_=>rfl,λt=>rfl⟩
 |.text x (.text y r),s,h=>by
  obtain⟨pre,h1,h2,h3⟩:=vW (.text y r) s XV;exact Gb
 |.text x (.hash r),s,h=>by
  obtain⟨pre,h1,h2,h3⟩:=vW (.hash r) s XV;exact Gb
 |.text x (.put a b r),s,h=>by
  obtain⟨pre,h1,h2,h3⟩:=vW (.put a b r) s XV;exact Gb
 |.text x (.num a b r),s,h=>by
  obtain⟨pre,h1,h2,h3⟩:=vW (.num a b r) s XV;exact Gb
 |.text x (.br a b c d e g r),s,h=>by
  obtain⟨pre,h1,h2,h3⟩:=vW (.br a b c d e g r) s XV;exact Gb
 |.text x (.xR a b c r),s,h=>by
  obtain⟨pre,h1,h2,h3⟩:=vW (.xR a b c r) s XV;exact Gb
 |.hash r,s,h=>by
  obtain⟨pre,h1,h2,h3⟩:=vW r s XV;exact⟨.hash pre,Ya,λm=>h2 m,λt=>Bf⟩
 |.put a b r,s,h=>by
  obtain⟨pre,h1,h2,h3⟩:=vW r s XV;exact⟨.put a b pre,Ya,λm=>h2 m,λt=>Bf⟩
 |.num a b r,s,h=>by
  obtain⟨pre,h1,h2,h3⟩:=vW r s XV;exact⟨.num a b pre,Ya,λm=>h2 m,λt=>Bf⟩
 |.br a b c d e g r,s,h=>by
  obtain⟨pre,h1,h2,h3⟩:=vW r s XV;exact⟨.br a b c d e g pre,Ya,λm=>h2 m,λt=>Bf⟩
 |.xR a b c r,s,h=>by
  obtain⟨pre,h1,h2,h3⟩:=vW r s XV;exact⟨.xR a b c pre,Ya,λm=>(by cases m),λt=>Bf⟩
def qy:∀(f:Fo) (t:Wd),f.xJ=none->f.ye t=f.app (.text t .nil)
 |.nil,t,h=>rfl
 |.text x .nil,t,h=>xc
 |.text x (.text y r),t,h=>by rw[Fo.ye,qy (.text y r) t XV];rfl;simp
 |.text x (.hash r),t,h=>by rw[Fo.ye,qy (.hash r) t XV];rfl;simp
 |.text x (.put a b r),t,h=>by rw[Fo.ye,qy (.put a b r) t XV];rfl;simp
 |.text x (.num a b r),t,h=>by rw[Fo.ye,qy (.num a b r) t XV];rfl;simp
 |.text x (.br a b c d e g r),t,h=>by rw[Fo.ye,qy (.br a b c d e g r) t XV];rfl;simp
 |.text x (.xR a b c r),t,h=>by rw[Fo.ye,qy (.xR a b c r) t XV];rfl;simp
 |.hash r,t,h=>B8
 |.put a b r,t,h=>B8
 |.num a b r,t,h=>B8
 |.br a b c d e g r,t,h=>B8
 |.xR a b c r,t,h=>B8
def gF(g:Fo)(i:g ≠ .nil):∀f:Fo,(f.app g).xJ=g.xJ
 |.nil=>rfl
 |.text x r=>by
  have l:=gF g i r;rw[<-l];show Fo.xJ (.text x (r.app g))=_;have j:r.app g ≠ .nil:=by
   cases r<;>simp[Fo.app];exact i
  cases h:r.app g<;>first|rfl|exact absurd h j
 |.hash r=>gF g i r
 |.put a b r=>gF g i r
 |.num a b r=>gF g i r
 |.br a b c d e k r=>gF g i r
 |.xR a b c r=>gF g i r
def yd.split{g:Fo}:∀(f:Fo) (vs:List Value),yd lo hi w vs (f.app g)->∃us xs,vs=us++xs/\yd lo hi w us f/\yd lo hi w xs g
 |.nil,vs,h=>⟨[],vs,rfl,rfl,h⟩
 |.text t r,vs,h=>zxg
 |.hash r,vs,h=>zxg
 |.put n a r,vs,h=>zx6
 |.num n a r,vs,h=>zx6
 |.br n a f o c bs r,vs,h=>by
  obtain⟨vt,b,i,j,ws,rfl,l1,l2,c0,c1,c2,c3,c4,c5,d,e,hr⟩:=h;obtain⟨us,xs,rfl,h1,h2⟩:=yd.split r vt hr;exact⟨_,xs,rfl,⟨us,b,i,j,ws,rfl,l1,l2,c0,c1,c2,c3,c4,c5,d,e,h1⟩,h2⟩
 |.xR k a m r,vs,h=>by
  obtain⟨vt,ma,mc,ws,rfl,d,hm,hr⟩:=h;obtain⟨us,xs,rfl,h1,h2⟩:=yd.split r vt hr;exact⟨_,xs,rfl,⟨us,ma,mc,ws,rfl,d,hm,h1⟩,h2⟩
def yd.one(h:yd lo hi w [v] f)(g:f.len=1)(hm:f.yT=true)(i:f.xJ=none) :
  ∃T x,v = .iface T x/\((T=208/\x = .agg #[])\/(T=210/\∃b,x = .pointer (some ⟨b,0,none⟩))\/(T=213/\∃b,x = .pointer (some ⟨b,0,none⟩))\/(T=199/\∃b,x = .pointer (some ⟨b,0,none⟩))):=by
 cases f with
 |nil=>cases g
 |text t r =>
  have:r.len=0:=by simpa[Fo.len]using g
  cases r<;>simp[Fo.len]at this;cases i
 |hash r =>
  obtain⟨d,e,_⟩:=h;cases e;exact⟨_,_,rfl,.inl ⟨rfl,rfl⟩⟩
 |put n a r =>
  obtain⟨d,b,e,_⟩:=h;cases e;exact⟨_,_,rfl,.inr (.inl ⟨rfl,b,rfl⟩)⟩
 |num n a r =>
  obtain⟨d,b,e,_⟩:=h;cases e;exact⟨_,_,rfl,.inr (.inr (.inl ⟨rfl,b,rfl⟩))⟩
 |br n a f o c bs r =>
  obtain⟨d,b,j,l,ws,e,_⟩:=h;cases e;exact⟨_,_,rfl,.inr (.inr (.inr ⟨rfl,b,rfl⟩))⟩
 |xR k a m r=>cases hm
def Ew{r:Fo}(hr:r ≠ .nil):(Fo.text x r).xJ=r.xJ:=by
 cases r<;>first|rfl|exact absurd rfl hr
def ZX:∀f:Fo,f.xJ=none->f.yT=true->f ≠ .nil->∃pre g:Fo,f=pre.app g/\g.len=1/\g.yT=true/\g.xJ=none/\pre.yT=true
 |.nil,_,_,h=>absurd rfl h
 |.text x r,h,hm,_=>by
  by_cases hr:r = .nil
  .subst hr;cases h
  .rw[Ew hr]at h;obtain⟨pre,g,h1,h2,i,j,l⟩:=ZX r h hm hr;exact⟨.text x pre,g,Ya,h2,i,j,l⟩
 |.hash r,h,hm,_=>by
  by_cases hr:r = .nil
  .exact Le
  .obtain⟨pre,g,h1,h2,i,j,l⟩:=ZX r h hm hr;exact⟨.hash pre,g,Ya,h2,i,j,l⟩
 |.put a b r,h,hm,_=>by
  by_cases hr:r = .nil
  .exact Le
  .obtain⟨pre,g,h1,h2,i,j,l⟩:=ZX r h hm hr;exact⟨.put a b pre,g,Ya,h2,i,j,l⟩
 |.num a b r,h,hm,_=>by
  by_cases hr:r = .nil
  .exact Le
  .obtain⟨pre,g,h1,h2,i,j,l⟩:=ZX r h hm hr;exact⟨.num a b pre,g,Ya,h2,i,j,l⟩
 |.br a b c d e k r,h,hm,_=>by
  by_cases hr:r = .nil
  .exact Le
  .obtain⟨pre,g,h1,h2,i,j,l⟩:=ZX r h hm hr;exact⟨.br a b c d e k pre,g,Ya,h2,i,j,l⟩
 |.xR a b c r,h,hm,_=>by cases hm
def kP.xav{base:Nat}{ws:List Value}(h:kP base e 1 v acc ws w)(hm:acc.yT=true)(a:acc ≠ .nil) :
  match acc.xJ with
  |some s=>∃us,ws=us++[.iface 206 (zM s)]/\us.length+1=acc.len
  |none=>∃us T x,ws=us++[.iface T x]/\us.length+1=acc.len/\((T=208/\x = .agg #[])\/(T=210/\∃b,x = .pointer (some ⟨b,0,none⟩))\/(T=213/\∃b,x = .pointer (some ⟨b,0,none⟩))\/(T=199/\∃b,x = .pointer (some ⟨b,0,none⟩))):=by
 have hn:=h.nodes;cases f:acc.xJ with
 |some s =>
  obtain⟨pre,h1,h2,_⟩:=vW acc s f;have c:=h2 hm;rw[h1]at hn;obtain⟨us,xs,rfl,n1,n2⟩:=yd.split _ _ hn;obtain⟨m,rfl,e⟩:=n2;have i:m=[]:=e;subst i;refine⟨us,rfl,?_⟩;rw[yd.count _ _ n1 c,h1,Fo.jD];rfl
 |none =>
  obtain⟨pre,g,h1,h2,d,j,k⟩:=ZX acc f hm a;rw[h1]at hn;obtain⟨us,xs,rfl,n1,n2⟩:=yd.split _ _ hn;have hx:=yd.count _ _ n2 d;rw[h2]at hx;match xs,hx with
  |[x],_ =>
   obtain⟨T,y,rfl,l⟩:=n2.one h2 d j;refine⟨us,T,y,rfl,?_,l⟩;rw[yd.count _ _ n1 k,h1,Fo.jD,h2]
def kP.Wh{base:Nat}{g:Nat}{ws us:List Value}{s:Wd}(h:kP base e 1 (.slice (g,0) acc.len cap) acc ws w)(hm:acc.yT=true)(o:acc.xJ=some s)
  (l:ws=us++[.iface 206 (zM s)]) (u:us.length+1=acc.len) (t:Wd) :
  kP base e 1 (.slice (g,0) (acc.ye t).len cap) (acc.ye t) (us++[.iface 206 (zM (s++t))]) (w.setCell (g,us.length) (.iface 206 (zM (s++t))))/\(acc.ye t).len=acc.len:=by
 obtain⟨pre,h1,h2,i⟩:=vW acc s o;have p:=h2 hm;have a:(acc.ye t).len=acc.len:=by
  rw[i,h1,Fo.jD,Fo.jD];rfl
 obtain⟨f,c⟩:=h;obtain⟨d,b⟩:=f.stored us.length (.iface 206 (zM (s++t)));rw[a];refine⟨⟨?_,λW j=>?_⟩,rfl⟩
 .rw[a];rw[l]at d;simpa[List.set_append]using d
 .have hn:=c W ⟨zj b.size j.1,λk k1 k2 k3=>(j.2 k k1 (zD k2 b.size) k3).trans (b.block k k2 (by simpa[yl]using k3))⟩;rw[h1,l]at hn;obtain⟨q,xs,he,n1,n2⟩:=yd.split _ _ hn;obtain⟨r,rfl,m⟩:=n2;have n:r=[]:=m;subst n;obtain⟨rfl,_⟩:=List.append_inj' he rfl;rw[i];exact yd.app (g := .text (s++t) .nil) ⟨_,rfl,rfl⟩ _ _ n1
def iR{s:Wd}(h:f.yT=true)(b:f.xJ=some s)(t:Wd):(f.ye t).yT=true/\(f.ye t).xJ=some (s++t):=by
 obtain⟨pre,h1,h2,a⟩:=vW f s b;rw[a];exact⟨Fo.kI _ _ (h2 h) rfl,gF _ zZ _⟩
def Iq(h:gC rs msg i = .ok (f,j)):f.xJ=none/\j<=rs.length:=by
 have key:∀q:Nat,zt rs q=125->q+1<=rs.length:=λq v=>by
  apply yu;intro hc;rw[kM J]at v;cases v
 unfold gC at h;obtain⟨u,a,h1,h2⟩:=zG h;obtain⟨nm,b,x,p⟩:=zG h2;clear h h1 h2 x;split at p
 .obtain⟨u,z,s,e⟩:=zG p;have:=yR s;cases e;exact WC
 .obtain⟨A,c,s,e⟩:=zG p;split at e
  .obtain⟨u,z,t,r⟩:=zG e;have:=yR t;cases r;exact WC
  .split at e
   .cases e
   .obtain⟨u,d,t,r⟩:=zG e;obtain⟨o,l,y,g⟩:=zG r;obtain⟨bs,q,w,k⟩:=zG g;obtain⟨u,z,m,n⟩:=zG k;have:=yR m;cases n;exact WC
def PW(l:List Int):(l.flatMap enc).length<=4*l.length:=zyz
def AA:∀(n:Nat) (l:List Int),l.length<=n->(xy l).1.length<=(xy l).2:=zj5
def pz(rs:List Int)(num:Bool)(i:Nat):(qv rs num i).1.length+4*i<=4*(qv rs num i).2:=by
 unfold qv;split
 .exact zvk
 split
 .exact zq4
 split
 .exact zq5
 .have h1:=PW (xy (rs.drop (i+1))).1;have h2:=AA _ (rs.drop (i+1)) (Y _);exact zv4
def PA(s:Wd)(w:z8):(zA (.iface 206 (zM s)) 193 206 true).run prog w = .ok (.tuple #[zM s,.bool true]) w:=xV
def Pa(w:z8):(zA (.iface 208 (.agg #[])) 193 206 true).run prog w = .ok (.tuple #[.string ⟨#[]⟩,.bool false]) w:=xV
def Aa(b:Nat)(w:z8):(zA (.iface 210 (b,0)) 193 206 true).run prog w = .ok (.tuple #[.string ⟨#[]⟩,.bool false]) w:=xV
def Ac(b:Nat)(w:z8):(zA (.iface 213 (b,0)) 193 206 true).run prog w = .ok (.tuple #[.string ⟨#[]⟩,.bool false]) w:=xV
def py(b:Nat)(w:z8):(zA (.iface 199 (b,0)) 193 206 true).run prog w = .ok (.tuple #[.string ⟨#[]⟩,.bool false]) w:=xV
variable{n:Nat}
def lg(B p:Nat)(x:Int)(u:FrameMode)(w:z8)(hc:zu w B 0 (p,0))(hx:zu w p 2 x)(b:w.frozen? (p,2)=false) :
  CallsD prog 129 #[(B,0)] u w λe a w'=>a=u/\(e = .returned (.tuple #[])/\w'=w.setCell (p,2) (.int .i64 (wrap64 (x - 1)))):=by
 go_enter_d func129,ntmps129
 go_wp2;go_end0
 exact⟨rfl,rfl⟩
def Ae{num:Bool}(hn:1<=n):∃a,n=a+1/\vV rs msg num n acc i =
  if zt rs i = -1\/zt rs i=125 then .ok (acc,i)
  else if zt rs i=123 then (gC rs msg i).then λf j=>vV rs msg num a (acc.app f) j
  else if zt rs i=35/\num=true then vV rs msg num a (acc.app (.hash .nil)) (i+1)
  else vV rs msg num a (acc.ye (qv rs num i).1) (qv rs num i).2:=by
 obtain⟨a,rfl⟩:∃a,n=a+1:=⟨n - 1,J⟩;exact⟨a,rfl,by rw[vV]⟩
def FU(p:Nat)(rs:List Int)(d:Nat)(msg:Option jH)(hd5:d<=50)(xau:∀j W,xe p rs j (d+1) W->FX p W->zC prog 130 #[(p,0)] W (xb2 p rs (d+1) (gC rs msg j) W))(wa:∀m,msg=some m->BC m) :
  yx7 p rs d (λnum i=>vV rs msg num (rs.length+1) .nil i):=by
 intro num i w h he;have hmf:∀(fn:Fn) (first cap:Array Value) (w:z8),(uV fn first cap).run prog w = .ok (.func fn first cap) w:=λ_ _ _ _=>rfl
 obtain⟨HH,oI,vf6,vf7⟩:=hdd h he xau (λj f q (e:gC rs msg j = .ok (f,q))=>ly wa e);have vjb:=h.lt;have yn9:=Z h.len;obtain⟨R,hR⟩:=zr (vV rs msg num (rs.length+1) .nil i);show zC _ _ _ w (xb1 p rs d (vV rs msg num (rs.length+1) .nil i) w);rw[hR];have HTW:=Z hR.symm;clear he xau hR wa;obtain⟨B,hB⟩:=zr (w:Nat);have HB:=Z hB;have hpB:p<B:=J;have Qi:=λo=>(zv (w:Nat) w).alloc (Y _) o
 have vf8:=Z h;have g6:=h.deep;have z6:=h.z2;clear h;go_enter_defers func78,ntmps78;go_wp2_with fail;refine Js ?_;intro W hW;have Ti:vH.wrap ((d:Int)+1)=((d+1:Nat):Int):=zyf;have F1:xe p rs i (d+1) W/\xI p w W/\zu W B 0 (p,0)/\B<(W:Nat):=by
  rw[hW,show((d:Int)+1)=((d+1:Nat):Int)from J];have hs:=vf8.o.xdj (d+1) J;have bh:(w.setCell (zU p 2) ((d+1:Nat):Int)).heap.size=B:=by rw[<-HB.o];simp[xg]
  have y:=λo=>(zv (w.setCell (p,2) ((d+1:Nat):Int)).heap.size (w.setCell (p,2) ((d+1:Nat):Int))).alloc (Y _) o
  have LI:=λc t fr i=>zf (w.setCell (p,2) ((d+1:Nat):Int)) c t fr i
  rw[bh]at LI;exact⟨hs.below (y _),(xI.set p w 2 _).below (y _),LI _ _ _ _,by rw[<-bh];simp⟩
 obtain⟨xaq,OE,PB,hBW⟩:=F1;have HSW:=Z xaq;clear xaq hW g6 z6 Qi;go_loopw [4] (λv wr=>∃acc j n ws,xe p rs j (d+1) wr/\xI p w wr/\zu wr B 0 (p,0)/\kP (B+1) 193 1 v acc ws wr/\acc.yT=true/\R=vV rs msg num n acc j/\rs.length+1<=n+j/\1<=n/\acc.len<=j/\∀s,acc.xJ=some s->s.length<=4*j) (λv wr=>rs.length+2 - AN p wr)
 case atStart=>exact⟨.nil,i,rs.length+1,[],HSW.o,OE,PB,kP.start _ _ _ _,rfl,HTW.o,J,J,zQ _,λs e=>by cases e⟩
 case round =>
  obtain⟨acc,j,n,ws,hs,zb7,pb,Pd,oD,hR,hfu,DX,zk9,S⟩:=hrel;obtain⟨n',hn',QV⟩:=Ae (rs:=rs) (msg:=msg) (num:=num) (acc:=acc) (i:=j) DX;rw[QV]at hR;obtain⟨HSR,HGR,HM,HR,HLA,HN⟩:=EZ hs Pd oD hR S hn';have xd3:=hs.here;obtain⟨ga,gc,rfl,_⟩:=Pd.row;clear hs Pd oD hR S hn' QV;go_wp2_with fail;refine(gB p rs j (d+1) wr HSR.o).mono ?_;rintro e w1 ⟨rfl,L⟩;have F:=Z (HSR.o.below L);have PB1:zu w1 B 0 (zU p 0):=(L.cell (X _ _ pb)).trans pb;have Eo:=zb7.below L;have Yn:=Z (HGR.o.but (xI.of (p:=p) L) J);have ub1:B<(w1:Nat):=X _ _ PB1;have hw1:=L.size;clear L pb;obtain⟨r,hr⟩:=zr (zt rs j);rw[hr];have HQR:=Z hr;have ld:=HR.o;rw[hr]at ld;have D:=Z ld;clear ld HR hr;by_cases A:r = -1\/r=125
  .have HT:=Z (D.o.trans (yV A));have EO:wrap64 (((d+1:Nat):Int) - 1)=(d:Int):=(by rw[show((d+1:Nat):Int) - 1=(d:Int)by omega];simp[wrap64];omega);have HD2:=Z EO;clear D EO;obtain A|A:=A;all_goals
    subst A;go_wp2_with fail;refine qb (f:=129) (args:=#[(zU B 0)]) zZ kL ?_;refine(lg B p ((d+1:Nat):Int) _ _ PB1 F.o.deep F.o.z2).mono ?_;rintro e u' Vk ⟨rfl,rfl,rfl⟩;simp only[Eu];refine⟨.slice ga acc.len gc,by simp[yN,results78,go_sem],?_⟩;rw[HT.o,HD2.o];have hG:=Yn.o.but (xI.set p w1 2 d) J;obtain⟨a,c,hv,Y9⟩:=hG.row;cases hv;have bh:=Eo.size;have hk:xh (B+1) (w1.setCell (p,2) d).heap.size (w1.setCell (p,2) d) (w1.setCell (p,2) d):=vK (Y _);exact⟨⟨⟨_,_,rfl,ws,Y9.keep hk J (Y _),yd.keep hk J (Y _) _ _ hG.nodes⟩,HM.o,F.o.xdj d J⟩,Eo.Ks 2 _⟩
  .have I:=Z (D.o.trans (yz A));have e1:(r==-1)=false:=(by simpa using λe=>A (.inl e));have e2:(r==125)=false:=(by simpa using λe=>A (.inr e));clear A D;by_cases G:r=123
   .have D:=Z (I.o.trans (yV G));clear I e1 e2;subst G;obtain⟨ra,hra⟩:=zr (gC rs msg j);have K:=vf6.o j w1 F.o (oI.o.but Eo);rw[hra]at K;have M:=Z K;have we:=D.o;rw[hra]at we;have I0:=Z we;have HRA:=Z hra;clear K we D hra;go_wp2_with fail;refine M.o.mono ?_;rintro e w2 ⟨hq,dB⟩;have QP:=Eo.trans dB;have Iz:zu w2 B 0 (zU p 0):=dB.cell PB1 By;clear M;cases ra with
    |error en =>
     obtain⟨en1,en2⟩:=en;have HQ:=Z hq;obtain⟨bf,rfl,f1,f2,⟨dx,f3,f4⟩,f5,f6⟩:=hq;have HTE:=Z (show R = .error (en1,en2)from I0.o);go_wp2;refine qb (f:=129) (args:=#[(zU B 0)]) zZ kL ?_;refine(lg B p dx _ _ Iz f3 f4).mono ?_;rintro e u' Vk ⟨rfl,rfl,rfl⟩;simp only[Eu,jJ,raised];rw[HTE.o];exact⟨⟨bf,rfl,by rw[zo,yz (λe=>Ww)];exact f1,by rw[zo,yz (λe=>by have:=congrArg qd e;simp at this;omega)];exact f2,⟨_,by rw[zo,yV rfl,f3];rfl,by rw[zO];exact f4⟩,f5,by simpa[xg]using f6⟩,QP.Ks 2 _⟩
    |ok fq =>
     obtain⟨f,q⟩:=fq;obtain⟨⟨v,rfl,V⟩,Q,lZ,Ym⟩:=hq;have y:=Iq HRA.o;have uo:=vf7.o _ _ _ HRA.o;obtain⟨T,x,rfl,hT⟩:=V.one Q lZ y.1;have G9:=Z V;have EP:=Z (show R=vV rs msg num n' (acc.app f) q from I0.o);have hql:=y.2;have P:∀s,(acc.app f).xJ=some s->s.length<=4*q:=λs e=>by
      rw[gF f (λe=>by rw[e]at Q;cases Q) acc,y.1]at e;cases e
     obtain⟨xak,vf9,Km,dn⟩:=hdd P (Fo.kI acc f HM.o lZ) (Yn.o.but dB J) Ym;have KN:=dB.size;have hFL:=Z Q;clear V Ym I0 hT y P Q lZ dB;go_wp2_with (at_builtin;refine gQ ?_);intro E YW;have y:zP w2 E:=DW;have OL:zu E (w2:Nat) 0 (.iface T x):=Dc;have PY:=Z (dn.o.below y);have En:=QP.below y;have PB3:zu E B 0 (p,0):=(y.cell (X _ _ Iz)).trans Iz;have z:=Z (Km.o.but (xI.of (p:=p) y) J);have H:=y.size;have HN3:=Z (yd.keep (lo:=(w1:Nat)) (hi:=(w2:Nat)) (w:=w2) (w':=E) ⟨y.size,λk _ hk=>y.block k hk⟩ (Y _) y.size _ _ G9.o);clear YW;refine Yo ZY rfl _ _ rfl (B+1) (w1:Nat) _ acc f ws rfl z.o ⟨(w2:Nat),0,none⟩ 1 1 [.iface T x] rfl rfl BV ?h1a2 (by exact HN3.o) J GK hFL.o GF J ?h1a5
     case h1a2 =>
      exact Ff
     intro v4 w4 VC QW;have uT:∀k,(.slice ga acc.len gc:Value).ownBlock=some k->B+1<=k:=λk hk=>(Yn.o.lt k hk).1
     have I5:=Z (PY.o.grown QW (λk hk=>zyv));have Wt:=En.grown QW (λk hk=>by have:=uT k hk;omega);have PB4:=QW.cell PB3 (λe=>by have:=uT B e.symm;omega);have Ws:=Z VC;obtain⟨ga',gc',rfl,_⟩:=VC.row;clear VC QW uT;go_wp2;go_roundw
     case rel=>exact⟨acc.app f,q,n',_,I5.o,Wt,PB4,Ws.o,vf9.o,EP.o,by have:=HN.o;omega,by have:=HN.o;omega,by rw[Fo.jD,hFL.o];omega,xak.o⟩
     case measure =>
      exact zx0
   .have D:=Z (I.o.trans (yz G));have e3:(r==123)=false:=(by simpa using G);clear G I;by_cases O:r=35/\num=true
    .have EP:=Z (D.o.trans (yV O));clear D e1 e2 e3;obtain⟨vfz,vfy⟩:=O;subst vfz;subst vfy;have lY:j<rs.length:=by
      apply yu;intro hc;have:=HQR.o;rw[kM J]at this;cases this
     have g5:=F.o.at_;have z5:=F.o.z1;go_wp2_with (at_builtin;refine gQ ?_);intro E YW;rw[show wrap64 ((j:Int)+1)=((j+1:Nat):Int)by have:=yn9.o;simp[wrap64];omega]at YW;have hmv:=F.o.move (j+1) J;have y:yD (w1.setCell (zU p 1) ((j+1:Nat):Int)).heap.size (w1.setCell (zU p 1) ((j+1:Nat):Int)) E:=DW;have bh:(w1.setCell (p,1) ((j+1:Nat):Int)).heap.size=(w1:Nat):=ZH;have OL:zu E (w1:Nat) 0 (.iface 208 (.agg #[])):=(by rw[YW,<-bh];exact zf _ _ _ _ _);have PY:=Z (hmv.below y);have En:=(Eo.Ks 1 ((j+1:Nat):Int)).below y;have Iz:zu (w1.setCell (zU p 1) ((j+1:Nat):Int)) B 0 (zU p 0):=(by rw[zo,yz (λe=>Ww)];exact PB1);have PB3:zu E B 0 (p,0):=(y.cell (X _ _ Iz)).trans Iz;have z:=Z ((Yn.o.but (xI.set p w1 1 ((j+1:Nat):Int)) J).but (xI.of (p:=p) y) J);have H:=y.size;clear YW;refine Yo ZY rfl _ _ rfl (B+1) (w1:Nat) _ acc (.hash .nil) ws rfl z.o ⟨(w1:Nat),0,none⟩ 1 1 [.iface 208 (.agg #[])] rfl rfl (by exact cells_one OL) ?h2a2 BJ J GK (show Fo.len (.hash .nil)=1 from rfl) GF J ?h2a5
     case h2a2 =>
      exact Ff
     intro v4 w4 VC QW;have uT:∀k,(.slice ga acc.len gc:Value).ownBlock=some k->B+1<=k:=λk hk=>(Yn.o.lt k hk).1
     have I5:=Z (PY.o.grown QW (λk hk=>zyv));have Wt:=En.grown QW (λk hk=>by have:=uT k hk;omega);have PB4:=QW.cell PB3 (λe=>by have:=uT B e.symm;omega);have Ws:=Z VC;obtain⟨ga',gc',rfl,_⟩:=VC.row;clear VC QW uT;go_wp2;go_roundw
     case rel=>exact⟨acc.app (.hash .nil),(j+1),n',_,I5.o,Wt,PB4,Ws.o,(Fo.kI _ _ HM.o rfl),EP.o,by have:=HN.o;omega,by have:=HN.o;omega,by rw[Fo.jD,(show Fo.len (.hash .nil)=1 from rfl)];omega,λs e=>by rw[gF _ zZ acc]at e;cases e⟩
     case measure =>
      exact zx0
    .have I:=Z (D.o.trans (yz O));clear D;have lY:j<rs.length:=by
      apply yu;intro hc;have:=HQR.o;rw[kM J]at this;rw[<-this]at e1;cases e1
     have HTX:=Z (zdd p rs j (d+1) num w1 F.o lY);obtain⟨t,ht⟩:=zr ((qv rs num j).1);obtain⟨q,hq⟩:=zr ((qv rs num j).2);have uo:j<q:=(by have:=Jz rs num j;omega);have htl:t.length+4*j<=4*q:=(by have:=pz rs num j;rw[ht,hq]at this;exact this);have hql:q<=rs.length:=(by have:=(PM (num:=num) lY).2;omega);have hR5:=I.o;rw[ht,hq]at HTX hR5;have I0:=Z hR5;have hl0:=yn9.o;clear ht hq hR5 I;have C:(r==35)=false\/((r==35)=true/\num=false):=by
      by_cases h:r=35
      .right;exact⟨by simp[h],by cases num;rfl;exact absurd ⟨h,rfl⟩ O⟩
      .left;simp[h]
     clear O;by_cases U:acc.len=0
     .have hl:acc.xJ=none:=by
       cases acc<;>simp[Fo.len]at U;rfl
      have Zd:decide ((0:Int)<(acc.len:Int))=false:=yJ;have DX:decide (0<acc.len)=false:=yJ;have EP:=Z (show R=vV rs msg num n' (acc.app (.text t .nil)) q by rw[<-qy acc t hl];exact I0.o);clear I0 hl U;rcases C with C|⟨C,rfl⟩
      .go_wp2_with fail;refine HTX.o.mono ?_;rintro e w2 ⟨rfl,Ym,dB⟩;have QP:=Eo.trans dB;have Iz:zu w2 B 0 (zU p 0):=dB.cell PB1 By;have Km:=Z (Yn.o.but dB J);have dn:=Z Ym;have KN:=dB.size;clear Ym dB;go_wp2_with (at_builtin;refine gQ ?_);intro E YW;have y:zP w2 E:=(by rw[YW];exact(zv _ _).alloc (Y _) _);have OL:zu E (w2:Nat) 0 (.iface 206 (zM t)):=Dc;have PY:=Z (dn.o.below y);have En:=QP.below y;have PB3:zu E B 0 (p,0):=(y.cell (X _ _ Iz)).trans Iz;have z:=Z (Km.o.but (xI.of (p:=p) y) J);have H:=y.size;clear YW;refine Yo ZY rfl _ _ rfl (B+1) (w1:Nat) _ acc (.text t .nil) ws rfl z.o ⟨(w2:Nat),0,none⟩ 1 1 [.iface 206 (zM t)] rfl rfl BV ?h3a2 BJ J GK (show Fo.len (.text t .nil)=1 from rfl) GF J ?h3a5
       case h3a2 =>
        exact Ff
       exact zf3
      .go_wp2_with fail;refine HTX.o.mono ?_;rintro e w2 ⟨rfl,Ym,dB⟩;have QP:=Eo.trans dB;have Iz:zu w2 B 0 (zU p 0):=dB.cell PB1 By;have Km:=Z (Yn.o.but dB J);have dn:=Z Ym;have KN:=dB.size;clear Ym dB;go_wp2_with (at_builtin;refine gQ ?_);intro E YW;have y:zP w2 E:=(by rw[YW];exact(zv _ _).alloc (Y _) _);have OL:zu E (w2:Nat) 0 (.iface 206 (zM t)):=Dc;have PY:=Z (dn.o.below y);have En:=QP.below y;have PB3:zu E B 0 (p,0):=(y.cell (X _ _ Iz)).trans Iz;have z:=Z (Km.o.but (xI.of (p:=p) y) J);have H:=y.size;clear YW;refine Yo ZY rfl _ _ rfl (B+1) (w1:Nat) _ acc (.text t .nil) ws rfl z.o ⟨(w2:Nat),0,none⟩ 1 1 [.iface 206 (zM t)] rfl rfl BV ?h4a2 BJ J GK (show Fo.len (.text t .nil)=1 from rfl) GF J ?h4a5
       case h4a2 =>
        exact Ff
       exact zf3
     .have Zd:decide ((0:Int)<(acc.len:Int))=true:=(by simp;omega);have DX:decide (0<acc.len)=true:=yJ;have Ai:=Yn.o.xav HM.o (λe=>U (by rw[e];rfl));obtain⟨l,hl⟩:=zr acc.xJ;rw[hl]at Ai;cases l with
      |none =>
       have EP:=Z (show R=vV rs msg num n' (acc.app (.text t .nil)) q by rw[<-qy acc t hl];exact I0.o);obtain⟨us,T,x,QA,hul,hT⟩:=Ai;clear I0 hl;have has:∀W,(zA (.iface T x) 193 206 true).run prog W = .ok (.tuple #[.string ⟨#[]⟩,.bool false]) W:=by
        intro W;rcases hT with⟨rfl,rfl⟩|⟨rfl,b,rfl⟩|⟨rfl,b,rfl⟩|⟨rfl,b,rfl⟩
        .exact Pa W
        .exact Aa b W
        .exact Ac b W
        .exact py b W
       clear hT;obtain⟨g,N,hgv,hbg,hgl,dP⟩:=xf Yn.o.1 J;obtain⟨rfl,rfl⟩:ga=some ⟨g,0,none⟩/\gc=N:=(by cases hgv;exact⟨rfl,rfl⟩);have yyb:zu w1 g (acc.len - 1) (.iface T x):=zg0;have hi0:(acc.len:Int) - 1=((acc.len - 1:Nat):Int):=J;have hi2:((acc.len - 1:Nat):Int)<(acc.len:Int):=J;have hi3:decide (((acc.len - 1:Nat):Int)<(acc.len:Int))=true:=yJ;clear dP;clear QA hul;rcases C with C|⟨C,rfl⟩
       .go_wp2_with fail;refine HTX.o.mono ?_;rintro e w2 ⟨rfl,Ym,dB⟩;have QP:=Eo.trans dB;have Iz:zu w2 B 0 (zU p 0):=dB.cell PB1 By;have Km:=Z (Yn.o.but dB J);have dn:=Z Ym;have KN:=dB.size;have hlc:zu w2 g (acc.len - 1) (.iface T x):=dB.cell yyb (by show g≠p;omega);clear Ym dB;go_wp2_with (at_builtin;refine gQ ?_);intro E YW;have y:zP w2 E:=(by rw[YW];exact(zv _ _).alloc (Y _) _);have OL:zu E (w2:Nat) 0 (.iface 206 (zM t)):=Dc;have PY:=Z (dn.o.below y);have En:=QP.below y;have PB3:zu E B 0 (p,0):=(y.cell (X _ _ Iz)).trans Iz;have z:=Z (Km.o.but (xI.of (p:=p) y) J);have H:=y.size;clear YW;refine Yo ZY rfl _ _ rfl (B+1) (w1:Nat) _ acc (.text t .nil) ws rfl z.o ⟨(w2:Nat),0,none⟩ 1 1 [.iface 206 (zM t)] rfl rfl BV ?h5a2 BJ J GK (show Fo.len (.text t .nil)=1 from rfl) GF J ?h5a5
        case h5a2 =>
         exact Ff
        exact zf2
       .go_wp2_with fail;refine HTX.o.mono ?_;rintro e w2 ⟨rfl,Ym,dB⟩;have QP:=Eo.trans dB;have Iz:zu w2 B 0 (zU p 0):=dB.cell PB1 By;have Km:=Z (Yn.o.but dB J);have dn:=Z Ym;have KN:=dB.size;have hlc:zu w2 g (acc.len - 1) (.iface T x):=dB.cell yyb (by show g≠p;omega);clear Ym dB;go_wp2_with (at_builtin;refine gQ ?_);intro E YW;have y:zP w2 E:=(by rw[YW];exact(zv _ _).alloc (Y _) _);have OL:zu E (w2:Nat) 0 (.iface 206 (zM t)):=Dc;have PY:=Z (dn.o.below y);have En:=QP.below y;have PB3:zu E B 0 (p,0):=(y.cell (X _ _ Iz)).trans Iz;have z:=Z (Km.o.but (xI.of (p:=p) y) J);have H:=y.size;clear YW;refine Yo ZY rfl _ _ rfl (B+1) (w1:Nat) _ acc (.text t .nil) ws rfl z.o ⟨(w2:Nat),0,none⟩ 1 1 [.iface 206 (zM t)] rfl rfl BV ?h6a2 BJ J GK (show Fo.len (.text t .nil)=1 from rfl) GF J ?h6a5
        case h6a2 =>
         exact Ff
        exact zf2
      |some s =>
       obtain⟨us,QA,hul⟩:=Ai;have Ml:=HLA.o s hl;have has:=λW=>PA s W
       have HL:=Z hl;clear hl;have ub3:(9223372036854775807<s.length+t.length)=False:=yJ;obtain⟨g,N,hgv,hbg,hgl,dP⟩:=xf Yn.o.1 J;obtain⟨rfl,rfl⟩:ga=some ⟨g,0,none⟩/\gc=N:=(by cases hgv;exact⟨rfl,rfl⟩);have yyb:zu w1 g (acc.len - 1) (.iface 206 (zM s)):=zg0;have hi0:(acc.len:Int) - 1=((acc.len - 1:Nat):Int):=J;have hi2:((acc.len - 1:Nat):Int)<(acc.len:Int):=J;have hi3:decide (((acc.len - 1:Nat):Int)<(acc.len:Int))=true:=yJ;clear dP;rcases C with C|⟨C,rfl⟩
       .exact zkx
       .exact zkx
def lX(p:Nat)(rs:List Int):∀(n:Nat),n<=5->yx7 p rs (5 - n) (gH rs n)
 | 0,_=>FU p rs 5 none J (λj W hs he=>Jx p rs j 6 none W hs he ⟨λ_=>rfl,λ_=>rfl⟩ (λm e=>by cases e) (λm e=>by cases e)) (λm e=>by cases e)
 |n+1,h=>by
  have a:=lX p rs n J;have e:5 - n=5 - (n+1)+1:=J;rw[e]at a;exact FU p rs (5 - (n+1)) (some (gH rs n)) J (λj W hs he=>Jx p rs j (5 - (n+1)+1) (some (gH rs n)) W hs he ⟨λh=>xc,λh=>J⟩ (λm e=>by cases e;exact a) (λm e=>by cases e;exact Mi rs n)) (λm e=>by cases e;exact Mi rs n)
def uf(l:List UInt8):Bool:=l.all yG && !l.isEmpty
def zb8(s:ByteArray)(h:0<s.size):s.data.toList.headD 0=s[0]:=by
 rw[<-getElem_toList s 0 h,List.headD_eq_head?_getD,List.head?_eq_getElem?,zk QY];rfl
variable{l:List UInt8}
def dH(r:Int):Bool:=decide (0<=r/\r<=0x10FFFF/\(r<0xD800\/0xDFFF<r))
def zb9(l:List UInt8)(v:Nat):Nat:=l.foldl (λv c=>64*v+(c.toNat - 128)) v
def ZW(c:UInt8):Bool:=128<=c && c<=191
def least(n:Nat):Int:=if n=4 then 65536 else if n=3 then 2048 else if n=2 then 128 else 0
def qP(l:List UInt8)(n v:Nat):Nat :=
 if l.length<n then 0 else if (l.tail.take (n - 1)).all ZW=false then 0
 else if (zb9 (l.tail.take (n - 1)) v:Int)<least n\/dH (zb9 (l.tail.take (n - 1)) v)=false then 0 else n
def xY(l:List UInt8):Nat :=
 let c:=(l.headD 0).toNat
 if 240<=c/\c<248 then qP l 4 (c - 240)
 else if 224<=c/\c<240 then qP l 3 (c - 224)
 else if 192<=c/\c<224 then qP l 2 (c - 192)
 else if 128<=c then 0
 else qP l 1 c
def BI(c:UInt8):ZW c=true ↔ (128:Int)<=(c.toNat:Int)/\(c.toNat:Int)<=191:=by
 simp[ZW,UInt8.le_iff_toNat_le];omega
def ku{l:List UInt8}{n v:Nat}(H:(240<=(l.headD 0).toNat/\(l.headD 0).toNat<248/\n=4/\v=(l.headD 0).toNat - 240) \/
  (224<=(l.headD 0).toNat/\(l.headD 0).toNat<240/\n=3/\v=(l.headD 0).toNat - 224) \/
  (192<=(l.headD 0).toNat/\(l.headD 0).toNat<224/\n=2/\v=(l.headD 0).toNat - 192) \/
  ((l.headD 0).toNat<128/\n=1/\v=(l.headD 0).toNat)):xY l=qP l n v:=by
 unfold xY;rcases H with⟨h1,h2,rfl,rfl⟩|⟨h1,h2,rfl,rfl⟩|⟨h1,h2,rfl,rfl⟩|⟨h1,rfl,rfl⟩
 .rw[yV ⟨h1,h2⟩]
 .rw[yz J,yV ⟨h1,h2⟩]
 .rw[yz J,yz J,yV ⟨h1,h2⟩]
 .rw[yz J,yz J,yz J,yz J]
def MH{v:Nat}(h:l.length<n):qP l n v=0:=by rw[qP,yV h]

def px(l:List UInt8)(n v:Nat):qP l n v<=l.length/\qP l n v<=n:=by
 unfold qP;repeat' split
 all_goals omega
def U7(l:List UInt8):xY l<=l.length/\xY l<=4:=by
 have h:=λn v=>px l n v
 unfold xY;simp only[];split
 .exact h 4 _
 split
 .exact⟨(h 3 _).1,by have:=(h 3 ((l.headD 0).toNat - 224)).2;omega⟩
 split
 .exact⟨(h 2 _).1,by have:=(h 2 ((l.headD 0).toNat - 192)).2;omega⟩
 split
 .omega
 .exact⟨(h 1 _).1,by have:=(h 1 ((l.headD 0).toNat)).2;omega⟩
def qV(l:List UInt8):List (List UInt8)×Nat :=
 if h:l=[]\/xY l=0 then ([],0) else
  let r:=qV (l.drop (xY l))
  (l.take (xY l)::r.1,xY l+r.2)
 termination_by l.length
 decreasing_by
  simp only[not_or]at h;have:=yv.2 h.1;simp;omega
def kN:qV []=([],0):=by rw[qV];simp
def ZA(h:xY l=0):qV l=([],0):=by rw[qV];simp[h]
def jV(h0:l≠[])(h:xY l≠0):qV l=(l.take (xY l)::(qV (l.drop (xY l))).1,xY l+(qV (l.drop (xY l))).2):=by
 rw[qV,dif_neg (by simp[h0,h])]
variable{b0 b1 b2 b3 k:Nat}
def b8(l:List UInt8):Nat×Nat:=jI l.length (l.getD 0 0).toNat (l.getD 1 0).toNat (l.getD 2 0).toNat (l.getD 3 0).toNat
def Qt(c:UInt8):ZW c=decide (128<=c.toNat/\c.toNat<=191):=by
 by_cases h:ZW c=true
 .have:=(BI c).1 h;rw[h,decide_eq_true J]
 .have a:ZW c=false:=by simpa using h
  rw[a,eq_comm,decide_eq_false_iff_not];intro hc;exact h ((BI c).2 J)
abbrev XJ(v:Nat):Prop:=v<=1114111/\(v<55296\/57343<v)
def Pc(v:Nat):dH (v:Int)=true ↔ XJ v:=by
 unfold dH XJ;simp only[vJ];omega
def XI(l t:List UInt8)(n v x:Nat)(c:n<=l.length)(b:l.tail.take (n - 1)=t)(hx:t.all ZW=true->zb9 t v=x) :
  qP l n v=if t.all ZW=true/\least n<=(x:Int)/\XJ x then n else 0:=by
 unfold qP;rw[yz J,b];by_cases h1:t.all ZW=true
 .have h0:¬(t.all ZW=false):=by rw[h1];simp
  rw[hx h1,yz h0];by_cases h2:least n<=(x:Int)/\XJ x
  .have r1:¬((x:Int)<least n\/dH (x:Int)=false):=by
    rintro(a|a)
    .omega
    .rw[(Pc x).2 h2.2]at a;cases a
   rw[yz r1,yV ⟨h1,h2⟩]
  .have r1:(x:Int)<least n\/dH (x:Int)=false:=by
    by_cases a:least n<=(x:Int)
    .refine .inr ?_;rw[<-VG,Pc];exactλh=>h2 ⟨a,h⟩
    .exact .inl J
   rw[yV r1,yz (λh=>h2 h.2)]
 .have h0:t.all ZW=false:=by simpa using h1
  rw[yV h0,yz (λh=>h1 h.1)]
def dN1(h:b0<128):jI n b0 b1 b2 b3=(b0,1):=by rw[jI,yV h]
def xag(h:(128<=b0/\b0<192)\/248<=b0):jI n b0 b1 b2 b3=(65533,1):=by
 rw[jI,yz J,yz J,yz J,yz J]
def dN2(h:192<=b0/\b0<224) :
  jI n b0 b1 b2 b3=if (1<n/\128<=b1/\b1<=191)/\128<=64*(b0 - 192)+(b1 - 128)then (64*(b0 - 192)+(b1 - 128),2)else (65533,1):=by
 rw[jI,yz J];by_cases h1:1<n/\128<=b1/\b1<=191
 .have e:b0 % 32*64+b1 % 64=64*(b0 - 192)+(b1 - 128):=by omega
  rw[yV J,e];by_cases h2:128<=64*(b0 - 192)+(b1 - 128)
  .rw[yV h2,yV ⟨h1,h2⟩]
  .rw[yz h2,yz (λa=>h2 a.2)]
 .by_cases b:b0 / 32=6/\1<n/\b1 / 64=2
  .exfalso;omega
  .rw[yz b,yz J,yz J,yz (λa=>h1 a.1)]
def dN3(h:224<=b0/\b0<240) :
  jI n b0 b1 b2 b3=if (2<n/\(128<=b1/\b1<=191)/\128<=b2/\b2<=191)/\2048<=64*(64*(b0 - 224)+(b1 - 128))+(b2 - 128)/\XJ (64*(64*(b0 - 224)+(b1 - 128))+(b2 - 128))then (64*(64*(b0 - 224)+(b1 - 128))+(b2 - 128),3)else (65533,1):=by
 rw[jI,yz J,yz J];by_cases h1:2<n/\(128<=b1/\b1<=191)/\128<=b2/\b2<=191
 .have e:b0 % 16*4096+b1 % 64*64+b2 % 64=64*(64*(b0 - 224)+(b1 - 128))+(b2 - 128):=by omega
  rw[yV J,e];generalize 64*(64*(b0 - 224)+(b1 - 128))+(b2 - 128)=v;by_cases h2:2048<=v/\XJ v
  .rw[yV Ls,yV ⟨h1,h2⟩]
  .rw[yz Ls,yz (λa=>h2 a.2)]
 .by_cases b:b0 / 16=14/\(1<n/\b1 / 64=2)/\2<n/\b2 / 64=2
  .exfalso;omega
  .rw[yz b,yz J,yz (λa=>h1 a.1)]
def dN4(h:240<=b0/\b0<248) :
  jI n b0 b1 b2 b3=if (3<n/\(128<=b1/\b1<=191)/\(128<=b2/\b2<=191)/\128<=b3/\b3<=191)/\65536<=64*(64*(64*(b0 - 240)+(b1 - 128))+(b2 - 128))+(b3 - 128)/\XJ (64*(64*(64*(b0 - 240)+(b1 - 128))+(b2 - 128))+(b3 - 128))then (64*(64*(64*(b0 - 240)+(b1 - 128))+(b2 - 128))+(b3 - 128),4)else (65533,1):=by
 rw[jI,yz J,yz J,yz J];by_cases h1:3<n/\(128<=b1/\b1<=191)/\(128<=b2/\b2<=191)/\128<=b3/\b3<=191
 .have e:b0 % 8*262144+b1 % 64*4096+b2 % 64*64+b3 % 64=64*(64*(64*(b0 - 240)+(b1 - 128))+(b2 - 128))+(b3 - 128):=by omega
  rw[yV J,e];generalize 64*(64*(64*(b0 - 240)+(b1 - 128))+(b2 - 128))+(b3 - 128)=v;by_cases h2:65536<=v/\XJ v
  .rw[yV Ls,yV ⟨h1,h2⟩]
  .rw[yz Ls,yz (λa=>h2 a.2)]
 .by_cases b:b0 / 8=30/\(1<n/\b1 / 64=2)/\(2<n/\b2 / 64=2)/\3<n/\b3 / 64=2
  .exfalso;omega
  .rw[yz b,yz (λa=>h1 a.1)]
def BL(l:List UInt8):Prop:=(xY l=0/\b8 l=(65533,1))\/(xY l=(b8 l).2/\0<xY l/\¬((b8 l).1=65533/\(b8 l).2=1))
def Z5{a:UInt8}{r:List UInt8}(hd:b8 (a::r)=(65533,1))(hs:xY (a::r)=0)(_h:128<=a.toNat):BL (a::r) := .inl ⟨hs,hd⟩
def zf5{a:UInt8}{r:List UInt8}{v:Nat}(hd:b8 (a::r)=(v,k))(hs:xY (a::r)=k)(h:1<k):BL (a::r) :=
 .inr ⟨by rw[hs,hd],J,by rw[hd];intro q;have:=q.2;simp at this;omega⟩
def Jv(a:UInt8)(r:List UInt8):BL (a::r):=by
 have e:(a::r).headD 0=a:=rfl;have ha:=a.toNat_lt;by_cases c1:a.toNat<128
 .have hd:b8 (a::r)=(a.toNat,1):=dN1 (b0:=a.toNat) c1;have hs:xY (a::r)=1:=by
   rw[ku (l:=a::r) (n:=1) (v:=a.toNat) (.inr (.inr (.inr ⟨by rw[e];omega,rfl,by rw[e]⟩))),
    XI (a::r) [] 1 a.toNat a.toNat zZ zZ (λ_=>rfl),yV ⟨rfl,by simp[least],by unfold XJ;omega⟩]
  exact .inr ⟨by rw[hs,hd],J,by rw[hd];intro q;have:=q.1;simp at this;omega⟩
 by_cases c2:a.toNat<192\/248<=a.toNat
 .refine Z5 (xag (b0:=a.toNat) J) ?_ J;unfold xY;rw[e,yz J,yz J,yz J,yV J]
 by_cases c3:a.toNat<224
 .have hD:b8 (a::r)=_:=dN2 (n:=(a::r).length) (b0:=a.toNat) (b1:=((a::r).getD 1 0).toNat) (b2:=((a::r).getD 2 0).toNat) (b3:=((a::r).getD 3 0).toNat) (show 192<=a.toNat/\a.toNat<224 by omega);have hS:xY (a::r)=qP (a::r) 2 (a.toNat - 192):=ku (l:=a::r) (n:=2) (v:=a.toNat - 192) (.inr (.inr (.inl ⟨by rw[e];omega,by rw[e];omega,rfl,by rw[e]⟩)));match r,hD,hS with
  |[],hD,hS=>exact Z5 GJ GQ J
  |b::r,hD,hS =>
   have f:(a::b::r).getD 1 0=b:=rfl;rw[f]at hD;rw[XI _ [b] 2 _ (64*(a.toNat - 192)+(b.toNat - 128)) zZ zZ (λ_=>rfl)]at hS;simp only[vh,TS,zzx,zx,Qt,vJ]at hS;have hb:=b.toNat_lt;by_cases h:(128<=b.toNat/\b.toNat<=191)/\128<=(64*(a.toNat - 192)+(b.toNat - 128))
   .exact zf5 (by rw[hD,yV ⟨⟨zZ,h.1⟩,h.2⟩]) (by rw[hS,yV ⟨h.1,by simp[least];omega,by unfold XJ;omega⟩]) zR
   .exact Z5 (by rw[hD,yz (λq=>h ⟨q.1.2,q.2⟩)]) (by rw[hS,yz (λq=>h ⟨q.1,by have:=q.2.1;simp[least]at this;omega⟩)]) J
 by_cases c4:a.toNat<240
 .have hD:b8 (a::r)=_:=dN3 (n:=(a::r).length) (b0:=a.toNat) (b1:=((a::r).getD 1 0).toNat) (b2:=((a::r).getD 2 0).toNat) (b3:=((a::r).getD 3 0).toNat) (show 224<=a.toNat/\a.toNat<240 by omega);have hS:xY (a::r)=qP (a::r) 3 (a.toNat - 224):=ku (l:=a::r) (n:=3) (v:=a.toNat - 224) (.inr (.inl ⟨by rw[e];omega,by rw[e];omega,rfl,by rw[e]⟩));match r,hD,hS with
  |[],hD,hS=>exact Z5 GJ GQ J
  |[b],hD,hS=>exact Z5 GJ GQ J
  |b::c::r,hD,hS =>
   have f:(a::b::c::r).getD 1 0=b:=rfl;have g:(a::b::c::r).getD 2 0=c:=rfl;rw[f,g]at hD;rw[XI _ [b,c] 3 _ (64*(64*(a.toNat - 224)+(b.toNat - 128))+(c.toNat - 128)) zZ zZ (λ_=>rfl)]at hS;simp only[vh,TS,zzx,zx,Qt,vJ]at hS;have hb:=b.toNat_lt;have hc:=c.toNat_lt;generalize 64*(64*(a.toNat - 224)+(b.toNat - 128))+(c.toNat - 128)=v at hD hS;by_cases h:((128<=b.toNat/\b.toNat<=191)/\(128<=c.toNat/\c.toNat<=191))/\2048<=v/\XJ v
   .exact zf4
   .exact zj4
 .have hD:b8 (a::r)=_:=dN4 (n:=(a::r).length) (b0:=a.toNat) (b1:=((a::r).getD 1 0).toNat) (b2:=((a::r).getD 2 0).toNat) (b3:=((a::r).getD 3 0).toNat) (show 240<=a.toNat/\a.toNat<248 by omega);have hS:xY (a::r)=qP (a::r) 4 (a.toNat - 240):=ku (l:=a::r) (n:=4) (v:=a.toNat - 240) (.inl ⟨by rw[e];omega,by rw[e];omega,rfl,by rw[e]⟩);match r,hD,hS with
  |[],hD,hS=>exact Z5 GJ GQ J
  |[b],hD,hS=>exact Z5 GJ GQ J
  |[b,c],hD,hS=>exact Z5 GJ GQ J
  |b::c::d::r,hD,hS =>
   have f:(a::b::c::d::r).getD 1 0=b:=rfl;have g:(a::b::c::d::r).getD 2 0=c:=rfl;have i:(a::b::c::d::r).getD 3 0=d:=rfl;rw[f,g,i]at hD;rw[XI _ [b,c,d] 4 _ (64*(64*(64*(a.toNat - 240)+(b.toNat - 128))+(c.toNat - 128))+(d.toNat - 128)) zZ zZ (λ_=>rfl)]at hS;simp only[vh,TS,zzx,zx,Qt,vJ]at hS;have hb:=b.toNat_lt;have hc:=c.toNat_lt;have hd:=d.toNat_lt;generalize 64*(64*(64*(a.toNat - 240)+(b.toNat - 128))+(c.toNat - 128))+(d.toNat - 128)=v at hD hS;by_cases h:((128<=b.toNat/\b.toNat<=191)/\(128<=c.toNat/\c.toNat<=191)/\(128<=d.toNat/\d.toNat<=191))/\65536<=v/\XJ v
   .exact zf4
   .exact zj4
def Al(l:List UInt8):Lib.decodeL l=b8 l:=Lib.decodeL_N l
def Pe:∀(n:Nat) (l:List UInt8),l.length<=n->(Dy n l=true ↔ (qV l).2=l.length)
 | 0,l,h=>by
  have:l=[]:=zN J;subst this;simp[Dy,kN]
 |n+1,[],_=>by simp[Dy,kN]
 |n+1,a::r,h=>by
  have b:a::r≠[]:=zZ;rw[Dy,yz b,Al];rcases Jv a r with⟨h1,h2⟩|⟨h1,h2,c⟩
  .rw[h2,yV ⟨rfl,rfl⟩,ZA h1];simp
  .have d:=(U7 (a::r)).1;rw[yz c,<-h1,jV b J,Pe n _ (by simp;simp at h;omega)];simp only[yh];omega
def Jw(l:List UInt8):zpf l=true ↔ (qV l).2=l.length:=Pe l.length l (Y _)
def xz(l:List UInt8):List Int :=
 if h:l=[]\/xY l=0 then []else ((b8 l).1:Int)::xz (l.drop (xY l))
termination_by l.length
decreasing_by
 have h1:l≠[]:=λe=>h (.inl e)
 have h2:xY l≠0:=λe=>h (.inr e)
 have:=yv.2 h1;simp;omega
def jN:xz []=[]:=by rw[xz];simp
def jO(h0:l≠[])(h:xY l≠0):xz l=((b8 l).1:Int)::xz (l.drop (xY l)):=by
 rw[xz,dif_neg (by rintro(q|q)<;>contradiction)]
def G0:∀(n:Nat) (l:List UInt8),l.length<=n->(xz l).map yA=(qV l).1
 | 0,l,h=>by
  have:l=[]:=zN J;subst this;exact Aq
 |n+1,[],_=>Aq
 |n+1,a::r,h=>by
  have b:a::r≠[]:=zZ;rcases Jv a r with⟨h1,h2⟩|⟨h1,h2,c⟩
  .rw[ZA h1,xz,dif_pos (.inr h1)];rfl
  .rw[jO b J,jV b J,vE,G0 n _ (by simp;simp at h;omega)];have he:=Lib.encode_decode (a::r) b (by rw[Al];exact c);rw[Al]at he;rw[he,h1]
def Am(s:ByteArray)(i:Nat)(hi:i<s.size):ja s i=b8 (s.data.toList.drop i):=by
 rw[Lib.decode_at];unfold b8;have e:∀k,s.get! (i+k)=(s.data.toList.drop i).getD k 0:=λk=>by
  rw[ze,TR];by_cases a:i+k<s.size
  .rw[zk (by simpa using a)];show s.data[i+k]! = _;rw[getElem!_pos s.data (i+k) (by simpa using a)];simp
  .rw[qT yJ];show s.data[i+k]! = _;rw[getElem!_neg s.data (i+k) (by simpa using a)];rfl
 have b:=e 0;rw[Ej]at b;rw[b,e 1,e 2,e 3];simp
def YR(s:ByteArray):∀(fuel pos:Nat),s.size - pos<=fuel->pos<=s.size->(qV (s.data.toList.drop pos)).2=s.size - pos->Dx s fuel pos=(qV (s.data.toList.drop pos)).1.length /\
   ∀acc,V9 s fuel pos acc=acc++((xz (s.data.toList.drop pos)).map (yb .i32)).toArray
 | 0,pos,h,hp,hv=>by
  have f:s.data.toList.drop pos=[]:=yI yJ;rw[f,kN,jN];exact⟨rfl,λacc=>by simp[V9]⟩
 |fuel+1,pos,h,hp,hv=>by
  by_cases b:pos<s.size
  .have c:s.data.toList.drop pos≠[]:=(by simp;omega);have hd:=Am s pos b;have e:BL (s.data.toList.drop pos):=by
    cases i:s.data.toList.drop pos with
    |nil=>exact absurd i c
    |cons a r=>exact Jv a r
   rcases e with⟨h1,h2⟩|⟨h1,h2,j⟩
   .rw[ZA h1]at hv;simp at hv;omega
   .have d:=(U7 (s.data.toList.drop pos)).1;simp only[yh,vG]at d;rw[jV c J]at hv;have hdd:(s.data.toList.drop pos).drop (xY (s.data.toList.drop pos))=s.data.toList.drop (pos+xY (s.data.toList.drop pos)):=(by rw[Xy]);rw[hdd]at hv;have g:=YR s fuel (pos+xY (s.data.toList.drop pos)) J J (by simp at hv;omega);rw[jV c J,jO c J,hdd];constructor
    .rw[Dx,yV b,hd,<-h1,g.1];simp;omega
    .intro acc;rw[V9,yV b,hd];dsimp only;rw[<-h1,g.2];simp
  .have f:s.data.toList.drop pos=[]:=yI yJ;rw[f,kN,jN];exact⟨by rw[Dx,yz b];rfl,λacc=>by rw[V9,yz b];simp⟩
variable{m:Nat}
def Pl{v:Nat}(h:n<=m)(hn:n<=l.length)(h1:1<=n):qP (l.take m) n v=qP l n v:=by
 have b:¬(l.take m).length<n:=WS;have c:¬l.length<n:=J;have d:(l.take m).tail.take (n - 1)=l.tail.take (n - 1):=by
  cases l with
  |nil=>simp
  |cons a t =>
   cases m with
   |zero=>omega
   |succ m=>simp only[List.take_succ_cons,List.tail_cons,List.take_take];rw[Nat.min_eq_left J]
 unfold qP;rw[yz b,yz c,d]
def An(l:List UInt8)(n v:Nat):qP l n v=0\/(qP l n v=n/\n<=l.length):=by
 unfold qP;split
 .exact .inl rfl
 split
 .exact .inl rfl
 split
 .exact .inl rfl
 .exact .inr ⟨rfl,J⟩
def Ao(h0:xY l≠0)(h:xY l<=m):xY (l.take m)=xY l:=by
 have d:∀k,1<=k->(l.take k).headD 0=l.headD 0:=λk g=>by
  cases l with
  |nil=>simp
  |cons a t =>
   cases k with
   |zero=>omega
   |succ k=>simp
 have key:∀n v,1<=n->xY l=qP l n v->(xY (l.take m)=qP (l.take m) n v)->xY (l.take m)=xY l:=λn v h1 b c=>by
  rcases An l n v with q|⟨q1,q2⟩
  .rw[b,q]at h0;exact absurd rfl h0
  .rw[c,b,Pl (by rw[b,q1]at h;exact h) q2 h1]
 have hm:1<=m:=J;have hd:=d m hm;have e:∀n v,_:=λn v=>@ku l n v
 have e':∀n v,_:=λn v=>@ku (l.take m) n v
 have f:=(l.headD 0).toNat_lt;by_cases c1:240<=(l.headD 0).toNat/\(l.headD 0).toNat<248
 .exact key 4 _ zR (ku (.inl ⟨c1.1,c1.2,rfl,rfl⟩)) (ku (.inl ⟨by rw[hd];exact c1.1,by rw[hd];exact c1.2,rfl,by rw[hd]⟩))
 by_cases c2:224<=(l.headD 0).toNat/\(l.headD 0).toNat<240
 .exact key 3 _ zR (ku (.inr (.inl ⟨c2.1,c2.2,rfl,rfl⟩))) (ku (.inr (.inl ⟨by rw[hd];exact c2.1,by rw[hd];exact c2.2,rfl,by rw[hd]⟩)))
 by_cases c3:192<=(l.headD 0).toNat/\(l.headD 0).toNat<224
 .exact key 2 _ zR (ku (.inr (.inr (.inl ⟨c3.1,c3.2,rfl,rfl⟩)))) (ku (.inr (.inr (.inl ⟨by rw[hd];exact c3.1,by rw[hd];exact c3.2,rfl,by rw[hd]⟩))))
 by_cases c4:(l.headD 0).toNat<128
 .exact key 1 _ zR (ku (.inr (.inr (.inr ⟨c4,rfl,rfl⟩)))) (ku (.inr (.inr (.inr ⟨by rw[hd];exact c4,rfl,by rw[hd]⟩))))
 .exfalso;apply h0;unfold xY;dsimp only;rw[yz c1,yz c2,yz c3,yV J]
def Pm:∀(n:Nat) (l:List UInt8),l.length<=n->qV (l.take (qV l).2)=qV l
 | 0,l,h=>by
  have:l=[]:=zN J;subst this;simp
 |n+1,l,h=>by
  by_cases a:l=[]
  .subst a;simp
  by_cases h0:xY l=0
  .rw[ZA h0];simp[kN]
  .have i:=(U7 l).1;have d:=Pm n (l.drop (xY l)) yJ;have c:=jV a h0;obtain⟨m,hm⟩:=zr ((qV (l.drop (xY l))).2);rw[hm]at d c;rw[c];dsimp only;have hs:xY (l.take (xY l+m))=xY l:=Ao h0 J;have b:l.take (xY l+m)≠[]:=by
    intro e;have h1:=congrArg xD e;rw[uK]at h1;have:=yv.2 a;rw[yF]at h1;omega
   rw[jV b J,hs];have f:(l.take (xY l+m)).take (xY l)=l.take (xY l):=(by rw[List.take_take,Nat.min_eq_left J]);have g:(l.take (xY l+m)).drop (xY l)=(l.drop (xY l)).take m:=by
    rw[List.drop_take,D9]
   rw[f,g,d,hm]
def zbz:∀(n:Nat) (l:List UInt8),l.length<=n->(qV l).2<=l.length
 | 0,l,h=>by
  have:l=[]:=zN J;subst this;simp[kN]
 |n+1,l,h=>by
  by_cases a:l=[]
  .subst a;simp[kN]
  by_cases h0:xY l=0
  .rw[ZA h0];simp
  .have b:=(U7 l).1;have c:=zbz n (l.drop (xY l)) yJ;rw[jV a h0];simp at c|-;omega
def Pn(s:ByteArray)(k:Nat)(h:(qV s.data.toList).2=k):Lib.runeCount (s.extract 0 k)=(qV s.data.toList).1.length:=by
 have e:(s.extract 0 k).data.toList=s.data.toList.take k:=by rw[fH]
 have c:=Pm _ s.data.toList (Y _);rw[h]at c;have a:=zbz _ s.data.toList (Y _);rw[h,vG]at a;have b:(s.extract 0 k).size=k:=Wk;have:=(YR (s.extract 0 k) (s.extract 0 k).size 0 J J (by rw[qR,e,c,h,b];omega)).1;rw[qR,e,c]at this;exact this
def Po(s:ByteArray)(i:Nat)(hi:i<s.size):ja (s.extract i s.size) 0=b8 (s.data.toList.drop i):=by
 have a:(s.extract i s.size).size=s.size - i:=Wk;rw[Am _ 0 J,fI,toList_mk,qR]
variable{W:z8}
def pq(h:du 3 4 w)(hb:zP w W):du 3 4 W:=ydu
def Mm(b:Nat)(w:z8):(zA (.iface 72 (b,0)) 20 72 true).run prog w = .ok (.tuple #[(b,0),.bool true]) w:=xV
def Pp(w:z8):(zA .nilIface 20 72 true).run prog w = .ok (.tuple #[.pointer none,.bool false]) w:=xV
def Ap(A B:Nat)(w:z8):CallsD prog 76 #[(A,0),(B,0)] .returning w λe c w'=>e = .returned (.tuple #[])/\c = .returning/\w'=w:=by
 refine EL func76 rfl λa cs b=>?_
 have ha:=Pp;apply wpS_seq;apply wpS_region;simp[wpOpsS,go_sem,recoverD,b,ha,ntmps76,Fq];refine wpS_of_wp ?_;go_wp2;cases a;simp_all [bodyPostS,yN,results76]
def Yj(A B b:Nat)(u v:Value)(a:List Eg)(w:z8)(hA:zu w A 0 u)(c:w.frozen? (A,0)=false)(hB:zu w B 0 v)(f:w.frozen? (B,0)=false)(hAB:B≠A) :
  CallsD prog 76 #[(A,0),(B,0)] (.panicking ({ v := .iface 72 (b,0),recovered:=false }::a)) w λe h w' =>
   e = .returned (.tuple #[])/\h = .panicking ({ v := .iface 72 (b,0),recovered:=true }::a)/\w'=(w.setCell (A,0) (.slice none 0 0)).setCell (B,0) (.iface 72 (b,0)):=by
 have ha:=Mm b;refine EL func76 rfl λi cs g=>?_
 apply wpS_seq;apply wpS_region;simp[wpOpsS,go_sem,recoverD,g,ha,ntmps76,Fq];refine wpS_of_wp ?_;simp only[xl,zX,QL,List.set_cons_zero,List.set_cons_succ,List.append_toArray,xX,xK,Act.put];have d:zu (w.setCell (zU A 0) (.slice none 0 0)) B 0 v:=zvu;go_wp2;simp[bodyPostS,yN,results76]
variable{A B c d p:Nat}{u:Value}{w':z8}
def xw(l:List UInt8):Except (Nat×Nat) Fo :=
 if 1000<l.length then .error (1,0)
 else if (qV l).2<l.length then .error (2,(qV l).1.length)
 else match gu (xz l)with |.error e => .error e |.ok x => .ok x.1
def yox(r:Except (Nat×Nat) Fo)(w:z8)(e:xU)(w':z8):Prop :=
 (match r with
  |.error (n,a)=>∃b,e = .returned (.tuple #[.slice none 0 0,.iface 72 (.pointer (some ⟨b,0,none⟩))])/\zu w' b 0 n/\zu w' b 1 a
  |.ok f=>(∃a c vs,e = .returned (.tuple #[.slice a f.len c,.nilIface])/\U4 (w:Nat) (w':Nat) w' a vs/\yd (w:Nat) (w':Nat) w' vs f)/\f.yT=true)/\zP w w'
structure kR(A:Nat)(u v:Value)(w:z8):Prop where
 c0:zu w A 0 u
 c1:zu w (A+1) 0 v
 z0:w.frozen? (A,0)=false
 z1:w.frozen? (A+1,0)=false
def kR.keep(h:kR A u v w)(hb:∀k,k=A\/k=A+1->w'.heap[k]? = w.heap[k]?):kR A u v w' :=
 ⟨(yE (a:=(A,0)) (hb A (.inl rfl))).trans h.c0,(yE (a:=(A+1,0)) (hb _ (.inr rfl))).trans h.c1,
  (zV (a:=(A,0)) (hb A (.inl rfl))).trans h.z0,(zV (a:=(A+1,0)) (hb _ (.inr rfl))).trans h.z1⟩
def kR.lt(h:kR A u v w):A+1<(w:Nat):=X w _ h.c1
def kR.below(h:kR A u v w)(hb:zP w w'):kR A u v w' :=
 h.keep λk a=>hb.block k (by have:=h.lt;omega)
def kR.but(h:kR A u v w)(hb:xI p w w')(hp:A+1<p):kR A u v w' :=
 h.keep λk a=>hb.block k (by have:=h.lt;omega) J
def kR.VX{x:Value}(h:kR A u v w):kR A x v (w.setCell (A,0) x) :=
 ⟨AE,MJ,A5,AQ⟩
def kR.Mn{x:Value}(h:kR A u v w):kR A u x (w.setCell (A+1,0) x) :=
 ⟨by rw[zo,yz zZ];exact h.c0,by rw[zo,yV rfl,h.c1];rfl,A5,AQ⟩
def xe.yxb{a:Option yM}(h:xe p rs i d w)(hA:zu w A 0 (.slice a n c))(m:A≠p)(u:Value):xe p rs i d (w.setCell (A,0) u):=by
 obtain⟨⟨g,cap,h0,h1,h2,r,o⟩,s,t,h7,h8,v,b,f,l⟩:=h;have ne:∀k:Nat,¬(⟨A,0,none⟩:yM)=⟨p,k,none⟩:=λk e=>m (congrArg qd e)
 refine⟨⟨g,cap,by rw[zo,yz (ne 0)];exact h0,h1,h2,r,λj q=>?_⟩,by rw[zo,yz (ne 1)];exact s,by rw[zo,yz (ne 2)];exact t,AK,AD,v,b,f,l⟩;rw[zo,yz (λe=>by have:=o j q;rw[<-e,hA]at this;cases this)];exact o j q
def vr{a:z8}{b:Nat}{x:Value}(h:yD B a w)(hb:B<=b):yD B a (w.setCell (b,j) x) :=
 ⟨h.os,h.tape,h.output,zj h.size ZH,λk c=>(yZ _ _ _ _ (by show k≠b;omega)).trans (h.block k c)⟩
def zby(l:List UInt8):∀r∈xz l,0<=r:=by
 have key:∀(n:Nat) (l:List UInt8),l.length<=n->∀r∈xz l,0<=r:=by
  intro n;induction n with
  |zero =>
   intro l h r hr;have:l=[]:=zN J;subst this;rw[jN]at hr;cases hr
  |succ n a =>
   intro l h r hr;by_cases h0:l=[]\/xY l=0
   .rw[xz,dif_pos h0]at hr;cases hr
   .have h1:l≠[]:=λe=>h0 (.inl e)
    have h2:xY l≠0:=λe=>h0 (.inr e)
    rw[jO h1 h2]at hr;rcases yX.1 hr with q|q
    .omega
    .exact a _ zqq r q
 exact key _ l (Y _)
def Uh(l:List UInt8):(xz l).length<=l.length:=by
 have key:∀(n:Nat) (l:List UInt8),l.length<=n->(xz l).length<=l.length:=by
  intro n;induction n with
  |zero =>
   intro l h;have:l=[]:=zN J;subst this;rw[jN];simp
  |succ n a =>
   intro l h;by_cases h0:l=[]\/xY l=0
   .rw[xz,dif_pos h0];simp
   .have h1:l≠[]:=λe=>h0 (.inl e)
    have h2:xY l≠0:=λe=>h0 (.inr e)
    rw[jO h1 h2];have:=a (l.drop (xY l)) zqq;have:=yv.2 h1;simp at *;omega
 exact key _ l (Y _)
def Pr(w:z8)(hA:(w:Nat)=A):kR A (.slice none 0 0) .nilIface ((w.alloc (.cells #[.slice none 0 0] 68)).alloc (.cells #[.nilIface] 49)):=by
 have h1:(w.alloc (.cells #[.slice none 0 0] 68)).heap.size=A+1:=by simp[hA]
 have uo:A<(w.alloc (.cells #[.slice none 0 0] 68)).heap.size:=J;exact yb2
def pj(s:ByteArray)(w:z8)(hs:s.size<=9223372036854775807)(hT:du 3 4 w)(hN:qx w) :
  zC prog 39 #[.string s] w (yox (xw s.data.toList) w):=by
 have hmf:∀(fn:Fn) (first cap:Array Value) (w:z8),(uV fn first cap).run prog w = .ok (.func fn first cap) w:=λ_ _ _ _=>rfl
 have HT:=Z hT;have HNA:=Z hN;obtain⟨A,hA⟩:=zr (w:Nat);have HA:=Z hA;clear hT hN;by_cases T:1000<s.size
 .have h1:decide ((1000:Int)<(s.size:Int))=true:=by simp;omega
  have h2:decide (1000<s.size)=true:=yJ;have HR:=Z (show xw s.data.toList = .error (1,0)by unfold xw;rw[vG,yV T]);clear T;go_enter_defers func39,ntmps39;go_wp2;obtain⟨W,hW⟩:=zr (((w.alloc (.cells #[.slice none 0 0] 68)).alloc (.cells #[.nilIface] 49)).alloc (.cells #[.int .i64 1,.int .i64 0] 76));rw[hW];have l:kR A (.slice none 0 0) .nilIface W:=by
   rw[<-hW];exact(Pr w hA).below ((zv _ _).alloc (Y _) _)
  have OE:yD A w W:=by
   rw[<-hW,<-hA];exact((((zv _ _).alloc (Y _) _).alloc zZ _).alloc yJ _)
  have hc:=λi=>zf ((w.alloc (.cells #[.slice none 0 0] 68)).alloc (.cells #[.nilIface] 49)) #[.int .i64 1,.int .i64 0] 76 (0,0) i
  rw[hW,show((w.alloc (.cells #[.slice none 0 0] 68)).alloc (.cells #[.nilIface] 49)).heap.size=A+1+1 by simp[hA]]at hc;clear hW;obtain⟨v,V⟩:=zr (A+1+1);rw[V]at hc|-;clear V;refine qb (f:=76) (args:=#[(zU A 0),(zU (A+1) 0)]) zZ kL ?_;refine(Yj A (A+1) _ _ _ _ _ l.c0 l.z0 l.c1 l.z1 J).mono ?_;rintro e u' Vk ⟨rfl,rfl,rfl⟩;have b:=(l.VX (x := .slice none 0 0)).Mn (x := .iface 72 (zU v 0));have y:=b.c0;have B:=b.c1;simp[UA,Eu,yN,results39,go_sem,y,B];have hF:=HR.o;rw[hF];have neA:v≠A:=λe=>by have h1:=(hc 0);rw[e,l.c0]at h1;cases h1
  have neB:v≠A+1:=λe=>by have h1:=(hc 0);rw[e,l.c1]at h1;cases h1
  exact⟨⟨v,rfl,zgd,zd2⟩,by rw[HA.o];exact vr (vr OE J) J⟩
 .have h1:decide ((1000:Int)<(s.size:Int))=false:=by simp;omega
  have h2:decide (1000<s.size)=false:=yJ;go_enter_defers func39,ntmps39;have l:=Pr w hA;have xaf:yD A w ((w.alloc (.cells #[.slice none 0 0] 68)).alloc (.cells #[.nilIface] 49)):=by
   rw[<-hA];exact((zv _ _).alloc (Y _) _).alloc zZ _
  have xad:((w.alloc (.cells #[.slice none 0 0] 68)).alloc (.cells #[.nilIface] 49)).heap.size=A+1+1:=by simp[hA]
  obtain⟨W0,wo⟩:=zr ((w.alloc (.cells #[.slice none 0 0] 68)).alloc (.cells #[.nilIface] 49));rw[wo]at l xaf xad;have HW0:=Z wo;clear wo;obtain⟨I,hI⟩:=zr (A+1+1);have HI:=Z hI;have ub8:s.size<=1000:=J;go_wp2_with fail;clear hI;go_loopw [] (λwr=>∃k pre,k<=s.size/\wr.heap[I]? = some (.stringIter s k)/\yD A w wr/\kR A (.slice none 0 0) .nilIface wr/\qV s.data.toList=(pre++(qV (s.data.toList.drop k)).1,k+(qV (s.data.toList.drop k)).2)) (λwr=>s.size - wr.iterPos I)
  case atStart =>
   rw[HW0.o];refine⟨0,[],zQ _,?_,xaf.alloc J _,l.below ((zv _ _).alloc (Y _) _),zZ⟩;rw[<-HI.o,<-xad];exact ye9 W0 s 0
  case round =>
   obtain⟨k,pre,hk,hit,XB,b,O⟩:=hrel;obtain⟨HP,vfu,HB,HIT⟩:=hdd O b XB hit;have ub9:I<(wr:Nat):=(yO.1 hit).1;have hAI:A+1<I:=(by have:=HI.o;omega);by_cases uo:k<s.size
   .have hn:=Lib.run_next_any_at (P:=prog) wr I s k 0 hit uo;have hd:=Am s k uo;have KC:BL (s.data.toList.drop k):=by
     cases hl:s.data.toList.drop k with
     |nil=>have:=congrArg xD hl;simp at this;omega
     |cons a r=>exact Jv a r
    have HOK:=Z KC;have u:=vq0 wr I s k (k+(b8 (s.data.toList.drop k)).2) hit;have m:=Lib.below_iterAt XB (k:=I) J s (k+(b8 (s.data.toList.drop k)).2);have d:=b.keep (w':=wr.iterAt I s (k+(b8 (s.data.toList.drop k)).2)) (λj hj=>xrf _ _ _ _ _ J);obtain⟨pt,hpt⟩:=zr (b8 (s.data.toList.drop k));obtain⟨r,z⟩:=pt;rw[hd,hpt]at hn;rw[hpt]at u m d;dsimp only at hn u m d;obtain⟨W1,Ep⟩:=zr (wr.iterAt I s (k+z));rw[Ep]at hn u m d;have ubz:(W1:Nat)=(wr:Nat):=(by rw[<-Ep];exact vq1 _ _ _ _);have HPT:=Z hpt;have R:=Z (Tryz.utf8_DecodeRuneInString (s.extract k s.size) W1 (pq HT.o (by rw[HA.o];exact m)));have Jl:zpg (s.extract k s.size)=(r,z):=by
     unfold zpg;rw[yz Wk,Po s k uo,hpt]
    rw[Jl]at R;have k1:(k:Int)<=(s.size:Int):=J;have k2:decide ((k:Int)<0)=false:=zZ;clear hd KC XB b O hpt Ep Jl hit;rcases HOK.o with⟨h0,U⟩|⟨h0,PX,K⟩
    .rw[HPT.o]at U;obtain⟨rfl,rfl⟩:r=65533/\z=1:=(by cases U;exact⟨rfl,rfl⟩);have Qi:=ZA h0;have L:(qV s.data.toList).2=k:=(by rw[HP.o,Qi];rfl);have HCT:=Z (Pn s k L);have HR:=Z (show xw s.data.toList = .error (2,(qV s.data.toList).1.length) by
      unfold xw;rw[yz Gu,yV (by rw[vG,L];exact uo)])
     have Ar:=Z (λW=>Tryz.utf8_RuneCountInString (s.extract 0 k) W (by rw[He];omega));rw[HCT.o]at Ar;obtain⟨cnt,oJ⟩:=zr ((qV s.data.toList).1.length);rw[oJ]at HR Ar;clear U Qi L oJ h0 HCT;go_wp2_with fail;refine R.o.mono ?_;rintro e W2 ⟨rfl,D⟩;have M:=m.trans (D.mono J);have C:=d.below D;clear R;go_wp2_with fail;refine(Ar.o W2).mono ?_;rintro e W3 ⟨rfl,pos,rfl⟩;have t:=C.below ((zv (W2:Nat) W2).alloc (Y _) (.stringIter (s.extract 0 k) pos));have E:yD A w (W2.iter (s.extract 0 k) pos):=M.alloc (by have:=D.size;omega) _;obtain⟨W3,YW⟩:=zr (W2.iter (s.extract 0 k) pos);rw[YW];have we:kR A (.slice none 0 0) .nilIface W3:=(by rw[<-YW];exact t);rw[YW]at E;clear YW t M C m d u hn Ar;go_wp2;have H:=we.below ((zv (W3:Nat) W3).alloc (Y _) (.cells #[.int .i64 2,cnt] 76));have hA3:=we.lt;have G:yD A w (W3.alloc (.cells #[.int .i64 2,cnt] 76)):=E.alloc J _;have hc:=λi=>zf W3 #[.int .i64 2,cnt] 76 (0,0) i
     obtain⟨W4,Lc⟩:=zr (W3.alloc (.cells #[.int .i64 2,cnt] 76));rw[Lc]at H G hc|-;clear Lc;obtain⟨v,V⟩:=zr (W3:Nat);rw[V]at hc|-;clear V;refine qb (f:=76) (args:=#[(zU A 0),(zU (A+1) 0)]) zZ kL ?_;refine(Yj A (A+1) _ _ _ _ _ H.c0 H.z0 H.c1 H.z1 J).mono ?_;rintro e u' Vk ⟨rfl,rfl,rfl⟩;have b:=(H.VX (x := .slice none 0 0)).Mn (x := .iface 72 (zU v 0));have y:=b.c0;have B:=b.c1;simp[UA,Eu,yN,results39,go_sem,y,B];have hF:=HR.o;rw[hF];have neA:v≠A:=λe=>by have h1:=(hc 0);rw[e,H.c0]at h1;cases h1
     have neB:v≠A+1:=λe=>by have h1:=(hc 0);rw[e,H.c1]at h1;cases h1
     exact⟨⟨v,rfl,zgd,zd2⟩,by rw[HA.o];exact vr (vr G J) J⟩
    .have hz:xY (s.data.toList.drop k)=z:=(by rw[h0,HPT.o]);rw[HPT.o]at K;rw[hz]at PX;have hle:=(U7 (s.data.toList.drop k)).1;rw[hz]at hle;simp only[yh,vG]at hle;have gM:s.data.toList.drop k≠[]:=(by intro e;have:=congrArg xD e;simp at this;omega);have ZN:=jV gM J;rw[hz,Xy]at ZN;have V6:=Z (show qV s.data.toList=(pre++[(s.data.toList.drop k).take z]++(qV (s.data.toList.drop (k+z))).1,(k+z)+(qV (s.data.toList.drop (k+z))).2) by
      rw[HP.o,ZN];simp[kh])
     have xab:((r:Int)==65533)=false\/(r=65533/\((z:Int)==1)=false):=by
      by_cases hr:r=65533
      .right;refine⟨hr,?_⟩;simp;intro hz1;exact K ⟨hr,J⟩
      .left;simp;omega
     clear K ZN gM h0 hz;rcases xab with Vj|⟨rfl,Xq⟩;all_goals
      go_wp2_with fail;refine R.o.mono ?_;rintro e W2 ⟨rfl,D⟩;have M:=m.trans (D.mono J);have C:=d.below D;have xc0:W2.heap[I]? = some (.stringIter s (k+z)):=(D.block I J).trans u;clear R m d u hn D;go_wp2;go_roundw
      case rel=>exact⟨k+z,_,J,xc0,M,C,V6.o⟩
      case measure =>
       rw[jc xc0,jc HIT.o];omega
   .have hn:=yez (P:=prog) wr I s k 0 hit uo;have hks:k=s.size:=(by omega);have hz:s.data.toList.drop k=[]:=yI Gu;have L:(qV s.data.toList).2=s.size:=(by rw[O,hz,kN];exact hks);have Q:=(YR s s.size 0 J J (by rw[qR,L];omega)).2 #[];rw[qR]at Q;have HRT:=Z (show xw s.data.toList=match gu (xz s.data.toList)with |.error e => .error e |.ok x => .ok x.1 by
     unfold xw;rw[yz Gu,yz (by rw[vG,L];omega)])
    obtain⟨rs,Qf⟩:=zr (xz s.data.toList);have wC:rs.length<=1000:=(by have:=Uh s.data.toList;rw[vG,Qf]at this;omega);have vfj:=Z (show ∀r∈rs,0<=r by rw[<-Qf];exact zby _);rw[Qf]at Q HRT;have hcv:=run_runes_of_string (P:=prog) wr 9 137 21 s underlying9 underlying137 underlying21 (by rw[Q];simp;omega);have F:∃cp W,(convert 9 137 (.string s)).run prog wr = .ok (.slice (zU (wr:Nat) 0) rs.length cp) W/\zP wr W/\(wr:Nat)<W.heap.size/\rs.length<=cp/\cp<=maxLen/\∀j (h:j<rs.length),zu W (wr:Nat) j (.int .i32 rs[j]):=by
     have e2:(V9 s s.size 0 #[]).size=rs.length:=(by rw[Q];simp);rw[e2]at hcv;refine⟨_,_,hcv,(zv _ _).drew.alloc (Y _) _,zZ,grownCap_ge _ _ _ _,grownCap_le_maxLen _ _ _ _ dO,λj hj=>?_⟩;rw[show (wr:Nat)=wr.drew.heap.size from rfl,zf,Q,Array.getElem?_append_left (by simpa using hj)];simp[hj]
    obtain⟨cp,W,b7,OE,yaz,xc1,xc2,N⟩:=F;have HCE:=Z N;have d:=b.below OE;have m:=XB.trans (OE.mono J);clear hcv Q N O L hz Qf hks;have xc3:=X w _ (HNA.o 0 J);have Ec:(w:Nat)<=(W:Nat):=(by have:=m.size;omega);have KP:yD W W (W.alloc (.cells #[.slice (wr,0) rs.length cp,.int .i64 0,.int .i64 0] 185)):=(zv _ _).alloc (Y _) _;have LI:=λi=>zf W #[.slice (wr,0) rs.length cp,.int .i64 0,.int .i64 0] 185 (0,0) i
    have hsy:xe (W:Nat) rs 0 0 (W.alloc (.cells #[.slice (wr,0) rs.length cp,.int .i64 0,.int .i64 0] 185)) :=
     ⟨⟨(wr:Nat),cp,LI 0,xc1,xc2,yaz,λj hj=>(zc _ _ _ yaz).trans (HCE.o j hj)⟩,LI 1,LI 2,zZ,zZ,J,J,J,vfj.o⟩
    have yay:=d.below KP;have you:yD A w _:=m.trans (KP.mono J);go_wp2_with fail;obtain⟨Yk,hY⟩:=zr (W.alloc (.cells #[.slice (zU (wr:Nat) 0) rs.length cp,.int .i64 0,.int .i64 0] 185));rw[hY]at hsy yay you|-;have hpY:(W:Nat)<(Yk:Nat):=(by rw[<-hY];simp);obtain⟨p,hp⟩:=zr (W:Nat);rw[hp]at hsy hpY Ec|-;have hAp:A+1<p:=(by have:=d.lt;omega);have yv0:FX p Yk:=⟨HNA.o.below (by rw[HA.o];exact you),by have hg:0<(w:Nat):=xc3;omega⟩;have hM:=lX p rs 5 (Y _) false 0 Yk hsy yv0;obtain⟨rm,hrm⟩:=zr (gH rs 5 false 0);have HRM:=Z (show xw s.data.toList=match rm.then (λf i=>if zt rs i = -1 then (.ok (f,i):qm Fo)else .error (3,i))with |.error e => .error e |.ok x => .ok x.1 by rw[HRT.o,<-hrm];rfl);rw[hrm]at hM;have HM:=Z hM;clear hM hrm hY KP LI hsy d m hp b XB xc1 xc2 HCE HRT hn b7 hit vfu HB HIT HP xc3;refine HM.o.mono ?_;rintro e Xk ⟨hq,hbX⟩;have g:=yay.but hbX hAp;have yoq:yD A w Xk:=you.trans (hbX.low J J);cases rm with
    |error en =>
     obtain⟨en1,en2⟩:=en;obtain⟨v,rfl,f1,f2,_,_,_⟩:=hq;have S:=Z (show xw s.data.toList = .error (en1,en2)from HRM.o);go_wp2;refine qb (f:=76) (args:=#[(zU A 0),(zU (A+1) 0)]) zZ kL ?_;refine(Yj A (A+1) _ _ _ _ _ g.c0 g.z0 g.c1 g.z1 J).mono ?_;rintro e u' Vk ⟨rfl,rfl,rfl⟩;have b:=(g.VX (x := .slice none 0 0)).Mn (x := .iface 72 (zU v 0));have y:=b.c0;have B:=b.c1;simp[UA,Eu,yN,results39,go_sem,y,B];have hF:=S.o;rw[hF];have neA:v≠A:=λe=>by have h1:=f1;rw[e,g.c0]at h1;cases h1
     have neB:v≠A+1:=λe=>by have h1:=f1;rw[e,g.c1]at h1;cases h1
     exact⟨⟨v,rfl,zf0,zd3⟩,by rw[HA.o];exact vr (vr yoq J) J⟩
    |ok fj =>
     obtain⟨f,j⟩:=fj;obtain⟨⟨a,c,rfl,vs,Y9,Fl⟩,oD,hsX⟩:=hq;have Y8:=Z Y9;have G9:=Z Fl;have OC:=Z (show xw s.data.toList=match (if zt rs j = -1 then (.ok (f,j):qm Fo)else .error (3,j))with |.error e => .error e |.ok x => .ok x.1 from HRM.o);have g0:=g.c0;have g1:=g.z0;have I5:=Z (hsX.yxb g0 J (.slice a f.len c));have t:=g.VX (x := .slice a f.len c);have E:yD A w (Xk.setCell (zU A 0) (.slice a f.len c)):=vr yoq (Y _);have KJ:xh (Yk:Nat) (Xk:Nat) Xk (Xk.setCell (zU A 0) (.slice a f.len c)):=(vK (Y _)).put J 0 _;obtain⟨X4,hX4⟩:=zr (Xk.setCell (zU A 0) (.slice a f.len c));rw[hX4]at I5 t E KJ;have HX4:=Z hX4;have hYX:=hbX.size;clear hX4 Y9 Fl hsX g yoq HRM HM hbX;go_wp2_with fail;rw[HX4.o];refine(gB p rs j 0 X4 I5.o).mono ?_;rintro e X5 ⟨rfl,ZZ⟩;have wO:=Z (I5.o.below ZZ);have hA4:=t.lt;have n:=t.below ZZ;have G:=E.trans (ZZ.mono J);have Db:=KJ.below ZZ;by_cases he:zt rs j = -1
     .have S:=Z (show xw s.data.toList = .ok f by rw[OC.o,yV he]);rw[he];have q0:=n.c0;have q1:=n.c1;have q2:=n.z0;have q3:=n.z1;have Ke:=n.VX (x := .slice a f.len c);have PV:=Ke.Mn (x := .nilIface);have vff:yD A w ((X5.setCell (zU A 0) (.slice a f.len c)).setCell (zU (A+1) 0) .nilIface):=vr (vr G (Y _)) J;have iM:xh (Yk:Nat) (Xk:Nat) Xk ((X5.setCell (zU A 0) (.slice a f.len c)).setCell (zU (A+1) 0) .nilIface):=(Db.put J 0 _).put J 0 _;have q4:=Ke.c1;have q5:=Ke.z1;clear OC he HX4;go_wp2;refine qb (f:=76) (args:=#[(zU A 0),(zU (A+1) 0)]) zZ (by simp[go_sem]) ?_;refine(Ap A (A+1) _).mono ?_;rintro e u' Vk ⟨rfl,rfl,rfl⟩;have y:=PV.c0;have B:=PV.c1;simp[UA,Eu,yN,results39,go_sem,y,B];have hF:=S.o;rw[hF];exact⟨⟨⟨a,c,vs,rfl,Y8.o.keep iM (by rw[HA.o];omega) iM.1,yd.keep iM (by rw[HA.o];omega) iM.1 _ _ G9.o⟩,oD⟩,by rw[HA.o];exact vff⟩
     .have S:=Z (show xw s.data.toList = .error (3,j)by rw[OC.o,yz he]);have he':(zt rs j==-1)=false:=(by simpa using he);have q0:=wO.o.at_;clear OC he HX4;go_wp2_with fail;refine(YT p 3 j X5 wO.o.Ht).mono ?_;rintro e X6 ⟨⟨v,rfl,f1,f2,_,_,_⟩,gT⟩;have q:=n.below gT;have vfd:=G.trans (gT.mono (by have:=n.lt;omega));go_wp2;refine qb (f:=76) (args:=#[(zU A 0),(zU (A+1) 0)]) zZ kL ?_;refine(Yj A (A+1) _ _ _ _ _ q.c0 q.z0 q.c1 q.z1 J).mono ?_;rintro e u' Vk ⟨rfl,rfl,rfl⟩;have b:=(q.VX (x := .slice none 0 0)).Mn (x := .iface 72 (zU v 0));have y:=b.c0;have B:=b.c1;simp[UA,Eu,yN,results39,go_sem,y,B];have hF:=S.o;rw[hF];have neA:v≠A:=λe=>by have h1:=f1;rw[e,q.c0]at h1;cases h1
      have neB:v≠A+1:=λe=>by have h1:=f1;rw[e,q.c1]at h1;cases h1
      exact⟨⟨v,rfl,zf0,zd3⟩,by rw[HA.o];exact vr (vr vfd J) J⟩
inductive Out (σ:Type) where
 |go (b:Bool) (s:σ)
 |TD (c:List Eg) (s:σ)
def Out.then{σ:Type}(x:Out σ)(k:σ->Out σ):Out σ:=match x with |.go true s=>k s |.go false s => .go false s |.TD c s => .TD c s
def vx{σ:Type}(F:σ->Fo->Out σ):Fo->σ->Out σ
 |.nil,s => .go true s
 |.text _ r,s=>vx F r s
 |.hash r,s=>vx F r s
 |.put n a r,s=>(F s (.put n a .nil)).then λs=>vx F r s
 |.num n a r,s=>(F s (.num n a .nil)).then λs=>vx F r s
 |.br n a f o c bs r,s=>(F s (.br n a f o c bs .nil)).then λs=>(vx F bs s).then λs=>vx F r s
 |.xR _ _ m r,s=>(vx F m s).then λs=>vx F r s
def zbx:Fo->Option (Wd×Nat)
 |.put n a _=>some (n,a)
 |.num n a _=>some (n,a)
 |.br n a _ _ _ _ _=>some (n,a)
 |_=>none
def Fo.wf(N:Nat):Fo->Bool
 |.nil=>true
 |.text _ r=>r.wf N
 |.hash r=>r.wf N
 |.put n _ r=>decide (n.length<=4000001) && r.wf N
 |.num n _ r=>decide (n.length<=4000001) && r.wf N
 |.br n _ f _ _ bs r=>decide (n.length<=4000001) && decide (f<3) && bs.xW && decide (bs.len<=N) && bs.wf N && r.wf N
 |.xR k _ m r=>decide (k.length<=4000001) && m.yT && decide (m.len<=N) && m.wf N && r.wf N
def Fo.wt:Fo->Nat
 |.br _ _ _ _ _ bs _=>2+bs.len
 |_=>1
def Fo.cnt:Fo->Nat
 |.nil=>0
 |.text _ r=>r.cnt
 |.hash r=>r.cnt
 |.put _ _ r=>1+r.cnt
 |.num _ _ r=>1+r.cnt
 |.br _ _ _ _ _ bs r=>2+bs.len+bs.cnt+r.cnt
 |.xR _ _ m r=>m.cnt+r.cnt
def yok{σ:Type}(I:σ->Nat->z8->Prop)(room:Nat)(o:Out σ)(e:xU)(w':z8):Prop :=
 match o with
 |.go b s=>e = .returned (.bool b)/\I s room w'
 |.TD c s=>e = .panicked c/\I s room w'
structure At{σ:Type}(lo hi:Nat)(w0:z8)(v:Value)(I:σ->Nat->z8->Prop)(F:σ->Fo->Out σ):Prop where
 fn:∃k cap,v = .func (.func k) #[] cap/\(∀args w,(callFunc k args).run prog w = .ok (.enter k args) w) /\
  ∀s room W x u n a,I s (room+x.wt) W->yd lo hi w0 [u] x->x.wf 2000000=true->zbx x=some (n,a)->zC prog k (#[u,.agg #[zM n,.int .i64 (a:Nat)]]++cap) W (yok I room (F s x))
 keep:∀s b W,I s b W->xh lo hi w0 W
 below:∀s b W W',I s b W->zP W W'->I s b W'
 less:∀s b b' W,I s b W->b'<=b->I s b' W
section
variable (b:Nat) (t:Wd) (w:z8)
def Qh:(zA (.iface 210 (b,0)) 193 210 true).run prog w = .ok (.tuple #[(b,0),.bool true]) w:=xV
def XL:(zA (.iface 213 (b,0)) 193 213 true).run prog w = .ok (.tuple #[(b,0),.bool true]) w:=xV
def U8:(zA (.iface 199 (b,0)) 193 199 true).run prog w = .ok (.tuple #[(b,0),.bool true]) w:=xV
def Ps:(zA (.iface 206 (zM t)) 193 210 true).run prog w = .ok (.tuple #[.pointer none,.bool false]) w:=xV
def Pt:(zA (.iface 206 (zM t)) 193 213 true).run prog w = .ok (.tuple #[.pointer none,.bool false]) w:=xV
def Ah:(zA (.iface 206 (zM t)) 193 199 true).run prog w = .ok (.tuple #[.pointer none,.bool false]) w:=xV
def Ph:(zA (.iface 208 (.agg #[])) 193 210 true).run prog w = .ok (.tuple #[.pointer none,.bool false]) w:=xV
def Pw:(zA (.iface 208 (.agg #[])) 193 213 true).run prog w = .ok (.tuple #[.pointer none,.bool false]) w:=xV
def Aw:(zA (.iface 208 (.agg #[])) 193 199 true).run prog w = .ok (.tuple #[.pointer none,.bool false]) w:=xV
def Qw:(zA (.iface 213 (b,0)) 193 210 true).run prog w = .ok (.tuple #[.pointer none,.bool false]) w:=xV
def GB:(zA (.iface 199 (b,0)) 193 210 true).run prog w = .ok (.tuple #[.pointer none,.bool false]) w:=xV
def Uw:(zA (.iface 199 (b,0)) 193 213 true).run prog w = .ok (.tuple #[.pointer none,.bool false]) w:=xV
def ay:(zA (.iface 210 (b,0)) 193 213 true).run prog w = .ok (.tuple #[.pointer none,.bool false]) w:=xV
def Ik:(zA (.iface 210 (b,0)) 193 199 true).run prog w = .ok (.tuple #[.pointer none,.bool false]) w:=xV
def pg:(zA (.iface 213 (b,0)) 193 199 true).run prog w = .ok (.tuple #[.pointer none,.bool false]) w:=xV
end
variable{σ:Type}{w0:z8}
def yL(h:xh lo hi w0 W){b:Nat}(hc:zu w0 b j v)(h1:lo<=b)(h2:b<hi):zu W b j v:=(h.cell (p:=(b,j)) h1 h2).trans hc
def zbv{σ:Type}(lo hi:Nat)(w0:z8)(v:Value)(I:σ->Nat->z8->Prop)(F:σ->Fo->Out σ)(f:Fo):Prop :=
 ∀s room W a c vs,I s (room+f.cnt) W->U4 lo hi w0 a vs->yd lo hi w0 vs f->zC prog 81 #[.slice a f.len c,v] W (yok I room (vx F f s))
def pd{I:σ->Nat->z8->Prop}{F:σ->Fo->Out σ}(hy:At lo hi w0 v I F)(f:Fo)(hm:f.yT=true)(hw:f.wf 2000000=true)(hl:f.len<=2000000)
  (ih:∀m:Fo,zE m<zE f->m.yT=true->m.wf 2000000=true->m.len<=2000000->zbv lo hi w0 v I F m):zbv lo hi w0 v I F f:=by
 intro s l W a c vs hI Y9 N;obtain⟨⟨k,cap,rfl,ot,D⟩,H,U,K⟩:=hy;have Iy:=Z K;obtain⟨L,hL⟩:=zr f.len;rw[hL];have hvl:vs.length=L:=(yd.count f vs N hm).trans hL;obtain⟨R,hR⟩:=zr (vx F f s);rw[hR];obtain⟨HI0,Y8,G9,HM,HW,HR,z,d⟩:=OJ hI Y9 N hm hw hR D H;obtain⟨vfb,HIH,ig,HL⟩:=hdd U ih hvl hL;have hL2:L<=2000000:=J;clear hI Y9 N hm hw hR D H U K ih hvl hl hL;go_enter func81,ntmps81;go_wp2_with fail;go_loopw [14] (λiv wr=>∃i us xs r s1,iv = .int .i64 (i:Nat)/\i<=L/\yd lo hi w0 xs r/\r.yT=true/\r.wf 2000000=true/\us.length=i/\vs=us++xs/\i+r.len=L/\zE r<=zE f/\I s1 (l+r.cnt) wr/\vx F r s1=R) (λiv _=>L - (intOf iv).toNat)
 case atStart=>exact⟨0,[],vs,f,s,rfl,zQ _,G9.o,HM.o,HW.o,rfl,rfl,by have:=HL.o;omega,Y _,HI0.o,HR.o⟩
 case round =>
  obtain⟨i,us,xs,r,s1,rfl,hiL,uD,hmr,EB,QA,hvs,Z4,bh,hi1,Dk⟩:=hrel;obtain⟨HN,EJ,Af,Pz,HUS,Jo,OI⟩:=EY uD hmr EB hvs QA hi1 Dk;clear uD hmr EB hvs QA hi1 Dk;by_cases uo:i<L
  .obtain⟨x0,xt,Ij⟩:∃x0 xt,xs=x0::xt:=zyq;subst Ij;obtain⟨g,o,rfl,Fg,I7,A⟩:=Y8.o i (by have:=ig.o;omega);have il:vs[i]'(by have:=ig.o;omega)=x0:=zyy;rw[il]at A;have Vj:=yL (d.o _ _ wr Jo.o) A Fg I7;have k1:(i:Int)<(L:Int):=J;have k2:decide ((i:Int)<(L:Int))=true:=yJ;have Zb:=Z bh;clear A il bh;obtain⟨y,hy⟩:∃y,y=x0:=⟨_,rfl⟩;replace Pz:=Z (show vs=us++y::xt by rw[hy];exact Pz.o);clear hy;cases r with
   |nil =>
    have:=HN.o;cases this
   |xR k0 a0 B P=>have:=EJ.o;cases this
   |text t r =>
    obtain⟨vt,he,uD⟩:=HN.o;cases he;have e1:=Ps t;have e2:=Pt t;have e3:=Ah t;exact zgx
   |hash r =>
    obtain⟨vt,he,uD⟩:=HN.o;cases he;have e1:=Ph;have e2:=Pw;have e3:=Aw;exact zgx
   |put n a r =>
    obtain⟨vt,b0,he,p,q,YZ,Vs,uD⟩:=HN.o;cases he;have EG:=yL (d.o _ _ wr Jo.o) YZ p q;have hh1:=yL (d.o _ _ wr Jo.o) Vs p q;have e1:=Qh b0;have DZ:=Z uD;have u:(decide (n.length<=4000001) && r.wf 2000000)=true:=Af.o;simp only[zx,vJ]at u;have x:l+(Fo.put n a r).cnt=(l+r.cnt)+(Fo.put n a .nil).wt:=WL;have w:=Jo.o;rw[x]at w;have HCC:=Z (z.o s1 (l+r.cnt) wr (.put n a .nil) (.iface 210 (zU b0 0)) n a w ⟨[],b0,rfl,p,q,YZ,Vs,rfl⟩ (by simp[Fo.wf,u.1]) rfl);have Af:=Z u.2;clear uD u x w;have EJ:=Z (show r.yT=true from EJ.o);have QX:=Z (show i+(r.len+1)=L from Z4);have Zb:=Z (show zE r<=zE f by have:=Zb.o;simp at this;omega);obtain⟨o1,PH⟩:=zr (F s1 (.put n a .nil));exact zgy
   |num n a r =>
    obtain⟨vt,b0,he,p,q,YZ,Vs,uD⟩:=HN.o;cases he;have EG:=yL (d.o _ _ wr Jo.o) YZ p q;have hh1:=yL (d.o _ _ wr Jo.o) Vs p q;have e1:=Qw b0;have e2:=XL b0;have DZ:=Z uD;have u:(decide (n.length<=4000001) && r.wf 2000000)=true:=Af.o;simp only[zx,vJ]at u;have x:l+(Fo.num n a r).cnt=(l+r.cnt)+(Fo.num n a .nil).wt:=WL;have w:=Jo.o;rw[x]at w;have HCC:=Z (z.o s1 (l+r.cnt) wr (.num n a .nil) (.iface 213 (zU b0 0)) n a w ⟨[],b0,rfl,p,q,YZ,Vs,rfl⟩ (by simp[Fo.wf,u.1]) rfl);have Af:=Z u.2;clear uD u x w;have EJ:=Z (show r.yT=true from EJ.o);have QX:=Z (show i+(r.len+1)=L from Z4);have Zb:=Z (show zE r<=zE f by have:=Zb.o;simp at this;omega);obtain⟨o1,PH⟩:=zr (F s1 (.num n a .nil));exact zgy
   |br n a fo of cl bs r =>
    obtain⟨vt,b0,ba,bc,ws,he,p,q,YZ,Vs,Xq,Ig,DV,R0,B4,Fp,uD⟩:=HN.o;cases he;have EG:=yL (d.o _ _ wr Jo.o) YZ p q;have hh1:=yL (d.o _ _ wr Jo.o) Vs p q;have e1:=GB b0;have e2:=Uw b0;have e3:=U8 b0;have DZ:=Z uD;have ax:=Z Fp;have If:=Z B4;have u:(decide (n.length<=4000001) && decide (fo<3) && bs.xW && decide (bs.len<=2000000) && bs.wf 2000000 && r.wf 2000000)=true:=Af.o;simp only[zx,vJ]at u;obtain⟨⟨⟨⟨⟨Ib,lj⟩,lV⟩,hbn⟩,XB⟩,zbg⟩:=u;have x:l+(Fo.br n a fo of cl bs r).cnt=(l+r.cnt+bs.cnt)+(Fo.br n a fo of cl bs .nil).wt:=WL;have w:=Jo.o;rw[x]at w;obtain⟨HCC,HC4,Af,HBL,HBW⟩:=Jl (z.o s1 (l+r.cnt+bs.cnt) wr (.br n a fo of cl bs .nil) (.iface 199 (zU b0 0)) n a w ⟨[],b0,ba,bc,ws,rfl,p,q,YZ,Vs,Xq,Ig,DV,R0,B4,Fp,rfl⟩ (by simp[Fo.wf,Ib,lj,lV,hbn,XB]) rfl) DV zbg lV XB;have EJ:=Z (show r.yT=true from EJ.o);have QX:=Z (show i+(r.len+1)=L from Z4);have Zb:=Z (show zE r<=zE f/\zE bs<zE f by have:=Zb.o;simp at this;omega);obtain⟨o1,PH⟩:=zr (F s1 (.br n a fo of cl bs .nil));have im:=OI.o;rw[vx,PH]at im;have OC:=Z im.symm;rw[PH]at HCC;clear PH im OI YZ Vs Xq Ig DV R0 B4 Fp uD zbg lV XB x w;go_wp2_with fail;refine HCC.o.mono ?_;rintro e w2 hq;cases o1 with
    |TD c s2 =>
     exact zkb
    |go b s2 =>
     obtain⟨rfl,hi2⟩:=hq;have HIX:=Z hi2;clear hi2;cases b with
     |false =>
      exact zj2
     |true =>
      have B7:=Z (show(vx F bs s2).then (λs=>vx F r s)=R from OC.o.symm);have hh4:=yL (d.o _ _ w2 HIX.o) HC4.o p q;clear EG hh1 Vj HCC OC Jo;go_wp2_with fail;go_loopw [60] (λiv wq=>∃i2 O xs2 r2 s3,iv = .int .i64 (i2:Nat)/\i2<=bs.len/\yd lo hi w0 xs2 r2/\r2.xW=true/\r2.wf 2000000=true/\O.length=i2*3/\ws=O++xs2/\i2+r2.len=bs.len/\zE r2<=zE bs/\I s3 (l+r.cnt+r2.cnt) wq/\(vx F r2 s3).then (λs=>vx F r s)=R) (λiv _=>bs.len - (intOf iv).toNat)
      case atStart=>exact⟨0,[],ws,bs,s2,rfl,zQ _,ax.o,HBL.o,HBW.o,rfl,rfl,J,Y _,HIX.o,B7.o⟩
      case round =>
       obtain⟨i2,O,xs2,r2,s3,rfl,vd0,zbf,V,zbd,zbb,za0,EA,KN,hi3,we⟩:=hrel;obtain⟨HN2,KW,za1,PC,Pu,C,HR3,xgd⟩:=OJ zbf V zbd za0 zbb hi3 we KN;have av:=Z EA;clear zbf V zbd za0 zbb hi3 we KN;by_cases B2:i2<bs.len
       .cases r2 with
        |nil=>exfalso;simp[Fo.len]at EA;omega
        |text t r=>have:=KW.o;cases this
        |hash r=>have:=KW.o;cases this
        |put n a r=>have:=KW.o;cases this
        |num n a r=>have:=KW.o;cases this
        |br n a fo of cl bs r=>have:=KW.o;cases this
        |xR k0 a0 B P =>
         obtain⟨R1,ma,mc,ms,TJ,M,lU,U9⟩:=HN2.o;subst TJ;have hwl:ws.length=O.length+(R1.length+3):=(by rw[PC.o];simp);have Q:∀j v,[zM k0,.int .i64 a0,.slice ma B.len mc][j]? = some v->∃(h:i2*3+j<ws.length),ws[i2*3+j]=v:=zkd;obtain⟨q0,p0⟩:=Q 0 _ rfl;obtain⟨q1,p1⟩:=Q 1 _ rfl;obtain⟨q2,p2⟩:=Q 2 _ rfl;obtain⟨g2,o2,rfl,E,G,d0⟩:=If.o (i2*3+0) q0;obtain⟨g2',o2',hgg,_,_,d1⟩:=If.o (i2*3+1) q1;cases hgg;obtain⟨g2',o2',hgg,_,_,d2⟩:=If.o (i2*3+2) q2;cases hgg;rw[p0]at d0;rw[p1]at d1;rw[p2]at d2;have c0:=yL (d.o _ _ wr C.o) d0 E G;have c1:=yL (d.o _ _ wr C.o) d1 E G;have c2:=yL (d.o _ _ wr C.o) d2 E G;simp only[Ej,<-kh]at c0 c1 c2;have yof:=Z M;have yod:=Z lU;have yob:=Z U9;have k3:(i2:Int)<(bs.len:Int):=J;have k4:decide ((i2:Int)<(bs.len:Int))=true:=yJ;clear M lU U9 d0 d1 d2 p0 p1 p2 Q;have R2:(decide (k0.length<=4000001) && B.yT && decide (B.len<=2000000) && B.wf 2000000 && P.wf 2000000)=true:=za1.o;simp only[zx,vJ]at R2;obtain⟨⟨⟨⟨_,Um⟩,Ko⟩,iW⟩,ED⟩:=R2;have lK:zE B<zE f/\zE P<=zE bs:=zqz;obtain⟨HEC,HSS,yp0,yp1,yn8⟩:=Jl (HIH.o B lK.1 Um iW Ko s3 (l+r.cnt+P.cnt) (wr.alloc (.cells #[zM k0,a0,.slice ma B.len mc] 221)) ma mc ms (vfb.o s3 _ wr _ (by have:=C.o;rw[show l+r.cnt+(Fo.xR k0 a0 B P).cnt=l+r.cnt+P.cnt+B.cnt by simp only[Fo.cnt];omega]at this;exact this) ((zv _ _).alloc (Y _) _)) yof.o yod.o) lK.2 ED (show P.xW=true from KW.o) (show i2+(P.len+1)=bs.len from av.o);obtain⟨oo,hoo⟩:=zr (vx F B s3);have El:=HR3.o;rw[vx,hoo]at El;have OC:=Z El.symm;rw[hoo]at HEC;clear hoo El Um Ko iW ED lK;go_wp2_with fail;refine HEC.o.mono ?_;rintro e w3 hq;cases oo with
         |TD c s4 =>
          obtain⟨rfl,S⟩:=hq;have B7:=Z (show R = .TD c s4 from OC.o);go_wp2;refine⟨rfl,?_⟩;rw[B7.o];exact⟨rfl,Iy.o _ _ _ _ S J⟩
         |go b s4 =>
          obtain⟨rfl,S⟩:=hq;have T:=Z S;clear S;cases b with
          |false =>
           have B7:=Z (show R = .go false s4 from OC.o);go_wp2;go_ret;rw[B7.o];exact⟨rfl,Iy.o _ _ _ _ T.o J⟩
          |true =>
           have B7:=Z (show(vx F P s4).then (λs=>vx F r s)=R from OC.o.symm);go_wp2;go_roundw
           case rel=>exact⟨i2+1,O++[zM k0,.int .i64 a0,.slice ma B.len mc],R1,P,s4,zZ,J,yob.o,yp1.o,yp0.o,MR,ML,MS,HSS.o,T.o,B7.o⟩
           case measure=>simp only[intOf];omega
       .have k4:decide ((i2:Int)<(bs.len:Int))=false:=(by simp;omega);have kE:r2 = .nil:=zq6;have HRY:=Z (show vx F r s3=R by rw[<-HR3.o,kE];rfl);have Zb:=Z Zb.o.1;go_wp2;go_roundw
        case rel=>exact⟨i+1,us++[y],_,r,s3,zZ,J,DZ.o,EJ.o,Af.o,Qr,by rw[Pz.o,yk];rfl,Vt,GG,Iy.o _ _ _ _ C.o J,HRY.o⟩
        case measure=>simp only[intOf];omega
  .have k2:decide ((i:Int)<(L:Int))=false:=(by simp;omega);have kE:r = .nil:=WE;have B7:=Z (show R = .go true s1 by rw[<-OI.o,kE];rfl);go_wp2;go_ret;rw[B7.o];exact⟨rfl,Iy.o _ _ _ _ Jo.o J⟩
def R3{I:σ->Nat->z8->Prop}{F:σ->Fo->Out σ}(hy:At lo hi w0 v I F):∀(n:Nat) (f:Fo),zE f<n->f.yT=true->f.wf 2000000=true->f.len<=2000000->zbv lo hi w0 v I F f
 | 0,f,h,_,_,_=>absurd h (KV _)
 |n+1,f,h,hm,hw,c=>pd hy f hm hw c λm h1 h2 a b=>R3 hy n m J h2 a b
def jU(e:xm)(w:z8)(b n:Nat)(f:Wd->Option Nat):Prop :=
 ∃D:DataW Unit,w.ownsMap prog 9 (plainElem prog e) b n D/\Maps.IsMap D/\∀m:Wd,Maps.has D (.string m)=(f m).isSome/\D.atKey (.string m) (.lit (.int .i64 0)) = .lit (.int .i64 (((f m).getD 0:Nat):Int))
structure pZ(t e:xm):Prop where
 map:prog.underlying t=some (.map 9 e)
 el:prog.underlying e=some (.int .i64)
 zero:∀w,(zeroValue e).run prog w = .ok (.int .i64 0) w
def jU.keep{e:xm}{b:Nat}{f:Wd->Option Nat}(h:jU e w b n f)(hb:w'.heap[b]? = w.heap[b]?):jU e w' b n f:=by
 obtain⟨D,h1,h2⟩:=h;obtain⟨es,a,c,rest⟩:=h1;exact⟨D,⟨es,a,hb.trans c,rest⟩,h2⟩
def jU.lt{e:xm}{b:Nat}{f:Wd->Option Nat}(h:jU e w b n f):b<(w:Nat):=iG
def jU.below{e:xm}{b:Nat}{f:Wd->Option Nat}(h:jU e w b n f)(hb:zP w w'):jU e w' b n f:=h.keep (hb.block b h.lt)
def jU.made(e:xm)(w:z8):jU e (w.alloc (.map #[] 0)) (w:Nat) 0 (λ_=>none) :=
 ⟨.map [],Hl w _ _ _,⟨_,rfl⟩,λm=>⟨rfl,rfl⟩⟩
section
variable {t e:xm}
def jU.look{b:Nat}{f:Wd->Option Nat}(T:pZ t e)(h:jU e w b n f)(m:Wd)(hm:m.length<=5000000) :
  (TZ t (.map (some b)) (zM m) true).run prog w = .ok (.tuple #[(((f m).getD 0:Nat):Int),.bool (f m).isSome]) w:=by
 obtain⟨D,h1,h2,d⟩:=h;obtain⟨v,ps,a,hv⟩:=h1.look_ok (xE underlying9) T.map (z := .int .i64 0) (T.zero w) (bK T.el zR)
  (key:=zM m) (xu (s:=⟨m.toArray⟩) underlying9 VP)
 rw[toList_mk]at a hv;rw[(d m).1]at a;rw[(d m).2]at hv;obtain⟨c,rfl,hc,_⟩:=plainElem_int_inv T.el hv;simp only[Hi,EI,yzy]at hc;rw[a,<-hc.1.2]
def jU.FQ{b:Nat}{f:Wd->Option Nat}(T:pZ t e)(h:jU e w b n f)(m:Wd)(hm:m.length<=5000000) :
  (TZ t (.map (some b)) (zM m) false).run prog w = .ok (((f m).getD 0:Nat):Int) w:=by
 obtain⟨D,h1,h2,g⟩:=h;obtain⟨c,d,a,_⟩:=h1.lookup_int (xE underlying9) T.map T.el (q := .i64) (T.zero w)
  (key:=zM m) (xu (s:=⟨m.toArray⟩) underlying9 VP)
 rw[toList_mk,(g m).2]at a;simp only[EI,yzy,true_and]at a;rw[d,<-a]
def jU.put{b:Nat}{f:Wd->Option Nat}(T:pZ t e)(h:jU e w b n f)(m:Wd)(hm:m.length<=5000000)(v:Int)(k:Nat)(hv:v=(k:Int))(i:k<=1000000000)(hn:n<=1000000000) :
  ∃w',(TY t (.map (some b)) (zM m) v).run prog w = .ok () w'/\jU e w' b (n+1) (λx=>if m=x then some k else f x)/\w.grownBy w' (some b):=by
 subst hv;obtain⟨D,h1,h2,h3⟩:=h;obtain⟨w',d,c,g⟩:=h1.update (xE underlying9) T.map dO (key:=zM m) (xu (s:=⟨m.toArray⟩) underlying9 VP)
  (bK T.el (q := .i64) (a:=(k:Int)) zx1)
 rw[toList_mk]at c;refine⟨w',d,⟨_,c,h2.put _ _,λx=>?_⟩,g⟩;by_cases hx:m=x
 .subst hx;simp only[↓reduceIte];exact⟨by rw[QI h2 (show kJ (.string m)from trivial)];simp,by rw[UW h2 (show kJ (.string m)from trivial)];simp⟩
 .exact yb6
end
variable{mb:Nat}
def kS(l:List (Nat×Nat)):List Value:=l.flatMap λx=>[.int .i64 (x.1:Nat),.int .i64 (x.2:Nat)]
def BM(l:List (Nat×Nat)):(kS l).length=l.length*2:=by
 induction l with
 |nil=>rfl
 |cons a t b=>simp only[kS,zh,zy,zY,yF]at b|-;omega
def XG(a b:List (Nat×Nat)):kS (a++b)=kS a++kS b:=by simp[kS]
def jy:Y7 prog 189 76 (.agg #[.int .i64 0,.int .i64 0]) 2 16 :=
 ⟨underlying189,info_parts yq,rfl,zR,zR⟩
def Uz:pZ 139 3:=⟨underlying139,underlying3,λw=>kL⟩
def BN:Wd:=[111,116,104,101,114]
def Qm(cl:Nat):List Wd->List (Nat×Nat)->Fo->List (Nat×Nat)
 |seen,acc,.xR k a _ r=>Qm cl (k::seen) (if k∈seen then acc++[(7,a)]else acc) r
 |seen,acc,_=>if BN∈seen then acc else acc++[(6,cl)]
def uv(base:Nat)(w:z8)(v:Value)(l:List (Nat×Nat)):Prop:=w.ownsRow base 76 2 v l.length (kS l)
def oA{b:Nat}(h:zu w b 0 u)(h2:zu w b 1 v):∀j x,[u,v][j]? = some x->w.cell? ((⟨b,0,none⟩:yM).add j)=some x:=by
 intro j x hx;match j,hx with
 | 0,hx=>simp at hx;subst hx;exact h
 | 1,hx=>simp at hx;subst hx;rw[vS];exact h2
 |j+2,hx=>simp at hx
def lJ(f:Wd->Option Nat)(seen:List Wd):Prop:=∀k,(0<(f k).getD 0 ↔ k∈seen)/\(f k).getD 0<=seen.length
def lJ.more{f:Wd->Option Nat}{seen:List Wd}(h:lJ f seen)(k:Wd):lJ (λx=>if k=x then some ((f k).getD 0+1)else f x) (k::seen):=by
 intro x;have:=h x;have h2:=h k;by_cases hx:k=x
 .subst hx;simp;omega
 .simp only[hx,↓reduceIte,yX,zY];have a:¬x=k:=λe=>hx e.symm
  refine⟨by rw[this.1];simp[a],J⟩
def uv.QQ{base:Nat}{l:List (Nat×Nat)}(h:uv base w v l)(hb:zP w w'):uv base w' v l :=
 h.kept (row:=some (w:Nat)) ⟨hb.os,hb.tape,hb.output,hb.size,λi hi _=>hb.block i hi⟩ (by
  cases hv:v.ownBlock with
  |none=>exact .inl rfl
  |some g=>exact .inr (λe=>by have:=(h.lt g hv).2;cases e;omega))
def uv.za3{base b:Nat}{l:List (Nat×Nat)}(h:uv base w v l)(a:w.grownBy w' (some b))(hb:b<base):uv base w' v l :=
 h.kept a (zxj)
def Ju{l:List (Nat×Nat)}(h:uv (mb+1) w v l)(hm:(w0:Nat)=mb):uv (w0:Nat) w v l:=by
 obtain⟨h1,h2⟩:=h;refine⟨h1,?_⟩;rcases h2 with h2|⟨g,cap,a,hv,b,rest⟩
 .exact .inl h2
 .exact .inr ⟨g,cap,a,hv,J,rest⟩
def XM(b0:Nat)(n:Wd)(a fo:Nat)(of:Wd)(y:Nat)(bs:Fo)(w:z8)(m:xh lo hi w0 w)
  (Fm:yd lo hi w0 [.iface 199 (b0,0)] (.br n a fo of y bs .nil)) (IZ:(Fo.br n a fo of y bs .nil).wf 2000000=true) :
  zC prog 84 #[(b0,0)] w λe w'=>(∃v,e = .returned v/\uv (w:Nat) w' v (Qm y [] [] bs))/\zP w w':=by
 have Em:=@run_makeMap prog;obtain⟨vt,b',ba,bc,ws,he,qE,qY,YZ,Vj,Xq,Ig,DV,R0,B4,Fp,_⟩:=Fm;cases he;have B5:(decide (n.length<=4000001) && decide (fo<3) && bs.xW && decide (bs.len<=2000000) && bs.wf 2000000 && Fo.nil.wf 2000000)=true:=IZ;simp only[Bool.and_eq_true,vJ]at B5;obtain⟨⟨⟨⟨⟨Ib,lj⟩,lV⟩,hbn⟩,XB⟩,_⟩:=B5;obtain⟨HK,ax,If,HBL,HBW,HC5⟩:=EZ m Fp B4 lV XB R0;have c4:=yL m DV qE qY;obtain⟨R,hR⟩:=zr (Qm y [] [] bs);rw[hR];have HR:=Lib.hid hR;have hhi:hi<=(w:Nat):=m.1;obtain⟨mb,S⟩:=zr (w:Nat);have B:=Lib.hid S;clear m Fp B4 lV XB YZ Vj Xq Ig DV R0 IZ hR;have hmd:=jU.made 3 w;rw[S]at hmd;have hbd:Below w w (w.alloc (.map #[] 0)):=(Below.refl _ _).alloc (Nat.le_refl _) _;have c4':zu (w.alloc (.map #[] 0)) b0 4 (.slice ba bs.len bc):=(World.cell?_alloc_lt _ _ _ (show b0<(w:Nat)by omega)).trans c4;have vd3:(w.alloc (.map #[] 0)).heap.size=mb+1:=by simp[S]
 obtain⟨W0,wo⟩:=zr (w.alloc (.map #[] 0));rw[wo]at hmd hbd vd3;have HW0:=Z wo;clear wo;go_enter func84,ntmps84;go_wp2_with fail;clear c4 c4' S;go_loopw [2,12] (λfv iv wr=>∃i us xs r acc seen nm fm,iv = .int .i64 (i:Nat)/\i<=bs.len/\yd lo hi w0 xs r/\r.xW=true/\r.wf 2000000=true/\us.length=i*3/\ws=us++xs/\i+r.len=bs.len/\zP w wr/\mb<wr.heap.size/\uv (mb+1) wr fv acc/\jU 3 wr mb nm fm/\nm<=i/\lJ fm seen/\seen.length=i/\acc.length<=i/\Qm y seen acc r=R) (λ_ iv _=>bs.len - (intOf iv).toNat)
 case atStart =>
  rw[HW0.o];exact⟨0,[],ws,bs,[],[],0,λ_=>none,rfl,zQ _,ax.o,HBL.o,HBW.o,rfl,rfl,J,hbd,J,xx _ _ _ _,hmd,Y _,(λk=>zZ),rfl,Y _,HR.o⟩
 case round =>
  obtain⟨i,us,xs,r,acc,seen,nm,fm,rfl,hiL,uD,hmr,EB,QA,hvs,Z4,zg7,hmw,how,hmp,hnm,hsn,Ml,KP,Dk⟩:=hrel;have L:xh lo hi w0 wr:=HK.o.below zg7;obtain⟨C,HMP,HSN,HSL,HAL,OI,HN2,d⟩:=OJ how hmp hsn Ml KP Dk uD hmr;obtain⟨za1,PC,Pu,av⟩:=hdd EB hvs QA Z4;obtain⟨fa,fc,rfl⟩:=zn how;clear uD hmr EB hvs QA how hmp hsn Ml KP Dk;by_cases B2:i<bs.len
  .cases r with
   |nil=>exfalso;simp[Fo.len]at Z4;omega
   |text t r=>have:=d.o;cases this
   |hash r=>have:=d.o;cases this
   |put n a r=>have:=d.o;cases this
   |num n a r=>have:=d.o;cases this
   |br n a fo of y bs r=>have:=d.o;cases this
   |xR k0 a0 E r0 =>
    obtain⟨R1,ma,mc,ms,TJ,Uy,lU,U9⟩:=HN2.o;subst TJ;have hwl:ws.length=us.length+(R1.length+3):=(by rw[PC.o];simp);have O:∀j v,[zM k0,.int .i64 a0,.slice ma E.len mc][j]? = some v->∃(h:i*3+j<ws.length),ws[i*3+j]=v:=by
     intro j v hj;have hj3:j<3:=by
      apply yu;intro hc;rw[qT yJ]at hj;cases hj
     refine⟨by have:=Pu.o;omega,?_⟩;have h1:ws[i*3+j]? = some v:=by
      rw[PC.o,<-Pu.o,xq J,D9,<-hj];match j,hj3 with
      | 0,_=>rfl
      | 1,_=>rfl
      | 2,_=>rfl
     exact zx2
    obtain⟨q0,p0⟩:=O 0 _ rfl;obtain⟨q1,p1⟩:=O 1 _ rfl;obtain⟨q2,p2⟩:=O 2 _ rfl;obtain⟨g2,o2,rfl,I,K,d0⟩:=If.o (i*3+0) q0;obtain⟨g2',o2',hgg,_,_,d1⟩:=If.o (i*3+1) q1;cases hgg;obtain⟨g2',o2',hgg,_,_,d2⟩:=If.o (i*3+2) q2;cases hgg;rw[p0]at d0;rw[p1]at d1;rw[p2]at d2;have c0:=yL L d0 I K;have c1:=yL L d1 I K;have c2:=yL L d2 I K;simp only[Ej,<-kh]at c0 c1 c2;have U:=Z U9;have k3:(i:Int)<(bs.len:Int):=J;have k4:decide ((i:Int)<(bs.len:Int))=true:=yJ;have R2:(decide (k0.length<=4000001) && E.yT && decide (E.len<=2000000) && E.wf 2000000 && r0.wf 2000000)=true:=za1.o;simp only[zx,vJ]at R2;obtain⟨⟨⟨⟨iI,_⟩,_⟩,_⟩,ED⟩:=R2;have V:=Z ED;have T:=Z (show r0.xW=true from d.o);have yn8:=Z (show i+(r0.len+1)=bs.len from av.o);have P:yD wr wr (wr.alloc (.cells #[zM k0,a0,.slice ma E.len mc] 221)):=(zv _ _).alloc (Y _) _;have F:=HMP.o.below P;have Q:=F.FQ Uz k0 J;obtain⟨cn,g⟩:=zr ((fm k0).getD 0);rw[g]at Q;have KG:=Z (HSN.o.more k0);rw[g]at KG;have hck:=HSN.o k0;rw[g]at hck;have QU:cn<=i:=(by have:=HSL.o;omega);have HCN:=Z g;have HCK:=Z hck.1;clear Uy lU U9 d0 d1 d2 p0 p1 p2 O g hck ED L Z4 hwl;have hwA:=zg7.trans (P.mono Au);by_cases c:k0∈seen
    .have A:=HCK.o.2 c;have j1:decide ((0:Int)<(cn:Int))=true:=(by simp;omega);have j2:decide (0<cn)=true:=yJ;have HRN:=Z (show Qm y (k0::seen) (acc++[(7,a0)]) r0=R by rw[<-OI.o,Qm,yV c]);clear c;have HMA:=Z F;have HOA:=Z (C.o.QQ P);clear F;go_wp2_with (at_builtin;refine gQ ?_);intro W3 YW;have b:yD (wr.alloc (.cells #[zM k0,a0,.slice ma E.len mc] 221)).heap.size (wr.alloc (.cells #[zM k0,a0,.slice ma E.len mc] 221)) W3:=DW;have hsA:(wr.alloc (.cells #[zM k0,a0,.slice ma E.len mc] 221)).heap.size=(wr:Nat)+1:=zZ;have OL:=λi=>zf (wr.alloc (.cells #[zM k0,a0,.slice ma E.len mc] 221)) #[.int .i64 7,a0] 76 (0,0) i
     rw[<-YW,hsA]at OL;have W:=(b.cell (p:=(zU (wr:Nat) 0)) (by show (wr:Nat)<_;omega)).trans (zf wr #[zM k0,a0,.slice ma E.len mc] 221 (0,0) 0);have Fs:=Z (HMA.o.below b);have HO3:=Z (HOA.o.QQ b);have yyj:=b.size;have l:=hwA.trans (b.mono Au);clear YW;refine j9 jy rfl _ _ rfl (mb+1) _ acc.length (kS acc) rfl HO3.o ⟨(wr:Nat)+1,0,none⟩ 1 1 [.int .i64 7,.int .i64 a0] rfl rfl MG ?u2 MT J ?u3
     case u2 =>
      exact Px
     intro v4 w4 D q;have OD:=Z (show uv (mb+1) w4 v4 (acc++[(7,a0)])by unfold uv;rw[XG,zy];exact D);have f:∀k,(vL fa acc.length fc).ownBlock=some k->mb+1<=k/\k<(wr:Nat):=λk m=>C.o.lt k m
     have hM4:=Fs.o.keep (q.block mb Fs.o.lt (λe=>by have:=f mb e.symm;omega));have z:zP w w4:=l.grown q l.size (λk m=>by have:=f k m;have:=B.o;omega);have ubg:zu w4 (wr:Nat) 0 (zM k0):=q.cell W (λe=>absurd (f _ e.symm).2 (kD _));obtain⟨fa4,fc4,rfl⟩:=zn D;obtain⟨w5,wa,x,s⟩:=hM4.put Uz k0 J ((cn:Int)+1) (cn+1) J J J;have vd5:=hM4.FQ Uz k0 J;rw[HCN.o]at vd5;have HM5:=Z x;have oP:=Z (OD.o.za3 s J);have G:zP w w5:=z.grown s z.size (λk m=>by cases m;have:=B.o;omega);have M:=x.lt;have xcy:(acc.length+1)=(acc++[(7,a0)]).length:=zZ;have HO6:=Z (show uv (mb+1) w5 (.slice fa4 (acc.length+1) fc4) (acc++[(7,a0)])from oP.o);clear D q f x s hM4 Q OL W xcy;go_wp2;go_roundw
     case rel=>exact⟨i+1,us++[zM k0,.int .i64 a0,.slice ma E.len mc],R1,r0,acc++[(7,a0)],k0::seen,nm+1,_,zZ,J,U.o,T.o,V.o,MR,ML,MS,G,M,HO6.o,HM5.o,J,KG.o,by simp[HSL.o],by have:=HAL.o;simp;omega,HRN.o⟩
     case measure=>simp only[intOf];omega
    .have A:¬0<cn:=λh=>c (HCK.o.1 h)
     have j1:decide ((0:Int)<(cn:Int))=false:=yJ;have j2:decide (0<cn)=false:=yJ;have HRN:=Z (show Qm y (k0::seen) acc r0=R by rw[<-OI.o,Qm,yz c]);clear c A;obtain⟨w5,wa,x,s⟩:=F.put Uz k0 J ((cn:Int)+1) (cn+1) J J J;have HM5:=Z x;have oP:=Z ((C.o.QQ P).za3 s J);have G:zP w w5:=hwA.grown s hwA.size (λk m=>by cases m;have:=B.o;omega);have M:=x.lt;clear x s F;go_wp2;go_roundw
     case rel=>exact⟨i+1,us++[zM k0,.int .i64 a0,.slice ma E.len mc],R1,r0,acc,k0::seen,nm+1,_,zZ,J,U.o,T.o,V.o,MR,ML,MS,G,M,oP.o,HM5.o,J,KG.o,by simp[HSL.o],MT,HRN.o⟩
     case measure=>simp only[intOf];omega
  .have k4:decide ((i:Int)<(bs.len:Int))=false:=(by simp;omega);have kE:r = .nil:=by
    have:=d.o;exact WE
   have Q:(TZ 139 (.map (some mb)) (.string ⟨#[111,116,104,101,114]⟩) false).run prog wr = .ok (((fm BN).getD 0:Nat):Int) wr:=HMP.o.FQ Uz BN zR;have N:=HSN.o BN;obtain⟨cn,g⟩:=zr ((fm BN).getD 0);rw[g]at Q N;have c5:=yL L HC5.o qE qY;have H:Qm y seen acc r=if BN∈seen then acc else acc++[(6,y)]:=by rw[kE];rfl
   have HFN:=Z (H.symm.trans OI.o);have HOB:=Z (Ju C.o B.o);by_cases c:BN∈seen
   .have A:=N.1.2 c;have j1:((cn:Int)==0)=false:=(by simp;omega);have B7:=Z (show R=acc by rw[<-HFN.o,yV c]);clear N g H c;go_wp2;go_ret;rw[B7.o];exact⟨⟨_,rfl,HOB.o⟩,zg7⟩
   .have A:¬0<cn:=λh=>c (N.1.1 h)
    have j1:((cn:Int)==0)=true:=yJ;have B7:=Z (show R=acc++[(6,y)]by rw[<-HFN.o,yz c]);clear N g H c;go_wp2_with (at_builtin;refine gQ ?_);intro W3 YW;have b:zP wr W3:=DW;have OL:=λi=>zf wr #[.int .i64 6,y] 76 (0,0) i
    rw[<-YW]at OL;have HO3:=Z (C.o.QQ b);have yyj:=b.size;have l:=zg7.trans (b.mono Au);clear YW;refine j9 jy rfl _ _ rfl (mb+1) _ acc.length (kS acc) rfl HO3.o ⟨(wr:Nat),0,none⟩ 1 1 [.int .i64 6,.int .i64 y] rfl rfl MG ?u5 MT J ?u6
    case u5 =>
     exact Px
    intro v4 w4 D q;have OD:=Z (Ju (show uv (mb+1) w4 v4 (acc++[(6,y)])by unfold uv;rw[XG,zy];exact D) B.o);have f:∀k,(vL fa acc.length fc).ownBlock=some k->mb+1<=k:=λk m=>(C.o.lt k m).1
    have z:zP w w4:=l.grown q l.size (λk m=>by have:=f k m;have:=B.o;omega);clear D q f;go_wp2;go_ret;rw[B7.o];exact⟨⟨_,rfl,OD.o⟩,z⟩
variable{Q:Exit->Act->z8->Prop}{W':z8}
def Q5{a:Nat}(seen:List Wd)(acc:List (Nat×Nat))(n:Nat):(if BN∈seen then acc else acc++[(6,a)]).length<=acc.length+n+1:=by
 split
 .omega
 .rw[zy];show acc.length+1<=_;omega
def LS(b:Nat):∀(f:Fo) (seen:List Wd) (acc:List (Nat×Nat)),(Qm b seen acc f).length<=acc.length+f.len+1
 |.xR k a m r,seen,acc=>by
  rw[Qm];refine zj (LS b r _ _) ?_;split<;>simp[Fo.len]<;>omega
 |.nil,seen,acc=>Q5 seen acc _
 |.text _ _,seen,acc=>Q5 seen acc _
 |.hash _,seen,acc=>Q5 seen acc _
 |.put _ _ _,seen,acc=>Q5 seen acc _
 |.num _ _ _,seen,acc=>Q5 seen acc _
 |.br _ _ _ _ _ _ _,seen,acc=>Q5 seen acc _
def jB:Fo->Nat
 |.num _ _ _=>1
 |.br _ _ f _ _ _ _=>if f=0 then 2 else 1
 |_=>0
def au(x:Fo)(u:Value)(n:Wd)(a:Nat)(w:z8)(B:xh lo hi w0 w)(f:yd lo hi w0 [u] x)(j:zbx x=some (n,a)) :
  zC prog 83 #[u] w λe w'=>e = .returned ((jB x:Nat):Int)/\w'=w:=by
 cases x with
 |nil=>cases j
 |text t r=>cases j
 |hash r=>cases j
 |xR k0 a0 G H=>cases j
 |put n0 a0 r =>
  obtain⟨q,b0,he,b,c,g,h,i⟩:=f;cases he;have p:=ay b0;have s:=Ik b0;go_enter func83,ntmps83;exact DA
 |num n0 a0 r =>
  obtain⟨q,b0,he,b,c,g,h,i⟩:=f;cases he;have p:=XL b0;go_enter func83,ntmps83;exact DA
 |br n0 a0 fo of m bs r =>
  obtain⟨q,b0,E,F,ws,he,b,c,g,h,l,y,z,A,C,v,i⟩:=f;cases he;have p:=Uw b0;have s:=U8 b0;have c2:=yL B l b c;by_cases hf:fo=0
  .have k:=Z hf;have D:((fo:Int)==0)=true:=(by simp[hf]);clear hf;go_enter func83,ntmps83;go_wp2;go_ret;have d:jB (.br n0 a0 fo of m bs r)=2:=yV k.o;rw[d];exact⟨rfl,rfl⟩
  .have k:=Z hf;have D:((fo:Int)==0)=false:=(by simp;omega);clear hf;go_enter func83,ntmps83;go_wp2;go_ret;have d:jB (.br n0 a0 fo of m bs r)=1:=yz k.o;rw[d];exact⟨rfl,rfl⟩
abbrev KB:=(Wd->Option Nat)×List (Nat×Nat)
def ub(s:KB)(n:Wd)(a k:Nat):KB :=
 if k≠0/\(s.1 n).isSome=true/\(s.1 n).getD 0≠k then (s.1,s.2++[(5,a)])else if k≠0 then (λy=>if n=y then some k else s.1 y,s.2)else s
def gD(s:KB):Fo->Out KB
 |.br n a f o cl bs r => .go true ((ub s n a (jB (.br n a f o cl bs r))).1,(ub s n a (jB (.br n a f o cl bs r))).2++Qm cl [] [] bs)
 |.num n a _ => .go true (ub s n a 1)
 |.put n a _ => .go true (ub s n a 0)
 |_ => .go true s
def bu:pZ 190 196:=⟨underlying190,underlying196,λw=>kL⟩
structure Ux(lo hi:Nat)(w0:z8)(B:Nat)(w:z8)(s:KB)(room:Nat)(W:z8):Prop where
 keep:xh lo hi w0 W
 hiB:hi<=B
 map:∃nm,jU 196 W (B+1) nm s.1/\nm+room<=1000000000
 row:∃v,zu W B 0 v/\uv (B+3) W v s.2
 kc:zu W (B+2) 0 (.map (some (B+1)))
 fz:W.frozen? (B,0)=false
 few:s.2.length+room<=1000000000
 dG:yD B w W
def Ux.below{s:KB}{a:Nat}(h:Ux lo hi w0 B w s a W)(hb:zP W W'):Ux lo hi w0 B w s a W':=by
 obtain⟨h1,h2,⟨nm,f,b⟩,⟨v,c,g⟩,d,i,j,k⟩:=h;have e:B<(W:Nat):=X W _ c;have l:B+2<(W:Nat):=X W _ d;exact⟨h1.below hb,h2,⟨nm,f.below hb,b⟩,⟨v,(hb.cell (p:=(B,0)) e).trans c,g.QQ hb⟩,(hb.cell (p:=(B+2,0)) l).trans d,(hb.frozen (p:=(B,0)) e).trans i,j,k.trans (hb.mono J)⟩
def Ux.less{s:KB}{a room':Nat}(h:Ux lo hi w0 B w s a W)(hr:room'<=a):Ux lo hi w0 B w s room' W:=by
 obtain⟨h1,h2,⟨nm,b,c⟩,d,e,f,i,g⟩:=h;exact⟨h1,h2,⟨nm,b,J⟩,d,e,f,J,g⟩
def GC{o:jk}{a:Act}{K:Act->z8->Prop}
  (s x:Operand) (q:o.op = .call { callee := .builtin .append,args:=#[s,x],argTypes:=#[189,189] })
  (base b:Nat) (v u:Value) (acc l:List (Nat×Nat)) (hs:a.eval s=v) (hF:uv base w v acc) (hx:a.eval x=u) (n:uv b w u l) (z:acc.length+l.length<=2147483648) (c:base<=(w:Nat))
  (h:∀v' w',uv base w' v' (acc++l)->w.grownBy w' v.ownBlock->K (a.put o.dst v') w'):kd prog o a w K Q:=by
 obtain⟨i,hi,E,h2,t⟩:=jy.info;have k:=n;rcases n.2 with⟨f,hn⟩|⟨g,cap,r,f,F,G,D,A,B,H⟩
 .have C:l=[]:=zN hn;subst C;have hr:=run_append_owned_none (P:=prog) (w:=w) base 189 o.type 76 i 2 jy.under hi v acc.length (kS acc) hF;unfold kd execOp;simp only[q,resolve,invoke,builtin,js,wj,Xg,JA,vE,zpd,hs,hx,f,hr];exact h v w (by simpa using hF) (Ta w _)
 .obtain⟨v',w',hr,k1,k2,_⟩:=run_append_own (P:=prog) w base 189 o.type 76 i _ 2 16 jy.under hi E h2 t jy.Qg jy.pos v acc.length (kS acc) hF ⟨g,0,none⟩ l.length cap (kS l) (BM l)
   (λj x hx=>by
    have p:j<(kS l).length:=(zF.1 hx).1;rw[vS,<-hx];rw[BM]at p;obtain⟨g',m,e,_,_,d⟩:=xf k J;rw[f]at e;cases e;exact d j p)
   (λx hx=>by
    simp only[kS,List.mem_flatMap]at hx;obtain⟨y,_,hy⟩:=hx;simp at hy;rcases hy with rfl|rfl<;>rfl) dO J c
  unfold kd execOp;simp only[q,resolve,invoke,builtin,js,wj,Xg,JA,vE,zpd,hs,hx,f,hr];exact h v' w' (by unfold uv;rw[XG,zy];exact k1) k2
variable{v':Value}
def R4(x:Fo):jB x<=2:=by
 cases x<;>simp[jB];split<;>decide
def xh.za5(h:xh lo hi w W):xh lo hi w W.drew:=h
def MU{s:KB}{c room':Nat}{row:Option Nat}{l:List (Nat×Nat)}(h:Ux lo hi w0 B w s c W)(e:W.grownBy W' row)(b:∀k,row=some k->B+3<=k)
  (hf:uv (B+3) W' v' (s.2++l)) (hr:room'+l.length<=c):Ux lo hi w0 B w (s.1,s.2++l) room' (W'.setCell (B,0) v'):=by
 obtain⟨h1,h2,⟨nm,g,m⟩,⟨v,i,u⟩,j,n,x,o⟩:=h;have d:∀k,k<B+3->(some k:Option Nat)≠row:=λk q1 q2=>by have:=b k q2.symm;omega
 have p:B<(W:Nat):=X W _ i;have hb:∀k,k<(W:Nat)->k<B+3->k≠B->(W'.setCell (B,0) v').heap[k]? = W.heap[k]? := λk q1 q2 t=>(yZ _ _ _ _ t).trans (e.block k q1 (d k q2))
 have r:B+2<(W:Nat):=X W _ j;have f:(W:Nat)<=(W'.setCell (zU B 0) v').heap.size:=zj e.size (by simp[xg]);have c0:zu W' B 0 v:=e.cell i (d B J);refine⟨⟨zj h1.1 f,λk k1 k2=>(hb k (by have:=h1.1;omega) J J).trans (h1.2 k k1 k2)⟩,h2,⟨nm,g.keep (hb (B+1) g.lt J J),J⟩,⟨v',by rw[zo,yV rfl,c0];rfl,?_⟩,
  (yE (a:=(B+2,0)) (hb (B+2) r J J)).trans j,?_,?_,?_⟩
 .exact ownsRow_setCell_below hf (a:=(B,0)) (by show B<B+3;omega) v'
 .rw[zO];exact(zV (a:=(zU B 0)) (e.block B p (d B J))).trans n
 .show(s.2++l).length+room'<=_;exact Da
 .exact vr (o.grown e J (λk q=>by have:=b k q;omega)) (Y _)
def MO{s:KB}{b room' nm:Nat}{f:Wd->Option Nat}(h:Ux lo hi w0 B w s b W)(hm:jU 196 W' (B+1) (nm+1) f)(d:W.grownBy W' (some (B+1)))
  (hn:nm+b<=1000000000) (hr:room'+1<=b):Ux lo hi w0 B w (f,s.2) room' W':=by
 obtain⟨h1,h2,_,⟨v,e,g⟩,i,j,n,l⟩:=h;have c:∀k,k≠B+1->(some k:Option Nat)≠some (B+1):=λk q1 q2=>q1 (by cases q2;rfl)
 have m:B<(W:Nat):=X W _ e;refine⟨⟨zj h1.1 d.size,λk k1 k2=>(d.block k (by have:=h1.1;omega) (c k J)).trans (h1.2 k k1 k2)⟩,h2,⟨nm+1,hm,J⟩,⟨v,d.cell e (c B J),g.za3 d J⟩,
  d.cell i (c (B+2) J),?_,by show s.2.length+room'<=_;omega,l.grown d J (λk q=>by cases q;omega)⟩
 exact(zV (a:=(B,0)) (d.block B m (c B J))).trans j
def yv5(x:Fo)(u:Value)(n:Wd)(a:Nat)(s:KB)(room:Nat)(W:z8)(hI:Ux lo hi w0 B w s (room+x.wt) W)(Fm:yd lo hi w0 [u] x)(IZ:x.wf 2000000=true)(hh:zbx x=some (n,a)) :
  zC prog 82 #[u,.agg #[zM n,a],(B+2,0),(B,0)] W (yok (Ux lo hi w0 B w) room (gD s x)):=by
 have HI:=Z hI;have HND:=Z Fm;have wN:=Z IZ;clear hI IZ;cases x with
 |nil=>cases hh
 |text t r=>cases hh
 |hash r=>cases hh
 |xR k0 a0 m0 r0=>cases hh
 |put n0 a0 r =>
  obtain⟨vt,b0,he,qE,qY,YZ,Vj,uD⟩:=Fm;obtain⟨rfl,rfl⟩:n=n0/\a=a0:=WO;cases he;have e1:=Ik b0;have HI:=Z (show Ux lo hi w0 B w s (room+1) W from HI.o);have Ib:n.length<=4000001:=zq7;obtain⟨kv,v⟩:=zr (jB (.put n a r));have g:=Z (λW' hk=>au (.put n a r) (.iface 210 (zU b0 0)) n a W' hk HND.o rfl);have wR:=Z v;rw[v]at g;clear v;go_enter func82,ntmps82;go_wp2_with fail;have E:yD W W (W.alloc (.cells #[zM n,a] 195)):=(zv _ _).alloc (Y _) _;have f:=λi=>zf W #[zM n,a] 195 (0,0) i
  have c:=HI.o.below E;obtain⟨W1,D⟩:=zr (W.alloc (.cells #[zM n,a] 195));rw[D]at f c|-;have EG:=f 0;have hh1:=f 1;clear D f E;refine(g.o W1 c.keep).mono ?_;rintro e M ⟨rfl,rfl⟩;obtain⟨nm,A,hnm⟩:=c.map;obtain⟨fv,S,p⟩:=c.row;obtain⟨fa,fc,rfl⟩:=zn p;have TC:=A.look bu n J;have wP:=c.kc;have hfz:=c.fz;have xcx:=c.few;have Jo:=Z c;have Q:=Z A;have O:=Z p;have Dj:B+2<(M:Nat):=X M _ wP;clear c A p;obtain⟨T,q⟩:=zr ((s.1 n).getD 0);obtain⟨bb,m⟩:=zr ((s.1 n).isSome);rw[q,m]at TC;have P:=Z q;have HBB:=Z m;clear q m g;have iI:kv=0:=wR.o.symm;subst iI;have HF:=Z (Jo.o.less (room':=room) J);go_wp2;go_ret;have hch:gD s (.put n a r) = .go true s:=by show Out.go true (ub s n a 0)=_;unfold ub;simp
  exact Wa
 |num n0 a0 r =>
  obtain⟨vt,b0,he,qE,qY,YZ,Vj,uD⟩:=Fm;obtain⟨rfl,rfl⟩:n=n0/\a=a0:=WO;cases he;have e1:=pg b0;have HI:=Z (show Ux lo hi w0 B w s (room+1) W from HI.o);have Ib:n.length<=4000001:=zq7;obtain⟨kv,v⟩:=zr (jB (.num n a r));have g:=Z (λW' hk=>au (.num n a r) (.iface 213 (zU b0 0)) n a W' hk HND.o rfl);have wR:=Z v;rw[v]at g;clear v;go_enter func82,ntmps82;go_wp2_with fail;have E:yD W W (W.alloc (.cells #[zM n,a] 195)):=(zv _ _).alloc (Y _) _;have f:=λi=>zf W #[zM n,a] 195 (0,0) i
  have c:=HI.o.below E;obtain⟨W1,D⟩:=zr (W.alloc (.cells #[zM n,a] 195));rw[D]at f c|-;have EG:=f 0;have hh1:=f 1;clear D f E;refine(g.o W1 c.keep).mono ?_;rintro e M ⟨rfl,rfl⟩;obtain⟨nm,A,hnm⟩:=c.map;obtain⟨fv,S,p⟩:=c.row;obtain⟨fa,fc,rfl⟩:=zn p;have TC:=A.look bu n J;have wP:=c.kc;have hfz:=c.fz;have xcx:=c.few;have Jo:=Z c;have Q:=Z A;have O:=Z p;have Dj:B+2<(M:Nat):=X M _ wP;clear c A p;obtain⟨T,q⟩:=zr ((s.1 n).getD 0);obtain⟨bb,m⟩:=zr ((s.1 n).isSome);rw[q,m]at TC;have P:=Z q;have HBB:=Z m;clear q m g;have yp6:kv≠0:=by rw[<-wR.o];exact Nat.one_ne_zero
  have vd7:kv<=2:=by rw[<-wR.o];exact R4 _
  have j1:((kv:Int) !=0)=true:=yJ;have j1':((kv:Int)==0)=false:=yJ;have I:=Z yp6;cases bb with
  |false =>
   obtain⟨N,wa,ED,VC⟩:=Q.o.put bu n J (kv:Int) kv rfl J J;have V6:=Z (show ub s n a kv=(λy=>if n=y then some kv else s.1 y,s.2)by unfold ub;rw[yz (λe=>zdv),yV I.o]);exact zd7
  |true =>
   by_cases b:T=kv
   .have j2:((T:Int) !=(kv:Int))=false:=(by simp[b]);have j3:(T !=kv)=false:=(by simp[b]);have d:=Z b;clear b;obtain⟨N,wa,ED,VC⟩:=Q.o.put bu n J (kv:Int) kv rfl J J;have V6:=Z (show ub s n a kv=(λy=>if n=y then some kv else s.1 y,s.2)by unfold ub;rw[yz (λe=>e.2.2 (by rw[P.o];exact d.o)),yV I.o]);exact zd7
   .have j2:((T:Int) !=(kv:Int))=true:=(by simp;omega);have j3:(T !=kv)=true:=(by simp[b]);have d:=Z b;clear b;go_wp2_with (at_builtin;refine gQ ?_);intro W3 YW;have C:zP M W3:=DW;have OL:=λi=>zf M #[.int .i64 5,a] 76 (0,0) i
    rw[<-YW]at OL;have HI3:=Z (Jo.o.below C);have H:=(C.cell (X _ _ S)).trans S;have HO3:=Z (O.o.QQ C);have yyj:=C.size;clear YW;refine j9 jy rfl _ _ rfl (B+3) _ s.2.length (kS s.2) rfl HO3.o ⟨(M:Nat),0,none⟩ 1 1 [.int .i64 5,.int .i64 a] rfl rfl MG ?w5V2 J J ?w5V3
    case w5V2 =>
     exact Px
    intro v4 w4 Dp VC;have L:uv (B+3) w4 v4 (s.2++[(5,a)]):=zu0;have uT:∀k,(vL fa s.2.length fc).ownBlock=some k->B+3<=k:=λk hk=>(O.o.lt k hk).1
    have gM:∀k,k<B+3->(some k:Option Nat)≠(vL fa s.2.length fc).ownBlock:=λk h1 h2=>Wu
    have q4:=VC.cell H (gM B J);have z4:w4.frozen? (zU B 0)=false:=(zV (a:=(zU B 0)) (VC.block B (X _ _ H) (gM B J))).trans HI3.o.fz;have V6:=Z (show ub s n a kv=(s.1,s.2++[(5,a)])by unfold ub;rw[yV ⟨I.o,HBB.o,λe=>d.o (P.o.symm.trans e)⟩]);have HF:=Z (MU (l:=[(5,a)]) (room':=room) HI3.o VC uT L (by simp<;>omega));obtain⟨fa4,fc4,rfl⟩:=zn L;obtain⟨N,R⟩:=zr (w4.setCell (zU B 0) (.slice fa4 (s.2.length+1) fc4));have z:(s.2++[(5,a)]).length=s.2.length+1:=zZ;rw[z,R]at HF;have HW4:=Z R;clear Dp VC uT L gM H HO3 z;go_wp2;go_ret;have hch:gD s (.num n a r) = .go true ((s.1,s.2++[(5,a)]):KB):=(by show Out.go true (ub s n a 1)=_;rw[show(1:Nat)=kv from wR.o,V6.o]);exact Wa
 |br n0 a0 fo of cl bs r =>
  obtain⟨vt,b0,ba,bc,ws,he,qE,qY,YZ,Vj,Xq,Ig,DV,R0,B4,Fp,uD⟩:=Fm;obtain⟨rfl,rfl⟩:n=n0/\a=a0:=WO;cases he;have e1:=U8 b0;have HI:=Z (show Ux lo hi w0 B w s (room+(2+bs.len)) W from HI.o);have Ib:n.length<=4000001:=by have:=wN.o;simp[Fo.wf]at this;exact this.1.1.1.1.1
  have aq:=Z (show yd lo hi w0 [.iface 199 (zU b0 0)] (.br n a fo of cl bs .nil) from⟨[],b0,ba,bc,ws,rfl,qE,qY,YZ,Vj,Xq,Ig,DV,R0,B4,Fp,rfl⟩);have BO:=Z (show(Fo.br n a fo of cl bs .nil).wf 2000000=true by have:=wN.o;simp[Fo.wf]at this|-;exact this.1);obtain⟨kv,v⟩:=zr (jB (.br n a fo of cl bs r));have g:=Z (λW' hk=>au (.br n a fo of cl bs r) (.iface 199 (zU b0 0)) n a W' hk HND.o rfl);have wR:=Z v;rw[v]at g;clear v;go_enter func82,ntmps82;go_wp2_with fail;have E:yD W W (W.alloc (.cells #[zM n,a] 195)):=(zv _ _).alloc (Y _) _;have f:=λi=>zf W #[zM n,a] 195 (0,0) i
  have c:=HI.o.below E;obtain⟨W1,D⟩:=zr (W.alloc (.cells #[zM n,a] 195));rw[D]at f c|-;have EG:=f 0;have hh1:=f 1;clear D f E;refine(g.o W1 c.keep).mono ?_;rintro e M ⟨rfl,rfl⟩;obtain⟨nm,A,hnm⟩:=c.map;obtain⟨fv,S,p⟩:=c.row;obtain⟨fa,fc,rfl⟩:=zn p;have TC:=A.look bu n J;have wP:=c.kc;have hfz:=c.fz;have xcx:=c.few;have Jo:=Z c;have Q:=Z A;have O:=Z p;have Dj:B+2<(M:Nat):=X M _ wP;clear c A p;obtain⟨T,q⟩:=zr ((s.1 n).getD 0);obtain⟨bb,m⟩:=zr ((s.1 n).isSome);rw[q,m]at TC;have P:=Z q;have HBB:=Z m;clear q m g;have yp6:kv≠0:=by rw[<-wR.o];by_cases h:fo=0<;>simp[jB,h]
  have vd7:kv<=2:=by rw[<-wR.o];exact R4 _
  have j1:((kv:Int) !=0)=true:=yJ;have j1':((kv:Int)==0)=false:=yJ;have I:=Z yp6;cases bb with
  |false =>
   obtain⟨N,wa,ED,VC⟩:=Q.o.put bu n J (kv:Int) kv rfl J J;have V6:=Z (show ub s n a kv=(λy=>if n=y then some kv else s.1 y,s.2)by unfold ub;rw[yz (λe=>zdv),yV I.o]);have HF:=Z (MO Jo.o ED VC (room':=(room+1+bs.len)) hnm J);clear ED VC;obtain⟨s1,G⟩:∃s1:KB,((λy=>if n=y then some kv else s.1 y,s.2):KB)=s1:=⟨_,rfl⟩;rw[G]at V6 HF;clear G;go_wp2_with fail;have q1:=HF.o.row;obtain⟨v1,q2,H⟩:=q1;obtain⟨fa1,fc1,rfl⟩:=zn H;have U:=Z (λW' hk=>XM b0 n a fo of cl bs W' hk aq.o BO.o);have HQ3:=Z H;refine DN (λW':z8=>zu W' B 0 (.slice fa1 (s1).2.length fc1)) 4 [0,1] 3 q2 ?_;refine dJ 2 (λK hK=>?_);go_simp;refine(U.o N.drew HF.o.keep.za5).mono ?_;rintro e W5 ⟨⟨vb,rfl,F⟩,ZZ⟩;have Fh:zP N W5:=(zv _ N).drew.trans ZZ;have j:=HF.o.below Fh;have q5:zu W5 B 0 (.slice fa1 (s1).2.length fc1):=(Fh.cell (X _ _ q2)).trans q2;have q6:=HQ3.o.QQ Fh;have z5:=j.fz;have HI5:=Z j;have V:=Z F;clear j F;refine hK.out _ _ q5 λ_=>?_;clear hK K;refine dJ 3 (λK hK=>?_);rw[yV (by rfl)];refine GC _ _ rfl (B+3) _ _ vb (s1).2 (Qm cl [] [] bs) rfl q6 rfl V.o ?w8X1 AG ?w8X3
   case w8X1 =>
    exact Tp
   case w8X3 =>
    exact Aj
  |true =>
   by_cases b:T=kv
   .have j2:((T:Int) !=(kv:Int))=false:=(by simp[b]);have j3:(T !=kv)=false:=(by simp[b]);have d:=Z b;clear b;obtain⟨N,wa,ED,VC⟩:=Q.o.put bu n J (kv:Int) kv rfl J J;have V6:=Z (show ub s n a kv=(λy=>if n=y then some kv else s.1 y,s.2)by unfold ub;rw[yz (λe=>e.2.2 (by rw[P.o];exact d.o)),yV I.o]);have HF:=Z (MO Jo.o ED VC (room':=(room+1+bs.len)) hnm J);clear ED VC;obtain⟨s1,G⟩:∃s1:KB,((λy=>if n=y then some kv else s.1 y,s.2):KB)=s1:=⟨_,rfl⟩;rw[G]at V6 HF;clear G;go_wp2_with fail;have q1:=HF.o.row;obtain⟨v1,q2,H⟩:=q1;obtain⟨fa1,fc1,rfl⟩:=zn H;have U:=Z (λW' hk=>XM b0 n a fo of cl bs W' hk aq.o BO.o);have HQ3:=Z H;refine DN (λW':z8=>zu W' B 0 (.slice fa1 (s1).2.length fc1)) 4 [0,1] 3 q2 ?_;refine dJ 2 (λK hK=>?_);go_simp;refine(U.o N.drew HF.o.keep.za5).mono ?_;rintro e W5 ⟨⟨vb,rfl,F⟩,ZZ⟩;have Fh:zP N W5:=(zv _ N).drew.trans ZZ;have j:=HF.o.below Fh;have q5:zu W5 B 0 (.slice fa1 (s1).2.length fc1):=(Fh.cell (X _ _ q2)).trans q2;have q6:=HQ3.o.QQ Fh;have z5:=j.fz;have HI5:=Z j;have V:=Z F;clear j F;refine hK.out _ _ q5 λ_=>?_;clear hK K;refine dJ 3 (λK hK=>?_);rw[yV (by rfl)];refine GC _ _ rfl (B+3) _ _ vb (s1).2 (Qm cl [] [] bs) rfl q6 rfl V.o ?w9X1 AG ?w9X3
    case w9X1 =>
     exact Tp
    case w9X3 =>
     exact Aj
   .have j2:((T:Int) !=(kv:Int))=true:=(by simp;omega);have j3:(T !=kv)=true:=(by simp[b]);have d:=Z b;clear b;go_wp2_with (at_builtin;refine gQ ?_);intro W3 YW;have C:zP M W3:=DW;have OL:=λi=>zf M #[.int .i64 5,a] 76 (0,0) i
    rw[<-YW]at OL;have HI3:=Z (Jo.o.below C);have H:=(C.cell (X _ _ S)).trans S;have HO3:=Z (O.o.QQ C);have yyj:=C.size;clear YW;refine j9 jy rfl _ _ rfl (B+3) _ s.2.length (kS s.2) rfl HO3.o ⟨(M:Nat),0,none⟩ 1 1 [.int .i64 5,.int .i64 a] rfl rfl MG ?w10V2 J J ?w10V3
    case w10V2 =>
     exact Px
    intro v4 w4 Dp VC;have L:uv (B+3) w4 v4 (s.2++[(5,a)]):=zu0;have uT:∀k,(vL fa s.2.length fc).ownBlock=some k->B+3<=k:=λk hk=>(O.o.lt k hk).1
    have gM:∀k,k<B+3->(some k:Option Nat)≠(vL fa s.2.length fc).ownBlock:=λk h1 h2=>Wu
    have q4:=VC.cell H (gM B J);have z4:w4.frozen? (zU B 0)=false:=(zV (a:=(zU B 0)) (VC.block B (X _ _ H) (gM B J))).trans HI3.o.fz;have V6:=Z (show ub s n a kv=(s.1,s.2++[(5,a)])by unfold ub;rw[yV ⟨I.o,HBB.o,λe=>d.o (P.o.symm.trans e)⟩]);have HF:=Z (MU (l:=[(5,a)]) (room':=(room+1+bs.len)) HI3.o VC uT L (by simp<;>omega));obtain⟨fa4,fc4,rfl⟩:=zn L;obtain⟨N,R⟩:=zr (w4.setCell (zU B 0) (.slice fa4 (s.2.length+1) fc4));have z:(s.2++[(5,a)]).length=s.2.length+1:=zZ;rw[z,R]at HF;have HW4:=Z R;clear Dp VC uT L gM H HO3 z;obtain⟨s1,G⟩:∃s1:KB,((s.1,s.2++[(5,a)]):KB)=s1:=⟨_,rfl⟩;rw[G]at V6 HF;clear G;go_wp2_with fail;clear R;have q1:=HF.o.row;obtain⟨v1,q2,H⟩:=q1;obtain⟨fa1,fc1,rfl⟩:=zn H;have U:=Z (λW' hk=>XM b0 n a fo of cl bs W' hk aq.o BO.o);have HQ3:=Z H;refine DN (λW':z8=>zu W' B 0 (.slice fa1 (s1).2.length fc1)) 4 [0,1] 3 q2 ?_;refine dJ 2 (λK hK=>?_);go_simp;refine(U.o N.drew HF.o.keep.za5).mono ?_;rintro e W5 ⟨⟨vb,rfl,F⟩,ZZ⟩;have Fh:zP N W5:=(zv _ N).drew.trans ZZ;have j:=HF.o.below Fh;have q5:zu W5 B 0 (.slice fa1 (s1).2.length fc1):=(Fh.cell (X _ _ q2)).trans q2;have q6:=HQ3.o.QQ Fh;have z5:=j.fz;have HI5:=Z j;have V:=Z F;clear j F;refine hK.out _ _ q5 λ_=>?_;clear hK K;refine dJ 3 (λK hK=>?_);rw[yV xV];refine GC _ _ rfl (B+3) _ _ vb (s1).2 (Qm cl [] [] bs) rfl q6 rfl V.o ?w10X1 AG ?w10X3
    case w10X1 =>
     exact Tp
    case w10X3 =>
     exact Aj
def GH(m:Nat×Nat)(l:List (Nat×Nat)):Nat×Nat:=l.foldl (λm x=>if x.2<m.2 then x else m) m
abbrev aj(x:Nat×Nat):Value := .agg #[(x.1:Nat),(x.2:Nat)]
def ag(x y:Nat×Nat)(w:z8):zC prog 86 #[aj x,aj y] w λe w'=>e = .returned (.int .i64 (V0 (x.2:Nat) (y.2:Nat)))/\zP w w':=by
 have a:=Z (λW=>Tryz.cmp_Compare_int (x.2:Nat) (y.2:Nat) W);go_enter func86,ntmps86;go_wp2_with fail;refine(a.o _).mono ?_;rintro e w' ⟨rfl,rfl⟩;go_wp2;go_ret;exact zg3
def BP(l:List (Nat×Nat))(i:Nat)(h:i<l.length):(kS l)[i*2]? = some (.int .i64 (l[i].1:Nat))/\(kS l)[i*2+1]? = some (.int .i64 (l[i].2:Nat)):=by
 induction l generalizing i with
 |nil=>simp at h
 |cons a t d =>
  cases i with
  |zero=>exact⟨rfl,rfl⟩
  |succ i =>
   have:=d i (by simpa using h);have b:(i+1)*2=i*2+2:=J;have c:kS (a::t) = .int .i64 (a.1:Nat) :: .int .i64 (a.2:Nat)::kS t:=rfl;rw[b,c];simpa using this
def pY(m:Nat×Nat)(l:List (Nat×Nat))(i:Nat)(h:i<l.length):GH m (l.take (i+1))=if l[i].2<(GH m (l.take i)).2 then l[i]else GH m (l.take i):=by
 unfold GH;rw[yj h,TX];rfl
def R5(x:Nat×Nat)(l:List (Nat×Nat))(base:Nat)(v:Value)(w:z8)(hl:l.length<=2000000000)(hF:uv base w v (x::l)) :
  zC prog 85 #[v,.func (.func 86) #[] #[]] w λe w'=>e = .returned (aj (GH x l))/\zP w w':=by
 obtain⟨g,cap,rfl,Fg,I7,f⟩:=xf hF zZ;obtain⟨n,hn⟩:=zr ((x::l).length);have ot:=λ(args:Array Value) (w:z8)=>enters_of func86 yq rfl args w
 have c:=Z (λi (h:i<(x::l).length)=>zg ((f (i*2) J).trans (BP (x::l) i h).1) ((f (i*2+1) J).trans (BP (x::l) i h).2));have b:=(c.o 0 zZ).1;have d:=(c.o 0 zZ).2;simp only[xrd,uE,List.getElem_cons_zero]at b d;obtain⟨x1,x2⟩:=x;have R:n=l.length+1:=by rw[<-hn];simp
 have j1:decide ((n:Int)<1)=false:=yJ;have HN:=Z hn;rw[hn];have HN1:=Z R;have hz:1<=n:=J;have EV:n<=2000000001:=J;have P:g<(w:Nat):=I7;clear hF f hn R;have F:yD w w ((w.alloc (.cells #[.int .i64 0,.int .i64 0] 76)).alloc (.cells #[x1,x2] 76)):=((zv _ _).alloc (Y _) _).alloc zZ _;have A:=λi=>zf (w.alloc (.cells #[.int .i64 0,.int .i64 0] 76)) #[x1,x2] 76 (0,0) i
 have q:∀i,((w.alloc (.cells #[.int .i64 0,.int .i64 0] 76)).alloc (.cells #[x1,x2] 76)).cell? ⟨(w:Nat),i,none⟩=(#[.int .i64 0,.int .i64 0]:Array Value)[i]? := λi=>by
  rw[zc _ _ _ (by show (w:Nat)<_;simp)];exact zf w _ _ _ _
 rw[show(w.alloc (.cells #[.int .i64 0,.int .i64 0] 76)).heap.size=(w:Nat)+1 by simp]at A;have t:∀i,((w.alloc (.cells #[.int .i64 0,.int .i64 0] 76)).alloc (.cells #[x1,x2] 76)).frozen? ⟨(w:Nat)+1,i,none⟩=false:=λi=>by
  rw[show (w:Nat)+1=(w.alloc (.cells #[.int .i64 0,.int .i64 0] 76)).heap.size by simp];simp
 have s:∀i,((w.alloc (.cells #[.int .i64 0,.int .i64 0] 76)).alloc (.cells #[x1,x2] 76)).frozen? ⟨(w:Nat),i,none⟩=false:=λi=>by
  rw[zV (xZ _ _ _ (by show (w:Nat)<_;simp))];simp
 obtain⟨W0,E⟩:=zr ((w.alloc (.cells #[.int .i64 0,.int .i64 0] 76)).alloc (.cells #[x1,x2] 76));rw[E]at F A q s t;obtain⟨U,HW0,L,M,V,EF⟩:=EZ F E A q s t;clear F A q s t E;go_enter func85,ntmps85;go_wp2_with fail;clear b d;go_loopw [6] (λiv wr=>∃(i:Nat) (m:Nat×Nat),iv = .int .i64 (i:Nat)/\1<=i/\i<=n/\GH (x1,x2) (l.take (i - 1))=m/\zu wr ((w:Nat)+1) 0 (m.1:Nat)/\zu wr ((w:Nat)+1) 1 (m.2:Nat)/\(∀i,wr.frozen? ⟨(w:Nat)+1,i,none⟩=false) /\
  (∃u v,zu wr (w:Nat) 0 u/\zu wr (w:Nat) 1 v)/\(∀i,wr.frozen? ⟨(w:Nat),i,none⟩=false)/\zP w wr) (λiv _=>n - (intOf iv).toNat)
 case atStart =>
  rw[HW0.o];exact⟨1,(x1,x2),rfl,Y _,hz,rfl,L.o 0,L.o 1,EF.o,⟨_,_,M.o 0,M.o 1⟩,V.o,U.o⟩
 case round =>
  obtain⟨i,m,rfl,hi1,Ab,hm,b,d,S,⟨u0,v0,q,G⟩,B,O⟩:=hrel;obtain⟨m1,m2⟩:=m;dsimp only at b d;obtain⟨HM,HZ1,HZ0,z⟩:=hdd hm S B O;clear hm O;by_cases uo:i<n
  .have k2:decide ((i:Int)<(n:Int))=true:=(by simp;omega);have D:i<((x1,x2)::l).length:=V3;obtain⟨d0,d1⟩:=c.o i D;have Q:((x1,x2)::l)[i]=l[i - 1]' M5:=by
    obtain⟨k,rfl⟩:∃k,i=k+1:=⟨i - 1,J⟩;simp
   rw[Q]at d0 d1;obtain⟨y,hy⟩:∃y,l[i - 1]' M5=y:=⟨_,rfl⟩;rw[hy]at d0 d1;have V5:=Z (show GH (x1,x2) (l.take i)=if y.2<m2 then y else (m1,m2) by
    have h:=pY (x1,x2) l (i - 1) M5;rw[show i - 1+1=i by omega,HM.o,hy]at h;exact h)
   obtain⟨T,r⟩:=y;dsimp only at d0 d1 V5;have e0:=(z.o.cell (p:=(zU g (i*2))) P).trans d0;have e1:=(z.o.cell (p:=(zU g (i*2+1))) P).trans d1;have hCM:=Z (λW=>ag (T,r) (m1,m2) W);have N:zu wr.drew g (i*2) T/\zu wr.drew g (i*2+1) r/\zu wr.drew ((w:Nat)+1) 0 m1/\zu wr.drew ((w:Nat)+1) 1 m2:=⟨e0,e1,b,d⟩;clear d0 d1 hy Q D;go_wp2_with fail;refine V1 (λW':z8=>zu W' g (i*2) T/\zu W' g (i*2+1) r/\zu W' ((w:Nat)+1) 0 m1/\zu W' ((w:Nat)+1) 1 m2) [0,1,2,3,4,5] 2 N ?_;refine gX 6 (λK hK=>?_);go_simp;refine(hCM.o wr.drew).mono ?_;rintro e w2 ⟨rfl,qY⟩;have a:zP wr w2:=(zv _ wr).drew.trans qY;have H:(w:Nat)+1<(wr:Nat):=X _ _ b;have QU:(r<m2/\V0 (r:Int) (m2:Int) = -1)\/(¬r<m2/\V0 (r:Int) (m2:Int)=0)\/(¬r<m2/\V0 (r:Int) (m2:Int)=1):=by
    unfold V0;by_cases h:(r:Int)<(m2:Int)
    .exact .inl ⟨J,yV h⟩
    .by_cases h2:(r:Int) > (m2:Int)
     .exact .inr (.inr ⟨J,by rw[yz h,yV h2]⟩)
     .exact .inr (.inl ⟨J,by rw[yz h,yz h2]⟩)
   dsimp only;have f0:=(a.cell (p:=((w:Nat)+1,0)) H).trans b;have f1:=(a.cell (p:=((w:Nat)+1,1)) H).trans d;have f2:=(a.cell (p:=⟨g,i*2,none⟩) (by show g<_;omega)).trans e0;have f3:=(a.cell (p:=⟨g,i*2+1,none⟩) (by show g<_;omega)).trans e1;have g0:=(a.cell (p:=(w,0)) AJ).trans q;have g1:=(a.cell (p:=(w,1)) (by show (w:Nat)<_;omega)).trans G;have z1:∀i,w2.frozen? ⟨(w:Nat)+1,i,none⟩=false:=λi=>(a.frozen (p:=⟨(w:Nat)+1,i,none⟩) H).trans (HZ1.o i)
   have z0:∀i,w2.frozen? ⟨(w:Nat),i,none⟩=false:=λi=>(a.frozen (p:=⟨(w:Nat),i,none⟩) AJ).trans (HZ0.o i)
   have xdq:=z.o.trans (a.mono J);have xdv:=Z z1;have xdu:=Z z0;have y0:=z1 0;have y1':=z1 1;clear z1 z0 N e0 e1 b d q G a;rcases QU with⟨hy,QU⟩|⟨hy,QU⟩|⟨hy,QU⟩
   .rw[QU];have HS:=Z (V5.o.trans (yV hy));clear QU hy;refine hK.out _ _ ⟨f2,f3,f0,f1⟩ λ_=>?_;clear hK K;refine VO [7] 0 ⟨f2,f3,f0,f1⟩ ?_;refine Y3 ?_ _;go_wp2;go_roundw
    case rel =>
     exact⟨i+1,(T,r),zZ,J,J,by rw[Z1];exact HS.o,by rw[zo,yz zZ,zo,yV rfl,f0];rfl,by rw[zo,yV rfl,zo,yz zZ,f1];rfl,
      λj=>by rw[zO,zO];exact xdv.o j,⟨_,_,(by rw[zo,yz zZ,zo,yz zZ];exact g0),(by rw[zo,yz zZ,zo,yz zZ];exact g1)⟩,
      λj=>by rw[zO,zO];exact xdu.o j,vr (vr xdq J) J⟩
    case measure=>simp only[intOf];omega
   .exact zfg
   .exact zfg
  .have k2:decide ((i:Int)<(n:Int))=false:=(by simp;omega);have C:GH (x1,x2) l=(m1,m2):=by
    rw[<-HM.o,yr M5]
   have I:=Z C;have z00:=B 0;have z01:=B 1;clear C B S;have k0:zu ((wr.setCell (zU (w:Nat) 0) m1).setCell (zU (w:Nat) 1) m2) (w:Nat) 0 m1:=(by rw[zo,yz zZ,zo,yV rfl,q];rfl);have k1:zu ((wr.setCell (zU (w:Nat) 0) m1).setCell (zU (w:Nat) 1) m2) (w:Nat) 1 m2:=(by rw[zo,yV rfl,zo,yz zZ,G];rfl);go_wp2;refine yK (v := .agg #[m1,m2]) ?_ rfl ?_
   .simp[yN,results85,go_sem,k0,k1]
   rw[I.o];exact⟨rfl,vr (vr z.o (Y _)) (Y _)⟩
def af(s:KB)(x:Fo):∃s',gD s x = .go true s':=by
 cases x<;>exact⟨_,rfl⟩
def jx:∀(f:Fo) (s:KB),∃s',vx gD f s = .go true s'
 |.nil,s=>⟨s,rfl⟩
 |.text _ r,s=>jx r s
 |.hash r,s=>jx r s
 |.put n a r,s=>by
  obtain⟨b,h1⟩:=af s (.put n a .nil);rw[vx,h1];exact jx r b
 |.num n a r,s=>by
  obtain⟨b,h1⟩:=af s (.num n a .nil);rw[vx,h1];exact jx r b
 |.br n a f o c bs r,s=>by
  obtain⟨b,h1⟩:=af s (.br n a f o c bs .nil);obtain⟨d,h2⟩:=jx bs b;rw[vx,h1];show ∃s',(vx gD bs b).then _=_;rw[h2];exact jx r d
 |.xR k a m r,s=>by
  obtain⟨b,h1⟩:=jx m s;rw[vx,h1];exact jx r b
def gN(f:Fo):List (Nat×Nat):=match vx gD f (λ_=>none,[])with |.go _ s=>s.2 |.TD _ s=>s.2
def fG(f:Fo):Option (Nat×Nat):=match gN f with |[]=>none|x::l=>some (GH x l)
def vd8(r:Option (Nat×Nat))(w:z8)(e:xU)(w':z8):Prop :=
 (match r with
  |none=>e = .returned .nilIface
  |some (n,a)=>∃b,e = .returned (.iface 72 (.pointer (some ⟨b,0,none⟩)))/\zu w' b 0 n/\zu w' b 1 a)/\zP w w'
def pX(f:Fo)(a:Option yM)(c:Nat)(vs:List Value)(w:z8)(hm:f.yT=true)(hw:f.wf 2000000=true)(hl:f.len<=2000000)(hc:f.cnt<=1000000000)(t:U4 lo hi w a vs)(r:yd lo hi w vs f)(hhi:hi<=(w:Nat)) :
  zC prog 40 #[.slice a f.len c] w (vd8 (fG f) w):=by
 have Em:=@run_makeMap prog;have hmf:∀(fn:Fn) (first cap:Array Value) (w:z8),(uV fn first cap).run prog w = .ok (.func fn first cap) w:=λ_ _ _ _=>rfl
 obtain⟨B,hB⟩:=zr (w:Nat);have HB:=Z hB;have S:At lo hi w (.func (.func 82) #[] #[(B+2,0),(B,0)]) (Ux lo hi w B w) gD :=
  ⟨⟨_,_,rfl,λargs w=>enters_of func82 yq rfl args w,λs F W x u n a K N P hh=>yv5 x u n a s F W K N P hh⟩,λs b W h=>h.keep,λs b W W' h hb=>h.below hb,λs b b' W h hb=>h.less hb⟩
 have H:=Z (λW K=>R3 S (zE f+1) f (dQ _) hm hw hl ((λ_=>none),[]) 0 W a c vs K t r);obtain⟨s,hs⟩:=jx f ((λ_=>none),[]);rw[hs]at H;have D:gN f=s.2:=We;have y:=Z (show fG f=match s.2 with |[]=>none|x::l=>some (GH x l)by unfold fG;rw[D]);have O:∀V o2 o3,((w.alloc V).alloc o2).alloc o3=((w.alloc V).alloc o2).alloc o3:=λ_ _ _=>rfl
 have A:Ux lo hi w B w ((λ_=>none),[]) (0+f.cnt) (((w.alloc (.cells #[.slice none 0 0] 189)).alloc (.map #[] 0)).alloc (.cells #[.map (some (B+1))] 190)):=by
  have h1:(w.alloc (.cells #[.slice none 0 0] 189)).heap.size=B+1:=by simp[hB]
  have h2:((w.alloc (.cells #[.slice none 0 0] 189)).alloc (.map #[] 0)).heap.size=B+2:=by simp[hB]
  have b1:yD w w (w.alloc (.cells #[.slice none 0 0] 189)):=(zv _ _).alloc (Y _) _;have b2:=λo=>(zv (w.alloc (.cells #[.slice none 0 0] 189)).heap.size (w.alloc (.cells #[.slice none 0 0] 189))).alloc (Y _) o
  have b3:=λo=>(zv ((w.alloc (.cells #[.slice none 0 0] 189)).alloc (.map #[] 0)).heap.size ((w.alloc (.cells #[.slice none 0 0] 189)).alloc (.map #[] 0))).alloc (Y _) o
  have R:=(b1.trans ((b2 (.map #[] 0)).mono J)).trans ((b3 (.cells #[.map (some (B+1))] 190)).mono J);have c1:=zf w #[.slice none 0 0] 189 (0,0) 0;rw[hB]at c1;have Q:(w.alloc (.cells #[.slice none 0 0] 189)).frozen? (zU B 0)=false:=by rw[<-hB];simp
  have c2:=jU.made 196 (w.alloc (.cells #[.slice none 0 0] 189));rw[h1]at c2;have c3:=zf ((w.alloc (.cells #[.slice none 0 0] 189)).alloc (.map #[] 0)) #[.map (some (B+1))] 190 (0,0) 0;rw[h2]at c3;refine⟨(vK J).below R,J,⟨0,c2.below (b3 _),J⟩,⟨.slice none 0 0,?_,xx _ _ _ _⟩,c3,?_,yJ,by have h:=R;rw[hB]at h;exact h⟩
  .rw[(b3 _).cell (p:=(zU B 0)) Mg,(b2 _).cell (p:=(zU B 0)) Mg];exact c1
  .rw[(b3 _).frozen (p:=(zU B 0)) Mg,(b2 _).frozen (p:=(zU B 0)) Mg];exact Q
 have z:=Z A;clear A hs D S O t r;go_enter func40,ntmps40;go_wp2_with fail;refine(H.o _ z.o).mono ?_;rintro e w2 ⟨rfl,j⟩;obtain⟨v,hc,hF⟩:=j.row;obtain⟨fa,fc,rfl⟩:=zn hF;have HF:=Z hF;have d:zP w w2:=by rw[HB.o];exact j.dG
 have k:=j.few;clear j hF H z;obtain⟨s1,l⟩:=s;dsimp only at *;cases l with
 |nil =>
  have G:=Z (show fG f=none from y.o);go_wp2;go_ret;rw[G.o];exact⟨rfl,d⟩
 |cons x l =>
  have G:=Z (show fG f=some (GH x l)from y.o);have q:(x::l).length=l.length+1:=rfl;rw[q]at hc;have j1:(((l.length+1:Nat):Int)==0)=false:=yJ;have I:=Z (R5 x l (B+3) (.slice fa (l.length+1) fc) w2 (by simp at k;omega) HF.o);clear q k;go_wp2_with fail;refine I.o.mono ?_;rintro e w3 ⟨rfl,M⟩;obtain⟨m,E⟩:=zr (GH x l);obtain⟨T,U⟩:=m;rw[E]at G|-;clear E;have g:=d.trans (M.mono d.size);have L:=(zv (w3:Nat) w3).alloc (Y _) (.cells #[T,U] 76);have C:=λi=>zf w3 #[T,U] 76 (0,0) i
  go_wp2;go_ret;rw[G.o];exact⟨⟨_,rfl,C 0,C 1⟩,g.trans (L.mono g.size)⟩
variable{N:Nat}
def Fo.Gz:∀f g:Fo,f.wf N=true->g.wf N=true->(f.app g).wf N=true
 |.nil,g,_,h=>h
 |.text t r,g,h,h2=>Fo.Gz r g h h2
 |.hash r,g,h,h2=>Fo.Gz r g h h2
 |.put n a r,g,h,h2=>iK
 |.num n a r,g,h,h2=>iK
 |.br n a f o c b r,g,h,h2=>iK
 |.xR k a m r,g,h,h2=>iK
def Fo.Ul:∀f g:Fo,(f.app g).cnt=f.cnt+g.cnt
 |.nil,g=>by simp[Fo.app,Fo.cnt]
 |.text t r,g=>Fo.Ul r g
 |.hash r,g=>Fo.Ul r g
 |.put n a r,g=>LO
 |.num n a r,g=>LO
 |.br n a f o c b r,g=>LO
 |.xR k a m r,g=>LO
structure jP(f:Fo)(n:Nat):Prop where
 msg:f.yT=true
 wf:f.wf 2000000=true
 len:f.len<=n
 cnt:f.cnt<=n
def jP.nil:jP .nil 0:=⟨rfl,rfl,Y _,Y _⟩
def jP.app{g:Fo}(h:jP f n)(k:jP g m):jP (f.app g) (n+m) :=
 ⟨Fo.kI _ _ h.msg k.msg,Fo.Gz _ _ h.wf k.wf,by rw[Fo.jD];have:=h.len;have:=k.len;omega,by rw[Fo.Ul];have:=h.cnt;have:=k.cnt;omega⟩
def jP.text(t:Wd):jP (.text t .nil) 1:=⟨rfl,rfl,Y _,zQ _⟩
def jP.more(h:jP f n)(k:n<=m):jP f m:=⟨h.msg,h.wf,zj h.len k,zj h.cnt k⟩
def LN:∀(f g:Fo),(f.app g).wf N=true->f.wf N=true
 |.nil,g,_=>rfl
 |.text t r,g,h=>LN r g h
 |.hash r,g,h=>LN r g h
 |.put n a r,g,h=>iF
 |.num n a r,g,h=>iF
 |.br n a f o c b r,g,h=>iF
 |.xR k a m r,g,h=>iF
def jP.ye(h:jP f n)(t:Wd):jP (f.ye t) (n+1):=by
 cases c:f.xJ with
 |none=>rw[qy f t c];exact h.app (jP.text t)
 |some s =>
  obtain⟨pre,h1,h2,d⟩:=vW f s c;have hw:=h.wf;have b:=h.len;have a:=h.cnt;rw[h1]at hw b a;rw[d];refine⟨Fo.kI _ _ (h2 h.msg) rfl,Fo.Gz _ _ (LN _ _ hw) rfl,?_,?_⟩
  .rw[Fo.jD]at b|-;simp only[Fo.len]at b|-;omega
  .rw[Fo.Ul]at a|-;simp only[Fo.cnt]at a|-;omega
structure lG(f:Fo)(n:Nat):Prop where
 yv6:f.xW=true
 wf:f.wf 2000000=true
 cnt:f.cnt+f.len<=n
def Jq(rs:List Int)(m:jH):Prop:=∀num i f j,m num i = .ok (f,j)->i<=j/\jP f (j - i)
def lF{rs:List Int}{r:Int}(h:zt rs i=r)(hr:r≠-1):i<rs.length:=by
 apply yu;intro hc;rw[kM J]at h;exact hr h.symm
section
variable {rs:List Int} (Qf:rs.length<=1000000)
include Qf
def IY(h:kO rs i = .ok (x,j)):x.length<=4000000/\i<j:=by
 refine⟨?_,jl h⟩;unfold kO at h;split at h
 .cases h
 .cases h;have:=ZT rs i (ky rs i);omega
def aZ(h:qO rs i = .ok (x,j)):x.length<=4000000/\i<j:=by
 refine⟨?_,XH h⟩;unfold qO at h;split at h
 .cases h
 .cases h;have:=ZT rs i (qk rs i);omega
def za6{num:Bool}(h:YV rs num i = .ok (x,j)):x.length<=4000001/\i<j:=by
 unfold YV at h;split at h
 .obtain⟨a,q,h1,h2⟩:=zG h;cases h2;have:=aZ Qf h1;simp;omega
 .obtain⟨a,q,h1,h2⟩:=zG h;split at h2
  .cases h2
  .cases h2;have:=IY Qf h1;omega
def pV{num:Bool}(hm:∀m,msg=some m->Jq rs m)(h:bH rs msg num i = .ok (f,j)):i<j/\lG f (j - i)/\f.len=1:=by
 unfold bH at h;obtain⟨k,a,h1,h2⟩:=zG h;obtain⟨u,b,o,l⟩:=zG h2;have t:=za6 Qf h1;have v:=(yR o).2;have w:=ya rs a;cases msg with
 |none=>cases l
 |some m =>
  obtain⟨g,c,p,q⟩:=zG (show(m num b).then _=_ from l);obtain⟨u2,z,r,s⟩:=zG q;obtain⟨x,d⟩:=hm m rfl _ _ _ _ p;have n:=yR r;have y:=ya rs z;have A:=lF n.1 zR;cases s;have B:=d.len;have hc:=d.cnt;refine⟨J,⟨rfl,?_,?_⟩,rfl⟩
  .have e:g.len<=2000000:=(by omega);simp only[Fo.wf,zx,vJ];exact⟨⟨⟨⟨J,d.msg⟩,e⟩,d.wf⟩,trivial⟩
  .simp only[Fo.cnt,Fo.len];omega
def BR{num:Bool}(hm:∀m,msg=some m->Jq rs m):∀(n:Nat) (acc:Fo) (i j b:Nat) (f:Fo),q9 rs msg num n acc i = .ok (f,j)->lG acc b->i<=j/\lG f (b+(j - i))
 | 0,acc,i,j,b,f,h,_=>xc
 |n+1,acc,i,j,b,f,h,ha=>by
  rw[q9]at h;split at h
  .cases h;exact⟨Y _,by simpa using ha⟩
  .obtain⟨g,q,h1,h2⟩:=zG h;obtain⟨d,c,_⟩:=pV Qf hm h1;have a:lG (acc.app g) (b+(q - i)):=⟨Fo.gi _ _ ha.yv6 c.yv6,Fo.Gz _ _ ha.wf c.wf,by rw[Fo.Ul,Fo.jD];have:=ha.cnt;have:=c.cnt;omega⟩;obtain⟨e,hf⟩:=BR hm n _ _ _ _ _ h2 a;exact⟨J,⟨hf.yv6,hf.wf,by have:=hf.cnt;omega⟩⟩
def pU(hm:∀m,msg=some m->Jq rs m)(h:gC rs msg i = .ok (f,j)):i<j/\jP f (j - i):=by
 unfold gC at h;obtain⟨u,a,h1,h2⟩:=zG h;obtain⟨nm,b,A,k⟩:=zG h2;have F:=(yR h1).2;have G:=ya rs a;have H:=IY Qf A;have I:=ya rs b;clear h h1 h2 A;split at k
 .obtain⟨u,z,n,e⟩:=zG k;have:=(yR n).2;cases e;exact zgf
 .obtain⟨O,c,n,e⟩:=zG k;have K:=jl n;have L:=ya rs (yt rs b+1);have M:=ya rs c;clear k n;split at e
  .obtain⟨u,z,w,x⟩:=zG e;have:=(yR w).2;cases x;exact zgf
  .split at e
   .cases e
   .next form g =>
    obtain⟨u,d,w,x⟩:=zG e;obtain⟨o,l,D,p⟩:=zG x;obtain⟨bs,q,r,s⟩:=zG p;obtain⟨u,z,t,v⟩:=zG s;have:=(yR w).2;have:=ya rs d;have:=Me D;obtain⟨N,hb⟩:=BR Qf hm _ _ _ _ 0 _ r ⟨rfl,rfl,Y _⟩;have C:=yR t;have B:=lF C.1 zR;have E:=hb.cnt;have y:=BE g;cases v;refine⟨J,rfl,?_,by simp[Fo.len];omega,by simp[Fo.cnt];omega⟩;simp only[Fo.wf,zx,vJ];exact⟨⟨⟨⟨⟨J,y⟩,hb.yv6⟩,J⟩,hb.wf⟩,trivial⟩
def Za{num:Bool}(hm:∀m,msg=some m->Jq rs m):∀(n:Nat) (acc:Fo) (i j b:Nat) (f:Fo),vV rs msg num n acc i = .ok (f,j)->jP acc b->i<=j/\jP f (b+(j - i))
 | 0,acc,i,j,b,f,h,_=>xc
 |n+1,acc,i,j,b,f,h,ha=>by
  rw[vV]at h;split at h
  .cases h;exact⟨Y _,by simpa using ha⟩
  split at h
  .obtain⟨g,q,h1,h2⟩:=zG h;obtain⟨d,c⟩:=pU Qf hm h1;obtain⟨a,hf⟩:=Za hm n _ _ _ _ _ h2 (ha.app c);exact⟨J,hf.more J⟩
  split at h
  .obtain⟨a,hf⟩:=Za hm n _ _ _ _ _ h (ha.app (g := .hash .nil) (m:=1) ⟨rfl,rfl,Y _,zQ _⟩);exact⟨J,hf.more J⟩
  .have:=Jz rs num i;obtain⟨a,hf⟩:=Za hm n _ _ _ _ _ h (ha.ye _);exact⟨J,hf.more J⟩
def IX:∀n,Jq rs (gH rs n)
 | 0,num,i,f,j,h=>by
  rw[gH]at h;have:=Za Qf (λm e=>gJ) _ _ _ _ 0 _ h jP.nil;simpa using this
 |n+1,num,i,f,j,h=>by
  rw[gH]at h;have:=Za Qf (λm e=>by cases e;exact IX n) _ _ _ _ 0 _ h jP.nil;simpa using this
end
def ZV{rs:List Int}{num:Bool}:∀(n:Nat) (acc:Fo) (i j:Nat) (f:Fo),vV rs msg num n acc i = .ok (f,j)->i<=rs.length->j<=rs.length
 | 0,acc,i,j,f,h,_=>xc
 |n+1,acc,i,j,f,h,hi=>by
  rw[vV]at h;split at h
  .cases h;exact hi
  next h0 =>
  have a:i<rs.length:=by
   apply yu;intro hc;exact h0 (.inl (kM J))
  split at h
  .obtain⟨g,q,h1,h2⟩:=zG h;exact ZV n _ _ _ _ h2 (Iq h1).2
  split at h
  .exact ZV n _ _ _ _ h a
  .exact ZV n _ _ _ _ h (PM a).2
def Uv(h:xw l = .ok f):jP f 1000:=by
 unfold xw at h;split at h
 .cases h
 split at h
 .cases h
 next h1 _ =>
 have Qf:=Uh l;have hr:(xz l).length<=1000:=J;cases hp:gu (xz l) with
 |error e=>rw[hp]at h;cases h
 |ok x =>
  rw[hp]at h;cases h;unfold gu at hp;obtain⟨g,q,h2,a⟩:=zG (show _=yzx (x.1,x.2)from hp);have b:=(IX J 5 _ _ _ _ h2).2;have he:q<=(xz l).length:=ZV _ _ _ _ _ h2 (zQ _);split at a
  .cases a;exact b.more J
  .cases a
def um(l:List UInt8):Except (Nat×Nat) Fo :=
 match xw l with
 |.error e => .error e
 |.ok f=>match fG f with|none => .ok f|some e => .error e
def xcu(r:Except (Nat×Nat) Fo)(w:z8)(e:xU)(w':z8):Prop :=
 (match r with
  |.error (n,a)=>∃v b,e = .returned (.tuple #[v,.iface 72 (.pointer (some ⟨b,0,none⟩))])/\(∃a n c,v = .slice a n c)/\zu w' b 0 (.int .i64 n)/\zu w' b 1 (.int .i64 a)
  |.ok f=>(∃a c vs,e = .returned (.tuple #[.slice a f.len c,.nilIface])/\U4 (w:Nat) (w':Nat) w' a vs/\yd (w:Nat) (w':Nat) w' vs f)/\jP f 1000)/\zP w w'
def R6(s:ByteArray)(w:z8)(hs:s.size<=9223372036854775807)(H:du 3 4 w)(G:qx w) :
  zC prog 23 #[.string s] w (xcu (um s.data.toList) w):=by
 have E:=Z (pj s w hs H G);have z:=Z (show um s.data.toList=match xw s.data.toList with |.error e => .error e |.ok f=>match fG f with|none => .ok f|some e => .error e from rfl);have C:=Z (λf=>Uv (l:=s.data.toList) (f:=f));obtain⟨r,hr⟩:=zr (xw s.data.toList);rw[hr]at E z C;clear H G hr;go_enter func23,ntmps23;go_wp2_with fail;refine E.o.mono ?_;rintro e w1 ⟨j,m⟩;clear E;cases r with
 |error en =>
  obtain⟨n,a⟩:=en;obtain⟨b,rfl,c0,c1⟩:=j;have x:=Z (show um s.data.toList = .error (n,a)from z.o);go_wp2;go_ret2
  rw[x.o];exact⟨⟨_,b,rfl,⟨_,_,_,rfl⟩,c0,c1⟩,m⟩
 |ok f =>
  obtain⟨⟨a,c,vs,rfl,h,g⟩,y⟩:=j;have t:=C.o f rfl;obtain⟨v,u,D,B,x⟩:=Jl h g t (pX f a c vs w1 t.msg t.wf (by have:=t.len;omega) (by have:=t.cnt;omega) h g (Y _)) (show um s.data.toList=match fG f with|none => .ok f|some e => .error e from z.o);obtain⟨q,j⟩:=zr (fG f);rw[j]at B x;clear h g y t j z C;go_wp2_with fail;refine B.o.mono ?_;rintro e w2 ⟨j,d⟩;clear B;have i:=m.trans (d.mono m.size);cases q with
  |none =>
   obtain rfl:=j;have F:=Z (show um s.data.toList = .ok f from x.o);have A:xh (w:Nat) (w1:Nat) w1 w2:=⟨d.size,λk _ A=>d.block k A⟩;go_wp2;go_ret2
   rw[F.o];exact⟨⟨⟨a,c,vs,rfl,v.o.keep A (Y _) d.size,yd.keep A (Y _) d.size _ _ u.o⟩,D.o⟩,i⟩
  |some e =>
   obtain⟨n,p⟩:=e;obtain⟨b,rfl,c0,c1⟩:=j;have F:=Z (show um s.data.toList = .error (n,p)from x.o);go_wp2;go_ret2
   rw[F.o];exact⟨⟨_,b,rfl,⟨_,_,_,rfl⟩,c0,c1⟩,i⟩
def NZ{α:Type}(x:qm α):Prop:=∀e,x = .error e->e.1≠0
section
variable {α β:Type}
def NZ.ok(x:α×Nat):NZ (.ok x:qm α):=λ_ h=>xc
def NZ.err{a:Nat}(h:n≠0):NZ (.error (n,a):qm α):=λ_ e=>by cases e;exact h
def NZ.then{x:qm α}{k:α->Nat->qm β}(h:NZ x)(b:∀a i,NZ (k a i)):NZ (x.then k):=by
 cases x with
 |error e=>intro e' he;cases he;exact h e rfl
 |ok p=>exact b p.1 p.2
end
section
variable (rs:List Int)
def XN(r:Int)(i:Nat):NZ (uA rs r i):=by unfold uA;split;exact .ok _;exact .err zR
def Mo(i:Nat):NZ (kO rs i):=by unfold kO;split;exact .err zR;exact .ok _
def R7(i:Nat):NZ (qO rs i):=by unfold qO;split;exact .err zR;exact .ok _
def yp7(num:Bool)(i:Nat):NZ (YV rs num i):=by
 unfold YV;split
 .exact(R7 rs _).then λ_ _ => .ok _
 .exact(Mo rs _).then λ_ _=>by split;exact .err zR;exact .ok _
def yv7(m:Option jH)(hm:∀x,m=some x->∀b i,NZ (x b i))(num:Bool)(k:Wd)(i o l:Nat):NZ (Ka rs m num k i o l):=by
 cases m with
 |none=>exact .err zR
 |some x=>exact(hm x rfl num l).then λ_ _=>(XN rs _ _).then λ_ _ => .ok _
def yp8(m:Option jH)(hm:∀x,m=some x->∀b i,NZ (x b i))(num:Bool)(i:Nat):NZ (bH rs m num i) :=
 (yp7 rs num i).then λ_ _=>(XN rs _ _).then λ_ _=>yv7 rs m hm _ _ _ _ _
def lD(m:Option jH)(hm:∀x,m=some x->∀b i,NZ (x b i))(num:Bool):∀(n:Nat) (acc:Fo) (i:Nat),NZ (q9 rs m num n acc i)
 | 0,_,_ => .err zR
 |n+1,acc,i=>by
  unfold q9;split
  .exact .ok _
  .exact(yp8 rs m hm num i).then λ_ _=>lD m hm num n _ _
def yp9(form i:Nat):NZ (U5 rs form i):=by
 unfold U5;split
 .exact(R7 rs _).then λ_ _ => .ok _
 .exact .ok _
def ypz(m:Option jH)(hm:∀x,m=some x->∀b i,NZ (x b i))(i:Nat):NZ (gC rs m i):=by
 refine(XN rs _ _).then λ_ a=>(Mo rs _).then λname b=>?_
 split
 .exact(XN rs _ _).then λ_ _ => .ok _
 .refine(Mo rs _).then λw c=>?_
  split
  .exact(XN rs _ _).then λ_ _ => .ok _
  .split
   .exact .err zR
   .exact(XN rs _ _).then λ_ d=>(yp9 rs _ _).then λo l=>(lD rs m hm _ _ _ _).then λ_ _=>(XN rs _ _).then λ_ _ => .ok _
def R8(m:Option jH)(hm:∀x,m=some x->∀b i,NZ (x b i))(num:Bool):∀(n:Nat) (acc:Fo) (i:Nat),NZ (vV rs m num n acc i)
 | 0,_,_ => .err zR
 |n+1,acc,i=>by
  unfold vV;split
  .exact .ok _
  .split
   .exact(ypz rs m hm i).then λ_ _=>R8 m hm num n _ _
   .split
    .exact R8 m hm num n _ _
    .exact R8 m hm num n _ _
def za7:∀(n:Nat) (b:Bool) (i:Nat),NZ (gH rs n b i)
 | 0,b,i=>R8 rs none (λ_ h=>xc) b _ _ _
 |n+1,b,i=>R8 rs _ (λx h=>by cases h;exact za7 n) b _ _ _
def za8:NZ (gu rs):=(za7 rs 5 false 0).then λ_ _=>by split;exact .ok _;exact .err zR
end
def za9(P:σ->Prop)(F:σ->Fo->Out σ)(hF:∀s f,P s->match F s f with |.go _ s=>P s |.TD _ s=>P s):∀(f:Fo) (s:σ),P s->match vx F f s with |.go _ s=>P s |.TD _ s=>P s:=by
 have key:∀(x:Out σ) (k:σ->Out σ),(match x with |.go _ s=>P s |.TD _ s=>P s)->(∀s,P s->match k s with |.go _ s=>P s |.TD _ s=>P s)->match x.then k with |.go _ s=>P s |.TD _ s=>P s:=by
  intro x k hx g;match x,hx with
  |.go true s,hx=>exact g s hx
  |.go false s,hx=>exact hx
  |.TD _ s,hx=>exact hx
 intro f;induction f with
 |nil=>exactλs h=>h
 |text t r b=>exactλs h=>b s h
 |hash r b=>exactλs h=>b s h
 |put n a r b=>exactλs h=>key _ _ (hF _ _ h) b
 |num n a r b=>exactλs h=>key _ _ (hF _ _ h) b
 |br n a f o c bs r d e=>exactλs h=>key _ _ (hF _ _ h) λs h=>key _ _ (d s h) e
 |xR k a m r d e=>exactλs h=>key _ _ (d s h) e
def NzS(s:KB):Prop:=∀x∈s.2,x.1≠0
def Mp{s:KB}(h:NzS s)(n:Wd)(a k:Nat):NzS (ub s n a k):=by
 unfold ub;split
 .intro x hx;rw[zS,zJ]at hx;rcases hx with hx|rfl
  .exact h x hx
  .show 5≠0;decide
 .split<;>exact h
def ypy(b:Nat):∀(f:Fo) (seen:List Wd) (acc:List (Nat×Nat)),(∀x∈acc,x.1≠0)->∀x∈Qm b seen acc f,x.1≠0:=by
 have OM:∀(seen:List Wd) (acc:List (Nat×Nat)),(∀x∈acc,x.1≠0)->∀x∈(if BN∈seen then acc else acc++[(6,b)]),x.1≠0:=by
  intro seen acc h x hx;split at hx
  .exact h x hx
  .rw[zS,zJ]at hx;rcases hx with hx|rfl
   .exact h x hx
   .show 6≠0;decide
 intro f;induction f with
 |xR k a m r _ c =>
  intro seen acc h;refine c _ _ λx hx=>?_
  split at hx
  .rw[zS,zJ]at hx;rcases hx with hx|rfl
   .exact h x hx
   .show 7≠0;decide
  .exact h x hx
 |nil=>exact OM
 |text _ _ _=>exact OM
 |hash _ _=>exact OM
 |put _ _ _ _=>exact OM
 |num _ _ _ _=>exact OM
 |br _ _ _ _ _ _ _ _ _=>exact OM
def ypx{x:Nat×Nat}(h:fG f=some x):x.1≠0:=by
 have h0:∀y∈gN f,y.1≠0:=by
  have:=za9 NzS gD (λs g hs=>by
   cases g with
   |br n a fo o c bs r =>
    intro y hy;simp only[zS]at hy;rcases hy with hy|hy
    .exact Mp hs _ _ _ y hy
    .exact ypy _ _ _ _ (λ_ h=>xc) y hy
   |num n a r=>exact Mp hs _ _ _
   |put n a r=>exact Mp hs _ _ _
   |_=>exact hs) f (λ_=>none,[]) (λ_ h=>xc)
  unfold gN;cases d:vx gD f (λ_=>none,[]) with
  |go b s=>rw[d]at this;exact this
  |TD c s=>rw[d]at this;exact this
 unfold fG at h;cases hf:gN f with
 |nil=>rw[hf]at h;cases h
 |cons y l =>
  rw[hf]at h h0;cases h;have:∀(l:List (Nat×Nat)) (m:Nat×Nat),m.1≠0->(∀y∈l,y.1≠0)->(GH m l).1≠0:=by
   intro l;induction l with
   |nil=>exactλm h _=>h
   |cons z l j =>
    intro m h e;refine j _ ?_ (λy hy=>e y zg4);show(if z.2<m.2 then z else m).1≠0;split
    .exact e z zZ
    .exact h
  exact this l y (h0 y zZ) (λz i=>h0 z (by simp[i]))
def yv8{e:Nat×Nat}(h:um l = .error e):e.1≠0:=by
 unfold um at h;cases hp:xw l with
 |error e' =>
  rw[hp]at h;cases h;unfold xw at hp;split at hp
  .cases hp;show(1:Nat)≠0;decide
  .split at hp
   .cases hp;show(2:Nat)≠0;decide
   .split at hp
    .next a he=>cases hp;exact za8 _ _ he
    .cases hp
 |ok g =>
  rw[hp]at h;dsimp only at h;cases hc:fG g with
  |some x=>rw[hc]at h;cases h;exact ypx hc
  |none=>rw[hc]at h;cases h
def Uu:Y7 prog 34 5 (.int .u8 0) 1 1 :=
 ⟨underlying34,info_parts yq,rfl,zR,zR⟩
def gp(l:Wd):List Value:=l.map λc => .int .u8 c.toNat
def Uq(a b:Wd):gp (a++b)=gp a++gp b:=by simp[gp]
abbrev fP(w:z8)(v:Value)(l:Wd):Prop:=w.ownsRow 0 5 1 v l.length (gp l)
def bt(x:Nat):UInt8:=uC x
def vy(x:Nat):Wd:=[bt (x / 256),bt x]
def j7(x:Nat):Wd:=[bt (x / 16777216),bt (x / 65536),bt (x / 256),bt x]
def Mr(x:Nat):((bt x).toNat:Int)=(x:Int) % 256:=by simp[bt]
def zaz(v:Value)(l:Wd)(w:z8)(e:xU)(w':z8):Prop:=∃v',e = .returned v'/\fP w' v' l/\Fr (zH v) (zH v') w w'
def DU(v:Value)(l:Wd)(x:Nat)(w:z8)(h:fP w v l)(hx:x<=4000000000)(i:l.length<=2000000000) :
  zC prog 28 #[v,x] w (zaz v (l++vy x) w):=by
 have g:=Z (show[yb .u8 ((x:Int) / 256 % 256),.int .u8 ((x:Int) % 256)]=gp (vy x)by simp[gp,vy,Mr]);obtain⟨n,hn⟩:=zr l.length;dsimp only[fP]at h;rw[hn]at h i;obtain⟨a,cap,rfl⟩:=zn h;have e:=Z hn;have d:=Z h;clear h hn;go_enter func28,ntmps28;go_wp2_with (at_builtin;refine KM Uu [_,_] 2 d.o J ?_);intro v' w' b hf;obtain⟨na,j,rfl⟩:=zn b;have f:=Z b;have c:=Z hf;clear b hf;go_wp2;go_ret;refine⟨_,rfl,?_,c.o⟩;have:=f.o;rw[g.o]at this;simpa[fP,Uq,e.o,vy]using this
def R9(v:Value)(l:Wd)(x:Nat)(w:z8)(h:fP w v l)(hx:x<4294967296)(i:l.length<=2000000000) :
  zC prog 30 #[v,.int .u32 x] w (zaz v (l++j7 x) w):=by
 have g:=Z (show[yb .u8 ((x:Int) / 16777216),.int .u8 ((x:Int) / 65536 % 256),.int .u8 ((x:Int) / 256 % 256),.int .u8 ((x:Int) % 256)]=gp (j7 x)by simp[gp,j7,Mr];omega);obtain⟨n,hn⟩:=zr l.length;dsimp only[fP]at h;rw[hn]at h i;obtain⟨a,cap,rfl⟩:=zn h;have e:=Z hn;have d:=Z h;clear h hn;go_enter func30,ntmps30;go_wp2_with (at_builtin;refine KM Uu [_,_,_,_] 4 d.o J ?_);intro v' w' b hf;obtain⟨na,j,rfl⟩:=zn b;have f:=Z b;have c:=Z hf;clear b hf;go_wp2;go_ret;refine⟨_,rfl,?_,c.o⟩;have:=f.o;rw[g.o]at this;simpa[fP,Uq,e.o,j7]using this
structure fR(w:z8)(v:Value)(l:List Nat):Prop where
 ex:∃a cap,v = .slice a l.length cap/\l.length<=cap/\cap<=maxLen/\∀j (h:j<l.length),∃b,a=some b/\w.cell? (b.add j)=some (.int .i64 l[j])
def QK:Value->Value
 |.slice (some a) n cap => .slice (some (if cap=1 then a else a.add 1)) (n - 1) (cap - 1)
 |v=>v
def aY(b:yM)(m cap:Nat)(h:m+1<=cap)(w:z8):(Vu 85 (.slice (some b) (m+1) cap) (some (.int .i64 1)) none none).run prog w = .ok (QK (.slice (some b) (m+1) cap)) w:=by
 have h2:(1:Int)<=(m:Int)+1:=J;simp[Vu,yzv,yfz,kQ underlying85,asIntOf,QK,go_sem,h2];split<;>rfl
def fR.tail{x:Nat}{l:List Nat}(h:fR w v (x::l)):fR w (QK v) l:=by
 obtain⟨a,cap,rfl,h1,h2,d⟩:=h.ex;obtain⟨b,rfl,hb⟩:=d 0 zZ;by_cases hc:cap=1
 .subst hc;have:l=[]:=by cases l with|nil=>rfl|cons _ _=>simp at h1
  subst this;exact⟨some b,0,by simp[QK],zZ,dO,λj f=>absurd f (KV j)⟩
 .refine⟨some (b.add 1),cap - 1,by simp[QK,hc],by simp at h1;omega,J,λj f=>⟨_,rfl,?_⟩⟩;obtain⟨g,e,c⟩:=d (j+1) yJ;cases e;rw[show(b.add 1).add j=b.add (j+1)by simp[Addr.add_add,Nat.add_comm]];simpa using c
structure vdz(B K:Nat)(v:Value)(l:Wd)(kv:Value)(w:z8)(e:xU)(w':z8):Prop where
 ret:e = .returned (.tuple #[])
 ex:∃v',zu w' B 0 v'/\fP w' v' l/\(∀q,zH v' q->zH v q\/(w:Nat)<=q)/\Fr (λk=>k=B\/k=K\/zH v k) (λk=>k=B\/k=K\/zH v' k) w w'
 c:zu w' K 0 kv
 z:w'.frozen? (B,0)=false/\w'.frozen? (K,0)=false
def zay(f:FuncId):Prop:=∀(B K:Nat) (v kv:Value) (l:Wd) (x:Nat) (ks:List Nat) (w:z8),zu w B 0 v->w.frozen? (B,0)=false->zu w K 0 kv->w.frozen? (K,0)=false ->
  fP w v l->fR w kv (x::ks)->B≠K->¬zH v B->¬zH v K->(∀k,kv.ownBlock=some k->¬zH v k/\k≠B/\k≠K)->x<=4000000000->l.length<=100000000 ->
  zC prog f #[(B,0),(K,0)] w (vdz B K v (l++vy x) (QK kv) w)
def Rz:zay 53/\zay 54:=by
 constructor<;>(
  intro B K v kv l x ks w hB zB hK zK hr hn gM h1 h2 h3 hx hl;have HR:=Z hr;obtain⟨a,cap,rfl,k1,k2,k3⟩:=hn.ex;obtain⟨b,rfl,hb⟩:=k3 0 (by simp);obtain⟨m,hm⟩:=zr ks.length;simp only[zY,hm]at k1 hK;obtain⟨OB,h4⟩:=h3 b.block rfl;have HT:=Z (DU v l x w.drew (by exact hr) hx (by omega));obtain⟨L,hL⟩:=zr (l++vy x);rw[hL]at HT|-
  clear k3 hn h3 hL;have HM:=Z hm;clear hm;have hb':w.drew.cell? b=some (.int .i64 x):=by
   have e:b.add 0=b:=by unfold bW;split<;>simp_all
   rw[e]at hb;exact hb
  obtain⟨ad,aX⟩:∃ad,QK (.slice (some b) (m+1) cap) = .slice (some ad) m (cap - 1):=⟨_,rfl⟩;have hs:=aY b m cap k1;rw[aX]at hs;have HS:=Z hs;clear hs;first|(go_enter func53,ntmps53)|(go_enter func54,ntmps54)
  go_wp2_with fail;refine rk (λW':z8=>W'.cell? ⟨K,0,none⟩=some (.slice (some b) (m+1) cap)/\W'.cell? b=some (.int .i64 x)) 8 [1,2,3,5,6] 4 ⟨hK,hb'⟩ ?_;(iterate 4 (refine ty ?_;try simp only[pl]))
  refine ty (v := .slice (some ad) m (cap - 1)) ?_ (hy:=λw' _=>by have hs:=HS.out w';simp[execOp,go_sem,hs]);try simp only[pl]
  refine yS ?_;refine dJ 0 (λJk hJ=>?_);go_simp;refine hJ.out _ _ ⟨hK,hb'⟩ λ_=>?_
  clear hJ Jk;refine dJ 4 (λJk hJ=>?_);go_simp;refine HT.out.mono ?_;rintro e w1 ⟨v',rfl,Dk,hf⟩;have e1:=hf.cell (a:=⟨K,0,none⟩) (v := .slice (some b) (m+1) cap) hK h2;have e2:=hf.cell hb' OB;have e3:=hf.cell (a:=⟨B,0,none⟩) (v:=v) hB h1;have z1:=(hf.frozen (a:=⟨B,0,none⟩) (X w _ hB) h1).trans zB;have z2:=(hf.frozen (a:=⟨K,0,none⟩) (X w _ hK) h2).trans zK;obtain⟨na,nc,rfl⟩:=zn Dk;have HF:=Z hf;have OI:=Z Dk;refine hJ.out _ _ ⟨e1,e2⟩ λ_=>?_
  clear hJ Jk hf Dk;refine dJ 7 (λJk hJ=>?_);go_simp;refine hJ.out _ _ ⟨by rw[zo,if_neg (λe=>gM (congrArg qd e))];exact e1,by rw[zo,if_neg (λe=>h4.1 (congrArg qd e).symm)];exact e2⟩ λ_=>?_
  clear hJ Jk;have e4:(w1.setCell ⟨B,0,none⟩ (.slice na L.length nc)).cell? ⟨K,0,none⟩=some (.slice (some b) (m+1) cap):=by rw[zo,if_neg (λe=>gM (congrArg qd e))];exact e1
  refine FT 8 (λJk hJ=>?_);go_simp;refine hJ.out _ _ ?_;clear hJ Jk;refine FW ?_ _;go_wp2;refine yK (v := .tuple #[]) ?_ rfl ?_
  .simp[yN,results53,results54,go_sem]
  rw[show QK (.slice (some b) (ks.length+1) cap) = .slice (some ad) m (cap - 1)by rw[HM.out];exact aX];refine⟨rfl,⟨_,by rw[zo,if_neg (λe=>gM (congrArg qd e).symm),zo,if_pos rfl,e3];rfl,?_,HF.out.fp,?_⟩,by rw[zo,if_pos rfl,e4];rfl,by rw[zO,zO];exact z1,by rw[zO,zO];exact z2⟩
  .exact vY (vY OI.out (λe=>(HF.out.fp _ e).elim h1 (λq=>kD _ (zD (X w _ hB) q))) _) (λe=>(HF.out.fp _ e).elim h2 (λq=>kD _ (zD (X w _ hK) q))) _
  .have h:=HF.out;exact((show Fr (λk=>k=B\/k=K\/zH v k) (λk=>k=B\/k=K\/zH _ k) w w1 from⟨h.os,h.tape,h.output,h.size,λk hk hn=>h.keep k hk (λq=>hn (.inr (.inr q))),λk hk=>by
    rcases hk with q|q|q
    .exact .inl (.inl q)
    .exact .inl (.inr (.inl q))
    .exact(h.fp k q).imp (λq => .inr (.inr q)) id⟩).set _ (.inl (.inl rfl))).set _ (.inl (.inr (.inl rfl))))
variable{q:Nat}{F F':Nat->Prop}
structure uG where
 op:Nat
 pos:Nat
 v:Nat
 k:List Nat
 tg:List Nat
def uW:Nat->Wd
 | 1=>[107]|2=>[110]|3=>[110]|4=>[110,118]|7=>[118,116]|8=>[116,116,116,116,116,116]|9=>[116,116,116,116,116,116]|10=>[110,42]|11=>[116]|_=>[]
def YU:List Nat->List Nat->Wd
 |[],t=>vy (t.headD 0)
 |a::k,t=>vy a++(vy (t.headD 0)++YU k t.tail)
def ua:Wd->Nat->List Nat->List Nat->Wd
 |[],_,_,_=>[]
 |c::f,v,k,t =>
  if c=107\/c=110 then vy (k.headD 0)++ua f v k.tail t
  else if c=118 then j7 v++ua f v k t
  else if c=116 then vy (t.headD 0)++ua f v k t.tail
  else vy k.length++(YU k t++ua f v [] (t.drop (k.length+1)))
def okB:Wd->Nat->Nat->Bool
 |[],_,_=>true
 |c::f,a,b =>
  if c=107\/c=110 then decide (0<a) && okB f (a - 1) b
  else if c=118 then okB f a b
  else if c=116 then decide (0<b) && okB f a (b - 1)
  else decide (c=42) && (decide (a<b) && okB f 0 (b - (a+1)))
def xF(i:uG):Wd:=bt i.op::ua (uW i.op) i.v i.k i.tg
def qj(w:z8):Prop:=∀op,op<12->zu w 2 op (zM (uW op))
structure IV(w:z8)(g o:Nat)(i:uG)(kv tv:Value):Prop where
 c0:zu w g o i.op
 c1:zu w g (o+1) i.pos
 c2:zu w g (o+2) i.v
 c3:zu w g (o+3) kv
 c4:zu w g (o+4) tv
 k:fR w kv i.k
 t:fR w tv i.tg
structure IU(i:uG):Prop where
 op:i.op<12
 v:i.v<=4000000000
 k:∀x∈i.k,x<=4000000000
 t:∀x∈i.tg,x<=4000000000
 len:i.k.length<=1000000
 ok:okB (uW i.op) i.k.length i.tg.length=true
def fR.slice{w:z8}{l:List Nat}(h:fR w v l):∃a cap,v = .slice a l.length cap:=by
 obtain⟨a,cap,h1,_⟩:=h.ex;exact⟨a,cap,h1⟩
structure EC(w:z8)(v0:Value)(B K T I:Nat)(s:ByteArray)(j:Nat)(done:Wd)(ks ts:List Nat)(wr:z8):Prop where
 ex:∃v kv tv,zu wr B 0 v/\zu wr K 0 kv/\zu wr T 0 tv/\fP wr v done/\fR wr kv ks/\fR wr tv ts/\Fr (zH v0) (zH v) w wr /\
  ¬zH v B/\¬zH v K/\¬zH v T/\¬zH v I/\(∀q,zH kv q\/zH tv q->q<(w:Nat)/\¬zH v0 q)
 it:wr.heap[I]? = some (.stringIter s j)
 zB:wr.frozen? (B,0)=false
 zK:wr.frozen? (K,0)=false
 zT:wr.frozen? (T,0)=false
 lo:(w:Nat)<=B/\(w:Nat)<=K/\(w:Nat)<=T/\(w:Nat)<=I
 ne:B≠K/\B≠T/\K≠T/\I≠B/\I≠K/\I≠T
def fR.fr{w:z8}{l:List Nat}(h:fR w v l)(hf:Fr F F' w w')(hv:∀q,zH v q->¬F q):fR w' v l:=by
 obtain⟨a,cap,e,h1,h2,d⟩:=h.ex;refine⟨a,cap,e,h1,h2,λj f=>?_⟩;obtain⟨b,c,hb⟩:=d j f;exact⟨b,c,hf.cell hb (by rw[addr_add];exact hv _ (by rw[e,c];rfl))⟩
def Jj(h:zH (QK v) q):zH v q:=by
 unfold QK at h;split at h
 .next a n cap =>
  dsimp only[zH,yl]at h|-;split at h
  .exact h
  .rw[addr_add]at h;exact h
 .exact h
section
variable {w wr:z8} {v0:Value} {B K T I j:Nat} {s:ByteArray} {done:Wd} {ks ts:List Nat} {x:Nat}
def EC.swap(h:EC w v0 B K T I s j done ks ts wr):EC w v0 B T K I s j done ts ks wr:=by
 obtain⟨v,kv,tv,c1,c2,c3,hr,i,l,hf,n1,n2,n3,n4,k⟩:=h.ex;obtain⟨a,b,c,d,e,f⟩:=h.ne;obtain⟨m,n,o,p⟩:=h.lo;exact⟨⟨v,tv,kv,c1,c3,c2,hr,l,i,hf,n1,n3,n2,n4,λq g=>k q g.symm⟩,h.it,h.zB,h.zT,h.zK,⟨m,o,n,p⟩,⟨b,a,c.symm,d,f,e⟩⟩
def EC.step{f:FuncId}(hs:zay f)(h:EC w v0 B K T I s j done (x::ks) ts wr)(hx:x<=4000000000)(u:done.length<=100000000) :
  zC prog f #[(B,0),(K,0)] wr λe w'=>e = .returned (.tuple #[])/\EC w v0 B K T I s j (done++vy x) ks ts w':=by
 obtain⟨v,kv,tv,c1,c2,c3,hr,m,y,hf,n1,n2,n3,n4,n⟩:=h.ex;obtain⟨p,k,l,r,t,C⟩:=h.ne;obtain⟨D,E,F,G⟩:=h.lo;have g:∀q,zH kv q\/zH tv q->¬zH v q/\q≠B/\q≠K:=λq d=>by
  obtain⟨a,b⟩:=n q d;exact⟨λc=>(hf.fp q c).elim b J,J,J⟩
 refine(hs B K v kv done x ks wr c1 h.zB c2 h.zK hr m p n1 n2 (λq d=>g q (.inl d)) hx u).mono ?_;rintro e w' ⟨rfl,⟨v',d1,d2,d3,d4⟩,d5,d6,d7⟩;have z:=X _ _ c1;have A:=X _ _ c2;have o:=X _ _ c3;have lI:I<(wr:Nat):=(yO.1 h.it).1;have row:∀q,q<(wr:Nat)->¬zH v q->¬zH v' q:=λq a b c=>(d3 q c).elim b J
 have i:∀q,q≠B->q≠K->¬zH v q->¬(q=B\/q=K\/zH v q):=λq a b c=>by rintro(e|e|e);exact a e;exact b e;exact c e
 refine⟨rfl,⟨v',_,tv,d1,d5,d4.cell c3 (i _ k.symm l.symm n3),d2,m.tail.fr d4 (λq d=>i _ (g q (.inl (Jj d))).2.1 (g q (.inl (Jj d))).2.2 (g q (.inl (Jj d))).1),y.fr d4 (λq d=>i _ (g q (.inr d)).2.1 (g q (.inr d)).2.2 (g q (.inr d)).1),?_,row _ z n1,row _ A n2,row _ o n3,row _ lI n4,λq d=>n q (d.imp Jj id)⟩,
  (d4.keep I lI (i _ r t n4)).trans h.it,d6,d7,(d4.frozen o (i _ k.symm l.symm n3)).trans h.zT,h.lo,h.ne⟩
 refine⟨d4.os.trans hf.os,d4.tape.trans hf.tape,d4.output.trans hf.output,zj hf.size d4.size,λq d hn=>(d4.keep q (zD d hf.size) (i q J J (λc=>(hf.fp q c).elim hn J))).trans (hf.keep q d hn),λq d=>?_⟩;exact(d3 q d).elim (hf.fp q) (λc => .inr (zj hf.size c))
def EC.con(h:EC w v0 B K T I s j done (x::ks) ts wr)(hx:x<=4000000000)(a:done.length<=100000000) :
  zC prog 53 #[(B,0),(K,0)] wr λe w'=>e = .returned (.tuple #[])/\EC w v0 B K T I s j (done++vy x) ks ts w':=h.step Rz.1 hx a
def EC.tar(h:EC w v0 B K T I s j done ks (x::ts) wr)(hx:x<=4000000000)(c:done.length<=100000000) :
  zC prog 54 #[(B,0),(T,0)] wr λe w'=>e = .returned (.tuple #[])/\EC w v0 B K T I s j (done++vy x) ks ts w' :=
 (h.swap.step Rz.2 hx c).mono λ_ _ ⟨a,b⟩=>⟨a,b.swap⟩
def EC.more(h:EC w v0 B K T I s j done ks ts wr){d:Wd}(hv:zu wr B 0 v)(g:fP w' v' d)(d4:Fr (zH v) (zH v') wr w'):EC w v0 B K T I s j d ks ts (w'.setCell (B,0) v'):=by
 obtain⟨v1,kv,tv,c1,c2,c3,hr,r,t,hf,n1,n2,n3,n4,k⟩:=h.ex;obtain⟨n,o,x,p,y,z⟩:=h.ne;obtain⟨u,A,C,D⟩:=h.lo;obtain rfl:v1=v:=zL (c1.symm.trans hv);have i:=X _ _ c1;have l:=X _ _ c2;have m:=X _ _ c3;have lI:I<(wr:Nat):=(yO.1 h.it).1;have row:∀q,q<(wr:Nat)->¬zH v1 q->¬zH v' q:=λq a b c=>(d4.fp q c).elim b J
 have f:∀q,zH kv q\/zH tv q->¬zH v1 q/\q≠B:=λq e=>by
  obtain⟨a,b⟩:=k q e;exact⟨λc=>(hf.fp q c).elim b J,J⟩
 have f2:Fr (λq=>q=B\/zH v1 q) (λq=>q=B\/zH v1 q) wr (w'.setCell (B,0) v'):=(d4.wide (λq e => .inr e)).set _ (.inl (.inl rfl));have fz:∀a,(w'.setCell (B,0) v').frozen? a=w'.frozen? a:=λa=>zO ..
 refine⟨⟨v',kv,tv,yw (d4.cell c1 n1) _,f2.cell c2 (λq=>q.elim n.symm n2),f2.cell c3 (λq=>q.elim o.symm n3),vY g (row _ i n1) _,r.fr f2 (λq e c=>c.elim (f q (.inl e)).2 (f q (.inl e)).1),t.fr f2 (λq e c=>c.elim (f q (.inr e)).2 (f q (.inr e)).1),
  (hf.trans d4).set _ (.inr u),row _ i n1,row _ l n2,row _ m n3,row _ lI n4,k⟩,(f2.keep I lI (λq=>q.elim p n4)).trans h.it,?_,?_,?_,h.lo,h.ne⟩
 .rw[fz,d4.frozen i n1];exact h.zB
 .rw[fz,d4.frozen l n2];exact h.zK
 .rw[fz,d4.frozen m n3];exact h.zT
def zax(w:z8)(K:Nat):Nat:=match w.cell? (K,0) with|some (.slice _ n _)=>n|_=>0
def EC.xcq(h:EC w v0 B K T I s j done ks ts wr):zax wr K=ks.length:=by
 obtain⟨v,kv,tv,c1,c2,c3,hr,b,_⟩:=h.ex;obtain⟨a,c,rfl⟩:=b.slice;simp[zax,c2]
def EC.next(h:EC w v0 B K T I s j done ks ts wr)(m:Nat):EC w v0 B K T I s m done ks ts (wr.iterAt I s m):=by
 obtain⟨v,kv,tv,c1,c2,c3,hr,l,n,hf,n1,n2,n3,n4,e⟩:=h.ex;obtain⟨o,p,r,f,g,i⟩:=h.ne;obtain⟨t,u,x,y⟩:=h.lo;have f2:Fr (λq=>q=I) (λq=>q=I) wr (wr.iterAt I s m):=⟨rfl,rfl,rfl,TV (vq1 _ _ _ _).symm,λk _ hn=>xrf _ _ _ _ _ hn,λ_ q => .inl q⟩;refine⟨⟨v,kv,tv,f2.cell c1 f.symm,f2.cell c2 g.symm,f2.cell c3 i.symm,f2.own hr (λq a b=>n4 (b▸a)),l.fr f2 (λq d c=>by have:=(e q (.inl d)).1;omega),n.fr f2 (λq d c=>by have:=(e q (.inr d)).1;omega),?_,n1,n2,n3,n4,e⟩,
  vq0 _ _ _ _ _ h.it,(f2.frozen (X _ _ c1) f.symm).trans h.zB,(f2.frozen (X _ _ c2) g.symm).trans h.zK,(f2.frozen (X _ _ c3) i.symm).trans h.zT,h.lo,h.ne⟩
 exact⟨hf.os,hf.tape,hf.output,zj hf.size f2.size,λq d hn=>(f2.keep q (zD d hf.size) J).trans (hf.keep q d hn),hf.fp⟩
end
def BS(op:Nat):∀c∈uW op,c.toNat<128:=by
 unfold uW;split<;>decide
def zav(w:z8)(a b:Value)(t:xm):∃W,W=((w.alloc (.cells #[a] t)).alloc (.cells #[b] t)).drew/\(zu W (w:Nat) 0 a/\W.frozen? (w,0)=false)/\(zu W ((w:Nat)+1) 0 b/\W.frozen? ((w:Nat)+1,0)=false)/\Fr yH yH w W/\W.heap.size=(w:Nat)+2:=by
 have e:(w.alloc (.cells #[a] t)).heap.size=(w:Nat)+1:=zZ;refine⟨_,rfl,⟨yy (zf w #[a] t (0,0) 0) _,?_⟩,⟨?_,?_⟩,(((Fr.refl _ _).alloc _).alloc _).drew,zZ⟩
 .show((w.alloc (.cells #[a] t)).alloc (.cells #[b] t)).frozen? _=false;rw[zV (xZ _ _ _ zZ)];simp
 .rw[<-e];exact zf (w.alloc (.cells #[a] t)) #[b] t (0,0) 0
 .rw[<-e];show((w.alloc (.cells #[a] t)).alloc (.cells #[b] t)).frozen? _=false;simp
def BW(g o:Nat)(i:uG)(kv tv v:Value)(l:Wd)(w:z8)(hi:IV w g o i kv tv)(ho:IU i)(hr:fP w v l)(hg:¬zH v g)(hk:∀q,zH kv q->q<w.heap.size/\¬zH v q)(ht:∀q,zH tv q->q<w.heap.size/\¬zH v q)(hF:qj w)
  (hfv:¬zH v 2) (hl:(l++xF i).length<=100000000) :
  zC prog 29 #[.pointer (some ⟨g,o,none⟩),v] w (zaz v (l++xF i) w):=by
 have HI:=Z hi;have HO:=Z ho;have c0:=hi.c0;have c2:=hi.c2;have c3:=hi.c3;have c4:=hi.c4;obtain⟨ka,kc,ek⟩:=hi.k.slice;obtain⟨ta,tc,et⟩:=hi.t.slice;obtain⟨kn,hkn⟩:=zr i.k.length;obtain⟨tn,htn⟩:=zr i.tg.length;obtain⟨op,dE⟩:=zr i.op;have yau:=ho.op;rw[dE]at c0 yau;rw[hkn]at ek;rw[htn]at et;subst ek et;obtain⟨n,hn⟩:=zr l.length;have hr':=hr;dsimp only[fP]at hr';rw[hn]at hr';have HL:=Z hl;have DX:n<=100000000:=by rw[<-hn];simp only[zy]at hl;omega
 obtain⟨va,vc,rfl⟩:=zn hr';have HR:=Z hr';have HN:=Z hn;have oF:=Z hkn;have HTN:=Z htn;have HOP:=Z dE;clear hr hr' hn hl hkn htn dE hi ho;go_enter func29,ntmps29;go_wp2_with fail;refine Js ?_;intro W1 Ep;obtain⟨B,hB⟩:=zr w.heap.size;rw[hB];have f1:Fr yH yH w W1:=by rw[Ep];exact Fr.of ((zv _ _).alloc (Y _) _)
 have b0:W1.cell? ⟨B,0,none⟩=some (.slice va n vc):=by rw[Ep,<-hB];exact zf _ _ _ _ _
 have b1:W1.frozen? ⟨B,0,none⟩=false:=by rw[Ep,<-hB];simp
 have s1:W1.heap.size=B+1:=by rw[Ep];simp[hB]
 have c0:=f1.cell c0 id;have hcv:IntKind.u8.wrap (op:Int)=((bt op).toNat:Int):=by simp[IntKind.wrap,IntKind.signed,IntKind.bits,bt]
 have HB:=Z hB;clear Ep hB;refine rk (λW':z8=>W'.cell? ⟨B,0,none⟩=some (.slice va n vc)/\W'.cell? ⟨g,o,none⟩=some (.int .i64 op)) 8 [0,1,2,3,4,5] 3 ⟨b0,c0⟩ ?_;(iterate 6 (refine ty ?_;try simp only[pl]))
 refine yS ?_;refine dJ 6 (λJk hJ=>?_);go_simp;refine hJ.out _ _ ⟨yy b0 _,yy c0 _⟩ λ_=>?_
 clear hJ Jk;refine dJ 7 (λJk hJ=>?_);rw[if_pos (by rfl)];rw[<-s1];change kd _ _ _ (W1.drew.alloc (.cells [_].toArray _)) _ _
 refine jf Uu [_] 1 ((f1.own HR.out (λ_ _=>id):W1.drew.ownsRow _ _ _ _ _ _)) (by omega) ?_;intro v2 W2 DQ ZE;have f2:Fr (zH (.slice va n vc)) (zH v2) w W2:=(f1.wide (λ_ q=>q.elim)).trans ZE.und;have xcg:=X _ _ b0;have nB:∀q,zH (.slice va n vc) q->q<B:=λq hq=>by have:=(HR.out.lt q hq).2;have:=HB.out;omega
 have b0:=ZE.cell (a:=⟨B,0,none⟩) (v := .slice va n vc) b0 (λq=>kD _ (nB _ q));have b1:=(ZE.frozen (a:=⟨B,0,none⟩) xcg (λq=>kD _ (nB _ q))).trans b1;have c0:=ZE.cell (a:=⟨g,o,none⟩) c0 hg;have nB2:¬zH v2 B:=λq=>(ZE.fp _ q).elim (λq=>kD _ (nB _ q)) (λq=>by have:W1.drew.heap.size=B+1:=s1;omega)
 obtain⟨va2,vc2,rfl⟩:=zn DQ;go_simp;refine hJ.out _ _ ⟨b0,c0⟩ λ_=>?_
 clear hJ Jk;refine FT 8 (λJk hJ=>?_);go_simp;refine hJ.out _ _ ?_;clear hJ Jk;refine FW ?_ _;have f3:=f2.set (a:=⟨B,0,none⟩) (.slice va2 (n+1) vc2) (.inr (by have:=HB.out;show w.heap.size<=B;omega));have b0:=yw b0 (.slice va2 (n+1) vc2);have b1:(W2.setCell ⟨B,0,none⟩ (.slice va2 (n+1) vc2)).frozen? ⟨B,0,none⟩=false:=by rw[zO];exact b1
 have ld:=Z (vY DQ nB2 (.slice va2 (n+1) vc2) (a:=⟨B,0,none⟩));have bh:=ZE.size;obtain⟨W3,YW⟩:=zr (W2.setCell ⟨B,0,none⟩ (.slice va2 (n+1) vc2));rw[YW]at f3 b0 b1 ld|-
 have sz3:B<W3.heap.size:=X _ _ b0;clear YW ZE DQ f2 f1 hcv c0;have c3:=f3.cell c3 hg;have c4:=f3.cell c4 hg;go_wp2_with fail;refine rt (λW':z8=>W'.cell? ⟨g,o+3,none⟩=some (.slice ka kn kc)/\W'.cell? ⟨g,o+4,none⟩=some (.slice ta tn tc)) [0,1,2,3,4,5,6,7] 4 ⟨c3,c4⟩ ?_;(iterate 8 (refine ty ?_;try simp only[pl]))
 refine yS ?_;obtain⟨N,hN⟩:=zr W3.heap.size;refine ep (rs:=[8,9]) (by kernel_rfl) (by simp) (vo rfl (λJk hJ=>?_) (vo rfl (λJk hJ=>?_) Zq));all_goals
  go_simp;refine hJ.out _ _ ⟨yy c3 _,yy c4 _⟩ λ_=>?_
  clear hJ Jk
 refine gX 9 (λJk hJ=>?_);rotate_left
 refine gX 8 (λJk hJ=>?_);rotate_left
 all_goals
  go_simp;refine hJ.out _ _ ⟨yy (yy c3 _) _,yy (yy c4 _) _⟩ λ_=>?_
  clear hJ Jk;refine gX 10 (λJk hJ=>?_);go_simp;refine hJ.out _ _ ⟨yy (yy c3 _) _,yy (yy c4 _) _⟩ λ_=>?_
  clear hJ Jk;refine gX 11 (λJk hJ=>?_);go_simp;refine hJ.out _ _ ⟨yy (yy c3 _) _,yy (yy c4 _) _⟩ λ_=>?_
  clear hJ Jk;refine Y3 ?_ _
 obtain⟨W4,Lc,e1,e2,fb,s4⟩:=zav W3 (.slice ka kn kc) (.slice ta tn tc) 85;rw[<-Lc];obtain⟨K,hK⟩:=zr N;obtain⟨T,hT⟩:=zr (N+1);rw[hN]at e1 e2 s4;rw[hT]at e2|-
 rw[hK]at e1|-
 rotate_left
 obtain⟨W4,Lc,e2,e1,fb,s4⟩:=zav W3 (.slice ta tn tc) (.slice ka kn kc) 85;rw[<-Lc];obtain⟨K,hK⟩:=zr (N+1);obtain⟨T,hT⟩:=zr N;rw[hN]at e1 e2 s4;rw[hK]at e1|-
 rw[hT]at e2|-
 rotate_left
 all_goals
  have hKN:N<=K:=by omega
  have hTN:N<=T:=by omega
  have hKT:K≠T:=by omega
  have hBN:B<N:=by rw[<-hN];exact sz3
  have f4:=f3.trans (fb.wide (λ_ q=>q.elim));have b0:=fb.cell b0 id;have b1:=(fb.frozen (a:=⟨B,0,none⟩) sz3 id).trans b1;have HR3:=Z (fb.own ld.out (λ_ _=>id));have nV:∀q,zH (.slice va2 (n+1) vc2) q->q<N/\q≠B:=λq hq=>⟨by rw[<-hN];exact(ld.out.lt q hq).2,λe=>nB2 (e▸hq)⟩
  have c5:=f4.cell (a:=⟨g,o,none⟩) (v := .int .i64 op) (by rw[<-HOP.out];exact HI.out.c0) hg;have c6:=f4.cell (hF op yau) hfv;have fl:decide ((op:Int)<12)=true:=by simp;omega
  clear Lc hK hT c3 c4 fb f3 hN ld c0 sz3 bh;obtain⟨F,hFm⟩:=zr (uW op);rw[hFm]at c6;obtain⟨I,hI⟩:=zr (N+2);rw[hI]at s4;have nI:B<I/\K<I/\T<I:=by have:=X _ _ e1.1;have:=X _ _ e2.1;dsimp only at *;omega
  go_wp2_with fail;have HT:=Z (show xF i=bt op::ua F i.v i.k i.tg by unfold xF;rw[HOP.out,hFm]);go_loopw [10] (λ_ wr=>∃j done ks ts,j<=F.length/\EC w (.slice va n vc) B K T I ⟨F.toArray⟩ j done ks ts wr/\done++ua (F.drop j) i.v ks ts=l++xF i/\okB (F.drop j) ks.length ts.length=true/\(∀x∈ks,x<=4000000000)/\(∀x∈ts,x<=4000000000)/\ks.length<=1000000) (λ_ wr=>F.length - wr.iterPos I)
  case atStart =>
   have fi:Fr yH yH W4 (W4.iter ⟨F.toArray⟩ 0):=(Fr.refl _ _).alloc _;have DS:=HO.out.k;have dB:=HO.out.t;have KC:=HO.out.ok;rw[HOP.out,hFm]at KC;have hwB:w.heap.size=B:=HB.out;have eb:gp l++[yb KU ((bt op).toNat:Int)]=gp (l++[bt op]):=by simp[gp]
   have el:n+1=(l++[bt op]).length:=by simp[HN.out]
   have hR4:fP (W4.iter ⟨F.toArray⟩ 0) (.slice va2 (n+1) vc2) (l++[bt op]):=by
    have:=fi.own HR3.out (λ_ _=>id);rw[eb,el]at this;rw[el];exact this
   refine⟨0,l++[bt op],i.k,i.tg,zQ _,⟨⟨_,_,_,fi.cell b0 id,fi.cell e1.1 id,fi.cell e2.1 id,hR4,(HI.out.k.fr f4 (λq hq=>(hk q hq).2)).fr fi (λ_ _=>id),(HI.out.t.fr f4 (λq hq=>(ht q hq).2)).fr fi (λ_ _=>id),f4.alloc _,
    λq=>(nV _ q).2 rfl,λq=>by have:=(nV _ q).1;omega,λq=>by have:=(nV _ q).1;omega,λq=>by have:=(nV _ q).1;omega,λq hq=>hq.elim (hk q) (ht q)⟩,by rw[<-s4];exact ye9 W4 _ 0,(fi.frozen (a:=⟨B,0,none⟩) (show B<_ by omega) id).trans b1,(fi.frozen (X _ _ e1.1) id).trans e1.2,(fi.frozen (X _ _ e2.1) id).trans e2.2,by omega,by omega⟩,?_,KC,DS,dB,HO.out.len⟩
   rw[HT.out];simp
  case round =>
   obtain⟨j,done,ks,ts,hj,Ry,heq,KC,Fc,pQ,lB⟩:=hrel;have HAP:=Z Ry;have hit:=Ry.it;by_cases uo:j<F.length
   .obtain⟨c,hc⟩:=zr (F[j]);have hd:F.drop j=c::F.drop (j+1):=by rw[<-hc];exact yY uo
    have hn:=Lib.run_next_ascii_at (P:=prog) wr I ⟨F.toArray⟩ j 0 hit (by rw[size_mk];exact uo) (by
     show(F[j]).toNat<128;exact BS op _ (by rw[hFm];exact yf _))
    rw[show(vO F.toArray)[j]'(by rw[size_mk];exact uo)=c from hc]at hn;have GI:=Ry.next (j+1);obtain⟨W5,hW5⟩:=zr (wr.iterAt I ⟨F.toArray⟩ (j+1));rw[hW5]at hn GI;rw[hd]at heq KC;have HJ:=Z (show W5.iterPos I=j+1 from jc GI.it);have HJ0:=Z (show wr.iterPos I=j from jc Ry.it);have HD:=Z hd;clear hW5 hd Ry hit hc;have IQ:c=107\/c=110\/c=118\/c=116\/c=42:=by
     unfold okB at KC;split at KC
     .next h=>rcases h with h|h<;>simp[h]
     .split at KC
      .next h=>simp[h]
      .split at KC
       .next h=>simp[h]
       .simp at KC;simp[KC.1]
    rcases IQ with rfl|rfl|rfl|rfl|rfl;iterate 2
     cases ks with
     |nil=>simp[okB]at KC
     |cons x ks =>
      have hx:=Fc x (by simp);have HQ:=Z (show(done++vy x)++ua (F.drop (j+1)) i.v ks ts=l++xF i by rw[<-heq];simp[ua]);have HK:=Z (show okB (F.drop (j+1)) ks.length ts.length=true by simpa[okB]using KC);have HC:=Z (GI.con hx (by have:=congrArg xD heq;have:=HL.out;simp only[zy]at *;omega));have HBK:=Z Fc;clear heq KC GI Fc hx;go_wp2_with fail;refine HC.out.mono ?_;rintro e W6 ⟨rfl,D0⟩;have HIP:=Z (jc D0.it);go_wp2;go_roundw
      case rel=>exact⟨j+1,_,ks,ts,uo,D0,HQ.out,HK.out,λy hy=>HBK.out y (by simp[hy]),pQ,by simp at lB;omega⟩
      case measure=>rw[HIP.out,HJ0.out];omega
    .obtain⟨v,kv,tv,d1,d2,d3,dr,dk,dt,df,n1,n2,n3,n4,dq⟩:=GI.ex;have hv:=HO.out.v;have HQ:=Z (show(done++j7 i.v)++ua (F.drop (j+1)) i.v ks ts=l++xF i by rw[<-heq];simp[ua]);have HK:=Z (show okB (F.drop (j+1)) ks.length ts.length=true by simpa[okB]using KC);have HC:=Z (R9 v done i.v W5.drew (by exact dr) (by omega) (by have:=congrArg xD heq;have:=HL.out;simp only[zy]at *;omega));obtain⟨D,hD⟩:=zr (done++j7 i.v);rw[hD]at HQ HC;have HA2:=Z GI;have g2:=df.cell c2 hg;have hcv:yey.wrap (i.v:Int)=(i.v:Int):=by simp[yf7,Ey,Ob];omega
     have z1:=GI.zB;have DF:=Z df;clear heq KC GI dr dk dt dq df hD;go_wp2_with fail;refine rk (λW':z8=>W'.cell? ⟨B,0,none⟩=some v/\W'.cell? ⟨g,o+2,none⟩=some (.int .i64 i.v)) 7 [0,1,2,3,4,5] 2 ⟨d1,g2⟩ ?_;(iterate 6 (refine ty ?_;try simp only[pl]))
     refine yS ?_;refine dJ 6 (λJk hJ=>?_);go_simp;refine HC.out.mono ?_;rintro e W6 ⟨v',rfl,Ke,gW⟩;have D0:=HA2.out.more d1 Ke gW.und;have z6:=(gW.frozen (a:=⟨B,0,none⟩) (X _ _ d1) n1).trans z1;have k6:=gW.cell (a:=⟨B,0,none⟩) (v:=v) d1 n1;have g6:=gW.cell (a:=⟨g,o+2,none⟩) g2 (λq=>(DF.out.fp _ q).elim hg (λq=>by have:g<w.heap.size:=X w _ c2;have q2:w.heap.size<=g:=q;omega));refine hJ.out _ _ ⟨k6,g6⟩ λ_=>?_
     clear hJ Jk;refine FT 7 (λJk hJ=>?_);obtain⟨a6,c6',rfl⟩:=zn Ke;go_simp;refine hJ.out _ _ ?_;clear hJ Jk;refine FW ?_ _;have HIP:=Z (jc D0.it);have HA3:=Z D0;clear D0 Ke gW;go_wp2;go_roundw
     case rel=>exact⟨j+1,_,ks,ts,uo,HA3.out,HQ.out,HK.out,Fc,pQ,lB⟩
     case measure=>rw[HIP.out,HJ0.out];omega
    .skip
     cases ts with
     |nil=>simp[okB]at KC
     |cons x ts =>
      have hx:=pQ x (by simp);have HQ:=Z (show(done++vy x)++ua (F.drop (j+1)) i.v ks ts=l++xF i by rw[<-heq];simp[ua]);have HK:=Z (show okB (F.drop (j+1)) ks.length ts.length=true by simpa[okB]using KC);have HC:=Z (GI.tar hx (by have:=congrArg xD heq;have:=HL.out;simp only[zy]at *;omega));have HBK:=Z pQ;clear heq KC GI pQ hx;go_wp2_with fail;refine HC.out.mono ?_;rintro e W6 ⟨rfl,D0⟩;have HIP:=Z (jc D0.it);go_wp2;go_roundw
      case rel=>exact⟨j+1,_,ks,ts,uo,D0,HQ.out,HK.out,Fc,λy hy=>HBK.out y (by simp[hy]),lB⟩
      case measure=>rw[HIP.out,HJ0.out];omega
    .obtain⟨v,kv,tv,d1,d2,d3,dr,dk,dt,df,n1,n2,n3,n4,dq⟩:=GI.ex;obtain⟨q1,q2,KC⟩:ks.length<ts.length/\okB (F.drop (j+1)) 0 (ts.length - (ks.length+1))=true/\True:=by simpa[okB]using KC
     have HK:=Z q2;have HQ:=Z (show(done++vy ks.length)++(YU ks ts++ua (F.drop (j+1)) i.v [] (ts.drop (ks.length+1)))=l++xF i by rw[<-heq];simp[ua]);have HC:=Z (DU v done ks.length W5 (by exact dr) (by omega) (by have:=congrArg xD heq;have:=HL.out;simp only[zy]at *;omega));obtain⟨D,hD⟩:=zr (done++vy ks.length);rw[hD]at HQ HC;have HA2:=Z GI;obtain⟨ea,ec,rfl⟩:=dk.slice;clear heq KC GI dr dk dt dq df hD q2;go_wp2_with fail;refine HC.out.mono ?_;rintro e W6 ⟨v',rfl,Ke,gW⟩;have D0:=HA2.out.more d1 Ke gW;have z6:=(gW.frozen (a:=⟨B,0,none⟩) (X _ _ d1) n1).trans HA2.out.zB;have k6:=gW.cell (a:=⟨B,0,none⟩) (v:=v) d1 n1;obtain⟨a6,c6',rfl⟩:=zn Ke;have HA3:=Z D0;clear D0 Ke gW HC;go_wp2;go_loopw [] (λwr2=>∃d2 k2 t2,EC w (.slice va n vc) B K T I ⟨F.toArray⟩ (j+1) d2 k2 t2 wr2/\d2++(YU k2 t2++ua (F.drop (j+1)) i.v [] (ts.drop (ks.length+1)))=l++xF i/\t2.drop (k2.length+1)=ts.drop (ks.length+1)/\k2.length<t2.length/\(∀x∈k2,x<=4000000000)/\(∀x∈t2,x<=4000000000)) (λwr2=>zax wr2 K)
     case atStart=>exact⟨D,ks,ts,HA3.out,HQ.out,rfl,q1,Fc,pQ⟩
     case round =>
      clear HA3 HA2;obtain⟨d2,k2,t2,Ry,heq,hdr,B2,hk2,ht2⟩:=hrel
      cases t2 with
      |nil=>simp at B2
      |cons t t2 =>
      have yvz:=Ry;obtain⟨v7,kv7,tv7,g1,g2,g3,-,gk,-,-,-,-,-,-,-⟩:=Ry.ex;obtain⟨a7,c7,rfl⟩:=gk.slice;have hlen:(d2++vy t).length<=100000000:=by have:=congrArg xD heq;have:=HL.out;cases k2<;>simp only[zy,YU,List.headD_cons,vy,zY,yF]at * <;> omega
      have yak:d2.length<=100000000:=by simp at hlen;omega
      have HM:=Z Ry.xcq;clear gk
      cases k2 with
      |nil =>
       have HC:=Z (yvz.tar (ht2 t (by simp)) yak);have pK:=Z heq;have HDR:=Z hdr;clear Ry yvz heq hdr;go_wp2_with fail;refine HC.out.mono ?_;rintro e W8 ⟨rfl,zaq⟩;have HIP:=Z (jc zaq.it);go_wp2;go_roundw
       case rel =>
        have hd8:t2=ts.drop (ks.length+1):=HDR.out;refine⟨j+1,_,[],t2,uo,zaq,?_,?_,λ_ h=>by simp at h,λy hy=>ht2 y (by simp[hy]),by simp⟩
        .rw[<-pK.out,hd8];simp[YU]
        .rw[hd8];simpa using HK.out
       case measure=>rw[HIP.out,HJ0.out];omega
      |cons x k2 =>
       obtain⟨n2,Df⟩:=zr ((x::k2).length);have hn3:0<n2:=by rw[<-Df];simp
       rw[Df]at g2;have k0:decide (0<n2)=true:=by simp[hn3]
       have k1:decide ((0:Int)<(n2:Int))=true:=by simp;omega
       have HC:=Z (yvz.con (hk2 x (by simp)) yak);have pK:=Z heq;have HDR:=Z hdr;have HN2:=Z Df;clear Ry yvz heq hdr Df;go_wp2_with fail;refine HC.out.mono ?_;rintro e W8 ⟨rfl,zaq⟩;have HT8:=Z (zaq.tar (ht2 t (by simp)) (by simp only[zy,vy,zY,yF]at hlen|-;omega));go_wp2_with fail;refine HT8.out.mono ?_;rintro e W9 ⟨rfl,xcd⟩;have HM9:=Z xcd.xcq;clear HT8 zaq;go_wp2;go_roundw
       case rel=>exact⟨_,k2,t2,xcd,by rw[<-pK.out];simp[YU],by simpa using HDR.out,by simp at B2;omega,λy hy=>hk2 y (by simp[hy]),λy hy=>ht2 y (by simp[hy])⟩
       case measure=>rw[HM9.out,HM.out];simp
   .have hn:=yez (P:=prog) wr I ⟨F.toArray⟩ j 0 hit (by rw[size_mk];exact uo);obtain⟨v,kv,tv,d1,d2,d3,dr,dk,dt,df,n1,n2,n3,n4,dq⟩:=Ry.ex;have hFe:F.drop j=[]:=yI (by omega);rw[hFe]at heq;have pK:=Z (show done=l++xF i by rw[<-heq];simp[ua]);have HDR:=Z dr;have HDF:=Z df;clear Ry heq KC dr df dk dt dq hit;go_wp2;go_ret;rw[<-pK.out];exact⟨v,rfl,HDR.out,HDF.out⟩
variable{xs:List Value}{size:Nat}
structure MkS where
 cs:List Wd
 code:List uG
 pos:Nat
namespace MkS
def const(s:MkS)(t:Wd):MkS:=if t∈s.cs then s else { s with cs:=s.cs++[t] }
def num(s:MkS)(t:Wd):Nat:=s.cs.idxOf t
def put(s:MkS)(op v:Nat)(k tg:List Nat):MkS:={ s with code:=s.code++[⟨op,s.pos,v,k,tg⟩],pos:=s.pos+(xF ⟨op,s.pos,v,k,tg⟩).length }
def xH(s:MkS)(i j:Nat):MkS:={ s with code:=s.code.modify i λx=>{ x with tg:=x.tg.set j s.pos } }
end MkS
structure Xj where
 B:Nat
 q:Nat
 m:Nat
 vC:Value
 vI:Value
 rs:List (Value×Value)
def Xj.has(L:Xj)(p k:Nat):Prop:=k=p\/k=L.q\/k=L.m\/zH L.vC k\/zH L.vI k\/∃r∈L.rs,zH r.1 k\/zH r.2 k
def Jg(i:uG)(r:Value×Value):List Value:=[.int .i64 i.op,.int .i64 i.pos,.int .i64 i.v,r.1,r.2]
def dI:List uG->List (Value×Value)->List Value
 |i::l,r::rs=>Jg i r++dI l rs
 |_,_=>[]
def bo(l:List Nat):List Value:=l.map λx => .int .i64 (x:Nat)
abbrev uq(w:z8)(v:Value)(l:List Nat):Prop:=w.ownsRow 0 3 1 v l.length (bo l)
def Rx:Y7 prog 81 87 (.agg #[.int .i64 0,.int .i64 0,.int .i64 0,.slice none 0 0,.slice none 0 0]) 5 72 :=
 ⟨underlying81,info_parts yq,rfl,zR,zR⟩
def BA:∀(l:List uG) (rs:List (Value×Value)) (i:uG) (r:Value×Value),rs.length=l.length->dI (l++[i]) (rs++[r])=dI l rs++Jg i r
 |[],[],i,r,_=>by simp[dI]
 |[],r'::rs,i,r,h=>Va
 |i'::l,[],i,r,h=>Va
 |i'::l,r'::rs,i,r,h=>by simp[dI,BA l rs i r QY]
def Kr:∀(l:List uG) (rs:List (Value×Value)),rs.length=l.length->∀n j (i:uG) (r:Value×Value),l[n]? = some i->rs[n]? = some r->j<5->(dI l rs)[n*5+j]? = (Jg i r)[j]?
 |[],_,_,n,j,i,r,h,_,_=>Va
 |i'::l,[],h,_,_,_,_,_,_,_=>Va
 |i'::l,r'::rs,h,0,j,i,r,h1,h2,a=>by
  simp at h1 h2;subst h1 h2;simp only[dI,xrd,uE];exact za (by simpa[Jg]using a)
 |i'::l,r'::rs,h,n+1,j,i,r,h1,h2,a=>by
  have:=Kr l rs QY n j i r (by simpa using h1) Bq a;rw[<-this];simp only[dI];rw[xq (by simp[Jg];omega)];congr 1;simp[Jg];omega
def Rv:∀(l:List uG) (rs:List (Value×Value)) (n:Nat) (f:List Nat->List Nat),dI (l.modify n λx=>{ x with tg:=f x.tg }) rs=dI l rs
 |[],_,n,f=>by simp[dI]
 |i::l,[],0,f=>by simp[dI]
 |i::l,[],n+1,f=>by simp[dI]
 |i::l,r::rs,0,f=>by simp[dI,Jg]
 |i::l,r::rs,n+1,f=>by simp[dI,Rv l rs n f]
def jh(w:z8)(k:Nat):Option xm:=match w.heap[k]? with|some (.cells _ t _)=>some t|_=>none
def xA{base:Nat}(h:w.ownsRow base e size v n xs){g:Nat}(a:zH v g):jh w g=some e:=by
 rcases h.2 with⟨hv,_⟩|⟨g',cap,b,hv,_,c,_⟩
 .rw[hv]at a;cases a
 .rw[hv]at a;cases a;simp[jh,c]
def yc(h:w'.heap[k]? = w.heap[k]?):jh w' k=jh w k:=by unfold jh;rw[h]
def qQ(w:z8)(a:yM)(u:Value)(k:Nat):jh (w.setCell a u) k=jh w k:=by
 by_cases b:k=a.block
 .subst b;unfold jh xg;simp only[vp,if_true];cases c:w.heap[a.block]? with
  |none=>rfl
  |some o=>cases o<;>rfl
 .exact yc (yZ _ _ _ _ b)
def bI(w:z8)(c:Array Value)(t:xm):jh (w.alloc (.cells c t)) (w:Nat)=some t:=by
 unfold jh;show(match (w.heap.push (.cells c t (0,0)))[(w:Nat)]? with|some (.cells _ t _)=>some t|_=>none)=_;simp
def uO{t:xm}(h:jh w k=some t):k<(w:Nat):=by
 unfold jh at h;split at h
 .next a=>exact(yO.1 a).1
 .cases h
def XO{b:Nat}{f:Wd->Option Nat}(h:jU e w b n f):jh w b=none:=by
 obtain⟨D,⟨es,a,c,_⟩,_⟩:=h;simp[jh,c]
def ju(cs:List Wd)(t:Wd):Option Nat:=if t∈cs then some (cs.idxOf t)else none
structure Uk(w:z8)(code:List uG)(rs:List (Value×Value)):Prop where
 len:rs.length=code.length
 k:∀(n:Nat) (i:uG) (r:Value×Value),code[n]? = some i->rs[n]? = some r->uq w r.1 i.k/\uq w r.2 i.tg
 ne:∀(n m:Nat) (r r':Value×Value),rs[n]? = some r->rs[m]? = some r'->∀g,zH r.2 g->¬zH r'.1 g/\(zH r'.2 g->n=m)
def Uk.fr{code:List uG}{rs:List (Value×Value)}(h:Uk w code rs)(hf:Fr F F' w w')(hF:∀k,F k->jh w k≠some 3):Uk w' code rs :=
 ⟨h.len,λn i r h1 h2=>by
  obtain⟨a,b⟩:=h.k n i r h1 h2;exact⟨hf.own a (λg c d=>hF g d (xA a c)),hf.own b (λg c d=>hF g d (xA b c))⟩,h.ne⟩
structure uZ(p:Nat)(L:Xj)(s:MkS)(w:z8):Prop where
 p0:zu w p 0 (L.q,0)
 p1:zu w p 1 s.pos
 p2:zu w p 2 (.map (some L.m))
 q0:zu w L.q 0 L.vC
 q1:zu w L.q 1 L.vI
 q2:zu w L.q 2 (.map none)
 zp:∀j,w.frozen? ⟨p,j,none⟩=false
 zq:∀j,w.frozen? ⟨L.q,j,none⟩=false
 tp:jh w p=some 141
 tq:jh w L.q=some 84
 mp:jU 3 w L.m s.cs.length (ju s.cs)
 cC:w.ownsRow 0 9 1 L.vC s.cs.length (s.cs.map zM)
 cI:w.ownsRow 0 87 5 L.vI s.code.length (dI s.code L.rs)
 rows:Uk w s.code L.rs
 lo:∀k,L.has p k->L.B<=k
def jU.fr{b:Nat}{f:Wd->Option Nat}(h:jU e w b n f)(hf:Fr F F' w w')(hb:¬F b):jU e w' b n f:=h.keep (hf.keep b h.lt hb)
def uZ.fr{L:Xj}{s:MkS}(h:uZ p L s w)(hf:Fr F F' w w')(hF:∀k,F k->¬L.has p k):uZ p L s w':=by
 have d:¬F p:=λq=>hF p q (.inl rfl)
 have nq:¬F L.q:=λq=>hF _ q (.inr (.inl rfl))
 have lp:=uO h.tp;have e:=uO h.tq;refine⟨hf.cell h.p0 d,hf.cell h.p1 d,hf.cell h.p2 d,hf.cell h.q0 nq,hf.cell h.q1 nq,hf.cell h.q2 nq,λj=>(hf.frozen lp d).trans (h.zp j),λj=>(hf.frozen e nq).trans (h.zq j),(yc (hf.keep p lp d)).trans h.tp,(yc (hf.keep _ e nq)).trans h.tq,
  h.mp.fr hf (λq=>hF _ q (.inr (.inr (.inl rfl)))),hf.own h.cC (λg c q=>hF g q (.inr (.inr (.inr (.inl c))))),hf.own h.cI (λg c q=>hF g q (.inr (.inr (.inr (.inr (.inl c)))))),⟨h.rows.len,λn i r h1 h2=>?_,h.rows.ne⟩,h.lo⟩
 obtain⟨a,b⟩:=h.rows.k n i r h1 h2;have hr:=zW h2;exact⟨hf.own a (λg c q=>hF g q (.inr (.inr (.inr (.inr (.inr ⟨r,hr,.inl c⟩)))))),hf.own b (λg c q=>hF g q (.inr (.inr (.inr (.inr (.inr ⟨r,hr,.inr c⟩))))))⟩
def uZ.lt{L:Xj}{s:MkS}(h:uZ p L s w)(c:L.has p k):k<(w:Nat):=by
 rcases c with rfl|rfl|rfl|c|c|⟨r,hr,c⟩
 .exact uO h.tp
 .exact uO h.tq
 .exact h.mp.lt
 .exact uj h.cC c
 .exact uj h.cI c
 .obtain⟨n,hn,e⟩:=ql.1 hr;have h1:L.rs[n]? = some r:=by rw[zk hn,e]
  have h2:s.code[n]? = some (s.code[n]' GY):=zk _;obtain⟨a,b⟩:=h.rows.k n _ r h2 h1;exact c.elim (uj a) (uj b)
def uZ.alloc{L:Xj}{s:MkS}(h:uZ p L s w)(o:Obj):uZ p L s (w.alloc o):=h.fr ((Fr.refl yH w).alloc o) (λ_ q=>q.elim)
def uZ.drew{L:Xj}{s:MkS}(h:uZ p L s w):uZ p L s w.drew:=h.fr (Fr.refl yH w).drew (λ_ q=>q.elim)
def uZ.base{L:Xj}{s:MkS}(h:uZ p L s w):L.B<=p/\p<(w:Nat):=⟨h.lo p (.inl rfl),uO h.tp⟩
def uZ.low{L L':Xj}{s:MkS}(h:uZ p L s w)(hb:L'.B=L.B)(hf:Fr (L.has p) (L'.has p) w w'):∀k,L'.has p k->L'.B<=k:=λk a=>by
 have:=h.base;rw[hb];exact(hf.fp k a).elim (h.lo k) J
def MkQ(p:Nat)(L:Xj)(s:MkS)(w w':z8):Prop:=∃L',uZ p L' s w'/\(L'.q=L.q/\L'.B=L.B)/\Fr (L.has p) (L'.has p) w w'
variable{L:Xj}{s:MkS}{t:Wd}{w1 w2:z8}
def GL:pZ 139 3:=⟨underlying139,underlying3,λw=>kL⟩
def FK{cs:List Wd}(h:t ∉ cs):(λx=>if t=x then some cs.length else ju cs x)=ju (cs++[t]):=by
 funext x;unfold ju;by_cases hx:t=x
 .subst hx;simp[h,LU,xj8]
 .have a:¬x=t:=λe=>hx e.symm
  by_cases hm:x∈cs
  .simp[hx,hm,LU]
  .simp[hx,hm,a]
def uZ.nC(h:uZ p L s w){g:Nat}(a:zH L.vC g):g≠p/\g≠L.q/\g≠L.m/\¬zH L.vI g:=by
 have t:=xA h.cC a;refine⟨?_,?_,?_,λq=>?_⟩
 .rintro rfl;rw[h.tp]at t;simp at t
 .rintro rfl;rw[h.tq]at t;simp at t
 .rintro rfl;rw[XO h.mp]at t;cases t
 .rw[xA h.cI q]at t;simp at t
def uZ.nI(h:uZ p L s w){g:Nat}(a:zH L.vI g):g≠p/\g≠L.q/\g≠L.m:=by
 have t:=xA h.cI a;refine⟨?_,?_,?_⟩
 .rintro rfl;rw[h.tp]at t;simp at t
 .rintro rfl;rw[h.tq]at t;simp at t
 .rintro rfl;rw[XO h.mp]at t;cases t
def uZ.nP(h:uZ p L s w):p≠L.q/\p≠L.m/\L.q≠L.m:=by
 refine⟨λe=>?_,λe=>?_,λe=>?_⟩
 .have:=h.tp;rw[e,h.tq]at this;simp at this
 .have:=h.tp;rw[e,XO h.mp]at this;cases this
 .have:=h.tq;rw[e,XO h.mp]at this;cases this
def uZ.more(h:uZ p L s w)(v:t ∉ s.cs)(hm:jU 3 w1 L.m (s.cs.length+1) (λx=>if t=x then some s.cs.length else ju s.cs x))(h1:w.grownBy w1 (some L.m))
  (u:w2.ownsRow 0 9 1 v' (s.cs.length+1) (s.cs.map zM++[zM t])) (h2:Fr (zH L.vC) (zH v') w1 w2) :
  ∃L',uZ p L' { s with cs:=s.cs++[t] } (w2.setCell (L.q,0) v')/\(L'.q=L.q/\L'.B=L.B)/\Fr (L.has p) (L'.has p) w (w2.setCell (L.q,0) v'):=by
 obtain⟨n1,n2,n3⟩:=h.nP;have nC:=λg d=>h.nC (g:=g) d
 have nI:=λg d=>h.nI (g:=g) d
 have n:=uO h.tq;have lp:=uO h.tp;have f1:Fr (λk=>k=L.m) (λk=>k=L.m) w w1:=⟨h1.os,h1.tape,h1.output,h1.size,λk b hn=>h1.block k b (λe=>hn (zL e)),λ_ q => .inl q⟩;have f2:Fr (λk=>k=L.m\/zH L.vC k) (λk=>k=L.m\/zH v' k) w w2:=by
  have a:=f1.wide (G:=λk=>k=L.m\/zH L.vC k) (λ_ q => .inl q);exact⟨h2.os.trans a.os,h2.tape.trans a.tape,h2.output.trans a.output,zj a.size h2.size,λk b hn=>(h2.keep k (zD b a.size) (λq=>hn (.inr q))).trans (a.keep k b hn),λk q=>q.elim (λq => .inl (.inl q)) (λq=>(h2.fp k q).imp .inr (zj a.size))⟩
 have nq:¬(L.q=L.m\/zH L.vC L.q):=λq=>q.elim n3 (λq=>(nC _ q).2.1 rfl)
 have z:¬(p=L.m\/zH L.vC p):=λq=>q.elim n2 (λq=>(nC _ q).1 rfl)
 have o:∀g,zH v' g->zH L.vC g\/(w:Nat)<=g:=λg d=>(h2.fp g d).imp id (zj f1.size)
 have r:=f2.cell h.q0 nq;have y:¬zH v' L.q:=λq=>(o _ q).elim (λq=>(nC _ q).2.1 rfl) J
 have f3:Fr (λk=>k=L.m\/zH L.vC k\/k=L.q) (λk=>k=L.m\/zH L.vC k\/k=L.q) w (w2.setCell ⟨L.q,0,none⟩ v'):=(f2.wide (λ_ q=>q.elim .inl (λq => .inr (.inl q)))).set _ (.inl (.inr (.inr rfl)));have c:¬(p=L.m\/zH L.vC p\/p=L.q):=λq=>q.elim n2 (λq=>q.elim (λq=>(nC _ q).1 rfl) n1)
 have i:∀g,zH L.vI g->¬(g=L.m\/zH L.vC g\/g=L.q):=λg d q=>q.elim (nI g d).2.2 (λq=>q.elim (λq=>(nC _ q).2.2.2 d) (nI g d).2.1)
 have l:Fr (L.has p) (Xj.has { L with vC:=v' } p) w (w2.setCell (L.q,0) v'):=by
  refine(f3.wide (G:=L.has p) (λk b=>by rcases b with b|b|b;exact .inr (.inr (.inl b));exact .inr (.inr (.inr (.inl b)));exact .inr (.inl b))).tg λk b=>?_
  rcases b with b|b|b|b|b|b
  .exact .inl (.inl b)
  .exact .inl (.inr (.inl b))
  .exact .inl (.inr (.inr (.inl b)))
  .exact(o k b).imp (λq => .inr (.inr (.inr (.inl q)))) id
  .exact .inl (.inr (.inr (.inr (.inr (.inl b)))))
  .exact .inl (.inr (.inr (.inr (.inr (.inr b)))))
 refine⟨{ L with vC:=v' },⟨f3.cell h.p0 c,f3.cell h.p1 c,f3.cell h.p2 c,yw r _,?_,?_,λj=>(f3.frozen lp c).trans (h.zp j),λj=>?_,(yc (f3.keep p lp c)).trans h.tp,?_,?_,?_,f3.own h.cI i,h.rows.fr f3 ?_,h.low rfl l⟩,⟨rfl,rfl⟩,l⟩
 .rw[zo,yz zZ];exact f2.cell h.q1 nq
 .rw[zo,yz zZ];exact f2.cell h.q2 nq
 .rw[zO];exact(f2.frozen n nq).trans (h.zq j)
 .rw[qQ];exact(yc (f2.keep _ n nq)).trans h.tq
 .have f:jU 3 w2 L.m (s.cs.length+1) (λx=>if t=x then some s.cs.length else ju s.cs x):=hm.fr h2 (λq=>(nC _ q).2.2.1 rfl);rw[FK v]at f;have:=f.keep (w':=w2.setCell ⟨L.q,0,none⟩ v') (yZ _ _ _ _ (λe=>n3 e.symm));simpa using this
 .have:=vY u (a:=(L.q,0)) y v';simpa using this
 .intro k b;rcases b with rfl|b|rfl
  .rw[XO h.mp];simp
  .rw[xA h.cC b];simp
  .rw[h.tq];simp
def Q6(p:Nat)(L:Xj)(s:MkS)(t:Wd)(w:z8)(h:uZ p L s w)(E:t.length<=5000000)(I:s.cs.length<=1000000) :
  zC prog 140 #[(p,0),zM t] w λe w'=>e = .returned (s.num t:Nat)/\∃L',uZ p L' (s.const t) w'/\(L'.q=L.q/\L'.B=L.B)/\Fr (L.has p) (L'.has p) w w':=by
 have r:=Z h;have p0:=h.p0;have p2:=h.p2;have q0:=h.q0;have x:=h.mp.look GL t E;by_cases b:t∈s.cs
 .rw[show ju s.cs t=some (s.num t)from yV b]at x;have C:=Z (show s.const t=s from yV b);clear h b;go_enter func140,ntmps140;go_wp2;go_ret;rw[C.o];exact⟨rfl,L,r.o,⟨rfl,rfl⟩,Fr.refl _ _⟩
 .rw[show ju s.cs t=none from yz b]at x;have C:=Z (show s.const t={ s with cs:=s.cs++[t] }from yz b);have G:=Z (show s.num t=s.cs.length from zpb b);obtain⟨w1,y,k,f⟩:=h.mp.put GL t E (s.cs.length:Nat) s.cs.length rfl J J;obtain⟨n,hn⟩:=zr s.cs.length;have D:=Z b;have u:=f.cell p0 (λe=>h.nP.2.1 (zL e));have j:=f.cell q0 (λe=>h.nP.2.2 (zL e));have c:w1.ownsRow 0 9 1 L.vC s.cs.length (s.cs.map zM):=h.cC.kept f (by
   cases hv:L.vC.ownBlock with
   |none=>exact .inl rfl
   |some g=>exact .inr (λe=>(h.nC hv).2.2.1 (zL e)))
  obtain⟨ca,cc,l⟩:=zn c;rw[hn]at y k c l;rw[l]at q0 j c;clear h b;go_enter func140,ntmps140;go_wp2_with fail;refine DN (λW':z8=>zu W' p 0 (zU L.q 0)/\zu W' L.q 0 (.slice ca n cc)) 16 [0,1,2,3,4,5,6,7,8,9,10,11] 5 ⟨u,j⟩ ?_;refine dJ 12 (λv m=>?_);go_simp;refine m.out _ _ ⟨yy u _,yy j _⟩ λ_=>?_
  clear m v;refine dJ 13 (λv m=>?_);rw[yV xV];change kd _ _ _ (w1.drew.alloc (.cells [_].toArray _)) _ _
  refine jf fY [_] 1 (by exact c) J ?_;intro v2 w2 i a;have a:=a.und;rw[<-l]at a;have F:=Z a;have z:=a.cell u (λq=>(r.o.nC q).1 rfl);have A:=a.cell j (λq=>(r.o.nC q).2.1 rfl);have z2:=(a.frozen (X _ _ j) (λq=>(r.o.nC q).2.1 rfl)).trans ((zV (f.block L.q (X _ _ q0) (λe=>r.o.nP.2.2 (zL e)))).trans (r.o.zq 0));rw[<-hn]at i k;have H:=Z (r.o.more D.o k f i a);rw[hn]at i;obtain⟨a2,c2,rfl⟩:=zn i;clear i a k l c;go_simp;refine m.out _ _ ⟨z,A⟩ λ_=>?_
  clear m v;refine jL [14,15] 1 rfl ZR yq yq ⟨z,A⟩ ?_;(iterate 2 (refine ty ?_;try simp only[pl]))
  refine yS ?_;refine FT 16 (λv m=>?_);go_simp;refine m.out _ _ ?_;clear m v;refine FW ?_ _;go_wp2;go_ret;rw[C.o,G.o,hn];exact⟨rfl,H.o⟩
variable{kv tv:Value}
structure jQ(w:z8)(p:Nat)(i:Nat)(b c:Nat):Prop where
 pb:zu w b 0 (p,0)
 pc:zu w c 0 i
 tb:jh w b=some 138
 tc:jh w c=some 3
abbrev Zc(b c:Nat):Value := .func (.func 99) #[] #[(b,0),(c,0)]
def uq.pJ{l:List Nat}(h:uq w v l):fR w v l:=by
 rcases h.2 with⟨rfl,hn⟩|⟨g,cap,d,rfl,_,f,b,a,e,i⟩
 .exact⟨none,0,by rw[hn],J,zQ _,λj c=>J⟩
 .refine⟨_,cap,rfl,b,a,λj c=>⟨_,rfl,?_⟩⟩;rw[vS,xrb h j J];simp[bo,c]
def uZ.xe0{i:uG}(h:uZ p L s w)(b:uq w kv i.k)(D:uq w tv i.tg)(H:∀g,zH kv g->¬L.has p g)(A:∀g,zH tv g->¬L.has p g)(I:∀g,zH tv g->¬zH kv g)
  (lk:∀g,zH kv g\/zH tv g->L.B<=g) (F:w2.ownsRow 0 87 5 v' (s.code.length+1) (dI s.code L.rs++Jg i (kv,tv))) (h2:Fr (zH L.vI) (zH v') w w2) :
  ∃L',uZ p L' { s with code:=s.code++[i] } (w2.setCell (L.q,1) v')/\(L'.q=L.q/\L'.B=L.B)/\Fr (λg=>L.has p g\/zH kv g\/zH tv g) (L'.has p) w (w2.setCell (L.q,1) v'):=by
 obtain⟨n1,n2,n3⟩:=h.nP;have nC:=λg c=>h.nC (g:=g) c
 have nI:=λg c=>h.nI (g:=g) c
 have E:=uO h.tq;have lp:=uO h.tp;have nq:¬zH L.vI L.q:=λq=>(nI _ q).2.1 rfl
 have K:¬zH v' L.q:=λq=>(h2.fp _ q).elim nq J
 have f3:Fr (λk=>zH L.vI k\/k=L.q) (λk=>zH L.vI k\/k=L.q) w (w2.setCell ⟨L.q,1,none⟩ v'):=(h2.wide (λ_ q => .inl q)).set _ (.inl (.inr rfl));have l:¬(zH L.vI p\/p=L.q):=λq=>q.elim (λq=>(nI _ q).1 rfl) n1
 have z:∀g,zH L.vC g->¬(zH L.vI g\/g=L.q):=λg c q=>q.elim (nC g c).2.2.2 (nC g c).2.1
 have C:Fr (λg=>L.has p g\/zH kv g\/zH tv g) (Xj.has { L with vI:=v',rs:=L.rs++[(kv,tv)] } p) w (w2.setCell (L.q,1) v'):=by
  refine(f3.wide (G:=λg=>L.has p g\/zH kv g\/zH tv g) (λk b=>by rcases b with b|b;exact .inl (.inr (.inr (.inr (.inr (.inl b)))));exact .inl (.inr (.inl b)))).tg λk b=>?_
  rcases b with b|b|b|b|b|⟨r,hr,b⟩
  .exact .inl (.inl (.inl b))
  .exact .inl (.inl (.inr (.inl b)))
  .exact .inl (.inl (.inr (.inr (.inl b))))
  .exact .inl (.inl (.inr (.inr (.inr (.inl b)))))
  .exact(h2.fp k b).imp (λq => .inl (.inr (.inr (.inr (.inr (.inl q)))))) id
  .rcases zS.1 hr with hr|hr
   .exact .inl (.inl (.inr (.inr (.inr (.inr (.inr ⟨r,hr,b⟩))))))
   .simp at hr;subst hr;exact .inl (.inr b)
 have u:∀k,(zH L.vI k\/k=L.q)->jh w k≠some 3:=by
  rintro k (b|rfl)
  .rw[xA h.cI b];simp
  .rw[h.tq];simp
 have d:=h.rows.len;refine⟨{ L with vI:=v',rs:=L.rs++[(kv,tv)] },⟨f3.cell h.p0 l,f3.cell h.p1 l,f3.cell h.p2 l,?_,yw (h2.cell h.q1 nq) _,?_,λj=>(f3.frozen lp l).trans (h.zp j),λj=>?_,(yc (f3.keep p lp l)).trans h.tp,?_,h.mp.fr f3 (λq=>q.elim (λq=>(nI _ q).2.2 rfl) (λe=>n3 e.symm)),f3.own h.cC z,?_,⟨by simp[d],?_,?_⟩,?_⟩,⟨rfl,rfl⟩,C⟩
 .rw[zo,yz zZ];exact h2.cell h.q0 nq
 .rw[zo,yz zZ];exact h2.cell h.q2 nq
 .rw[zO];exact(h2.frozen E nq).trans (h.zq j)
 .rw[qQ];exact(yc (h2.keep _ E nq)).trans h.tq
 .have:=vY F (a:=(zU L.q 1)) K v';rw[BA _ _ _ _ d];simpa using this
 .have h0:=h.rows.fr f3 u;intro n j r o t;by_cases hn:n<s.code.length
  .rw[za hn]at o;rw[za J]at t;exact h0.k n j r o t
  .have f:n=s.code.length:=(by have:=(zF.1 o).1;simp at this;omega);rw[f,xq (Y _)]at o;rw[f,xq J,d]at t;simp at o t;subst o t;exact⟨f3.own b (λg c q=>u g q (xA b c)),f3.own D (λg c q=>u g q (xA D c))⟩
 .intro n m r r' o t g c;have y:∀n (r:Value×Value),(L.rs++[(kv,tv)])[n]? = some r->(n<L.rs.length/\L.rs[n]? = some r)\/(n=L.rs.length/\r=(kv,tv)):=λn r e=>by
   by_cases hn:n<L.rs.length
   .exact .inl ⟨hn,by rwa [za hn]at e⟩
   .have f:n=L.rs.length:=(by have:=(zF.1 e).1;simp at this;omega);rw[f,xq (Y _)]at e;simp at e;exact .inr ⟨f,e.symm⟩
  rcases y n r o with⟨a1,a2⟩|⟨a1,rfl⟩<;>rcases y m r' t with⟨b1,b2⟩|⟨b1,rfl⟩
  .exact h.rows.ne n m r r' a2 b2 g c
  .have v:L.has p g := .inr (.inr (.inr (.inr (.inr ⟨r,zW a2,.inr c⟩))));exact⟨λq=>H g q v,λq=>absurd v (A g q)⟩
  .have v:∀x,(zH r'.1 x\/zH r'.2 x)->L.has p x:=λx hx => .inr (.inr (.inr (.inr (.inr ⟨r',zW b2,hx⟩))))
   exact⟨λq=>A g c (v g (.inl q)),λq=>absurd (v g (.inr q)) (A g c)⟩
  .exact⟨I g c,λ_=>J⟩
 .intro k b;have:=h.base;exact(C.fp k b).elim (λq=>q.elim (h.lo k) (lk k)) (λq=>by show L.B<=k;omega)
def uZ.setPos(h:uZ p L s w)(n:Nat):uZ p L { s with pos:=n } (w.setCell (p,1) n)/\Fr (L.has p) (L.has p) w (w.setCell (p,1) n):=by
 obtain⟨n1,n2,n3⟩:=h.nP;have f3:Fr (λk=>k=p) (λk=>k=p) w (w.setCell (zU p 1) n):=(Fr.refl _ _).set _ (.inl rfl);refine⟨⟨?_,yw h.p1 _,?_,f3.cell h.q0 (λe=>n1 e.symm),f3.cell h.q1 (λe=>n1 e.symm),f3.cell h.q2 (λe=>n1 e.symm),λj=>by rw[zO];exact h.zp j,λj=>by rw[zO];exact h.zq j,by rw[qQ];exact h.tp,by rw[qQ];exact h.tq,
  h.mp.fr f3 (λe=>n2 e.symm),f3.own h.cC (λg a=>(h.nC a).1),f3.own h.cI (λg a=>(h.nI a).1),h.rows.fr f3 (by rintro k rfl;rw[h.tp];simp),h.lo⟩,f3.wide (by rintro k rfl;exact .inl rfl)⟩
 .rw[zo,yz zZ];exact h.p0
 .rw[zo,yz zZ];exact h.p2
def pG(w:z8)(x y:Value)(l:List Value)(t1 t2 t3:xm):∃W,W=((w.alloc (.cells #[x] t1)).alloc (.cells l.toArray t2)).alloc (.cells #[y] t3)/\Fr yH yH w W/\W.heap.size=(w:Nat)+3/\zu W (w:Nat) 0 x/\(∀j,W.cell? ⟨(w:Nat)+1,j,none⟩=l[j]?)/\zu W ((w:Nat)+2) 0 y/\jh W (w:Nat)=some t1/\jh W ((w:Nat)+2)=some t3:=by
 have b:(w.alloc (.cells #[x] t1)).heap.size=(w:Nat)+1:=zZ;have a:((w.alloc (.cells #[x] t1)).alloc (.cells l.toArray t2)).heap.size=(w:Nat)+2:=zZ;refine⟨_,rfl,(((Fr.refl _ _).alloc _).alloc _).alloc _,zZ,yy (yy (zf w #[x] t1 (0,0) 0) _) _,λj=>?_,by rw[<-a];exact zf _ #[y] t3 (0,0) 0,?_,by rw[<-a];exact bI _ _ _⟩
 .rw[zc _ _ _ (by rw[a];show (w:Nat)+1<_;omega),<-b,zf];simp
 .rw[yc (xZ _ _ _ (by rw[a];omega)),yc (xZ _ _ _ (by rw[b];omega))];exact bI _ _ _
def Z6(p:Nat)(L:Xj)(s:MkS)(op v:Nat)(k tg:List Nat)(kv tv:Value)(w:z8)(h:uZ p L s w)(hk:uq w kv k)(ht:uq w tv tg)(nk:∀g,zH kv g->¬L.has p g)(nt:∀g,zH tv g->¬L.has p g)(nn:∀g,zH tv g->¬zH kv g)
  (lk:∀g,zH kv g\/zH tv g->L.B<=g) (ho:IU ⟨op,s.pos,v,k,tg⟩) (hF:qj w) (hB:2<L.B) (hl:s.code.length<=1000000) (hp:s.pos<=1000000) (hx:(xF ⟨op,s.pos,v,k,tg⟩).length<=1000000) :
  zC prog 51 #[(p,0),.agg #[op,.int .i64 0,v,kv,tv]] w λe w'=>∃b c,e = .returned (Zc b c)/\jQ w' p s.code.length b c/\(w:Nat)<=b/\(w:Nat)<=c /\
   ∃L',uZ p L' (s.put op v k tg) w'/\(L'.q=L.q/\L'.B=L.B)/\Fr (λg=>L.has p g\/zH kv g\/zH tv g) (L'.has p) w w'/\¬L'.has p b/\¬L'.has p c:=by
 obtain⟨M,HK,HT,HO,HF,HX⟩:=EZ h hk ht ho hF hx;have p0:=h.p0;have p1:=h.p1;have q0:=h.q1;have lp:=X _ _ p0;obtain⟨n,hn⟩:=zr s.code.length;obtain⟨pos,y⟩:=zr s.pos;have r:=h.cI;rw[hn]at r;obtain⟨ia,ic,hvI⟩:=zn r;rw[hvI]at q0 r;obtain⟨ka,kc,rfl⟩:=zn hk;obtain⟨ta,tc,rfl⟩:=zn ht;obtain⟨kn,hkn⟩:=zr k.length;obtain⟨tn,htn⟩:=zr tg.length;rw[hkn]at HK nk nn lk|-;rw[htn]at HT nt nn lk|-;rw[y]at p1;have HN:=Z hn;have HP:=Z y;have lq:=X _ _ q0;have p9:n<=1000000:=by rw[<-hn];exact hl
 have pF:pos<=1000000:=by rw[<-y];exact hp
 obtain⟨N,P⟩:=zr (w:Nat);have p0a:=λo o2=>yy (yy p0 o) o2
 have p1a:=λo o2=>yy (yy p1 o) o2
 have q0a:=λo o2=>yy (yy q0 o) o2
 clear h hk ht ho hF hx hn y;go_enter func51,ntmps51;go_wp2_with fail;obtain⟨W,Ep,f1,s1,b0,e0,c0,y1,y2⟩:=pG w (zU p 0) n [.int .i64 op,.int .i64 pos,.int .i64 v,.slice ka kn kc,.slice ta tn tc] 138 87 3;rw[<-Ep];rw[P]at s1 b0 e0 c0 y1 y2;have HY:=Z (zg y1 y2);clear y1 y2;have p0:=f1.cell p0 id;have q0:=f1.cell q0 id;have EF:=Z f1;have KG:=Z s1;have HW1:=Z (λg (t:g<N)=>f1.keep g (by rw[P];exact t) id);have E:=e0 0;have F:=e0 1;have G:=e0 2;have H:=e0 3;have i4:=e0 4;simp at E F G H i4;clear Ep;refine DN (λW':z8=>zu W' p 0 (zU L.q 0)/\zu W' L.q 1 (.slice ia n ic)/\zu W' N 0 (zU p 0)/\zu W' (N+1) 0 op/\zu W' (N+1) 1 pos/\zu W' (N+1) 2 v/\zu W' (N+1) 3 (.slice ka kn kc)/\zu W' (N+1) 4 (.slice ta tn tc)) 16 [0,1,2,3,4,5,6,7,8,9,10,11] 5 ⟨p0,q0,b0,E,F,G,H,i4⟩ ?_;refine dJ 12 (λO x=>?_);go_simp;refine x.out _ _ ⟨yy p0 _,yy q0 _,yy b0 _,yy E _,yy F _,yy G _,yy H _,yy i4 _⟩ λ_=>?_
 clear x O;refine dJ 13 (λO x=>?_);rw[yV xV];rw[show N+3=(W:Nat)from s1.symm];change kd _ _ _ (W.drew.alloc (.cells [_,_,_,_,_].toArray _)) _ _
 refine jf Rx [_,_,_,_,_] 1 ((f1.own r (λ_ _=>id):W.drew.ownsRow _ _ _ _ _ _)) J ?_;intro v2 w2 DQ f;have f:=f.und;rw[<-hvI]at f;have R:=M.o.fr f1 (λ_ q=>q.elim);have l:uq W (.slice ka kn kc) k/\uq W (.slice ta tn tc) tg:=⟨f1.own HK.o (λ_ _=>id),f1.own HT.o (λ_ _=>id)⟩;have nI:∀g,zH L.vI g->g<N/\g≠p/\g≠L.q:=λg t=>⟨by rw[<-P];exact uj M.o.cI t,(M.o.nI t).1,(M.o.nI t).2.1⟩
 have nb:∀j,N<=j->¬zH L.vI j:=λj hj q=>by have:=(nI j q).1;omega
 have p0:=f.cell p0 (λq=>(nI _ q).2.1 rfl);have q0:=f.cell q0 (λq=>(nI _ q).2.2 rfl);have b0:=f.cell b0 (nb N (Y _));have E:=f.cell E (nb (N+1) J);have F:=f.cell F (nb (N+1) J);have G:=f.cell G (nb (N+1) J);have H:=f.cell H (nb (N+1) J);have i4:=f.cell i4 (nb (N+1) J);have c0:=f.cell c0 (nb (N+2) J);have zq:=(f.frozen (a:=⟨L.q,1,none⟩) (uO R.tq) (λq=>(nI _ q).2.2 rfl)).trans (R.zq 1);have ld:=Z (show uq w2 (.slice ka kn kc) k/\uq w2 (.slice ta tn tc) tg from⟨f.own l.1 (λg t q=>nk g t (.inr (.inr (.inr (.inr (.inl q)))))),f.own l.2 (λg t q=>nt g t (.inr (.inr (.inr (.inr (.inl q))))))⟩);have HM:=Z (R.xe0 (i:=⟨op,s.pos,v,k,tg⟩) l.1 l.2 nk nt nn lk (by rw[HN.o,HP.o];exact DQ) f);have VE:=Z f;obtain⟨a2,c2,rfl⟩:=zn DQ;clear DQ f r l f1 R;go_simp;refine x.out _ _ ⟨p0,q0,b0,E,F,G,H,i4⟩ λ_=>?_
 clear x O;refine jL [14,15] 1 rfl ZR yq yq ⟨p0,q0,b0,E,F,G,H,i4⟩ ?_;(iterate 2 (refine ty ?_;try simp only[pl]))
 refine yS ?_;refine FT 16 (λO x=>?_);go_simp;refine x.out _ _ ?_;clear x O;refine FW ?_ _;obtain⟨L2,D,⟨KD,Dj⟩,PD⟩:=HM.o;obtain⟨C,A⟩:=zr (w2.setCell (zU L.q 1) (.slice a2 (n+1) c2));have T:∀{a:yM} {u:Value},w2.cell? a=some u->a.block≠L.q->C.cell? a=some u:=λhc hn=>by rw[<-A];exact uH hc _ (λe=>hn e.symm)
 rw[A]at D PD|-;have p0:=D.p0;have p1:zu C p 1 pos:=by have:=D.p1;rw[show s.pos=pos from HP.o]at this;exact this
 have qN:L.q<N:=by rw[<-P];exact lq
 have b0:=T b0 (show N≠L.q by omega);have c0:=T c0 (show N+2≠L.q by omega);have E:=T E (show N+1≠L.q by omega);have F:=T F (show N+1≠L.q by omega);have G:=T G (show N+1≠L.q by omega);have H:=T H (show N+1≠L.q by omega);have i4:=T i4 (show N+1≠L.q by omega);have s3:N+3<=(C:Nat):=X _ _ c0;have ON:∀g,g<L.B->C.heap[g]? = w.heap[g]? := λg t=>by
  rw[<-A,yZ _ _ _ _ (by show g≠L.q;have:=M.o.lo L.q (.inr (.inl rfl));omega)];have:=M.o.base;rw[P]at this;exact(VE.o.keep g J (λq=>by have:=M.o.lo g (.inr (.inr (.inr (.inr (.inl q)))));omega)).trans (HW1.o g J)
 have HFO:qj C:=λo ho=>(yE (ON _ hB)).trans (HF.o o ho)
 have hia:IV C.drew (N+1) 0 ⟨op,pos,v,k,tg⟩ (.slice ka kn kc) (.slice ta tn tc):=by
  refine⟨E,F,G,H,i4,uq.pJ ?_,uq.pJ ?_⟩
  .show uq C _ _;rw[<-A];exact vY ld.o.1 (λe=>nk _ e (.inr (.inl rfl))) _
  .show uq C _ _;rw[<-A];exact vY ld.o.2 (λe=>nt _ e (.inr (.inl rfl))) _
 have Ab:∀g,(zH (.slice ka kn kc) g\/zH (.slice ta tn tc) g)->g<(C:Nat):=λg t=>by
  have:g<N:=by rw[<-P];exact t.elim (uj HK.o) (uj HT.o)
  omega
 have hio:IU ⟨op,pos,v,k,tg⟩:=by have:=HO.o;rw[show s.pos=pos from HP.o]at this;exact this
 have hxl:=HX.o;rw[show s.pos=pos from HP.o]at hxl;have HAP:=Z (BW (N+1) 0 ⟨op,pos,v,k,tg⟩ _ _ (.slice none 0 0) [] C.drew hia hio (xx _ _ _ _) (λq=>kK) (λg t=>⟨Ab g (.inl t),λq=>kK⟩) (λg t=>⟨Ab g (.inr t),λq=>by cases q⟩) HFO (λq=>by cases q) (by simp only[xK];omega));obtain⟨Xk,hX⟩:=zr (xF ⟨op,pos,v,k,tg⟩);rw[xK,hX]at HAP;rw[hX]at hxl;have HXX:=Z hX;have EK:=Z D;have I:=Z PD;clear hia Ab hio ON A D PD hX T E F G H i4;go_wp2_with fail;refine DN (λW':z8=>zu W' p 1 pos/\zu W' N 0 (zU p 0)) 9 [0,1,2,3] 6 ⟨p1,b0⟩ ?_;refine dJ 4 (λO x=>?_);go_simp;refine HAP.o.mono ?_;rintro e W4 ⟨v4,rfl,El,m⟩;have m:=m.und;obtain⟨a4,c4,rfl⟩:=zn El;have p1:=m.cell p1 (λq=>by cases q);have b0:=m.cell b0 (λq=>by cases q);have c0:=m.cell c0 (λq=>by cases q);have S:=EK.o.fr m (λ_ q=>by cases q);refine x.out _ _ ⟨p1,b0⟩ λ_=>?_
 clear x O;refine jL [5,6,7,8] 1 rfl ZR yq yq ⟨p1,b0⟩ ?_;have ua7:IntKind.i64.wrap ((pos:Int)+(Xk.length:Int))=((pos+Xk.length:Nat):Int):=by simp[IntKind.wrap,IntKind.signed,IntKind.bits];omega
 (iterate 4 (refine ty ?_;try simp only[pl]))
 refine yS ?_;have zp:=S.zp 1;refine FT 9 (λO x=>?_);go_simp;refine x.out _ _ ?_;clear x O;refine FW ?_ _;obtain⟨TE,OO⟩:=S.setPos (pos+Xk.length);obtain⟨V,K,U,HM4,z⟩:=Jl TE OO m S P;have np:p<N:=by rw[<-P];exact lp
 have e9:((pos+Xk.length:Nat):Int)=(pos:Int)+(Xk.length:Int):=J;rw[e9]at V K;obtain⟨W5,Q⟩:=zr (W4.setCell (zU p 1) (.int .i64 ((pos:Int)+(Xk.length:Int))));have b5:zu W5 N 0 (zU p 0):=by rw[<-Q];exact uH b0 _ (by show p≠N;omega)
 have c5:zu W5 (N+2) 0 n:=by rw[<-Q];exact uH c0 _ (by show p≠N+2;omega)
 rw[Q]at V K|-;clear TE OO m S;clear Q P;have hmf:∀(fn:Fn) (first cap:Array Value) (w:z8),(uV fn first cap).run prog w = .ok (.func fn first cap) w:=λ_ _ _ _=>rfl
 go_wp2;go_ret;have hno:∀g,N<=g->g<N+3->¬L2.has p g:=λg h1 h2 q=>by
  rcases I.o.fp g q with(q|q|q)|q
  .have:=M.o.lt q;have:=z.o;omega
  .have:=uj HK.o q;have:=z.o;omega
  .have:=uj HT.o q;have:=z.o;omega
  .have:=KG.o;omega
 have TH:∀g,N<=g->g<N+3->jh W5 g=jh W g:=λg h1 h2=>by
  have l1:g<(W:Nat):=by have:=KG.o;omega
  have l3:g<(C:Nat):=zD l1 I.o.size;rw[yc (K.o.keep g (zD l3 U.o.size) (hno g h1 h2)),yc (U.o.keep g l3 (λq=>kK)),yc (I.o.keep g l1 (λq=>?_))];have:=z.o;rcases q with q|q|q
  .have:=M.o.lt q;omega
  .have:=uj HK.o q;omega
  .have:=uj HT.o q;omega
 refine⟨N,N+2,rfl,⟨b5,by rw[HN.o];exact c5,(TH N (Y _) J).trans HY.o.1,(TH (N+2) J J).trans HY.o.2⟩,by have:=z.o;omega,by have:=z.o;omega,L2,?_,⟨KD,Dj⟩,(((EF.o.wide (λ_ q=>q.elim)).trans I.o).trans (U.o.wide (λ_ q=>kK))).trans K.o,hno N (Y _) J,hno (N+2) J J⟩;have:=V.o;simp only[MkS.put];rw[show s.pos=pos from HP.o]at this|-;rw[show xF ⟨op,pos,v,k,tg⟩=Xk from HXX.o];exact this
def zak{base:Nat}{g:Nat}(h:w.ownsRow base e size (.slice (g,0) n cap) n xs)(j:Nat)(u:Value) :
  (w.setCell (g,j) u).ownsRow base e size (.slice (g,0) n cap) n (xs.set j u):=by
 obtain⟨h1,h2⟩:=h;refine⟨by simp[h1],?_⟩;rcases h2 with⟨h2,_⟩|⟨g',b,a,hv,f,c,k1,k2,k3,k4⟩
 .cases h2
 .cases hv;have uo:=lt_of_block c;have d:w.heap[g] = .cells a e (0,0):=by simpa[OA uo]using c
  refine .inr ⟨g,cap,a.setIfInBounds j u,rfl,f,?_,k1,k2,by simp[k3],?_⟩
  .show(w.heap.modify g _)[g]? = _;rw[OA QS,Array.getElem_modify_self,d];rfl
  .rw[Array.toList_setIfInBounds,List.take_set,k4]
def uZ.xH{T tc:Nat}{x:uG}(h:uZ p L s w)(hi:s.code[i]? = some x)(hr:L.rs[i]? = some (kv,.slice (T,0) n tc)) :
  uZ p L (s.xH i j) (w.setCell (T,j) s.pos)/\Fr (L.has p) (L.has p) w (w.setCell (T,j) s.pos):=by
 obtain⟨o,v⟩:=h.rows.k i x _ hi hr;have A:=xA v (g:=T) rfl;have nx:∀g t,jh w g=some t->t≠3->g≠T:=λg t c u e=>by rw[e,A]at c;exact u (zL c).symm
 have z:=nx p _ h.tp zR;have nq:=nx L.q _ h.tq zR;have nm:L.m≠T:=λe=>by have:=XO h.mp;rw[e,A]at this;cases this
 have f3:Fr (λk=>k=T) (λk=>k=T) w (w.setCell (T,j) s.pos):=(Fr.refl _ _).set _ (.inl rfl);have hn:n=x.tg.length:=by rcases v.2 with⟨hv,_⟩|⟨g,cap,B,hv,_⟩<;>cases hv;rfl
 refine⟨⟨f3.cell h.p0 z,f3.cell h.p1 z,f3.cell h.p2 z,f3.cell h.q0 nq,f3.cell h.q1 nq,f3.cell h.q2 nq,λj=>by rw[zO];exact h.zp j,λj=>by rw[zO];exact h.zq j,by rw[qQ];exact h.tp,by rw[qQ];exact h.tq,
  h.mp.fr f3 nm,f3.own h.cC (λg c=>nx g _ (xA h.cC c) zR),?_,⟨by simpa[MkS.xH]using h.rows.len,?_,h.rows.ne⟩,h.lo⟩,f3.wide (λk o=>?_)⟩
 .have:=f3.own h.cI (λg c=>nx g _ (xA h.cI c) zR);simp only[MkS.xH,List.length_modify];rw[show dI (s.code.modify i λx=>{ x with tg:=x.tg.set j s.pos }) L.rs=dI s.code L.rs from Rv s.code L.rs i (λl=>l.set j s.pos)];exact this
 .intro m y r d f;simp only[MkS.xH]at d;rw[Ja]at d;by_cases hm:i=m
  .subst hm;rw[hi]at d;rw[hr]at f;simp at d f;subst d f;refine⟨f3.own o (λg c e=>(h.rows.ne i i _ _ hr hr T rfl).1 (e▸c)),?_⟩;subst hn;have:=zak v j s.pos;have e:(bo x.tg).set j s.pos=bo (x.tg.set j s.pos):=(by simp[bo,List.map_set]);rw[e]at this;show World.ownsRow _ _ _ _ _ (x.tg.set j s.pos).length _;rw[List.length_set];exact this
  .simp[hm]at d;obtain⟨a,b⟩:=h.rows.k m y r d f;exact⟨f3.own a (λg c e=>(h.rows.ne i m _ _ hr f T rfl).1 (e▸c)),f3.own b (λg c e=>hm ((h.rows.ne i m _ _ hr f T rfl).2 (e▸c)))⟩
 .subst o;exact .inr (.inr (.inr (.inr (.inr ⟨_,zW hr,.inr rfl⟩))))
def Ru(p:Nat)(L:Xj)(s:MkS)(w:z8)(e:xU)(w':z8):Prop:=e = .returned (.tuple #[])/\uZ p L s w'/\Fr (L.has p) (L.has p) w w'
def Jf(p:Nat)(L:Xj)(s:MkS)(i j b c:Nat)(x:uG)(w:z8)(h:uZ p L s w)(u:jQ w p i b c)(hi:s.code[i]? = some x)(A:j<x.tg.length)(D:s.code.length<=1000000)(G:x.tg.length<=1000000) :
  zC prog 99 #[j,(b,0),(c,0)] w (Ru p L (s.xH i j) w):=by
 have t:=(zF.1 hi).1;obtain⟨⟨kv,tv⟩,hr⟩:∃r,L.rs[i]? = some r:=⟨_,zk GY⟩;obtain⟨F,y⟩:=h.rows.k i x _ hi hr;obtain⟨T,tc,rfl,-,M,a⟩:=xf y J;obtain⟨I,H,f,-,K,d⟩:=xf h.cI J;have p0:=h.p0;have p1:=h.p1;have q1:=h.q1;rw[f]at q1;have b0:=u.pb;have c0:=u.pc;have t0:zu w I (i*5+4) (.slice (zU T 0) x.tg.length tc):=by
  rw[d _ J,Kr _ _ h.rows.len i 4 x _ hi hr J];rfl
 have u0:zu w T j (x.tg[j]:Nat):=by
  rw[a j J];simp[bo,A]
 have zT:w.frozen? (T,j)=false:=by
  rcases y.2 with⟨hv,_⟩|⟨g,cap,C,hv,_,E,_⟩
  .cases hv
  .cases hv;simp[World.frozen?,E]
 have l:=Z (h.xH (j:=j) hi hr);obtain⟨n,hn⟩:=zr s.code.length;obtain⟨m,hm⟩:=zr x.tg.length;obtain⟨pos,e⟩:=zr s.pos;rw[hn]at q1 t;rw[hm]at t0 A;rw[e]at p1 l;have k1:(i:Int)<(n:Int):=J;have k2:(j:Int)<(m:Int):=J;clear h u F y a d f hi hr;go_enter func99,ntmps99;go_wp2_with fail;refine DN (λW':z8=>zu W' p 0 (zU L.q 0)/\zu W' p 1 pos/\zu W' L.q 1 (.slice (zU I 0) n H)/\zu W' b 0 (zU p 0)/\zu W' c 0 i/\zu W' I (i*5+4) (.slice (zU T 0) m tc)) 17 (xB 17) 1 ⟨p0,p1,q1,b0,c0,t0⟩ ?_;refine FT 17 (λB z=>?_);go_simp;refine z.out _ _ ?_;clear z B;refine FW ?_ _;go_wp2;refine yK (v := .tuple #[]) ?_ rfl ?_
 .simp[yN,results99,go_sem]
 exact⟨rfl,l.o.1.drew,l.o.2.drew⟩
def MkS.sz(s:MkS):Nat:=s.code.length+s.cs.length+s.pos
def MkS.one(s:MkS)(op:Nat)(t:Wd):MkS:=(s.const t).put op 0 [s.num t] []
def xM(s:MkS)(t:Wd):(s.const t).sz<=s.sz+1/\(s.const t).code=s.code/\(s.const t).pos=s.pos:=by
 unfold MkS.const;split
 .exact⟨J,rfl,rfl⟩
 .exact⟨by simp[MkS.sz];omega,rfl,rfl⟩
def gh(s:MkS)(op v:Nat)(k tg:List Nat):(s.put op v k tg).sz=s.sz+1+(xF ⟨op,s.pos,v,k,tg⟩).length:=by simp[MkS.put,MkS.sz];omega
def XK(s:MkS)(i j:Nat):(s.xH i j).sz=s.sz:=by simp[MkS.xH,MkS.sz]
def Ms(s:MkS)(t:Wd):s.num t<=s.cs.length:=xrj
def Fr.tr{G a:Nat->Prop}(h:Fr F F' w w1)(k:Fr G a w1 w2)(b:∀q,G q->F q\/(w:Nat)<=q):Fr F a w w2 :=
 ⟨k.os.trans h.os,k.tape.trans h.tape,k.output.trans h.output,zj h.size k.size,λi hi hn=>(k.keep i (zD hi h.size) (λq=>(b i q).elim hn J)).trans (h.keep i hi hn),
  λi hi=>(k.fp i hi).elim (b i) (λq => .inr (zj h.size q))⟩
def uq.lit(w:z8)(l:List Nat)(a:l.length<=1000000):uq (w.alloc (.cells (bo l).toArray 3)) (.slice (w,0) l.length l.length) l:=by
 have h:=World.ownsRow_lit (base:=0) (e:=3) (size:=1) w (bo l).toArray l.length (zQ _) dO (by simp[bo]);simpa using h
def uq.nil(w:z8):uq w (.slice none 0 0) []:=xx _ _ _ _
def qj.fr(h:qj w)(hf:Fr F F' w w')(hF:∀k,F k->B<=k)(hB:2<B):qj w':=λo a=>hf.cell (h o a) (λq=>by have:=hF _ q;simp only at this;omega)
def MQ(p:Nat)(L:Xj)(s:MkS)(w:z8)(e:xU)(w':z8):Prop:=e = .returned (.tuple #[])/\MkQ p L s w w'
def Mt(p:Nat)(L:Xj)(s:MkS)(op:Nat)(t:Wd)(w:z8)(h:uZ p L s w)(d:op=1\/op=2\/op=3)(G:t.length<=5000000)(hs:s.sz<=900000)(hF:qj w)(hB:2<L.B) :
  zC prog 96 #[(p,0),op,zM t] w (MQ p L (s.one op t) w):=by
 have F:s.cs.length<=900000:=WK;have f:=Z (Q6 p L s t w h G J);have z:=Z h;have y:=Z hF;obtain⟨n,hn⟩:=zr (s.num t);have E:n<=900000:=by have:=Ms s t;omega
 have A:=Z hn;rw[hn]at f;obtain⟨z1,z2,H⟩:=xM s t;have D:=h.base.2;clear h hF hn;go_enter func96,ntmps96;go_wp2_with fail;refine f.o.mono ?_;rintro e w1 ⟨rfl,L1,Um,⟨r,a⟩,Ue⟩;clear f;have k:=uq.lit w1 [n] zZ;have l:=Um.alloc (.cells (bo [n]).toArray 3);have hx:(xF ⟨op,(s.const t).pos,0,[n],[]⟩).length<=1000:=by rcases d with rfl|rfl|rfl<;>simp[xF,uW,ua,vy]
 have x:=Z (Z6 p L1 (s.const t) op 0 [n] [] (.slice (w1,0) 1 1) (.slice none 0 0) (w1.alloc (.cells (bo [n]).toArray 3)) l k (uq.nil _) (λg hg q=>zqk) (λg hg=>Vp) (λg hg=>by cases hg)
  (λg hg=>zv9)
  ⟨by show op<12;omega,zZ,yJ,zZ,zZ,by rcases d with rfl|rfl|rfl<;>rfl⟩ ((y.o.fr Ue z.o.lo hB).fr ((Fr.refl yH w1).alloc _) (λ_ q=>q.elim) hB) (by rw[a];exact hB) (by have:=z2;unfold MkS.sz at hs z1;omega) (by rw[H];unfold MkS.sz at hs;omega) J)
 go_wp2_with fail;refine x.o.mono ?_;rintro e w2 ⟨b,c,rfl,I,hb,hc,C,m,⟨u,i⟩,j,-,-⟩;clear x;go_wp2;refine yK (v := .tuple #[]) ?_ rfl ?_
 .simp[yN,results96,go_sem]
 refine⟨rfl,C,?_,⟨u.trans r,i.trans a⟩,(Ue.alloc _).tr j (λq hq=>?_)⟩
 .unfold MkS.one;rw[A.o];exact m
 .exact zvj
variable{α:Type}
def qg:Wd:=[111,116,104,101,114]
def YQ:List Wd:=[[122,101,114,111],[111,110,101],[116,119,111],[102,101,119],[109,97,110,121],[111,116,104,101,114]]
def Fo.keys:Fo->List Wd
 |.xR k _ _ r=>k::r.keys
 |_=>[]
namespace MkS
def vN:Fo->MkS->List Nat->MkS×List Nat
 |.xR k _ _ r,s,acc=>if k=qg then vN r s acc else vN r (s.const k) (acc++[s.num k])
 |_,s,acc=>(s,acc)
def place(ks:List Wd)(k:Wd):Nat:=if k=qg then (ks.filter (· ≠ qg)).length else (ks.filter (· ≠ qg)).idxOf k
def vq:Fo->MkS->List (Wd×Nat)->MkS×List (Wd×Nat)
 |.xR k _ _ r,s,acc=>if k.head? = some 61 then vq r (s.put 7 (yg k.tail) [] [0]) (acc++[(k,s.code.length)])else vq r s acc
 |_,s,acc=>(s,acc)
def Rq(ks:List Wd)(t:Nat)(key:Wd)(s:MkS):MkS :=
 (xB 6).foldl (λs c=>if YQ.getD c []=key\/key=qg/\YQ.getD c [] ∉ ks then s.xH t c else s) s
def fy(n:Wd)(bs:Fo)(s:MkS):MkS×List Nat:=vN bs (s.const n) [s.num n]
def kT(n:Wd)(bs:Fo)(s:MkS):MkS:=(fy n bs s).1.put 10 0 (fy n bs s).2 (zX (fy n bs s).2.length 0)
def VV(n o:Wd)(bs:Fo)(s:MkS):MkS×List (Wd×Nat):=vq bs ((s.const n).put 4 (yg o) [s.num n] []) []
def kY(n o:Wd)(f:Nat)(bs:Fo)(s:MkS):MkS:=(VV n o bs s).1.put (if f=2 then 9 else 8) 0 [] (zX 6 0)
def bL(n:Wd)(bs:Fo)(s:MkS)(k:Wd)(x:MkS):MkS:=x.xH (fy n bs s).1.code.length (place bs.keys k)
def kZ(n o:Wd)(bs:Fo)(s:MkS)(k:Wd)(x:MkS):MkS :=
 match (VV n o bs s).2.lookup k with
 |some i=>x.xH i 0
 |none=>Rq bs.keys (VV n o bs s).1.code.length k x
def ur:Fo->(Wd->MkS->MkS)->MkS->List Nat->MkS×List Nat
 |.nil,_,s,ls=>(s,ls)
 |.text t r,bg,s,ls=>ur r bg (s.one 1 t) ls
 |.hash r,bg,s,ls=>ur r bg (s.put 6 0 [] []) ls
 |.put n _ r,bg,s,ls=>ur r bg (s.one 2 n) ls
 |.num n _ r,bg,s,ls=>ur r bg (s.one 3 n) ls
 |.br n _ f o _ bs r,bg,s,ls =>
  if f=0 then
   let y:=ur bs (bL n bs s) (kT n bs s) []
   ur r bg (y.2.foldl (λs i=>s.xH i 0) y.1) ls
  else
   let y:=ur bs (kZ n o bs s) (kY n o f bs s) []
   ur r bg ((y.2.foldl (λs i=>s.xH i 0) y.1).put 5 0 [] []) ls
 |.xR k _ m r,bg,s,ls =>
  let s1:=(ur m (λ_ s=>s) (bg k s) []).1
  ur r bg (s1.put 11 0 [] [0]) (ls++[s1.code.length])
def Z7(m:Fo)(s:MkS):MkS:=(ur m (λ_ s=>s) s []).1
def start:MkS:=⟨[],[],0⟩
def all(m:Fo):MkS:=(Z7 m start).put 0 0 [] []
end MkS
def EqW(k:Wd):Prop:=k.tail≠[]/\k.tail.length<=9/\k.tail.all yG=true
def Fo.YK:Fo->Prop
 |.nil=>True
 |.text t r=>t.length<=5000000/\r.YK
 |.hash r=>r.YK
 |.put n _ r=>n.length<=16/\r.YK
 |.num n _ r=>n.length<=16/\r.YK
 |.br n _ f o _ bs r=>n.length<=16/\f<3/\yg o<=999999999/\bs.xW=true/\bs.keys.Nodup/\(∀k∈bs.keys,k.length<=17/\(f≠0->k.head? = some 61->EqW k))/\bs.YK/\r.YK
 |.xR _ _ m r=>m.yT=true/\m.YK/\r.YK
def Fo.cw:Fo->Nat
 |.nil=>0
 |.text _ r=>5+r.cw
 |.hash r=>5+r.cw
 |.put _ _ r=>5+r.cw
 |.num _ _ r=>5+r.cw
 |.br _ _ _ _ _ bs r=>40+bs.cw+r.cw
 |.xR _ _ m r=>20+m.cw+r.cw
def Fo.gw:Fo->Nat
 |.xR _ _ m r=>5+m.cw+r.gw
 |_=>0
def Fo.XP:∀f:Fo,f.gw+15*f.keys.length<=f.cw
 |.xR k a m r=>by have:=Fo.XP r;simp only[Fo.gw,Fo.keys,Fo.cw,zY];omega
 |.nil=>zQ _
 |.text _ _=>zQ _
 |.hash _=>zQ _
 |.put _ _ _=>zQ _
 |.num _ _ _=>zQ _
 |.br _ _ _ _ _ _ _=>zQ _
def MkS.le(s s':MkS):Prop:=∀(i:Nat) (x:uG),s.code[i]? = some x->∃y,s'.code[i]? = some y/\y.tg.length=x.tg.length
def MkS.le_refl(s:MkS):s.le s:=λ_ x h=>⟨x,h,rfl⟩
def MkS.le_trans{a b c:MkS}(h:a.le b)(k:b.le c):a.le c:=λi x hx=>by
 obtain⟨y,h1,h2⟩:=h i x hx;obtain⟨z,d,e⟩:=k i y h1;exact⟨z,d,e.trans h2⟩
def MkS.Jd(s:MkS)(t:Wd):s.le (s.const t):=λi x hx=>⟨x,by rw[(xM s t).2.1];exact hx,rfl⟩
def MkS.Ze(s:MkS)(op v:Nat)(k tg:List Nat):s.le (s.put op v k tg):=λi x hx=>⟨x,by simp only[MkS.put];rw[za (zF.1 hx).1];exact hx,rfl⟩
def MkS.Un(s:MkS)(i j:Nat):s.le (s.xH i j):=λn x hx=>by
 simp only[MkS.xH];rw[Ja];by_cases h:i=n
 .exact⟨{ x with tg:=x.tg.set j s.pos },by simp[h,hx],zZ⟩
 .exact⟨x,by simp[h,hx],rfl⟩
def MkS.yiq(s:MkS)(op:Nat)(t:Wd):s.le (s.one op t):=MkS.le_trans (s.Jd t) (MkS.Ze _ _ _ _ _)
def MkS.Ba(g:MkS->α->MkS)(b:∀(s:MkS) (a:α),s.le (g s a)):∀(l:List α) (s:MkS),s.le (l.foldl g s)
 |[],s=>s.le_refl
 |a::l,s=>MkS.le_trans (b s a) (MkS.Ba g b l _)
def MkS.KS(g:MkS->α->MkS)(b:∀(s:MkS) (a:α),(g s a).sz=s.sz):∀(l:List α) (s:MkS),(l.foldl g s).sz=s.sz
 |[],s=>rfl
 |a::l,s=>(MkS.KS g b l _).trans (b s a)
def MkS.yl8(ks:List Wd)(t:Nat)(key:Wd)(s:MkS):s.le (MkS.Rq ks t key s)/\(MkS.Rq ks t key s).sz=s.sz:=by
 refine⟨MkS.Ba _ (λs c=>?_) _ s,MkS.KS _ (λs c=>?_) _ s⟩
 .split
  .exact s.Un _ _
  .exact s.le_refl
 .split
  .exact XK _ _ _
  .rfl
def MkS.Mh(n:Wd)(bs:Fo)(s:MkS)(k:Wd)(x:MkS):x.le (MkS.bL n bs s k x)/\(MkS.bL n bs s k x).sz=x.sz:=⟨x.Un _ _,XK _ _ _⟩
def MkS.Mw(n o:Wd)(bs:Fo)(s:MkS)(k:Wd)(x:MkS):x.le (MkS.kZ n o bs s k x)/\(MkS.kZ n o bs s k x).sz=x.sz:=by
 unfold MkS.kZ;exact zuy
def MkS.Jb:∀(f:Fo) (s:MkS) (acc:List Nat),s.le (MkS.vN f s acc).1/\(MkS.vN f s acc).1.sz<=s.sz+f.keys.length/\(MkS.vN f s acc).2.length<=acc.length+f.keys.length/\(MkS.vN f s acc).1.code=s.code/\(MkS.vN f s acc).1.pos=s.pos
 |.xR k _ _ r,s,acc=>by
  rw[MkS.vN];split
  .obtain⟨a,b,c,d⟩:=MkS.Jb r s acc;exact⟨a,Lo,by simp[Fo.keys];omega,d⟩
  .obtain⟨a,b,c,d,e⟩:=MkS.Jb r (s.const k) (acc++[s.num k]);obtain⟨z1,z2,g⟩:=xM s k;exact⟨MkS.le_trans (s.Jd k) a,Lo,by simp[Fo.keys]at c|-;omega,d.trans z2,e.trans g⟩
 |.nil,s,acc=>⟨s.le_refl,Y _,Y _,rfl,rfl⟩
 |.text _ _,s,acc=>⟨s.le_refl,Y _,Y _,rfl,rfl⟩
 |.hash _,s,acc=>⟨s.le_refl,Y _,Y _,rfl,rfl⟩
 |.put _ _ _,s,acc=>⟨s.le_refl,Y _,Y _,rfl,rfl⟩
 |.num _ _ _,s,acc=>⟨s.le_refl,Y _,Y _,rfl,rfl⟩
 |.br _ _ _ _ _ _ _,s,acc=>⟨s.le_refl,Y _,Y _,rfl,rfl⟩
def MkS.N0:∀(f:Fo) (s:MkS) (acc:List (Wd×Nat)),s.le (MkS.vq f s acc).1/\(MkS.vq f s acc).1.sz<=s.sz+8*f.keys.length
 |.xR k _ _ r,s,acc=>by
  rw[MkS.vq];split
  .obtain⟨a,b⟩:=MkS.N0 r (s.put 7 (yg k.tail) [] [0]) (acc++[(k,s.code.length)]);have:=gh s 7 (yg k.tail) [] [0];have hx:(xF ⟨7,s.pos,yg k.tail,[],[0]⟩).length=7:=(by simp[xF,uW,ua,vy,j7]);exact⟨MkS.le_trans (s.Ze _ _ _ _) a,Lo⟩
  .obtain⟨a,b⟩:=MkS.N0 r s acc;exact⟨a,Lo⟩
 |.nil,s,acc=>⟨s.le_refl,Y _⟩
 |.text _ _,s,acc=>⟨s.le_refl,Y _⟩
 |.hash _,s,acc=>⟨s.le_refl,Y _⟩
 |.put _ _ _,s,acc=>⟨s.le_refl,Y _⟩
 |.num _ _ _,s,acc=>⟨s.le_refl,Y _⟩
 |.br _ _ _ _ _ _ _,s,acc=>⟨s.le_refl,Y _⟩
def lH:∀(k t:List Nat),(YU k t).length=4*k.length+2
 |[],t=>by simp[YU,vy]
 |a::k,t=>by simp[YU,vy,lH k t.tail];omega
def N1(pos:Nat)(x:Nat)(k:List Nat)(t:List Nat):(xF ⟨10,pos,0,x::k,t⟩).length=7+4*k.length:=by
 simp[xF,uW,ua,vy,lH];omega
def MkS.Q7:∀(f:Fo) (s:MkS) (x:Nat) (acc:List Nat),∃y,(MkS.vN f s (x::acc)).2=x::y
 |.xR k _ _ r,s,x,acc=>by
  rw[MkS.vN];split
  .exact MkS.Q7 r s x acc
  .exact MkS.Q7 r (s.const k) x (acc++[s.num k])
 |.nil,s,x,acc=>⟨_,rfl⟩
 |.text _ _,s,x,acc=>⟨_,rfl⟩
 |.hash _,s,x,acc=>⟨_,rfl⟩
 |.put _ _ _,s,x,acc=>⟨_,rfl⟩
 |.num _ _ _,s,x,acc=>⟨_,rfl⟩
 |.br _ _ _ _ _ _ _,s,x,acc=>⟨_,rfl⟩
def MkS.N2(n:Wd)(bs:Fo)(s:MkS):s.le (MkS.kT n bs s)/\(MkS.kT n bs s).sz<=s.sz+9+5*bs.keys.length:=by
 obtain⟨a,b,c,d,e⟩:=MkS.Jb bs (s.const n) [s.num n];obtain⟨y,hy⟩:=MkS.Q7 bs (s.const n) (s.num n) [];refine⟨MkS.le_trans (s.Jd n) (MkS.le_trans a (MkS.Ze _ _ _ _ _)),?_⟩;unfold MkS.kT MkS.fy;rw[gh,hy,N1];rw[hy]at c;have:=(xM s n).1;simp at c;omega
def MkS.N5(n o:Wd)(f:Nat)(bs:Fo)(s:MkS):s.le (MkS.kY n o f bs s)/\(MkS.kY n o f bs s).sz<=s.sz+24+8*bs.keys.length:=by
 obtain⟨a,b⟩:=MkS.N0 bs ((s.const n).put 4 (yg o) [s.num n] []) [];refine⟨MkS.le_trans (s.Jd n) (MkS.le_trans (MkS.Ze _ _ _ _ _) (MkS.le_trans a (MkS.Ze _ _ _ _ _))),?_⟩;unfold MkS.kY MkS.VV;have h1:=gh (s.const n) 4 (yg o) [s.num n] [];have h2:(xF ⟨4,(s.const n).pos,yg o,[s.num n],[]⟩).length=7:=WH;have c:∀p,(xF ⟨if f=2 then 9 else 8,p,0,[],zX 6 0⟩).length=13:=λp=>by split<;>simp[xF,uW,ua,vy]
 rw[gh,c];have:=(xM s n).1;omega
def MkS.GM(s:MkS)(op:Nat)(t:Wd)(h:op=1\/op=2\/op=3):(s.one op t).sz<=s.sz+5:=by
 unfold MkS.one;rw[gh];have:=(xM s t).1;have hx:(xF ⟨op,(s.const t).pos,0,[s.num t],[]⟩).length=3:=zux;omega
def MkS.go_le:∀(f:Fo) (h:Wd->MkS->MkS) (s:MkS) (ls:List Nat),(∀k s,s.le (h k s)/\(h k s).sz=s.sz)->s.le (MkS.ur f h s ls).1/\(MkS.ur f h s ls).1.sz+15*f.keys.length<=s.sz+f.cw
 |.nil,h,s,ls,hb=>⟨s.le_refl,Y _⟩
 |.text t r,h,s,ls,hb=>by
  obtain⟨a,b⟩:=MkS.go_le r h (s.one 1 t) ls hb;have:=s.GM 1 t (.inl rfl);exact zyj
 |.hash r,h,s,ls,hb=>by
  obtain⟨a,b⟩:=MkS.go_le r h (s.put 6 0 [] []) ls hb;have:=gh s 6 0 [] [];have hx:(xF ⟨6,s.pos,0,[],[]⟩).length=1:=I6;exact⟨MkS.le_trans (s.Ze _ _ _ _) a,by simp only[Fo.keys,Fo.cw,MkS.ur,yF];omega⟩
 |.put n _ r,h,s,ls,hb=>by
  obtain⟨a,b⟩:=MkS.go_le r h (s.one 2 n) ls hb;have:=s.GM 2 n (.inr (.inl rfl));exact zyj
 |.num n _ r,h,s,ls,hb=>by
  obtain⟨a,b⟩:=MkS.go_le r h (s.one 3 n) ls hb;have:=s.GM 3 n (.inr (.inr rfl));exact zyj
 |.br n _ f o _ bs r,h,s,ls,hb=>by
  have j:=λ(l:List Nat) (x:MkS)=>MkS.Ba (λs i=>MkS.xH s i 0) (λs i=>s.Un i 0) l x
  have q:=λ(l:List Nat) (x:MkS)=>MkS.KS (λs i=>MkS.xH s i 0) (λs i=>XK s i 0) l x
  rw[MkS.ur];split
  .obtain⟨a,b⟩:=MkS.go_le bs (MkS.bL n bs s) (MkS.kT n bs s) [] (λk x=>MkS.Mh n bs s k x);obtain⟨c,d⟩:=MkS.N2 n bs s;obtain⟨e,g⟩:=MkS.go_le r h ((MkS.ur bs (MkS.bL n bs s) (MkS.kT n bs s) []).2.foldl (λs i=>MkS.xH s i 0) (MkS.ur bs (MkS.bL n bs s) (MkS.kT n bs s) []).1) ls hb;rw[q]at g;exact⟨MkS.le_trans c (MkS.le_trans a (MkS.le_trans (j _ _) e)),zuf⟩
  .obtain⟨a,b⟩:=MkS.go_le bs (MkS.kZ n o bs s) (MkS.kY n o f bs s) [] (λk x=>MkS.Mw n o bs s k x);obtain⟨c,d⟩:=MkS.N5 n o f bs s;obtain⟨e,g⟩:=MkS.go_le r h (((MkS.ur bs (MkS.kZ n o bs s) (MkS.kY n o f bs s) []).2.foldl (λs i=>MkS.xH s i 0) (MkS.ur bs (MkS.kZ n o bs s) (MkS.kY n o f bs s) []).1).put 5 0 [] []) ls hb;rw[gh,q]at g;have hx:∀p,(xF ⟨5,p,0,[],[]⟩).length=1:=λp=>by simp[xF,uW,ua]
   rw[hx]at g;exact⟨MkS.le_trans c (MkS.le_trans a (MkS.le_trans (j _ _) (MkS.le_trans (MkS.Ze _ _ _ _ _) e))),zuf⟩
 |.xR k _ m r,h,s,ls,hb=>by
  obtain⟨a,b⟩:=MkS.go_le m (λ_ s=>s) (h k s) [] (λ_ s=>⟨s.le_refl,rfl⟩);obtain⟨c,d⟩:=MkS.go_le r h ((MkS.ur m (λ_ s=>s) (h k s) []).1.put 11 0 [] [0]) (ls++[(MkS.ur m (λ_ s=>s) (h k s) []).1.code.length]) hb;rw[gh]at d;have hx:∀p,(xF ⟨11,p,0,[],[0]⟩).length=3:=λp=>WJ
  rw[hx]at d;have:=(hb k s).2;exact⟨MkS.le_trans (hb k s).1 (MkS.le_trans a (MkS.le_trans (MkS.Ze _ _ _ _ _) c)),by simp only[Fo.keys,Fo.cw,MkS.ur,zY];omega⟩
def aV(m:Fo)(s:MkS):s.le (MkS.Z7 m s)/\(MkS.Z7 m s).sz<=s.sz+m.cw:=by
 obtain⟨a,b⟩:=MkS.go_le m (λ_ s=>s) s [] (λ_ s=>⟨s.le_refl,rfl⟩);exact⟨a,by unfold MkS.Z7;omega⟩
end Go.Proofs.YtpggmjffejgakaaGreatDoor
