import Derived.Test.YthpldolmpinnhaaGreatDoorJG10
import Derived.Deep.DeepCutAuto
set_option maxHeartbeats 64000000
open Go.Lib renaming hid→z7
open Nat renaming le_refl→z8
open Go.RowKit.Below renaming refl→zy
open Go.World renaming frozen?_setCell→zx,block_lt_of_cell?→zv,frozen?_of_block→zu
open Go.Proofs.Tryz
namespace Go.Proofs.YthpldolmpinnhaaGreatDoor
open Go Go.RowKit
set_option maxRecDepth 10000
theorem Q9{β:Type}{rs:List Int}{r:Int}{i:Nat}{F:Unit->Nat->qF β}(h:xU rs i=r):(vR rs r i).then F=F () (i+1):=by unfold vR;rw[if_pos h];rfl
theorem G9{β:Type}{rs:List Int}{r:Int}{i:Nat}{F:Unit->Nat->qF β}(h:¬xU rs i=r):(vR rs r i).then F = .error (3,i):=by unfold vR;rw[if_neg h];rfl
theorem Al{β:Type}{rs:List Int}{i:Nat}{F:Wd->Nat->qF β}(h:¬qd rs i=0):(kK rs i).then F=F (kQ rs i (qd rs i)) (i+qd rs i):=by unfold kK;rw[if_neg h];rfl
theorem Am{β:Type}{rs:List Int}{i:Nat}{F:Wd->Nat->qF β}(h:qd rs i=0):(kK rs i).then F = .error (3,i):=by unfold kK;rw[if_pos h];rfl
theorem R2{β:Type}{rs:List Int}{i:Nat}{F:Wd->Nat->qF β}(h:¬qe rs i=0):(gK rs i).then F=F (kQ rs i (qe rs i)) (i+qe rs i):=by unfold gK;rw[if_neg h];rfl
theorem R3{β:Type}{rs:List Int}{i:Nat}{F:Wd->Nat->qF β}(h:qe rs i=0):(gK rs i).then F = .error (3,i):=by unfold gK;rw[if_pos h];rfl
theorem IU{rs:List Int}{f i:Nat}(h:¬(f≠0/\CI rs i=true)):JN rs f i = .ok ([48],i):=by unfold JN;rw[if_neg h]
theorem An{rs:List Int}{f i:Nat}(h:f≠0/\CI rs i=true):JN rs f i=(kK rs (xh rs (i+7))).then fun o j => .ok (o,xh rs j):=by unfold JN;rw[if_pos h]
theorem then_assoc{α β γ:Type}(x:qF α)(f:α->Nat->qF β)(g:β->Nat->qF γ):(x.then f).then g=x.then fun a i=>(f a i).then g:=by
 cases x with
 | error e=>rfl
 | ok a=>rfl
def zck(p:Nat)(rs:List Int)(d:Nat)(r:qF Fo)(w:World)(e:Ending)(w':World):Prop :=
 (match r with
  | .error (n,a)=>Kq p n a e w'
  | .ok (f,j)=>(∃ v,e = .returned v/\xZ w.heap.size w'.heap.size w' [v] f)/\f.len=1/\f.vD=true/\vG p rs j d w')/\xR p w w'
theorem Ge{m:Wd}{n:Nat}(h:Q5 m=some n):n<3:=by
 unfold Q5 at h;split at h
 .cases h;decide
 split at h
 .cases h;decide
 split at h
 .cases h;decide
 .cases h
structure Dm(B:Nat)(v0 v1 v2 v3 v4 v5:Value)(w:World):Prop where
 c0:w.cell? ⟨B,0,none⟩=some v0
 c1:w.cell? ⟨B,1,none⟩=some v1
 c2:w.cell? ⟨B,2,none⟩=some v2
 c3:w.cell? ⟨B,3,none⟩=some v3
 c4:w.cell? ⟨B,4,none⟩=some v4
 c5:w.cell? ⟨B,5,none⟩=some v5
 z:∀ j,w.frozen? ⟨B,j,none⟩=false
theorem Dm.but{B p:Nat}{v0 v1 v2 v3 v4 v5:Value}{w w':World}(h:Dm B v0 v1 v2 v3 v4 v5 w)(hb:xR p w w')(vy:B≠p):Dm B v0 v1 v2 v3 v4 v5 w' :=
 ⟨hb.cell h.c0 vy,hb.cell h.c1 vy,hb.cell h.c2 vy,hb.cell h.c3 vy,hb.cell h.c4 vy,hb.cell h.c5 vy,fun j=>(zu (a:=⟨B,j,none⟩) (hb.block B (zv w _ h.c0) vy)).trans (h.z j)⟩
theorem Dm.ykq{B:Nat}{v0 v1 v2 v3 v4 v5 u:Value}{w:World}(h:Dm B v0 v1 v2 v3 v4 v5 w):Dm B v0 v1 v2 u v4 v5 (w.setCell ⟨B,3,none⟩ u):=by
 refine⟨?_,?_,?_,?_,?_,?_,fun j=>by rw[zx];exact h.z j⟩<;>rw[xk];all_goals first|(rw[if_neg (by simp)];first|exact h.c0|exact h.c1|exact h.c2|exact h.c4|exact h.c5)|(rw[if_pos rfl,h.c3];rfl)
theorem Dm.zcj{B:Nat}{v0 v1 v2 v3 v4 v5 u:Value}{w:World}(h:Dm B v0 v1 v2 v3 v4 v5 w):Dm B v0 v1 v2 v3 u v5 (w.setCell ⟨B,4,none⟩ u):=by
 refine⟨?_,?_,?_,?_,?_,?_,fun j=>by rw[zx];exact h.z j⟩<;>rw[xk];all_goals first|(rw[if_neg (by simp)];first|exact h.c0|exact h.c1|exact h.c2|exact h.c3|exact h.c5)|(rw[if_pos rfl,h.c4];rfl)
theorem Dm.ykk{B:Nat}{v0 v1 v2 v3 v4 v5 u:Value}{w:World}(h:Dm B v0 v1 v2 v3 v4 v5 w):Dm B v0 v1 v2 v3 v4 u (w.setCell ⟨B,5,none⟩ u):=by
 refine⟨?_,?_,?_,?_,?_,?_,fun j=>by rw[zx];exact h.z j⟩<;>rw[xk];all_goals first|(rw[if_neg (by simp)];first|exact h.c0|exact h.c1|exact h.c2|exact h.c3|exact h.c4)|(rw[if_pos rfl,h.c5];rfl)
theorem Dm.lt{B:Nat}{v0 v1 v2 v3 v4 v5:Value}{w:World}(h:Dm B v0 v1 v2 v3 v4 v5 w):B<w.heap.size:=zv w _ h.c0
theorem Dm.grown{B:Nat}{v0 v1 v2 v3 v4 v5:Value}{w w':World}{row:Option Nat}(h:Dm B v0 v1 v2 v3 v4 v5 w)(hg:w.grownBy w' row)(vy:some B≠row):Dm B v0 v1 v2 v3 v4 v5 w' :=
 ⟨hg.cell h.c0 vy,hg.cell h.c1 vy,hg.cell h.c2 vy,hg.cell h.c3 vy,hg.cell h.c4 vy,hg.cell h.c5 vy,fun j=>(zu (a:=⟨B,j,none⟩) (hg.block B h.lt vy)).trans (h.z j)⟩
structure Gi(B:Nat)(v0 v1:Value)(w:World):Prop where
 c0:w.cell? ⟨B,0,none⟩=some v0
 c1:w.cell? ⟨B,1,none⟩=some v1
 z:∀ j,w.frozen? ⟨B,j,none⟩=false
theorem Gi.but{B p:Nat}{v0 v1:Value}{w w':World}(h:Gi B v0 v1 w)(hb:xR p w w')(vy:B≠p):Gi B v0 v1 w' :=
 ⟨hb.cell h.c0 vy,hb.cell h.c1 vy,fun j=>(zu (a:=⟨B,j,none⟩) (hb.block B (zv w _ h.c0) vy)).trans (h.z j)⟩
theorem Gi.Xu{B:Nat}{v0 v1 u:Value}{w:World}(h:Gi B v0 v1 w):Gi B u v1 (w.setCell ⟨B,0,none⟩ u) :=
 ⟨by rw[xk,if_pos rfl,h.c0];rfl,by rw[xk,if_neg (by simp)];exact h.c1,fun j=>by rw[zx];exact h.z j⟩
theorem Qz(p:Nat)(rs:List Int)(i d:Nat)(msg:Option kN)(w:World)(h:vG p rs i d w)(he:Ju p w)(hd:msg=none ↔ d=6)(hm:∀ m,msg=some m->oJ p rs d m)(Ao:∀ m,msg=some m->Gc m) :
  Calls prog 157 #[.pointer (some ⟨p,0,none⟩)] w (zck p rs d (YI rs msg i) w):=by
 have HH:=z7 h;have GO:=z7 he;have hu:=z7 Ao;have Me:=z7 (fun num j W hs hE=>NK p rs j d num msg W hs hE hd hm);have Kj:=h.lt;have h5:=h.at_;obtain⟨R,hR⟩:=xX (YI rs msg i);rw[hR];unfold YI at hR;have HTW:=z7 hR.symm;clear h he hd hm hR Ao;go_enter func157,ntmps157;go_wp2_with fail;refine vB ?_;intro W hW;have jB:Below w.heap.size w W:=by rw[hW];exact(zy _ _).alloc (z8 _) _
 have NJ:Gi w.heap.size (.string ⟨#[]⟩) (.int .i64 i) W:=by
  rw[hW];exact⟨xu _ _ _ _ _,xu _ _ _ _ _,fun j=>by go_simp⟩
 clear hW h5;obtain⟨B,hB⟩:=xX w.heap.size;rw[hB] at NJ |-
 have HB:=z7 hB;have MA:p<B:=by omega
 have oG:=z7 NJ;have CS:=z7 (HH.out.below jB);have jB:=xR.of (p:=p) jB;clear hB NJ;refine(jY p rs i d 123 W CS.out (by decide)).mono ?_;rintro e x1 ⟨hq,zxj⟩;have zcf:=jB.trans zxj;have ykj:=z7 (oG.out.but zxj (by omega));by_cases hw:xU rs i=123
 .rw[if_pos hw] at hq;obtain⟨rfl,hs⟩:=hq;have ht:=HTW.out;rw[Q9 hw] at ht;have oC:=z7 ht;have zcd:=z7 hs;clear ht hs hw zxj HTW CS;go_wp2_with fail;refine(qy p rs (i+1) d x1 zcd.out).mono ?_;rintro e x2 ⟨rfl,hs,zxg⟩;have ykg:=zcf.trans zxg;have ykf:=z7 (ykj.out.but zxg (by omega));obtain⟨J1,hJ⟩:∃ J,xh rs (i+1)=J:=⟨_,rfl⟩;have xxb:i+1<=J1:=by rw[<-hJ];exact xN rs _
  have ht:=oC.out;rw[hJ] at ht hs;have zxf:=z7 ht;have zcb:=z7 hs;clear ht hs hJ zxg oC zcd;go_wp2_with fail;refine(Us p rs J1 d x2 zcb.out).mono ?_;rintro e x3 ⟨hq,zxd⟩;have ze0:=ykg.trans zxd;have oE:=z7 (ykf.out.but zxd (by omega));by_cases hn:qe rs J1=0
  .rw[if_pos hn] at hq;have ht:=zxf.out;rw[R3 hn] at ht;have oH:=z7 ht;clear ht hn;have HQ:=z7 hq;obtain⟨bf,rfl,_,_⟩:=hq;go_wp2;exact⟨rfl,by rw[oH.out];exact HQ.out,ze0⟩
  .rw[if_neg hn] at hq;obtain⟨rfl,hs⟩:=hq;have ht:=zxf.out;rw[R2 hn] at ht;obtain⟨K,hK⟩:=xX (kQ rs J1 (qe rs J1));obtain⟨J2,hJ⟩:∃ J,J1+qe rs J1=J:=⟨_,rfl⟩;rw[hJ,hK] at ht;rw[hJ] at hs;rw[hK];have hlK:K.length<=4000000:=by
    have:=bp rs J1 (qe rs J1);have:=HH.out.len;rw[<-hK];omega
   have oH:=z7 ht;have ykd:=z7 hs;clear ht hs hK hJ hn zxd zxf zcb;have zz:=oE.out.z 0;have z0:=oE.out.c0;have z1:=oE.out.c1;have zxb:=z7 (ykd.out.own MA 0 (xg K));have ze1:=z7 (oE.out.Xu (u:=xg K));have ze2:xR p w (x3.setCell ⟨B,0,none⟩ (xg K)):=ze0.own (by have:=HB.out;omega) 0 _;have ze3:=oH;obtain⟨x4,hX⟩:∃ X,x3.setCell ⟨B,0,none⟩ (xg K)=X:=⟨_,rfl⟩;rw[hX] at zxb ze1 ze2;have HX:=z7 hX;clear hX oH;go_wp2_with fail;rw[HX.out];clear zz z0 z1;refine(qy p rs (J2) d x4 zxb.out).mono ?_;rintro e x5 ⟨rfl,hs,zv0⟩;have ykb:=ze2.trans zv0;have yj0:=z7 (ze1.out.but zv0 (by omega));obtain⟨J3,hJ⟩:∃ J,xh rs (J2)=J:=⟨_,rfl⟩;have xv0:J2<=J3:=by rw[<-hJ];exact xN rs _
   have ht:=ze3.out;rw[hJ] at ht hs;have oI:=z7 ht;have zv1:=z7 hs;clear ht hs hJ zv0 ze3 zxb;go_wp2_with fail;refine(XD p rs J3 d 44 x5 zv1.out (by decide)).mono ?_;rintro e x6 ⟨rfl,hs,wk⟩;have ze4:=ykb.trans wk;have ze5:=z7 (yj0.out.but wk (by omega));by_cases wj:xU rs J3=44
   .rw[if_pos wj] at hs;rw[show(xU rs J3==44)=true from by rw[wj];rfl];have Ap:=z7 hs;have ht:=oI.out;rw[if_neg (fun e=>e wj)] at ht;have SI:=z7 ht;clear ht hs wj wk oI zv1;go_wp2_with fail;refine(qy p rs (J3+1) d x6 Ap.out).mono ?_;rintro e x7 ⟨rfl,hs,NF⟩;have Ar:=ze4.trans NF;have oL:=z7 (ze5.out.but NF (by omega));obtain⟨J4,hJ⟩:∃ J,xh rs (J3+1)=J:=⟨_,rfl⟩;have xv1:J3+1<=J4:=by rw[<-hJ];exact xN rs _
    have ht:=SI.out;rw[hJ] at ht hs;have ND:=z7 ht;have At:=z7 hs;clear ht hs hJ NF SI Ap;have g7:=At.out.at_;go_wp2_with fail;refine(Us p rs J4 d x7 At.out).mono ?_;rintro e x8 ⟨hq,zv2⟩;have ze6:=Ar.trans zv2;have yj1:=z7 (oL.out.but zv2 (by omega));by_cases hn:qe rs J4=0
    .rw[if_pos hn] at hq;have ht:=ND.out;rw[R3 hn] at ht;have oM:=z7 ht;clear ht hn;have HQ:=z7 hq;obtain⟨bf,rfl,_,_⟩:=hq;go_wp2;exact⟨rfl,by rw[oM.out];exact HQ.out,ze6⟩
    .rw[if_neg hn] at hq;obtain⟨rfl,hs⟩:=hq;have ht:=ND.out;rw[R2 hn] at ht;obtain⟨K2,hK⟩:∃ K,kQ rs J4 (qe rs J4)=K:=⟨_,rfl⟩;obtain⟨J5,hJ⟩:∃ J,J4+qe rs J4=J:=⟨_,rfl⟩;rw[hJ,hK] at ht;rw[hJ] at hs;rw[hK];have xv2:K2.length<=4000000:=by
      have:=bp rs J4 (qe rs J4);have:=HH.out.len;rw[<-hK];omega
     have oM:=z7 ht;have ze7:=z7 hs;clear ht hs hK hJ hn zv2 ND At;clear g7;go_wp2_with fail;refine(qy p rs (J5) d x8 ze7.out).mono ?_;rintro e x9 ⟨rfl,hs,zv3⟩;have ze8:=ze6.trans zv3;have ze9:=z7 (yj1.out.but zv3 (by omega));obtain⟨J6,hJ⟩:∃ J,xh rs (J5)=J:=⟨_,rfl⟩;have xv3:J5<=J6:=by rw[<-hJ];exact xN rs _
     have ht:=oM.out;rw[hJ] at ht hs;have CT:=z7 ht;have oN:=z7 hs;clear ht hs hJ zv3 oM ze7;by_cases hk:(K2==[110,117,109,98,101,114])=true
     .have ht:=CT.out;rw[if_pos (show K2=zxv from eq_of_beq hk)] at ht;have HT9:=CT;clear CT;have CT:=z7 ht;clear ht HT9;go_wp2_with fail;clear hk;refine(jY p rs J6 d 125 x9 oN.out (by decide)).mono ?_;rintro e Ah ⟨hq,Aw⟩;have Gl:=ze8.trans Aw;have BG:=z7 (ze9.out.but Aw (by omega));by_cases hw:xU rs J6=125
      .rw[if_pos hw] at hq;obtain⟨rfl,hs⟩:=hq;have ht:=CT.out;rw[Q9 hw] at ht;have IQ:=z7 ht;have IK:=z7 hs;clear ht hs hw Aw CT oN;have k0:=BG.out.c0;have k1:=BG.out.c1;have hX:=Gl.size;go_wp2;rw[IQ.out];have uN:=fun o=>(zy Ah.heap.size Ah).alloc (z8 _) o
       refine bodyPost_ret (v := .iface 175 (.pointer (some ⟨Ah.heap.size,0,none⟩))) ?_ rfl ?_
       .simp[results,results157,go_sem]
       exact⟨⟨⟨_,rfl,[],Ah.heap.size,rfl,hX,by simp,xu _ _ _ _ _,xu _ _ _ _ _,rfl⟩,rfl,rfl,IK.out.below (uN _)⟩,Gl.below (uN _)⟩
      .rw[if_neg hw] at hq;have ht:=CT.out;rw[G9 hw] at ht;have IQ:=z7 ht;clear ht hw;have HQ:=z7 hq;obtain⟨bf,rfl,_,_⟩:=hq;go_wp2;exact⟨rfl,by rw[IQ.out];exact HQ.out,Gl⟩
     .have Qr:(K2==[110,117,109,98,101,114])=false:=by simpa using hk
      have ht:=CT.out;rw[if_neg (show ¬K2=zxv from fun e=>hk (beq_iff_eq.2 e))] at ht;have HTf:=z7 ht;clear ht hk CT;go_wp2_with fail;clear Qr;refine(SE x9).mono ?_;rintro e Ah ⟨⟨bm,rfl,hF⟩,oO⟩;have Gl:=ze8.below oO;have BG:=z7 (ze9.out.but (xR.of (p:=p) oO) (by omega));have IK:=z7 (oN.out.below oO);have HF:=z7 hF;have IJ:=hF.look K2 (by omega);clear oO hF oN;obtain⟨fo,Jj⟩:=xX (Q5 K2);rw[Jj] at IJ;have ht:=HTf.out;rw[Jj] at ht;have HTg:=z7 ht;clear ht HTf;have HFO:=z7 Jj;clear Jj
      cases fo with
      | none =>
       have IQ:=z7 (show R = .error (3,J4) from HTg.out);clear HTg;simp only[Option.getD_none,Option.isSome_none] at IJ;go_wp2_with fail;refine(dK p 3 J4 Ah IK.out.Jy).mono ?_;rintro e x11 ⟨hf,yj2⟩;have fL:=z7 hf;obtain⟨bf,rfl,_,_⟩:=hf;go_wp2;exact⟨rfl,by rw[IQ.out];exact fL.out,Gl.below yj2⟩
      | some form =>
       simp only[Option.getD_some,Option.isSome_some] at IJ;have gQ:form<3:=Ge HFO.out;have ht:=HTg.out;have HTY:=z7 ht;clear HTg ht;have k0:=BG.out.c0;have k1:=BG.out.c1;go_wp2_with fail;refine vB ?_;intro Y hY;have hbY:Below Ah.heap.size Ah Y:=by rw[hY];exact(zy _ _).alloc (z8 _) _
       have NJ:Dm Ah.heap.size (xg K) (.int .i64 i) (.int .i64 form) (.int .i64 0) (.slice none 0 0) (.int .i64 0) Y:=by
        rw[hY];exact⟨xu _ _ _ _ _,xu _ _ _ _ _,xu _ _ _ _ _,xu _ _ _ _ _,xu _ _ _ _ _,xu _ _ _ _ _,fun j=>by go_simp⟩
       have hwx:w.heap.size<=Ah.heap.size:=Gl.size;have HSY:=z7 (IK.out.below hbY);have hbY:=Gl.below hbY;obtain⟨C,hC⟩:=xX Ah.heap.size;rw[hC] at NJ hwx |-
       have hwC:=hwx;clear hY k0 k1 IJ IK hC BG HF hwx;have HLY:=z7 NJ;have hpC:p<C:=by omega
       clear NJ;refine(jY p rs J6 d 44 Y HSY.out (by decide)).mono ?_;rintro e y1 ⟨hq,zv4⟩;have zex:=hbY.trans zv4;have yj4:=z7 (HLY.out.but zv4 (by omega));by_cases hw:xU rs J6=44
       .rw[if_pos hw] at hq;obtain⟨rfl,hs⟩:=hq;have ht:=HTY.out;rw[Q9 hw] at ht;have oP:=z7 ht;have zev:=z7 hs;clear ht hs hw zv4 HTY HSY;go_wp2_with fail;refine(qy p rs (J6+1) d y1 zev.out).mono ?_;rintro e y2 ⟨rfl,hs,AL⟩;have zv5:=zex.trans AL;have zv6:=z7 (yj4.out.but AL (by omega));obtain⟨J7,hJ⟩:∃ J,xh rs (J6+1)=J:=⟨_,rfl⟩;have xv6:J6+1<=J7:=by rw[<-hJ];exact xN rs _
        have ht:=oP.out;rw[hJ] at ht hs;have zeu:=z7 ht;have az:=z7 hs;clear ht hs hJ AL oP zev;obtain⟨FF,hFF⟩:∃ FF:Wd->Nat->qF Fo,FF=fun o l=>(ji rs msg (decide (form≠0)) (rs.length+1) .nil l).then fun bs q=>(vR rs 125 q).then fun _ z => .ok (.br K i form o q bs .nil,z):=⟨_,rfl⟩
        have HFF:=z7 hFF;have HTF:=z7 (show R=(JN rs form J7).then FF by rw[hFF];exact zeu.out);clear hFF zeu;go_upto_region 23 with fail
        go_cut [76] (fun s wc=>∃ b l,s = .bool b/\vG p rs l d wc/\xR p w wc/\Dm C (xg K) (.int .i64 i) (.int .i64 form) (.int .i64 0) (.slice none 0 0) (.int .i64 0) wc/\J7<=l/\(b=true->R=((kK rs (xh rs l)).then fun o j=>(.ok (o,xh rs j):qF Wd)).then FF)/\(b=false->R=FF [48] l))
        case first =>
         by_cases h0:form=0
         .subst h0;have ht:=HTF.out;rw[IU (fun e=>e.1 rfl),then_ok] at ht;have BF:=z7 ht;clear ht HTF;go_wp2_with fail;go_meet
          case rel=>exact⟨false,J7,rfl,az.out,zv5,zv6.out,z8 _,(fun e=>by cases e),fun _=>BF.out⟩
         .have R4:((form:Int)==0)=false:=by simp;omega
          have ug:((form:Int) !=0)=true:=by simp;omega
          have HF0:=z7 h0;clear h0;go_wp2_with fail;refine(Ik p rs J7 d y2 az.out).mono ?_;rintro e y3 ⟨rfl,hs,hx⟩;have zeq:=zv5.trans hx;have zek:=z7 (zv6.out.but hx (by omega));by_cases ho:CI rs J7=true
          .rw[if_pos ho] at hs;rw[ho];have ht:=HTF.out;rw[An ⟨HF0.out,ho⟩] at ht;have zv9:=z7 ht;have zvz:=z7 hs;clear ht hs hx ho HTF az;go_wp2_with fail;go_meet
           case rel=>exact⟨true,J7+7,rfl,zvz.out,zeq,zek.out,Nat.le_add_right _ _,(fun _=>zv9.out),(fun e=>by cases e)⟩
          .rw[if_neg ho] at hs;rw[show CI rs J7=false from by simpa using ho];have ht:=HTF.out;rw[IU (fun e=>ho e.2),then_ok] at ht;have zv9:=z7 ht;have zvz:=z7 hs;clear ht hs hx ho HTF az;go_wp2_with fail;go_meet
           case rel=>exact⟨false,J7,rfl,zvz.out,zeq,zek.out,z8 _,(fun e=>by cases e),fun _=>zv9.out⟩
        case rest =>
         obtain⟨b,l,rfl,hs,Dn,hl,hJl,ht1,R5⟩:=hcut;have HSc:=z7 hs;have HLc:=z7 hl;have US:=z7 ht1;have A3:=z7 R5;clear hs hl ht1 R5 az zv6 HTF zv5;go_upto_if 76 with fail
         go_cut [] (fun wc=>∃ l ov O,xE O=ov/\vG p rs l d wc/\xR p w wc/\Dm C (xg K) (.int .i64 i) (.int .i64 form) (.int .i64 ov) (.slice none 0 0) (.int .i64 0) wc/\J7<=l/\R=FF O l)
         case first =>
          cases b with
          | false =>
           have HTc:=z7 (A3.out rfl);clear A3 US;go_wp2_with fail;go_meet
           case rel=>exact⟨l,0,[48],rfl,HSc.out,Dn,HLc.out,hJl,HTc.out⟩
          | true =>
           have HTc:=z7 (US.out rfl);have yj6:=Dn;have zej:=HSc;have yj7:=HLc;have zeg:=HTc;clear Dn HSc HLc HTc US A3;go_wp2_with fail;refine(qy p rs (l) d wc zej.out).mono ?_;rintro e y4 ⟨rfl,hs,zvy⟩;have yj8:=yj6.trans zvy;have yj9:=z7 (yj7.out.but zvy (by omega));obtain⟨J8,hJ⟩:∃ J,xh rs (l)=J:=⟨_,rfl⟩;have xv8:l<=J8:=by rw[<-hJ];exact xN rs _
           have ht:=zeg.out;rw[hJ] at ht hs;have zvx:=z7 ht;have zef:=z7 hs;clear ht hs hJ zvy zeg zej;go_wp2_with fail;refine(BQ p rs J8 d y4 zef.out).mono ?_;rintro e y5 ⟨hq,hx⟩;have zed:=yj8.trans hx;have yjz:=z7 (yj9.out.but hx (by omega));by_cases hn:qd rs J8=0
           .rw[if_pos hn] at hq;have ht:=zvx.out;rw[then_assoc,Am hn] at ht;have oR:=z7 ht;clear ht hn;have HQ:=z7 hq;obtain⟨bf,rfl,_,_⟩:=hq;go_wp2;exact⟨rfl,by rw[oR.out];exact HQ.out,zed⟩
           .rw[if_neg hn] at hq;obtain⟨rfl,hs⟩:=hq;have ht:=zvx.out;rw[then_assoc,Al hn] at ht;simp only[then_ok] at ht;obtain⟨w1,w2,w3⟩:=Jq rs J8 hn;obtain⟨O,hO⟩:∃ K,kQ rs J8 (qd rs J8)=K:=⟨_,rfl⟩;obtain⟨J9,hJ⟩:∃ J,J8+qd rs J8=J:=⟨_,rfl⟩;have xv9:J8<=J9:=by omega
            rw[hJ,hO] at ht;rw[hJ] at hs;rw[hO] at w1 w2 w3 |-
            have oR:=z7 ht;have zeb:=z7 hs;have Qs:=z7 (fun W=>Pw O W w1 w2 w3);clear ht hs hO hJ hn hx zvx zef w1 w2 w3;go_wp2_with fail;refine(Qs.out y5).mono ?_;rintro e y6 ⟨rfl,hx⟩;have yjy:=zed.below hx;have zvv:=z7 (yjz.out.but (xR.of (p:=p) hx) (by omega));have yjx:=z7 (zeb.out.below hx);obtain⟨ov,R6⟩:∃ v,xE O=v:=⟨_,rfl⟩;rw[R6];have HOV:=z7 R6;have q3:=zvv.out.c3;have z3:=zvv.out.z 3;have zvu:=z7 (yjx.out.own hpC 3 (.int .i64 ov));have zi1:=z7 (zvv.out.ykq (u := .int .i64 ov));have zi2:xR p w (y6.setCell ⟨C,3,none⟩ (.int .i64 ov)):=yjy.own hwC 3 _;have zi3:=oR;obtain⟨y7,hX⟩:∃ X,y6.setCell ⟨C,3,none⟩ (.int .i64 ov)=X:=⟨_,rfl⟩;rw[hX] at zvu zi1 zi2;have HX:=z7 hX;clear hX oR R6 hx zeb;go_wp2_with fail;rw[HX.out];clear q3 z3;refine(qy p rs (J9) d y7 zvu.out).mono ?_;rintro e y8 ⟨rfl,hs,zvq⟩;have yjv:=zi2.trans zvq;have yju:=z7 (zi1.out.but zvq (by omega));obtain⟨J10,hJ⟩:∃ J,xh rs (J9)=J:=⟨_,rfl⟩;have ymk:J9<=J10:=by rw[<-hJ];exact xN rs _
            have ht:=zi3.out;rw[hJ] at ht hs;have yjq:=z7 ht;have yjk:=z7 hs;clear ht hs hJ zvq zi3 zvu;go_wp2_with fail;go_meet
            case rel=>exact⟨J10,ov,O,HOV.out,yjk.out,yjv,yju.out,by omega,yjq.out⟩
         case rest =>
          obtain⟨l2,ov,O,R6,hs,hbz,hl,xvz,ht⟩:=hcut;have HOV:=z7 R6;have HSz:=z7 hs;have HLz:=z7 hl;have HTz:=z7 (show R=(ji rs msg (decide (form≠0)) (rs.length+1) .nil l2).then fun bs q=>(vR rs 125 q).then fun _ z => .ok (.br K i form O q bs .nil,z) by rw[ht,HFF.out]);obtain⟨NB,hNB⟩:∃ b,decide (form≠0)=b:=⟨_,rfl⟩;have Mi:=z7 hNB;have zi4:=z7 (show((form:Int) !=0)=NB from by rw[<-hNB];by_cases h:form=0<;>simp[h]);clear R6 hs hl ht Dn HSc HLc US A3 HFF hNB;go_wp2_with fail;obtain⟨G,hG,hGe⟩:∃ G:Fo->Nat->qF Fo,R=(ji rs msg NB (rs.length+1) .nil l2).then G/\∀ bs q,xU rs q=125->G bs q = .ok (.br K i form O q bs .nil,q+1):=⟨_,(show decide (form≠0)=NB from Mi.out)▸HTz.out,fun bs q h=>Q9 h⟩;have HGE:=z7 hGe;clear hGe;have HG:=z7 hG;have DW:1<=l2:=by omega
          clear hG HTz;go_loopw [] (fun wr=>∃ acc j n v ws,vG p rs j d wr/\xR p w wr/\Dm C (xg K) (.int .i64 i) (.int .i64 (form:Nat)) (.int .i64 ov) v (.int .i64 0) wr/\qs (C+1) 183 3 v acc ws wr/\acc.uk=true/\R=(ji rs msg NB n acc j).then G/\rs.length+2<=n+j/\acc.len<=j) (fun wr=>rs.length+2 - Nu p wr)
          case atStart=>exact⟨.nil,l2,rs.length+1,_,[],HSz.out,hbz,HLz.out,qs.start _ _ _ _,rfl,HG.out,by omega,Nat.zero_le _⟩
          case round =>
           obtain⟨acc,j,n,v,ws,hs,fY,YJ,XX,wg,hR,hfu,wb⟩:=hrel;obtain⟨ga,gc,hv,_⟩:=XX.row;subst hv;have NC:=z7 hs;have yjg:=z7 YJ;have HGR:=z7 XX;have jh:=z7 hR;have HLG:=z7 wg;have oS:=z7 (show acc.len<=j/\j<=rs.length+1 from⟨wb,hs.here⟩);have hCC:=YJ.lt;clear hs YJ XX hR wg wb;go_wp2_with fail;refine(ja p rs j d wr NC.out).mono ?_;rintro e w1 ⟨rfl,xG⟩;have NH:=z7 (yjg.out.but (xR.of (p:=p) xG) (by omega));have q4:=NH.out.c4;have gN:=z7 (NC.out.below xG);have bP:=fY.below xG;by_cases CW:xU rs j=125
           .rw[CW];by_cases ha0:acc.len=0
            .have yjf:((acc.len:Int)==0)=true:=by simp[ha0]
             have HA0:=z7 ha0;clear ha0 CW;obtain⟨n',CA⟩:∃ n',n=n'+1:=⟨n - 1,by have:=gN.out.here;omega⟩;have ht:=jh.out;rw[CA,ji,if_neg (fun e=>e.2 HA0.out),then_assoc] at ht;obtain⟨r,hr⟩:=xX (Xv rs msg NB j);rw[hr] at ht;have uw:=z7 (fun W hs hE=>(hr▸Me.out NB j W hs hE:Calls prog 204 #[.pointer (some ⟨p,0,none⟩),.bool NB] W (zxu p rs d r W)));have US:=z7 ht;have Ml:=z7 (fun f q (e:r = .ok (f,q))=>CO hu.out (hr.trans e));have jl:=z7 (HGR.out.but (xR.of (p:=p) xG) (by omega));have ay:=z7 (GO.out.but bP);have SK:=xG.size;have hN:=z7 CA;clear ht hr CA;go_wp2_with fail;refine rk (fun W':World=>W'.cell? ⟨C,4,none⟩=some (.slice ga acc.len gc)) 13 [0,1,2,3,4,5,6,7] 6 NH.out.c4 ?_;(iterate 8 ((first|refine ty ?_|refine tn ?_);try simp only[pl]))
             refine xq ?_;refine UN 8 (fun K hK=>?_);go_simp;rw[zi4.out];refine(uw.out w1.drew (gN.out.below (zy _ _).drew) (ay.out.but (xR.refl _ _).drew)).mono ?_;rintro e w2 ⟨hq,qV⟩;have qV:xR p w1 w2:=(xR.refl p w1).drew.trans qV;have Y4:=bP.trans qV
             cases r with
             | error en =>
              obtain⟨nO,nR⟩:=en;have HQ:=z7 hq;obtain⟨bf,rfl,_,_⟩:=hq;have ax:=z7 (show R = .error (nO,nR) from US.out);go_wp2;exact⟨rfl,by rw[ax.out];exact HQ.out,Y4⟩
             | ok fq =>
              obtain⟨f,q⟩:=fq;obtain⟨⟨k,pl,m,ma,mc,hf,rfl,GM,vs,xi,ql⟩,qf⟩:=hq;have qb:=z7 xi;have Y2:=z7 ql;have bk:=z7 qf;have Gm:=z7 (NH.out.but qV (by omega));have YO:=z7 (jl.out.but qV (by omega));have ZY:=z7 (show R=(ji rs msg NB n' (acc.app f) q).then G from US.out);have hjq:=Ml.out f q rfl;have HF:=z7 hf;have HMM:=z7 GM;have Ix:=qf.here;have hwx:=qV.size;have q4':=Gm.out.c4;clear xi ql qf qV hf Ml US GM uw;refine hK.out _ _ Gm.out.c4 (fun _=>?_);clear hK K;refine UN 9 (fun K hK=>?_);go_simp;have q43:=(Gm.out.but (xR.of (p:=p) ((zy w2.heap.size w2).alloc (z8 _) (.cells #[xg k,.int .i64 pl,.slice ma m.len mc] 183))) (by omega)).c4;refine hK.out _ _ q43 (fun _=>?_);clear q43;clear hK K;have ub:Below w2.heap.size w2 (w2.alloc (.cells #[xg k,.int .i64 pl,.slice ma m.len mc] 183)):=(zy _ _).alloc (z8 _) _;have HC3:=z7 (fun i=>xu w2 #[xg k,.int .i64 pl,.slice ma m.len mc] 183 (0,0) i);obtain⟨w3,hw3⟩:=xX (w2.alloc (.cells #[xg k,.int .i64 pl,.slice ma m.len mc] 183));rw[hw3] at ub HC3 |-
              have HB3:=z7 (Gm.out.but (xR.of (p:=p) ub) (by omega));have Uh:=z7 (bk.out.below ub);have U7:=z7 (YO.out.but (xR.of (p:=p) ub) (by omega));have U8:=Y4.below ub;have Gn:=ub.size;have Dp:acc.len<=2000000:=by
               have:=oS.out;have:=HH.out.len;omega
              clear hw3;refine UN 10 (fun K hK=>?_);rw[if_pos (by rfl)];refine R0 Jk _ _ rfl (C+1) w1.heap.size _ acc f ws rfl U7.out ⟨w2.heap.size,0,none⟩ 1 1 [xg k,.int .i64 pl,.slice ma m.len mc] rfl rfl ?c1 ?c2 ?c3 (by omega) ?c4 (by rw[HF.out];rfl) (by omega) (by omega) ?c5
              case c1 =>
               intro jj u hu;rw[uR,HC3.out];simpa using hu
              case c2 =>
               intro u hu;simp at hu;rcases hu with rfl|rfl|rfl<;>rfl
              case c3 =>
               rw[HF.out];have hk:xr w1.heap.size w2.heap.size w2 w3:=⟨ub.size,fun k _ hk=>ub.block k hk⟩;exact⟨[],ma,mc,vs,rfl,qb.out.keep hk (z8 _) ub.size,xZ.keep hk (z8 _) ub.size _ _ Y2.out,rfl⟩
              case c4 =>
               intro kk Qy;exact(jl.out.lt kk Qy).2
              case c5 =>
               intro v' w4 qt XX;have U9:=z7 qt;have VH:=z7 (fun kk Qy=>(jl.out.lt kk Qy).1);have IG:=z7 (HB3.out.grown XX (fun e=>by have:=VH.out C e.symm;omega));have X8:=z7 (Uh.out.grown XX (fun q hq=>by have:=VH.out q hq;omega));have Uz:=U8.grown XX (fun q hq=>by have:=VH.out q hq;omega);have yjb:=XX.size;obtain⟨ga',gc',av,_⟩:=qt.row;subst av;clear qt XX;refine hK.out _ _ IG.out.c4 (fun _=>?_);clear hK K;have q44:=IG.out.c4;have z44:=IG.out.z 4;refine kX [11,12] 1 rfl (by intro _ _ d _ _ h;cases d<;>exact h) (by kernel_rfl) (by kernel_rfl) IG.out.c4 ?_;(iterate 2 ((first|refine ty ?_|refine tn ?_);try simp only[pl]))
               refine xq ?_;refine BZ 13 (fun K hK=>?_);go_simp;refine hK.out _ _ ?_;clear hK K;refine BX ?_ _;go_wp2;go_roundw
               case rel =>
                refine⟨acc.app f,q,n',_,_,X8.out.own hpC 4 _,Uz.own hwC 4 _,IG.out.zcj,U9.out.but (xR.set C _ 4 _) (by omega),Fo.bh _ _ HLG.out (by rw[HF.out];rfl),ZY.out,by have:=hN.out;omega,?_⟩;rw[Fo.uX,show f.len=1 by rw[HF.out];rfl];have:=oS.out;omega
               case measure =>
                rw[vF (X8.out.own hpC 4 _),vF NC.out];omega
            .have yjf:((acc.len:Int)==0)=false:=by simp[ha0]
             have u1:=gN.out.at_;have q5:=NH.out.c5;have z5:=NH.out.z 5;obtain⟨n',CA⟩:∃ n',n=n'+1:=⟨n - 1,by have:=gN.out.here;omega⟩;have ht:=jh.out;rw[CA,ji,if_pos ⟨CW,ha0⟩,then_ok] at ht;have US:=z7 ht;have bk:=z7 (gN.out.own hpC 5 (.int .i64 j));have Gm:=z7 (NH.out.ykk (u := .int .i64 j));have xJ:xR p w (w1.setCell ⟨C,5,none⟩ (.int .i64 j)):=bP.own hwC 5 _;have ziz:=z7 ((HGR.out.but (xR.of (p:=p) xG) (by omega)).but (xR.set C w1 5 (.int .i64 j)) (by omega));obtain⟨y9,hX⟩:∃ X,w1.setCell ⟨C,5,none⟩ (.int .i64 j)=X:=⟨_,rfl⟩;rw[hX] at bk Gm xJ ziz;have HX9:=z7 hX;clear hX ht CA;go_wp2_with fail;rw[HX9.out];refine(jY p rs j d 125 y9 bk.out (by decide)).mono ?_;rintro e y10 ⟨hq,hx⟩;rw[if_pos CW] at hq;obtain⟨rfl,hs⟩:=hq;have HTZ:=z7 (US.out.trans (HGE.out _ _ CW));have dJ:=z7 hs;have hbz:=xJ.trans hx;have HBZ:=z7 (Gm.out.but hx (by omega));have ziy:=z7 (ziz.out.but hx (by omega));have hCZ:=HBZ.out.lt;clear hs CW;go_wp2;rw[HTZ.out];refine bodyPost_ret (v := .iface 177 (.pointer (some ⟨C,0,none⟩))) ?_ rfl ?_
             .simp[results,results157,go_sem]
             obtain⟨ga2,gc2,R7,Qx⟩:=ziy.out.row
             cases R7;have Qy:xr (C+1) y10.heap.size y10 y10:=xW (z8 _);exact⟨⟨⟨_,rfl,[],C,_,_,ws,rfl,hwC,hCZ,HBZ.out.c0,HBZ.out.c1,HBZ.out.c2,(HOV.out ▸  HBZ.out.c3),HBZ.out.c4,HBZ.out.c5,Qx.keep Qy (by omega) (z8 _),xZ.keep Qy (by omega) (z8 _) _ _ ziy.out.nodes,rfl⟩,rfl,rfl,dJ.out⟩,hbz⟩
           .have ymb:(xU rs j==125)=false:=by simp[CW]
            have yg1:=z7 CW;clear CW;obtain⟨n',CA⟩:∃ n',n=n'+1:=⟨n - 1,by have:=gN.out.here;omega⟩;have ht:=jh.out;rw[CA,ji,if_neg (fun e=>yg1.out e.1),then_assoc] at ht;obtain⟨r,hr⟩:=xX (Xv rs msg NB j);rw[hr] at ht;have uw:=z7 (fun W hs hE=>(hr▸Me.out NB j W hs hE:Calls prog 204 #[.pointer (some ⟨p,0,none⟩),.bool NB] W (zxu p rs d r W)));have US:=z7 ht;have Ml:=z7 (fun f q (e:r = .ok (f,q))=>CO hu.out (hr.trans e));have jl:=z7 (HGR.out.but (xR.of (p:=p) xG) (by omega));have ay:=z7 (GO.out.but bP);have SK:=xG.size;have hN:=z7 CA;clear ht hr CA;go_wp2_with fail;refine rk (fun W':World=>W'.cell? ⟨C,4,none⟩=some (.slice ga acc.len gc)) 13 [0,1,2,3,4,5,6,7] 6 NH.out.c4 ?_;(iterate 8 ((first|refine ty ?_|refine tn ?_);try simp only[pl]))
            refine xq ?_;refine UN 8 (fun K hK=>?_);go_simp;rw[zi4.out];refine(uw.out w1.drew (gN.out.below (zy _ _).drew) (ay.out.but (xR.refl _ _).drew)).mono ?_;rintro e w2 ⟨hq,qV⟩;have qV:xR p w1 w2:=(xR.refl p w1).drew.trans qV;have Y4:=bP.trans qV
            cases r with
            | error en =>
             obtain⟨nO,nR⟩:=en;have HQ:=z7 hq;obtain⟨bf,rfl,_,_⟩:=hq;have ax:=z7 (show R = .error (nO,nR) from US.out);go_wp2;exact⟨rfl,by rw[ax.out];exact HQ.out,Y4⟩
            | ok fq =>
             obtain⟨f,q⟩:=fq;obtain⟨⟨k,pl,m,ma,mc,hf,rfl,GM,vs,xi,ql⟩,qf⟩:=hq;have qb:=z7 xi;have Y2:=z7 ql;have bk:=z7 qf;have Gm:=z7 (NH.out.but qV (by omega));have YO:=z7 (jl.out.but qV (by omega));have ZY:=z7 (show R=(ji rs msg NB n' (acc.app f) q).then G from US.out);have hjq:=Ml.out f q rfl;have HF:=z7 hf;have HMM:=z7 GM;have Ix:=qf.here;have hwx:=qV.size;have q4':=Gm.out.c4;clear xi ql qf qV hf Ml US GM uw;refine hK.out _ _ Gm.out.c4 (fun _=>?_);clear hK K;refine UN 9 (fun K hK=>?_);go_simp;have q43:=(Gm.out.but (xR.of (p:=p) ((zy w2.heap.size w2).alloc (z8 _) (.cells #[xg k,.int .i64 pl,.slice ma m.len mc] 183))) (by omega)).c4;refine hK.out _ _ q43 (fun _=>?_);clear q43;clear hK K;have ub:Below w2.heap.size w2 (w2.alloc (.cells #[xg k,.int .i64 pl,.slice ma m.len mc] 183)):=(zy _ _).alloc (z8 _) _;have HC3:=z7 (fun i=>xu w2 #[xg k,.int .i64 pl,.slice ma m.len mc] 183 (0,0) i);obtain⟨w3,hw3⟩:=xX (w2.alloc (.cells #[xg k,.int .i64 pl,.slice ma m.len mc] 183));rw[hw3] at ub HC3 |-
             have HB3:=z7 (Gm.out.but (xR.of (p:=p) ub) (by omega));have Uh:=z7 (bk.out.below ub);have U7:=z7 (YO.out.but (xR.of (p:=p) ub) (by omega));have U8:=Y4.below ub;have Gn:=ub.size;have Dp:acc.len<=2000000:=by
              have:=oS.out;have:=HH.out.len;omega
             clear hw3;refine UN 10 (fun K hK=>?_);rw[if_pos (by rfl)];refine R0 Jk _ _ rfl (C+1) w1.heap.size _ acc f ws rfl U7.out ⟨w2.heap.size,0,none⟩ 1 1 [xg k,.int .i64 pl,.slice ma m.len mc] rfl rfl ?c1 ?c2 ?c3 (by omega) ?c4 (by rw[HF.out];rfl) (by omega) (by omega) ?c5
             case c1 =>
              intro jj u hu;rw[uR,HC3.out];simpa using hu
             case c2 =>
              intro u hu;simp at hu;rcases hu with rfl|rfl|rfl<;>rfl
             case c3 =>
              rw[HF.out];have hk:xr w1.heap.size w2.heap.size w2 w3:=⟨ub.size,fun k _ hk=>ub.block k hk⟩;exact⟨[],ma,mc,vs,rfl,qb.out.keep hk (z8 _) ub.size,xZ.keep hk (z8 _) ub.size _ _ Y2.out,rfl⟩
             case c4 =>
              intro kk Qy;exact(jl.out.lt kk Qy).2
             case c5 =>
              intro v' w4 qt XX;have U9:=z7 qt;have VH:=z7 (fun kk Qy=>(jl.out.lt kk Qy).1);have IG:=z7 (HB3.out.grown XX (fun e=>by have:=VH.out C e.symm;omega));have X8:=z7 (Uh.out.grown XX (fun q hq=>by have:=VH.out q hq;omega));have Uz:=U8.grown XX (fun q hq=>by have:=VH.out q hq;omega);have yjb:=XX.size;obtain⟨ga',gc',av,_⟩:=qt.row;subst av;clear qt XX;refine hK.out _ _ IG.out.c4 (fun _=>?_);clear hK K;have q44:=IG.out.c4;have z44:=IG.out.z 4;refine kX [11,12] 1 rfl (by intro _ _ d _ _ h;cases d<;>exact h) (by kernel_rfl) (by kernel_rfl) IG.out.c4 ?_;(iterate 2 ((first|refine ty ?_|refine tn ?_);try simp only[pl]))
              refine xq ?_;refine BZ 13 (fun K hK=>?_);go_simp;refine hK.out _ _ ?_;clear hK K;refine BX ?_ _;go_wp2;go_roundw
              case rel =>
               refine⟨acc.app f,q,n',_,_,X8.out.own hpC 4 _,Uz.own hwC 4 _,IG.out.zcj,U9.out.but (xR.set C _ 4 _) (by omega),Fo.bh _ _ HLG.out (by rw[HF.out];rfl),ZY.out,by have:=hN.out;omega,?_⟩;rw[Fo.uX,show f.len=1 by rw[HF.out];rfl];have:=oS.out;omega
              case measure =>
               rw[vF (X8.out.own hpC 4 _),vF NC.out];omega
       .rw[if_neg hw] at hq;have ht:=HTY.out;rw[G9 hw] at ht;have oP:=z7 ht;clear ht hw;have HQ:=z7 hq;obtain⟨bf,rfl,_,_⟩:=hq;go_wp2;exact⟨rfl,by rw[oP.out];exact HQ.out,zex⟩
   .rw[if_neg wj] at hs;rw[show(xU rs J3==44)=false from by simp[wj]];have Ap:=z7 hs;have ht:=oI.out;rw[if_pos wj] at ht;have SI:=z7 ht;clear ht hs wj wk oI zv1;go_wp2_with fail;refine(jY p rs J3 d 125 x6 Ap.out (by decide)).mono ?_;rintro e x7 ⟨hq,NF⟩;have Ar:=ze4.trans NF;have oL:=z7 (ze5.out.but NF (by omega));by_cases hw:xU rs J3=125
    .rw[if_pos hw] at hq;obtain⟨rfl,hs⟩:=hq;have ht:=SI.out;rw[Q9 hw] at ht;have ND:=z7 ht;have At:=z7 hs;clear ht hs hw NF SI Ap;have k0:=oL.out.c0;have k1:=oL.out.c1;have hX:=Ar.size;go_wp2;rw[ND.out];have uN:=fun o=>(zy x7.heap.size x7).alloc (z8 _) o
     refine bodyPost_ret (v := .iface 172 (.pointer (some ⟨x7.heap.size,0,none⟩))) ?_ rfl ?_
     .simp[results,results157,go_sem]
     exact⟨⟨⟨_,rfl,[],x7.heap.size,rfl,hX,by simp,xu _ _ _ _ _,xu _ _ _ _ _,rfl⟩,rfl,rfl,At.out.below (uN _)⟩,Ar.below (uN _)⟩
    .rw[if_neg hw] at hq;have ht:=SI.out;rw[G9 hw] at ht;have ND:=z7 ht;clear ht hw;have HQ:=z7 hq;obtain⟨bf,rfl,_,_⟩:=hq;go_wp2;exact⟨rfl,by rw[ND.out];exact HQ.out,Ar⟩
 .rw[if_neg hw] at hq;have ht:=HTW.out;rw[G9 hw] at ht;have oC:=z7 ht;clear ht hw;have HQ:=z7 hq;obtain⟨bf,rfl,_,_⟩:=hq;go_wp2;exact⟨rfl,by rw[oC.out];exact HQ.out,zcf⟩
end Go.Proofs.YthpldolmpinnhaaGreatDoor
