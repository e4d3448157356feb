import Derived.Test.YthpldolmpinnhaaGreatDoorJF10
import Derived.Deep.DeepCutAuto
set_option maxHeartbeats 64000000
open Go.Lib renaming hid→z7
open Nat renaming le_refl→z8
open Go.RowKit.Below renaming refl→zy
open Go.World renaming frozen?_setCell→zx,block_lt_of_cell?→zv,frozen?_of_block→zu
open Go.Proofs.Tryz
namespace Go.Proofs.YthpldolmpinnhaaGreatDoor
open Go Go.RowKit
set_option maxRecDepth 10000
theorem Ut{β:Type}{rs:List Int}{r:Int}{i:Nat}{F:Unit->Nat->qK β}(h:xU rs i=r):(vN rs r i).then F=F () (i+1):=by unfold vN;rw[if_pos h];rfl
theorem Ji{β:Type}{rs:List Int}{r:Int}{i:Nat}{F:Unit->Nat->qK β}(h:¬xU rs i=r):(vN rs r i).then F = .error (3,i):=by unfold vN;rw[if_neg h];rfl
theorem AH{β:Type}{rs:List Int}{i:Nat}{F:Wd->Nat->qK β}(h:¬qu rs i=0):(kZ rs i).then F=F (kb rs i (qu rs i)) (i+qu rs i):=by unfold kZ;rw[if_neg h];rfl
theorem AI{β:Type}{rs:List Int}{i:Nat}{F:Wd->Nat->qK β}(h:qu rs i=0):(kZ rs i).then F = .error (3,i):=by unfold kZ;rw[if_pos h];rfl
theorem Po{β:Type}{rs:List Int}{i:Nat}{F:Wd->Nat->qK β}(h:¬ql rs i=0):(gu rs i).then F=F (kb rs i (ql rs i)) (i+ql rs i):=by unfold gu;rw[if_neg h];rfl
theorem Pp{β:Type}{rs:List Int}{i:Nat}{F:Wd->Nat->qK β}(h:ql rs i=0):(gu rs i).then F = .error (3,i):=by unfold gu;rw[if_pos h];rfl
theorem Ig{rs:List Int}{f i:Nat}(h:¬(f≠0/\CG rs i=true)):JU rs f i = .ok ([48],i):=by unfold JU;rw[if_neg h]
theorem AL{rs:List Int}{f i:Nat}(h:f≠0/\CG rs i=true):JU rs f i=(kZ rs (xr rs (i+7))).then fun o j => .ok (o,xr rs j):=by unfold JU;rw[if_pos h]
theorem then_assoc{α β γ:Type}(x:qK α)(f:α->Nat->qK β)(g:β->Nat->qK γ):(x.then f).then g=x.then fun a i=>(f a i).then g:=by
 cases x with
 | error e=>rfl
 | ok a=>rfl
def zcf(p:Nat)(rs:List Int)(d:Nat)(r:qK Fo)(w:World)(e:Ending)(w':World):Prop :=
 (match r with
  | .error (n,a)=>K7 p n a e w'
  | .ok (f,j)=>(∃ v,e = .returned v/\xY w.heap.size w'.heap.size w' [v] f)/\f.len=1/\f.vG=true/\vK p rs j d w')/\xP p w w'
theorem GF{m:Wd}{n:Nat}(h:Uo m=some n):n<3:=by
 unfold Uo at h;split at h
 ·cases h;decide
 split at h
 ·cases h;decide
 split at h
 ·cases h;decide
 ·cases h
structure DM(B:Nat)(v0 v1 v2 v3 v4 v5:Value)(w:World):Prop where
 c0:w.cell? ⟨B,0,none⟩=some v0
 c1:w.cell? ⟨B,1,none⟩=some v1
 c2:w.cell? ⟨B,2,none⟩=some v2
 c3:w.cell? ⟨B,3,none⟩=some v3
 c4:w.cell? ⟨B,4,none⟩=some v4
 c5:w.cell? ⟨B,5,none⟩=some v5
 z:∀ j,w.frozen? ⟨B,j,none⟩=false
theorem DM.but{B p:Nat}{v0 v1 v2 v3 v4 v5:Value}{w w':World}(h:DM B v0 v1 v2 v3 v4 v5 w)(hb:xP p w w')(xc:B≠p):DM B v0 v1 v2 v3 v4 v5 w' :=
 ⟨hb.cell h.c0 xc,hb.cell h.c1 xc,hb.cell h.c2 xc,hb.cell h.c3 xc,hb.cell h.c4 xc,hb.cell h.c5 xc,fun j=>(zu (a:=⟨B,j,none⟩) (hb.block B (zv w _ h.c0) xc)).trans (h.z j)⟩
theorem DM.ykj{B:Nat}{v0 v1 v2 v3 v4 v5 u:Value}{w:World}(h:DM B v0 v1 v2 v3 v4 v5 w):DM B v0 v1 v2 u v4 v5 (w.setCell ⟨B,3,none⟩ u):=by
 refine⟨?_,?_,?_,?_,?_,?_,fun j=>by rw[zx];exact h.z j⟩<;>rw[xg];all_goals first|(rw[if_neg (by simp)];first|exact h.c0|exact h.c1|exact h.c2|exact h.c4|exact h.c5)|(rw[if_pos rfl,h.c3];rfl)
theorem DM.zcd{B:Nat}{v0 v1 v2 v3 v4 v5 u:Value}{w:World}(h:DM B v0 v1 v2 v3 v4 v5 w):DM B v0 v1 v2 v3 u v5 (w.setCell ⟨B,4,none⟩ u):=by
 refine⟨?_,?_,?_,?_,?_,?_,fun j=>by rw[zx];exact h.z j⟩<;>rw[xg];all_goals first|(rw[if_neg (by simp)];first|exact h.c0|exact h.c1|exact h.c2|exact h.c3|exact h.c5)|(rw[if_pos rfl,h.c4];rfl)
theorem DM.ykg{B:Nat}{v0 v1 v2 v3 v4 v5 u:Value}{w:World}(h:DM B v0 v1 v2 v3 v4 v5 w):DM B v0 v1 v2 v3 v4 u (w.setCell ⟨B,5,none⟩ u):=by
 refine⟨?_,?_,?_,?_,?_,?_,fun j=>by rw[zx];exact h.z j⟩<;>rw[xg];all_goals first|(rw[if_neg (by simp)];first|exact h.c0|exact h.c1|exact h.c2|exact h.c3|exact h.c4)|(rw[if_pos rfl,h.c5];rfl)
theorem DM.lt{B:Nat}{v0 v1 v2 v3 v4 v5:Value}{w:World}(h:DM B v0 v1 v2 v3 v4 v5 w):B<w.heap.size:=zv w _ h.c0
theorem DM.grown{B:Nat}{v0 v1 v2 v3 v4 v5:Value}{w w':World}{row:Option Nat}(h:DM B v0 v1 v2 v3 v4 v5 w)(hg:w.grownBy w' row)(xc:some B≠row):DM B v0 v1 v2 v3 v4 v5 w' :=
 ⟨hg.cell h.c0 xc,hg.cell h.c1 xc,hg.cell h.c2 xc,hg.cell h.c3 xc,hg.cell h.c4 xc,hg.cell h.c5 xc,fun j=>(zu (a:=⟨B,j,none⟩) (hg.block B h.lt xc)).trans (h.z j)⟩
structure GD(B:Nat)(v0 v1:Value)(w:World):Prop where
 c0:w.cell? ⟨B,0,none⟩=some v0
 c1:w.cell? ⟨B,1,none⟩=some v1
 z:∀ j,w.frozen? ⟨B,j,none⟩=false
theorem GD.but{B p:Nat}{v0 v1:Value}{w w':World}(h:GD B v0 v1 w)(hb:xP p w w')(xc:B≠p):GD B v0 v1 w' :=
 ⟨hb.cell h.c0 xc,hb.cell h.c1 xc,fun j=>(zu (a:=⟨B,j,none⟩) (hb.block B (zv w _ h.c0) xc)).trans (h.z j)⟩
theorem GD.X3{B:Nat}{v0 v1 u:Value}{w:World}(h:GD B v0 v1 w):GD B u v1 (w.setCell ⟨B,0,none⟩ u) :=
 ⟨by rw[xg,if_pos rfl,h.c0];rfl,by rw[xg,if_neg (by simp)];exact h.c1,fun j=>by rw[zx];exact h.z j⟩
theorem Uh(p:Nat)(rs:List Int)(i d:Nat)(msg:Option kC)(w:World)(h:vK p rs i d w)(he:Ko p w)(hd:msg=none ↔ d=6)(hm:∀ m,msg=some m->oU p rs d m)(AM:∀ m,msg=some m->GG m) :
  Calls prog 157 #[.pointer (some ⟨p,0,none⟩)] w (zcf p rs d (YX rs msg i) w):=by
 have HH:=z7 h;have GU:=z7 he;have hu:=z7 AM;have Mi:=z7 (fun num j W hs hE=>Ng p rs j d num msg W hs hE hd hm);have K8:=h.lt;have h5:=h.at_;obtain⟨R,hR⟩:=xX (YX rs msg i);rw[hR];unfold YX at hR;have HTW:=z7 hR.symm;clear h he hd hm hR AM;go_enter func157,ntmps157;go_wp2_with fail;refine vZ ?_;intro W hW;have jC:Below w.heap.size w W:=by rw[hW];exact(zy _ _).alloc (z8 _) _
 have Nf:GD w.heap.size (.string ⟨#[]⟩) (.int .i64 i) W:=by
  rw[hW];exact⟨xu _ _ _ _ _,xu _ _ _ _ _,fun j=>by go_simp⟩
 clear hW h5;obtain⟨B,hB⟩:=xX w.heap.size;rw[hB] at Nf ⊢;have HB:=z7 hB;have Ma:p<B:=by omega
 have oQ:=z7 Nf;have CH:=z7 (HH.out.below jC);have jC:=xP.of (p:=p) jC;clear hB Nf;refine(jg p rs i d 123 W CH.out (by decide)).mono ?_;rintro e x1 ⟨hq,zxf⟩;have ze0:=jC.trans zxf;have ykf:=z7 (oQ.out.but zxf (by omega));by_cases hw:xU rs i=123
 ·rw[if_pos hw] at hq;obtain⟨rfl,hs⟩:=hq;have ht:=HTW.out;rw[Ut hw] at ht;have oF:=z7 ht;have ze1:=z7 hs;clear ht hs hw zxf HTW CH;go_wp2_with fail;refine(uw p rs (i+1) d x1 ze1.out).mono ?_;rintro e x2 ⟨rfl,hs,zxd⟩;have ykd:=ze0.trans zxd;have ykb:=z7 (ykf.out.but zxd (by omega));obtain⟨J1,hJ⟩:∃ J,xr rs (i+1)=J:=⟨_,rfl⟩;have xv1:i+1<=J1:=by rw[←hJ];exact xN rs _
  have ht:=oF.out;rw[hJ] at ht hs;have zxb:=z7 ht;have ze2:=z7 hs;clear ht hs hJ zxd oF ze1;go_wp2_with fail;refine(Ul p rs J1 d x2 ze2.out).mono ?_;rintro e x3 ⟨hq,zv0⟩;have ze3:=ykd.trans zv0;have oD:=z7 (ykb.out.but zv0 (by omega));by_cases hn:ql rs J1=0
  ·rw[if_pos hn] at hq;have ht:=zxb.out;rw[Pp hn] at ht;have oB:=z7 ht;clear ht hn;have HQ:=z7 hq;obtain⟨bf,rfl,_,_⟩:=hq;go_wp2;exact⟨rfl,by rw[oB.out];exact HQ.out,ze3⟩
  ·rw[if_neg hn] at hq;obtain⟨rfl,hs⟩:=hq;have ht:=zxb.out;rw[Po hn] at ht;obtain⟨K,hK⟩:=xX (kb rs J1 (ql rs J1));obtain⟨J2,hJ⟩:∃ J,J1+ql rs J1=J:=⟨_,rfl⟩;rw[hJ,hK] at ht;rw[hJ] at hs;rw[hK];have hlK:K.length<=4000000:=by
    have:=bR rs J1 (ql rs J1);have:=HH.out.len;rw[←hK];omega
   have oB:=z7 ht;have yj0:=z7 hs;clear ht hs hK hJ hn zv0 zxb ze2;have zz:=oD.out.z 0;have z0:=oD.out.c0;have z1:=oD.out.c1;have zv1:=z7 (yj0.out.own Ma 0 (xk K));have ze4:=z7 (oD.out.X3 (u:=xk K));have ze5:xP p w (x3.setCell ⟨B,0,none⟩ (xk K)):=ze3.own (by have:=HB.out;omega) 0 _;have ze6:=oB;obtain⟨x4,hX⟩:∃ X,x3.setCell ⟨B,0,none⟩ (xk K)=X:=⟨_,rfl⟩;rw[hX] at zv1 ze4 ze5;have HX:=z7 hX;clear hX oB;go_wp2_with fail;rw[HX.out];clear zz z0 z1;refine(uw p rs (J2) d x4 zv1.out).mono ?_;rintro e x5 ⟨rfl,hs,zv2⟩;have yj1:=ze5.trans zv2;have yj2:=z7 (ze4.out.but zv2 (by omega));obtain⟨J3,hJ⟩:∃ J,xr rs (J2)=J:=⟨_,rfl⟩;have xv2:J2<=J3:=by rw[←hJ];exact xN rs _
   have ht:=ze6.out;rw[hJ] at ht hs;have oC:=z7 ht;have zv3:=z7 hs;clear ht hs hJ zv2 ze6 zv1;go_wp2_with fail;refine(XV p rs J3 d 44 x5 zv3.out (by decide)).mono ?_;rintro e x6 ⟨rfl,hs,wb⟩;have ze7:=yj1.trans wb;have ze8:=z7 (yj2.out.but wb (by omega));by_cases oE:xU rs J3=44
   ·rw[if_pos oE] at hs;rw[show(xU rs J3==44)=true from by rw[oE];rfl];have AN:=z7 hs;have ht:=oC.out;rw[if_neg (fun e=>e oE)] at ht;have SQ:=z7 ht;clear ht hs oE wb oC zv3;go_wp2_with fail;refine(uw p rs (J3+1) d x6 AN.out).mono ?_;rintro e x7 ⟨rfl,hs,Nb⟩;have AO:=ze7.trans Nb;have oH:=z7 (ze8.out.but Nb (by omega));obtain⟨J4,hJ⟩:∃ J,xr rs (J3+1)=J:=⟨_,rfl⟩;have xv3:J3+1<=J4:=by rw[←hJ];exact xN rs _
    have ht:=SQ.out;rw[hJ] at ht hs;have NY:=z7 ht;have AP:=z7 hs;clear ht hs hJ Nb SQ AN;have g7:=AP.out.at_;go_wp2_with fail;refine(Ul p rs J4 d x7 AP.out).mono ?_;rintro e x8 ⟨hq,zv4⟩;have ze9:=AO.trans zv4;have yj3:=z7 (oH.out.but zv4 (by omega));by_cases hn:ql rs J4=0
    ·rw[if_pos hn] at hq;have ht:=NY.out;rw[Pp hn] at ht;have oI:=z7 ht;clear ht hn;have HQ:=z7 hq;obtain⟨bf,rfl,_,_⟩:=hq;go_wp2;exact⟨rfl,by rw[oI.out];exact HQ.out,ze9⟩
    ·rw[if_neg hn] at hq;obtain⟨rfl,hs⟩:=hq;have ht:=NY.out;rw[Po hn] at ht;obtain⟨K2,hK⟩:∃ K,kb rs J4 (ql rs J4)=K:=⟨_,rfl⟩;obtain⟨J5,hJ⟩:∃ J,J4+ql rs J4=J:=⟨_,rfl⟩;rw[hJ,hK] at ht;rw[hJ] at hs;rw[hK];have xv4:K2.length<=4000000:=by
      have:=bR rs J4 (ql rs J4);have:=HH.out.len;rw[←hK];omega
     have oI:=z7 ht;have zez:=z7 hs;clear ht hs hK hJ hn zv4 NY AP;clear g7;go_wp2_with fail;refine(uw p rs (J5) d x8 zez.out).mono ?_;rintro e x9 ⟨rfl,hs,zv5⟩;have zey:=ze9.trans zv5;have zex:=z7 (yj3.out.but zv5 (by omega));obtain⟨J6,hJ⟩:∃ J,xr rs (J5)=J:=⟨_,rfl⟩;have xv5:J5<=J6:=by rw[←hJ];exact xN rs _
     have ht:=oI.out;rw[hJ] at ht hs;have CI:=z7 ht;have oL:=z7 hs;clear ht hs hJ zv5 oI zez;by_cases hk:(K2==[110,117,109,98,101,114])=true
     ·have ht:=CI.out;rw[if_pos (show K2=zxq from eq_of_beq hk)] at ht;have HT9:=CI;clear CI;have CI:=z7 ht;clear ht HT9;go_wp2_with fail;clear hk;refine(jg p rs J6 d 125 x9 oL.out (by decide)).mono ?_;rintro e AR ⟨hq,AS⟩;have GB:=zey.trans AS;have Bq:=z7 (zex.out.but AS (by omega));by_cases hw:xU rs J6=125
      ·rw[if_pos hw] at hq;obtain⟨rfl,hs⟩:=hq;have ht:=CI.out;rw[Ut hw] at ht;have If:=z7 ht;have Ib:=z7 hs;clear ht hs hw AS CI oL;have k0:=Bq.out.c0;have k1:=Bq.out.c1;have hX:=GB.size;go_wp2;rw[If.out];have um:=fun o=>(zy AR.heap.size AR).alloc (z8 _) o
       refine bodyPost_ret (v := .iface 175 (.pointer (some ⟨AR.heap.size,0,none⟩))) ?_ rfl ?_
       ·simp[results,results157,go_sem]
       exact⟨⟨⟨_,rfl,[],AR.heap.size,rfl,hX,by simp,xu _ _ _ _ _,xu _ _ _ _ _,rfl⟩,rfl,rfl,Ib.out.below (um _)⟩,GB.below (um _)⟩
      ·rw[if_neg hw] at hq;have ht:=CI.out;rw[Ji hw] at ht;have If:=z7 ht;clear ht hw;have HQ:=z7 hq;obtain⟨bf,rfl,_,_⟩:=hq;go_wp2;exact⟨rfl,by rw[If.out];exact HQ.out,GB⟩
     ·have QA:(K2==[110,117,109,98,101,114])=false:=by simpa using hk
      have ht:=CI.out;rw[if_neg (show ¬K2=zxq from fun e=>hk (beq_iff_eq.2 e))] at ht;have HTf:=z7 ht;clear ht hk CI;go_wp2_with fail;clear QA;refine(SV x9).mono ?_;rintro e AR ⟨⟨bm,rfl,hF⟩,oM⟩;have GB:=zey.below oM;have Bq:=z7 (zex.out.but (xP.of (p:=p) oM) (by omega));have Ib:=z7 (oL.out.below oM);have HF:=z7 hF;have IZ:=hF.look K2 (by omega);clear oM hF oL;obtain⟨fo,Uw⟩:=xX (Uo K2);rw[Uw] at IZ;have ht:=HTf.out;rw[Uw] at ht;have HTg:=z7 ht;clear ht HTf;have nG:=z7 Uw;clear Uw
      cases fo with
      | none =>
       have If:=z7 (show R = .error (3,J4) from HTg.out);clear HTg;simp only[Option.getD_none,Option.isSome_none] at IZ;go_wp2_with fail;refine(dy p 3 J4 AR Ib.out.Ki).mono ?_;rintro e x11 ⟨hf,yj4⟩;have fy:=z7 hf;obtain⟨bf,rfl,_,_⟩:=hf;go_wp2;exact⟨rfl,by rw[If.out];exact fy.out,GB.below yj4⟩
      | some form =>
       simp only[Option.getD_some,Option.isSome_some] at IZ;have jx:form<3:=GF nG.out;have ht:=HTg.out;have HTY:=z7 ht;clear HTg ht;have k0:=Bq.out.c0;have k1:=Bq.out.c1;go_wp2_with fail;refine vZ ?_;intro Y hY;have hbY:Below AR.heap.size AR Y:=by rw[hY];exact(zy _ _).alloc (z8 _) _
       have Nf:DM AR.heap.size (xk K) (.int .i64 i) (.int .i64 form) (.int .i64 0) (.slice none 0 0) (.int .i64 0) Y:=by
        rw[hY];exact⟨xu _ _ _ _ _,xu _ _ _ _ _,xu _ _ _ _ _,xu _ _ _ _ _,xu _ _ _ _ _,xu _ _ _ _ _,fun j=>by go_simp⟩
       have hwx:w.heap.size<=AR.heap.size:=GB.size;have HSY:=z7 (Ib.out.below hbY);have hbY:=GB.below hbY;obtain⟨C,hC⟩:=xX AR.heap.size;rw[hC] at Nf hwx ⊢;have hwC:=hwx;clear hY k0 k1 IZ Ib hC Bq HF hwx;have HLY:=z7 Nf;have hpC:p<C:=by omega
       clear Nf;refine(jg p rs J6 d 44 Y HSY.out (by decide)).mono ?_;rintro e y1 ⟨hq,zv6⟩;have zeq:=hbY.trans zv6;have yj6:=z7 (HLY.out.but zv6 (by omega));by_cases hw:xU rs J6=44
       ·rw[if_pos hw] at hq;obtain⟨rfl,hs⟩:=hq;have ht:=HTY.out;rw[Ut hw] at ht;have oN:=z7 ht;have zek:=z7 hs;clear ht hs hw zv6 HTY HSY;go_wp2_with fail;refine(uw p rs (J6+1) d y1 zek.out).mono ?_;rintro e y2 ⟨rfl,hs,Ab⟩;have zv7:=zeq.trans Ab;have zv8:=z7 (yj6.out.but Ab (by omega));obtain⟨J7,hJ⟩:∃ J,xr rs (J6+1)=J:=⟨_,rfl⟩;have xv8:J6+1<=J7:=by rw[←hJ];exact xN rs _
        have ht:=oN.out;rw[hJ] at ht hs;have zej:=z7 ht;have AT:=z7 hs;clear ht hs hJ Ab oN zek;obtain⟨FF,hFF⟩:∃ FF:Wd->Nat->qK Fo,FF=fun o l=>(jN rs msg (decide (form≠0)) (rs.length+1) .nil l).then fun bs q=>(vN rs 125 q).then fun _ z => .ok (.br K i form o q bs .nil,z):=⟨_,rfl⟩
        have HFF:=z7 hFF;have HTF:=z7 (show R=(JU rs form J7).then FF by rw[hFF];exact zej.out);clear hFF zej;go_upto_region 23 with fail
        go_cut [76] (fun s wc=>∃ b l,s = .bool b/\vK p rs l d wc/\xP p w wc/\DM C (xk K) (.int .i64 i) (.int .i64 form) (.int .i64 0) (.slice none 0 0) (.int .i64 0) wc/\J7<=l/\(b=true->R=((kZ rs (xr rs l)).then fun o j=>(.ok (o,xr rs j):qK Wd)).then FF)/\(b=false->R=FF [48] l))
        case first =>
         by_cases h0:form=0
         ·subst h0;have ht:=HTF.out;rw[Ig (fun e=>e.1 rfl),then_ok] at ht;have Bk:=z7 ht;clear ht HTF;go_wp2_with fail;go_meet
          case rel=>exact⟨false,J7,rfl,AT.out,zv7,zv8.out,z8 _,(fun e=>by cases e),fun _=>Bk.out⟩
         ·have NV:((form:Int)==0)=false:=by simp;omega
          have uy:((form:Int) !=0)=true:=by simp;omega
          have HF0:=z7 h0;clear h0;go_wp2_with fail;refine(I9 p rs J7 d y2 AT.out).mono ?_;rintro e y3 ⟨rfl,hs,hx⟩;have zef:=zv7.trans hx;have zed:=z7 (zv8.out.but hx (by omega));by_cases ho:CG rs J7=true
          ·rw[if_pos ho] at hs;rw[ho];have ht:=HTF.out;rw[AL ⟨HF0.out,ho⟩] at ht;have zvz:=z7 ht;have zvy:=z7 hs;clear ht hs hx ho HTF AT;go_wp2_with fail;go_meet
           case rel=>exact⟨true,J7+7,rfl,zvy.out,zef,zed.out,Nat.le_add_right _ _,(fun _=>zvz.out),(fun e=>by cases e)⟩
          ·rw[if_neg ho] at hs;rw[show CG rs J7=false from by simpa using ho];have ht:=HTF.out;rw[Ig (fun e=>ho e.2),then_ok] at ht;have zvz:=z7 ht;have zvy:=z7 hs;clear ht hs hx ho HTF AT;go_wp2_with fail;go_meet
           case rel=>exact⟨false,J7,rfl,zvy.out,zef,zed.out,z8 _,(fun e=>by cases e),fun _=>zvz.out⟩
        case rest =>
         obtain⟨b,l,rfl,hs,DN,hl,hJl,ht1,Pr⟩:=hcut;have HSc:=z7 hs;have HLc:=z7 hl;have UR:=z7 ht1;have We:=z7 Pr;clear hs hl ht1 Pr AT zv8 HTF zv7;go_upto_if 76 with fail
         go_cut [] (fun wc=>∃ l ov O,xE O=ov/\vK p rs l d wc/\xP p w wc/\DM C (xk K) (.int .i64 i) (.int .i64 form) (.int .i64 ov) (.slice none 0 0) (.int .i64 0) wc/\J7<=l/\R=FF O l)
         case first =>
          cases b with
          | false =>
           have HTc:=z7 (We.out rfl);clear We UR;go_wp2_with fail;go_meet
           case rel=>exact⟨l,0,[48],rfl,HSc.out,DN,HLc.out,hJl,HTc.out⟩
          | true =>
           have HTc:=z7 (UR.out rfl);have yj8:=DN;have zeb:=HSc;have yj9:=HLc;have zi0:=HTc;clear DN HSc HLc HTc UR We;go_wp2_with fail;refine(uw p rs (l) d wc zeb.out).mono ?_;rintro e y4 ⟨rfl,hs,zvx⟩;have yjz:=yj8.trans zvx;have yjy:=z7 (yj9.out.but zvx (by omega));obtain⟨J8,hJ⟩:∃ J,xr rs (l)=J:=⟨_,rfl⟩;have xvz:l<=J8:=by rw[←hJ];exact xN rs _
           have ht:=zi0.out;rw[hJ] at ht hs;have zvv:=z7 ht;have zi1:=z7 hs;clear ht hs hJ zvx zi0 zeb;go_wp2_with fail;refine(By p rs J8 d y4 zi1.out).mono ?_;rintro e y5 ⟨hq,hx⟩;have zi2:=yjz.trans hx;have yjx:=z7 (yjy.out.but hx (by omega));by_cases hn:qu rs J8=0
           ·rw[if_pos hn] at hq;have ht:=zvv.out;rw[then_assoc,AI hn] at ht;have oO:=z7 ht;clear ht hn;have HQ:=z7 hq;obtain⟨bf,rfl,_,_⟩:=hq;go_wp2;exact⟨rfl,by rw[oO.out];exact HQ.out,zi2⟩
           ·rw[if_neg hn] at hq;obtain⟨rfl,hs⟩:=hq;have ht:=zvv.out;rw[then_assoc,AH hn] at ht;simp only[then_ok] at ht;obtain⟨w1,w2,w3⟩:=Kp rs J8 hn;obtain⟨O,hO⟩:∃ K,kb rs J8 (qu rs J8)=K:=⟨_,rfl⟩;obtain⟨J9,hJ⟩:∃ J,J8+qu rs J8=J:=⟨_,rfl⟩;have xvy:J8<=J9:=by omega
            rw[hJ,hO] at ht;rw[hJ] at hs;rw[hO] at w1 w2 w3 ⊢;have oO:=z7 ht;have zi3:=z7 hs;have Qa:=z7 (fun W=>Pe O W w1 w2 w3);clear ht hs hO hJ hn hx zvv zi1 w1 w2 w3;go_wp2_with fail;refine(Qa.out y5).mono ?_;rintro e y6 ⟨rfl,hx⟩;have yjv:=zi2.below hx;have zvu:=z7 (yjx.out.but (xP.of (p:=p) hx) (by omega));have yju:=z7 (zi3.out.below hx);obtain⟨ov,Ps⟩:∃ v,xE O=v:=⟨_,rfl⟩;rw[Ps];have HOV:=z7 Ps;have q3:=zvu.out.c3;have z3:=zvu.out.z 3;have zvq:=z7 (yju.out.own hpC 3 (.int .i64 ov));have zi5:=z7 (zvu.out.ykj (u := .int .i64 ov));have zi6:xP p w (y6.setCell ⟨C,3,none⟩ (.int .i64 ov)):=yjv.own hwC 3 _;have zi7:=oO;obtain⟨y7,hX⟩:∃ X,y6.setCell ⟨C,3,none⟩ (.int .i64 ov)=X:=⟨_,rfl⟩;rw[hX] at zvq zi5 zi6;have HX:=z7 hX;clear hX oO Ps hx zi3;go_wp2_with fail;rw[HX.out];clear q3 z3;refine(uw p rs (J9) d y7 zvq.out).mono ?_;rintro e y8 ⟨rfl,hs,zvk⟩;have yjq:=zi6.trans zvk;have yjk:=z7 (zi5.out.but zvk (by omega));obtain⟨J10,hJ⟩:∃ J,xr rs (J9)=J:=⟨_,rfl⟩;have yn0:J9<=J10:=by rw[←hJ];exact xN rs _
            have ht:=zi7.out;rw[hJ] at ht hs;have yjj:=z7 ht;have yjg:=z7 hs;clear ht hs hJ zvk zi7 zvq;go_wp2_with fail;go_meet
            case rel=>exact⟨J10,ov,O,HOV.out,yjg.out,yjq,yjk.out,by omega,yjj.out⟩
         case rest =>
          obtain⟨l2,ov,O,Ps,hs,hbz,hl,xvx,ht⟩:=hcut;have HOV:=z7 Ps;have HSz:=z7 hs;have HLz:=z7 hl;have HTz:=z7 (show R=(jN rs msg (decide (form≠0)) (rs.length+1) .nil l2).then fun bs q=>(vN rs 125 q).then fun _ z => .ok (.br K i form O q bs .nil,z) by rw[ht,HFF.out]);obtain⟨NB,hNB⟩:∃ b,decide (form≠0)=b:=⟨_,rfl⟩;have CL:=z7 hNB;have zi8:=z7 (show((form:Int) !=0)=NB from by rw[←hNB];by_cases h:form=0<;>simp[h]);clear Ps hs hl ht DN HSc HLc UR We HFF hNB;go_wp2_with fail;obtain⟨G,hG,hGe⟩:∃ G:Fo->Nat->qK Fo,R=(jN rs msg NB (rs.length+1) .nil l2).then G/\∀ bs q,xU rs q=125->G bs q = .ok (.br K i form O q bs .nil,q+1):=⟨_,(show decide (form≠0)=NB from CL.out)▸HTz.out,fun bs q h=>Ut h⟩;have HGE:=z7 hGe;clear hGe;have HG:=z7 hG;have DD:1<=l2:=by omega
          clear hG HTz;go_loopw [] (fun wr=>∃ acc j n v ws,vK p rs j d wr/\xP p w wr/\DM C (xk K) (.int .i64 i) (.int .i64 (form:Nat)) (.int .i64 ov) v (.int .i64 0) wr/\qm (C+1) 183 3 v acc ws wr/\acc.uv=true/\R=(jN rs msg NB n acc j).then G/\rs.length+2<=n+j/\acc.len<=j) (fun wr=>rs.length+2 - N6 p wr)
          case atStart=>exact⟨.nil,l2,rs.length+1,_,[],HSz.out,hbz,HLz.out,qm.start _ _ _ _,rfl,HG.out,by omega,Nat.zero_le _⟩
          case round =>
           obtain⟨acc,j,n,v,ws,hs,fx,Yk,Yt,wZ,hR,hfu,wY⟩:=hrel;obtain⟨ga,gc,hv,_⟩:=Yt.row;subst hv;have NU:=z7 hs;have yjd:=z7 Yk;have HGR:=z7 Yt;have gG:=z7 hR;have HLG:=z7 wZ;have oP:=z7 (show acc.len<=j/\j<=rs.length+1 from⟨wY,hs.here⟩);have hCC:=Yk.lt;clear hs Yk Yt hR wZ wY;go_wp2_with fail;refine(jL p rs j d wr NU.out).mono ?_;rintro e w1 ⟨rfl,xB⟩;have nN:=z7 (yjd.out.but (xP.of (p:=p) xB) (by omega));have q4:=nN.out.c4;have gC:=z7 (NU.out.below xB);have ZU:=fx.below xB;by_cases CM:xU rs j=125
           ·rw[CM];by_cases ha0:acc.len=0
            ·have yjb:((acc.len:Int)==0)=true:=by simp[ha0]
             have HA0:=z7 ha0;clear ha0 CM;obtain⟨n',CN⟩:∃ n',n=n'+1:=⟨n - 1,by have:=gC.out.here;omega⟩;have ht:=gG.out;rw[CN,jN,if_neg (fun e=>e.2 HA0.out),then_assoc] at ht;obtain⟨r,hr⟩:=xX (X2 rs msg NB j);rw[hr] at ht;have ur:=z7 (fun W hs hE=>(hr▸Mi.out NB j W hs hE:Calls prog 204 #[.pointer (some ⟨p,0,none⟩),.bool NB] W (zxk p rs d r W)));have UR:=z7 ht;have Ml:=z7 (fun f q (e:r = .ok (f,q))=>CB hu.out (hr.trans e));have jO:=z7 (HGR.out.but (xP.of (p:=p) xB) (by omega));have AW:=z7 (GU.out.but ZU);have Sg:=xB.size;have hN:=z7 CN;clear ht hr CN;go_wp2_with fail;refine rk (fun W':World=>W'.cell? ⟨C,4,none⟩=some (.slice ga acc.len gc)) 13 [0,1,2,3,4,5,6,7] 6 nN.out.c4 ?_;(iterate 8 ((first|refine ty ?_|refine tn ?_);try simp only[pl]))
             refine xq ?_;refine Xf 8 (fun K hK=>?_);go_simp;rw[zi8.out];refine(ur.out w1.drew (gC.out.below (zy _ _).drew) (AW.out.but (xP.refl _ _).drew)).mono ?_;rintro e w2 ⟨hq,qg⟩;have qg:xP p w1 w2:=(xP.refl p w1).drew.trans qg;have Zo:=ZU.trans qg
             cases r with
             | error en =>
              obtain⟨nH,nL⟩:=en;have HQ:=z7 hq;obtain⟨bf,rfl,_,_⟩:=hq;have wV:=z7 (show R = .error (nH,nL) from UR.out);go_wp2;exact⟨rfl,by rw[wV.out];exact HQ.out,Zo⟩
             | ok fq =>
              obtain⟨f,q⟩:=fq;obtain⟨⟨k,pl,m,ma,mc,hf,rfl,MA,vs,vD,kE⟩,ue⟩:=hq;have qV:=z7 vD;have YQ:=z7 kE;have dv:=z7 ue;have Ky:=z7 (nN.out.but qg (by omega));have YJ:=z7 (jO.out.but qg (by omega));have Zd:=z7 (show R=(jN rs msg NB n' (acc.app f) q).then G from UR.out);have hjq:=Ml.out f q rfl;have HF:=z7 hf;have HMM:=z7 MA;have I6:=ue.here;have hwx:=qg.size;have q4':=Ky.out.c4;clear vD kE ue qg hf Ml UR MA ur;refine hK.out _ _ Ky.out.c4 (fun _=>?_);clear hK K;refine Xf 9 (fun K hK=>?_);go_simp;have q43:=(Ky.out.but (xP.of (p:=p) ((zy w2.heap.size w2).alloc (z8 _) (.cells #[xk k,.int .i64 pl,.slice ma m.len mc] 183))) (by omega)).c4;refine hK.out _ _ q43 (fun _=>?_);clear q43;clear hK K;have uP:Below w2.heap.size w2 (w2.alloc (.cells #[xk k,.int .i64 pl,.slice ma m.len mc] 183)):=(zy _ _).alloc (z8 _) _;have HC3:=z7 (fun i=>xu w2 #[xk k,.int .i64 pl,.slice ma m.len mc] 183 (0,0) i);obtain⟨w3,hw3⟩:=xX (w2.alloc (.cells #[xk k,.int .i64 pl,.slice ma m.len mc] 183));rw[hw3] at uP HC3 ⊢;have HB3:=z7 (Ky.out.but (xP.of (p:=p) uP) (by omega));have UO:=z7 (dv.out.below uP);have U6:=z7 (YJ.out.but (xP.of (p:=p) uP) (by omega));have U7:=Zo.below uP;have GC:=uP.size;have DO:acc.len<=2000000:=by
               have:=oP.out;have:=HH.out.len;omega
              clear hw3;refine Xf 10 (fun K hK=>?_);rw[if_pos (by rfl)];refine Pm Kr _ _ rfl (C+1) w1.heap.size _ acc f ws rfl U6.out ⟨w2.heap.size,0,none⟩ 1 1 [xk k,.int .i64 pl,.slice ma m.len mc] rfl rfl ?c1 ?c2 ?c3 (by omega) ?c4 (by rw[HF.out];rfl) (by omega) (by omega) ?c5
              case c1 =>
               intro jj u hu;rw[vS,HC3.out];simpa using hu
              case c2 =>
               intro u hu;simp at hu;rcases hu with rfl|rfl|rfl<;>rfl
              case c3 =>
               rw[HF.out];have hk:vQ w1.heap.size w2.heap.size w2 w3:=⟨uP.size,fun k _ hk=>uP.block k hk⟩;exact⟨[],ma,mc,vs,rfl,qV.out.keep hk (z8 _) uP.size,xY.keep hk (z8 _) uP.size _ _ YQ.out,rfl⟩
              case c4 =>
               intro kk Q5;exact(jO.out.lt kk Q5).2
              case c5 =>
               intro v' w4 jq Yt;have U8:=z7 jq;have VB:=z7 (fun kk Q5=>(jO.out.lt kk Q5).1);have IY:=z7 (HB3.out.grown Yt (fun e=>by have:=VB.out C e.symm;omega));have Yq:=z7 (UO.out.grown Yt (fun q hq=>by have:=VB.out q hq;omega));have U9:=U7.grown Yt (fun q hq=>by have:=VB.out q hq;omega);have yg1:=Yt.size;obtain⟨ga',gc',AA,_⟩:=jq.row;subst AA;clear jq Yt;refine hK.out _ _ IY.out.c4 (fun _=>?_);clear hK K;have q44:=IY.out.c4;have z44:=IY.out.z 4;refine kx [11,12] 1 rfl (by intro _ _ d _ _ h;cases d<;>exact h) (by kernel_rfl) (by kernel_rfl) IY.out.c4 ?_;(iterate 2 ((first|refine ty ?_|refine tn ?_);try simp only[pl]))
               refine xq ?_;refine DJ 13 (fun K hK=>?_);go_simp;refine hK.out _ _ ?_;clear hK K;refine DG ?_ _;go_wp2;go_roundw
               case rel =>
                refine⟨acc.app f,q,n',_,_,Yq.out.own hpC 4 _,U9.own hwC 4 _,IY.out.zcd,U8.out.but (xP.set C _ 4 _) (by omega),Fo.bS _ _ HLG.out (by rw[HF.out];rfl),Zd.out,by have:=hN.out;omega,?_⟩;rw[Fo.ub,show f.len=1 by rw[HF.out];rfl];have:=oP.out;omega
               case measure =>
                rw[vJ (Yq.out.own hpC 4 _),vJ NU.out];omega
            ·have yjb:((acc.len:Int)==0)=false:=by simp[ha0]
             have u1:=gC.out.at_;have q5:=nN.out.c5;have z5:=nN.out.z 5;obtain⟨n',CN⟩:∃ n',n=n'+1:=⟨n - 1,by have:=gC.out.here;omega⟩;have ht:=gG.out;rw[CN,jN,if_pos ⟨CM,ha0⟩,then_ok] at ht;have UR:=z7 ht;have dv:=z7 (gC.out.own hpC 5 (.int .i64 j));have Ky:=z7 (nN.out.ykg (u := .int .i64 j));have xF:xP p w (w1.setCell ⟨C,5,none⟩ (.int .i64 j)):=ZU.own hwC 5 _;have ziu:=z7 ((HGR.out.but (xP.of (p:=p) xB) (by omega)).but (xP.set C w1 5 (.int .i64 j)) (by omega));obtain⟨y9,hX⟩:∃ X,w1.setCell ⟨C,5,none⟩ (.int .i64 j)=X:=⟨_,rfl⟩;rw[hX] at dv Ky xF ziu;have HX9:=z7 hX;clear hX ht CN;go_wp2_with fail;rw[HX9.out];refine(jg p rs j d 125 y9 dv.out (by decide)).mono ?_;rintro e y10 ⟨hq,hx⟩;rw[if_pos CM] at hq;obtain⟨rfl,hs⟩:=hq;have HTZ:=z7 (UR.out.trans (HGE.out _ _ CM));have du:=z7 hs;have hbz:=xF.trans hx;have HBZ:=z7 (Ky.out.but hx (by omega));have ziq:=z7 (ziu.out.but hx (by omega));have hCZ:=HBZ.out.lt;clear hs CM;go_wp2;rw[HTZ.out];refine bodyPost_ret (v := .iface 177 (.pointer (some ⟨C,0,none⟩))) ?_ rfl ?_
             ·simp[results,results157,go_sem]
             obtain⟨ga2,gc2,Pt,Bj⟩:=ziq.out.row
             cases Pt;have Q5:vQ (C+1) y10.heap.size y10 y10:=vx (z8 _);exact⟨⟨⟨_,rfl,[],C,_,_,ws,rfl,hwC,hCZ,HBZ.out.c0,HBZ.out.c1,HBZ.out.c2,(HOV.out ▸  HBZ.out.c3),HBZ.out.c4,HBZ.out.c5,Bj.keep Q5 (by omega) (z8 _),xY.keep Q5 (by omega) (z8 _) _ _ ziq.out.nodes,rfl⟩,rfl,rfl,du.out⟩,hbz⟩
           ·have yn5:(xU rs j==125)=false:=by simp[CM]
            have yg3:=z7 CM;clear CM;obtain⟨n',CN⟩:∃ n',n=n'+1:=⟨n - 1,by have:=gC.out.here;omega⟩;have ht:=gG.out;rw[CN,jN,if_neg (fun e=>yg3.out e.1),then_assoc] at ht;obtain⟨r,hr⟩:=xX (X2 rs msg NB j);rw[hr] at ht;have ur:=z7 (fun W hs hE=>(hr▸Mi.out NB j W hs hE:Calls prog 204 #[.pointer (some ⟨p,0,none⟩),.bool NB] W (zxk p rs d r W)));have UR:=z7 ht;have Ml:=z7 (fun f q (e:r = .ok (f,q))=>CB hu.out (hr.trans e));have jO:=z7 (HGR.out.but (xP.of (p:=p) xB) (by omega));have AW:=z7 (GU.out.but ZU);have Sg:=xB.size;have hN:=z7 CN;clear ht hr CN;go_wp2_with fail;refine rk (fun W':World=>W'.cell? ⟨C,4,none⟩=some (.slice ga acc.len gc)) 13 [0,1,2,3,4,5,6,7] 6 nN.out.c4 ?_;(iterate 8 ((first|refine ty ?_|refine tn ?_);try simp only[pl]))
            refine xq ?_;refine Xf 8 (fun K hK=>?_);go_simp;rw[zi8.out];refine(ur.out w1.drew (gC.out.below (zy _ _).drew) (AW.out.but (xP.refl _ _).drew)).mono ?_;rintro e w2 ⟨hq,qg⟩;have qg:xP p w1 w2:=(xP.refl p w1).drew.trans qg;have Zo:=ZU.trans qg
            cases r with
            | error en =>
             obtain⟨nH,nL⟩:=en;have HQ:=z7 hq;obtain⟨bf,rfl,_,_⟩:=hq;have wV:=z7 (show R = .error (nH,nL) from UR.out);go_wp2;exact⟨rfl,by rw[wV.out];exact HQ.out,Zo⟩
            | ok fq =>
             obtain⟨f,q⟩:=fq;obtain⟨⟨k,pl,m,ma,mc,hf,rfl,MA,vs,vD,kE⟩,ue⟩:=hq;have qV:=z7 vD;have YQ:=z7 kE;have dv:=z7 ue;have Ky:=z7 (nN.out.but qg (by omega));have YJ:=z7 (jO.out.but qg (by omega));have Zd:=z7 (show R=(jN rs msg NB n' (acc.app f) q).then G from UR.out);have hjq:=Ml.out f q rfl;have HF:=z7 hf;have HMM:=z7 MA;have I6:=ue.here;have hwx:=qg.size;have q4':=Ky.out.c4;clear vD kE ue qg hf Ml UR MA ur;refine hK.out _ _ Ky.out.c4 (fun _=>?_);clear hK K;refine Xf 9 (fun K hK=>?_);go_simp;have q43:=(Ky.out.but (xP.of (p:=p) ((zy w2.heap.size w2).alloc (z8 _) (.cells #[xk k,.int .i64 pl,.slice ma m.len mc] 183))) (by omega)).c4;refine hK.out _ _ q43 (fun _=>?_);clear q43;clear hK K;have uP:Below w2.heap.size w2 (w2.alloc (.cells #[xk k,.int .i64 pl,.slice ma m.len mc] 183)):=(zy _ _).alloc (z8 _) _;have HC3:=z7 (fun i=>xu w2 #[xk k,.int .i64 pl,.slice ma m.len mc] 183 (0,0) i);obtain⟨w3,hw3⟩:=xX (w2.alloc (.cells #[xk k,.int .i64 pl,.slice ma m.len mc] 183));rw[hw3] at uP HC3 ⊢;have HB3:=z7 (Ky.out.but (xP.of (p:=p) uP) (by omega));have UO:=z7 (dv.out.below uP);have U6:=z7 (YJ.out.but (xP.of (p:=p) uP) (by omega));have U7:=Zo.below uP;have GC:=uP.size;have DO:acc.len<=2000000:=by
              have:=oP.out;have:=HH.out.len;omega
             clear hw3;refine Xf 10 (fun K hK=>?_);rw[if_pos (by rfl)];refine Pm Kr _ _ rfl (C+1) w1.heap.size _ acc f ws rfl U6.out ⟨w2.heap.size,0,none⟩ 1 1 [xk k,.int .i64 pl,.slice ma m.len mc] rfl rfl ?c1 ?c2 ?c3 (by omega) ?c4 (by rw[HF.out];rfl) (by omega) (by omega) ?c5
             case c1 =>
              intro jj u hu;rw[vS,HC3.out];simpa using hu
             case c2 =>
              intro u hu;simp at hu;rcases hu with rfl|rfl|rfl<;>rfl
             case c3 =>
              rw[HF.out];have hk:vQ w1.heap.size w2.heap.size w2 w3:=⟨uP.size,fun k _ hk=>uP.block k hk⟩;exact⟨[],ma,mc,vs,rfl,qV.out.keep hk (z8 _) uP.size,xY.keep hk (z8 _) uP.size _ _ YQ.out,rfl⟩
             case c4 =>
              intro kk Q5;exact(jO.out.lt kk Q5).2
             case c5 =>
              intro v' w4 jq Yt;have U8:=z7 jq;have VB:=z7 (fun kk Q5=>(jO.out.lt kk Q5).1);have IY:=z7 (HB3.out.grown Yt (fun e=>by have:=VB.out C e.symm;omega));have Yq:=z7 (UO.out.grown Yt (fun q hq=>by have:=VB.out q hq;omega));have U9:=U7.grown Yt (fun q hq=>by have:=VB.out q hq;omega);have yg1:=Yt.size;obtain⟨ga',gc',AA,_⟩:=jq.row;subst AA;clear jq Yt;refine hK.out _ _ IY.out.c4 (fun _=>?_);clear hK K;have q44:=IY.out.c4;have z44:=IY.out.z 4;refine kx [11,12] 1 rfl (by intro _ _ d _ _ h;cases d<;>exact h) (by kernel_rfl) (by kernel_rfl) IY.out.c4 ?_;(iterate 2 ((first|refine ty ?_|refine tn ?_);try simp only[pl]))
              refine xq ?_;refine DJ 13 (fun K hK=>?_);go_simp;refine hK.out _ _ ?_;clear hK K;refine DG ?_ _;go_wp2;go_roundw
              case rel =>
               refine⟨acc.app f,q,n',_,_,Yq.out.own hpC 4 _,U9.own hwC 4 _,IY.out.zcd,U8.out.but (xP.set C _ 4 _) (by omega),Fo.bS _ _ HLG.out (by rw[HF.out];rfl),Zd.out,by have:=hN.out;omega,?_⟩;rw[Fo.ub,show f.len=1 by rw[HF.out];rfl];have:=oP.out;omega
              case measure =>
               rw[vJ (Yq.out.own hpC 4 _),vJ NU.out];omega
       ·rw[if_neg hw] at hq;have ht:=HTY.out;rw[Ji hw] at ht;have oN:=z7 ht;clear ht hw;have HQ:=z7 hq;obtain⟨bf,rfl,_,_⟩:=hq;go_wp2;exact⟨rfl,by rw[oN.out];exact HQ.out,zeq⟩
   ·rw[if_neg oE] at hs;rw[show(xU rs J3==44)=false from by simp[oE]];have AN:=z7 hs;have ht:=oC.out;rw[if_pos oE] at ht;have SQ:=z7 ht;clear ht hs oE wb oC zv3;go_wp2_with fail;refine(jg p rs J3 d 125 x6 AN.out (by decide)).mono ?_;rintro e x7 ⟨hq,Nb⟩;have AO:=ze7.trans Nb;have oH:=z7 (ze8.out.but Nb (by omega));by_cases hw:xU rs J3=125
    ·rw[if_pos hw] at hq;obtain⟨rfl,hs⟩:=hq;have ht:=SQ.out;rw[Ut hw] at ht;have NY:=z7 ht;have AP:=z7 hs;clear ht hs hw Nb SQ AN;have k0:=oH.out.c0;have k1:=oH.out.c1;have hX:=AO.size;go_wp2;rw[NY.out];have um:=fun o=>(zy x7.heap.size x7).alloc (z8 _) o
     refine bodyPost_ret (v := .iface 172 (.pointer (some ⟨x7.heap.size,0,none⟩))) ?_ rfl ?_
     ·simp[results,results157,go_sem]
     exact⟨⟨⟨_,rfl,[],x7.heap.size,rfl,hX,by simp,xu _ _ _ _ _,xu _ _ _ _ _,rfl⟩,rfl,rfl,AP.out.below (um _)⟩,AO.below (um _)⟩
    ·rw[if_neg hw] at hq;have ht:=SQ.out;rw[Ji hw] at ht;have NY:=z7 ht;clear ht hw;have HQ:=z7 hq;obtain⟨bf,rfl,_,_⟩:=hq;go_wp2;exact⟨rfl,by rw[NY.out];exact HQ.out,AO⟩
 ·rw[if_neg hw] at hq;have ht:=HTW.out;rw[Ji hw] at ht;have oF:=z7 ht;clear ht hw;have HQ:=z7 hq;obtain⟨bf,rfl,_,_⟩:=hq;go_wp2;exact⟨rfl,by rw[oF.out];exact HQ.out,ze0⟩
end Go.Proofs.YthpldolmpinnhaaGreatDoor
