import Derived.Test.YthpldolmpinnhaaGreatDoorJP10
import Derived.Deep.DeepCutAuto
set_option maxHeartbeats 64000000
open Go.Lib renaming hid→z7
open Nat renaming le_refl→z8
open Go.RowKit.Below renaming refl→zy
open Go.World renaming frozen?_setCell→zx,block_lt_of_cell?→zv,frozen?_of_block→zu
open Go.Proofs.Tryz
namespace Go.Proofs.YthpldolmpinnhaaGreatDoor
open Go Go.RowKit
set_option maxRecDepth 10000
theorem UA{β:Type}{rs:List Int}{r:Int}{i:Nat}{F:Unit->Nat->kX β}(h:xX rs i=r):(vS rs r i).then F=F () (i+1):=by unfold vS;rw[if_pos h];rfl
theorem JH{β:Type}{rs:List Int}{r:Int}{i:Nat}{F:Unit->Nat->kX β}(h:¬xX rs i=r):(vS rs r i).then F = .error (3,i):=by unfold vS;rw[if_neg h];rfl
theorem Av{β:Type}{rs:List Int}{i:Nat}{F:Wd->Nat->kX β}(h:¬qv rs i=0):(kz rs i).then F=F (qi rs i (qv rs i)) (i+qv rs i):=by unfold kz;rw[if_neg h];rfl
theorem Au{β:Type}{rs:List Int}{i:Nat}{F:Wd->Nat->kX β}(h:qv rs i=0):(kz rs i).then F = .error (3,i):=by unfold kz;rw[if_pos h];rfl
theorem Pd{β:Type}{rs:List Int}{i:Nat}{F:Wd->Nat->kX β}(h:¬qo rs i=0):(jS rs i).then F=F (qi rs i (qo rs i)) (i+qo rs i):=by unfold jS;rw[if_neg h];rfl
theorem Pb{β:Type}{rs:List Int}{i:Nat}{F:Wd->Nat->kX β}(h:qo rs i=0):(jS rs i).then F = .error (3,i):=by unfold jS;rw[if_pos h];rfl
theorem Hu{rs:List Int}{f i:Nat}(h:¬(f≠0/\Dv rs i=true)):Qr rs f i = .ok ([48],i):=by unfold Qr;rw[if_neg h]
theorem Aq{rs:List Int}{f i:Nat}(h:f≠0/\Dv rs i=true):Qr rs f i=(kz rs (xP rs (i+7))).then fun o j => .ok (o,xP rs j):=by unfold Qr;rw[if_pos h]
theorem then_assoc{α β γ:Type}(x:kX α)(f:α->Nat->kX β)(g:β->Nat->kX γ):(x.then f).then g=x.then fun a i=>(f a i).then g:=by
 cases x with
 | error e=>rfl
 | ok a=>rfl
def za8(p:Nat)(rs:List Int)(d:Nat)(r:kX Fo)(w:World)(e:Ending)(w':World):Prop :=
 (match r with
  | .error (n,a)=>Qn p n a e w'
  | .ok (f,j)=>(∃ v,e = .returned v/\xV w.heap.size w'.heap.size w' [v] f)/\f.len=1/\f.vD=true/\vJ p rs j d w')/\xl p w w'
theorem Gu{m:Wd}{n:Nat}(h:VE m=some n):n<3:=by
 unfold VE at h;split at h
 ·cases h;decide
 split at h
 ·cases h;decide
 split at h
 ·cases h;decide
 ·cases h
structure Df(B:Nat)(v0 v1 v2 v3 v4 v5:Value)(w:World):Prop where
 c0:w.cell? ⟨B,0,none⟩=some v0
 c1:w.cell? ⟨B,1,none⟩=some v1
 c2:w.cell? ⟨B,2,none⟩=some v2
 c3:w.cell? ⟨B,3,none⟩=some v3
 c4:w.cell? ⟨B,4,none⟩=some v4
 c5:w.cell? ⟨B,5,none⟩=some v5
 z:∀ j,w.frozen? ⟨B,j,none⟩=false
theorem Df.but{B p:Nat}{v0 v1 v2 v3 v4 v5:Value}{w w':World}(h:Df B v0 v1 v2 v3 v4 v5 w)(hb:xl p w w')(xw:B≠p):Df B v0 v1 v2 v3 v4 v5 w' :=
 ⟨hb.cell h.c0 xw,hb.cell h.c1 xw,hb.cell h.c2 xw,hb.cell h.c3 xw,hb.cell h.c4 xw,hb.cell h.c5 xw,fun j=>(zu (a:=⟨B,j,none⟩) (hb.block B (zv w _ h.c0) xw)).trans (h.z j)⟩
theorem Df.yud{B:Nat}{v0 v1 v2 v3 v4 v5 u:Value}{w:World}(h:Df B v0 v1 v2 v3 v4 v5 w):Df B v0 v1 v2 u v4 v5 (w.setCell ⟨B,3,none⟩ u):=by
 refine⟨?_,?_,?_,?_,?_,?_,fun j=>by rw[zx];exact h.z j⟩<;>rw[xd];all_goals first|(rw[if_neg (by simp)];first|exact h.c0|exact h.c1|exact h.c2|exact h.c4|exact h.c5)|(rw[if_pos rfl,h.c3];rfl)
theorem Df.za9{B:Nat}{v0 v1 v2 v3 v4 v5 u:Value}{w:World}(h:Df B v0 v1 v2 v3 v4 v5 w):Df B v0 v1 v2 v3 u v5 (w.setCell ⟨B,4,none⟩ u):=by
 refine⟨?_,?_,?_,?_,?_,?_,fun j=>by rw[zx];exact h.z j⟩<;>rw[xd];all_goals first|(rw[if_neg (by simp)];first|exact h.c0|exact h.c1|exact h.c2|exact h.c3|exact h.c5)|(rw[if_pos rfl,h.c4];rfl)
theorem Df.yub{B:Nat}{v0 v1 v2 v3 v4 v5 u:Value}{w:World}(h:Df B v0 v1 v2 v3 v4 v5 w):Df B v0 v1 v2 v3 v4 u (w.setCell ⟨B,5,none⟩ u):=by
 refine⟨?_,?_,?_,?_,?_,?_,fun j=>by rw[zx];exact h.z j⟩<;>rw[xd];all_goals first|(rw[if_neg (by simp)];first|exact h.c0|exact h.c1|exact h.c2|exact h.c3|exact h.c4)|(rw[if_pos rfl,h.c5];rfl)
theorem Df.lt{B:Nat}{v0 v1 v2 v3 v4 v5:Value}{w:World}(h:Df B v0 v1 v2 v3 v4 v5 w):B<w.heap.size:=zv w _ h.c0
theorem Df.grown{B:Nat}{v0 v1 v2 v3 v4 v5:Value}{w w':World}{row:Option Nat}(h:Df B v0 v1 v2 v3 v4 v5 w)(hg:w.grownBy w' row)(xw:some B≠row):Df B v0 v1 v2 v3 v4 v5 w' :=
 ⟨hg.cell h.c0 xw,hg.cell h.c1 xw,hg.cell h.c2 xw,hg.cell h.c3 xw,hg.cell h.c4 xw,hg.cell h.c5 xw,fun j=>(zu (a:=⟨B,j,none⟩) (hg.block B h.lt xw)).trans (h.z j)⟩
structure Gq(B:Nat)(v0 v1:Value)(w:World):Prop where
 c0:w.cell? ⟨B,0,none⟩=some v0
 c1:w.cell? ⟨B,1,none⟩=some v1
 z:∀ j,w.frozen? ⟨B,j,none⟩=false
theorem Gq.but{B p:Nat}{v0 v1:Value}{w w':World}(h:Gq B v0 v1 w)(hb:xl p w w')(xw:B≠p):Gq B v0 v1 w' :=
 ⟨hb.cell h.c0 xw,hb.cell h.c1 xw,fun j=>(zu (a:=⟨B,j,none⟩) (hb.block B (zv w _ h.c0) xw)).trans (h.z j)⟩
theorem Gq.Yw{B:Nat}{v0 v1 u:Value}{w:World}(h:Gq B v0 v1 w):Gq B u v1 (w.setCell ⟨B,0,none⟩ u) :=
 ⟨by rw[xd,if_pos rfl,h.c0];rfl,by rw[xd,if_neg (by simp)];exact h.c1,fun j=>by rw[zx];exact h.z j⟩
theorem Ua(p:Nat)(rs:List Int)(i d:Nat)(msg:Option ky)(w:World)(h:vJ p rs i d w)(he:KS p w)(hd:msg=none ↔ d=6)(hm:∀ m,msg=some m->mr p rs d m)(Ak:∀ m,msg=some m->Gv m) :
  Calls prog 157 #[.pointer (some ⟨p,0,none⟩)] w (za8 p rs d (ZY rs msg i) w):=by
 have HH:=z7 h;have G9:=z7 he;have hu:=z7 Ak;have M8:=z7 (fun num j W hs hE=>MO p rs j d num msg W hs hE hd hm);have Qp:=h.lt;have h5:=h.at_;obtain⟨R,hR⟩:∃ R,ZY rs msg i=R:=⟨_,rfl⟩;rw[hR];unfold ZY at hR;have HTW:=z7 hR.symm;clear h he hd hm hR Ak;go_enter func157,ntmps157;go_wp2_with fail;refine vz ?_;intro W hW;have gP:Below w.heap.size w W:=by rw[hW];exact(zy _ _).alloc (z8 _) _
 have MP:Gq w.heap.size (.string ⟨#[]⟩) (.int .i64 i) W:=by
  rw[hW];exact⟨xq _ _ _ _ _,xq _ _ _ _ _,fun j=>by go_simp⟩
 clear hW h5;obtain⟨B,hB⟩:∃ B,w.heap.size=B:=⟨_,rfl⟩;rw[hB] at MP ⊢;have HB:=z7 hB;have M5:p<B:=by omega
 have n7:=z7 MP;have Cv:=z7 (HH.out.below gP);have gP:=xl.of (p:=p) gP;clear hB MP;refine(jf p rs i d 123 W Cv.out (by decide)).mono ?_;rintro e x1 ⟨hq,zy2⟩;have zay:=gP.trans zy2;have yq0:=z7 (n7.out.but zy2 (by omega));by_cases hw:xX rs i=123
 ·rw[if_pos hw] at hq;obtain⟨rfl,hs⟩:=hq;have ht:=HTW.out;rw[UA hw] at ht;have nu:=z7 ht;have zax:=z7 hs;clear ht hs hw zy2 HTW Cv;go_wp2_with fail;refine(qg p rs (i+1) d x1 zax.out).mono ?_;rintro e x2 ⟨rfl,hs,zy3⟩;have yq1:=zay.trans zy3;have yq2:=z7 (yq0.out.but zy3 (by omega));obtain⟨J1,hJ⟩:∃ J,xP rs (i+1)=J:=⟨_,rfl⟩;have xzy:i+1<=J1:=by rw[←hJ];exact xc rs _
  have ht:=nu.out;rw[hJ] at ht hs;have zy4:=z7 ht;have zav:=z7 hs;clear ht hs hJ zy3 nu zax;go_wp2_with fail;refine(UN p rs J1 d x2 zav.out).mono ?_;rintro e x3 ⟨hq,zy5⟩;have zau:=yq1.trans zy5;have nj:=z7 (yq2.out.but zy5 (by omega));by_cases hn:qo rs J1=0
  ·rw[if_pos hn] at hq;have ht:=zy4.out;rw[Pb hn] at ht;have ng:=z7 ht;clear ht hn;have HQ:=z7 hq;obtain⟨bf,rfl,_,_⟩:=hq;go_wp2;exact⟨rfl,by rw[ng.out];exact HQ.out,zau⟩
  ·rw[if_neg hn] at hq;obtain⟨rfl,hs⟩:=hq;have ht:=zy4.out;rw[Pd hn] at ht;obtain⟨K,hK⟩:∃ K,qi rs J1 (qo rs J1)=K:=⟨_,rfl⟩;obtain⟨J2,hJ⟩:∃ J,J1+qo rs J1=J:=⟨_,rfl⟩;rw[hJ,hK] at ht;rw[hJ] at hs;rw[hK];have hlK:K.length<=4000000:=by
    have:=bS rs J1 (qo rs J1);have:=HH.out.len;rw[←hK];omega
   have ng:=z7 ht;have yq3:=z7 hs;clear ht hs hK hJ hn zy5 zy4 zav;have zz:=nj.out.z 0;have z0:=nj.out.c0;have z1:=nj.out.c1;have zy6:=z7 (yq3.out.own M5 0 (xf K));have zaq:=z7 (nj.out.Yw (u:=xf K));have zak:xl p w (x3.setCell ⟨B,0,none⟩ (xf K)):=zau.own (by have:=HB.out;omega) 0 _;have zaj:=ng;obtain⟨x4,hX⟩:∃ X,x3.setCell ⟨B,0,none⟩ (xf K)=X:=⟨_,rfl⟩;rw[hX] at zy6 zaq zak;have HX:=z7 hX;clear hX ng;go_wp2_with fail;rw[HX.out];clear zz z0 z1;refine(qg p rs (J2) d x4 zy6.out).mono ?_;rintro e x5 ⟨rfl,hs,zy7⟩;have yq4:=zak.trans zy7;have yq5:=z7 (zaq.out.but zy7 (by omega));obtain⟨J3,hJ⟩:∃ J,xP rs (J2)=J:=⟨_,rfl⟩;have xzx:J2<=J3:=by rw[←hJ];exact xc rs _
   have ht:=zaj.out;rw[hJ] at ht hs;have nZ:=z7 ht;have zy8:=z7 hs;clear ht hs hJ zy7 zaj zy6;go_wp2_with fail;refine(Xg p rs J3 d 44 x5 zy8.out (by decide)).mono ?_;rintro e x6 ⟨rfl,hs,sP⟩;have zag:=yq4.trans sP;have zaf:=z7 (yq5.out.but sP (by omega));by_cases sR:xX rs J3=44
   ·rw[if_pos sR] at hs;rw[show(xX rs J3==44)=true from by rw[sR];rfl];have Aj:=z7 hs;have ht:=nZ.out;rw[if_neg (fun e=>e sR)] at ht;have Rr:=z7 ht;clear ht hs sR sP nZ zy8;go_wp2_with fail;refine(qg p rs (J3+1) d x6 Aj.out).mono ?_;rintro e x7 ⟨rfl,hs,MS⟩;have Ag:=zag.trans MS;have nY:=z7 (zaf.out.but MS (by omega));obtain⟨J4,hJ⟩:∃ J,xP rs (J3+1)=J:=⟨_,rfl⟩;have xzv:J3+1<=J4:=by rw[←hJ];exact xc rs _
    have ht:=Rr.out;rw[hJ] at ht hs;have MT:=z7 ht;have Af:=z7 hs;clear ht hs hJ MS Rr Aj;have g7:=Af.out.at_;go_wp2_with fail;refine(UN p rs J4 d x7 Af.out).mono ?_;rintro e x8 ⟨hq,zy9⟩;have zad:=Ag.trans zy9;have yq6:=z7 (nY.out.but zy9 (by omega));by_cases hn:qo rs J4=0
    ·rw[if_pos hn] at hq;have ht:=MT.out;rw[Pb hn] at ht;have nX:=z7 ht;clear ht hn;have HQ:=z7 hq;obtain⟨bf,rfl,_,_⟩:=hq;go_wp2;exact⟨rfl,by rw[nX.out];exact HQ.out,zad⟩
    ·rw[if_neg hn] at hq;obtain⟨rfl,hs⟩:=hq;have ht:=MT.out;rw[Pd hn] at ht;obtain⟨K2,hK⟩:∃ K,qi rs J4 (qo rs J4)=K:=⟨_,rfl⟩;obtain⟨J5,hJ⟩:∃ J,J4+qo rs J4=J:=⟨_,rfl⟩;rw[hJ,hK] at ht;rw[hJ] at hs;rw[hK];have xzu:K2.length<=4000000:=by
      have:=bS rs J4 (qo rs J4);have:=HH.out.len;rw[←hK];omega
     have nX:=z7 ht;have zab:=z7 hs;clear ht hs hK hJ hn zy9 MT Af;clear g7;go_wp2_with fail;refine(qg p rs (J5) d x8 zab.out).mono ?_;rintro e x9 ⟨rfl,hs,zyz⟩;have zc0:=zad.trans zyz;have zc1:=z7 (yq6.out.but zyz (by omega));obtain⟨J6,hJ⟩:∃ J,xP rs (J5)=J:=⟨_,rfl⟩;have xzq:J5<=J6:=by rw[←hJ];exact xc rs _
     have ht:=nX.out;rw[hJ] at ht hs;have Cu:=z7 ht;have nU:=z7 hs;clear ht hs hJ zyz nX zab;by_cases hk:(K2==[110,117,109,98,101,114])=true
     ·have ht:=Cu.out;rw[if_pos (show K2=zzd from eq_of_beq hk)] at ht;have HT9:=Cu;clear Cu;have Cu:=z7 ht;clear ht HT9;go_wp2_with fail;clear hk;refine(jf p rs J6 d 125 x9 nU.out (by decide)).mono ?_;rintro e Ad ⟨hq,Ab⟩;have Gk:=zc0.trans Ab;have Dp:=z7 (zc1.out.but Ab (by omega));by_cases hw:xX rs J6=125
      ·rw[if_pos hw] at hq;obtain⟨rfl,hs⟩:=hq;have ht:=Cu.out;rw[UA hw] at ht;have Hq:=z7 ht;have Hk:=z7 hs;clear ht hs hw Ab Cu nU;have k0:=Dp.out.c0;have k1:=Dp.out.c1;have hX:=Gk.size;go_wp2;rw[Hq.out];have qd:=fun o=>(zy Ad.heap.size Ad).alloc (z8 _) o
       refine bodyPost_ret (v := .iface 175 (.pointer (some ⟨Ad.heap.size,0,none⟩))) ?_ rfl ?_
       ·simp[results,results157,go_sem]
       exact⟨⟨⟨_,rfl,[],Ad.heap.size,rfl,hX,by simp,xq _ _ _ _ _,xq _ _ _ _ _,rfl⟩,rfl,rfl,Hk.out.below (qd _)⟩,Gk.below (qd _)⟩
      ·rw[if_neg hw] at hq;have ht:=Cu.out;rw[JH hw] at ht;have Hq:=z7 ht;clear ht hw;have HQ:=z7 hq;obtain⟨bf,rfl,_,_⟩:=hq;go_wp2;exact⟨rfl,by rw[Hq.out];exact HQ.out,Gk⟩
     ·have QI:(K2==[110,117,109,98,101,114])=false:=by simpa using hk
      have ht:=Cu.out;rw[if_neg (show ¬K2=zzd from fun e=>hk (beq_iff_eq.2 e))] at ht;have HTf:=z7 ht;clear ht hk Cu;go_wp2_with fail;clear QI;refine(Ro x9).mono ?_;rintro e Ad ⟨⟨bm,rfl,hF⟩,nQ⟩;have Gk:=zc0.below nQ;have Dp:=z7 (zc1.out.but (xl.of (p:=p) nQ) (by omega));have Hk:=z7 (nU.out.below nQ);have HF:=z7 hF;have Hj:=hF.look K2 (by omega);clear nQ hF nU;obtain⟨fo,KA⟩:∃ fo,VE K2=fo:=⟨_,rfl⟩;rw[KA] at Hj;have ht:=HTf.out;rw[KA] at ht;have HTg:=z7 ht;clear ht HTf;have HFO:=z7 KA;clear KA
      cases fo with
      | none =>
       have Hq:=z7 (show R = .error (3,J4) from HTg.out);clear HTg;simp only[Option.getD_none,Option.isSome_none] at Hj;go_wp2_with fail;refine(dU p 3 J4 Ad Hk.out.KO).mono ?_;rintro e x11 ⟨hf,yq7⟩;have dI:=z7 hf;obtain⟨bf,rfl,_,_⟩:=hf;go_wp2;exact⟨rfl,by rw[Hq.out];exact dI.out,Gk.below yq7⟩
      | some form =>
       simp only[Option.getD_some,Option.isSome_some] at Hj;have gY:form<3:=Gu HFO.out;have ht:=HTg.out;have HTY:=z7 ht;clear HTg ht;have k0:=Dp.out.c0;have k1:=Dp.out.c1;go_wp2_with fail;refine vz ?_;intro Y hY;have hbY:Below Ad.heap.size Ad Y:=by rw[hY];exact(zy _ _).alloc (z8 _) _
       have MP:Df Ad.heap.size (xf K) (.int .i64 i) (.int .i64 form) (.int .i64 0) (.slice none 0 0) (.int .i64 0) Y:=by
        rw[hY];exact⟨xq _ _ _ _ _,xq _ _ _ _ _,xq _ _ _ _ _,xq _ _ _ _ _,xq _ _ _ _ _,xq _ _ _ _ _,fun j=>by go_simp⟩
       have hwx:w.heap.size<=Ad.heap.size:=Gk.size;have HSY:=z7 (Hk.out.below hbY);have hbY:=Gk.below hbY;obtain⟨C,hC⟩:∃ C,Ad.heap.size=C:=⟨_,rfl⟩;rw[hC] at MP hwx ⊢;have hwC:=hwx;clear hY k0 k1 Hj Hk hC Dp HF hwx;have HLY:=z7 MP;have hpC:p<C:=by omega
       clear MP;refine(jf p rs J6 d 44 Y HSY.out (by decide)).mono ?_;rintro e y1 ⟨hq,zyy⟩;have zc4:=hbY.trans zyy;have yq9:=z7 (HLY.out.but zyy (by omega));by_cases hw:xX rs J6=44
       ·rw[if_pos hw] at hq;obtain⟨rfl,hs⟩:=hq;have ht:=HTY.out;rw[UA hw] at ht;have nK:=z7 ht;have zc5:=z7 hs;clear ht hs hw zyy HTY HSY;go_wp2_with fail;refine(qg p rs (J6+1) d y1 zc5.out).mono ?_;rintro e y2 ⟨rfl,hs,Wh⟩;have zyx:=zc4.trans Wh;have zyv:=z7 (yq9.out.but Wh (by omega));obtain⟨J7,hJ⟩:∃ J,xP rs (J6+1)=J:=⟨_,rfl⟩;have xzg:J6+1<=J7:=by rw[←hJ];exact xc rs _
        have ht:=nK.out;rw[hJ] at ht hs;have zc6:=z7 ht;have AZ:=z7 hs;clear ht hs hJ Wh nK zc5;obtain⟨FF,hFF⟩:∃ FF:Wd->Nat->kX Fo,FF=fun o l=>(kQ rs msg (decide (form≠0)) (rs.length+1) .nil l).then fun bs q=>(vS rs 125 q).then fun _ z => .ok (.br K i form o q bs .nil,z):=⟨_,rfl⟩
        have HFF:=z7 hFF;have HTF:=z7 (show R=(Qr rs form J7).then FF by rw[hFF];exact zc6.out);clear hFF zc6;go_upto_region 23 with fail
        go_cut [76] (fun s wc=>∃ b l,s = .bool b/\vJ p rs l d wc/\xl p w wc/\Df C (xf K) (.int .i64 i) (.int .i64 form) (.int .i64 0) (.slice none 0 0) (.int .i64 0) wc/\J7<=l/\(b=true->R=((kz rs (xP rs l)).then fun o j=>(.ok (o,xP rs j):kX Wd)).then FF)/\(b=false->R=FF [48] l))
        case first =>
         by_cases h0:form=0
         ·subst h0;have ht:=HTF.out;rw[Hu (fun e=>e.1 rfl),then_ok] at ht;have Dr:=z7 ht;clear ht HTF;go_wp2_with fail;go_meet
          case rel=>exact⟨false,J7,rfl,AZ.out,zyx,zyv.out,z8 _,(fun e=>by cases e),fun _=>Dr.out⟩
         ·have WX:((form:Int)==0)=false:=by simp;omega
          have uZ:((form:Int) !=0)=true:=by simp;omega
          have HF0:=z7 h0;clear h0;go_wp2_with fail;refine(Eh p rs J7 d y2 AZ.out).mono ?_;rintro e y3 ⟨rfl,hs,hx⟩;have zc8:=zyx.trans hx;have zc9:=z7 (zyv.out.but hx (by omega));by_cases ho:Dv rs J7=true
          ·rw[if_pos ho] at hs;rw[ho];have ht:=HTF.out;rw[Aq ⟨HF0.out,ho⟩] at ht;have zyq:=z7 ht;have zyk:=z7 hs;clear ht hs hx ho HTF AZ;go_wp2_with fail;go_meet
           case rel=>exact⟨true,J7+7,rfl,zyk.out,zc8,zc9.out,Nat.le_add_right _ _,(fun _=>zyq.out),(fun e=>by cases e)⟩
          ·rw[if_neg ho] at hs;rw[show Dv rs J7=false from by simpa using ho];have ht:=HTF.out;rw[Hu (fun e=>ho e.2),then_ok] at ht;have zyq:=z7 ht;have zyk:=z7 hs;clear ht hs hx ho HTF AZ;go_wp2_with fail;go_meet
           case rel=>exact⟨false,J7,rfl,zyk.out,zc8,zc9.out,z8 _,(fun e=>by cases e),fun _=>zyq.out⟩
        case rest =>
         obtain⟨b,l,rfl,hs,Dd,hl,hJl,ht1,PZ⟩:=hcut;have HSc:=z7 hs;have HLc:=z7 hl;have UK:=z7 ht1;have WZ:=z7 PZ;clear hs hl ht1 PZ AZ zyv HTF zyx;go_upto_if 76 with fail
         go_cut [] (fun wc=>∃ l ov O,xL O=ov/\vJ p rs l d wc/\xl p w wc/\Df C (xf K) (.int .i64 i) (.int .i64 form) (.int .i64 ov) (.slice none 0 0) (.int .i64 0) wc/\J7<=l/\R=FF O l)
         case first =>
          cases b with
          | false =>
           have HTc:=z7 (WZ.out rfl);clear WZ UK;go_wp2_with fail;go_meet
           case rel=>exact⟨l,0,[48],rfl,HSc.out,Dd,HLc.out,hJl,HTc.out⟩
          | true =>
           have HTc:=z7 (UK.out rfl);have yqy:=Dd;have zcz:=HSc;have yqx:=HLc;have zcy:=HTc;clear Dd HSc HLc HTc UK WZ;go_wp2_with fail;refine(qg p rs (l) d wc zcz.out).mono ?_;rintro e y4 ⟨rfl,hs,zyj⟩;have yqv:=yqy.trans zyj;have yqu:=z7 (yqx.out.but zyj (by omega));obtain⟨J8,hJ⟩:∃ J,xP rs (l)=J:=⟨_,rfl⟩;have xzd:l<=J8:=by rw[←hJ];exact xc rs _
           have ht:=zcy.out;rw[hJ] at ht hs;have zyg:=z7 ht;have zcx:=z7 hs;clear ht hs hJ zyj zcy zcz;go_wp2_with fail;refine(Di p rs J8 d y4 zcx.out).mono ?_;rintro e y5 ⟨hq,hx⟩;have zcv:=yqv.trans hx;have yqq:=z7 (yqu.out.but hx (by omega));by_cases hn:qv rs J8=0
           ·rw[if_pos hn] at hq;have ht:=zyg.out;rw[then_assoc,Au hn] at ht;have nJ:=z7 ht;clear ht hn;have HQ:=z7 hq;obtain⟨bf,rfl,_,_⟩:=hq;go_wp2;exact⟨rfl,by rw[nJ.out];exact HQ.out,zcv⟩
           ·rw[if_neg hn] at hq;obtain⟨rfl,hs⟩:=hq;have ht:=zyg.out;rw[then_assoc,Av hn] at ht;simp only[then_ok] at ht;obtain⟨w1,w2,w3⟩:=KT rs J8 hn;obtain⟨O,hO⟩:∃ K,qi rs J8 (qv rs J8)=K:=⟨_,rfl⟩;obtain⟨J9,hJ⟩:∃ J,J8+qv rs J8=J:=⟨_,rfl⟩;have xzb:J8<=J9:=by omega
            rw[hJ,hO] at ht;rw[hJ] at hs;rw[hO] at w1 w2 w3 ⊢;have nJ:=z7 ht;have zcu:=z7 hs;have QL:=z7 (fun W=>Pk O W w1 w2 w3);clear ht hs hO hJ hn hx zyg zcx w1 w2 w3;go_wp2_with fail;refine(QL.out y5).mono ?_;rintro e y6 ⟨rfl,hx⟩;have yqk:=zcv.below hx;have zyf:=z7 (yqq.out.but (xl.of (p:=p) hx) (by omega));have yqj:=z7 (zcu.out.below hx);obtain⟨ov,PY⟩:∃ v,xL O=v:=⟨_,rfl⟩;rw[PY];have HOV:=z7 PY;have q3:=zyf.out.c3;have z3:=zyf.out.z 3;have zyd:=z7 (yqj.out.own hpC 3 (.int .i64 ov));have zck:=z7 (zyf.out.yud (u := .int .i64 ov));have zcj:xl p w (y6.setCell ⟨C,3,none⟩ (.int .i64 ov)):=yqk.own hwC 3 _;have zcg:=nJ;obtain⟨y7,hX⟩:∃ X,y6.setCell ⟨C,3,none⟩ (.int .i64 ov)=X:=⟨_,rfl⟩;rw[hX] at zyd zck zcj;have HX:=z7 hX;clear hX nJ PY hx zcu;go_wp2_with fail;rw[HX.out];clear q3 z3;refine(qg p rs (J9) d y7 zyd.out).mono ?_;rintro e y8 ⟨rfl,hs,zyb⟩;have yqg:=zcj.trans zyb;have yqf:=z7 (zck.out.but zyb (by omega));obtain⟨J10,hJ⟩:∃ J,xP rs (J9)=J:=⟨_,rfl⟩;have yl0:J9<=J10:=by rw[←hJ];exact xc rs _
            have ht:=zcg.out;rw[hJ] at ht hs;have yqd:=z7 ht;have yqb:=z7 hs;clear ht hs hJ zyb zcg zyd;go_wp2_with fail;go_meet
            case rel=>exact⟨J10,ov,O,HOV.out,yqb.out,yqg,yqf.out,by omega,yqd.out⟩
         case rest =>
          obtain⟨l2,ov,O,PY,hs,hbz,hl,xy0,ht⟩:=hcut;have HOV:=z7 PY;have HSz:=z7 hs;have HLz:=z7 hl;have HTz:=z7 (show R=(kQ rs msg (decide (form≠0)) (rs.length+1) .nil l2).then fun bs q=>(vS rs 125 q).then fun _ z => .ok (.br K i form O q bs .nil,z) by rw[ht,HFF.out]);obtain⟨NB,hNB⟩:∃ b,decide (form≠0)=b:=⟨_,rfl⟩;have M9:=z7 hNB;have zcf:=z7 (show((form:Int) !=0)=NB from by rw[←hNB];by_cases h:form=0<;>simp[h]);clear PY hs hl ht Dd HSc HLc UK WZ HFF hNB;go_wp2_with fail;obtain⟨G,hG,hGe⟩:∃ G:Fo->Nat->kX Fo,R=(kQ rs msg NB (rs.length+1) .nil l2).then G/\∀ bs q,xX rs q=125->G bs q = .ok (.br K i form O q bs .nil,q+1):=⟨_,(show decide (form≠0)=NB from M9.out)▸HTz.out,fun bs q h=>UA h⟩;have HGE:=z7 hGe;clear hGe;have HG:=z7 hG;have Dz:1<=l2:=by omega
          clear hG HTz;go_loopw [] (fun wr=>∃ acc j n v ws,vJ p rs j d wr/\xl p w wr/\Df C (xf K) (.int .i64 i) (.int .i64 (form:Nat)) (.int .i64 ov) v (.int .i64 0) wr/\kx (C+1) 183 3 v acc ws wr/\acc.ub=true/\R=(kQ rs msg NB n acc j).then G/\rs.length+2<=n+j/\acc.len<=j) (fun wr=>rs.length+2 - MK p wr)
          case atStart=>exact⟨.nil,l2,rs.length+1,_,[],HSz.out,hbz,HLz.out,kx.start _ _ _ _,rfl,HG.out,by omega,Nat.zero_le _⟩
          case round =>
           obtain⟨acc,j,n,v,ws,hs,fg,YZ,Xy,sS,hR,hfu,sT⟩:=hrel;obtain⟨ga,gc,hv,_⟩:=Xy.row;subst hv;have MW:=z7 hs;have yk1:=z7 YZ;have HGR:=z7 Xy;have gI:=z7 hR;have HLG:=z7 sS;have nG:=z7 (show acc.len<=j/\j<=rs.length+1 from⟨sT,hs.here⟩);have hCC:=YZ.lt;clear hs YZ Xy hR sS sT;go_wp2_with fail;refine(jP p rs j d wr MW.out).mono ?_;rintro e w1 ⟨rfl,xH⟩;have mZ:=z7 (yk1.out.but (xl.of (p:=p) xH) (by omega));have q4:=mZ.out.c4;have gM:=z7 (MW.out.below xH);have ZJ:=fg.below xH;by_cases Cq:xX rs j=125
           ·rw[Cq];by_cases ha0:acc.len=0
            ·have yk2:((acc.len:Int)==0)=true:=by simp[ha0]
             have HA0:=z7 ha0;clear ha0 Cq;obtain⟨n',D3⟩:∃ n',n=n'+1:=⟨n - 1,by have:=gM.out.here;omega⟩;have ht:=gI.out;rw[D3,kQ,if_neg (fun e=>e.2 HA0.out),then_assoc] at ht;obtain⟨r,hr⟩:∃ r,ZZ rs msg NB j=r:=⟨_,rfl⟩;rw[hr] at ht;have qC:=z7 (fun W hs hE=>(hr▸M8.out NB j W hs hE:Calls prog 204 #[.pointer (some ⟨p,0,none⟩),.bool NB] W (zzb p rs d r W)));have UK:=z7 ht;have Mz:=z7 (fun f q (e:r = .ok (f,q))=>Cz hu.out (hr.trans e));have jT:=z7 (HGR.out.but (xl.of (p:=p) xH) (by omega));have AY:=z7 (G9.out.but ZJ);have Rc:=xH.size;have hN:=z7 D3;clear ht hr D3;go_wp2_with fail;refine rk (fun W':World=>W'.cell? ⟨C,4,none⟩=some (.slice ga acc.len gc)) 13 [0,1,2,3,4,5,6,7] 6 mZ.out.c4 ?_;(iterate 8 ((first|refine ty ?_|refine tn ?_);try simp only[pl]))
             refine xk ?_;refine xM 8 (by kernel_rfl) rfl (fun K hK=>?_);go_simp;rw[zcf.out];refine(qC.out w1.drew (gM.out.below (zy _ _).drew) (AY.out.but (xl.refl _ _).drew)).mono ?_;rintro e w2 ⟨hq,q9⟩;have q9:xl p w1 w2:=(xl.refl p w1).drew.trans q9;have Zw:=ZJ.trans q9
             cases r with
             | error en =>
              obtain⟨mq,mg⟩:=en;have HQ:=z7 hq;obtain⟨bf,rfl,_,_⟩:=hq;have HTE:=z7 (show R = .error (mq,mg) from UK.out);go_wp2;exact⟨rfl,by rw[HTE.out];exact HQ.out,Zw⟩
             | ok fq =>
              obtain⟨f,q⟩:=fq;obtain⟨⟨k,pl,m,ma,mc,hf,rfl,M4,vs,vL,kO⟩,qU⟩:=hq;have qB:=z7 vL;have YG:=z7 kO;have di:=z7 qU;have Qt:=z7 (mZ.out.but q9 (by omega));have YD:=z7 (jT.out.but q9 (by omega));have Zb:=z7 (show R=(kQ rs msg NB n' (acc.app f) q).then G from UK.out);have hjq:=Mz.out f q rfl;have HF:=z7 hf;have HMM:=z7 M4;have Es:=qU.here;have hwx:=q9.size;have q4':=Qt.out.c4;clear vL kO qU q9 hf Mz UK M4 qC;refine hK.out _ _ Qt.out.c4 (fun _=>?_);clear hK K;refine xM 9 (by kernel_rfl) rfl (fun K hK=>?_);go_simp;have q43:=(Qt.out.but (xl.of (p:=p) ((zy w2.heap.size w2).alloc (z8 _) (.cells #[xf k,.int .i64 pl,.slice ma m.len mc] 183))) (by omega)).c4;refine hK.out _ _ q43 (fun _=>?_);clear q43;clear hK K;have uP:Below w2.heap.size w2 (w2.alloc (.cells #[xf k,.int .i64 pl,.slice ma m.len mc] 183)):=(zy _ _).alloc (z8 _) _;have HC3:=z7 (fun i=>xq w2 #[xf k,.int .i64 pl,.slice ma m.len mc] 183 (0,0) i);obtain⟨w3,hw3⟩:∃ w3,w2.alloc (.cells #[xf k,.int .i64 pl,.slice ma m.len mc] 183)=w3:=⟨_,rfl⟩;rw[hw3] at uP HC3 ⊢;have MA:=z7 (Qt.out.but (xl.of (p:=p) uP) (by omega));have VC:=z7 (di.out.below uP);have Vo:=z7 (YD.out.but (xl.of (p:=p) uP) (by omega));have Vp:=Zw.below uP;have Gj:=uP.size;have Db:acc.len<=2000000:=by
               have:=nG.out;have:=HH.out.len;omega
              clear hw3;refine xM 10 (by kernel_rfl) rfl (fun K hK=>?_);rw[if_pos (by rfl)];refine Pg KW _ _ rfl (C+1) w1.heap.size _ acc f ws rfl Vo.out ⟨w2.heap.size,0,none⟩ 1 1 [xf k,.int .i64 pl,.slice ma m.len mc] rfl rfl ?c1 ?c2 ?c3 (by omega) ?c4 (by rw[HF.out];rfl) (by omega) (by omega) ?c5
              case c1 =>
               intro jj u hu;rw[ua,HC3.out];simpa using hu
              case c2 =>
               intro u hu;simp at hu;rcases hu with rfl|rfl|rfl<;>rfl
              case c3 =>
               rw[HF.out];have hk:vK w1.heap.size w2.heap.size w2 w3:=⟨uP.size,fun k _ hk=>uP.block k hk⟩;exact⟨[],ma,mc,vs,rfl,qB.out.keep hk (z8 _) uP.size,xV.keep hk (z8 _) uP.size _ _ YG.out,rfl⟩
              case c4 =>
               intro kk Uc;exact(jT.out.lt kk Uc).2
              case c5 =>
               intro v' w4 jk Xy;have Vr:=z7 jk;have Vb:=z7 (fun kk Uc=>(jT.out.lt kk Uc).1);have Ue:=z7 (MA.out.grown Xy (fun e=>by have:=Vb.out C e.symm;omega));have bR:=z7 (VC.out.grown Xy (fun q hq=>by have:=Vb.out q hq;omega));have Vs:=Vp.grown Xy (fun q hq=>by have:=Vb.out q hq;omega);have yk4:=Xy.size;obtain⟨ga',gc',AX,_⟩:=jk.row;subst AX;clear jk Xy;refine hK.out _ _ Ue.out.c4 (fun _=>?_);clear hK K;have q44:=Ue.out.c4;have z44:=Ue.out.z 4;refine kU [11,12] 1 rfl (by intro _ _ d _ _ h;cases d<;>exact h) (by kernel_rfl) (by kernel_rfl) Ue.out.c4 ?_;(iterate 2 ((first|refine ty ?_|refine tn ?_);try simp only[pl]))
               refine xk ?_;refine vu 13 (by kernel_rfl) (by kernel_rfl) rfl (fun K hK=>?_);go_simp;refine hK.out _ _ ?_;clear hK K;refine vq (by kernel_rfl) ?_ _;go_wp2;go_roundw
               case rel =>
                refine⟨acc.app f,q,n',_,_,bR.out.own hpC 4 _,Vs.own hwC 4 _,Ue.out.za9,Vr.out.but (xl.set C _ 4 _) (by omega),Fo.bT _ _ HLG.out (by rw[HF.out];rfl),Zb.out,by have:=hN.out;omega,?_⟩;rw[Fo.uK,show f.len=1 by rw[HF.out];rfl];have:=nG.out;omega
               case measure =>
                rw[vG (bR.out.own hpC 4 _),vG MW.out];omega
            ·have yk2:((acc.len:Int)==0)=false:=by simp[ha0]
             have u1:=gM.out.at_;have q5:=mZ.out.c5;have z5:=mZ.out.z 5;obtain⟨n',D3⟩:∃ n',n=n'+1:=⟨n - 1,by have:=gM.out.here;omega⟩;have ht:=gI.out;rw[D3,kQ,if_pos ⟨Cq,ha0⟩,then_ok] at ht;have UK:=z7 ht;have di:=z7 (gM.out.own hpC 5 (.int .i64 j));have Qt:=z7 (mZ.out.yub (u := .int .i64 j));have xB:xl p w (w1.setCell ⟨C,5,none⟩ (.int .i64 j)):=ZJ.own hwC 5 _;have ze4:=z7 ((HGR.out.but (xl.of (p:=p) xH) (by omega)).but (xl.set C w1 5 (.int .i64 j)) (by omega));obtain⟨y9,hX⟩:∃ X,w1.setCell ⟨C,5,none⟩ (.int .i64 j)=X:=⟨_,rfl⟩;rw[hX] at di Qt xB ze4;have HX9:=z7 hX;clear hX ht D3;go_wp2_with fail;rw[HX9.out];refine(jf p rs j d 125 y9 di.out (by decide)).mono ?_;rintro e y10 ⟨hq,hx⟩;rw[if_pos Cq] at hq;obtain⟨rfl,hs⟩:=hq;have HTZ:=z7 (UK.out.trans (HGE.out _ _ Cq));have dQ:=z7 hs;have hbz:=xB.trans hx;have HBZ:=z7 (Qt.out.but hx (by omega));have ze5:=z7 (ze4.out.but hx (by omega));have hCZ:=HBZ.out.lt;clear hs Cq;go_wp2;rw[HTZ.out];refine bodyPost_ret (v := .iface 177 (.pointer (some ⟨C,0,none⟩))) ?_ rfl ?_
             ·simp[results,results157,go_sem]
             obtain⟨ga2,gc2,PX,Ds⟩:=ze5.out.row
             cases PX;have Uc:vK (C+1) y10.heap.size y10 y10:=vg (z8 _);exact⟨⟨⟨_,rfl,[],C,_,_,ws,rfl,hwC,hCZ,HBZ.out.c0,HBZ.out.c1,HBZ.out.c2,(HOV.out ▸  HBZ.out.c3),HBZ.out.c4,HBZ.out.c5,Ds.keep Uc (by omega) (z8 _),xV.keep Uc (by omega) (z8 _) _ _ ze5.out.nodes,rfl⟩,rfl,rfl,dQ.out⟩,hbz⟩
           ·have yl5:(xX rs j==125)=false:=by simp[Cq]
            have yk6:=z7 Cq;clear Cq;obtain⟨n',D3⟩:∃ n',n=n'+1:=⟨n - 1,by have:=gM.out.here;omega⟩;have ht:=gI.out;rw[D3,kQ,if_neg (fun e=>yk6.out e.1),then_assoc] at ht;obtain⟨r,hr⟩:∃ r,ZZ rs msg NB j=r:=⟨_,rfl⟩;rw[hr] at ht;have qC:=z7 (fun W hs hE=>(hr▸M8.out NB j W hs hE:Calls prog 204 #[.pointer (some ⟨p,0,none⟩),.bool NB] W (zzb p rs d r W)));have UK:=z7 ht;have Mz:=z7 (fun f q (e:r = .ok (f,q))=>Cz hu.out (hr.trans e));have jT:=z7 (HGR.out.but (xl.of (p:=p) xH) (by omega));have AY:=z7 (G9.out.but ZJ);have Rc:=xH.size;have hN:=z7 D3;clear ht hr D3;go_wp2_with fail;refine rk (fun W':World=>W'.cell? ⟨C,4,none⟩=some (.slice ga acc.len gc)) 13 [0,1,2,3,4,5,6,7] 6 mZ.out.c4 ?_;(iterate 8 ((first|refine ty ?_|refine tn ?_);try simp only[pl]))
            refine xk ?_;refine xM 8 (by kernel_rfl) rfl (fun K hK=>?_);go_simp;rw[zcf.out];refine(qC.out w1.drew (gM.out.below (zy _ _).drew) (AY.out.but (xl.refl _ _).drew)).mono ?_;rintro e w2 ⟨hq,q9⟩;have q9:xl p w1 w2:=(xl.refl p w1).drew.trans q9;have Zw:=ZJ.trans q9
            cases r with
            | error en =>
             obtain⟨mq,mg⟩:=en;have HQ:=z7 hq;obtain⟨bf,rfl,_,_⟩:=hq;have HTE:=z7 (show R = .error (mq,mg) from UK.out);go_wp2;exact⟨rfl,by rw[HTE.out];exact HQ.out,Zw⟩
            | ok fq =>
             obtain⟨f,q⟩:=fq;obtain⟨⟨k,pl,m,ma,mc,hf,rfl,M4,vs,vL,kO⟩,qU⟩:=hq;have qB:=z7 vL;have YG:=z7 kO;have di:=z7 qU;have Qt:=z7 (mZ.out.but q9 (by omega));have YD:=z7 (jT.out.but q9 (by omega));have Zb:=z7 (show R=(kQ rs msg NB n' (acc.app f) q).then G from UK.out);have hjq:=Mz.out f q rfl;have HF:=z7 hf;have HMM:=z7 M4;have Es:=qU.here;have hwx:=q9.size;have q4':=Qt.out.c4;clear vL kO qU q9 hf Mz UK M4 qC;refine hK.out _ _ Qt.out.c4 (fun _=>?_);clear hK K;refine xM 9 (by kernel_rfl) rfl (fun K hK=>?_);go_simp;have q43:=(Qt.out.but (xl.of (p:=p) ((zy w2.heap.size w2).alloc (z8 _) (.cells #[xf k,.int .i64 pl,.slice ma m.len mc] 183))) (by omega)).c4;refine hK.out _ _ q43 (fun _=>?_);clear q43;clear hK K;have uP:Below w2.heap.size w2 (w2.alloc (.cells #[xf k,.int .i64 pl,.slice ma m.len mc] 183)):=(zy _ _).alloc (z8 _) _;have HC3:=z7 (fun i=>xq w2 #[xf k,.int .i64 pl,.slice ma m.len mc] 183 (0,0) i);obtain⟨w3,hw3⟩:∃ w3,w2.alloc (.cells #[xf k,.int .i64 pl,.slice ma m.len mc] 183)=w3:=⟨_,rfl⟩;rw[hw3] at uP HC3 ⊢;have MA:=z7 (Qt.out.but (xl.of (p:=p) uP) (by omega));have VC:=z7 (di.out.below uP);have Vo:=z7 (YD.out.but (xl.of (p:=p) uP) (by omega));have Vp:=Zw.below uP;have Gj:=uP.size;have Db:acc.len<=2000000:=by
              have:=nG.out;have:=HH.out.len;omega
             clear hw3;refine xM 10 (by kernel_rfl) rfl (fun K hK=>?_);rw[if_pos (by rfl)];refine Pg KW _ _ rfl (C+1) w1.heap.size _ acc f ws rfl Vo.out ⟨w2.heap.size,0,none⟩ 1 1 [xf k,.int .i64 pl,.slice ma m.len mc] rfl rfl ?c1 ?c2 ?c3 (by omega) ?c4 (by rw[HF.out];rfl) (by omega) (by omega) ?c5
             case c1 =>
              intro jj u hu;rw[ua,HC3.out];simpa using hu
             case c2 =>
              intro u hu;simp at hu;rcases hu with rfl|rfl|rfl<;>rfl
             case c3 =>
              rw[HF.out];have hk:vK w1.heap.size w2.heap.size w2 w3:=⟨uP.size,fun k _ hk=>uP.block k hk⟩;exact⟨[],ma,mc,vs,rfl,qB.out.keep hk (z8 _) uP.size,xV.keep hk (z8 _) uP.size _ _ YG.out,rfl⟩
             case c4 =>
              intro kk Uc;exact(jT.out.lt kk Uc).2
             case c5 =>
              intro v' w4 jk Xy;have Vr:=z7 jk;have Vb:=z7 (fun kk Uc=>(jT.out.lt kk Uc).1);have Ue:=z7 (MA.out.grown Xy (fun e=>by have:=Vb.out C e.symm;omega));have bR:=z7 (VC.out.grown Xy (fun q hq=>by have:=Vb.out q hq;omega));have Vs:=Vp.grown Xy (fun q hq=>by have:=Vb.out q hq;omega);have yk4:=Xy.size;obtain⟨ga',gc',AX,_⟩:=jk.row;subst AX;clear jk Xy;refine hK.out _ _ Ue.out.c4 (fun _=>?_);clear hK K;have q44:=Ue.out.c4;have z44:=Ue.out.z 4;refine kU [11,12] 1 rfl (by intro _ _ d _ _ h;cases d<;>exact h) (by kernel_rfl) (by kernel_rfl) Ue.out.c4 ?_;(iterate 2 ((first|refine ty ?_|refine tn ?_);try simp only[pl]))
              refine xk ?_;refine vu 13 (by kernel_rfl) (by kernel_rfl) rfl (fun K hK=>?_);go_simp;refine hK.out _ _ ?_;clear hK K;refine vq (by kernel_rfl) ?_ _;go_wp2;go_roundw
              case rel =>
               refine⟨acc.app f,q,n',_,_,bR.out.own hpC 4 _,Vs.own hwC 4 _,Ue.out.za9,Vr.out.but (xl.set C _ 4 _) (by omega),Fo.bT _ _ HLG.out (by rw[HF.out];rfl),Zb.out,by have:=hN.out;omega,?_⟩;rw[Fo.uK,show f.len=1 by rw[HF.out];rfl];have:=nG.out;omega
              case measure =>
               rw[vG (bR.out.own hpC 4 _),vG MW.out];omega
       ·rw[if_neg hw] at hq;have ht:=HTY.out;rw[JH hw] at ht;have nK:=z7 ht;clear ht hw;have HQ:=z7 hq;obtain⟨bf,rfl,_,_⟩:=hq;go_wp2;exact⟨rfl,by rw[nK.out];exact HQ.out,zc4⟩
   ·rw[if_neg sR] at hs;rw[show(xX rs J3==44)=false from by simp[sR]];have Aj:=z7 hs;have ht:=nZ.out;rw[if_pos sR] at ht;have Rr:=z7 ht;clear ht hs sR sP nZ zy8;go_wp2_with fail;refine(jf p rs J3 d 125 x6 Aj.out (by decide)).mono ?_;rintro e x7 ⟨hq,MS⟩;have Ag:=zag.trans MS;have nY:=z7 (zaf.out.but MS (by omega));by_cases hw:xX rs J3=125
    ·rw[if_pos hw] at hq;obtain⟨rfl,hs⟩:=hq;have ht:=Rr.out;rw[UA hw] at ht;have MT:=z7 ht;have Af:=z7 hs;clear ht hs hw MS Rr Aj;have k0:=nY.out.c0;have k1:=nY.out.c1;have hX:=Ag.size;go_wp2;rw[MT.out];have qd:=fun o=>(zy x7.heap.size x7).alloc (z8 _) o
     refine bodyPost_ret (v := .iface 172 (.pointer (some ⟨x7.heap.size,0,none⟩))) ?_ rfl ?_
     ·simp[results,results157,go_sem]
     exact⟨⟨⟨_,rfl,[],x7.heap.size,rfl,hX,by simp,xq _ _ _ _ _,xq _ _ _ _ _,rfl⟩,rfl,rfl,Af.out.below (qd _)⟩,Ag.below (qd _)⟩
    ·rw[if_neg hw] at hq;have ht:=Rr.out;rw[JH hw] at ht;have MT:=z7 ht;clear ht hw;have HQ:=z7 hq;obtain⟨bf,rfl,_,_⟩:=hq;go_wp2;exact⟨rfl,by rw[MT.out];exact HQ.out,Ag⟩
 ·rw[if_neg hw] at hq;have ht:=HTW.out;rw[JH hw] at ht;have nu:=z7 ht;clear ht hw;have HQ:=z7 hq;obtain⟨bf,rfl,_,_⟩:=hq;go_wp2;exact⟨rfl,by rw[nu.out];exact HQ.out,zay⟩
end Go.Proofs.YthpldolmpinnhaaGreatDoor
