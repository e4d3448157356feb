import Derived.Test.YthpldolmpinnhaaGreatDoorJK10
import Derived.Deep.DeepCutAuto
set_option maxHeartbeats 64000000
open Go.Lib renaming hid→z7
open Nat renaming le_refl→z8
open Go.RowKit.Below renaming refl→zy
open Go.World renaming frozen?_setCell→zx,block_lt_of_cell?→zv,frozen?_of_block→zu
open Go.Proofs.Tryz
namespace Go.Proofs.YthpldolmpinnhaaGreatDoor
open Go Go.RowKit
set_option maxRecDepth 10000
theorem UC{β:Type}{rs:List Int}{r:Int}{i:Nat}{F:Unit->Nat->kz β}(h:xU rs i=r):(vR rs r i).then F=F () (i+1):=by unfold vR;rw[if_pos h];rfl
theorem JZ{β:Type}{rs:List Int}{r:Int}{i:Nat}{F:Unit->Nat->kz β}(h:¬xU rs i=r):(vR rs r i).then F = .error (3,i):=by unfold vR;rw[if_neg h];rfl
theorem WG{β:Type}{rs:List Int}{i:Nat}{F:Wd->Nat->kz β}(h:¬qk rs i=0):(jz rs i).then F=F (kb rs i (qk rs i)) (i+qk rs i):=by unfold jz;rw[if_neg h];rfl
theorem WD{β:Type}{rs:List Int}{i:Nat}{F:Wd->Nat->kz β}(h:qk rs i=0):(jz rs i).then F = .error (3,i):=by unfold jz;rw[if_pos h];rfl
theorem OM{β:Type}{rs:List Int}{i:Nat}{F:Wd->Nat->kz β}(h:¬qi rs i=0):(fy rs i).then F=F (kb rs i (qi rs i)) (i+qi rs i):=by unfold fy;rw[if_neg h];rfl
theorem ON{β:Type}{rs:List Int}{i:Nat}{F:Wd->Nat->kz β}(h:qi rs i=0):(fy rs i).then F = .error (3,i):=by unfold fy;rw[if_pos h];rfl
theorem El{rs:List Int}{f i:Nat}(h:¬(f≠0/\Bi rs i=true)):Fs rs f i = .ok ([48],i):=by unfold Fs;rw[if_neg h]
theorem WB{rs:List Int}{f i:Nat}(h:f≠0/\Bi rs i=true):Fs rs f i=(jz rs (xm rs (i+7))).then fun o j => .ok (o,xm rs j):=by unfold Fs;rw[if_pos h]
theorem then_assoc{α β γ:Type}(x:kz α)(f:α->Nat->kz β)(g:β->Nat->kz γ):(x.then f).then g=x.then fun a i=>(f a i).then g:=by
 cases x with
 | error e=>rfl
 | ok a=>rfl
def zf6(p:Nat)(rs:List Int)(d:Nat)(r:kz Fo)(w:World)(e:Ending)(w':World):Prop :=
 (match r with
  | .error (n,a)=>QM p n a e w'
  | .ok (f,j)=>(∃ v,e = .returned v/\xY w.heap.size w'.heap.size w' [v] f)/\f.len=1/\f.vD=true/\vK p rs j d w')/\xS p w w'
theorem Jr{m:Wd}{n:Nat}(h:UG m=some n):n<3:=by
 unfold UG at h;split at h
 ·cases h;decide
 split at h
 ·cases h;decide
 split at h
 ·cases h;decide
 ·cases h
structure Fw(B:Nat)(v0 v1 v2 v3 v4 v5:Value)(w:World):Prop where
 c0:w.cell? ⟨B,0,none⟩=some v0
 c1:w.cell? ⟨B,1,none⟩=some v1
 c2:w.cell? ⟨B,2,none⟩=some v2
 c3:w.cell? ⟨B,3,none⟩=some v3
 c4:w.cell? ⟨B,4,none⟩=some v4
 c5:w.cell? ⟨B,5,none⟩=some v5
 z:∀ j,w.frozen? ⟨B,j,none⟩=false
theorem Fw.but{B p:Nat}{v0 v1 v2 v3 v4 v5:Value}{w w':World}(h:Fw B v0 v1 v2 v3 v4 v5 w)(hb:xS p w w')(vx:B≠p):Fw B v0 v1 v2 v3 v4 v5 w' :=
 ⟨hb.cell h.c0 vx,hb.cell h.c1 vx,hb.cell h.c2 vx,hb.cell h.c3 vx,hb.cell h.c4 vx,hb.cell h.c5 vx,fun j=>(zu (a:=⟨B,j,none⟩) (hb.block B (zv w _ h.c0) vx)).trans (h.z j)⟩
theorem Fw.yyu{B:Nat}{v0 v1 v2 v3 v4 v5 u:Value}{w:World}(h:Fw B v0 v1 v2 v3 v4 v5 w):Fw B v0 v1 v2 u v4 v5 (w.setCell ⟨B,3,none⟩ u):=by
 refine⟨?_,?_,?_,?_,?_,?_,fun j=>by rw[zx];exact h.z j⟩<;>rw[xf];all_goals first|(rw[if_neg (by simp)];first|exact h.c0|exact h.c1|exact h.c2|exact h.c4|exact h.c5)|(rw[if_pos rfl,h.c3];rfl)
theorem Fw.zf7{B:Nat}{v0 v1 v2 v3 v4 v5 u:Value}{w:World}(h:Fw B v0 v1 v2 v3 v4 v5 w):Fw B v0 v1 v2 v3 u v5 (w.setCell ⟨B,4,none⟩ u):=by
 refine⟨?_,?_,?_,?_,?_,?_,fun j=>by rw[zx];exact h.z j⟩<;>rw[xf];all_goals first|(rw[if_neg (by simp)];first|exact h.c0|exact h.c1|exact h.c2|exact h.c3|exact h.c5)|(rw[if_pos rfl,h.c4];rfl)
theorem Fw.yyq{B:Nat}{v0 v1 v2 v3 v4 v5 u:Value}{w:World}(h:Fw B v0 v1 v2 v3 v4 v5 w):Fw B v0 v1 v2 v3 v4 u (w.setCell ⟨B,5,none⟩ u):=by
 refine⟨?_,?_,?_,?_,?_,?_,fun j=>by rw[zx];exact h.z j⟩<;>rw[xf];all_goals first|(rw[if_neg (by simp)];first|exact h.c0|exact h.c1|exact h.c2|exact h.c3|exact h.c4)|(rw[if_pos rfl,h.c5];rfl)
theorem Fw.lt{B:Nat}{v0 v1 v2 v3 v4 v5:Value}{w:World}(h:Fw B v0 v1 v2 v3 v4 v5 w):B<w.heap.size:=zv w _ h.c0
theorem Fw.grown{B:Nat}{v0 v1 v2 v3 v4 v5:Value}{w w':World}{row:Option Nat}(h:Fw B v0 v1 v2 v3 v4 v5 w)(hg:w.grownBy w' row)(vx:some B≠row):Fw B v0 v1 v2 v3 v4 v5 w' :=
 ⟨hg.cell h.c0 vx,hg.cell h.c1 vx,hg.cell h.c2 vx,hg.cell h.c3 vx,hg.cell h.c4 vx,hg.cell h.c5 vx,fun j=>(zu (a:=⟨B,j,none⟩) (hg.block B h.lt vx)).trans (h.z j)⟩
structure Js(B:Nat)(v0 v1:Value)(w:World):Prop where
 c0:w.cell? ⟨B,0,none⟩=some v0
 c1:w.cell? ⟨B,1,none⟩=some v1
 z:∀ j,w.frozen? ⟨B,j,none⟩=false
theorem Js.but{B p:Nat}{v0 v1:Value}{w w':World}(h:Js B v0 v1 w)(hb:xS p w w')(vx:B≠p):Js B v0 v1 w' :=
 ⟨hb.cell h.c0 vx,hb.cell h.c1 vx,fun j=>(zu (a:=⟨B,j,none⟩) (hb.block B (zv w _ h.c0) vx)).trans (h.z j)⟩
theorem Js.Ya{B:Nat}{v0 v1 u:Value}{w:World}(h:Js B v0 v1 w):Js B u v1 (w.setCell ⟨B,0,none⟩ u) :=
 ⟨by rw[xf,if_pos rfl,h.c0];rfl,by rw[xf,if_neg (by simp)];exact h.c1,fun j=>by rw[zx];exact h.z j⟩
theorem UE(p:Nat)(rs:List Int)(i d:Nat)(msg:Option jK)(w:World)(h:vK p rs i d w)(he:KG p w)(hd:msg=none ↔ d=6)(hm:∀ m,msg=some m->lQ p rs d m)(WC:∀ m,msg=some m->Jp m) :
  Calls prog 157 #[.pointer (some ⟨p,0,none⟩)] w (zf6 p rs d (YW rs msg i) w):=by
 have HH:=z7 h;have Jl:=z7 he;have hu:=z7 WC;have LP:=z7 (fun num j W hs hE=>Mu p rs j d num msg W hs hE hd hm);have QN:=h.lt;have h5:=h.at_;obtain⟨R,hR⟩:∃ R,YW rs msg i=R:=⟨_,rfl⟩;rw[hR];unfold YW at hR;have HTW:=z7 hR.symm;clear h he hd hm hR WC;go_enter func157,ntmps157;go_wp2_with fail;refine vN ?_;intro W hW;have jT:Below w.heap.size w W:=by rw[hW];exact(zy _ _).alloc (z8 _) _
 have Mq:Js w.heap.size (.string ⟨#[]⟩) (.int .i64 i) W:=by
  rw[hW];exact⟨xu _ _ _ _ _,xu _ _ _ _ _,fun j=>by go_simp⟩
 clear hW h5;obtain⟨B,hB⟩:∃ B,w.heap.size=B:=⟨_,rfl⟩;rw[hB] at Mq ⊢;have HB:=z7 hB;have LM:p<B:=by omega
 have lJ:=z7 Mq;have Br:=z7 (HH.out.below jT);have jT:=xS.of (p:=p) jT;clear hB Mq;refine(j9 p rs i d 123 W Br.out (by decide)).mono ?_;rintro e x1 ⟨hq,wj⟩;have zf9:=jT.trans wj;have yyk:=z7 (lJ.out.but wj (by omega));by_cases hw:xU rs i=123
 ·rw[if_pos hw] at hq;obtain⟨rfl,hs⟩:=hq;have ht:=HTW.out;rw[UC hw] at ht;have lC:=z7 ht;have zfz:=z7 hs;clear ht hs hw wj HTW Br;go_wp2_with fail;refine(uh p rs (i+1) d x1 zfz.out).mono ?_;rintro e x2 ⟨rfl,hs,wg⟩;have yyj:=zf9.trans wg;have yyg:=z7 (yyk.out.but wg (by omega));obtain⟨J1,hJ⟩:∃ J,xm rs (i+1)=J:=⟨_,rfl⟩;have yoz:i+1<=J1:=by rw[←hJ];exact xP rs _
  have ht:=lC.out;rw[hJ] at ht hs;have wb:=z7 ht;have zfy:=z7 hs;clear ht hs hJ wg lC zfz;go_wp2_with fail;refine(UU p rs J1 d x2 zfy.out).mono ?_;rintro e x3 ⟨hq,wZ⟩;have zfx:=yyj.trans wZ;have lH:=z7 (yyg.out.but wZ (by omega));by_cases hn:qi rs J1=0
  ·rw[if_pos hn] at hq;have ht:=wb.out;rw[ON hn] at ht;have lL:=z7 ht;clear ht hn;have HQ:=z7 hq;obtain⟨bf,rfl,_,_⟩:=hq;go_wp2;exact⟨rfl,by rw[lL.out];exact HQ.out,zfx⟩
  ·rw[if_neg hn] at hq;obtain⟨rfl,hs⟩:=hq;have ht:=wb.out;rw[OM hn] at ht;obtain⟨K,hK⟩:∃ K,kb rs J1 (qi rs J1)=K:=⟨_,rfl⟩;obtain⟨J2,hJ⟩:∃ J,J1+qi rs J1=J:=⟨_,rfl⟩;rw[hJ,hK] at ht;rw[hJ] at hs;rw[hK];have hlK:K.length<=4000000:=by
    have:=bJ rs J1 (qi rs J1);have:=HH.out.len;rw[←hK];omega
   have lL:=z7 ht;have yyf:=z7 hs;clear ht hs hK hJ hn wZ wb zfy;have zz:=lH.out.z 0;have z0:=lH.out.c0;have z1:=lH.out.c1;have wY:=z7 (yyf.out.own LM 0 (xk K));have zfv:=z7 (lH.out.Ya (u:=xk K));have zfu:xS p w (x3.setCell ⟨B,0,none⟩ (xk K)):=zfx.own (by have:=HB.out;omega) 0 _;have zfq:=lL;obtain⟨x4,hX⟩:∃ X,x3.setCell ⟨B,0,none⟩ (xk K)=X:=⟨_,rfl⟩;rw[hX] at wY zfv zfu;have HX:=z7 hX;clear hX lL;go_wp2_with fail;rw[HX.out];clear zz z0 z1;refine(uh p rs (J2) d x4 wY.out).mono ?_;rintro e x5 ⟨rfl,hs,wV⟩;have yyd:=zfu.trans wV;have yyb:=z7 (zfv.out.but wV (by omega));obtain⟨J3,hJ⟩:∃ J,xm rs (J2)=J:=⟨_,rfl⟩;have yoy:J2<=J3:=by rw[←hJ];exact xP rs _
   have ht:=zfq.out;rw[hJ] at ht hs;have lM:=z7 ht;have wQ:=z7 hs;clear ht hs hJ wV zfq wY;go_wp2_with fail;refine(Yw p rs J3 d 44 x5 wQ.out (by decide)).mono ?_;rintro e x6 ⟨rfl,hs,rY⟩;have zfk:=yyd.trans rY;have zfj:=z7 (yyb.out.but rY (by omega));by_cases rX:xU rs J3=44
   ·rw[if_pos rX] at hs;rw[show(xU rs J3==44)=true from by rw[rX];rfl];have WE:=z7 hs;have ht:=lM.out;rw[if_neg (fun e=>e rX)] at ht;have Rx:=z7 ht;clear ht hs rX rY lM wQ;go_wp2_with fail;refine(uh p rs (J3+1) d x6 WE.out).mono ?_;rintro e x7 ⟨rfl,hs,Mj⟩;have WH:=zfk.trans Mj;have lN:=z7 (zfj.out.but Mj (by omega));obtain⟨J4,hJ⟩:∃ J,xm rs (J3+1)=J:=⟨_,rfl⟩;have yox:J3+1<=J4:=by rw[←hJ];exact xP rs _
    have ht:=Rx.out;rw[hJ] at ht hs;have Mg:=z7 ht;have WI:=z7 hs;clear ht hs hJ Mj Rx WE;have g7:=WI.out.at_;go_wp2_with fail;refine(UU p rs J4 d x7 WI.out).mono ?_;rintro e x8 ⟨hq,wK⟩;have zfg:=WH.trans wK;have yx0:=z7 (lN.out.but wK (by omega));by_cases hn:qi rs J4=0
    ·rw[if_pos hn] at hq;have ht:=Mg.out;rw[ON hn] at ht;have lS:=z7 ht;clear ht hn;have HQ:=z7 hq;obtain⟨bf,rfl,_,_⟩:=hq;go_wp2;exact⟨rfl,by rw[lS.out];exact HQ.out,zfg⟩
    ·rw[if_neg hn] at hq;obtain⟨rfl,hs⟩:=hq;have ht:=Mg.out;rw[OM hn] at ht;obtain⟨K2,hK⟩:∃ K,kb rs J4 (qi rs J4)=K:=⟨_,rfl⟩;obtain⟨J5,hJ⟩:∃ J,J4+qi rs J4=J:=⟨_,rfl⟩;rw[hJ,hK] at ht;rw[hJ] at hs;rw[hK];have yov:K2.length<=4000000:=by
      have:=bJ rs J4 (qi rs J4);have:=HH.out.len;rw[←hK];omega
     have lS:=z7 ht;have zff:=z7 hs;clear ht hs hK hJ hn wK Mg WI;clear g7;go_wp2_with fail;refine(uh p rs (J5) d x8 zff.out).mono ?_;rintro e x9 ⟨rfl,hs,wJ⟩;have zfd:=zfg.trans wJ;have zfb:=z7 (yx0.out.but wJ (by omega));obtain⟨J6,hJ⟩:∃ J,xm rs (J5)=J:=⟨_,rfl⟩;have you:J5<=J6:=by rw[←hJ];exact xP rs _
     have ht:=lS.out;rw[hJ] at ht hs;have Bs:=z7 ht;have lW:=z7 hs;clear ht hs hJ wJ lS zff;by_cases hk:(K2==[110,117,109,98,101,114])=true
     ·have ht:=Bs.out;rw[if_pos (show K2=wy from eq_of_beq hk)] at ht;have HT9:=Bs;clear Bs;have Bs:=z7 ht;clear ht HT9;go_wp2_with fail;clear hk;refine(j9 p rs J6 d 125 x9 lW.out (by decide)).mono ?_;rintro e WL ⟨hq,WM⟩;have Jt:=zfd.trans WM;have DL:=z7 (zfb.out.but WM (by omega));by_cases hw:xU rs J6=125
      ·rw[if_pos hw] at hq;obtain⟨rfl,hs⟩:=hq;have ht:=Bs.out;rw[UC hw] at ht;have Em:=z7 ht;have En:=z7 hs;clear ht hs hw WM Bs lW;have k0:=DL.out.c0;have k1:=DL.out.c1;have hX:=Jt.size;go_wp2;rw[Em.out];have qz:=fun o=>(zy WL.heap.size WL).alloc (z8 _) o
       refine bodyPost_ret (v := .iface 175 (.pointer (some ⟨WL.heap.size,0,none⟩))) ?_ rfl ?_
       ·simp[results,results157,go_sem]
       exact⟨⟨⟨_,rfl,[],WL.heap.size,rfl,hX,by simp,xu _ _ _ _ _,xu _ _ _ _ _,rfl⟩,rfl,rfl,En.out.below (qz _)⟩,Jt.below (qz _)⟩
      ·rw[if_neg hw] at hq;have ht:=Bs.out;rw[JZ hw] at ht;have Em:=z7 ht;clear ht hw;have HQ:=z7 hq;obtain⟨bf,rfl,_,_⟩:=hq;go_wp2;exact⟨rfl,by rw[Em.out];exact HQ.out,Jt⟩
     ·have QY:(K2==[110,117,109,98,101,114])=false:=by simpa using hk
      have ht:=Bs.out;rw[if_neg (show ¬K2=wy from fun e=>hk (beq_iff_eq.2 e))] at ht;have HTf:=z7 ht;clear ht hk Bs;go_wp2_with fail;clear QY;refine(Rz x9).mono ?_;rintro e WL ⟨⟨bm,rfl,hF⟩,lr⟩;have Jt:=zfd.below lr;have DL:=z7 (zfb.out.but (xS.of (p:=p) lr) (by omega));have En:=z7 (lW.out.below lr);have HF:=z7 hF;have Eo:=hF.look K2 (by omega);clear lr hF lW;obtain⟨fo,KB⟩:∃ fo,UG K2=fo:=⟨_,rfl⟩;rw[KB] at Eo;have ht:=HTf.out;rw[KB] at ht;have HTg:=z7 ht;clear ht HTf;have tN:=z7 KB;clear KB
      cases fo with
      | none =>
       have Em:=z7 (show R = .error (3,J4) from HTg.out);clear HTg;simp only[Option.getD_none,Option.isSome_none] at Eo;go_wp2_with fail;refine(fR p 3 J4 WL En.out.KQ).mono ?_;rintro e x11 ⟨hf,yx1⟩;have dY:=z7 hf;obtain⟨bf,rfl,_,_⟩:=hf;go_wp2;exact⟨rfl,by rw[Em.out];exact dY.out,Jt.below yx1⟩
      | some form =>
       simp only[Option.getD_some,Option.isSome_some] at Eo;have jw:form<3:=Jr tN.out;have ht:=HTg.out;have HTY:=z7 ht;clear HTg ht;have k0:=DL.out.c0;have k1:=DL.out.c1;go_wp2_with fail;refine vN ?_;intro Y hY;have hbY:Below WL.heap.size WL Y:=by rw[hY];exact(zy _ _).alloc (z8 _) _
       have Mq:Fw WL.heap.size (xk K) (.int .i64 i) (.int .i64 form) (.int .i64 0) (.slice none 0 0) (.int .i64 0) Y:=by
        rw[hY];exact⟨xu _ _ _ _ _,xu _ _ _ _ _,xu _ _ _ _ _,xu _ _ _ _ _,xu _ _ _ _ _,xu _ _ _ _ _,fun j=>by go_simp⟩
       have hwx:w.heap.size<=WL.heap.size:=Jt.size;have HSY:=z7 (En.out.below hbY);have hbY:=Jt.below hbY;obtain⟨C,hC⟩:∃ C,WL.heap.size=C:=⟨_,rfl⟩;rw[hC] at Mq hwx ⊢;have hwC:=hwx;clear hY k0 k1 Eo En hC DL HF hwx;have HLY:=z7 Mq;have hpC:p<C:=by omega
       clear Mq;refine(j9 p rs J6 d 44 Y HSY.out (by decide)).mono ?_;rintro e y1 ⟨hq,wG⟩;have zd2:=hbY.trans wG;have yx3:=z7 (HLY.out.but wG (by omega));by_cases hw:xU rs J6=44
       ·rw[if_pos hw] at hq;obtain⟨rfl,hs⟩:=hq;have ht:=HTY.out;rw[UC hw] at ht;have lh:=z7 ht;have zd3:=z7 hs;clear ht hs hw wG HTY HSY;go_wp2_with fail;refine(uh p rs (J6+1) d y1 zd3.out).mono ?_;rintro e y2 ⟨rfl,hs,Wu⟩;have wF:=zd2.trans Wu;have wB:=z7 (yx3.out.but Wu (by omega));obtain⟨J7,hJ⟩:∃ J,xm rs (J6+1)=J:=⟨_,rfl⟩;have yoj:J6+1<=J7:=by rw[←hJ];exact xP rs _
        have ht:=lh.out;rw[hJ] at ht hs;have zd4:=z7 ht;have WN:=z7 hs;clear ht hs hJ Wu lh zd3;obtain⟨FF,hFF⟩:∃ FF:Wd->Nat->kz Fo,FF=fun o l=>(gG rs msg (decide (form≠0)) (rs.length+1) .nil l).then fun bs q=>(vR rs 125 q).then fun _ z => .ok (.br K i form o q bs .nil,z):=⟨_,rfl⟩
        have HFF:=z7 hFF;have wC:=z7 (show R=(Fs rs form J7).then FF by rw[hFF];exact zd4.out);clear hFF zd4;go_upto_region 23 with fail
        go_cut [76] (fun s wc=>∃ b l,s = .bool b/\vK p rs l d wc/\xS p w wc/\Fw C (xk K) (.int .i64 i) (.int .i64 form) (.int .i64 0) (.slice none 0 0) (.int .i64 0) wc/\J7<=l/\(b=true->R=((jz rs (xm rs l)).then fun o j=>(.ok (o,xm rs j):kz Wd)).then FF)/\(b=false->R=FF [48] l))
        case first =>
         by_cases h0:form=0
         ·subst h0;have ht:=wC.out;rw[El (fun e=>e.1 rfl),then_ok] at ht;have OO:=z7 ht;clear ht wC;go_wp2_with fail;go_meet
          case rel=>exact⟨false,J7,rfl,WN.out,wF,wB.out,z8 _,(fun e=>by cases e),fun _=>OO.out⟩
         ·have TD:((form:Int)==0)=false:=by simp;omega
          have uq:((form:Int) !=0)=true:=by simp;omega
          have HF0:=z7 h0;clear h0;go_wp2_with fail;refine(ER p rs J7 d y2 WN.out).mono ?_;rintro e y3 ⟨rfl,hs,hx⟩;have zd6:=wF.trans hx;have zd7:=z7 (wB.out.but hx (by omega));by_cases ho:Bi rs J7=true
          ·rw[if_pos ho] at hs;rw[ho];have ht:=wC.out;rw[WB ⟨HF0.out,ho⟩] at ht;have wE:=z7 ht;have wH:=z7 hs;clear ht hs hx ho wC WN;go_wp2_with fail;go_meet
           case rel=>exact⟨true,J7+7,rfl,wH.out,zd6,zd7.out,Nat.le_add_right _ _,(fun _=>wE.out),(fun e=>by cases e)⟩
          ·rw[if_neg ho] at hs;rw[show Bi rs J7=false from by simpa using ho];have ht:=wC.out;rw[El (fun e=>ho e.2),then_ok] at ht;have wE:=z7 ht;have wH:=z7 hs;clear ht hs hx ho wC WN;go_wp2_with fail;go_meet
           case rel=>exact⟨false,J7,rfl,wH.out,zd6,zd7.out,z8 _,(fun e=>by cases e),fun _=>wE.out⟩
        case rest =>
         obtain⟨b,l,rfl,hs,D0,hl,hJl,ht1,OP⟩:=hcut;have HSc:=z7 hs;have HLc:=z7 hl;have Ux:=z7 ht1;have TF:=z7 OP;clear hs hl ht1 OP WN wB wC wF;go_upto_if 76 with fail
         go_cut [] (fun wc=>∃ l ov O,xH O=ov/\vK p rs l d wc/\xS p w wc/\Fw C (xk K) (.int .i64 i) (.int .i64 form) (.int .i64 ov) (.slice none 0 0) (.int .i64 0) wc/\J7<=l/\R=FF O l)
         case first =>
          cases b with
          | false =>
           have HTc:=z7 (TF.out rfl);clear TF Ux;go_wp2_with fail;go_meet
           case rel=>exact⟨l,0,[48],rfl,HSc.out,D0,HLc.out,hJl,HTc.out⟩
          | true =>
           have HTc:=z7 (Ux.out rfl);have yx5:=D0;have zd8:=HSc;have yx6:=HLc;have zd9:=HTc;clear D0 HSc HLc HTc Ux TF;go_wp2_with fail;refine(uh p rs (l) d wc zd8.out).mono ?_;rintro e y4 ⟨rfl,hs,wI⟩;have yx7:=yx5.trans wI;have yx8:=z7 (yx6.out.but wI (by omega));obtain⟨J8,hJ⟩:∃ J,xm rs (l)=J:=⟨_,rfl⟩;have yof:l<=J8:=by rw[←hJ];exact xP rs _
           have ht:=zd9.out;rw[hJ] at ht hs;have wL:=z7 ht;have zdz:=z7 hs;clear ht hs hJ wI zd9 zd8;go_wp2_with fail;refine(DC p rs J8 d y4 zdz.out).mono ?_;rintro e y5 ⟨hq,hx⟩;have zdy:=yx7.trans hx;have yx9:=z7 (yx8.out.but hx (by omega));by_cases hn:qk rs J8=0
           ·rw[if_pos hn] at hq;have ht:=wL.out;rw[then_assoc,WD hn] at ht;have mz:=z7 ht;clear ht hn;have HQ:=z7 hq;obtain⟨bf,rfl,_,_⟩:=hq;go_wp2;exact⟨rfl,by rw[mz.out];exact HQ.out,zdy⟩
           ·rw[if_neg hn] at hq;obtain⟨rfl,hs⟩:=hq;have ht:=wL.out;rw[then_assoc,WG hn] at ht;simp only[then_ok] at ht;obtain⟨w1,w2,w3⟩:=KF rs J8 hn;obtain⟨O,hO⟩:∃ K,kb rs J8 (qk rs J8)=K:=⟨_,rfl⟩;obtain⟨J9,hJ⟩:∃ J,J8+qk rs J8=J:=⟨_,rfl⟩;have yod:J8<=J9:=by omega
            rw[hJ,hO] at ht;rw[hJ] at hs;rw[hO] at w1 w2 w3 ⊢;have mz:=z7 ht;have zdx:=z7 hs;have QX:=z7 (fun W=>OE O W w1 w2 w3);clear ht hs hO hJ hn hx wL zdz w1 w2 w3;go_wp2_with fail;refine(QX.out y5).mono ?_;rintro e y6 ⟨rfl,hx⟩;have yxz:=zdy.below hx;have wM:=z7 (yx9.out.but (xS.of (p:=p) hx) (by omega));have yxy:=z7 (zdx.out.below hx);obtain⟨ov,OR⟩:∃ v,xH O=v:=⟨_,rfl⟩;rw[OR];have HOV:=z7 OR;have q3:=wM.out.c3;have z3:=wM.out.z 3;have wN:=z7 (yxy.out.own hpC 3 (.int .i64 ov));have zdu:=z7 (wM.out.yyu (u := .int .i64 ov));have zdq:xS p w (y6.setCell ⟨C,3,none⟩ (.int .i64 ov)):=yxz.own hwC 3 _;have zdk:=mz;obtain⟨y7,hX⟩:∃ X,y6.setCell ⟨C,3,none⟩ (.int .i64 ov)=X:=⟨_,rfl⟩;rw[hX] at wN zdu zdq;have HX:=z7 hX;clear hX mz OR hx zdx;go_wp2_with fail;rw[HX.out];clear q3 z3;refine(uh p rs (J9) d y7 wN.out).mono ?_;rintro e y8 ⟨rfl,hs,wO⟩;have yxx:=zdq.trans wO;have yxv:=z7 (zdu.out.but wO (by omega));obtain⟨J10,hJ⟩:∃ J,xm rs (J9)=J:=⟨_,rfl⟩;have yaj:J9<=J10:=by rw[←hJ];exact xP rs _
            have ht:=zdk.out;rw[hJ] at ht hs;have yxu:=z7 ht;have yxq:=z7 hs;clear ht hs hJ wO zdk wN;go_wp2_with fail;go_meet
            case rel=>exact⟨J10,ov,O,HOV.out,yxq.out,yxx,yxv.out,by omega,yxu.out⟩
         case rest =>
          obtain⟨l2,ov,O,OR,hs,hbz,hl,yob,ht⟩:=hcut;have HOV:=z7 OR;have HSz:=z7 hs;have HLz:=z7 hl;have HTz:=z7 (show R=(gG rs msg (decide (form≠0)) (rs.length+1) .nil l2).then fun bs q=>(vR rs 125 q).then fun _ z => .ok (.br K i form O q bs .nil,z) by rw[ht,HFF.out]);obtain⟨NB,hNB⟩:∃ b,decide (form≠0)=b:=⟨_,rfl⟩;have LR:=z7 hNB;have zdj:=z7 (show((form:Int) !=0)=NB from by rw[←hNB];by_cases h:form=0<;>simp[h]);clear OR hs hl ht D0 HSc HLc Ux TF HFF hNB;go_wp2_with fail;obtain⟨G,hG,hGe⟩:∃ G:Fo->Nat->kz Fo,R=(gG rs msg NB (rs.length+1) .nil l2).then G/\∀ bs q,xU rs q=125->G bs q = .ok (.br K i form O q bs .nil,q+1):=⟨_,(show decide (form≠0)=NB from LR.out)▸HTz.out,fun bs q h=>UC h⟩;have HGE:=z7 hGe;clear hGe;have HG:=z7 hG;have Fe:1<=l2:=by omega
          clear hG HTz;go_loopw [] (fun wr=>∃ acc j n v ws,vK p rs j d wr/\xS p w wr/\Fw C (xk K) (.int .i64 i) (.int .i64 (form:Nat)) (.int .i64 ov) v (.int .i64 0) wr/\qm (C+1) 183 3 v acc ws wr/\acc.ux=true/\R=(gG rs msg NB n acc j).then G/\rs.length+2<=n+j/\acc.len<=j) (fun wr=>rs.length+2 - M0 p wr)
          case atStart=>exact⟨.nil,l2,rs.length+1,_,[],HSz.out,hbz,HLz.out,qm.start _ _ _ _,rfl,HG.out,by omega,Nat.zero_le _⟩
          case round =>
           obtain⟨acc,j,n,v,ws,hs,gT,Y1,Yo,rV,hR,hfu,rU⟩:=hrel;obtain⟨ga,gc,hv,_⟩:=Yo.row;subst hv;have Mf:=z7 hs;have yxj:=z7 Y1;have HGR:=z7 Yo;have gV:=z7 hR;have HLG:=z7 rV;have my:=z7 (show acc.len<=j/\j<=rs.length+1 from⟨rU,hs.here⟩);have hCC:=Y1.lt;clear hs Y1 Yo hR rV rU;go_wp2_with fail;refine(jE p rs j d wr Mf.out).mono ?_;rintro e w1 ⟨rfl,xB⟩;have Rv:=z7 (yxj.out.but (xS.of (p:=p) xB) (by omega));have q4:=Rv.out.c4;have gQ:=z7 (Mf.out.below xB);have Zy:=gT.below xB;by_cases Bt:xU rs j=125
           ·rw[Bt];by_cases ha0:acc.len=0
            ·have yxg:((acc.len:Int)==0)=true:=by simp[ha0]
             have HA0:=z7 ha0;clear ha0 Bt;obtain⟨n',Bh⟩:∃ n',n=n'+1:=⟨n - 1,by have:=gQ.out.here;omega⟩;have ht:=gV.out;rw[Bh,gG,if_neg (fun e=>e.2 HA0.out),then_assoc] at ht;obtain⟨r,hr⟩:∃ r,X7 rs msg NB j=r:=⟨_,rfl⟩;rw[hr] at ht;have qU:=z7 (fun W hs hE=>(hr▸LP.out NB j W hs hE:Calls prog 204 #[.pointer (some ⟨p,0,none⟩),.bool NB] W (wx p rs d r W)));have Ux:=z7 ht;have LS:=z7 (fun f q (e:r = .ok (f,q))=>Bn hu.out (hr.trans e));have jI:=z7 (HGR.out.but (xS.of (p:=p) xB) (by omega));have WO:=z7 (Jl.out.but Zy);have R3:=xB.size;have hN:=z7 Bh;clear ht hr Bh;go_wp2_with fail;refine rk (fun W':World=>W'.cell? ⟨C,4,none⟩=some (.slice ga acc.len gc)) 13 [0,1,2,3,4,5,6,7] 6 Rv.out.c4 ?_;(iterate 8 ((first|refine ty ?_|refine tn ?_);try simp only[pl]))
             refine xq ?_;refine xI 8 (by kernel_rfl) rfl (fun K hK=>?_);go_simp;rw[zdj.out];refine(qU.out w1.drew (gQ.out.below (zy _ _).drew) (WO.out.but (xS.refl _ _).drew)).mono ?_;rintro e w2 ⟨hq,qb⟩;have qb:xS p w1 w2:=(xS.refl p w1).drew.trans qb;have ZN:=Zy.trans qb
             cases r with
             | error en =>
              obtain⟨iR,iT⟩:=en;have HQ:=z7 hq;obtain⟨bf,rfl,_,_⟩:=hq;have HTE:=z7 (show R = .error (iR,iT) from Ux.out);go_wp2;exact⟨rfl,by rw[HTE.out];exact HQ.out,ZN⟩
             | ok fq =>
              obtain⟨f,q⟩:=fq;obtain⟨⟨k,pl,m,ma,mc,hf,rfl,LI,vs,vE,kD⟩,uw⟩:=hq;have qV:=z7 vE;have Yz:=z7 kD;have dN:=z7 uw;have Ko:=z7 (Rv.out.but qb (by omega));have Yx:=z7 (jI.out.but qb (by omega));have Z4:=z7 (show R=(gG rs msg NB n' (acc.app f) q).then G from Ux.out);have hjq:=LS.out f q rfl;have HF:=z7 hf;have HMM:=z7 LI;have EN:=uw.here;have hwx:=qb.size;have q4':=Ko.out.c4;clear vE kD uw qb hf LS Ux LI qU;refine hK.out _ _ Ko.out.c4 (fun _=>?_);clear hK K;refine xI 9 (by kernel_rfl) rfl (fun K hK=>?_);go_simp;have q43:=(Ko.out.but (xS.of (p:=p) ((zy w2.heap.size w2).alloc (z8 _) (.cells #[xk k,.int .i64 pl,.slice ma m.len mc] 183))) (by omega)).c4;refine hK.out _ _ q43 (fun _=>?_);clear q43;clear hK K;have uD:Below w2.heap.size w2 (w2.alloc (.cells #[xk k,.int .i64 pl,.slice ma m.len mc] 183)):=(zy _ _).alloc (z8 _) _;have HC3:=z7 (fun i=>xu w2 #[xk k,.int .i64 pl,.slice ma m.len mc] 183 (0,0) i);obtain⟨w3,hw3⟩:∃ w3,w2.alloc (.cells #[xk k,.int .i64 pl,.slice ma m.len mc] 183)=w3:=⟨_,rfl⟩;rw[hw3] at uD HC3 ⊢;have HB3:=z7 (Ko.out.but (xS.of (p:=p) uD) (by omega));have UK:=z7 (dN.out.below uD);have VI:=z7 (Yx.out.but (xS.of (p:=p) uD) (by omega));have VL:=ZN.below uD;have Jh:=uD.size;have D1:acc.len<=2000000:=by
               have:=my.out;have:=HH.out.len;omega
              clear hw3;refine xI 10 (by kernel_rfl) rfl (fun K hK=>?_);rw[if_pos (by rfl)];refine OI KD _ _ rfl (C+1) w1.heap.size _ acc f ws rfl VI.out ⟨w2.heap.size,0,none⟩ 1 1 [xk k,.int .i64 pl,.slice ma m.len mc] rfl rfl ?c1 ?c2 ?c3 (by omega) ?c4 (by rw[HF.out];rfl) (by omega) (by omega) ?c5
              case c1 =>
               intro jj u hu;rw[ur,HC3.out];simpa using hu
              case c2 =>
               intro u hu;simp at hu;rcases hu with rfl|rfl|rfl<;>rfl
              case c3 =>
               rw[HF.out];have hk:vQ w1.heap.size w2.heap.size w2 w3:=⟨uD.size,fun k _ hk=>uD.block k hk⟩;exact⟨[],ma,mc,vs,rfl,qV.out.keep hk (z8 _) uD.size,xY.keep hk (z8 _) uD.size _ _ Yz.out,rfl⟩
              case c4 =>
               intro kk UH;exact(jI.out.lt kk UH).2
              case c5 =>
               intro v' w4 j7 Yo;have VM:=z7 j7;have V5:=z7 (fun kk UH=>(jI.out.lt kk UH).1);have Ep:=z7 (HB3.out.grown Yo (fun e=>by have:=V5.out C e.symm;omega));have YR:=z7 (UK.out.grown Yo (fun q hq=>by have:=V5.out q hq;omega));have VN:=VL.grown Yo (fun q hq=>by have:=V5.out q hq;omega);have yxd:=Yo.size;obtain⟨wP,wR,WR,_⟩:=j7.row;subst WR;clear j7 Yo;refine hK.out _ _ Ep.out.c4 (fun _=>?_);clear hK K;have q44:=Ep.out.c4;have z44:=Ep.out.z 4;refine kx [11,12] 1 rfl (by intro _ _ d _ _ h;cases d<;>exact h) (by kernel_rfl) (by kernel_rfl) Ep.out.c4 ?_;(iterate 2 ((first|refine ty ?_|refine tn ?_);try simp only[pl]))
               refine xq ?_;refine xw 13 (by kernel_rfl) (by kernel_rfl) rfl (fun K hK=>?_);go_simp;refine hK.out _ _ ?_;clear hK K;refine vz (by kernel_rfl) ?_ _;go_wp2;go_roundw
               case rel =>
                refine⟨acc.app f,q,n',_,_,YR.out.own hpC 4 _,VN.own hwC 4 _,Ep.out.zf7,VM.out.but (xS.set C _ 4 _) (by omega),Fo.bG _ _ HLG.out (by rw[HF.out];rfl),Z4.out,by have:=hN.out;omega,?_⟩;rw[Fo.uf,show f.len=1 by rw[HF.out];rfl];have:=my.out;omega
               case measure =>
                rw[vJ (YR.out.own hpC 4 _),vJ Mf.out];omega
            ·have yxg:((acc.len:Int)==0)=false:=by simp[ha0]
             have u1:=gQ.out.at_;have q5:=Rv.out.c5;have z5:=Rv.out.z 5;obtain⟨n',Bh⟩:∃ n',n=n'+1:=⟨n - 1,by have:=gQ.out.here;omega⟩;have ht:=gV.out;rw[Bh,gG,if_pos ⟨Bt,ha0⟩,then_ok] at ht;have Ux:=z7 ht;have dN:=z7 (gQ.out.own hpC 5 (.int .i64 j));have Ko:=z7 (Rv.out.yyq (u := .int .i64 j));have xD:xS p w (w1.setCell ⟨C,5,none⟩ (.int .i64 j)):=Zy.own hwC 5 _;have zb2:=z7 ((HGR.out.but (xS.of (p:=p) xB) (by omega)).but (xS.set C w1 5 (.int .i64 j)) (by omega));obtain⟨y9,hX⟩:∃ X,w1.setCell ⟨C,5,none⟩ (.int .i64 j)=X:=⟨_,rfl⟩;rw[hX] at dN Ko xD zb2;have HX9:=z7 hX;clear hX ht Bh;go_wp2_with fail;rw[HX9.out];refine(j9 p rs j d 125 y9 dN.out (by decide)).mono ?_;rintro e y10 ⟨hq,hx⟩;rw[if_pos Bt] at hq;obtain⟨rfl,hs⟩:=hq;have HTZ:=z7 (Ux.out.trans (HGE.out _ _ Bt));have fS:=z7 hs;have hbz:=xD.trans hx;have wW:=z7 (Ko.out.but hx (by omega));have zb3:=z7 (zb2.out.but hx (by omega));have hCZ:=wW.out.lt;clear hs Bt;go_wp2;rw[HTZ.out];refine bodyPost_ret (v := .iface 177 (.pointer (some ⟨C,0,none⟩))) ?_ rfl ?_
             ·simp[results,results157,go_sem]
             obtain⟨ga2,gc2,OS,DM⟩:=zb3.out.row
             cases OS;have UH:vQ (C+1) y10.heap.size y10 y10:=vy (z8 _);exact⟨⟨⟨_,rfl,[],C,_,_,ws,rfl,hwC,hCZ,wW.out.c0,wW.out.c1,wW.out.c2,(HOV.out ▸  wW.out.c3),wW.out.c4,wW.out.c5,DM.keep UH (by omega) (z8 _),xY.keep UH (by omega) (z8 _) _ _ zb3.out.nodes,rfl⟩,rfl,rfl,fS.out⟩,hbz⟩
           ·have yc0:(xU rs j==125)=false:=by simp[Bt]
            have yv0:=z7 Bt;clear Bt;obtain⟨n',Bh⟩:∃ n',n=n'+1:=⟨n - 1,by have:=gQ.out.here;omega⟩;have ht:=gV.out;rw[Bh,gG,if_neg (fun e=>yv0.out e.1),then_assoc] at ht;obtain⟨r,hr⟩:∃ r,X7 rs msg NB j=r:=⟨_,rfl⟩;rw[hr] at ht;have qU:=z7 (fun W hs hE=>(hr▸LP.out NB j W hs hE:Calls prog 204 #[.pointer (some ⟨p,0,none⟩),.bool NB] W (wx p rs d r W)));have Ux:=z7 ht;have LS:=z7 (fun f q (e:r = .ok (f,q))=>Bn hu.out (hr.trans e));have jI:=z7 (HGR.out.but (xS.of (p:=p) xB) (by omega));have WO:=z7 (Jl.out.but Zy);have R3:=xB.size;have hN:=z7 Bh;clear ht hr Bh;go_wp2_with fail;refine rk (fun W':World=>W'.cell? ⟨C,4,none⟩=some (.slice ga acc.len gc)) 13 [0,1,2,3,4,5,6,7] 6 Rv.out.c4 ?_;(iterate 8 ((first|refine ty ?_|refine tn ?_);try simp only[pl]))
            refine xq ?_;refine xI 8 (by kernel_rfl) rfl (fun K hK=>?_);go_simp;rw[zdj.out];refine(qU.out w1.drew (gQ.out.below (zy _ _).drew) (WO.out.but (xS.refl _ _).drew)).mono ?_;rintro e w2 ⟨hq,qb⟩;have qb:xS p w1 w2:=(xS.refl p w1).drew.trans qb;have ZN:=Zy.trans qb
            cases r with
            | error en =>
             obtain⟨iR,iT⟩:=en;have HQ:=z7 hq;obtain⟨bf,rfl,_,_⟩:=hq;have HTE:=z7 (show R = .error (iR,iT) from Ux.out);go_wp2;exact⟨rfl,by rw[HTE.out];exact HQ.out,ZN⟩
            | ok fq =>
             obtain⟨f,q⟩:=fq;obtain⟨⟨k,pl,m,ma,mc,hf,rfl,LI,vs,vE,kD⟩,uw⟩:=hq;have qV:=z7 vE;have Yz:=z7 kD;have dN:=z7 uw;have Ko:=z7 (Rv.out.but qb (by omega));have Yx:=z7 (jI.out.but qb (by omega));have Z4:=z7 (show R=(gG rs msg NB n' (acc.app f) q).then G from Ux.out);have hjq:=LS.out f q rfl;have HF:=z7 hf;have HMM:=z7 LI;have EN:=uw.here;have hwx:=qb.size;have q4':=Ko.out.c4;clear vE kD uw qb hf LS Ux LI qU;refine hK.out _ _ Ko.out.c4 (fun _=>?_);clear hK K;refine xI 9 (by kernel_rfl) rfl (fun K hK=>?_);go_simp;have q43:=(Ko.out.but (xS.of (p:=p) ((zy w2.heap.size w2).alloc (z8 _) (.cells #[xk k,.int .i64 pl,.slice ma m.len mc] 183))) (by omega)).c4;refine hK.out _ _ q43 (fun _=>?_);clear q43;clear hK K;have uD:Below w2.heap.size w2 (w2.alloc (.cells #[xk k,.int .i64 pl,.slice ma m.len mc] 183)):=(zy _ _).alloc (z8 _) _;have HC3:=z7 (fun i=>xu w2 #[xk k,.int .i64 pl,.slice ma m.len mc] 183 (0,0) i);obtain⟨w3,hw3⟩:∃ w3,w2.alloc (.cells #[xk k,.int .i64 pl,.slice ma m.len mc] 183)=w3:=⟨_,rfl⟩;rw[hw3] at uD HC3 ⊢;have HB3:=z7 (Ko.out.but (xS.of (p:=p) uD) (by omega));have UK:=z7 (dN.out.below uD);have VI:=z7 (Yx.out.but (xS.of (p:=p) uD) (by omega));have VL:=ZN.below uD;have Jh:=uD.size;have D1:acc.len<=2000000:=by
              have:=my.out;have:=HH.out.len;omega
             clear hw3;refine xI 10 (by kernel_rfl) rfl (fun K hK=>?_);rw[if_pos (by rfl)];refine OI KD _ _ rfl (C+1) w1.heap.size _ acc f ws rfl VI.out ⟨w2.heap.size,0,none⟩ 1 1 [xk k,.int .i64 pl,.slice ma m.len mc] rfl rfl ?c1 ?c2 ?c3 (by omega) ?c4 (by rw[HF.out];rfl) (by omega) (by omega) ?c5
             case c1 =>
              intro jj u hu;rw[ur,HC3.out];simpa using hu
             case c2 =>
              intro u hu;simp at hu;rcases hu with rfl|rfl|rfl<;>rfl
             case c3 =>
              rw[HF.out];have hk:vQ w1.heap.size w2.heap.size w2 w3:=⟨uD.size,fun k _ hk=>uD.block k hk⟩;exact⟨[],ma,mc,vs,rfl,qV.out.keep hk (z8 _) uD.size,xY.keep hk (z8 _) uD.size _ _ Yz.out,rfl⟩
             case c4 =>
              intro kk UH;exact(jI.out.lt kk UH).2
             case c5 =>
              intro v' w4 j7 Yo;have VM:=z7 j7;have V5:=z7 (fun kk UH=>(jI.out.lt kk UH).1);have Ep:=z7 (HB3.out.grown Yo (fun e=>by have:=V5.out C e.symm;omega));have YR:=z7 (UK.out.grown Yo (fun q hq=>by have:=V5.out q hq;omega));have VN:=VL.grown Yo (fun q hq=>by have:=V5.out q hq;omega);have yxd:=Yo.size;obtain⟨wP,wR,WR,_⟩:=j7.row;subst WR;clear j7 Yo;refine hK.out _ _ Ep.out.c4 (fun _=>?_);clear hK K;have q44:=Ep.out.c4;have z44:=Ep.out.z 4;refine kx [11,12] 1 rfl (by intro _ _ d _ _ h;cases d<;>exact h) (by kernel_rfl) (by kernel_rfl) Ep.out.c4 ?_;(iterate 2 ((first|refine ty ?_|refine tn ?_);try simp only[pl]))
              refine xq ?_;refine xw 13 (by kernel_rfl) (by kernel_rfl) rfl (fun K hK=>?_);go_simp;refine hK.out _ _ ?_;clear hK K;refine vz (by kernel_rfl) ?_ _;go_wp2;go_roundw
              case rel =>
               refine⟨acc.app f,q,n',_,_,YR.out.own hpC 4 _,VN.own hwC 4 _,Ep.out.zf7,VM.out.but (xS.set C _ 4 _) (by omega),Fo.bG _ _ HLG.out (by rw[HF.out];rfl),Z4.out,by have:=hN.out;omega,?_⟩;rw[Fo.uf,show f.len=1 by rw[HF.out];rfl];have:=my.out;omega
              case measure =>
               rw[vJ (YR.out.own hpC 4 _),vJ Mf.out];omega
       ·rw[if_neg hw] at hq;have ht:=HTY.out;rw[JZ hw] at ht;have lh:=z7 ht;clear ht hw;have HQ:=z7 hq;obtain⟨bf,rfl,_,_⟩:=hq;go_wp2;exact⟨rfl,by rw[lh.out];exact HQ.out,zd2⟩
   ·rw[if_neg rX] at hs;rw[show(xU rs J3==44)=false from by simp[rX]];have WE:=z7 hs;have ht:=lM.out;rw[if_pos rX] at ht;have Rx:=z7 ht;clear ht hs rX rY lM wQ;go_wp2_with fail;refine(j9 p rs J3 d 125 x6 WE.out (by decide)).mono ?_;rintro e x7 ⟨hq,Mj⟩;have WH:=zfk.trans Mj;have lN:=z7 (zfj.out.but Mj (by omega));by_cases hw:xU rs J3=125
    ·rw[if_pos hw] at hq;obtain⟨rfl,hs⟩:=hq;have ht:=Rx.out;rw[UC hw] at ht;have Mg:=z7 ht;have WI:=z7 hs;clear ht hs hw Mj Rx WE;have k0:=lN.out.c0;have k1:=lN.out.c1;have hX:=WH.size;go_wp2;rw[Mg.out];have qz:=fun o=>(zy x7.heap.size x7).alloc (z8 _) o
     refine bodyPost_ret (v := .iface 172 (.pointer (some ⟨x7.heap.size,0,none⟩))) ?_ rfl ?_
     ·simp[results,results157,go_sem]
     exact⟨⟨⟨_,rfl,[],x7.heap.size,rfl,hX,by simp,xu _ _ _ _ _,xu _ _ _ _ _,rfl⟩,rfl,rfl,WI.out.below (qz _)⟩,WH.below (qz _)⟩
    ·rw[if_neg hw] at hq;have ht:=Rx.out;rw[JZ hw] at ht;have Mg:=z7 ht;clear ht hw;have HQ:=z7 hq;obtain⟨bf,rfl,_,_⟩:=hq;go_wp2;exact⟨rfl,by rw[Mg.out];exact HQ.out,WH⟩
 ·rw[if_neg hw] at hq;have ht:=HTW.out;rw[JZ hw] at ht;have lC:=z7 ht;clear ht hw;have HQ:=z7 hq;obtain⟨bf,rfl,_,_⟩:=hq;go_wp2;exact⟨rfl,by rw[lC.out];exact HQ.out,zf9⟩
end Go.Proofs.YthpldolmpinnhaaGreatDoor
