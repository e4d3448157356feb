import Derived.Test.YthpldolmpinnhaaGreatDoorJP12
import Derived.Defers
set_option maxHeartbeats 64000000
open Go.Lib renaming hid→z7
open Go.World renaming block_lt_of_cell?→z8,setCell→zj
open Nat renaming le_refl→zy,lt_of_lt_of_le→zx
open Go.RowKit.Below renaming refl→zv
open Go.Addr renaming block→zu
open Classical renaming byContradiction→zk
open List renaming length_append→zg
open Go.Proofs.Tryz
namespace Go.Proofs.YthpldolmpinnhaaGreatDoor
open Go Go.RowKit
set_option maxRecDepth 10000
theorem PV(B p:Nat)(x:Int)(u:FrameMode)(w:World)(hc:w.cell? ⟨B,0,none⟩=some (.pointer (some ⟨p,0,none⟩)))(hx:w.cell? ⟨p,2,none⟩=some (.int .i64 x))(hz:w.frozen? ⟨p,2,none⟩=false) :
  CallsD prog 156 #[.pointer (some ⟨B,0,none⟩)] u w fun e u' w'=>u'=u/\(e = .returned (.tuple #[])/\w'=w.setCell ⟨p,2,none⟩ (.int .i64 (wrap64 (x - 1)))):=by
 go_enter_d func156,ntmps156
 go_wp2;go_end0
 exact⟨rfl,rfl⟩
theorem Mi{rs:List Int}{msg:Option ky}{num:Bool}{n:Nat}{acc:Fo}{i:Nat}(hn:1<=n):∃ n',n=n'+1/\uF rs msg num n acc i =
  if xX rs i = -1\/xX rs i=125 then .ok (acc,i)
  else if xX rs i=123 then (ZY rs msg i).then fun f j=>uF rs msg num n' (acc.app f) j
  else if xX rs i=35/\num=true then uF rs msg num n' (acc.app (.hash .nil)) (i+1)
  else uF rs msg num n' (acc.xR (kN rs num i).1) (kN rs num i).2:=by
 obtain⟨n',rfl⟩:∃ n',n=n'+1:=⟨n - 1,by omega⟩;exact⟨n',rfl,by rw[uF]⟩
theorem Ka(p:Nat)(rs:List Int)(d:Nat)(msg:Option ky)(hd5:d<=50)(nD:∀ j W,vJ p rs j (d+1) W->KS p W->Calls prog 157 #[.pointer (some ⟨p,0,none⟩)] W (za8 p rs (d+1) (ZY rs msg j) W))(Ak:∀ m,msg=some m->Gv m) :
  mr p rs d (fun num i=>uF rs msg num (rs.length+1) .nil i):=by
 intro num i w h he;have RS:∀ (fn:Fn) (first cap:Array Value) (w:World),(Instr.makeFunc fn first cap).run prog w = .ok (.func fn first cap) w:=fun _ _ _ _=>rfl
 have HH:=z7 h;have G9:=z7 he;have yk8:=z7 nD;have yk9:=z7 (fun j f q (e:ZY rs msg j = .ok (f,q))=>Pf Ak e);have Qp:=h.lt;have Hb:=z7 h.len;obtain⟨R,hR⟩:∃ R,uF rs msg num (rs.length+1) .nil i=R:=⟨_,rfl⟩;show Calls _ _ _ w (za1 p rs d (uF rs msg num (rs.length+1) .nil i) w);rw[hR];have HTW:=z7 hR.symm;clear he nD hR Ak;obtain⟨B,hB⟩:∃ B,w.heap.size=B:=⟨_,rfl⟩;have HB:=z7 hB;have M5:p<B:=by omega
 have jQ:=fun o=>(zv w.heap.size w).alloc (zy _) o
 have ykz:=z7 h;have g6:=h.deep;have z6:=h.z2;clear h;go_enter_defers func111,ntmps111
 go_wp2_with fail;refine Jm ?_;intro W hW;have EB:IntKind.i64.wrap ((d:Int)+1)=((d+1:Nat):Int):=by simp[IntKind.wrap,IntKind.signed,IntKind.bits];omega
 have F1:vJ p rs i (d+1) W/\xl p w W/\W.cell? ⟨B,0,none⟩=some (.pointer (some ⟨p,0,none⟩))/\B<W.heap.size:=by
  rw[hW,show((d:Int)+1)=((d+1:Nat):Int) from by omega];have hs:=ykz.out.zbv (d+1) (by omega);have qs:(w.setCell ⟨p,2,none⟩ (.int .i64 ((d+1:Nat):Int))).heap.size=B:=by rw[←HB.out];simp[zj]
  have qd:=fun o=>(zv (w.setCell ⟨p,2,none⟩ (.int .i64 ((d+1:Nat):Int))).heap.size (w.setCell ⟨p,2,none⟩ (.int .i64 ((d+1:Nat):Int)))).alloc (zy _) o
  have jM:=fun c t fr i=>xq (w.setCell ⟨p,2,none⟩ (.int .i64 ((d+1:Nat):Int))) c t fr i
  rw[qs] at jM;exact⟨hs.below (qd _),(xl.set p w 2 _).below (qd _),jM _ _ _ _,by rw[←qs];simp⟩
 obtain⟨ze7,gP,PB,hBW⟩:=F1;have Cv:=z7 ze7;clear ze7 hW g6 z6 jQ;go_loopw [4] (fun v wr=>∃ acc j n ws,vJ p rs j (d+1) wr/\xl p w wr/\wr.cell? ⟨B,0,none⟩=some (.pointer (some ⟨p,0,none⟩))/\kx (B+1) 112 1 v acc ws wr/\acc.vD=true/\R=uF rs msg num n acc j/\rs.length+1<=n+j/\1<=n/\acc.len<=j/\∀ s,acc.xD=some s->s.length<=4*j) (fun v wr=>rs.length+2 - MK p wr)
 case atStart=>exact⟨.nil,i,rs.length+1,[],Cv.out,gP,PB,kx.start _ _ _ _,rfl,HTW.out,by omega,by omega,Nat.zero_le _,fun s e=>by cases e⟩
 case round =>
  obtain⟨acc,j,n,ws,hs,fg,pb,Xy,Jq,hR,hfu,ZK,Db,Et⟩:=hrel;obtain⟨n',D3,kM⟩:=Mi (rs:=rs) (msg:=msg) (num:=num) (acc:=acc) (i:=j) ZK;rw[kM] at hR;have MW:=z7 hs;have HGR:=z7 Xy;have HM:=z7 Jq;have HR:=z7 hR;have HLA:=z7 Et;have HN:=z7 D3;have Es:=hs.here;obtain⟨ga,gc,rfl,_⟩:=Xy.row;clear hs Xy Jq hR Et D3 kM;go_wp2_with fail;refine(jP p rs j (d+1) wr MW.out).mono ?_;rintro e w1 ⟨rfl,xH⟩;have gM:=z7 (MW.out.below xH);have mY:w1.cell? ⟨B,0,none⟩=some (.pointer (some ⟨p,0,none⟩)):=(xH.cell (z8 _ _ pb)).trans pb;have Gg:=fg.below xH;have jT:=z7 (HGR.out.but (xl.of (p:=p) xH) (by omega));have xyz:B<w1.heap.size:=z8 _ _ mY;have Rc:=xH.size;clear xH pb;obtain⟨r,hr⟩:∃ r,xX rs j=r:=⟨_,rfl⟩;rw[hr];have HQR:=z7 hr;have Lh:=HR.out;rw[hr] at Lh;have Ee:=z7 Lh;clear Lh HR hr;by_cases Zs:r = -1\/r=125
  ·have HT:=z7 (Ee.out.trans (if_pos Zs));have D0:wrap64 (((d+1:Nat):Int) - 1)=(d:Int):=by rw[show((d+1:Nat):Int) - 1=(d:Int) by omega];simp[wrap64];omega
   have HD2:=z7 D0;clear Ee D0;obtain Zs|Zs:=Zs;all_goals
    subst Zs;go_wp2_with fail;refine leaves_cons (f:=156) (args:=#[.pointer (some ⟨B,0,none⟩)]) (by simp) (by simp[go_sem]) ?_;refine(PV B p ((d+1:Nat):Int) _ _ mY gM.out.deep gM.out.z2).mono ?_;rintro e u' KH ⟨rfl,rfl,rfl⟩;simp only[settle];refine⟨.slice ga acc.len gc,by simp[results,results111,go_sem],?_⟩;rw[HT.out,HD2.out];have hG:=jT.out.but (xl.set p w1 2 (.int .i64 d)) (by omega);obtain⟨a,c,hv,vL⟩:=hG.row
    cases hv;have qs:=Gg.size;have hk:vK (B+1) (w1.setCell ⟨p,2,none⟩ (.int .i64 d)).heap.size (w1.setCell ⟨p,2,none⟩ (.int .i64 d)) (w1.setCell ⟨p,2,none⟩ (.int .i64 d)):=vg (zy _);exact⟨⟨⟨_,_,rfl,ws,vL.keep hk (by omega) (zy _),xV.keep hk (by omega) (zy _) _ _ hG.nodes⟩,HM.out,gM.out.zbv d (by omega)⟩,Gg.UM 2 _⟩
  ·have mX:=z7 (Ee.out.trans (if_neg Zs));have e1:(r==-1)=false:=by simpa using fun e=>Zs (.inl e)
   have e2:(r==125)=false:=by simpa using fun e=>Zs (.inr e)
   clear Zs Ee;by_cases AV:r=123
   ·have Ee:=z7 (mX.out.trans (if_pos AV));clear mX e1 e2;subst AV;obtain⟨ra,hra⟩:∃ ra,ZY rs msg j=ra:=⟨_,rfl⟩;have vE:=yk8.out j w1 gM.out (G9.out.but Gg);rw[hra] at vE;have qC:=z7 vE;have Qh:=Ee.out;rw[hra] at Qh;have UK:=z7 Qh;have HRA:=z7 hra;clear vE Qh Ee hra;go_wp2_with fail;refine qC.out.mono ?_;rintro e w2 ⟨hq,q9⟩;have Zw:=Gg.trans q9;have D4:w2.cell? ⟨B,0,none⟩=some (.pointer (some ⟨p,0,none⟩)):=q9.cell mY (by show B≠p;omega);clear qC
    cases ra with
    | error en =>
     obtain⟨mq,mg⟩:=en;have HQ:=z7 hq;obtain⟨bf,rfl,f1,f2,⟨dx,f3,f4⟩,f5,f6⟩:=hq;have HTE:=z7 (show R = .error (mq,mg) from UK.out);go_wp2;refine leaves_cons (f:=156) (args:=#[.pointer (some ⟨B,0,none⟩)]) (by simp) (by simp[go_sem]) ?_;refine(PV B p dx _ _ D4 f3 f4).mono ?_;rintro e u' KH ⟨rfl,rfl,rfl⟩;simp only[settle,List.append_nil,raised];rw[HTE.out];exact⟨⟨bf,rfl,by rw[xd,if_neg (fun e=>by have:=congrArg zu e;simp at this;omega)];exact f1,by rw[xd,if_neg (fun e=>by have:=congrArg zu e;simp at this;omega)];exact f2,⟨_,by rw[xd,if_pos rfl,f3];rfl,by rw[World.frozen?_setCell];exact f4⟩,f5,by simpa[zj] using f6⟩,Zw.UM 2 _⟩
    | ok fq =>
     obtain⟨f,q⟩:=fq;obtain⟨⟨v,rfl,kO⟩,WV,Vt,qU⟩:=hq;have qd:=Dt HRA.out;have xC:=yk9.out _ _ _ HRA.out;obtain⟨T,x,rfl,hT⟩:=kO.one WV Vt qd.1;have YG:=z7 kO;have Zb:=z7 (show R=uF rs msg num n' (acc.app f) q from UK.out);have hql:=qd.2;have si:∀ s,(acc.app f).xD=some s->s.length<=4*q:=fun s e=>by
      rw[ku f (fun e=>by rw[e] at WV;cases WV) acc,qd.1] at e
      cases e
     have ze8:=z7 si;have ykx:=z7 (Fo.ui acc f HM.out Vt);have YD:=z7 (jT.out.but q9 (by omega));have di:=z7 qU;have Qw:=q9.size;have hFL:=z7 WV;clear kO qU UK hT qd si WV Vt q9;go_wp2_with (at_builtin;refine jO ?_);intro W3 kJ;have qd:Below w2.heap.size w2 W3:=by rw[kJ];exact(zv _ _).alloc (zy _) _
     have QM:W3.cell? ⟨w2.heap.size,0,none⟩=some (.iface T x):=by rw[kJ];exact xq _ _ _ _ _
     have VC:=z7 (di.out.below qd);have Vp:=Zw.below qd;have AU:W3.cell? ⟨B,0,none⟩=some (.pointer (some ⟨p,0,none⟩)):=(qd.cell (z8 _ _ D4)).trans D4;have Vo:=z7 (YD.out.but (xl.of (p:=p) qd) (by omega));have Gj:=qd.size;have HN3:=z7 (xV.keep (lo:=w1.heap.size) (hi:=w2.heap.size) (w:=w2) (w':=W3) ⟨qd.size,fun k _ hk=>qd.block k hk⟩ (zy _) qd.size _ _ YG.out);clear kJ;refine Zh bK rfl _ _ rfl (B+1) w1.heap.size _ acc f ws rfl Vo.out ⟨w2.heap.size,0,none⟩ 1 1 [.iface T x] rfl rfl ?h1a1 ?h1a2 ?h1a3 (by omega) ?h1a4 hFL.out (by have:=Hb.out;omega) (by omega) ?h1a5
     case h1a1=>exact cells_one QM
     case h1a2 =>
      intro u hu;simp at hu;subst hu;rfl
     case h1a3=>exact HN3.out
     case h1a4=>exact fun k hk=>zx (jT.out.lt k hk).2 (by omega)
     intro v4 w4 jk gR;have xJ:∀ k,(.slice ga acc.len gc:Value).ownBlock=some k->B+1<=k:=fun k hk=>(jT.out.lt k hk).1
     have bR:=z7 (VC.out.grown gR (fun k hk=>by have:=xJ k hk;omega));have Vs:=Vp.grown gR (fun k hk=>by have:=xJ k hk;omega);have AQ:=gR.cell AU (fun e=>by have:=xJ B e.symm;omega);have Vr:=z7 jk;obtain⟨ga',gc',rfl,_⟩:=jk.row;clear jk gR xJ;go_wp2;go_roundw
     case rel=>exact⟨acc.app f,q,n',_,bR.out,Vs,AQ,Vr.out,ykx.out,Zb.out,by have:=HN.out;omega,by have:=HN.out;omega,by rw[Fo.uK,hFL.out];omega,ze8.out⟩
     case measure =>
      rw[vG bR.out,vG MW.out];omega
   ·have Ee:=z7 (mX.out.trans (if_neg AV));have e3:(r==123)=false:=by simpa using AV
    clear AV mX;by_cases h35:r=35/\num=true
    ·have Zb:=z7 (Ee.out.trans (if_pos h35));clear Ee e1 e2 e3;obtain⟨ykv,yku⟩:=h35;subst ykv;subst yku;have K3:j<rs.length:=by
      apply zk;intro hc;have:=HQR.out;rw[qw (by omega)] at this
      cases this
     have g5:=gM.out.at_;have z5:=gM.out.z1;go_wp2_with (at_builtin;refine jO ?_);intro W3 kJ;rw[show wrap64 ((j:Int)+1)=((j+1:Nat):Int) from by have:=Hb.out;simp[wrap64];omega] at kJ;have De:=gM.out.move (j+1) (by omega);have qd:Below (w1.setCell ⟨p,1,none⟩ (.int .i64 ((j+1:Nat):Int))).heap.size (w1.setCell ⟨p,1,none⟩ (.int .i64 ((j+1:Nat):Int))) W3:=by rw[kJ];exact(zv _ _).alloc (zy _) _
     have qs:(w1.setCell ⟨p,1,none⟩ (.int .i64 ((j+1:Nat):Int))).heap.size=w1.heap.size:=by simp[zj]
     have QM:W3.cell? ⟨w1.heap.size,0,none⟩=some (.iface 264 (.agg #[])):=by rw[kJ,←qs];exact xq _ _ _ _ _
     have VC:=z7 (De.below qd);have Vp:=(Gg.UM 1 (.int .i64 ((j+1:Nat):Int))).below qd;have D4:(w1.setCell ⟨p,1,none⟩ (.int .i64 ((j+1:Nat):Int))).cell? ⟨B,0,none⟩=some (.pointer (some ⟨p,0,none⟩)):=by rw[xd,if_neg (fun e=>by have:=congrArg zu e;simp at this;omega)];exact mY
     have AU:W3.cell? ⟨B,0,none⟩=some (.pointer (some ⟨p,0,none⟩)):=(qd.cell (z8 _ _ D4)).trans D4;have Vo:=z7 ((jT.out.but (xl.set p w1 1 (.int .i64 ((j+1:Nat):Int))) (by omega)).but (xl.of (p:=p) qd) (by omega));have Gj:=qd.size;clear kJ;refine Zh bK rfl _ _ rfl (B+1) w1.heap.size _ acc (.hash .nil) ws rfl Vo.out ⟨w1.heap.size,0,none⟩ 1 1 [.iface 264 (.agg #[])] rfl rfl ?h2a1 ?h2a2 ?h2a3 (by omega) ?h2a4 (show Fo.len (.hash .nil)=1 from rfl) (by have:=Hb.out;omega) (by omega) ?h2a5
     case h2a1=>exact cells_one QM
     case h2a2 =>
      intro u hu;simp at hu;subst hu;rfl
     case h2a3=>exact⟨_,rfl,rfl⟩
     case h2a4=>exact fun k hk=>zx (jT.out.lt k hk).2 (by omega)
     intro v4 w4 jk gR;have xJ:∀ k,(.slice ga acc.len gc:Value).ownBlock=some k->B+1<=k:=fun k hk=>(jT.out.lt k hk).1
     have bR:=z7 (VC.out.grown gR (fun k hk=>by have:=xJ k hk;omega));have Vs:=Vp.grown gR (fun k hk=>by have:=xJ k hk;omega);have AQ:=gR.cell AU (fun e=>by have:=xJ B e.symm;omega);have Vr:=z7 jk;obtain⟨ga',gc',rfl,_⟩:=jk.row;clear jk gR xJ;go_wp2;go_roundw
     case rel=>exact⟨acc.app (.hash .nil),(j+1),n',_,bR.out,Vs,AQ,Vr.out,(Fo.ui _ _ HM.out rfl),Zb.out,by have:=HN.out;omega,by have:=HN.out;omega,by rw[Fo.uK,(show Fo.len (.hash .nil)=1 from rfl)];omega,fun s e=>by rw[ku _ (by simp) acc] at e;cases e⟩
     case measure =>
      rw[vG bR.out,vG MW.out];omega
    ·have mX:=z7 (Ee.out.trans (if_neg h35));clear Ee;have K3:j<rs.length:=by
      apply zk;intro hc;have:=HQR.out;rw[qw (by omega)] at this;rw[←this] at e1
      cases e1
     have Dr:=z7 (A1 p rs j (d+1) num w1 gM.out K3);obtain⟨t,ht⟩:∃ t,(kN rs num j).1=t:=⟨_,rfl⟩;obtain⟨q,hq⟩:∃ q,(kN rs num j).2=q:=⟨_,rfl⟩;have xC:j<q:=by have:=UW rs num j;omega
     have JC:t.length+4*j<=4*q:=by have:=Rs rs num j;rw[ht,hq] at this;exact this
     have hql:q<=rs.length:=by have:=(H6 (num:=num) K3).2;omega
     have hR5:=mX.out;rw[ht,hq] at Dr hR5;have UK:=z7 hR5;have sr:=Hb.out;clear ht hq hR5 mX;have X0:(r==35)=false\/((r==35)=true/\num=false):=by
      by_cases h:r=35
      ·right;exact⟨by simp[h],by cases num;rfl;exact absurd ⟨h,rfl⟩ h35⟩
      ·left;simp[h]
     clear h35;by_cases Gf:acc.len=0
     ·have hl:acc.xD=none:=by
       cases acc<;>simp[Fo.len] at Gf;rfl
      have qX:decide ((0:Int)<(acc.len:Int))=false:=by simp;omega
      have ZK:decide (0<acc.len)=false:=by simp;omega
      have Zb:=z7 (show R=uF rs msg num n' (acc.app (.text t .nil)) q by rw[←uU acc t hl];exact UK.out);clear UK hl Gf;rcases X0 with X0|⟨X0,rfl⟩
      ·go_wp2_with fail;refine Dr.out.mono ?_;rintro e w2 ⟨rfl,qU,q9⟩;have Zw:=Gg.trans q9;have D4:w2.cell? ⟨B,0,none⟩=some (.pointer (some ⟨p,0,none⟩)):=q9.cell mY (by show B≠p;omega);have YD:=z7 (jT.out.but q9 (by omega));have di:=z7 qU;have Qw:=q9.size;clear qU q9;go_wp2_with (at_builtin;refine jO ?_);intro W3 kJ;have qd:Below w2.heap.size w2 W3:=by rw[kJ];exact(zv _ _).alloc (zy _) _
       have QM:W3.cell? ⟨w2.heap.size,0,none⟩=some (.iface 262 (xf t)):=by rw[kJ];exact xq _ _ _ _ _
       have VC:=z7 (di.out.below qd);have Vp:=Zw.below qd;have AU:W3.cell? ⟨B,0,none⟩=some (.pointer (some ⟨p,0,none⟩)):=(qd.cell (z8 _ _ D4)).trans D4;have Vo:=z7 (YD.out.but (xl.of (p:=p) qd) (by omega));have Gj:=qd.size;clear kJ;refine Zh bK rfl _ _ rfl (B+1) w1.heap.size _ acc (.text t .nil) ws rfl Vo.out ⟨w2.heap.size,0,none⟩ 1 1 [.iface 262 (xf t)] rfl rfl ?h3a1 ?h3a2 ?h3a3 (by omega) ?h3a4 (show Fo.len (.text t .nil)=1 from rfl) (by have:=Hb.out;omega) (by omega) ?h3a5
       case h3a1=>exact cells_one QM
       case h3a2 =>
        intro u hu;simp at hu;subst hu;rfl
       case h3a3=>exact⟨_,rfl,rfl⟩
       case h3a4=>exact fun k hk=>zx (jT.out.lt k hk).2 (by omega)
       intro v4 w4 jk gR;have xJ:∀ k,(.slice ga acc.len gc:Value).ownBlock=some k->B+1<=k:=fun k hk=>(jT.out.lt k hk).1
       have bR:=z7 (VC.out.grown gR (fun k hk=>by have:=xJ k hk;omega));have Vs:=Vp.grown gR (fun k hk=>by have:=xJ k hk;omega);have AQ:=gR.cell AU (fun e=>by have:=xJ B e.symm;omega);have Vr:=z7 jk;obtain⟨ga',gc',rfl,_⟩:=jk.row;clear jk gR xJ;go_wp2;go_roundw
       case rel=>exact⟨acc.app (.text t .nil),q,n',_,bR.out,Vs,AQ,Vr.out,(Fo.ui _ _ HM.out rfl),Zb.out,by have:=HN.out;omega,by have:=HN.out;omega,by rw[Fo.uK,(show Fo.len (.text t .nil)=1 from rfl)];omega,fun s e=>by rw[ku _ (by simp) acc] at e;cases e;omega⟩
       case measure =>
        rw[vG bR.out,vG MW.out];omega
      ·go_wp2_with fail;refine Dr.out.mono ?_;rintro e w2 ⟨rfl,qU,q9⟩;have Zw:=Gg.trans q9;have D4:w2.cell? ⟨B,0,none⟩=some (.pointer (some ⟨p,0,none⟩)):=q9.cell mY (by show B≠p;omega);have YD:=z7 (jT.out.but q9 (by omega));have di:=z7 qU;have Qw:=q9.size;clear qU q9;go_wp2_with (at_builtin;refine jO ?_);intro W3 kJ;have qd:Below w2.heap.size w2 W3:=by rw[kJ];exact(zv _ _).alloc (zy _) _
       have QM:W3.cell? ⟨w2.heap.size,0,none⟩=some (.iface 262 (xf t)):=by rw[kJ];exact xq _ _ _ _ _
       have VC:=z7 (di.out.below qd);have Vp:=Zw.below qd;have AU:W3.cell? ⟨B,0,none⟩=some (.pointer (some ⟨p,0,none⟩)):=(qd.cell (z8 _ _ D4)).trans D4;have Vo:=z7 (YD.out.but (xl.of (p:=p) qd) (by omega));have Gj:=qd.size;clear kJ;refine Zh bK rfl _ _ rfl (B+1) w1.heap.size _ acc (.text t .nil) ws rfl Vo.out ⟨w2.heap.size,0,none⟩ 1 1 [.iface 262 (xf t)] rfl rfl ?h4a1 ?h4a2 ?h4a3 (by omega) ?h4a4 (show Fo.len (.text t .nil)=1 from rfl) (by have:=Hb.out;omega) (by omega) ?h4a5
       case h4a1=>exact cells_one QM
       case h4a2 =>
        intro u hu;simp at hu;subst hu;rfl
       case h4a3=>exact⟨_,rfl,rfl⟩
       case h4a4=>exact fun k hk=>zx (jT.out.lt k hk).2 (by omega)
       intro v4 w4 jk gR;have xJ:∀ k,(.slice ga acc.len gc:Value).ownBlock=some k->B+1<=k:=fun k hk=>(jT.out.lt k hk).1
       have bR:=z7 (VC.out.grown gR (fun k hk=>by have:=xJ k hk;omega));have Vs:=Vp.grown gR (fun k hk=>by have:=xJ k hk;omega);have AQ:=gR.cell AU (fun e=>by have:=xJ B e.symm;omega);have Vr:=z7 jk;obtain⟨ga',gc',rfl,_⟩:=jk.row;clear jk gR xJ;go_wp2;go_roundw
       case rel=>exact⟨acc.app (.text t .nil),q,n',_,bR.out,Vs,AQ,Vr.out,(Fo.ui _ _ HM.out rfl),Zb.out,by have:=HN.out;omega,by have:=HN.out;omega,by rw[Fo.uK,(show Fo.len (.text t .nil)=1 from rfl)];omega,fun s e=>by rw[ku _ (by simp) acc] at e;cases e;omega⟩
       case measure =>
        rw[vG bR.out,vG MW.out];omega
     ·have qX:decide ((0:Int)<(acc.len:Int))=true:=by simp;omega
      have ZK:decide (0<acc.len)=true:=by simp;omega
      have Ml:=jT.out.ze6 HM.out (fun e=>Gf (by rw[e];rfl));obtain⟨l,hl⟩:∃ l,acc.xD=l:=⟨_,rfl⟩;rw[hl] at Ml
      cases l with
      | none =>
       have Zb:=z7 (show R=uF rs msg num n' (acc.app (.text t .nil)) q by rw[←uU acc t hl];exact UK.out);obtain⟨us,T,x,VL,hul,hT⟩:=Ml;clear UK hl;have has:∀ W,(Instr.typeAssert (.iface T x) 112 262 true).run prog W = .ok (.tuple #[.string ⟨#[]⟩,.bool false]) W:=by
        intro W;rcases hT with⟨rfl,rfl⟩|⟨rfl,b,rfl⟩|⟨rfl,b,rfl⟩|⟨rfl,b,rfl⟩
        ·exact Hd W
        ·exact Mc b W
        ·exact Me b W
        ·exact Rt b W
       clear hT;obtain⟨g,zx4,hgv,Dj,hgl,vU⟩:=vQ jT.out.1 (by omega);obtain⟨rfl,rfl⟩:ga=some ⟨g,0,none⟩/\gc=zx4:=by cases hgv;exact⟨rfl,rfl⟩
       have AK:w1.cell? ⟨g,acc.len - 1,none⟩=some (.iface T x):=by
        rw[vU (acc.len - 1) (by omega),VL,show acc.len - 1=us.length by omega];simp
       have wo:(acc.len:Int) - 1=((acc.len - 1:Nat):Int):=by omega
       have C6:((acc.len - 1:Nat):Int)<(acc.len:Int):=by omega
       have hi3:decide (((acc.len - 1:Nat):Int)<(acc.len:Int))=true:=by simp;omega
       clear vU;clear VL hul;rcases X0 with X0|⟨X0,rfl⟩
       ·go_wp2_with fail;refine Dr.out.mono ?_;rintro e w2 ⟨rfl,qU,q9⟩;have Zw:=Gg.trans q9;have D4:w2.cell? ⟨B,0,none⟩=some (.pointer (some ⟨p,0,none⟩)):=q9.cell mY (by show B≠p;omega);have YD:=z7 (jT.out.but q9 (by omega));have di:=z7 qU;have Qw:=q9.size;have MG:w2.cell? ⟨g,acc.len - 1,none⟩=some (.iface T x):=q9.cell AK (by show g≠p;omega);clear qU q9;go_wp2_with (at_builtin;refine jO ?_);intro W3 kJ;have qd:Below w2.heap.size w2 W3:=by rw[kJ];exact(zv _ _).alloc (zy _) _
        have QM:W3.cell? ⟨w2.heap.size,0,none⟩=some (.iface 262 (xf t)):=by rw[kJ];exact xq _ _ _ _ _
        have VC:=z7 (di.out.below qd);have Vp:=Zw.below qd;have AU:W3.cell? ⟨B,0,none⟩=some (.pointer (some ⟨p,0,none⟩)):=(qd.cell (z8 _ _ D4)).trans D4;have Vo:=z7 (YD.out.but (xl.of (p:=p) qd) (by omega));have Gj:=qd.size;clear kJ;refine Zh bK rfl _ _ rfl (B+1) w1.heap.size _ acc (.text t .nil) ws rfl Vo.out ⟨w2.heap.size,0,none⟩ 1 1 [.iface 262 (xf t)] rfl rfl ?h5a1 ?h5a2 ?h5a3 (by omega) ?h5a4 (show Fo.len (.text t .nil)=1 from rfl) (by have:=Hb.out;omega) (by omega) ?h5a5
        case h5a1=>exact cells_one QM
        case h5a2 =>
         intro u hu;simp at hu;subst hu;rfl
        case h5a3=>exact⟨_,rfl,rfl⟩
        case h5a4=>exact fun k hk=>zx (jT.out.lt k hk).2 (by omega)
        intro v4 w4 jk gR;have xJ:∀ k,(.slice (some ⟨g,0,none⟩) acc.len gc:Value).ownBlock=some k->B+1<=k:=fun k hk=>(jT.out.lt k hk).1
        have bR:=z7 (VC.out.grown gR (fun k hk=>by have:=xJ k hk;omega));have Vs:=Vp.grown gR (fun k hk=>by have:=xJ k hk;omega);have AQ:=gR.cell AU (fun e=>by have:=xJ B e.symm;omega);have Vr:=z7 jk;obtain⟨ga',gc',rfl,_⟩:=jk.row;clear jk gR xJ;go_wp2;go_roundw
        case rel=>exact⟨acc.app (.text t .nil),q,n',_,bR.out,Vs,AQ,Vr.out,(Fo.ui _ _ HM.out rfl),Zb.out,by have:=HN.out;omega,by have:=HN.out;omega,by rw[Fo.uK,(show Fo.len (.text t .nil)=1 from rfl)];omega,fun s e=>by rw[ku _ (by simp) acc] at e;cases e;omega⟩
        case measure =>
         rw[vG bR.out,vG MW.out];omega
       ·go_wp2_with fail;refine Dr.out.mono ?_;rintro e w2 ⟨rfl,qU,q9⟩;have Zw:=Gg.trans q9;have D4:w2.cell? ⟨B,0,none⟩=some (.pointer (some ⟨p,0,none⟩)):=q9.cell mY (by show B≠p;omega);have YD:=z7 (jT.out.but q9 (by omega));have di:=z7 qU;have Qw:=q9.size;have MG:w2.cell? ⟨g,acc.len - 1,none⟩=some (.iface T x):=q9.cell AK (by show g≠p;omega);clear qU q9;go_wp2_with (at_builtin;refine jO ?_);intro W3 kJ;have qd:Below w2.heap.size w2 W3:=by rw[kJ];exact(zv _ _).alloc (zy _) _
        have QM:W3.cell? ⟨w2.heap.size,0,none⟩=some (.iface 262 (xf t)):=by rw[kJ];exact xq _ _ _ _ _
        have VC:=z7 (di.out.below qd);have Vp:=Zw.below qd;have AU:W3.cell? ⟨B,0,none⟩=some (.pointer (some ⟨p,0,none⟩)):=(qd.cell (z8 _ _ D4)).trans D4;have Vo:=z7 (YD.out.but (xl.of (p:=p) qd) (by omega));have Gj:=qd.size;clear kJ;refine Zh bK rfl _ _ rfl (B+1) w1.heap.size _ acc (.text t .nil) ws rfl Vo.out ⟨w2.heap.size,0,none⟩ 1 1 [.iface 262 (xf t)] rfl rfl ?h6a1 ?h6a2 ?h6a3 (by omega) ?h6a4 (show Fo.len (.text t .nil)=1 from rfl) (by have:=Hb.out;omega) (by omega) ?h6a5
        case h6a1=>exact cells_one QM
        case h6a2 =>
         intro u hu;simp at hu;subst hu;rfl
        case h6a3=>exact⟨_,rfl,rfl⟩
        case h6a4=>exact fun k hk=>zx (jT.out.lt k hk).2 (by omega)
        intro v4 w4 jk gR;have xJ:∀ k,(.slice (some ⟨g,0,none⟩) acc.len gc:Value).ownBlock=some k->B+1<=k:=fun k hk=>(jT.out.lt k hk).1
        have bR:=z7 (VC.out.grown gR (fun k hk=>by have:=xJ k hk;omega));have Vs:=Vp.grown gR (fun k hk=>by have:=xJ k hk;omega);have AQ:=gR.cell AU (fun e=>by have:=xJ B e.symm;omega);have Vr:=z7 jk;obtain⟨ga',gc',rfl,_⟩:=jk.row;clear jk gR xJ;go_wp2;go_roundw
        case rel=>exact⟨acc.app (.text t .nil),q,n',_,bR.out,Vs,AQ,Vr.out,(Fo.ui _ _ HM.out rfl),Zb.out,by have:=HN.out;omega,by have:=HN.out;omega,by rw[Fo.uK,(show Fo.len (.text t .nil)=1 from rfl)];omega,fun s e=>by rw[ku _ (by simp) acc] at e;cases e;omega⟩
        case measure =>
         rw[vG bR.out,vG MW.out];omega
      | some s =>
       obtain⟨us,VL,hul⟩:=Ml;have dm:=HLA.out s hl;have has:=fun W=>Hf s W
       have HL:=z7 hl;clear hl;have nE:(9223372036854775807<s.length+t.length)=False:=by simp;omega
       obtain⟨g,zx4,hgv,Dj,hgl,vU⟩:=vQ jT.out.1 (by omega);obtain⟨rfl,rfl⟩:ga=some ⟨g,0,none⟩/\gc=zx4:=by cases hgv;exact⟨rfl,rfl⟩
       have AK:w1.cell? ⟨g,acc.len - 1,none⟩=some (.iface 262 (xf s)):=by
        rw[vU (acc.len - 1) (by omega),VL,show acc.len - 1=us.length by omega];simp
       have wo:(acc.len:Int) - 1=((acc.len - 1:Nat):Int):=by omega
       have C6:((acc.len - 1:Nat):Int)<(acc.len:Int):=by omega
       have hi3:decide (((acc.len - 1:Nat):Int)<(acc.len:Int))=true:=by simp;omega
       clear vU;rcases X0 with X0|⟨X0,rfl⟩
       ·go_wp2_with fail;refine Dr.out.mono ?_;rintro e w2 ⟨rfl,qU,q9⟩;have Zw:=Gg.trans q9;have D4:w2.cell? ⟨B,0,none⟩=some (.pointer (some ⟨p,0,none⟩)):=q9.cell mY (by show B≠p;omega);have YD:=z7 (jT.out.but q9 (by omega));have di:=z7 qU;have Qw:=q9.size;have MG:w2.cell? ⟨g,acc.len - 1,none⟩=some (.iface 262 (xf s)):=q9.cell AK (by show g≠p;omega);have hzc:w2.frozen? ⟨g,acc.len - 1,none⟩=false:=YD.out.1.frozenAt _;clear qU q9;have HJ:=z7 (YD.out.Ck HM.out HL.out VL hul t);go_wp2;have zx7:acc.len - 1=us.length:=by omega
        rw[Xw,zx7];have hj:=HJ.out;rw[HJ.out.2] at hj;have hS3:=di.out.own (B:=g) (by omega) us.length (.iface 262 (xf (s++t)));go_roundw
        case rel=>exact⟨acc.xR t,q,n',_,hS3,Zw.own (by omega) _ _,by rw[xd,if_neg (fun e=>by have:=congrArg zu e;simp at this;omega)];exact D4,hj.1,(JI HM.out HL.out t).1,UK.out,by have:=HN.out;omega,by have:=HN.out;omega,by rw[HJ.out.2];omega,fun x e=>by rw[(JI HM.out HL.out t).2] at e;cases e;rw[zg];omega⟩
        case measure =>
         rw[vG hS3,vG MW.out];omega
       ·go_wp2_with fail;refine Dr.out.mono ?_;rintro e w2 ⟨rfl,qU,q9⟩;have Zw:=Gg.trans q9;have D4:w2.cell? ⟨B,0,none⟩=some (.pointer (some ⟨p,0,none⟩)):=q9.cell mY (by show B≠p;omega);have YD:=z7 (jT.out.but q9 (by omega));have di:=z7 qU;have Qw:=q9.size;have MG:w2.cell? ⟨g,acc.len - 1,none⟩=some (.iface 262 (xf s)):=q9.cell AK (by show g≠p;omega);have hzc:w2.frozen? ⟨g,acc.len - 1,none⟩=false:=YD.out.1.frozenAt _;clear qU q9;have HJ:=z7 (YD.out.Ck HM.out HL.out VL hul t);go_wp2;have zx7:acc.len - 1=us.length:=by omega
        rw[Xw,zx7];have hj:=HJ.out;rw[HJ.out.2] at hj;have hS3:=di.out.own (B:=g) (by omega) us.length (.iface 262 (xf (s++t)));go_roundw
        case rel=>exact⟨acc.xR t,q,n',_,hS3,Zw.own (by omega) _ _,by rw[xd,if_neg (fun e=>by have:=congrArg zu e;simp at this;omega)];exact D4,hj.1,(JI HM.out HL.out t).1,UK.out,by have:=HN.out;omega,by have:=HN.out;omega,by rw[HJ.out.2];omega,fun x e=>by rw[(JI HM.out HL.out t).2] at e;cases e;rw[zg];omega⟩
        case measure =>
         rw[vG hS3,vG MW.out];omega
theorem PU(p:Nat)(rs:List Int):∀ (n:Nat),n<=5->mr p rs (5 - n) (fF rs n)
 | 0,_=>Ka p rs 5 none (by omega) (fun j W hs he=>Ua p rs j 6 none W hs he ⟨fun _=>rfl,fun _=>rfl⟩ (fun m e=>by cases e) (fun m e=>by cases e)) (fun m e=>by cases e)
 | n+1,h=>by
  have ih:=PU p rs n (by omega);have e:5 - n=5 - (n+1)+1:=by omega
  rw[e] at ih;exact Ka p rs (5 - (n+1)) (some (fF rs n)) (by omega) (fun j W hs he=>Ua p rs j (5 - (n+1)+1) (some (fF rs n)) W hs he ⟨fun h=>(by cases h),fun h=>(by omega)⟩ (fun m e=>by cases e;exact ih) (fun m e=>by cases e;exact Cx rs n)) (fun m e=>by cases e;exact Cx rs n)
def ux(l:List UInt8):Bool:=l.all xQ && !l.isEmpty
theorem AJ(s:ByteArray)(h:0<s.size):s.data.toList.headD 0=s[0]:=by
 rw[←getElem_toList s 0 h,List.headD_eq_head?_getD,List.head?_eq_getElem?,List.getElem?_eq_getElem (by simpa using h)];rfl
set_option maxRecDepth 10000
def jd(r:Int):Bool:=decide (0<=r/\r<=0x10FFFF/\(r<0xD800\/0xDFFF<r))
def PQ(l:List UInt8)(v:Nat):Nat:=l.foldl (fun v c=>64*v+(c.toNat - 128)) v
def bW(c:UInt8):Bool:=128<=c && c<=191
def least(n:Nat):Int:=if n=4 then 65536 else if n=3 then 2048 else if n=2 then 128 else 0
def qu(l:List UInt8)(n v:Nat):Nat :=
 if l.length<n then 0 else if (l.tail.take (n - 1)).all bW=false then 0
 else if (PQ (l.tail.take (n - 1)) v:Int)<least n\/jd (PQ (l.tail.take (n - 1)) v)=false then 0 else n
def xr(l:List UInt8):Nat :=
 let c:=(l.headD 0).toNat
 if 240<=c/\c<248 then qu l 4 (c - 240)
 else if 224<=c/\c<240 then qu l 3 (c - 224)
 else if 192<=c/\c<224 then qu l 2 (c - 192)
 else if 128<=c then 0
 else qu l 1 c
theorem Gd(c:UInt8):bW c=true ↔ (128:Int)<=(c.toNat:Int)/\(c.toNat:Int)<=191:=by
 simp[bW,UInt8.le_iff_toNat_le];omega
theorem qR{l:List UInt8}{n v:Nat}(H:(240<=(l.headD 0).toNat/\(l.headD 0).toNat<248/\n=4/\v=(l.headD 0).toNat - 240) \/
  (224<=(l.headD 0).toNat/\(l.headD 0).toNat<240/\n=3/\v=(l.headD 0).toNat - 224) \/
  (192<=(l.headD 0).toNat/\(l.headD 0).toNat<224/\n=2/\v=(l.headD 0).toNat - 192) \/
  ((l.headD 0).toNat<128/\n=1/\v=(l.headD 0).toNat)):xr l=qu l n v:=by
 unfold xr;rcases H with⟨h1,h2,rfl,rfl⟩|⟨h1,h2,rfl,rfl⟩|⟨h1,h2,rfl,rfl⟩|⟨h1,rfl,rfl⟩
 ·rw[if_pos ⟨h1,h2⟩]
 ·rw[if_neg (by omega),if_pos ⟨h1,h2⟩]
 ·rw[if_neg (by omega),if_neg (by omega),if_pos ⟨h1,h2⟩]
 ·rw[if_neg (by omega),if_neg (by omega),if_neg (by omega),if_neg (by omega)]
theorem jG{l:List UInt8}{n v:Nat}(h:l.length<n):qu l n v=0:=by rw[qu,if_pos h]
theorem Rh(l:List UInt8)(n v:Nat):qu l n v<=l.length/\qu l n v<=n:=by
 unfold qu;repeat' split
 all_goals omega
theorem XU(l:List UInt8):xr l<=l.length/\xr l<=4:=by
 have h:=fun n v=>Rh l n v
 unfold xr;simp only[];split
 ·exact h 4 _
 split
 ·exact⟨(h 3 _).1,by have:=(h 3 ((l.headD 0).toNat - 224)).2;omega⟩
 split
 ·exact⟨(h 2 _).1,by have:=(h 2 ((l.headD 0).toNat - 192)).2;omega⟩
 split
 ·omega
 ·exact⟨(h 1 _).1,by have:=(h 1 ((l.headD 0).toNat)).2;omega⟩
def vo(l:List UInt8):List (List UInt8)×Nat :=
 if h:l=[]\/xr l=0 then ([],0) else
  let r:=vo (l.drop (xr l))
  (l.take (xr l)::r.1,xr l+r.2)
 termination_by l.length
 decreasing_by
  simp only[not_or] at h;have:=List.length_pos_iff.2 h.1;simp;omega
theorem qT:vo []=([],0):=by rw[vo];simp
theorem Y0{l:List UInt8}(h:xr l=0):vo l=([],0):=by rw[vo];simp[h]
theorem jF{l:List UInt8}(h0:l≠[])(h:xr l≠0):vo l=(l.take (xr l)::(vo (l.drop (xr l))).1,xr l+(vo (l.drop (xr l))).2):=by
 rw[vo,dif_neg (by simp[h0,h])]
end Go.Proofs.YthpldolmpinnhaaGreatDoor
