import Derived.Test.YthpldolmpinnhaaGreatDoorJF12
import Derived.Defers
set_option maxHeartbeats 64000000
open Go.Lib renaming hid→z7
open Go.World renaming block_lt_of_cell?→z8,setCell→zj
open Nat renaming le_refl→zy,lt_of_lt_of_le→zx
open Go.RowKit.Below renaming refl→zv
open Go.Addr renaming block→zu
open Classical renaming byContradiction→zk
open List renaming length_append→zg
open Go.Proofs.Tryz
namespace Go.Proofs.YthpldolmpinnhaaGreatDoor
open Go Go.RowKit
set_option maxRecDepth 10000
theorem Ph(B p:Nat)(x:Int)(u:FrameMode)(w:World)(hc:w.cell? ⟨B,0,none⟩=some (.pointer (some ⟨p,0,none⟩)))(hx:w.cell? ⟨p,2,none⟩=some (.int .i64 x))(hz:w.frozen? ⟨p,2,none⟩=false) :
  CallsD prog 156 #[.pointer (some ⟨B,0,none⟩)] u w fun e u' w'=>u'=u/\(e = .returned (.tuple #[])/\w'=w.setCell ⟨p,2,none⟩ (.int .i64 (wrap64 (x - 1)))):=by
 go_enter_d func156,ntmps156
 go_wp2;go_end0
 exact⟨rfl,rfl⟩
theorem NG{rs:List Int}{msg:Option kC}{num:Bool}{n:Nat}{acc:Fo}{i:Nat}(hn:1<=n):∃ n',n=n'+1/\qC rs msg num n acc i =
  if xU rs i = -1\/xU rs i=125 then .ok (acc,i)
  else if xU rs i=123 then (YX rs msg i).then fun f j=>qC rs msg num n' (acc.app f) j
  else if xU rs i=35/\num=true then qC rs msg num n' (acc.app (.hash .nil)) (i+1)
  else qC rs msg num n' (acc.xL (j5 rs num i).1) (j5 rs num i).2:=by
 obtain⟨n',rfl⟩:∃ n',n=n'+1:=⟨n - 1,by omega⟩;exact⟨n',rfl,by rw[qC]⟩
theorem Ks(p:Nat)(rs:List Int)(d:Nat)(msg:Option kC)(hd5:d<=50)(zij:∀ j W,vK p rs j (d+1) W->Ko p W->Calls prog 157 #[.pointer (some ⟨p,0,none⟩)] W (zcf p rs (d+1) (YX rs msg j) W))(AM:∀ m,msg=some m->GG m) :
  oU p rs d (fun num i=>qC rs msg num (rs.length+1) .nil i):=by
 intro num i w h he;have Sk:∀ (fn:Fn) (first cap:Array Value) (w:World),(Instr.makeFunc fn first cap).run prog w = .ok (.func fn first cap) w:=fun _ _ _ _=>rfl
 have HH:=z7 h;have GU:=z7 he;have yg5:=z7 zij;have yg6:=z7 (fun j f q (e:YX rs msg j = .ok (f,q))=>Pn AM e);have K8:=h.lt;have DT:=z7 h.len;obtain⟨R,hR⟩:=xX (qC rs msg num (rs.length+1) .nil i);show Calls _ _ _ w (zcx p rs d (qC rs msg num (rs.length+1) .nil i) w);rw[hR];have HTW:=z7 hR.symm;clear he zij hR AM;obtain⟨B,hB⟩:=xX w.heap.size;have HB:=z7 hB;have Ma:p<B:=by omega
 have jz:=fun o=>(zv w.heap.size w).alloc (zy _) o
 have yg7:=z7 h;have g6:=h.deep;have z6:=h.z2;clear h;go_enter_defers func111,ntmps111
 go_wp2_with fail;refine Gz ?_;intro W hW;have H7:IntKind.i64.wrap ((d:Int)+1)=((d+1:Nat):Int):=by simp[IntKind.wrap,IntKind.signed,IntKind.bits];omega
 have F1:vK p rs i (d+1) W/\xP p w W/\W.cell? ⟨B,0,none⟩=some (.pointer (some ⟨p,0,none⟩))/\B<W.heap.size:=by
  rw[hW,show((d:Int)+1)=((d+1:Nat):Int) from by omega];have hs:=yg7.out.zc0 (d+1) (by omega);have qP:(w.setCell ⟨p,2,none⟩ (.int .i64 ((d+1:Nat):Int))).heap.size=B:=by rw[←HB.out];simp[zj]
  have um:=fun o=>(zv (w.setCell ⟨p,2,none⟩ (.int .i64 ((d+1:Nat):Int))).heap.size (w.setCell ⟨p,2,none⟩ (.int .i64 ((d+1:Nat):Int)))).alloc (zy _) o
  have jy:=fun c t fr i=>xu (w.setCell ⟨p,2,none⟩ (.int .i64 ((d+1:Nat):Int))) c t fr i
  rw[qP] at jy;exact⟨hs.below (um _),(xP.set p w 2 _).below (um _),jy _ _ _ _,by rw[←qP];simp⟩
 obtain⟨zig,jC,PB,hBW⟩:=F1;have CH:=z7 zig;clear zig hW g6 z6 jz;go_loopw [4] (fun v wr=>∃ acc j n ws,vK p rs j (d+1) wr/\xP p w wr/\wr.cell? ⟨B,0,none⟩=some (.pointer (some ⟨p,0,none⟩))/\qm (B+1) 112 1 v acc ws wr/\acc.vG=true/\R=qC rs msg num n acc j/\rs.length+1<=n+j/\1<=n/\acc.len<=j/\∀ s,acc.xG=some s->s.length<=4*j) (fun v wr=>rs.length+2 - N6 p wr)
 case atStart=>exact⟨.nil,i,rs.length+1,[],CH.out,jC,PB,qm.start _ _ _ _,rfl,HTW.out,by omega,by omega,Nat.zero_le _,fun s e=>by cases e⟩
 case round =>
  obtain⟨acc,j,n,ws,hs,fx,pb,Yt,JG,hR,hfu,Zk,DO,I7⟩:=hrel;obtain⟨n',CN,kF⟩:=NG (rs:=rs) (msg:=msg) (num:=num) (acc:=acc) (i:=j) Zk;rw[kF] at hR;have NU:=z7 hs;have HGR:=z7 Yt;have HM:=z7 JG;have HR:=z7 hR;have HLA:=z7 I7;have HN:=z7 CN;have I6:=hs.here;obtain⟨ga,gc,rfl,_⟩:=Yt.row;clear hs Yt JG hR I7 CN kF;go_wp2_with fail;refine(jL p rs j (d+1) wr NU.out).mono ?_;rintro e w1 ⟨rfl,xB⟩;have gC:=z7 (NU.out.below xB);have nO:w1.cell? ⟨B,0,none⟩=some (.pointer (some ⟨p,0,none⟩)):=(xB.cell (z8 _ _ pb)).trans pb;have GH:=fx.below xB;have jO:=z7 (HGR.out.but (xP.of (p:=p) xB) (by omega));have xu1:B<w1.heap.size:=z8 _ _ nO;have Sg:=xB.size;clear xB pb;obtain⟨r,hr⟩:=xX (xU rs j);rw[hr];have HQR:=z7 hr;have JT:=HR.out;rw[hr] at JT;have Dk:=z7 JT;clear JT HR hr;by_cases Zm:r = -1\/r=125
  ·have HT:=z7 (Dk.out.trans (if_pos Zm));have Df:wrap64 (((d+1:Nat):Int) - 1)=(d:Int):=by rw[show((d+1:Nat):Int) - 1=(d:Int) by omega];simp[wrap64];omega
   have HD2:=z7 Df;clear Dk Df;obtain Zm|Zm:=Zm;all_goals
    subst Zm;go_wp2_with fail;refine leaves_cons (f:=156) (args:=#[.pointer (some ⟨B,0,none⟩)]) (by simp) (by simp[go_sem]) ?_;refine(Ph B p ((d+1:Nat):Int) _ _ nO gC.out.deep gC.out.z2).mono ?_;rintro e u' Vx ⟨rfl,rfl,rfl⟩;simp only[settle];refine⟨.slice ga acc.len gc,by simp[results,results111,go_sem],?_⟩;rw[HT.out,HD2.out];have hG:=jO.out.but (xP.set p w1 2 (.int .i64 d)) (by omega);obtain⟨a,c,hv,vD⟩:=hG.row
    cases hv;have qP:=GH.size;have hk:vQ (B+1) (w1.setCell ⟨p,2,none⟩ (.int .i64 d)).heap.size (w1.setCell ⟨p,2,none⟩ (.int .i64 d)) (w1.setCell ⟨p,2,none⟩ (.int .i64 d)):=vx (zy _);exact⟨⟨⟨_,_,rfl,ws,vD.keep hk (by omega) (zy _),xY.keep hk (by omega) (zy _) _ _ hG.nodes⟩,HM.out,gC.out.zc0 d (by omega)⟩,GH.Ue 2 _⟩
  ·have Wi:=z7 (Dk.out.trans (if_neg Zm));have e1:(r==-1)=false:=by simpa using fun e=>Zm (.inl e)
   have e2:(r==125)=false:=by simpa using fun e=>Zm (.inr e)
   clear Zm Dk;by_cases Aa:r=123
   ·have Dk:=z7 (Wi.out.trans (if_pos Aa));clear Wi e1 e2;subst Aa;obtain⟨ra,hra⟩:=xX (YX rs msg j);have vY:=yg5.out j w1 gC.out (GU.out.but GH);rw[hra] at vY;have ur:=z7 vY;have Xk:=Dk.out;rw[hra] at Xk;have UR:=z7 Xk;have HRA:=z7 hra;clear vY Xk Dk hra;go_wp2_with fail;refine ur.out.mono ?_;rintro e w2 ⟨hq,qg⟩;have Zo:=GH.trans qg;have Db:w2.cell? ⟨B,0,none⟩=some (.pointer (some ⟨p,0,none⟩)):=qg.cell nO (by show B≠p;omega);clear ur
    cases ra with
    | error en =>
     obtain⟨nH,nL⟩:=en;have HQ:=z7 hq;obtain⟨bf,rfl,f1,f2,⟨dx,f3,f4⟩,f5,f6⟩:=hq;have wV:=z7 (show R = .error (nH,nL) from UR.out);go_wp2;refine leaves_cons (f:=156) (args:=#[.pointer (some ⟨B,0,none⟩)]) (by simp) (by simp[go_sem]) ?_;refine(Ph B p dx _ _ Db f3 f4).mono ?_;rintro e u' Vx ⟨rfl,rfl,rfl⟩;simp only[settle,List.append_nil,raised];rw[wV.out];exact⟨⟨bf,rfl,by rw[xg,if_neg (fun e=>by have:=congrArg zu e;simp at this;omega)];exact f1,by rw[xg,if_neg (fun e=>by have:=congrArg zu e;simp at this;omega)];exact f2,⟨_,by rw[xg,if_pos rfl,f3];rfl,by rw[World.frozen?_setCell];exact f4⟩,f5,by simpa[zj] using f6⟩,Zo.Ue 2 _⟩
    | ok fq =>
     obtain⟨f,q⟩:=fq;obtain⟨⟨v,rfl,kE⟩,Wl,Uz,ue⟩:=hq;have um:=Bg HRA.out;have xD:=yg6.out _ _ _ HRA.out;obtain⟨T,x,rfl,hT⟩:=kE.one Wl Uz um.1;have YQ:=z7 kE;have Zd:=z7 (show R=qC rs msg num n' (acc.app f) q from UR.out);have hql:=um.2;have wQ:∀ s,(acc.app f).xG=some s->s.length<=4*q:=fun s e=>by
      rw[qo f (fun e=>by rw[e] at Wl;cases Wl) acc,um.1] at e
      cases e
     have zif:=z7 wQ;have yg9:=z7 (Fo.uT acc f HM.out Uz);have YJ:=z7 (jO.out.but qg (by omega));have dv:=z7 ue;have Kv:=qg.size;have hFL:=z7 Wl;clear kE ue UR hT um wQ Wl Uz qg;go_wp2_with (at_builtin;refine jE ?_);intro W3 kT;have um:Below w2.heap.size w2 W3:=by rw[kT];exact(zv _ _).alloc (zy _) _
     have Qe:W3.cell? ⟨w2.heap.size,0,none⟩=some (.iface T x):=by rw[kT];exact xu _ _ _ _ _
     have UO:=z7 (dv.out.below um);have U7:=Zo.below um;have Ac:W3.cell? ⟨B,0,none⟩=some (.pointer (some ⟨p,0,none⟩)):=(um.cell (z8 _ _ Db)).trans Db;have U6:=z7 (YJ.out.but (xP.of (p:=p) um) (by omega));have GC:=um.size;have HN3:=z7 (xY.keep (lo:=w1.heap.size) (hi:=w2.heap.size) (w:=w2) (w':=W3) ⟨um.size,fun k _ hk=>um.block k hk⟩ (zy _) um.size _ _ YQ.out);clear kT;refine Zn bU rfl _ _ rfl (B+1) w1.heap.size _ acc f ws rfl U6.out ⟨w2.heap.size,0,none⟩ 1 1 [.iface T x] rfl rfl ?h1a1 ?h1a2 ?h1a3 (by omega) ?h1a4 hFL.out (by have:=DT.out;omega) (by omega) ?h1a5
     case h1a1=>exact cells_one Qe
     case h1a2 =>
      intro u hu;simp at hu;subst hu;rfl
     case h1a3=>exact HN3.out
     case h1a4=>exact fun k hk=>zx (jO.out.lt k hk).2 (by omega)
     intro v4 w4 jq gL;have xV:∀ k,(.slice ga acc.len gc:Value).ownBlock=some k->B+1<=k:=fun k hk=>(jO.out.lt k hk).1
     have Yq:=z7 (UO.out.grown gL (fun k hk=>by have:=xV k hk;omega));have U9:=U7.grown gL (fun k hk=>by have:=xV k hk;omega);have Ae:=gL.cell Ac (fun e=>by have:=xV B e.symm;omega);have U8:=z7 jq;obtain⟨ga',gc',rfl,_⟩:=jq.row;clear jq gL xV;go_wp2;go_roundw
     case rel=>exact⟨acc.app f,q,n',_,Yq.out,U9,Ae,U8.out,yg9.out,Zd.out,by have:=HN.out;omega,by have:=HN.out;omega,by rw[Fo.ub,hFL.out];omega,zif.out⟩
     case measure =>
      rw[vJ Yq.out,vJ NU.out];omega
   ·have Dk:=z7 (Wi.out.trans (if_neg Aa));have e3:(r==123)=false:=by simpa using Aa
    clear Aa Wi;by_cases h35:r=35/\num=true
    ·have Zd:=z7 (Dk.out.trans (if_pos h35));clear Dk e1 e2 e3;obtain⟨ygz,ygy⟩:=h35;subst ygz;subst ygy;have Qi:j<rs.length:=by
      apply zk;intro hc;have:=HQR.out;rw[kD (by omega)] at this
      cases this
     have g5:=gC.out.at_;have z5:=gC.out.z1;go_wp2_with (at_builtin;refine jE ?_);intro W3 kT;rw[show wrap64 ((j:Int)+1)=((j+1:Nat):Int) from by have:=DT.out;simp[wrap64];omega] at kT;have Bz:=gC.out.move (j+1) (by omega);have um:Below (w1.setCell ⟨p,1,none⟩ (.int .i64 ((j+1:Nat):Int))).heap.size (w1.setCell ⟨p,1,none⟩ (.int .i64 ((j+1:Nat):Int))) W3:=by rw[kT];exact(zv _ _).alloc (zy _) _
     have qP:(w1.setCell ⟨p,1,none⟩ (.int .i64 ((j+1:Nat):Int))).heap.size=w1.heap.size:=by simp[zj]
     have Qe:W3.cell? ⟨w1.heap.size,0,none⟩=some (.iface 264 (.agg #[])):=by rw[kT,←qP];exact xu _ _ _ _ _
     have UO:=z7 (Bz.below um);have U7:=(GH.Ue 1 (.int .i64 ((j+1:Nat):Int))).below um;have Db:(w1.setCell ⟨p,1,none⟩ (.int .i64 ((j+1:Nat):Int))).cell? ⟨B,0,none⟩=some (.pointer (some ⟨p,0,none⟩)):=by rw[xg,if_neg (fun e=>by have:=congrArg zu e;simp at this;omega)];exact nO
     have Ac:W3.cell? ⟨B,0,none⟩=some (.pointer (some ⟨p,0,none⟩)):=(um.cell (z8 _ _ Db)).trans Db;have U6:=z7 ((jO.out.but (xP.set p w1 1 (.int .i64 ((j+1:Nat):Int))) (by omega)).but (xP.of (p:=p) um) (by omega));have GC:=um.size;clear kT;refine Zn bU rfl _ _ rfl (B+1) w1.heap.size _ acc (.hash .nil) ws rfl U6.out ⟨w1.heap.size,0,none⟩ 1 1 [.iface 264 (.agg #[])] rfl rfl ?h2a1 ?h2a2 ?h2a3 (by omega) ?h2a4 (show Fo.len (.hash .nil)=1 from rfl) (by have:=DT.out;omega) (by omega) ?h2a5
     case h2a1=>exact cells_one Qe
     case h2a2 =>
      intro u hu;simp at hu;subst hu;rfl
     case h2a3=>exact⟨_,rfl,rfl⟩
     case h2a4=>exact fun k hk=>zx (jO.out.lt k hk).2 (by omega)
     intro v4 w4 jq gL;have xV:∀ k,(.slice ga acc.len gc:Value).ownBlock=some k->B+1<=k:=fun k hk=>(jO.out.lt k hk).1
     have Yq:=z7 (UO.out.grown gL (fun k hk=>by have:=xV k hk;omega));have U9:=U7.grown gL (fun k hk=>by have:=xV k hk;omega);have Ae:=gL.cell Ac (fun e=>by have:=xV B e.symm;omega);have U8:=z7 jq;obtain⟨ga',gc',rfl,_⟩:=jq.row;clear jq gL xV;go_wp2;go_roundw
     case rel=>exact⟨acc.app (.hash .nil),(j+1),n',_,Yq.out,U9,Ae,U8.out,(Fo.uT _ _ HM.out rfl),Zd.out,by have:=HN.out;omega,by have:=HN.out;omega,by rw[Fo.ub,(show Fo.len (.hash .nil)=1 from rfl)];omega,fun s e=>by rw[qo _ (by simp) acc] at e;cases e⟩
     case measure =>
      rw[vJ Yq.out,vJ NU.out];omega
    ·have Wi:=z7 (Dk.out.trans (if_neg h35));clear Dk;have Qi:j<rs.length:=by
      apply zk;intro hc;have:=HQR.out;rw[kD (by omega)] at this;rw[←this] at e1
      cases e1
     have Bk:=z7 (AY p rs j (d+1) num w1 gC.out Qi);obtain⟨t,ht⟩:=xX ((j5 rs num j).1);obtain⟨q,hq⟩:=xX ((j5 rs num j).2);have xD:j<q:=by have:=Us rs num j;omega
     have Ja:t.length+4*j<=4*q:=by have:=SK rs num j;rw[ht,hq] at this;exact this
     have hql:q<=rs.length:=by have:=(Iy (num:=num) Qi).2;omega
     have hR5:=Wi.out;rw[ht,hq] at Bk hR5;have UR:=z7 hR5;have Ai:=DT.out;clear ht hq hR5 Wi;have X7:(r==35)=false\/((r==35)=true/\num=false):=by
      by_cases h:r=35
      ·right;exact⟨by simp[h],by cases num;rfl;exact absurd ⟨h,rfl⟩ h35⟩
      ·left;simp[h]
     clear h35;by_cases GI:acc.len=0
     ·have hl:acc.xG=none:=by
       cases acc<;>simp[Fo.len] at GI;rfl
      have q9:decide ((0:Int)<(acc.len:Int))=false:=by simp;omega
      have Zk:decide (0<acc.len)=false:=by simp;omega
      have Zd:=z7 (show R=qC rs msg num n' (acc.app (.text t .nil)) q by rw[←ug acc t hl];exact UR.out);clear UR hl GI;rcases X7 with X7|⟨X7,rfl⟩
      ·go_wp2_with fail;refine Bk.out.mono ?_;rintro e w2 ⟨rfl,ue,qg⟩;have Zo:=GH.trans qg;have Db:w2.cell? ⟨B,0,none⟩=some (.pointer (some ⟨p,0,none⟩)):=qg.cell nO (by show B≠p;omega);have YJ:=z7 (jO.out.but qg (by omega));have dv:=z7 ue;have Kv:=qg.size;clear ue qg;go_wp2_with (at_builtin;refine jE ?_);intro W3 kT;have um:Below w2.heap.size w2 W3:=by rw[kT];exact(zv _ _).alloc (zy _) _
       have Qe:W3.cell? ⟨w2.heap.size,0,none⟩=some (.iface 262 (xk t)):=by rw[kT];exact xu _ _ _ _ _
       have UO:=z7 (dv.out.below um);have U7:=Zo.below um;have Ac:W3.cell? ⟨B,0,none⟩=some (.pointer (some ⟨p,0,none⟩)):=(um.cell (z8 _ _ Db)).trans Db;have U6:=z7 (YJ.out.but (xP.of (p:=p) um) (by omega));have GC:=um.size;clear kT;refine Zn bU rfl _ _ rfl (B+1) w1.heap.size _ acc (.text t .nil) ws rfl U6.out ⟨w2.heap.size,0,none⟩ 1 1 [.iface 262 (xk t)] rfl rfl ?h3a1 ?h3a2 ?h3a3 (by omega) ?h3a4 (show Fo.len (.text t .nil)=1 from rfl) (by have:=DT.out;omega) (by omega) ?h3a5
       case h3a1=>exact cells_one Qe
       case h3a2 =>
        intro u hu;simp at hu;subst hu;rfl
       case h3a3=>exact⟨_,rfl,rfl⟩
       case h3a4=>exact fun k hk=>zx (jO.out.lt k hk).2 (by omega)
       intro v4 w4 jq gL;have xV:∀ k,(.slice ga acc.len gc:Value).ownBlock=some k->B+1<=k:=fun k hk=>(jO.out.lt k hk).1
       have Yq:=z7 (UO.out.grown gL (fun k hk=>by have:=xV k hk;omega));have U9:=U7.grown gL (fun k hk=>by have:=xV k hk;omega);have Ae:=gL.cell Ac (fun e=>by have:=xV B e.symm;omega);have U8:=z7 jq;obtain⟨ga',gc',rfl,_⟩:=jq.row;clear jq gL xV;go_wp2;go_roundw
       case rel=>exact⟨acc.app (.text t .nil),q,n',_,Yq.out,U9,Ae,U8.out,(Fo.uT _ _ HM.out rfl),Zd.out,by have:=HN.out;omega,by have:=HN.out;omega,by rw[Fo.ub,(show Fo.len (.text t .nil)=1 from rfl)];omega,fun s e=>by rw[qo _ (by simp) acc] at e;cases e;omega⟩
       case measure =>
        rw[vJ Yq.out,vJ NU.out];omega
      ·go_wp2_with fail;refine Bk.out.mono ?_;rintro e w2 ⟨rfl,ue,qg⟩;have Zo:=GH.trans qg;have Db:w2.cell? ⟨B,0,none⟩=some (.pointer (some ⟨p,0,none⟩)):=qg.cell nO (by show B≠p;omega);have YJ:=z7 (jO.out.but qg (by omega));have dv:=z7 ue;have Kv:=qg.size;clear ue qg;go_wp2_with (at_builtin;refine jE ?_);intro W3 kT;have um:Below w2.heap.size w2 W3:=by rw[kT];exact(zv _ _).alloc (zy _) _
       have Qe:W3.cell? ⟨w2.heap.size,0,none⟩=some (.iface 262 (xk t)):=by rw[kT];exact xu _ _ _ _ _
       have UO:=z7 (dv.out.below um);have U7:=Zo.below um;have Ac:W3.cell? ⟨B,0,none⟩=some (.pointer (some ⟨p,0,none⟩)):=(um.cell (z8 _ _ Db)).trans Db;have U6:=z7 (YJ.out.but (xP.of (p:=p) um) (by omega));have GC:=um.size;clear kT;refine Zn bU rfl _ _ rfl (B+1) w1.heap.size _ acc (.text t .nil) ws rfl U6.out ⟨w2.heap.size,0,none⟩ 1 1 [.iface 262 (xk t)] rfl rfl ?h4a1 ?h4a2 ?h4a3 (by omega) ?h4a4 (show Fo.len (.text t .nil)=1 from rfl) (by have:=DT.out;omega) (by omega) ?h4a5
       case h4a1=>exact cells_one Qe
       case h4a2 =>
        intro u hu;simp at hu;subst hu;rfl
       case h4a3=>exact⟨_,rfl,rfl⟩
       case h4a4=>exact fun k hk=>zx (jO.out.lt k hk).2 (by omega)
       intro v4 w4 jq gL;have xV:∀ k,(.slice ga acc.len gc:Value).ownBlock=some k->B+1<=k:=fun k hk=>(jO.out.lt k hk).1
       have Yq:=z7 (UO.out.grown gL (fun k hk=>by have:=xV k hk;omega));have U9:=U7.grown gL (fun k hk=>by have:=xV k hk;omega);have Ae:=gL.cell Ac (fun e=>by have:=xV B e.symm;omega);have U8:=z7 jq;obtain⟨ga',gc',rfl,_⟩:=jq.row;clear jq gL xV;go_wp2;go_roundw
       case rel=>exact⟨acc.app (.text t .nil),q,n',_,Yq.out,U9,Ae,U8.out,(Fo.uT _ _ HM.out rfl),Zd.out,by have:=HN.out;omega,by have:=HN.out;omega,by rw[Fo.ub,(show Fo.len (.text t .nil)=1 from rfl)];omega,fun s e=>by rw[qo _ (by simp) acc] at e;cases e;omega⟩
       case measure =>
        rw[vJ Yq.out,vJ NU.out];omega
     ·have q9:decide ((0:Int)<(acc.len:Int))=true:=by simp;omega
      have Zk:decide (0<acc.len)=true:=by simp;omega
      have NF:=jO.out.zik HM.out (fun e=>GI (by rw[e];rfl));obtain⟨l,hl⟩:=xX acc.xG;rw[hl] at NF
      cases l with
      | none =>
       have Zd:=z7 (show R=qC rs msg num n' (acc.app (.text t .nil)) q by rw[←ug acc t hl];exact UR.out);obtain⟨us,T,x,Vl,hul,hT⟩:=NF;clear UR hl;have has:∀ W,(Instr.typeAssert (.iface T x) 112 262 true).run prog W = .ok (.tuple #[.string ⟨#[]⟩,.bool false]) W:=by
        intro W;rcases hT with⟨rfl,rfl⟩|⟨rfl,b,rfl⟩|⟨rfl,b,rfl⟩|⟨rfl,b,rfl⟩
        ·exact IU W
        ·exact NK b W
        ·exact NJ b W
        ·exact SJ b W
       clear hT;obtain⟨g,zvb,hgv,DL,hgl,xi⟩:=xl jO.out.1 (by omega);obtain⟨rfl,rfl⟩:ga=some ⟨g,0,none⟩/\gc=zvb:=by cases hgv;exact⟨rfl,rfl⟩
       have Al:w1.cell? ⟨g,acc.len - 1,none⟩=some (.iface T x):=by
        rw[xi (acc.len - 1) (by omega),Vl,show acc.len - 1=us.length by omega];simp
       have hi0:(acc.len:Int) - 1=((acc.len - 1:Nat):Int):=by omega
       have CK:((acc.len - 1:Nat):Int)<(acc.len:Int):=by omega
       have hi3:decide (((acc.len - 1:Nat):Int)<(acc.len:Int))=true:=by simp;omega
       clear xi;clear Vl hul;rcases X7 with X7|⟨X7,rfl⟩
       ·go_wp2_with fail;refine Bk.out.mono ?_;rintro e w2 ⟨rfl,ue,qg⟩;have Zo:=GH.trans qg;have Db:w2.cell? ⟨B,0,none⟩=some (.pointer (some ⟨p,0,none⟩)):=qg.cell nO (by show B≠p;omega);have YJ:=z7 (jO.out.but qg (by omega));have dv:=z7 ue;have Kv:=qg.size;have N9:w2.cell? ⟨g,acc.len - 1,none⟩=some (.iface T x):=qg.cell Al (by show g≠p;omega);clear ue qg;go_wp2_with (at_builtin;refine jE ?_);intro W3 kT;have um:Below w2.heap.size w2 W3:=by rw[kT];exact(zv _ _).alloc (zy _) _
        have Qe:W3.cell? ⟨w2.heap.size,0,none⟩=some (.iface 262 (xk t)):=by rw[kT];exact xu _ _ _ _ _
        have UO:=z7 (dv.out.below um);have U7:=Zo.below um;have Ac:W3.cell? ⟨B,0,none⟩=some (.pointer (some ⟨p,0,none⟩)):=(um.cell (z8 _ _ Db)).trans Db;have U6:=z7 (YJ.out.but (xP.of (p:=p) um) (by omega));have GC:=um.size;clear kT;refine Zn bU rfl _ _ rfl (B+1) w1.heap.size _ acc (.text t .nil) ws rfl U6.out ⟨w2.heap.size,0,none⟩ 1 1 [.iface 262 (xk t)] rfl rfl ?h5a1 ?h5a2 ?h5a3 (by omega) ?h5a4 (show Fo.len (.text t .nil)=1 from rfl) (by have:=DT.out;omega) (by omega) ?h5a5
        case h5a1=>exact cells_one Qe
        case h5a2 =>
         intro u hu;simp at hu;subst hu;rfl
        case h5a3=>exact⟨_,rfl,rfl⟩
        case h5a4=>exact fun k hk=>zx (jO.out.lt k hk).2 (by omega)
        intro v4 w4 jq gL;have xV:∀ k,(.slice (some ⟨g,0,none⟩) acc.len gc:Value).ownBlock=some k->B+1<=k:=fun k hk=>(jO.out.lt k hk).1
        have Yq:=z7 (UO.out.grown gL (fun k hk=>by have:=xV k hk;omega));have U9:=U7.grown gL (fun k hk=>by have:=xV k hk;omega);have Ae:=gL.cell Ac (fun e=>by have:=xV B e.symm;omega);have U8:=z7 jq;obtain⟨ga',gc',rfl,_⟩:=jq.row;clear jq gL xV;go_wp2;go_roundw
        case rel=>exact⟨acc.app (.text t .nil),q,n',_,Yq.out,U9,Ae,U8.out,(Fo.uT _ _ HM.out rfl),Zd.out,by have:=HN.out;omega,by have:=HN.out;omega,by rw[Fo.ub,(show Fo.len (.text t .nil)=1 from rfl)];omega,fun s e=>by rw[qo _ (by simp) acc] at e;cases e;omega⟩
        case measure =>
         rw[vJ Yq.out,vJ NU.out];omega
       ·go_wp2_with fail;refine Bk.out.mono ?_;rintro e w2 ⟨rfl,ue,qg⟩;have Zo:=GH.trans qg;have Db:w2.cell? ⟨B,0,none⟩=some (.pointer (some ⟨p,0,none⟩)):=qg.cell nO (by show B≠p;omega);have YJ:=z7 (jO.out.but qg (by omega));have dv:=z7 ue;have Kv:=qg.size;have N9:w2.cell? ⟨g,acc.len - 1,none⟩=some (.iface T x):=qg.cell Al (by show g≠p;omega);clear ue qg;go_wp2_with (at_builtin;refine jE ?_);intro W3 kT;have um:Below w2.heap.size w2 W3:=by rw[kT];exact(zv _ _).alloc (zy _) _
        have Qe:W3.cell? ⟨w2.heap.size,0,none⟩=some (.iface 262 (xk t)):=by rw[kT];exact xu _ _ _ _ _
        have UO:=z7 (dv.out.below um);have U7:=Zo.below um;have Ac:W3.cell? ⟨B,0,none⟩=some (.pointer (some ⟨p,0,none⟩)):=(um.cell (z8 _ _ Db)).trans Db;have U6:=z7 (YJ.out.but (xP.of (p:=p) um) (by omega));have GC:=um.size;clear kT;refine Zn bU rfl _ _ rfl (B+1) w1.heap.size _ acc (.text t .nil) ws rfl U6.out ⟨w2.heap.size,0,none⟩ 1 1 [.iface 262 (xk t)] rfl rfl ?h6a1 ?h6a2 ?h6a3 (by omega) ?h6a4 (show Fo.len (.text t .nil)=1 from rfl) (by have:=DT.out;omega) (by omega) ?h6a5
        case h6a1=>exact cells_one Qe
        case h6a2 =>
         intro u hu;simp at hu;subst hu;rfl
        case h6a3=>exact⟨_,rfl,rfl⟩
        case h6a4=>exact fun k hk=>zx (jO.out.lt k hk).2 (by omega)
        intro v4 w4 jq gL;have xV:∀ k,(.slice (some ⟨g,0,none⟩) acc.len gc:Value).ownBlock=some k->B+1<=k:=fun k hk=>(jO.out.lt k hk).1
        have Yq:=z7 (UO.out.grown gL (fun k hk=>by have:=xV k hk;omega));have U9:=U7.grown gL (fun k hk=>by have:=xV k hk;omega);have Ae:=gL.cell Ac (fun e=>by have:=xV B e.symm;omega);have U8:=z7 jq;obtain⟨ga',gc',rfl,_⟩:=jq.row;clear jq gL xV;go_wp2;go_roundw
        case rel=>exact⟨acc.app (.text t .nil),q,n',_,Yq.out,U9,Ae,U8.out,(Fo.uT _ _ HM.out rfl),Zd.out,by have:=HN.out;omega,by have:=HN.out;omega,by rw[Fo.ub,(show Fo.len (.text t .nil)=1 from rfl)];omega,fun s e=>by rw[qo _ (by simp) acc] at e;cases e;omega⟩
        case measure =>
         rw[vJ Yq.out,vJ NU.out];omega
      | some s =>
       obtain⟨us,Vl,hul⟩:=NF;have fU:=HLA.out s hl;have has:=fun W=>IV s W
       have HL:=z7 hl;clear hl;have zib:(9223372036854775807<s.length+t.length)=False:=by simp;omega
       obtain⟨g,zvb,hgv,DL,hgl,xi⟩:=xl jO.out.1 (by omega);obtain⟨rfl,rfl⟩:ga=some ⟨g,0,none⟩/\gc=zvb:=by cases hgv;exact⟨rfl,rfl⟩
       have Al:w1.cell? ⟨g,acc.len - 1,none⟩=some (.iface 262 (xk s)):=by
        rw[xi (acc.len - 1) (by omega),Vl,show acc.len - 1=us.length by omega];simp
       have hi0:(acc.len:Int) - 1=((acc.len - 1:Nat):Int):=by omega
       have CK:((acc.len - 1:Nat):Int)<(acc.len:Int):=by omega
       have hi3:decide (((acc.len - 1:Nat):Int)<(acc.len:Int))=true:=by simp;omega
       clear xi;rcases X7 with X7|⟨X7,rfl⟩
       ·go_wp2_with fail;refine Bk.out.mono ?_;rintro e w2 ⟨rfl,ue,qg⟩;have Zo:=GH.trans qg;have Db:w2.cell? ⟨B,0,none⟩=some (.pointer (some ⟨p,0,none⟩)):=qg.cell nO (by show B≠p;omega);have YJ:=z7 (jO.out.but qg (by omega));have dv:=z7 ue;have Kv:=qg.size;have N9:w2.cell? ⟨g,acc.len - 1,none⟩=some (.iface 262 (xk s)):=qg.cell Al (by show g≠p;omega);have hzc:w2.frozen? ⟨g,acc.len - 1,none⟩=false:=YJ.out.1.frozenAt _;clear ue qg;have HJ:=z7 (YJ.out.CO HM.out HL.out Vl hul t);go_wp2;have zu3:acc.len - 1=us.length:=by omega
        rw[V9,zu3];have hj:=HJ.out;rw[HJ.out.2] at hj;have hS3:=dv.out.own (B:=g) (by omega) us.length (.iface 262 (xk (s++t)));go_roundw
        case rel=>exact⟨acc.xL t,q,n',_,hS3,Zo.own (by omega) _ _,by rw[xg,if_neg (fun e=>by have:=congrArg zu e;simp at this;omega)];exact Db,hj.1,(Jl HM.out HL.out t).1,UR.out,by have:=HN.out;omega,by have:=HN.out;omega,by rw[HJ.out.2];omega,fun x e=>by rw[(Jl HM.out HL.out t).2] at e;cases e;rw[zg];omega⟩
        case measure =>
         rw[vJ hS3,vJ NU.out];omega
       ·go_wp2_with fail;refine Bk.out.mono ?_;rintro e w2 ⟨rfl,ue,qg⟩;have Zo:=GH.trans qg;have Db:w2.cell? ⟨B,0,none⟩=some (.pointer (some ⟨p,0,none⟩)):=qg.cell nO (by show B≠p;omega);have YJ:=z7 (jO.out.but qg (by omega));have dv:=z7 ue;have Kv:=qg.size;have N9:w2.cell? ⟨g,acc.len - 1,none⟩=some (.iface 262 (xk s)):=qg.cell Al (by show g≠p;omega);have hzc:w2.frozen? ⟨g,acc.len - 1,none⟩=false:=YJ.out.1.frozenAt _;clear ue qg;have HJ:=z7 (YJ.out.CO HM.out HL.out Vl hul t);go_wp2;have zu3:acc.len - 1=us.length:=by omega
        rw[V9,zu3];have hj:=HJ.out;rw[HJ.out.2] at hj;have hS3:=dv.out.own (B:=g) (by omega) us.length (.iface 262 (xk (s++t)));go_roundw
        case rel=>exact⟨acc.xL t,q,n',_,hS3,Zo.own (by omega) _ _,by rw[xg,if_neg (fun e=>by have:=congrArg zu e;simp at this;omega)];exact Db,hj.1,(Jl HM.out HL.out t).1,UR.out,by have:=HN.out;omega,by have:=HN.out;omega,by rw[HJ.out.2];omega,fun x e=>by rw[(Jl HM.out HL.out t).2] at e;cases e;rw[zg];omega⟩
        case measure =>
         rw[vJ hS3,vJ NU.out];omega
theorem Pw(p:Nat)(rs:List Int):∀ (n:Nat),n<=5->oU p rs (5 - n) (YV rs n)
 | 0,_=>Ks p rs 5 none (by omega) (fun j W hs he=>Uh p rs j 6 none W hs he ⟨fun _=>rfl,fun _=>rfl⟩ (fun m e=>by cases e) (fun m e=>by cases e)) (fun m e=>by cases e)
 | n+1,h=>by
  have ih:=Pw p rs n (by omega);have e:5 - n=5 - (n+1)+1:=by omega
  rw[e] at ih;exact Ks p rs (5 - (n+1)) (some (YV rs n)) (by omega) (fun j W hs he=>Uh p rs j (5 - (n+1)+1) (some (YV rs n)) W hs he ⟨fun h=>(by cases h),fun h=>(by omega)⟩ (fun m e=>by cases e;exact ih) (fun m e=>by cases e;exact CE rs n)) (fun m e=>by cases e;exact CE rs n)
def vW(l:List UInt8):Bool:=l.all xJ && !l.isEmpty
theorem Am(s:ByteArray)(h:0<s.size):s.data.toList.headD 0=s[0]:=by
 rw[←getElem_toList s 0 h,List.headD_eq_head?_getD,List.head?_eq_getElem?,List.getElem?_eq_getElem (by simpa using h)];rfl
set_option maxRecDepth 10000
def fu(r:Int):Bool:=decide (0<=r/\r<=0x10FFFF/\(r<0xD800\/0xDFFF<r))
def An(l:List UInt8)(v:Nat):Nat:=l.foldl (fun v c=>64*v+(c.toNat - 128)) v
def bT(c:UInt8):Bool:=128<=c && c<=191
def least(n:Nat):Int:=if n=4 then 65536 else if n=3 then 2048 else if n=2 then 128 else 0
def qq(l:List UInt8)(n v:Nat):Nat :=
 if l.length<n then 0 else if (l.tail.take (n - 1)).all bT=false then 0
 else if (An (l.tail.take (n - 1)) v:Int)<least n\/fu (An (l.tail.take (n - 1)) v)=false then 0 else n
def xh(l:List UInt8):Nat :=
 let c:=(l.headD 0).toNat
 if 240<=c/\c<248 then qq l 4 (c - 240)
 else if 224<=c/\c<240 then qq l 3 (c - 224)
 else if 192<=c/\c<224 then qq l 2 (c - 192)
 else if 128<=c then 0
 else qq l 1 c
theorem GL(c:UInt8):bT c=true ↔ (128:Int)<=(c.toNat:Int)/\(c.toNat:Int)<=191:=by
 simp[bT,UInt8.le_iff_toNat_le];omega
theorem qE{l:List UInt8}{n v:Nat}(H:(240<=(l.headD 0).toNat/\(l.headD 0).toNat<248/\n=4/\v=(l.headD 0).toNat - 240) \/
  (224<=(l.headD 0).toNat/\(l.headD 0).toNat<240/\n=3/\v=(l.headD 0).toNat - 224) \/
  (192<=(l.headD 0).toNat/\(l.headD 0).toNat<224/\n=2/\v=(l.headD 0).toNat - 192) \/
  ((l.headD 0).toNat<128/\n=1/\v=(l.headD 0).toNat)):xh l=qq l n v:=by
 unfold xh;rcases H with⟨h1,h2,rfl,rfl⟩|⟨h1,h2,rfl,rfl⟩|⟨h1,h2,rfl,rfl⟩|⟨h1,rfl,rfl⟩
 ·rw[if_pos ⟨h1,h2⟩]
 ·rw[if_neg (by omega),if_pos ⟨h1,h2⟩]
 ·rw[if_neg (by omega),if_neg (by omega),if_pos ⟨h1,h2⟩]
 ·rw[if_neg (by omega),if_neg (by omega),if_neg (by omega),if_neg (by omega)]
theorem jV{l:List UInt8}{n v:Nat}(h:l.length<n):qq l n v=0:=by rw[qq,if_pos h]
theorem SG(l:List UInt8)(n v:Nat):qq l n v<=l.length/\qq l n v<=n:=by
 unfold qq;repeat' split
 all_goals omega
theorem XB(l:List UInt8):xh l<=l.length/\xh l<=4:=by
 have h:=fun n v=>SG l n v
 unfold xh;simp only[];split
 ·exact h 4 _
 split
 ·exact⟨(h 3 _).1,by have:=(h 3 ((l.headD 0).toNat - 224)).2;omega⟩
 split
 ·exact⟨(h 2 _).1,by have:=(h 2 ((l.headD 0).toNat - 192)).2;omega⟩
 split
 ·omega
 ·exact⟨(h 1 _).1,by have:=(h 1 ((l.headD 0).toNat)).2;omega⟩
def uH(l:List UInt8):List (List UInt8)×Nat :=
 if h:l=[]\/xh l=0 then ([],0) else
  let r:=uH (l.drop (xh l))
  (l.take (xh l)::r.1,xh l+r.2)
 termination_by l.length
 decreasing_by
  simp only[not_or] at h;have:=List.length_pos_iff.2 h.1;simp;omega
theorem kH:uH []=([],0):=by rw[uH];simp
theorem Zp{l:List UInt8}(h:xh l=0):uH l=([],0):=by rw[uH];simp[h]
theorem gj{l:List UInt8}(h0:l≠[])(h:xh l≠0):uH l=(l.take (xh l)::(uH (l.drop (xh l))).1,xh l+(uH (l.drop (xh l))).2):=by
 rw[uH,dif_neg (by simp[h0,h])]
end Go.Proofs.YthpldolmpinnhaaGreatDoor
