import Derived.Test.YthpldolmpinnhaaGreatDoorJK12
import Derived.Defers
set_option maxHeartbeats 64000000
open Go.Lib renaming hid→z7
open Go.World renaming block_lt_of_cell?→z8,setCell→zj
open Nat renaming le_refl→zy,lt_of_lt_of_le→zx
open Go.RowKit.Below renaming refl→zv
open Go.Addr renaming block→zu
open Classical renaming byContradiction→zk
open List renaming length_append→zg
open Go.Proofs.Tryz
namespace Go.Proofs.YthpldolmpinnhaaGreatDoor
open Go Go.RowKit
set_option maxRecDepth 10000
theorem OT(B p:Nat)(x:Int)(u:FrameMode)(w:World)(hc:w.cell? ⟨B,0,none⟩=some (.pointer (some ⟨p,0,none⟩)))(hx:w.cell? ⟨p,2,none⟩=some (.int .i64 x))(hz:w.frozen? ⟨p,2,none⟩=false) :
  CallsD prog 156 #[.pointer (some ⟨B,0,none⟩)] u w fun e u' w'=>u'=u/\(e = .returned (.tuple #[])/\w'=w.setCell ⟨p,2,none⟩ (.int .i64 (wrap64 (x - 1)))):=by
 go_enter_d func156,ntmps156
 go_wp2;go_end0
 exact⟨rfl,rfl⟩
theorem MY{rs:List Int}{msg:Option jK}{num:Bool}{n:Nat}{acc:Fo}{i:Nat}(hn:1<=n):∃ n',n=n'+1/\ql rs msg num n acc i =
  if xU rs i = -1\/xU rs i=125 then .ok (acc,i)
  else if xU rs i=123 then (YW rs msg i).then fun f j=>ql rs msg num n' (acc.app f) j
  else if xU rs i=35/\num=true then ql rs msg num n' (acc.app (.hash .nil)) (i+1)
  else ql rs msg num n' (acc.xM (ki rs num i).1) (ki rs num i).2:=by
 obtain⟨n',rfl⟩:∃ n',n=n'+1:=⟨n - 1,by omega⟩;exact⟨n',rfl,by rw[ql]⟩
theorem KC(p:Nat)(rs:List Int)(d:Nat)(msg:Option jK)(hd5:d<=50)(zb5:∀ j W,vK p rs j (d+1) W->KG p W->Calls prog 157 #[.pointer (some ⟨p,0,none⟩)] W (zf6 p rs (d+1) (YW rs msg j) W))(WC:∀ m,msg=some m->Jp m) :
  lQ p rs d (fun num i=>ql rs msg num (rs.length+1) .nil i):=by
 intro num i w h he;have R0:∀ (fn:Fn) (first cap:Array Value) (w:World),(Instr.makeFunc fn first cap).run prog w = .ok (.func fn first cap) w:=fun _ _ _ _=>rfl
 have HH:=z7 h;have Jl:=z7 he;have yv2:=z7 zb5;have yv3:=z7 (fun j f q (e:YW rs msg j = .ok (f,q))=>OL WC e);have QN:=h.lt;have D4:=z7 h.len;obtain⟨R,hR⟩:∃ R,ql rs msg num (rs.length+1) .nil i=R:=⟨_,rfl⟩;show Calls _ _ _ w (zgb p rs d (ql rs msg num (rs.length+1) .nil i) w);rw[hR];have HTW:=z7 hR.symm;clear he zb5 hR WC;obtain⟨B,hB⟩:∃ B,w.heap.size=B:=⟨_,rfl⟩;have HB:=z7 hB;have LM:p<B:=by omega
 have jg:=fun o=>(zv w.heap.size w).alloc (zy _) o
 have yv4:=z7 h;have g6:=h.deep;have z6:=h.z2;clear h;go_enter_defers func111,ntmps111
 go_wp2_with fail;refine QG ?_;intro W hW;have Ev:IntKind.i64.wrap ((d:Int)+1)=((d+1:Nat):Int):=by simp[IntKind.wrap,IntKind.signed,IntKind.bits];omega
 have F1:vK p rs i (d+1) W/\xS p w W/\W.cell? ⟨B,0,none⟩=some (.pointer (some ⟨p,0,none⟩))/\B<W.heap.size:=by
  rw[hW,show((d:Int)+1)=((d+1:Nat):Int) from by omega];have hs:=yv4.out.zgy (d+1) (by omega);have qa:(w.setCell ⟨p,2,none⟩ (.int .i64 ((d+1:Nat):Int))).heap.size=B:=by rw[←HB.out];simp[zj]
  have qz:=fun o=>(zv (w.setCell ⟨p,2,none⟩ (.int .i64 ((d+1:Nat):Int))).heap.size (w.setCell ⟨p,2,none⟩ (.int .i64 ((d+1:Nat):Int)))).alloc (zy _) o
  have jG:=fun c t fr i=>xu (w.setCell ⟨p,2,none⟩ (.int .i64 ((d+1:Nat):Int))) c t fr i
  rw[qa] at jG;exact⟨hs.below (qz _),(xS.set p w 2 _).below (qz _),jG _ _ _ _,by rw[←qa];simp⟩
 obtain⟨zb6,jT,PB,hBW⟩:=F1;have Br:=z7 zb6;clear zb6 hW g6 z6 jg;go_loopw [4] (fun v wr=>∃ acc j n ws,vK p rs j (d+1) wr/\xS p w wr/\wr.cell? ⟨B,0,none⟩=some (.pointer (some ⟨p,0,none⟩))/\qm (B+1) 112 1 v acc ws wr/\acc.vD=true/\R=ql rs msg num n acc j/\rs.length+1<=n+j/\1<=n/\acc.len<=j/\∀ s,acc.xJ=some s->s.length<=4*j) (fun v wr=>rs.length+2 - M0 p wr)
 case atStart=>exact⟨.nil,i,rs.length+1,[],Br.out,jT,PB,qm.start _ _ _ _,rfl,HTW.out,by omega,by omega,Nat.zero_le _,fun s e=>by cases e⟩
 case round =>
  obtain⟨acc,j,n,ws,hs,gT,pb,Yo,Km,hR,hfu,Zz,D1,EO⟩:=hrel;obtain⟨n',Bh,kG⟩:=MY (rs:=rs) (msg:=msg) (num:=num) (acc:=acc) (i:=j) Zz;rw[kG] at hR;have Mf:=z7 hs;have HGR:=z7 Yo;have HM:=z7 Km;have HR:=z7 hR;have HLA:=z7 EO;have HN:=z7 Bh;have EN:=hs.here;obtain⟨ga,gc,rfl,_⟩:=Yo.row;clear hs Yo Km hR EO Bh kG;go_wp2_with fail;refine(jE p rs j (d+1) wr Mf.out).mono ?_;rintro e w1 ⟨rfl,xB⟩;have gQ:=z7 (Mf.out.below xB);have iA:w1.cell? ⟨B,0,none⟩=some (.pointer (some ⟨p,0,none⟩)):=(xB.cell (z8 _ _ pb)).trans pb;have Jw:=gT.below xB;have jI:=z7 (HGR.out.but (xS.of (p:=p) xB) (by omega));have ypz:B<w1.heap.size:=z8 _ _ iA;have R3:=xB.size;clear xB pb;obtain⟨r,hr⟩:∃ r,xU rs j=r:=⟨_,rfl⟩;rw[hr];have HQR:=z7 hr;have BS:=HR.out;rw[hr] at BS;have ED:=z7 BS;clear BS HR hr;by_cases ZL:r = -1\/r=125
  ·have HT:=z7 (ED.out.trans (if_pos ZL));have FE:wrap64 (((d+1:Nat):Int) - 1)=(d:Int):=by rw[show((d+1:Nat):Int) - 1=(d:Int) by omega];simp[wrap64];omega
   have HD2:=z7 FE;clear ED FE;obtain ZL|ZL:=ZL;all_goals
    subst ZL;go_wp2_with fail;refine leaves_cons (f:=156) (args:=#[.pointer (some ⟨B,0,none⟩)]) (by simp) (by simp[go_sem]) ?_;refine(OT B p ((d+1:Nat):Int) _ _ iA gQ.out.deep gQ.out.z2).mono ?_;rintro e u' Kb ⟨rfl,rfl,rfl⟩;simp only[settle];refine⟨.slice ga acc.len gc,by simp[results,results111,go_sem],?_⟩;rw[HT.out,HD2.out];have hG:=jI.out.but (xS.set p w1 2 (.int .i64 d)) (by omega);obtain⟨a,c,hv,vE⟩:=hG.row
    cases hv;have qa:=Jw.size;have hk:vQ (B+1) (w1.setCell ⟨p,2,none⟩ (.int .i64 d)).heap.size (w1.setCell ⟨p,2,none⟩ (.int .i64 d)) (w1.setCell ⟨p,2,none⟩ (.int .i64 d)):=vy (zy _);exact⟨⟨⟨_,_,rfl,ws,vE.keep hk (by omega) (zy _),xY.keep hk (by omega) (zy _) _ _ hG.nodes⟩,HM.out,gQ.out.zgy d (by omega)⟩,Jw.UY 2 _⟩
  ·have ie:=z7 (ED.out.trans (if_neg ZL));have e1:(r==-1)=false:=by simpa using fun e=>ZL (.inl e)
   have e2:(r==125)=false:=by simpa using fun e=>ZL (.inr e)
   clear ZL ED;by_cases WS:r=123
   ·have ED:=z7 (ie.out.trans (if_pos WS));clear ie e1 e2;subst WS;obtain⟨ra,hra⟩:∃ ra,YW rs msg j=ra:=⟨_,rfl⟩;have vF:=yv2.out j w1 gQ.out (Jl.out.but Jw);rw[hra] at vF;have qU:=z7 vF;have QP:=ED.out;rw[hra] at QP;have Ux:=z7 QP;have HRA:=z7 hra;clear vF QP ED hra;go_wp2_with fail;refine qU.out.mono ?_;rintro e w2 ⟨hq,qb⟩;have ZN:=Jw.trans qb;have FL:w2.cell? ⟨B,0,none⟩=some (.pointer (some ⟨p,0,none⟩)):=qb.cell iA (by show B≠p;omega);clear qU
    cases ra with
    | error en =>
     obtain⟨iR,iT⟩:=en;have HQ:=z7 hq;obtain⟨bf,rfl,f1,f2,⟨dx,f3,f4⟩,f5,f6⟩:=hq;have HTE:=z7 (show R = .error (iR,iT) from Ux.out);go_wp2;refine leaves_cons (f:=156) (args:=#[.pointer (some ⟨B,0,none⟩)]) (by simp) (by simp[go_sem]) ?_;refine(OT B p dx _ _ FL f3 f4).mono ?_;rintro e u' Kb ⟨rfl,rfl,rfl⟩;simp only[settle,List.append_nil,raised];rw[HTE.out];exact⟨⟨bf,rfl,by rw[xf,if_neg (fun e=>by have:=congrArg zu e;simp at this;omega)];exact f1,by rw[xf,if_neg (fun e=>by have:=congrArg zu e;simp at this;omega)];exact f2,⟨_,by rw[xf,if_pos rfl,f3];rfl,by rw[World.frozen?_setCell];exact f4⟩,f5,by simpa[zj] using f6⟩,ZN.UY 2 _⟩
    | ok fq =>
     obtain⟨f,q⟩:=fq;obtain⟨⟨v,rfl,kD⟩,TB,VO,uw⟩:=hq;have qz:=DN HRA.out;have xC:=yv3.out _ _ _ HRA.out;obtain⟨T,x,rfl,hT⟩:=kD.one TB VO qz.1;have Yz:=z7 kD;have Z4:=z7 (show R=ql rs msg num n' (acc.app f) q from Ux.out);have hql:=qz.2;have rQ:∀ s,(acc.app f).xJ=some s->s.length<=4*q:=fun s e=>by
      rw[qo f (fun e=>by rw[e] at TB;cases TB) acc,qz.1] at e
      cases e
     have zb7:=z7 rQ;have yv6:=z7 (Fo.uO acc f HM.out VO);have Yx:=z7 (jI.out.but qb (by omega));have dN:=z7 uw;have QR:=qb.size;have hFL:=z7 TB;clear kD uw Ux hT qz rQ TB VO qb;go_wp2_with (at_builtin;refine jB ?_);intro W3 j6;have qz:Below w2.heap.size w2 W3:=by rw[j6];exact(zv _ _).alloc (zy _) _
     have QV:W3.cell? ⟨w2.heap.size,0,none⟩=some (.iface T x):=by rw[j6];exact xu _ _ _ _ _
     have UK:=z7 (dN.out.below qz);have VL:=ZN.below qz;have WT:W3.cell? ⟨B,0,none⟩=some (.pointer (some ⟨p,0,none⟩)):=(qz.cell (z8 _ _ FL)).trans FL;have VI:=z7 (Yx.out.but (xS.of (p:=p) qz) (by omega));have Jh:=qz.size;have HN3:=z7 (xY.keep (lo:=w1.heap.size) (hi:=w2.heap.size) (w:=w2) (w':=W3) ⟨qz.size,fun k _ hk=>qz.block k hk⟩ (zy _) qz.size _ _ Yz.out);clear j6;refine ZM dw rfl _ _ rfl (B+1) w1.heap.size _ acc f ws rfl VI.out ⟨w2.heap.size,0,none⟩ 1 1 [.iface T x] rfl rfl ?h1a1 ?h1a2 ?h1a3 (by omega) ?h1a4 hFL.out (by have:=D4.out;omega) (by omega) ?h1a5
     case h1a1=>exact cells_one QV
     case h1a2 =>
      intro u hu;simp at hu;subst hu;rfl
     case h1a3=>exact HN3.out
     case h1a4=>exact fun k hk=>zx (jI.out.lt k hk).2 (by omega)
     intro v4 w4 j7 gF;have xV:∀ k,(.slice ga acc.len gc:Value).ownBlock=some k->B+1<=k:=fun k hk=>(jI.out.lt k hk).1
     have YR:=z7 (UK.out.grown gF (fun k hk=>by have:=xV k hk;omega));have VN:=VL.grown gF (fun k hk=>by have:=xV k hk;omega);have WW:=gF.cell WT (fun e=>by have:=xV B e.symm;omega);have VM:=z7 j7;obtain⟨wP,wR,rfl,_⟩:=j7.row;clear j7 gF xV;go_wp2;go_roundw
     case rel=>exact⟨acc.app f,q,n',_,YR.out,VN,WW,VM.out,yv6.out,Z4.out,by have:=HN.out;omega,by have:=HN.out;omega,by rw[Fo.uf,hFL.out];omega,zb7.out⟩
     case measure =>
      rw[vJ YR.out,vJ Mf.out];omega
   ·have ED:=z7 (ie.out.trans (if_neg WS));have e3:(r==123)=false:=by simpa using WS
    clear WS ie;by_cases h35:r=35/\num=true
    ·have Z4:=z7 (ED.out.trans (if_pos h35));clear ED e1 e2 e3;obtain⟨yv7,yv8⟩:=h35;subst yv7;subst yv8;have QS:j<rs.length:=by
      apply zk;intro hc;have:=HQR.out;rw[kF (by omega)] at this
      cases this
     have g5:=gQ.out.at_;have z5:=gQ.out.z1;go_wp2_with (at_builtin;refine jB ?_);intro W3 j6;rw[show wrap64 ((j:Int)+1)=((j+1:Nat):Int) from by have:=D4.out;simp[wrap64];omega] at j6;have DB:=gQ.out.move (j+1) (by omega);have qz:Below (w1.setCell ⟨p,1,none⟩ (.int .i64 ((j+1:Nat):Int))).heap.size (w1.setCell ⟨p,1,none⟩ (.int .i64 ((j+1:Nat):Int))) W3:=by rw[j6];exact(zv _ _).alloc (zy _) _
     have qa:(w1.setCell ⟨p,1,none⟩ (.int .i64 ((j+1:Nat):Int))).heap.size=w1.heap.size:=by simp[zj]
     have QV:W3.cell? ⟨w1.heap.size,0,none⟩=some (.iface 264 (.agg #[])):=by rw[j6,←qa];exact xu _ _ _ _ _
     have UK:=z7 (DB.below qz);have VL:=(Jw.UY 1 (.int .i64 ((j+1:Nat):Int))).below qz;have FL:(w1.setCell ⟨p,1,none⟩ (.int .i64 ((j+1:Nat):Int))).cell? ⟨B,0,none⟩=some (.pointer (some ⟨p,0,none⟩)):=by rw[xf,if_neg (fun e=>by have:=congrArg zu e;simp at this;omega)];exact iA
     have WT:W3.cell? ⟨B,0,none⟩=some (.pointer (some ⟨p,0,none⟩)):=(qz.cell (z8 _ _ FL)).trans FL;have VI:=z7 ((jI.out.but (xS.set p w1 1 (.int .i64 ((j+1:Nat):Int))) (by omega)).but (xS.of (p:=p) qz) (by omega));have Jh:=qz.size;clear j6;refine ZM dw rfl _ _ rfl (B+1) w1.heap.size _ acc (.hash .nil) ws rfl VI.out ⟨w1.heap.size,0,none⟩ 1 1 [.iface 264 (.agg #[])] rfl rfl ?h2a1 ?h2a2 ?h2a3 (by omega) ?h2a4 (show Fo.len (.hash .nil)=1 from rfl) (by have:=D4.out;omega) (by omega) ?h2a5
     case h2a1=>exact cells_one QV
     case h2a2 =>
      intro u hu;simp at hu;subst hu;rfl
     case h2a3=>exact⟨_,rfl,rfl⟩
     case h2a4=>exact fun k hk=>zx (jI.out.lt k hk).2 (by omega)
     intro v4 w4 j7 gF;have xV:∀ k,(.slice ga acc.len gc:Value).ownBlock=some k->B+1<=k:=fun k hk=>(jI.out.lt k hk).1
     have YR:=z7 (UK.out.grown gF (fun k hk=>by have:=xV k hk;omega));have VN:=VL.grown gF (fun k hk=>by have:=xV k hk;omega);have WW:=gF.cell WT (fun e=>by have:=xV B e.symm;omega);have VM:=z7 j7;obtain⟨wP,wR,rfl,_⟩:=j7.row;clear j7 gF xV;go_wp2;go_roundw
     case rel=>exact⟨acc.app (.hash .nil),(j+1),n',_,YR.out,VN,WW,VM.out,(Fo.uO _ _ HM.out rfl),Z4.out,by have:=HN.out;omega,by have:=HN.out;omega,by rw[Fo.uf,(show Fo.len (.hash .nil)=1 from rfl)];omega,fun s e=>by rw[qo _ (by simp) acc] at e;cases e⟩
     case measure =>
      rw[vJ YR.out,vJ Mf.out];omega
    ·have ie:=z7 (ED.out.trans (if_neg h35));clear ED;have QS:j<rs.length:=by
      apply zk;intro hc;have:=HQR.out;rw[kF (by omega)] at this;rw[←this] at e1
      cases e1
     have OO:=z7 (Wk p rs j (d+1) num w1 gQ.out QS);obtain⟨t,ht⟩:∃ t,(ki rs num j).1=t:=⟨_,rfl⟩;obtain⟨q,hq⟩:∃ q,(ki rs num j).2=q:=⟨_,rfl⟩;have xC:j<q:=by have:=UB rs num j;omega
     have Jd:t.length+4*j<=4*q:=by have:=Ru rs num j;rw[ht,hq] at this;exact this
     have hql:q<=rs.length:=by have:=(ET (num:=num) QS).2;omega
     have hR5:=ie.out;rw[ht,hq] at OO hR5;have Ux:=z7 hR5;have il:=D4.out;clear ht hq hR5 ie;have Yc:(r==35)=false\/((r==35)=true/\num=false):=by
      by_cases h:r=35
      ·right;exact⟨by simp[h],by cases num;rfl;exact absurd ⟨h,rfl⟩ h35⟩
      ·left;simp[h]
     clear h35;by_cases G0:acc.len=0
     ·have hl:acc.xJ=none:=by
       cases acc<;>simp[Fo.len] at G0;rfl
      have q9:decide ((0:Int)<(acc.len:Int))=false:=by simp;omega
      have Zz:decide (0<acc.len)=false:=by simp;omega
      have Z4:=z7 (show R=ql rs msg num n' (acc.app (.text t .nil)) q by rw[←uj acc t hl];exact Ux.out);clear Ux hl G0;rcases Yc with Yc|⟨Yc,rfl⟩
      ·go_wp2_with fail;refine OO.out.mono ?_;rintro e w2 ⟨rfl,uw,qb⟩;have ZN:=Jw.trans qb;have FL:w2.cell? ⟨B,0,none⟩=some (.pointer (some ⟨p,0,none⟩)):=qb.cell iA (by show B≠p;omega);have Yx:=z7 (jI.out.but qb (by omega));have dN:=z7 uw;have QR:=qb.size;clear uw qb;go_wp2_with (at_builtin;refine jB ?_);intro W3 j6;have qz:Below w2.heap.size w2 W3:=by rw[j6];exact(zv _ _).alloc (zy _) _
       have QV:W3.cell? ⟨w2.heap.size,0,none⟩=some (.iface 262 (xk t)):=by rw[j6];exact xu _ _ _ _ _
       have UK:=z7 (dN.out.below qz);have VL:=ZN.below qz;have WT:W3.cell? ⟨B,0,none⟩=some (.pointer (some ⟨p,0,none⟩)):=(qz.cell (z8 _ _ FL)).trans FL;have VI:=z7 (Yx.out.but (xS.of (p:=p) qz) (by omega));have Jh:=qz.size;clear j6;refine ZM dw rfl _ _ rfl (B+1) w1.heap.size _ acc (.text t .nil) ws rfl VI.out ⟨w2.heap.size,0,none⟩ 1 1 [.iface 262 (xk t)] rfl rfl ?h3a1 ?h3a2 ?h3a3 (by omega) ?h3a4 (show Fo.len (.text t .nil)=1 from rfl) (by have:=D4.out;omega) (by omega) ?h3a5
       case h3a1=>exact cells_one QV
       case h3a2 =>
        intro u hu;simp at hu;subst hu;rfl
       case h3a3=>exact⟨_,rfl,rfl⟩
       case h3a4=>exact fun k hk=>zx (jI.out.lt k hk).2 (by omega)
       intro v4 w4 j7 gF;have xV:∀ k,(.slice ga acc.len gc:Value).ownBlock=some k->B+1<=k:=fun k hk=>(jI.out.lt k hk).1
       have YR:=z7 (UK.out.grown gF (fun k hk=>by have:=xV k hk;omega));have VN:=VL.grown gF (fun k hk=>by have:=xV k hk;omega);have WW:=gF.cell WT (fun e=>by have:=xV B e.symm;omega);have VM:=z7 j7;obtain⟨wP,wR,rfl,_⟩:=j7.row;clear j7 gF xV;go_wp2;go_roundw
       case rel=>exact⟨acc.app (.text t .nil),q,n',_,YR.out,VN,WW,VM.out,(Fo.uO _ _ HM.out rfl),Z4.out,by have:=HN.out;omega,by have:=HN.out;omega,by rw[Fo.uf,(show Fo.len (.text t .nil)=1 from rfl)];omega,fun s e=>by rw[qo _ (by simp) acc] at e;cases e;omega⟩
       case measure =>
        rw[vJ YR.out,vJ Mf.out];omega
      ·go_wp2_with fail;refine OO.out.mono ?_;rintro e w2 ⟨rfl,uw,qb⟩;have ZN:=Jw.trans qb;have FL:w2.cell? ⟨B,0,none⟩=some (.pointer (some ⟨p,0,none⟩)):=qb.cell iA (by show B≠p;omega);have Yx:=z7 (jI.out.but qb (by omega));have dN:=z7 uw;have QR:=qb.size;clear uw qb;go_wp2_with (at_builtin;refine jB ?_);intro W3 j6;have qz:Below w2.heap.size w2 W3:=by rw[j6];exact(zv _ _).alloc (zy _) _
       have QV:W3.cell? ⟨w2.heap.size,0,none⟩=some (.iface 262 (xk t)):=by rw[j6];exact xu _ _ _ _ _
       have UK:=z7 (dN.out.below qz);have VL:=ZN.below qz;have WT:W3.cell? ⟨B,0,none⟩=some (.pointer (some ⟨p,0,none⟩)):=(qz.cell (z8 _ _ FL)).trans FL;have VI:=z7 (Yx.out.but (xS.of (p:=p) qz) (by omega));have Jh:=qz.size;clear j6;refine ZM dw rfl _ _ rfl (B+1) w1.heap.size _ acc (.text t .nil) ws rfl VI.out ⟨w2.heap.size,0,none⟩ 1 1 [.iface 262 (xk t)] rfl rfl ?h4a1 ?h4a2 ?h4a3 (by omega) ?h4a4 (show Fo.len (.text t .nil)=1 from rfl) (by have:=D4.out;omega) (by omega) ?h4a5
       case h4a1=>exact cells_one QV
       case h4a2 =>
        intro u hu;simp at hu;subst hu;rfl
       case h4a3=>exact⟨_,rfl,rfl⟩
       case h4a4=>exact fun k hk=>zx (jI.out.lt k hk).2 (by omega)
       intro v4 w4 j7 gF;have xV:∀ k,(.slice ga acc.len gc:Value).ownBlock=some k->B+1<=k:=fun k hk=>(jI.out.lt k hk).1
       have YR:=z7 (UK.out.grown gF (fun k hk=>by have:=xV k hk;omega));have VN:=VL.grown gF (fun k hk=>by have:=xV k hk;omega);have WW:=gF.cell WT (fun e=>by have:=xV B e.symm;omega);have VM:=z7 j7;obtain⟨wP,wR,rfl,_⟩:=j7.row;clear j7 gF xV;go_wp2;go_roundw
       case rel=>exact⟨acc.app (.text t .nil),q,n',_,YR.out,VN,WW,VM.out,(Fo.uO _ _ HM.out rfl),Z4.out,by have:=HN.out;omega,by have:=HN.out;omega,by rw[Fo.uf,(show Fo.len (.text t .nil)=1 from rfl)];omega,fun s e=>by rw[qo _ (by simp) acc] at e;cases e;omega⟩
       case measure =>
        rw[vJ YR.out,vJ Mf.out];omega
     ·have q9:decide ((0:Int)<(acc.len:Int))=true:=by simp;omega
      have Zz:decide (0<acc.len)=true:=by simp;omega
      have MX:=jI.out.zb4 HM.out (fun e=>G0 (by rw[e];rfl));obtain⟨l,hl⟩:∃ l,acc.xJ=l:=⟨_,rfl⟩;rw[hl] at MX
      cases l with
      | none =>
       have Z4:=z7 (show R=ql rs msg num n' (acc.app (.text t .nil)) q by rw[←uj acc t hl];exact Ux.out);obtain⟨us,T,x,VY,hul,hT⟩:=MX;clear Ux hl;have has:∀ W,(Instr.typeAssert (.iface T x) 112 262 true).run prog W = .ok (.tuple #[.string ⟨#[]⟩,.bool false]) W:=by
        intro W;rcases hT with⟨rfl,rfl⟩|⟨rfl,b,rfl⟩|⟨rfl,b,rfl⟩|⟨rfl,b,rfl⟩
        ·exact Et W
        ·exact Mb b W
        ·exact MZ b W
        ·exact Rq b W
       clear hT;obtain⟨g,we,hgv,Fh,hgl,vX⟩:=vU jI.out.1 (by omega);obtain⟨rfl,rfl⟩:ga=some ⟨g,0,none⟩/\gc=we:=by cases hgv;exact⟨rfl,rfl⟩
       have WA:w1.cell? ⟨g,acc.len - 1,none⟩=some (.iface T x):=by
        rw[vX (acc.len - 1) (by omega),VY,show acc.len - 1=us.length by omega];simp
       have tU:(acc.len:Int) - 1=((acc.len - 1:Nat):Int):=by omega
       have Be:((acc.len - 1:Nat):Int)<(acc.len:Int):=by omega
       have wo:decide (((acc.len - 1:Nat):Int)<(acc.len:Int))=true:=by simp;omega
       clear vX;clear VY hul;rcases Yc with Yc|⟨Yc,rfl⟩
       ·go_wp2_with fail;refine OO.out.mono ?_;rintro e w2 ⟨rfl,uw,qb⟩;have ZN:=Jw.trans qb;have FL:w2.cell? ⟨B,0,none⟩=some (.pointer (some ⟨p,0,none⟩)):=qb.cell iA (by show B≠p;omega);have Yx:=z7 (jI.out.but qb (by omega));have dN:=z7 uw;have QR:=qb.size;have M4:w2.cell? ⟨g,acc.len - 1,none⟩=some (.iface T x):=qb.cell WA (by show g≠p;omega);clear uw qb;go_wp2_with (at_builtin;refine jB ?_);intro W3 j6;have qz:Below w2.heap.size w2 W3:=by rw[j6];exact(zv _ _).alloc (zy _) _
        have QV:W3.cell? ⟨w2.heap.size,0,none⟩=some (.iface 262 (xk t)):=by rw[j6];exact xu _ _ _ _ _
        have UK:=z7 (dN.out.below qz);have VL:=ZN.below qz;have WT:W3.cell? ⟨B,0,none⟩=some (.pointer (some ⟨p,0,none⟩)):=(qz.cell (z8 _ _ FL)).trans FL;have VI:=z7 (Yx.out.but (xS.of (p:=p) qz) (by omega));have Jh:=qz.size;clear j6;refine ZM dw rfl _ _ rfl (B+1) w1.heap.size _ acc (.text t .nil) ws rfl VI.out ⟨w2.heap.size,0,none⟩ 1 1 [.iface 262 (xk t)] rfl rfl ?h5a1 ?h5a2 ?h5a3 (by omega) ?h5a4 (show Fo.len (.text t .nil)=1 from rfl) (by have:=D4.out;omega) (by omega) ?h5a5
        case h5a1=>exact cells_one QV
        case h5a2 =>
         intro u hu;simp at hu;subst hu;rfl
        case h5a3=>exact⟨_,rfl,rfl⟩
        case h5a4=>exact fun k hk=>zx (jI.out.lt k hk).2 (by omega)
        intro v4 w4 j7 gF;have xV:∀ k,(.slice (some ⟨g,0,none⟩) acc.len gc:Value).ownBlock=some k->B+1<=k:=fun k hk=>(jI.out.lt k hk).1
        have YR:=z7 (UK.out.grown gF (fun k hk=>by have:=xV k hk;omega));have VN:=VL.grown gF (fun k hk=>by have:=xV k hk;omega);have WW:=gF.cell WT (fun e=>by have:=xV B e.symm;omega);have VM:=z7 j7;obtain⟨wP,wR,rfl,_⟩:=j7.row;clear j7 gF xV;go_wp2;go_roundw
        case rel=>exact⟨acc.app (.text t .nil),q,n',_,YR.out,VN,WW,VM.out,(Fo.uO _ _ HM.out rfl),Z4.out,by have:=HN.out;omega,by have:=HN.out;omega,by rw[Fo.uf,(show Fo.len (.text t .nil)=1 from rfl)];omega,fun s e=>by rw[qo _ (by simp) acc] at e;cases e;omega⟩
        case measure =>
         rw[vJ YR.out,vJ Mf.out];omega
       ·go_wp2_with fail;refine OO.out.mono ?_;rintro e w2 ⟨rfl,uw,qb⟩;have ZN:=Jw.trans qb;have FL:w2.cell? ⟨B,0,none⟩=some (.pointer (some ⟨p,0,none⟩)):=qb.cell iA (by show B≠p;omega);have Yx:=z7 (jI.out.but qb (by omega));have dN:=z7 uw;have QR:=qb.size;have M4:w2.cell? ⟨g,acc.len - 1,none⟩=some (.iface T x):=qb.cell WA (by show g≠p;omega);clear uw qb;go_wp2_with (at_builtin;refine jB ?_);intro W3 j6;have qz:Below w2.heap.size w2 W3:=by rw[j6];exact(zv _ _).alloc (zy _) _
        have QV:W3.cell? ⟨w2.heap.size,0,none⟩=some (.iface 262 (xk t)):=by rw[j6];exact xu _ _ _ _ _
        have UK:=z7 (dN.out.below qz);have VL:=ZN.below qz;have WT:W3.cell? ⟨B,0,none⟩=some (.pointer (some ⟨p,0,none⟩)):=(qz.cell (z8 _ _ FL)).trans FL;have VI:=z7 (Yx.out.but (xS.of (p:=p) qz) (by omega));have Jh:=qz.size;clear j6;refine ZM dw rfl _ _ rfl (B+1) w1.heap.size _ acc (.text t .nil) ws rfl VI.out ⟨w2.heap.size,0,none⟩ 1 1 [.iface 262 (xk t)] rfl rfl ?h6a1 ?h6a2 ?h6a3 (by omega) ?h6a4 (show Fo.len (.text t .nil)=1 from rfl) (by have:=D4.out;omega) (by omega) ?h6a5
        case h6a1=>exact cells_one QV
        case h6a2 =>
         intro u hu;simp at hu;subst hu;rfl
        case h6a3=>exact⟨_,rfl,rfl⟩
        case h6a4=>exact fun k hk=>zx (jI.out.lt k hk).2 (by omega)
        intro v4 w4 j7 gF;have xV:∀ k,(.slice (some ⟨g,0,none⟩) acc.len gc:Value).ownBlock=some k->B+1<=k:=fun k hk=>(jI.out.lt k hk).1
        have YR:=z7 (UK.out.grown gF (fun k hk=>by have:=xV k hk;omega));have VN:=VL.grown gF (fun k hk=>by have:=xV k hk;omega);have WW:=gF.cell WT (fun e=>by have:=xV B e.symm;omega);have VM:=z7 j7;obtain⟨wP,wR,rfl,_⟩:=j7.row;clear j7 gF xV;go_wp2;go_roundw
        case rel=>exact⟨acc.app (.text t .nil),q,n',_,YR.out,VN,WW,VM.out,(Fo.uO _ _ HM.out rfl),Z4.out,by have:=HN.out;omega,by have:=HN.out;omega,by rw[Fo.uf,(show Fo.len (.text t .nil)=1 from rfl)];omega,fun s e=>by rw[qo _ (by simp) acc] at e;cases e;omega⟩
        case measure =>
         rw[vJ YR.out,vJ Mf.out];omega
      | some s =>
       obtain⟨us,VY,hul⟩:=MX;have dG:=HLA.out s hl;have has:=fun W=>Es s W
       have HL:=z7 hl;clear hl;have zb9:(9223372036854775807<s.length+t.length)=False:=by simp;omega
       obtain⟨g,we,hgv,Fh,hgl,vX⟩:=vU jI.out.1 (by omega);obtain⟨rfl,rfl⟩:ga=some ⟨g,0,none⟩/\gc=we:=by cases hgv;exact⟨rfl,rfl⟩
       have WA:w1.cell? ⟨g,acc.len - 1,none⟩=some (.iface 262 (xk s)):=by
        rw[vX (acc.len - 1) (by omega),VY,show acc.len - 1=us.length by omega];simp
       have tU:(acc.len:Int) - 1=((acc.len - 1:Nat):Int):=by omega
       have Be:((acc.len - 1:Nat):Int)<(acc.len:Int):=by omega
       have wo:decide (((acc.len - 1:Nat):Int)<(acc.len:Int))=true:=by simp;omega
       clear vX;rcases Yc with Yc|⟨Yc,rfl⟩
       ·go_wp2_with fail;refine OO.out.mono ?_;rintro e w2 ⟨rfl,uw,qb⟩;have ZN:=Jw.trans qb;have FL:w2.cell? ⟨B,0,none⟩=some (.pointer (some ⟨p,0,none⟩)):=qb.cell iA (by show B≠p;omega);have Yx:=z7 (jI.out.but qb (by omega));have dN:=z7 uw;have QR:=qb.size;have M4:w2.cell? ⟨g,acc.len - 1,none⟩=some (.iface 262 (xk s)):=qb.cell WA (by show g≠p;omega);have hzc:w2.frozen? ⟨g,acc.len - 1,none⟩=false:=Yx.out.1.frozenAt _;clear uw qb;have HJ:=z7 (Yx.out.Bw HM.out HL.out VY hul t);go_wp2;have zz1:acc.len - 1=us.length:=by omega
        rw[Xa,zz1];have hj:=HJ.out;rw[HJ.out.2] at hj;have tS:=dN.out.own (B:=g) (by omega) us.length (.iface 262 (xk (s++t)));go_roundw
        case rel=>exact⟨acc.xM t,q,n',_,tS,ZN.own (by omega) _ _,by rw[xf,if_neg (fun e=>by have:=congrArg zu e;simp at this;omega)];exact FL,hj.1,(JY HM.out HL.out t).1,Ux.out,by have:=HN.out;omega,by have:=HN.out;omega,by rw[HJ.out.2];omega,fun x e=>by rw[(JY HM.out HL.out t).2] at e;cases e;rw[zg];omega⟩
        case measure =>
         rw[vJ tS,vJ Mf.out];omega
       ·go_wp2_with fail;refine OO.out.mono ?_;rintro e w2 ⟨rfl,uw,qb⟩;have ZN:=Jw.trans qb;have FL:w2.cell? ⟨B,0,none⟩=some (.pointer (some ⟨p,0,none⟩)):=qb.cell iA (by show B≠p;omega);have Yx:=z7 (jI.out.but qb (by omega));have dN:=z7 uw;have QR:=qb.size;have M4:w2.cell? ⟨g,acc.len - 1,none⟩=some (.iface 262 (xk s)):=qb.cell WA (by show g≠p;omega);have hzc:w2.frozen? ⟨g,acc.len - 1,none⟩=false:=Yx.out.1.frozenAt _;clear uw qb;have HJ:=z7 (Yx.out.Bw HM.out HL.out VY hul t);go_wp2;have zz1:acc.len - 1=us.length:=by omega
        rw[Xa,zz1];have hj:=HJ.out;rw[HJ.out.2] at hj;have tS:=dN.out.own (B:=g) (by omega) us.length (.iface 262 (xk (s++t)));go_roundw
        case rel=>exact⟨acc.xM t,q,n',_,tS,ZN.own (by omega) _ _,by rw[xf,if_neg (fun e=>by have:=congrArg zu e;simp at this;omega)];exact FL,hj.1,(JY HM.out HL.out t).1,Ux.out,by have:=HN.out;omega,by have:=HN.out;omega,by rw[HJ.out.2];omega,fun x e=>by rw[(JY HM.out HL.out t).2] at e;cases e;rw[zg];omega⟩
        case measure =>
         rw[vJ tS,vJ Mf.out];omega
theorem OW(p:Nat)(rs:List Int):∀ (n:Nat),n<=5->lQ p rs (5 - n) (YA rs n)
 | 0,_=>KC p rs 5 none (by omega) (fun j W hs he=>UE p rs j 6 none W hs he ⟨fun _=>rfl,fun _=>rfl⟩ (fun m e=>by cases e) (fun m e=>by cases e)) (fun m e=>by cases e)
 | n+1,h=>by
  have ih:=OW p rs n (by omega);have e:5 - n=5 - (n+1)+1:=by omega
  rw[e] at ih;exact KC p rs (5 - (n+1)) (some (YA rs n)) (by omega) (fun j W hs he=>UE p rs j (5 - (n+1)+1) (some (YA rs n)) W hs he ⟨fun h=>(by cases h),fun h=>(by omega)⟩ (fun m e=>by cases e;exact ih) (fun m e=>by cases e;exact Bp rs n)) (fun m e=>by cases e;exact Bp rs n)
def vO(l:List UInt8):Bool:=l.all xF && !l.isEmpty
theorem Wa(s:ByteArray)(h:0<s.size):s.data.toList.headD 0=s[0]:=by
 rw[←getElem_toList s 0 h,List.headD_eq_head?_getD,List.head?_eq_getElem?,List.getElem?_eq_getElem (by simpa using h)];rfl
set_option maxRecDepth 10000
def bF(r:Int):Bool:=decide (0<=r/\r<=0x10FFFF/\(r<0xD800\/0xDFFF<r))
def Wc(l:List UInt8)(v:Nat):Nat:=l.foldl (fun v c=>64*v+(c.toNat - 128)) v
def bD(c:UInt8):Bool:=128<=c && c<=191
def least(n:Nat):Int:=if n=4 then 65536 else if n=3 then 2048 else if n=2 then 128 else 0
def qj(l:List UInt8)(n v:Nat):Nat :=
 if l.length<n then 0 else if (l.tail.take (n - 1)).all bD=false then 0
 else if (Wc (l.tail.take (n - 1)) v:Int)<least n\/bF (Wc (l.tail.take (n - 1)) v)=false then 0 else n
def xp(l:List UInt8):Nat :=
 let c:=(l.headD 0).toNat
 if 240<=c/\c<248 then qj l 4 (c - 240)
 else if 224<=c/\c<240 then qj l 3 (c - 224)
 else if 192<=c/\c<224 then qj l 2 (c - 192)
 else if 128<=c then 0
 else qj l 1 c
theorem G6(c:UInt8):bD c=true ↔ (128:Int)<=(c.toNat:Int)/\(c.toNat:Int)<=191:=by
 simp[bD,UInt8.le_iff_toNat_le];omega
theorem qE{l:List UInt8}{n v:Nat}(H:(240<=(l.headD 0).toNat/\(l.headD 0).toNat<248/\n=4/\v=(l.headD 0).toNat - 240) \/
  (224<=(l.headD 0).toNat/\(l.headD 0).toNat<240/\n=3/\v=(l.headD 0).toNat - 224) \/
  (192<=(l.headD 0).toNat/\(l.headD 0).toNat<224/\n=2/\v=(l.headD 0).toNat - 192) \/
  ((l.headD 0).toNat<128/\n=1/\v=(l.headD 0).toNat)):xp l=qj l n v:=by
 unfold xp;rcases H with⟨h1,h2,rfl,rfl⟩|⟨h1,h2,rfl,rfl⟩|⟨h1,h2,rfl,rfl⟩|⟨h1,rfl,rfl⟩
 ·rw[if_pos ⟨h1,h2⟩]
 ·rw[if_neg (by omega),if_pos ⟨h1,h2⟩]
 ·rw[if_neg (by omega),if_neg (by omega),if_pos ⟨h1,h2⟩]
 ·rw[if_neg (by omega),if_neg (by omega),if_neg (by omega),if_neg (by omega)]
theorem jZ{l:List UInt8}{n v:Nat}(h:l.length<n):qj l n v=0:=by rw[qj,if_pos h]
theorem Rk(l:List UInt8)(n v:Nat):qj l n v<=l.length/\qj l n v<=n:=by
 unfold qj;repeat' split
 all_goals omega
theorem Xy(l:List UInt8):xp l<=l.length/\xp l<=4:=by
 have h:=fun n v=>Rk l n v
 unfold xp;simp only[];split
 ·exact h 4 _
 split
 ·exact⟨(h 3 _).1,by have:=(h 3 ((l.headD 0).toNat - 224)).2;omega⟩
 split
 ·exact⟨(h 2 _).1,by have:=(h 2 ((l.headD 0).toNat - 192)).2;omega⟩
 split
 ·omega
 ·exact⟨(h 1 _).1,by have:=(h 1 ((l.headD 0).toNat)).2;omega⟩
def uI(l:List UInt8):List (List UInt8)×Nat :=
 if h:l=[]\/xp l=0 then ([],0) else
  let r:=uI (l.drop (xp l))
  (l.take (xp l)::r.1,xp l+r.2)
 termination_by l.length
 decreasing_by
  simp only[not_or] at h;have:=List.length_pos_iff.2 h.1;simp;omega
theorem kC:uI []=([],0):=by rw[uI];simp
theorem ZO{l:List UInt8}(h:xp l=0):uI l=([],0):=by rw[uI];simp[h]
theorem gy{l:List UInt8}(h0:l≠[])(h:xp l≠0):uI l=(l.take (xp l)::(uI (l.drop (xp l))).1,xp l+(uI (l.drop (xp l))).2):=by
 rw[uI,dif_neg (by simp[h0,h])]
end Go.Proofs.YthpldolmpinnhaaGreatDoor
