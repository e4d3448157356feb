import Derived.Test.YthpldolmpinnhaaGreatDoorJG12
import Derived.Defers
set_option maxHeartbeats 64000000
open Go.Lib renaming hid→z7
open Go.World renaming block_lt_of_cell?→z8,setCell→zj
open Nat renaming le_refl→zy,lt_of_lt_of_le→zx
open Go.RowKit.Below renaming refl→zv
open Go.Addr renaming block→zu
open Classical renaming byContradiction→zk
open List renaming length_append→zg
open Go.Proofs.Tryz
namespace Go.Proofs.YthpldolmpinnhaaGreatDoor
open Go Go.RowKit
set_option maxRecDepth 10000
theorem R8(B p:Nat)(x:Int)(u:FrameMode)(w:World)(hc:w.cell? ⟨B,0,none⟩=some (.pointer (some ⟨p,0,none⟩)))(hx:w.cell? ⟨p,2,none⟩=some (.int .i64 x))(hz:w.frozen? ⟨p,2,none⟩=false) :
  CallsD prog 156 #[.pointer (some ⟨B,0,none⟩)] u w fun e u' w'=>u'=u/\(e = .returned (.tuple #[])/\w'=w.setCell ⟨p,2,none⟩ (.int .i64 (wrap64 (x - 1)))):=by
 go_enter_d func156,ntmps156
 go_wp2;go_end0
 exact⟨rfl,rfl⟩
theorem NN{rs:List Int}{msg:Option kN}{num:Bool}{n:Nat}{acc:Fo}{i:Nat}(hn:1<=n):∃ n',n=n'+1/\qI rs msg num n acc i =
  if xU rs i = -1\/xU rs i=125 then .ok (acc,i)
  else if xU rs i=123 then (YI rs msg i).then fun f j=>qI rs msg num n' (acc.app f) j
  else if xU rs i=35/\num=true then qI rs msg num n' (acc.app (.hash .nil)) (i+1)
  else qI rs msg num n' (acc.xL (jq rs num i).1) (jq rs num i).2:=by
 obtain⟨n',rfl⟩:∃ n',n=n'+1:=⟨n - 1,by omega⟩;exact⟨n',rfl,by rw[qI]⟩
theorem Jg(p:Nat)(rs:List Int)(d:Nat)(msg:Option kN)(hd5:d<=50)(ziv:∀ j W,vG p rs j (d+1) W->Ju p W->Calls prog 157 #[.pointer (some ⟨p,0,none⟩)] W (zck p rs (d+1) (YI rs msg j) W))(Ao:∀ m,msg=some m->Gc m) :
  oJ p rs d (fun num i=>qI rs msg num (rs.length+1) .nil i):=by
 intro num i w h he;have Nv:∀ (fn:Fn) (first cap:Array Value) (w:World),(Instr.makeFunc fn first cap).run prog w = .ok (.func fn first cap) w:=fun _ _ _ _=>rfl
 have HH:=z7 h;have GO:=z7 he;have yg3:=z7 ziv;have yg4:=z7 (fun j f q (e:YI rs msg j = .ok (f,q))=>R1 Ao e);have Kj:=h.lt;have Dt:=z7 h.len;obtain⟨R,hR⟩:=xX (qI rs msg num (rs.length+1) .nil i);show Calls _ _ _ w (zc9 p rs d (qI rs msg num (rs.length+1) .nil i) w);rw[hR];have HTW:=z7 hR.symm;clear he ziv hR Ao;obtain⟨B,hB⟩:=xX w.heap.size;have HB:=z7 hB;have MA:p<B:=by omega
 have jk:=fun o=>(zv w.heap.size w).alloc (zy _) o
 have yg5:=z7 h;have g6:=h.deep;have z6:=h.z2;clear h;go_enter_defers func111,ntmps111
 go_wp2_with fail;refine GU ?_;intro W hW;have Hy:IntKind.i64.wrap ((d:Int)+1)=((d+1:Nat):Int):=by simp[IntKind.wrap,IntKind.signed,IntKind.bits];omega
 have F1:vG p rs i (d+1) W/\xR p w W/\W.cell? ⟨B,0,none⟩=some (.pointer (some ⟨p,0,none⟩))/\B<W.heap.size:=by
  rw[hW,show((d:Int)+1)=((d+1:Nat):Int) from by omega];have hs:=yg5.out.zad (d+1) (by omega);have qc:(w.setCell ⟨p,2,none⟩ (.int .i64 ((d+1:Nat):Int))).heap.size=B:=by rw[<-HB.out];simp[zj]
  have uN:=fun o=>(zv (w.setCell ⟨p,2,none⟩ (.int .i64 ((d+1:Nat):Int))).heap.size (w.setCell ⟨p,2,none⟩ (.int .i64 ((d+1:Nat):Int)))).alloc (zy _) o
  have jS:=fun c t fr i=>xu (w.setCell ⟨p,2,none⟩ (.int .i64 ((d+1:Nat):Int))) c t fr i
  rw[qc] at jS;exact⟨hs.below (uN _),(xR.set p w 2 _).below (uN _),jS _ _ _ _,by rw[<-qc];simp⟩
 obtain⟨ziu,jB,PB,hBW⟩:=F1;have CS:=z7 ziu;clear ziu hW g6 z6 jk;go_loopw [4] (fun v wr=>∃ acc j n ws,vG p rs j (d+1) wr/\xR p w wr/\wr.cell? ⟨B,0,none⟩=some (.pointer (some ⟨p,0,none⟩))/\qs (B+1) 112 1 v acc ws wr/\acc.vD=true/\R=qI rs msg num n acc j/\rs.length+1<=n+j/\1<=n/\acc.len<=j/\∀ s,acc.xD=some s->s.length<=4*j) (fun v wr=>rs.length+2 - Nu p wr)
 case atStart=>exact⟨.nil,i,rs.length+1,[],CS.out,jB,PB,qs.start _ _ _ _,rfl,HTW.out,by omega,by omega,Nat.zero_le _,fun s e=>by cases e⟩
 case round =>
  obtain⟨acc,j,n,ws,hs,fY,pb,XX,JP,hR,hfu,bO,Dp,Iv⟩:=hrel;obtain⟨n',CA,kL⟩:=NN (rs:=rs) (msg:=msg) (num:=num) (acc:=acc) (i:=j) bO;rw[kL] at hR;have NC:=z7 hs;have HGR:=z7 XX;have HM:=z7 JP;have HR:=z7 hR;have HLA:=z7 Iv;have HN:=z7 CA;have Ix:=hs.here;obtain⟨ga,gc,rfl,_⟩:=XX.row;clear hs XX JP hR Iv CA kL;go_wp2_with fail;refine(ja p rs j (d+1) wr NC.out).mono ?_;rintro e w1 ⟨rfl,xG⟩;have gN:=z7 (NC.out.below xG);have nT:w1.cell? ⟨B,0,none⟩=some (.pointer (some ⟨p,0,none⟩)):=(xG.cell (z8 _ _ pb)).trans pb;have Gp:=fY.below xG;have jl:=z7 (HGR.out.but (xR.of (p:=p) xG) (by omega));have xvb:B<w1.heap.size:=z8 _ _ nT;have SK:=xG.size;clear xG pb;obtain⟨r,hr⟩:=xX (xU rs j);rw[hr];have HQR:=z7 hr;have Jh:=HR.out;rw[hr] at Jh;have I4:=z7 Jh;clear Jh HR hr;by_cases Y1:r = -1\/r=125
  .have HT:=z7 (I4.out.trans (if_pos Y1));have DI:wrap64 (((d+1:Nat):Int) - 1)=(d:Int):=by rw[show((d+1:Nat):Int) - 1=(d:Int) by omega];simp[wrap64];omega
   have HD2:=z7 DI;clear I4 DI;obtain Y1|Y1:=Y1;all_goals
    subst Y1;go_wp2_with fail;refine leaves_cons (f:=156) (args:=#[.pointer (some ⟨B,0,none⟩)]) (by simp) (by simp[go_sem]) ?_;refine(R8 B p ((d+1:Nat):Int) _ _ nT gN.out.deep gN.out.z2).mono ?_;rintro e u' Qm ⟨rfl,rfl,rfl⟩;simp only[settle];refine⟨.slice ga acc.len gc,by simp[results,results111,go_sem],?_⟩;rw[HT.out,HD2.out];have hG:=jl.out.but (xR.set p w1 2 (.int .i64 d)) (by omega);obtain⟨a,c,hv,xi⟩:=hG.row
    cases hv;have qc:=Gp.size;have hk:xr (B+1) (w1.setCell ⟨p,2,none⟩ (.int .i64 d)).heap.size (w1.setCell ⟨p,2,none⟩ (.int .i64 d)) (w1.setCell ⟨p,2,none⟩ (.int .i64 d)):=xW (zy _);exact⟨⟨⟨_,_,rfl,ws,xi.keep hk (by omega) (zy _),xZ.keep hk (by omega) (zy _) _ _ hG.nodes⟩,HM.out,gN.out.zad d (by omega)⟩,Gp.Up 2 _⟩
  .have ni:=z7 (I4.out.trans (if_neg Y1));have e1:(r==-1)=false:=by simpa using fun e=>Y1 (.inl e)
   have e2:(r==125)=false:=by simpa using fun e=>Y1 (.inr e)
   clear Y1 I4;by_cases au:r=123
   .have I4:=z7 (ni.out.trans (if_pos au));clear ni e1 e2;subst au;obtain⟨ra,hra⟩:=xX (YI rs msg j);have vu:=yg3.out j w1 gN.out (GO.out.but Gp);rw[hra] at vu;have uw:=z7 vu;have Kb:=I4.out;rw[hra] at Kb;have US:=z7 Kb;have HRA:=z7 hra;clear vu Kb I4 hra;go_wp2_with fail;refine uw.out.mono ?_;rintro e w2 ⟨hq,qV⟩;have Y4:=Gp.trans qV;have DN:w2.cell? ⟨B,0,none⟩=some (.pointer (some ⟨p,0,none⟩)):=qV.cell nT (by show B≠p;omega);clear uw
    cases ra with
    | error en =>
     obtain⟨nO,nR⟩:=en;have HQ:=z7 hq;obtain⟨bf,rfl,f1,f2,⟨dx,f3,f4⟩,f5,f6⟩:=hq;have ax:=z7 (show R = .error (nO,nR) from US.out);go_wp2;refine leaves_cons (f:=156) (args:=#[.pointer (some ⟨B,0,none⟩)]) (by simp) (by simp[go_sem]) ?_;refine(R8 B p dx _ _ DN f3 f4).mono ?_;rintro e u' Qm ⟨rfl,rfl,rfl⟩;simp only[settle,List.append_nil,raised];rw[ax.out];exact⟨⟨bf,rfl,by rw[xk,if_neg (fun e=>by have:=congrArg zu e;simp at this;omega)];exact f1,by rw[xk,if_neg (fun e=>by have:=congrArg zu e;simp at this;omega)];exact f2,⟨_,by rw[xk,if_pos rfl,f3];rfl,by rw[World.frozen?_setCell];exact f4⟩,f5,by simpa[zj] using f6⟩,Y4.Up 2 _⟩
    | ok fq =>
     obtain⟨f,q⟩:=fq;obtain⟨⟨v,rfl,ql⟩,A4,XV,qf⟩:=hq;have uN:=BD HRA.out;have xB:=yg4.out _ _ _ HRA.out;obtain⟨T,x,rfl,hT⟩:=ql.one A4 XV uN.1;have Y2:=z7 ql;have ZY:=z7 (show R=qI rs msg num n' (acc.app f) q from US.out);have hql:=uN.2;have wZ:∀ s,(acc.app f).xD=some s->s.length<=4*q:=fun s e=>by
      rw[qh f (fun e=>by rw[e] at A4;cases A4) acc,uN.1] at e
      cases e
     have ziq:=z7 wZ;have yg8:=z7 (Fo.uW acc f HM.out XV);have YO:=z7 (jl.out.but qV (by omega));have bk:=z7 qf;have KZ:=qV.size;have hFL:=z7 A4;clear ql qf US hT uN wZ A4 XV qV;go_wp2_with (at_builtin;refine kI ?_);intro W3 kg;have uN:Below w2.heap.size w2 W3:=by rw[kg];exact(zv _ _).alloc (zy _) _
     have Qt:W3.cell? ⟨w2.heap.size,0,none⟩=some (.iface T x):=by rw[kg];exact xu _ _ _ _ _
     have Uh:=z7 (bk.out.below uN);have U8:=Y4.below uN;have aq:W3.cell? ⟨B,0,none⟩=some (.pointer (some ⟨p,0,none⟩)):=(uN.cell (z8 _ _ DN)).trans DN;have U7:=z7 (YO.out.but (xR.of (p:=p) uN) (by omega));have Gn:=uN.size;have HN3:=z7 (xZ.keep (lo:=w1.heap.size) (hi:=w2.heap.size) (w:=w2) (w':=W3) ⟨uN.size,fun k _ hk=>uN.block k hk⟩ (zy _) uN.size _ _ Y2.out);clear kg;refine Y3 bJ rfl _ _ rfl (B+1) w1.heap.size _ acc f ws rfl U7.out ⟨w2.heap.size,0,none⟩ 1 1 [.iface T x] rfl rfl ?h1a1 ?h1a2 ?h1a3 (by omega) ?h1a4 hFL.out (by have:=Dt.out;omega) (by omega) ?h1a5
     case h1a1=>exact cells_one Qt
     case h1a2 =>
      intro u hu;simp at hu;subst hu;rfl
     case h1a3=>exact HN3.out
     case h1a4=>exact fun k hk=>zx (jl.out.lt k hk).2 (by omega)
     intro v4 w4 qt gR;have xV:∀ k,(.slice ga acc.len gc:Value).ownBlock=some k->B+1<=k:=fun k hk=>(jl.out.lt k hk).1
     have X8:=z7 (Uh.out.grown gR (fun k hk=>by have:=xV k hk;omega));have Uz:=U8.grown gR (fun k hk=>by have:=xV k hk;omega);have aj:=gR.cell aq (fun e=>by have:=xV B e.symm;omega);have U9:=z7 qt;obtain⟨ga',gc',rfl,_⟩:=qt.row;clear qt gR xV;go_wp2;go_roundw
     case rel=>exact⟨acc.app f,q,n',_,X8.out,Uz,aj,U9.out,yg8.out,ZY.out,by have:=HN.out;omega,by have:=HN.out;omega,by rw[Fo.uX,hFL.out];omega,ziq.out⟩
     case measure =>
      rw[vF X8.out,vF NC.out];omega
   .have I4:=z7 (ni.out.trans (if_neg au));have e3:(r==123)=false:=by simpa using au
    clear au ni;by_cases h35:r=35/\num=true
    .have ZY:=z7 (I4.out.trans (if_pos h35));clear I4 e1 e2 e3;obtain⟨yg9,ygz⟩:=h35;subst yg9;subst ygz;have KY:j<rs.length:=by
      apply zk;intro hc;have:=HQR.out;rw[kM (by omega)] at this
      cases this
     have g5:=gN.out.at_;have z5:=gN.out.z1;go_wp2_with (at_builtin;refine kI ?_);intro W3 kg;rw[show wrap64 ((j:Int)+1)=((j+1:Nat):Int) from by have:=Dt.out;simp[wrap64];omega] at kg;have BU:=gN.out.move (j+1) (by omega);have uN:Below (w1.setCell ⟨p,1,none⟩ (.int .i64 ((j+1:Nat):Int))).heap.size (w1.setCell ⟨p,1,none⟩ (.int .i64 ((j+1:Nat):Int))) W3:=by rw[kg];exact(zv _ _).alloc (zy _) _
     have qc:(w1.setCell ⟨p,1,none⟩ (.int .i64 ((j+1:Nat):Int))).heap.size=w1.heap.size:=by simp[zj]
     have Qt:W3.cell? ⟨w1.heap.size,0,none⟩=some (.iface 264 (.agg #[])):=by rw[kg,<-qc];exact xu _ _ _ _ _
     have Uh:=z7 (BU.below uN);have U8:=(Gp.Up 1 (.int .i64 ((j+1:Nat):Int))).below uN;have DN:(w1.setCell ⟨p,1,none⟩ (.int .i64 ((j+1:Nat):Int))).cell? ⟨B,0,none⟩=some (.pointer (some ⟨p,0,none⟩)):=by rw[xk,if_neg (fun e=>by have:=congrArg zu e;simp at this;omega)];exact nT
     have aq:W3.cell? ⟨B,0,none⟩=some (.pointer (some ⟨p,0,none⟩)):=(uN.cell (z8 _ _ DN)).trans DN;have U7:=z7 ((jl.out.but (xR.set p w1 1 (.int .i64 ((j+1:Nat):Int))) (by omega)).but (xR.of (p:=p) uN) (by omega));have Gn:=uN.size;clear kg;refine Y3 bJ rfl _ _ rfl (B+1) w1.heap.size _ acc (.hash .nil) ws rfl U7.out ⟨w1.heap.size,0,none⟩ 1 1 [.iface 264 (.agg #[])] rfl rfl ?h2a1 ?h2a2 ?h2a3 (by omega) ?h2a4 (show Fo.len (.hash .nil)=1 from rfl) (by have:=Dt.out;omega) (by omega) ?h2a5
     case h2a1=>exact cells_one Qt
     case h2a2 =>
      intro u hu;simp at hu;subst hu;rfl
     case h2a3=>exact⟨_,rfl,rfl⟩
     case h2a4=>exact fun k hk=>zx (jl.out.lt k hk).2 (by omega)
     intro v4 w4 qt gR;have xV:∀ k,(.slice ga acc.len gc:Value).ownBlock=some k->B+1<=k:=fun k hk=>(jl.out.lt k hk).1
     have X8:=z7 (Uh.out.grown gR (fun k hk=>by have:=xV k hk;omega));have Uz:=U8.grown gR (fun k hk=>by have:=xV k hk;omega);have aj:=gR.cell aq (fun e=>by have:=xV B e.symm;omega);have U9:=z7 qt;obtain⟨ga',gc',rfl,_⟩:=qt.row;clear qt gR xV;go_wp2;go_roundw
     case rel=>exact⟨acc.app (.hash .nil),(j+1),n',_,X8.out,Uz,aj,U9.out,(Fo.uW _ _ HM.out rfl),ZY.out,by have:=HN.out;omega,by have:=HN.out;omega,by rw[Fo.uX,(show Fo.len (.hash .nil)=1 from rfl)];omega,fun s e=>by rw[qh _ (by simp) acc] at e;cases e⟩
     case measure =>
      rw[vF X8.out,vF NC.out];omega
    .have ni:=z7 (I4.out.trans (if_neg h35));clear I4;have KY:j<rs.length:=by
      apply zk;intro hc;have:=HQR.out;rw[kM (by omega)] at this;rw[<-this] at e1
      cases e1
     have BF:=z7 (AN p rs j (d+1) num w1 gN.out KY);obtain⟨t,ht⟩:=xX ((jq rs num j).1);obtain⟨q,hq⟩:=xX ((jq rs num j).2);have xB:j<q:=by have:=Q8 rs num j;omega
     have G7:t.length+4*j<=4*q:=by have:=SL rs num j;rw[ht,hq] at this;exact this
     have hql:q<=rs.length:=by have:=(Ig (num:=num) KY).2;omega
     have hR5:=ni.out;rw[ht,hq] at BF hR5;have US:=z7 hR5;have nl:=Dt.out;clear ht hq hR5 ni;have Xq:(r==35)=false\/((r==35)=true/\num=false):=by
      by_cases h:r=35
      .right;exact⟨by simp[h],by cases num;rfl;exact absurd ⟨h,rfl⟩ h35⟩
      .left;simp[h]
     clear h35;by_cases Gr:acc.len=0
     .have hl:acc.xD=none:=by
       cases acc<;>simp[Fo.len] at Gr;rfl
      have qx:decide ((0:Int)<(acc.len:Int))=false:=by simp;omega
      have bO:decide (0<acc.len)=false:=by simp;omega
      have ZY:=z7 (show R=qI rs msg num n' (acc.app (.text t .nil)) q by rw[<-uZ acc t hl];exact US.out);clear US hl Gr;rcases Xq with Xq|⟨Xq,rfl⟩
      .go_wp2_with fail;refine BF.out.mono ?_;rintro e w2 ⟨rfl,qf,qV⟩;have Y4:=Gp.trans qV;have DN:w2.cell? ⟨B,0,none⟩=some (.pointer (some ⟨p,0,none⟩)):=qV.cell nT (by show B≠p;omega);have YO:=z7 (jl.out.but qV (by omega));have bk:=z7 qf;have KZ:=qV.size;clear qf qV;go_wp2_with (at_builtin;refine kI ?_);intro W3 kg;have uN:Below w2.heap.size w2 W3:=by rw[kg];exact(zv _ _).alloc (zy _) _
       have Qt:W3.cell? ⟨w2.heap.size,0,none⟩=some (.iface 262 (xg t)):=by rw[kg];exact xu _ _ _ _ _
       have Uh:=z7 (bk.out.below uN);have U8:=Y4.below uN;have aq:W3.cell? ⟨B,0,none⟩=some (.pointer (some ⟨p,0,none⟩)):=(uN.cell (z8 _ _ DN)).trans DN;have U7:=z7 (YO.out.but (xR.of (p:=p) uN) (by omega));have Gn:=uN.size;clear kg;refine Y3 bJ rfl _ _ rfl (B+1) w1.heap.size _ acc (.text t .nil) ws rfl U7.out ⟨w2.heap.size,0,none⟩ 1 1 [.iface 262 (xg t)] rfl rfl ?h3a1 ?h3a2 ?h3a3 (by omega) ?h3a4 (show Fo.len (.text t .nil)=1 from rfl) (by have:=Dt.out;omega) (by omega) ?h3a5
       case h3a1=>exact cells_one Qt
       case h3a2 =>
        intro u hu;simp at hu;subst hu;rfl
       case h3a3=>exact⟨_,rfl,rfl⟩
       case h3a4=>exact fun k hk=>zx (jl.out.lt k hk).2 (by omega)
       intro v4 w4 qt gR;have xV:∀ k,(.slice ga acc.len gc:Value).ownBlock=some k->B+1<=k:=fun k hk=>(jl.out.lt k hk).1
       have X8:=z7 (Uh.out.grown gR (fun k hk=>by have:=xV k hk;omega));have Uz:=U8.grown gR (fun k hk=>by have:=xV k hk;omega);have aj:=gR.cell aq (fun e=>by have:=xV B e.symm;omega);have U9:=z7 qt;obtain⟨ga',gc',rfl,_⟩:=qt.row;clear qt gR xV;go_wp2;go_roundw
       case rel=>exact⟨acc.app (.text t .nil),q,n',_,X8.out,Uz,aj,U9.out,(Fo.uW _ _ HM.out rfl),ZY.out,by have:=HN.out;omega,by have:=HN.out;omega,by rw[Fo.uX,(show Fo.len (.text t .nil)=1 from rfl)];omega,fun s e=>by rw[qh _ (by simp) acc] at e;cases e;omega⟩
       case measure =>
        rw[vF X8.out,vF NC.out];omega
      .go_wp2_with fail;refine BF.out.mono ?_;rintro e w2 ⟨rfl,qf,qV⟩;have Y4:=Gp.trans qV;have DN:w2.cell? ⟨B,0,none⟩=some (.pointer (some ⟨p,0,none⟩)):=qV.cell nT (by show B≠p;omega);have YO:=z7 (jl.out.but qV (by omega));have bk:=z7 qf;have KZ:=qV.size;clear qf qV;go_wp2_with (at_builtin;refine kI ?_);intro W3 kg;have uN:Below w2.heap.size w2 W3:=by rw[kg];exact(zv _ _).alloc (zy _) _
       have Qt:W3.cell? ⟨w2.heap.size,0,none⟩=some (.iface 262 (xg t)):=by rw[kg];exact xu _ _ _ _ _
       have Uh:=z7 (bk.out.below uN);have U8:=Y4.below uN;have aq:W3.cell? ⟨B,0,none⟩=some (.pointer (some ⟨p,0,none⟩)):=(uN.cell (z8 _ _ DN)).trans DN;have U7:=z7 (YO.out.but (xR.of (p:=p) uN) (by omega));have Gn:=uN.size;clear kg;refine Y3 bJ rfl _ _ rfl (B+1) w1.heap.size _ acc (.text t .nil) ws rfl U7.out ⟨w2.heap.size,0,none⟩ 1 1 [.iface 262 (xg t)] rfl rfl ?h4a1 ?h4a2 ?h4a3 (by omega) ?h4a4 (show Fo.len (.text t .nil)=1 from rfl) (by have:=Dt.out;omega) (by omega) ?h4a5
       case h4a1=>exact cells_one Qt
       case h4a2 =>
        intro u hu;simp at hu;subst hu;rfl
       case h4a3=>exact⟨_,rfl,rfl⟩
       case h4a4=>exact fun k hk=>zx (jl.out.lt k hk).2 (by omega)
       intro v4 w4 qt gR;have xV:∀ k,(.slice ga acc.len gc:Value).ownBlock=some k->B+1<=k:=fun k hk=>(jl.out.lt k hk).1
       have X8:=z7 (Uh.out.grown gR (fun k hk=>by have:=xV k hk;omega));have Uz:=U8.grown gR (fun k hk=>by have:=xV k hk;omega);have aj:=gR.cell aq (fun e=>by have:=xV B e.symm;omega);have U9:=z7 qt;obtain⟨ga',gc',rfl,_⟩:=qt.row;clear qt gR xV;go_wp2;go_roundw
       case rel=>exact⟨acc.app (.text t .nil),q,n',_,X8.out,Uz,aj,U9.out,(Fo.uW _ _ HM.out rfl),ZY.out,by have:=HN.out;omega,by have:=HN.out;omega,by rw[Fo.uX,(show Fo.len (.text t .nil)=1 from rfl)];omega,fun s e=>by rw[qh _ (by simp) acc] at e;cases e;omega⟩
       case measure =>
        rw[vF X8.out,vF NC.out];omega
     .have qx:decide ((0:Int)<(acc.len:Int))=true:=by simp;omega
      have bO:decide (0<acc.len)=true:=by simp;omega
      have NO:=jl.out.zix HM.out (fun e=>Gr (by rw[e];rfl));obtain⟨l,hl⟩:=xX acc.xD;rw[hl] at NO
      cases l with
      | none =>
       have ZY:=z7 (show R=qI rs msg num n' (acc.app (.text t .nil)) q by rw[<-uZ acc t hl];exact US.out);obtain⟨us,T,x,Vn,hul,hT⟩:=NO;clear US hl;have has:∀ W,(Instr.typeAssert (.iface T x) 112 262 true).run prog W = .ok (.tuple #[.string ⟨#[]⟩,.bool false]) W:=by
        intro W;rcases hT with⟨rfl,rfl⟩|⟨rfl,b,rfl⟩|⟨rfl,b,rfl⟩|⟨rfl,b,rfl⟩
        .exact IB W
        .exact NL b W
        .exact NM b W
        .exact SM b W
       clear hT;obtain⟨g,zvd,hgv,Dl,hgl,vQ⟩:=vZ jl.out.1 (by omega);obtain⟨rfl,rfl⟩:ga=some ⟨g,0,none⟩/\gc=zvd:=by cases hgv;exact⟨rfl,rfl⟩
       have ag:w1.cell? ⟨g,acc.len - 1,none⟩=some (.iface T x):=by
        rw[vQ (acc.len - 1) (by omega),Vn,show acc.len - 1=us.length by omega];simp
       have hi0:(acc.len:Int) - 1=((acc.len - 1:Nat):Int):=by omega
       have Kk:((acc.len - 1:Nat):Int)<(acc.len:Int):=by omega
       have SN:decide (((acc.len - 1:Nat):Int)<(acc.len:Int))=true:=by simp;omega
       clear vQ;clear Vn hul;rcases Xq with Xq|⟨Xq,rfl⟩
       .go_wp2_with fail;refine BF.out.mono ?_;rintro e w2 ⟨rfl,qf,qV⟩;have Y4:=Gp.trans qV;have DN:w2.cell? ⟨B,0,none⟩=some (.pointer (some ⟨p,0,none⟩)):=qV.cell nT (by show B≠p;omega);have YO:=z7 (jl.out.but qV (by omega));have bk:=z7 qf;have KZ:=qV.size;have Nk:w2.cell? ⟨g,acc.len - 1,none⟩=some (.iface T x):=qV.cell ag (by show g≠p;omega);clear qf qV;go_wp2_with (at_builtin;refine kI ?_);intro W3 kg;have uN:Below w2.heap.size w2 W3:=by rw[kg];exact(zv _ _).alloc (zy _) _
        have Qt:W3.cell? ⟨w2.heap.size,0,none⟩=some (.iface 262 (xg t)):=by rw[kg];exact xu _ _ _ _ _
        have Uh:=z7 (bk.out.below uN);have U8:=Y4.below uN;have aq:W3.cell? ⟨B,0,none⟩=some (.pointer (some ⟨p,0,none⟩)):=(uN.cell (z8 _ _ DN)).trans DN;have U7:=z7 (YO.out.but (xR.of (p:=p) uN) (by omega));have Gn:=uN.size;clear kg;refine Y3 bJ rfl _ _ rfl (B+1) w1.heap.size _ acc (.text t .nil) ws rfl U7.out ⟨w2.heap.size,0,none⟩ 1 1 [.iface 262 (xg t)] rfl rfl ?h5a1 ?h5a2 ?h5a3 (by omega) ?h5a4 (show Fo.len (.text t .nil)=1 from rfl) (by have:=Dt.out;omega) (by omega) ?h5a5
        case h5a1=>exact cells_one Qt
        case h5a2 =>
         intro u hu;simp at hu;subst hu;rfl
        case h5a3=>exact⟨_,rfl,rfl⟩
        case h5a4=>exact fun k hk=>zx (jl.out.lt k hk).2 (by omega)
        intro v4 w4 qt gR;have xV:∀ k,(.slice (some ⟨g,0,none⟩) acc.len gc:Value).ownBlock=some k->B+1<=k:=fun k hk=>(jl.out.lt k hk).1
        have X8:=z7 (Uh.out.grown gR (fun k hk=>by have:=xV k hk;omega));have Uz:=U8.grown gR (fun k hk=>by have:=xV k hk;omega);have aj:=gR.cell aq (fun e=>by have:=xV B e.symm;omega);have U9:=z7 qt;obtain⟨ga',gc',rfl,_⟩:=qt.row;clear qt gR xV;go_wp2;go_roundw
        case rel=>exact⟨acc.app (.text t .nil),q,n',_,X8.out,Uz,aj,U9.out,(Fo.uW _ _ HM.out rfl),ZY.out,by have:=HN.out;omega,by have:=HN.out;omega,by rw[Fo.uX,(show Fo.len (.text t .nil)=1 from rfl)];omega,fun s e=>by rw[qh _ (by simp) acc] at e;cases e;omega⟩
        case measure =>
         rw[vF X8.out,vF NC.out];omega
       .go_wp2_with fail;refine BF.out.mono ?_;rintro e w2 ⟨rfl,qf,qV⟩;have Y4:=Gp.trans qV;have DN:w2.cell? ⟨B,0,none⟩=some (.pointer (some ⟨p,0,none⟩)):=qV.cell nT (by show B≠p;omega);have YO:=z7 (jl.out.but qV (by omega));have bk:=z7 qf;have KZ:=qV.size;have Nk:w2.cell? ⟨g,acc.len - 1,none⟩=some (.iface T x):=qV.cell ag (by show g≠p;omega);clear qf qV;go_wp2_with (at_builtin;refine kI ?_);intro W3 kg;have uN:Below w2.heap.size w2 W3:=by rw[kg];exact(zv _ _).alloc (zy _) _
        have Qt:W3.cell? ⟨w2.heap.size,0,none⟩=some (.iface 262 (xg t)):=by rw[kg];exact xu _ _ _ _ _
        have Uh:=z7 (bk.out.below uN);have U8:=Y4.below uN;have aq:W3.cell? ⟨B,0,none⟩=some (.pointer (some ⟨p,0,none⟩)):=(uN.cell (z8 _ _ DN)).trans DN;have U7:=z7 (YO.out.but (xR.of (p:=p) uN) (by omega));have Gn:=uN.size;clear kg;refine Y3 bJ rfl _ _ rfl (B+1) w1.heap.size _ acc (.text t .nil) ws rfl U7.out ⟨w2.heap.size,0,none⟩ 1 1 [.iface 262 (xg t)] rfl rfl ?h6a1 ?h6a2 ?h6a3 (by omega) ?h6a4 (show Fo.len (.text t .nil)=1 from rfl) (by have:=Dt.out;omega) (by omega) ?h6a5
        case h6a1=>exact cells_one Qt
        case h6a2 =>
         intro u hu;simp at hu;subst hu;rfl
        case h6a3=>exact⟨_,rfl,rfl⟩
        case h6a4=>exact fun k hk=>zx (jl.out.lt k hk).2 (by omega)
        intro v4 w4 qt gR;have xV:∀ k,(.slice (some ⟨g,0,none⟩) acc.len gc:Value).ownBlock=some k->B+1<=k:=fun k hk=>(jl.out.lt k hk).1
        have X8:=z7 (Uh.out.grown gR (fun k hk=>by have:=xV k hk;omega));have Uz:=U8.grown gR (fun k hk=>by have:=xV k hk;omega);have aj:=gR.cell aq (fun e=>by have:=xV B e.symm;omega);have U9:=z7 qt;obtain⟨ga',gc',rfl,_⟩:=qt.row;clear qt gR xV;go_wp2;go_roundw
        case rel=>exact⟨acc.app (.text t .nil),q,n',_,X8.out,Uz,aj,U9.out,(Fo.uW _ _ HM.out rfl),ZY.out,by have:=HN.out;omega,by have:=HN.out;omega,by rw[Fo.uX,(show Fo.len (.text t .nil)=1 from rfl)];omega,fun s e=>by rw[qh _ (by simp) acc] at e;cases e;omega⟩
        case measure =>
         rw[vF X8.out,vF NC.out];omega
      | some s =>
       obtain⟨us,Vn,hul⟩:=NO;have dW:=HLA.out s hl;have has:=fun W=>ID s W
       have HL:=z7 hl;clear hl;have zij:(9223372036854775807<s.length+t.length)=False:=by simp;omega
       obtain⟨g,zvd,hgv,Dl,hgl,vQ⟩:=vZ jl.out.1 (by omega);obtain⟨rfl,rfl⟩:ga=some ⟨g,0,none⟩/\gc=zvd:=by cases hgv;exact⟨rfl,rfl⟩
       have ag:w1.cell? ⟨g,acc.len - 1,none⟩=some (.iface 262 (xg s)):=by
        rw[vQ (acc.len - 1) (by omega),Vn,show acc.len - 1=us.length by omega];simp
       have hi0:(acc.len:Int) - 1=((acc.len - 1:Nat):Int):=by omega
       have Kk:((acc.len - 1:Nat):Int)<(acc.len:Int):=by omega
       have SN:decide (((acc.len - 1:Nat):Int)<(acc.len:Int))=true:=by simp;omega
       clear vQ;rcases Xq with Xq|⟨Xq,rfl⟩
       .go_wp2_with fail;refine BF.out.mono ?_;rintro e w2 ⟨rfl,qf,qV⟩;have Y4:=Gp.trans qV;have DN:w2.cell? ⟨B,0,none⟩=some (.pointer (some ⟨p,0,none⟩)):=qV.cell nT (by show B≠p;omega);have YO:=z7 (jl.out.but qV (by omega));have bk:=z7 qf;have KZ:=qV.size;have Nk:w2.cell? ⟨g,acc.len - 1,none⟩=some (.iface 262 (xg s)):=qV.cell ag (by show g≠p;omega);have hzc:w2.frozen? ⟨g,acc.len - 1,none⟩=false:=YO.out.1.frozenAt _;clear qf qV;have HJ:=z7 (YO.out.Ca HM.out HL.out Vn hul t);go_wp2;have zu0:acc.len - 1=us.length:=by omega
        rw[Vu,zu0];have hj:=HJ.out;rw[HJ.out.2] at hj;have hS3:=bk.out.own (B:=g) (by omega) us.length (.iface 262 (xg (s++t)));go_roundw
        case rel=>exact⟨acc.xL t,q,n',_,hS3,Y4.own (by omega) _ _,by rw[xk,if_neg (fun e=>by have:=congrArg zu e;simp at this;omega)];exact DN,hj.1,(Gz HM.out HL.out t).1,US.out,by have:=HN.out;omega,by have:=HN.out;omega,by rw[HJ.out.2];omega,fun x e=>by rw[(Gz HM.out HL.out t).2] at e;cases e;rw[zg];omega⟩
        case measure =>
         rw[vF hS3,vF NC.out];omega
       .go_wp2_with fail;refine BF.out.mono ?_;rintro e w2 ⟨rfl,qf,qV⟩;have Y4:=Gp.trans qV;have DN:w2.cell? ⟨B,0,none⟩=some (.pointer (some ⟨p,0,none⟩)):=qV.cell nT (by show B≠p;omega);have YO:=z7 (jl.out.but qV (by omega));have bk:=z7 qf;have KZ:=qV.size;have Nk:w2.cell? ⟨g,acc.len - 1,none⟩=some (.iface 262 (xg s)):=qV.cell ag (by show g≠p;omega);have hzc:w2.frozen? ⟨g,acc.len - 1,none⟩=false:=YO.out.1.frozenAt _;clear qf qV;have HJ:=z7 (YO.out.Ca HM.out HL.out Vn hul t);go_wp2;have zu0:acc.len - 1=us.length:=by omega
        rw[Vu,zu0];have hj:=HJ.out;rw[HJ.out.2] at hj;have hS3:=bk.out.own (B:=g) (by omega) us.length (.iface 262 (xg (s++t)));go_roundw
        case rel=>exact⟨acc.xL t,q,n',_,hS3,Y4.own (by omega) _ _,by rw[xk,if_neg (fun e=>by have:=congrArg zu e;simp at this;omega)];exact DN,hj.1,(Gz HM.out HL.out t).1,US.out,by have:=HN.out;omega,by have:=HN.out;omega,by rw[HJ.out.2];omega,fun x e=>by rw[(Gz HM.out HL.out t).2] at e;cases e;rw[zg];omega⟩
        case measure =>
         rw[vF hS3,vF NC.out];omega
theorem R9(p:Nat)(rs:List Int):∀ (n:Nat),n<=5->oJ p rs (5 - n) (YL rs n)
 | 0,_=>Jg p rs 5 none (by omega) (fun j W hs he=>Qz p rs j 6 none W hs he ⟨fun _=>rfl,fun _=>rfl⟩ (fun m e=>by cases e) (fun m e=>by cases e)) (fun m e=>by cases e)
 | n+1,h=>by
  have ih:=R9 p rs n (by omega);have e:5 - n=5 - (n+1)+1:=by omega
  rw[e] at ih;exact Jg p rs (5 - (n+1)) (some (YL rs n)) (by omega) (fun j W hs he=>Qz p rs j (5 - (n+1)+1) (some (YL rs n)) W hs he ⟨fun h=>(by cases h),fun h=>(by omega)⟩ (fun m e=>by cases e;exact ih) (fun m e=>by cases e;exact CR rs n)) (fun m e=>by cases e;exact CR rs n)
def vA(l:List UInt8):Bool:=l.all xF && !l.isEmpty
theorem af(s:ByteArray)(h:0<s.size):s.data.toList.headD 0=s[0]:=by
 rw[<-getElem_toList s 0 h,List.headD_eq_head?_getD,List.head?_eq_getElem?,List.getElem?_eq_getElem (by simpa using h)];rfl
set_option maxRecDepth 10000
def fX(r:Int):Bool:=decide (0<=r/\r<=0x10FFFF/\(r<0xD800\/0xDFFF<r))
def aZ(l:List UInt8)(v:Nat):Nat:=l.foldl (fun v c=>64*v+(c.toNat - 128)) v
def bw(c:UInt8):Bool:=128<=c && c<=191
def least(n:Nat):Int:=if n=4 then 65536 else if n=3 then 2048 else if n=2 then 128 else 0
def qZ(l:List UInt8)(n v:Nat):Nat :=
 if l.length<n then 0 else if (l.tail.take (n - 1)).all bw=false then 0
 else if (aZ (l.tail.take (n - 1)) v:Int)<least n\/fX (aZ (l.tail.take (n - 1)) v)=false then 0 else n
def xw(l:List UInt8):Nat :=
 let c:=(l.headD 0).toNat
 if 240<=c/\c<248 then qZ l 4 (c - 240)
 else if 224<=c/\c<240 then qZ l 3 (c - 224)
 else if 192<=c/\c<224 then qZ l 2 (c - 192)
 else if 128<=c then 0
 else qZ l 1 c
theorem Gs(c:UInt8):bw c=true ↔ (128:Int)<=(c.toNat:Int)/\(c.toNat:Int)<=191:=by
 simp[bw,UInt8.le_iff_toNat_le];omega
theorem qL{l:List UInt8}{n v:Nat}(H:(240<=(l.headD 0).toNat/\(l.headD 0).toNat<248/\n=4/\v=(l.headD 0).toNat - 240) \/
  (224<=(l.headD 0).toNat/\(l.headD 0).toNat<240/\n=3/\v=(l.headD 0).toNat - 224) \/
  (192<=(l.headD 0).toNat/\(l.headD 0).toNat<224/\n=2/\v=(l.headD 0).toNat - 192) \/
  ((l.headD 0).toNat<128/\n=1/\v=(l.headD 0).toNat)):xw l=qZ l n v:=by
 unfold xw;rcases H with⟨h1,h2,rfl,rfl⟩|⟨h1,h2,rfl,rfl⟩|⟨h1,h2,rfl,rfl⟩|⟨h1,rfl,rfl⟩
 .rw[if_pos ⟨h1,h2⟩]
 .rw[if_neg (by omega),if_pos ⟨h1,h2⟩]
 .rw[if_neg (by omega),if_neg (by omega),if_pos ⟨h1,h2⟩]
 .rw[if_neg (by omega),if_neg (by omega),if_neg (by omega),if_neg (by omega)]
theorem jC{l:List UInt8}{n v:Nat}(h:l.length<n):qZ l n v=0:=by rw[qZ,if_pos h]
theorem SP(l:List UInt8)(n v:Nat):qZ l n v<=l.length/\qZ l n v<=n:=by
 unfold qZ;repeat' split
 all_goals omega
theorem XM(l:List UInt8):xw l<=l.length/\xw l<=4:=by
 have h:=fun n v=>SP l n v
 unfold xw;simp only[];split
 .exact h 4 _
 split
 .exact⟨(h 3 _).1,by have:=(h 3 ((l.headD 0).toNat - 224)).2;omega⟩
 split
 .exact⟨(h 2 _).1,by have:=(h 2 ((l.headD 0).toNat - 192)).2;omega⟩
 split
 .omega
 .exact⟨(h 1 _).1,by have:=(h 1 ((l.headD 0).toNat)).2;omega⟩
def uI(l:List UInt8):List (List UInt8)×Nat :=
 if h:l=[]\/xw l=0 then ([],0) else
  let r:=uI (l.drop (xw l))
  (l.take (xw l)::r.1,xw l+r.2)
 termination_by l.length
 decreasing_by
  simp only[not_or] at h;have:=List.length_pos_iff.2 h.1;simp;omega
theorem kO:uI []=([],0):=by rw[uI];simp
theorem Y5{l:List UInt8}(h:xw l=0):uI l=([],0):=by rw[uI];simp[h]
theorem gG{l:List UInt8}(h0:l≠[])(h:xw l≠0):uI l=(l.take (xw l)::(uI (l.drop (xw l))).1,xw l+(uI (l.drop (xw l))).2):=by
 rw[uI,dif_neg (by simp[h0,h])]
end Go.Proofs.YthpldolmpinnhaaGreatDoor
