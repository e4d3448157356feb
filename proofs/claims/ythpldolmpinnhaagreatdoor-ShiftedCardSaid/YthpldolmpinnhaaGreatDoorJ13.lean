import Derived.Test.YthpldolmpinnhaaGreatDoorJ12
import Derived.Defers
namespace Go.Proofs.YthpldolmpinnhaaGreatDoor
open Go Go.RowKit
set_option maxRecDepth 10000
theorem msg_dec (B p:Nat) (x:Int) (u:FrameMode) (w:World) (hc:w.cell? ⟨B,0,none⟩=some (.pointer (some ⟨p,0,none⟩))) (hx:w.cell? ⟨p,2,none⟩=some (.int .i64 x)) (hz:w.frozen? ⟨p,2,none⟩=false) :
  CallsD Tryz.prog 156 #[.pointer (some ⟨B,0,none⟩)] u w fun e u' w'=>u'=u/\(e = .returned (.tuple #[])/\w'=w.setCell ⟨p,2,none⟩ (.int .i64 (wrap64 (x - 1)))):=by
 go_enter_d Tryz.func156,Tryz.ntmps156
 go_wp2
 go_end0
 exact ⟨rfl,rfl⟩
theorem msgGo_step {rs:List Int} {msg:Option MsgP} {num:Bool} {n:Nat} {acc:Fo} {i:Nat} (hn:1<=n):∃ n',n=n'+1/\msgGo rs msg num n acc i =
  if nextL rs i = -1\/nextL rs i=125 then .ok (acc,i)
  else if nextL rs i=123 then (argP rs msg i).then fun f j=>msgGo rs msg num n' (acc.app f) j
  else if nextL rs i=35/\num=true then msgGo rs msg num n' (acc.app (.hash .nil)) (i+1)
  else msgGo rs msg num n' (acc.addText (textT rs num i).1) (textT rs num i).2:=by
 obtain ⟨n',rfl⟩:∃ n',n=n'+1:=⟨n - 1,by omega⟩;exact ⟨n',rfl,by rw [msgGo]⟩
set_option maxHeartbeats 8000000 in
theorem syn_message (p:Nat) (rs:List Int) (d:Nat) (msg:Option MsgP) (hd5:d<=50) (harg:∀ j W,SynAt p rs j (d+1) W->EnvAt p W->Calls Tryz.prog 157 #[.pointer (some ⟨p,0,none⟩)] W (ArgQ p rs (d+1) (argP rs msg j) W)) (hup:∀ m,msg=some m->MsgUp m) :
  MsgC p rs d (fun num i=>msgGo rs msg num (rs.length+1) .nil i):=by
 intro num i w h he;have hmf:∀ (fn:Fn) (first cap:Array Value) (w:World),(Instr.makeFunc fn first cap).run Tryz.prog w = .ok (.func fn first cap) w:=fun _ _ _ _=>rfl
 have HH:=Lib.hid h;have HENV:=Lib.hid he;have HARG:=Lib.hid harg;have HALT:=Lib.hid (fun j f q (e:argP rs msg j = .ok (f,q))=>argP_lt hup e);have hplt:=h.lt;have HLEN:=Lib.hid h.len;obtain ⟨R,hR⟩:∃ R,msgGo rs msg num (rs.length+1) .nil i=R:=⟨_,rfl⟩;show Calls _ _ _ w (MsgQ p rs d (msgGo rs msg num (rs.length+1) .nil i) w);rw [hR];have HTW:=Lib.hid hR.symm;clear he harg hR hup;obtain ⟨B,hB⟩:∃ B,w.heap.size=B:=⟨_,rfl⟩;have HB:=Lib.hid hB;have hpB:p<B:=by omega
 have hb0:=fun o=>(Below.refl w.heap.size w).alloc (Nat.le_refl _) o
 have HSYN:=Lib.hid h;have g6:=h.deep;have z6:=h.z2;clear h;go_enter_defers Tryz.func111,Tryz.ntmps111
 go_wp2_with fail
 refine wp_gen ?_;intro W hW;have hd1:IntKind.i64.wrap ((d:Int)+1)=((d+1:Nat):Int):=by simp [IntKind.wrap,IntKind.signed,IntKind.bits];omega
 have F1:SynAt p rs i (d+1) W/\But p w W/\W.cell? ⟨B,0,none⟩=some (.pointer (some ⟨p,0,none⟩))/\B<W.heap.size:=by
  rw [hW,show ((d:Int)+1)=((d+1:Nat):Int) from by omega];have hs:=HSYN.out.dive (d+1) (by omega);have hsz:(w.setCell ⟨p,2,none⟩ (.int .i64 ((d+1:Nat):Int))).heap.size=B:=by rw [←HB.out];simp [World.setCell]
  have hal:=fun o=>(Below.refl (w.setCell ⟨p,2,none⟩ (.int .i64 ((d+1:Nat):Int))).heap.size (w.setCell ⟨p,2,none⟩ (.int .i64 ((d+1:Nat):Int)))).alloc (Nat.le_refl _) o
  have hcm:=fun c t fr i=>cell_made (w.setCell ⟨p,2,none⟩ (.int .i64 ((d+1:Nat):Int))) c t fr i
  rw [hsz] at hcm;exact ⟨hs.below (hal _),(But.set p w 2 _).below (hal _),hcm _ _ _ _,by rw [←hsz];simp⟩
 obtain ⟨HSW0,hbW,PB,hBW⟩:=F1;have HSW:=Lib.hid HSW0;clear HSW0 hW g6 z6 hb0;go_loopw [4] (fun v wr=>∃ acc j n ws,SynAt p rs j (d+1) wr/\But p w wr/\wr.cell? ⟨B,0,none⟩=some (.pointer (some ⟨p,0,none⟩))/\GrowR (B+1) 112 1 v acc ws wr/\acc.isMsg=true/\R=msgGo rs msg num n acc j/\rs.length+1<=n+j/\1<=n/\acc.len<=j/\∀ s,acc.lastText=some s->s.length<=4*j) (fun v wr=>rs.length+2 - atOf p wr)
 case atStart=>exact ⟨.nil,i,rs.length+1,[],HSW.out,hbW,PB,GrowR.start _ _ _ _,rfl,HTW.out,by omega,by omega,Nat.zero_le _,fun s e=>by cases e⟩
 case round =>
  obtain ⟨acc,j,n,ws,hs,hbut,pb,hgr,hmsg,hR,hfu,hn1,hacc,hlast⟩:=hrel;obtain ⟨n',hn',hstep⟩:=msgGo_step (rs:=rs) (msg:=msg) (num:=num) (acc:=acc) (i:=j) hn1;rw [hstep] at hR;have HSR:=Lib.hid hs;have HGR:=Lib.hid hgr;have HM:=Lib.hid hmsg;have HR:=Lib.hid hR;have HLA:=Lib.hid hlast;have HN:=Lib.hid hn';have hhere:=hs.here;obtain ⟨ga,gc,rfl,_⟩:=hgr.row;clear hs hgr hmsg hR hlast hn' hstep;go_wp2_with fail
  refine (syn_next p rs j (d+1) wr HSR.out).mono ?_;rintro e w1 ⟨rfl,hb1⟩;have HS1:=Lib.hid (HSR.out.below hb1);have PB1:w1.cell? ⟨B,0,none⟩=some (.pointer (some ⟨p,0,none⟩)):=(hb1.cell (World.block_lt_of_cell? _ _ pb)).trans pb;have hbk1:=hbut.below hb1;have HGR1:=Lib.hid (HGR.out.but (But.of (p:=p) hb1) (by omega));have hBW1:B<w1.heap.size:=World.block_lt_of_cell? _ _ PB1;have hw1:=hb1.size;clear hb1 pb;obtain ⟨r,hr⟩:∃ r,nextL rs j=r:=⟨_,rfl⟩;rw [hr];have HQR:=Lib.hid hr;have HR2:=HR.out;rw [hr] at HR2;have HR3:=Lib.hid HR2;clear HR2 HR hr;by_cases hend:r = -1\/r=125
  ·have HT:=Lib.hid (HR3.out.trans (if_pos hend));have hd2:wrap64 (((d+1:Nat):Int) - 1)=(d:Int):=by rw [show ((d+1:Nat):Int) - 1=(d:Int) by omega];simp [wrap64];omega
   have HD2:=Lib.hid hd2;clear HR3 hd2;obtain hend | hend:=hend;all_goals
    subst hend;go_wp2_with fail
    refine leaves_cons (f:=156) (args:=#[.pointer (some ⟨B,0,none⟩)]) (by simp) (by simp [go_sem]) ?_;refine (msg_dec B p ((d+1:Nat):Int) _ _ PB1 HS1.out.deep HS1.out.z2).mono ?_;rintro e u' w'' ⟨rfl,rfl,rfl⟩;simp only [settle];refine ⟨.slice ga acc.len gc,by simp [results,Tryz.results111,go_sem],?_⟩;rw [HT.out,HD2.out];have hG:=HGR1.out.but (But.set p w1 2 (.int .i64 d)) (by omega);obtain ⟨a,c,hv,hrow⟩:=hG.row
    cases hv;have hsz:=hbk1.size;have hk:KeepR (B+1) (w1.setCell ⟨p,2,none⟩ (.int .i64 d)).heap.size (w1.setCell ⟨p,2,none⟩ (.int .i64 d)) (w1.setCell ⟨p,2,none⟩ (.int .i64 d)):=keep_refl (Nat.le_refl _);exact ⟨⟨⟨_,_,rfl,ws,hrow.keep hk (by omega) (Nat.le_refl _),NodesV.keep hk (by omega) (Nat.le_refl _) _ _ hG.nodes⟩,HM.out,HS1.out.dive d (by omega)⟩,hbk1.setIn 2 _⟩
  ·have HR4:=Lib.hid (HR3.out.trans (if_neg hend));have e1:(r==-1)=false:=by simpa using fun e=>hend (.inl e)
   have e2:(r==125)=false:=by simpa using fun e=>hend (.inr e)
   clear hend HR3;by_cases h123:r=123
   ·have HR3:=Lib.hid (HR4.out.trans (if_pos h123));clear HR4 e1 e2;subst h123;obtain ⟨ra,hra⟩:∃ ra,argP rs msg j=ra:=⟨_,rfl⟩;have hcall:=HARG.out j w1 HS1.out (HENV.out.but hbk1);rw [hra] at hcall;have HCALL:=Lib.hid hcall;have hr3:=HR3.out;rw [hra] at hr3;have HT1:=Lib.hid hr3;have HRA:=Lib.hid hra;clear hcall hr3 HR3 hra;go_wp2_with fail
    refine HCALL.out.mono ?_;rintro e w2 ⟨hq,hx2⟩;have hbk2:=hbk1.trans hx2;have PB2:w2.cell? ⟨B,0,none⟩=some (.pointer (some ⟨p,0,none⟩)):=hx2.cell PB1 (by show B≠p;omega);clear HCALL
    cases ra with
    | error en =>
     obtain ⟨en1,en2⟩:=en;have HQ:=Lib.hid hq;obtain ⟨bf,rfl,f1,f2,⟨dx,f3,f4⟩,f5,f6⟩:=hq;have HTE:=Lib.hid (show R = .error (en1,en2) from HT1.out);go_wp2
     refine leaves_cons (f:=156) (args:=#[.pointer (some ⟨B,0,none⟩)]) (by simp) (by simp [go_sem]) ?_;refine (msg_dec B p dx _ _ PB2 f3 f4).mono ?_;rintro e u' w'' ⟨rfl,rfl,rfl⟩;simp only [settle,List.append_nil,raised];rw [HTE.out];exact ⟨⟨bf,rfl,by rw [cellSet,if_neg (fun e=>by have:=congrArg Addr.block e;simp at this;omega)];exact f1,by rw [cellSet,if_neg (fun e=>by have:=congrArg Addr.block e;simp at this;omega)];exact f2,⟨_,by rw [cellSet,if_pos rfl,f3];rfl,by rw [World.frozen?_setCell];exact f4⟩,f5,by simpa [World.setCell] using f6⟩,hbk2.setIn 2 _⟩
    | ok fq =>
     obtain ⟨f,q⟩:=fq;obtain ⟨⟨v,rfl,hnod⟩,hfl,hfm,hs2⟩:=hq;have hal:=argP_last HRA.out;have hlt:=HALT.out _ _ _ HRA.out;obtain ⟨T,x,rfl,hT⟩:=hnod.one hfl hfm hal.1;have HNOD:=Lib.hid hnod;have HT2:=Lib.hid (show R=msgGo rs msg num n' (acc.app f) q from HT1.out);have hql:=hal.2;have hLAST:∀ s,(acc.app f).lastText=some s->s.length<=4*q:=fun s e=>by
      rw [last_app f (fun e=>by rw [e] at hfl;cases hfl) acc,hal.1] at e
      cases e
     have HLAST:=Lib.hid hLAST;have hfm2:=Lib.hid (Fo.isMsg_app acc f HM.out hfm);have HGR2:=Lib.hid (HGR1.out.but hx2 (by omega));have HS2:=Lib.hid hs2;have hsz2:=hx2.size;have hFL:=Lib.hid hfl;clear hnod hs2 HT1 hT hal hLAST hfl hfm hx2;go_wp2_with (at_builtin;refine list_gen ?_)
     intro W3 hW3;have hal:Below w2.heap.size w2 W3:=by rw [hW3];exact (Below.refl _ _).alloc (Nat.le_refl _) _
     have hC3:W3.cell? ⟨w2.heap.size,0,none⟩=some (.iface T x):=by rw [hW3];exact cell_made _ _ _ _ _
     have HS3:=Lib.hid (HS2.out.below hal);have hbk3:=hbk2.below hal;have PB3:W3.cell? ⟨B,0,none⟩=some (.pointer (some ⟨p,0,none⟩)):=(hal.cell (World.block_lt_of_cell? _ _ PB2)).trans PB2;have HGR3:=Lib.hid (HGR2.out.but (But.of (p:=p) hal) (by omega));have hsz3:=hal.size;have HN3:=Lib.hid (NodesV.keep (lo:=w1.heap.size) (hi:=w2.heap.size) (w:=w2) (w':=W3) ⟨hal.size,fun k _ hk=>hal.block k hk⟩ (Nat.le_refl _) hal.size _ _ HNOD.out);clear hW3;refine app_grow elem_node rfl _ _ rfl (B+1) w1.heap.size _ acc f ws rfl HGR3.out ⟨w2.heap.size,0,none⟩ 1 1 [.iface T x] rfl rfl ?h1a1 ?h1a2 ?h1a3 (by omega) ?h1a4 hFL.out (by have:=HLEN.out;omega) (by omega) ?h1a5
     case h1a1=>exact cells_one hC3
     case h1a2 =>
      intro u hu;simp at hu;subst hu;rfl
     case h1a3=>exact HN3.out
     case h1a4=>exact fun k hk=>Nat.lt_of_lt_of_le (HGR1.out.lt k hk).2 (by omega)
     intro v4 w4 hg4 hgr4;have hown:∀ k,(.slice ga acc.len gc:Value).ownBlock=some k->B+1<=k:=fun k hk=>(HGR1.out.lt k hk).1
     have HS4:=Lib.hid (HS3.out.grown hgr4 (fun k hk=>by have:=hown k hk;omega));have hbk4:=hbk3.grown hgr4 (fun k hk=>by have:=hown k hk;omega);have PB4:=hgr4.cell PB3 (fun e=>by have:=hown B e.symm;omega);have HGR4:=Lib.hid hg4;obtain ⟨ga',gc',rfl,_⟩:=hg4.row;clear hg4 hgr4 hown;go_wp2
     go_roundw
     case rel=>exact ⟨acc.app f,q,n',_,HS4.out,hbk4,PB4,HGR4.out,hfm2.out,HT2.out,by have:=HN.out;omega,by have:=HN.out;omega,by rw [Fo.len_app,hFL.out];omega,HLAST.out⟩
     case measure =>
      rw [atOf_syn HS4.out,atOf_syn HSR.out];omega
   ·have HR3:=Lib.hid (HR4.out.trans (if_neg h123));have e3:(r==123)=false:=by simpa using h123
    clear h123 HR4;by_cases h35:r=35/\num=true
    ·have HT2:=Lib.hid (HR3.out.trans (if_pos h35));clear HR3 e1 e2 e3;obtain ⟨h35a,h35b⟩:=h35;subst h35a;subst h35b;have hjl:j<rs.length:=by
      apply Classical.byContradiction;intro hc;have:=HQR.out;rw [next_end (by omega)] at this
      cases this
     have g5:=HS1.out.at_;have z5:=HS1.out.z1;go_wp2_with (at_builtin;refine list_gen ?_)
     intro W3 hW3;rw [show wrap64 ((j:Int)+1)=((j+1:Nat):Int) from by have:=HLEN.out;simp [wrap64];omega] at hW3;have hmv:=HS1.out.move (j+1) (by omega);have hal:Below (w1.setCell ⟨p,1,none⟩ (.int .i64 ((j+1:Nat):Int))).heap.size (w1.setCell ⟨p,1,none⟩ (.int .i64 ((j+1:Nat):Int))) W3:=by rw [hW3];exact (Below.refl _ _).alloc (Nat.le_refl _) _
     have hsz:(w1.setCell ⟨p,1,none⟩ (.int .i64 ((j+1:Nat):Int))).heap.size=w1.heap.size:=by simp [World.setCell]
     have hC3:W3.cell? ⟨w1.heap.size,0,none⟩=some (.iface 264 (.agg #[])):=by rw [hW3,←hsz];exact cell_made _ _ _ _ _
     have HS3:=Lib.hid (hmv.below hal);have hbk3:=(hbk1.setIn 1 (.int .i64 ((j+1:Nat):Int))).below hal;have PB2:(w1.setCell ⟨p,1,none⟩ (.int .i64 ((j+1:Nat):Int))).cell? ⟨B,0,none⟩=some (.pointer (some ⟨p,0,none⟩)):=by rw [cellSet,if_neg (fun e=>by have:=congrArg Addr.block e;simp at this;omega)];exact PB1
     have PB3:W3.cell? ⟨B,0,none⟩=some (.pointer (some ⟨p,0,none⟩)):=(hal.cell (World.block_lt_of_cell? _ _ PB2)).trans PB2;have HGR3:=Lib.hid ((HGR1.out.but (But.set p w1 1 (.int .i64 ((j+1:Nat):Int))) (by omega)).but (But.of (p:=p) hal) (by omega));have hsz3:=hal.size;clear hW3;refine app_grow elem_node rfl _ _ rfl (B+1) w1.heap.size _ acc (.hash .nil) ws rfl HGR3.out ⟨w1.heap.size,0,none⟩ 1 1 [.iface 264 (.agg #[])] rfl rfl ?h2a1 ?h2a2 ?h2a3 (by omega) ?h2a4 (show Fo.len (.hash .nil)=1 from rfl) (by have:=HLEN.out;omega) (by omega) ?h2a5
     case h2a1=>exact cells_one hC3
     case h2a2 =>
      intro u hu;simp at hu;subst hu;rfl
     case h2a3=>exact ⟨_,rfl,rfl⟩
     case h2a4=>exact fun k hk=>Nat.lt_of_lt_of_le (HGR1.out.lt k hk).2 (by omega)
     intro v4 w4 hg4 hgr4;have hown:∀ k,(.slice ga acc.len gc:Value).ownBlock=some k->B+1<=k:=fun k hk=>(HGR1.out.lt k hk).1
     have HS4:=Lib.hid (HS3.out.grown hgr4 (fun k hk=>by have:=hown k hk;omega));have hbk4:=hbk3.grown hgr4 (fun k hk=>by have:=hown k hk;omega);have PB4:=hgr4.cell PB3 (fun e=>by have:=hown B e.symm;omega);have HGR4:=Lib.hid hg4;obtain ⟨ga',gc',rfl,_⟩:=hg4.row;clear hg4 hgr4 hown;go_wp2
     go_roundw
     case rel=>exact ⟨acc.app (.hash .nil),(j+1),n',_,HS4.out,hbk4,PB4,HGR4.out,(Fo.isMsg_app _ _ HM.out rfl),HT2.out,by have:=HN.out;omega,by have:=HN.out;omega,by rw [Fo.len_app,(show Fo.len (.hash .nil)=1 from rfl)];omega,fun s e=>by rw [last_app _ (by simp) acc] at e;cases e⟩
     case measure =>
      rw [atOf_syn HS4.out,atOf_syn HSR.out];omega
    ·have HR4:=Lib.hid (HR3.out.trans (if_neg h35));clear HR3;have hjl:j<rs.length:=by
      apply Classical.byContradiction;intro hc;have:=HQR.out;rw [next_end (by omega)] at this;rw [←this] at e1
      cases e1
     have HTX:=Lib.hid (syn_text p rs j (d+1) num w1 HS1.out hjl);obtain ⟨t,ht⟩:∃ t,(textT rs num j).1=t:=⟨_,rfl⟩;obtain ⟨q,hq⟩:∃ q,(textT rs num j).2=q:=⟨_,rfl⟩;have hlt:j<q:=by have:=textT_lt rs num j;omega
     have htl:t.length+4*j<=4*q:=by have:=text_size rs num j;rw [ht,hq] at this;exact this
     have hql:q<=rs.length:=by have:=(text_end (num:=num) hjl).2;omega
     have hR5:=HR4.out;rw [ht,hq] at HTX hR5;have HT1:=Lib.hid hR5;have hl0:=HLEN.out;clear ht hq hR5 HR4;have hnum:(r==35)=false\/((r==35)=true/\num=false):=by
      by_cases h:r=35
      ·right;exact ⟨by simp [h],by cases num;rfl;exact absurd ⟨h,rfl⟩ h35⟩
      ·left;simp [h]
     clear h35;by_cases hnil:acc.len=0
     ·have hl:acc.lastText=none:=by
       cases acc<;>simp [Fo.len] at hnil;rfl
      have hn0:decide ((0:Int)<(acc.len:Int))=false:=by simp;omega
      have hn1:decide (0<acc.len)=false:=by simp;omega
      have HT2:=Lib.hid (show R=msgGo rs msg num n' (acc.app (.text t .nil)) q by rw [←last_none acc t hl];exact HT1.out);clear HT1 hl hnil;rcases hnum with hnum | ⟨hnum,rfl⟩
      ·go_wp2_with fail
       refine HTX.out.mono ?_;rintro e w2 ⟨rfl,hs2,hx2⟩;have hbk2:=hbk1.trans hx2;have PB2:w2.cell? ⟨B,0,none⟩=some (.pointer (some ⟨p,0,none⟩)):=hx2.cell PB1 (by show B≠p;omega);have HGR2:=Lib.hid (HGR1.out.but hx2 (by omega));have HS2:=Lib.hid hs2;have hsz2:=hx2.size;clear hs2 hx2;go_wp2_with (at_builtin;refine list_gen ?_)
       intro W3 hW3;have hal:Below w2.heap.size w2 W3:=by rw [hW3];exact (Below.refl _ _).alloc (Nat.le_refl _) _
       have hC3:W3.cell? ⟨w2.heap.size,0,none⟩=some (.iface 262 (strv t)):=by rw [hW3];exact cell_made _ _ _ _ _
       have HS3:=Lib.hid (HS2.out.below hal);have hbk3:=hbk2.below hal;have PB3:W3.cell? ⟨B,0,none⟩=some (.pointer (some ⟨p,0,none⟩)):=(hal.cell (World.block_lt_of_cell? _ _ PB2)).trans PB2;have HGR3:=Lib.hid (HGR2.out.but (But.of (p:=p) hal) (by omega));have hsz3:=hal.size;clear hW3;refine app_grow elem_node rfl _ _ rfl (B+1) w1.heap.size _ acc (.text t .nil) ws rfl HGR3.out ⟨w2.heap.size,0,none⟩ 1 1 [.iface 262 (strv t)] rfl rfl ?h3a1 ?h3a2 ?h3a3 (by omega) ?h3a4 (show Fo.len (.text t .nil)=1 from rfl) (by have:=HLEN.out;omega) (by omega) ?h3a5
       case h3a1=>exact cells_one hC3
       case h3a2 =>
        intro u hu;simp at hu;subst hu;rfl
       case h3a3=>exact ⟨_,rfl,rfl⟩
       case h3a4=>exact fun k hk=>Nat.lt_of_lt_of_le (HGR1.out.lt k hk).2 (by omega)
       intro v4 w4 hg4 hgr4;have hown:∀ k,(.slice ga acc.len gc:Value).ownBlock=some k->B+1<=k:=fun k hk=>(HGR1.out.lt k hk).1
       have HS4:=Lib.hid (HS3.out.grown hgr4 (fun k hk=>by have:=hown k hk;omega));have hbk4:=hbk3.grown hgr4 (fun k hk=>by have:=hown k hk;omega);have PB4:=hgr4.cell PB3 (fun e=>by have:=hown B e.symm;omega);have HGR4:=Lib.hid hg4;obtain ⟨ga',gc',rfl,_⟩:=hg4.row;clear hg4 hgr4 hown;go_wp2
       go_roundw
       case rel=>exact ⟨acc.app (.text t .nil),q,n',_,HS4.out,hbk4,PB4,HGR4.out,(Fo.isMsg_app _ _ HM.out rfl),HT2.out,by have:=HN.out;omega,by have:=HN.out;omega,by rw [Fo.len_app,(show Fo.len (.text t .nil)=1 from rfl)];omega,fun s e=>by rw [last_app _ (by simp) acc] at e;cases e;omega⟩
       case measure =>
        rw [atOf_syn HS4.out,atOf_syn HSR.out];omega
      ·go_wp2_with fail
       refine HTX.out.mono ?_;rintro e w2 ⟨rfl,hs2,hx2⟩;have hbk2:=hbk1.trans hx2;have PB2:w2.cell? ⟨B,0,none⟩=some (.pointer (some ⟨p,0,none⟩)):=hx2.cell PB1 (by show B≠p;omega);have HGR2:=Lib.hid (HGR1.out.but hx2 (by omega));have HS2:=Lib.hid hs2;have hsz2:=hx2.size;clear hs2 hx2;go_wp2_with (at_builtin;refine list_gen ?_)
       intro W3 hW3;have hal:Below w2.heap.size w2 W3:=by rw [hW3];exact (Below.refl _ _).alloc (Nat.le_refl _) _
       have hC3:W3.cell? ⟨w2.heap.size,0,none⟩=some (.iface 262 (strv t)):=by rw [hW3];exact cell_made _ _ _ _ _
       have HS3:=Lib.hid (HS2.out.below hal);have hbk3:=hbk2.below hal;have PB3:W3.cell? ⟨B,0,none⟩=some (.pointer (some ⟨p,0,none⟩)):=(hal.cell (World.block_lt_of_cell? _ _ PB2)).trans PB2;have HGR3:=Lib.hid (HGR2.out.but (But.of (p:=p) hal) (by omega));have hsz3:=hal.size;clear hW3;refine app_grow elem_node rfl _ _ rfl (B+1) w1.heap.size _ acc (.text t .nil) ws rfl HGR3.out ⟨w2.heap.size,0,none⟩ 1 1 [.iface 262 (strv t)] rfl rfl ?h4a1 ?h4a2 ?h4a3 (by omega) ?h4a4 (show Fo.len (.text t .nil)=1 from rfl) (by have:=HLEN.out;omega) (by omega) ?h4a5
       case h4a1=>exact cells_one hC3
       case h4a2 =>
        intro u hu;simp at hu;subst hu;rfl
       case h4a3=>exact ⟨_,rfl,rfl⟩
       case h4a4=>exact fun k hk=>Nat.lt_of_lt_of_le (HGR1.out.lt k hk).2 (by omega)
       intro v4 w4 hg4 hgr4;have hown:∀ k,(.slice ga acc.len gc:Value).ownBlock=some k->B+1<=k:=fun k hk=>(HGR1.out.lt k hk).1
       have HS4:=Lib.hid (HS3.out.grown hgr4 (fun k hk=>by have:=hown k hk;omega));have hbk4:=hbk3.grown hgr4 (fun k hk=>by have:=hown k hk;omega);have PB4:=hgr4.cell PB3 (fun e=>by have:=hown B e.symm;omega);have HGR4:=Lib.hid hg4;obtain ⟨ga',gc',rfl,_⟩:=hg4.row;clear hg4 hgr4 hown;go_wp2
       go_roundw
       case rel=>exact ⟨acc.app (.text t .nil),q,n',_,HS4.out,hbk4,PB4,HGR4.out,(Fo.isMsg_app _ _ HM.out rfl),HT2.out,by have:=HN.out;omega,by have:=HN.out;omega,by rw [Fo.len_app,(show Fo.len (.text t .nil)=1 from rfl)];omega,fun s e=>by rw [last_app _ (by simp) acc] at e;cases e;omega⟩
       case measure =>
        rw [atOf_syn HS4.out,atOf_syn HSR.out];omega
     ·have hn0:decide ((0:Int)<(acc.len:Int))=true:=by simp;omega
      have hn1:decide (0<acc.len)=true:=by simp;omega
      have hlv:=HGR1.out.lastV HM.out (fun e=>hnil (by rw [e];rfl));obtain ⟨l,hl⟩:∃ l,acc.lastText=l:=⟨_,rfl⟩;rw [hl] at hlv
      cases l with
      | none =>
       have HT2:=Lib.hid (show R=msgGo rs msg num n' (acc.app (.text t .nil)) q by rw [←last_none acc t hl];exact HT1.out);obtain ⟨us,T,x,hus,hul,hT⟩:=hlv;clear HT1 hl;have has:∀ W,(Instr.typeAssert (.iface T x) 112 262 true).run Tryz.prog W = .ok (.tuple #[.string ⟨#[]⟩,.bool false]) W:=by
        intro W;rcases hT with ⟨rfl,rfl⟩ | ⟨rfl,b,rfl⟩ | ⟨rfl,b,rfl⟩ | ⟨rfl,b,rfl⟩
        ·exact assert_hash W
        ·exact assert_put b W
        ·exact assert_num b W
        ·exact assert_br b W
       clear hT;obtain ⟨g,gcap,hgv,hbg,hgl,hcell⟩:=own_some HGR1.out.1 (by omega);obtain ⟨rfl,rfl⟩:ga=some ⟨g,0,none⟩/\gc=gcap:=by cases hgv;exact ⟨rfl,rfl⟩
       have hlc1:w1.cell? ⟨g,acc.len - 1,none⟩=some (.iface T x):=by
        rw [hcell (acc.len - 1) (by omega),hus,show acc.len - 1=us.length by omega];simp
       have hi0:(acc.len:Int) - 1=((acc.len - 1:Nat):Int):=by omega
       have hi2:((acc.len - 1:Nat):Int)<(acc.len:Int):=by omega
       have hi3:decide (((acc.len - 1:Nat):Int)<(acc.len:Int))=true:=by simp;omega
       clear hcell;clear hus hul;rcases hnum with hnum | ⟨hnum,rfl⟩
       ·go_wp2_with fail
        refine HTX.out.mono ?_;rintro e w2 ⟨rfl,hs2,hx2⟩;have hbk2:=hbk1.trans hx2;have PB2:w2.cell? ⟨B,0,none⟩=some (.pointer (some ⟨p,0,none⟩)):=hx2.cell PB1 (by show B≠p;omega);have HGR2:=Lib.hid (HGR1.out.but hx2 (by omega));have HS2:=Lib.hid hs2;have hsz2:=hx2.size;have hlc:w2.cell? ⟨g,acc.len - 1,none⟩=some (.iface T x):=hx2.cell hlc1 (by show g≠p;omega);clear hs2 hx2;go_wp2_with (at_builtin;refine list_gen ?_)
        intro W3 hW3;have hal:Below w2.heap.size w2 W3:=by rw [hW3];exact (Below.refl _ _).alloc (Nat.le_refl _) _
        have hC3:W3.cell? ⟨w2.heap.size,0,none⟩=some (.iface 262 (strv t)):=by rw [hW3];exact cell_made _ _ _ _ _
        have HS3:=Lib.hid (HS2.out.below hal);have hbk3:=hbk2.below hal;have PB3:W3.cell? ⟨B,0,none⟩=some (.pointer (some ⟨p,0,none⟩)):=(hal.cell (World.block_lt_of_cell? _ _ PB2)).trans PB2;have HGR3:=Lib.hid (HGR2.out.but (But.of (p:=p) hal) (by omega));have hsz3:=hal.size;clear hW3;refine app_grow elem_node rfl _ _ rfl (B+1) w1.heap.size _ acc (.text t .nil) ws rfl HGR3.out ⟨w2.heap.size,0,none⟩ 1 1 [.iface 262 (strv t)] rfl rfl ?h5a1 ?h5a2 ?h5a3 (by omega) ?h5a4 (show Fo.len (.text t .nil)=1 from rfl) (by have:=HLEN.out;omega) (by omega) ?h5a5
        case h5a1=>exact cells_one hC3
        case h5a2 =>
         intro u hu;simp at hu;subst hu;rfl
        case h5a3=>exact ⟨_,rfl,rfl⟩
        case h5a4=>exact fun k hk=>Nat.lt_of_lt_of_le (HGR1.out.lt k hk).2 (by omega)
        intro v4 w4 hg4 hgr4;have hown:∀ k,(.slice (some ⟨g,0,none⟩) acc.len gc:Value).ownBlock=some k->B+1<=k:=fun k hk=>(HGR1.out.lt k hk).1
        have HS4:=Lib.hid (HS3.out.grown hgr4 (fun k hk=>by have:=hown k hk;omega));have hbk4:=hbk3.grown hgr4 (fun k hk=>by have:=hown k hk;omega);have PB4:=hgr4.cell PB3 (fun e=>by have:=hown B e.symm;omega);have HGR4:=Lib.hid hg4;obtain ⟨ga',gc',rfl,_⟩:=hg4.row;clear hg4 hgr4 hown;go_wp2
        go_roundw
        case rel=>exact ⟨acc.app (.text t .nil),q,n',_,HS4.out,hbk4,PB4,HGR4.out,(Fo.isMsg_app _ _ HM.out rfl),HT2.out,by have:=HN.out;omega,by have:=HN.out;omega,by rw [Fo.len_app,(show Fo.len (.text t .nil)=1 from rfl)];omega,fun s e=>by rw [last_app _ (by simp) acc] at e;cases e;omega⟩
        case measure =>
         rw [atOf_syn HS4.out,atOf_syn HSR.out];omega
       ·go_wp2_with fail
        refine HTX.out.mono ?_;rintro e w2 ⟨rfl,hs2,hx2⟩;have hbk2:=hbk1.trans hx2;have PB2:w2.cell? ⟨B,0,none⟩=some (.pointer (some ⟨p,0,none⟩)):=hx2.cell PB1 (by show B≠p;omega);have HGR2:=Lib.hid (HGR1.out.but hx2 (by omega));have HS2:=Lib.hid hs2;have hsz2:=hx2.size;have hlc:w2.cell? ⟨g,acc.len - 1,none⟩=some (.iface T x):=hx2.cell hlc1 (by show g≠p;omega);clear hs2 hx2;go_wp2_with (at_builtin;refine list_gen ?_)
        intro W3 hW3;have hal:Below w2.heap.size w2 W3:=by rw [hW3];exact (Below.refl _ _).alloc (Nat.le_refl _) _
        have hC3:W3.cell? ⟨w2.heap.size,0,none⟩=some (.iface 262 (strv t)):=by rw [hW3];exact cell_made _ _ _ _ _
        have HS3:=Lib.hid (HS2.out.below hal);have hbk3:=hbk2.below hal;have PB3:W3.cell? ⟨B,0,none⟩=some (.pointer (some ⟨p,0,none⟩)):=(hal.cell (World.block_lt_of_cell? _ _ PB2)).trans PB2;have HGR3:=Lib.hid (HGR2.out.but (But.of (p:=p) hal) (by omega));have hsz3:=hal.size;clear hW3;refine app_grow elem_node rfl _ _ rfl (B+1) w1.heap.size _ acc (.text t .nil) ws rfl HGR3.out ⟨w2.heap.size,0,none⟩ 1 1 [.iface 262 (strv t)] rfl rfl ?h6a1 ?h6a2 ?h6a3 (by omega) ?h6a4 (show Fo.len (.text t .nil)=1 from rfl) (by have:=HLEN.out;omega) (by omega) ?h6a5
        case h6a1=>exact cells_one hC3
        case h6a2 =>
         intro u hu;simp at hu;subst hu;rfl
        case h6a3=>exact ⟨_,rfl,rfl⟩
        case h6a4=>exact fun k hk=>Nat.lt_of_lt_of_le (HGR1.out.lt k hk).2 (by omega)
        intro v4 w4 hg4 hgr4;have hown:∀ k,(.slice (some ⟨g,0,none⟩) acc.len gc:Value).ownBlock=some k->B+1<=k:=fun k hk=>(HGR1.out.lt k hk).1
        have HS4:=Lib.hid (HS3.out.grown hgr4 (fun k hk=>by have:=hown k hk;omega));have hbk4:=hbk3.grown hgr4 (fun k hk=>by have:=hown k hk;omega);have PB4:=hgr4.cell PB3 (fun e=>by have:=hown B e.symm;omega);have HGR4:=Lib.hid hg4;obtain ⟨ga',gc',rfl,_⟩:=hg4.row;clear hg4 hgr4 hown;go_wp2
        go_roundw
        case rel=>exact ⟨acc.app (.text t .nil),q,n',_,HS4.out,hbk4,PB4,HGR4.out,(Fo.isMsg_app _ _ HM.out rfl),HT2.out,by have:=HN.out;omega,by have:=HN.out;omega,by rw [Fo.len_app,(show Fo.len (.text t .nil)=1 from rfl)];omega,fun s e=>by rw [last_app _ (by simp) acc] at e;cases e;omega⟩
        case measure =>
         rw [atOf_syn HS4.out,atOf_syn HSR.out];omega
      | some s =>
       obtain ⟨us,hus,hul⟩:=hlv;have hsl:=HLA.out s hl;have has:=fun W=>assert_text s W
       have HL:=Lib.hid hl;clear hl;have hcat:(9223372036854775807<s.length+t.length)=False:=by simp;omega
       obtain ⟨g,gcap,hgv,hbg,hgl,hcell⟩:=own_some HGR1.out.1 (by omega);obtain ⟨rfl,rfl⟩:ga=some ⟨g,0,none⟩/\gc=gcap:=by cases hgv;exact ⟨rfl,rfl⟩
       have hlc1:w1.cell? ⟨g,acc.len - 1,none⟩=some (.iface 262 (strv s)):=by
        rw [hcell (acc.len - 1) (by omega),hus,show acc.len - 1=us.length by omega];simp
       have hi0:(acc.len:Int) - 1=((acc.len - 1:Nat):Int):=by omega
       have hi2:((acc.len - 1:Nat):Int)<(acc.len:Int):=by omega
       have hi3:decide (((acc.len - 1:Nat):Int)<(acc.len:Int))=true:=by simp;omega
       clear hcell;rcases hnum with hnum | ⟨hnum,rfl⟩
       ·go_wp2_with fail
        refine HTX.out.mono ?_;rintro e w2 ⟨rfl,hs2,hx2⟩;have hbk2:=hbk1.trans hx2;have PB2:w2.cell? ⟨B,0,none⟩=some (.pointer (some ⟨p,0,none⟩)):=hx2.cell PB1 (by show B≠p;omega);have HGR2:=Lib.hid (HGR1.out.but hx2 (by omega));have HS2:=Lib.hid hs2;have hsz2:=hx2.size;have hlc:w2.cell? ⟨g,acc.len - 1,none⟩=some (.iface 262 (strv s)):=hx2.cell hlc1 (by show g≠p;omega);have hzc:w2.frozen? ⟨g,acc.len - 1,none⟩=false:=HGR2.out.1.frozenAt _;clear hs2 hx2;have HJ:=Lib.hid (HGR2.out.joined HM.out HL.out hus hul t);go_wp2
        have hul2:acc.len - 1=us.length:=by omega
        rw [append_mk,hul2];have hj:=HJ.out;rw [HJ.out.2] at hj;have hS3:=HS2.out.own (B:=g) (by omega) us.length (.iface 262 (strv (s++t)));go_roundw
        case rel=>exact ⟨acc.addText t,q,n',_,hS3,hbk2.own (by omega) _ _,by rw [cellSet,if_neg (fun e=>by have:=congrArg Addr.block e;simp at this;omega)];exact PB2,hj.1,(add_msg HM.out HL.out t).1,HT1.out,by have:=HN.out;omega,by have:=HN.out;omega,by rw [HJ.out.2];omega,fun x e=>by rw [(add_msg HM.out HL.out t).2] at e;cases e;rw [List.length_append];omega⟩
        case measure =>
         rw [atOf_syn hS3,atOf_syn HSR.out];omega
       ·go_wp2_with fail
        refine HTX.out.mono ?_;rintro e w2 ⟨rfl,hs2,hx2⟩;have hbk2:=hbk1.trans hx2;have PB2:w2.cell? ⟨B,0,none⟩=some (.pointer (some ⟨p,0,none⟩)):=hx2.cell PB1 (by show B≠p;omega);have HGR2:=Lib.hid (HGR1.out.but hx2 (by omega));have HS2:=Lib.hid hs2;have hsz2:=hx2.size;have hlc:w2.cell? ⟨g,acc.len - 1,none⟩=some (.iface 262 (strv s)):=hx2.cell hlc1 (by show g≠p;omega);have hzc:w2.frozen? ⟨g,acc.len - 1,none⟩=false:=HGR2.out.1.frozenAt _;clear hs2 hx2;have HJ:=Lib.hid (HGR2.out.joined HM.out HL.out hus hul t);go_wp2
        have hul2:acc.len - 1=us.length:=by omega
        rw [append_mk,hul2];have hj:=HJ.out;rw [HJ.out.2] at hj;have hS3:=HS2.out.own (B:=g) (by omega) us.length (.iface 262 (strv (s++t)));go_roundw
        case rel=>exact ⟨acc.addText t,q,n',_,hS3,hbk2.own (by omega) _ _,by rw [cellSet,if_neg (fun e=>by have:=congrArg Addr.block e;simp at this;omega)];exact PB2,hj.1,(add_msg HM.out HL.out t).1,HT1.out,by have:=HN.out;omega,by have:=HN.out;omega,by rw [HJ.out.2];omega,fun x e=>by rw [(add_msg HM.out HL.out t).2] at e;cases e;rw [List.length_append];omega⟩
        case measure =>
         rw [atOf_syn hS3,atOf_syn HSR.out];omega
end Go.Proofs.YthpldolmpinnhaaGreatDoor
namespace Go.Proofs.YthpldolmpinnhaaGreatDoor
open Go Go.RowKit
theorem syn_msg (p:Nat) (rs:List Int):∀ (n:Nat),n<=5->MsgC p rs (5 - n) (msgP rs n)
 | 0,_=>syn_message p rs 5 none (by omega) (fun j W hs he=>syn_argument p rs j 6 none W hs he ⟨fun _=>rfl,fun _=>rfl⟩ (fun m e=>by cases e) (fun m e=>by cases e)) (fun m e=>by cases e)
 | n+1,h=>by
  have ih:=syn_msg p rs n (by omega);have e:5 - n=5 - (n+1)+1:=by omega
  rw [e] at ih;exact syn_message p rs (5 - (n+1)) (some (msgP rs n)) (by omega) (fun j W hs he=>syn_argument p rs j (5 - (n+1)+1) (some (msgP rs n)) W hs he ⟨fun h=>(by cases h),fun h=>(by omega)⟩ (fun m e=>by cases e;exact ih) (fun m e=>by cases e;exact msgP_up rs n)) (fun m e=>by cases e;exact msgP_up rs n)
end Go.Proofs.YthpldolmpinnhaaGreatDoor
namespace Go.Proofs.YthpldolmpinnhaaGreatDoor
open Go Go.RowKit
def numeralsL (l:List UInt8):Bool:=l.all isDig && !l.isEmpty
theorem headD_eq (s:ByteArray) (h:0<s.size):s.data.toList.headD 0=s[0]:=by
 rw [←getElem_toList s 0 h,List.headD_eq_head?_getD,List.head?_eq_getElem?,List.getElem?_eq_getElem (by simpa using h)];rfl
end Go.Proofs.YthpldolmpinnhaaGreatDoor
namespace Go.Proofs.YthpldolmpinnhaaGreatDoor
open Go Go.RowKit
set_option maxRecDepth 10000
def isPt (r:Int):Bool:=decide (0<=r/\r<=0x10FFFF/\(r<0xD800\/0xDFFF<r))
def ptVal (l:List UInt8) (v:Nat):Nat:=l.foldl (fun v c=>64*v+(c.toNat - 128)) v
def isCont (c:UInt8):Bool:=128<=c && c<=191
def least (n:Nat):Int:=if n=4 then 65536 else if n=3 then 2048 else if n=2 then 128 else 0
def sizeBy (l:List UInt8) (n v:Nat):Nat :=
 if l.length<n then 0 else if (l.tail.take (n - 1)).all isCont=false then 0
 else if (ptVal (l.tail.take (n - 1)) v:Int)<least n\/isPt (ptVal (l.tail.take (n - 1)) v)=false then 0 else n
def sizeL (l:List UInt8):Nat :=
 let c:=(l.headD 0).toNat
 if 240<=c/\c<248 then sizeBy l 4 (c - 240)
 else if 224<=c/\c<240 then sizeBy l 3 (c - 224)
 else if 192<=c/\c<224 then sizeBy l 2 (c - 192)
 else if 128<=c then 0
 else sizeBy l 1 c
theorem isCont_iff (c:UInt8):isCont c=true ↔ (128:Int)<=(c.toNat:Int)/\(c.toNat:Int)<=191:=by
 simp [isCont,UInt8.le_iff_toNat_le];omega
theorem sizeL_of {l:List UInt8} {n v:Nat} (H:(240<=(l.headD 0).toNat/\(l.headD 0).toNat<248/\n=4/\v=(l.headD 0).toNat - 240) \/
  (224<=(l.headD 0).toNat/\(l.headD 0).toNat<240/\n=3/\v=(l.headD 0).toNat - 224) \/
  (192<=(l.headD 0).toNat/\(l.headD 0).toNat<224/\n=2/\v=(l.headD 0).toNat - 192) \/
  ((l.headD 0).toNat<128/\n=1/\v=(l.headD 0).toNat)):sizeL l=sizeBy l n v:=by
 unfold sizeL;rcases H with ⟨h1,h2,rfl,rfl⟩ | ⟨h1,h2,rfl,rfl⟩ | ⟨h1,h2,rfl,rfl⟩ | ⟨h1,rfl,rfl⟩
 ·rw [if_pos ⟨h1,h2⟩]
 ·rw [if_neg (by omega),if_pos ⟨h1,h2⟩]
 ·rw [if_neg (by omega),if_neg (by omega),if_pos ⟨h1,h2⟩]
 ·rw [if_neg (by omega),if_neg (by omega),if_neg (by omega),if_neg (by omega)]
theorem sizeBy_short {l:List UInt8} {n v:Nat} (h:l.length<n):sizeBy l n v=0:=by rw [sizeBy,if_pos h]
end Go.Proofs.YthpldolmpinnhaaGreatDoor
namespace Go.Proofs.YthpldolmpinnhaaGreatDoor
open Go Go.RowKit
theorem sizeBy_le (l:List UInt8) (n v:Nat):sizeBy l n v<=l.length/\sizeBy l n v<=n:=by
 unfold sizeBy;repeat' split
 all_goals omega
theorem sizeL_le (l:List UInt8):sizeL l<=l.length/\sizeL l<=4:=by
 have h:=fun n v=>sizeBy_le l n v
 unfold sizeL;simp only [];split
 ·exact h 4 _
 split
 ·exact ⟨(h 3 _).1,by have:=(h 3 ((l.headD 0).toNat - 224)).2;omega⟩
 split
 ·exact ⟨(h 2 _).1,by have:=(h 2 ((l.headD 0).toNat - 192)).2;omega⟩
 split
 ·omega
 ·exact ⟨(h 1 _).1,by have:=(h 1 ((l.headD 0).toNat)).2;omega⟩
def ptsL (l:List UInt8):List (List UInt8)×Nat :=
 if h:l=[]\/sizeL l=0 then ([],0) else
  let r:=ptsL (l.drop (sizeL l))
  (l.take (sizeL l)::r.1,sizeL l+r.2)
 termination_by l.length
 decreasing_by
  simp only [not_or] at h;have:=List.length_pos_iff.2 h.1;simp;omega
theorem ptsL_nil:ptsL []=([],0):=by rw [ptsL];simp
theorem ptsL_bad {l:List UInt8} (h:sizeL l=0):ptsL l=([],0):=by rw [ptsL];simp [h]
theorem ptsL_step {l:List UInt8} (h0:l≠[]) (h:sizeL l≠0):ptsL l=(l.take (sizeL l)::(ptsL (l.drop (sizeL l))).1,sizeL l+(ptsL (l.drop (sizeL l))).2):=by
 rw [ptsL,dif_neg (by simp [h0,h])]
end Go.Proofs.YthpldolmpinnhaaGreatDoor
