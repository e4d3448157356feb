import Derived.Test.YthpldolmpinnhaaGreatDoorJG37
import Derived.Maps.AppendAt
import Derived.Deep.LoopGhost
import Derived.Laws.EntriesVeiled
set_option maxHeartbeats 64000000
open Go.Lib renaming hid→z7
open Nat renaming le_refl→z8,le_trans→zk
open Go.RowKit.Below renaming refl→zy,heap_setCell→zg
open Go.Value renaming pointer→zx,slice→zJ
open Go.AllReadyH renaming cons→zv,nil→zj
open List renaming mem_of_mem_tail→zu,mem_cons_of_mem→zY
open Go.World renaming frozen?_of_block→zf,setCell→zZ,cell?_of_block→zX,block_lt_of_cell?→zV
open Option.some renaming injEq→zU
open Go.Op renaming equalIn→zQ
open Go.Obj.cells renaming injEq→zG
open Go.Addr renaming add→zF
open Go.Proofs.Tryz
namespace Go.Proofs.YthpldolmpinnhaaGreatDoor
open Go Go.RowKit
set_option maxRecDepth 10000
theorem UH:ZS prog 305 214 .nilFunc 1 8 :=
 ⟨underlying305,info_parts (by kernel_rfl),rfl,by decide,by decide⟩
theorem Yt{P:Program}{t e:TypeId}{z:Value}{size bytes:Nat}(E:ZS P t e z size bytes){w:World}{ops:Array Oper}{rest:List Oper}{o:Oper}{a:Act}{Q:Exit->Act->World->Prop}
  (GV:o.guard=none) (s x:Operand) (ho:o.op = .call { callee := .builtin .append,args:=#[s,x],argTypes:=#[t,t] })
  (base:Nat) (v:Value) (n:Nat) (xs:List Value) (hs:a.eval s=v) (xV:w.ownsRow base e size v n xs)
  (ad:Addr) (m c:Nat) (news:List Value) (hx:a.eval x = .slice (some ad) m c) (hl:news.length=m*size) (dS:∀ j u,news[j]? = some u->w.cell? (ad.add j)=some u) (h1:∀ u∈news,u.oneCell'=true)
  (MS:n+m<=2147483648) (bM:base<=w.heap.size)
  (h:∀ v' w',w'.ownsRow base e size v' (n+m) (xs++news)->w.grownBy w' v.ownBlock->(v'.ownBlock=v.ownBlock\/v'.ownBlock=some w.heap.size)->wpList P ops Q rest (a.put o.dst v') w'):wpList P ops Q (o::rest) a w:=by
 obtain⟨i,hi,hz,h2,h3⟩:=E.info;have Ks:=E.small;refine wpList_append_own_at w GV s x t ho base e i z size bytes E.under hi hz h2 h3 E.Ua E.pos v n xs hs xV ad m c news hx hl dS h1 (by unfold maxLen;omega) ?_ bM (fun v' w' a b _ d=>h v' w' a b d);exact zk (Nat.mul_le_mul MS Ks) (by decide)
def Zr(lo:Nat)(w:World)(sv:Value)(Ts:List qT):Prop :=
 ∃ vs:List Value,w.ownsRow lo 214 1 sv Ts.length vs /\
  ∀ j (h:j<Ts.length),∃ u l h',vs[j]? = some u/\lo<=l/\h'<=w.heap.size/\(∀ g,sv.ownBlock=some g->g<l\/h'<=g)/\jd l h' w u Ts[j]
theorem Zr.nil(lo:Nat)(w:World):Zr lo w (.slice none 0 0) []:=⟨[],World.ownsRow_nil _ _ _ _,fun j h=>absurd h (Nat.not_lt_zero j)⟩
theorem Zr.form{lo:Nat}{w:World}{sv:Value}{Ts:List qT}(h:Zr lo w sv Ts):∃ a cap,sv = .slice a Ts.length cap:=by
 obtain⟨vs,ho,_⟩:=h;exact xf ho
theorem Zr.but{lo p:Nat}{w w':World}{sv:Value}{Ts:List qT}(h:Zr lo w sv Ts)(hb:xR p w w')(hp:p<lo):Zr lo w' sv Ts:=by
 obtain⟨vs,ho,ht⟩:=h;have vy:some p≠sv.ownBlock:=fun e=>by have:=(ho.lt p e.symm).1;omega
 refine⟨vs,ho.kept (row:=some p) ⟨hb.os,hb.tape,hb.output,hb.size,fun i hi hn=>hb.block i hi (fun e=>hn (by rw[e]))⟩ (.inr (fun e=>vy e.symm)),fun j hj=>?_⟩;obtain⟨u,l,h',e1,e2,e3,e4,e5⟩:=ht j hj;exact⟨u,l,h',e1,e2,zk e3 hb.size,e4,e5.keep (hb.keep (by omega) e3) (z8 _) (z8 _)⟩
theorem Zr.more{lo l0 h0:Nat}{w w1 w':World}{sv QE:Value}{Ts:List qT}{T:qT}{vs:List Value}{u:Value}
  (ht:∀ j (h:j<Ts.length),∃ u l h',vs[j]? = some u/\lo<=l/\h'<=w.heap.size/\(∀ g,sv.ownBlock=some g->g<l\/h'<=g)/\jd l h' w u Ts[j]) (Dh:vs.length=Ts.length)
  (hT:jd l0 h0 w u T) (nl:lo<=l0) (Mo:h0<=w.heap.size) (Au:∀ g,sv.ownBlock=some g->g<l0\/h0<=g)
  (hb:Below w.heap.size w w1) (uA:w1.grownBy w' sv.ownBlock) (UO:QE.ownBlock=sv.ownBlock\/QE.ownBlock=some w1.heap.size) (ho:w'.ownsRow lo 214 1 QE (Ts.length+1) (vs++[u])) :
  Zr lo w' QE (Ts++[T]):=by
 have Jd:∀ l h',h'<=w.heap.size->(∀ g,sv.ownBlock=some g->g<l\/h'<=g)->xr l h' w w':=by
  intro l h' hh hg;refine⟨zk hh (zk hb.size uA.size),fun k k1 k2=>?_⟩;rw[uA.block k (by have:=hb.size;omega) (fun e=>by rcases hg k e.symm with q|q<;>omega)];exact hb.block k (by omega)
 have lQ:∀ l h',h'<=w.heap.size->(∀ g,sv.ownBlock=some g->g<l\/h'<=g)->∀ g,QE.ownBlock=some g->g<l\/h'<=g:=by
  intro l h' hh hg g e;rcases UO with q|q
  .exact hg g (q▸e)
  .rw[q] at e
   cases e;exact .inr (zk hh hb.size)
 refine⟨vs++[u],by simpa using ho,fun j hj=>?_⟩;by_cases KY:j<Ts.length
 .obtain⟨x,l,h',e1,e2,e3,e4,e5⟩:=ht j KY;exact⟨x,l,h',by rw[List.getElem?_append_left (by omega)];exact e1,e2,zk e3 (zk hb.size uA.size),lQ l h' e3 e4,by rw[List.getElem_append_left KY];exact e5.keep (Jd l h' e3 e4) (z8 _) (z8 _)⟩
 .have e:j=Ts.length:=by simp at hj;omega
  subst e;refine⟨u,l0,h0,by rw[List.getElem?_append_right (by omega),Dh];simp,nl,zk Mo (zk hb.size uA.size),lQ l0 h0 Mo Au,?_⟩;rw[List.getElem_append_right (by omega)];simpa using hT.keep (Jd l0 h0 Mo Au) (z8 _) (z8 _)
theorem Zr.tests{lo cap:Nat}{w:World}{a:Option Addr}{Ts:List qT}(h:Zr lo w (.slice a Ts.length cap) Ts):Zv lo w.heap.size w a Ts:=by
 obtain⟨vs,ho,ht⟩:=h;intro j hj;obtain⟨u,l,h',e1,e2,e3,e4,e5⟩:=ht j hj;obtain⟨g,vw,hv,hg,je,hc⟩:=vZ ho (by omega)
 cases hv;refine⟨⟨g,0,none⟩,u,rfl,?_,hg,je,e5.keep (xW e3) e2 e3⟩;rw[uR,hc j (by omega)];exact e1
def zru(p:Nat)(r:Option (List qT×List Wd))(w:World)(e:Ending)(w':World):Prop :=
 (match r with|none=>e=En|some (ts,t)=>(∃ v,e = .returned v/\jd w.heap.size w'.heap.size w' v (Z3 ts))/\gL w' p t)/\xR p w w'
theorem xR.PK{p:Nat}{w a b:World}{row:Option Nat}(h:xR p w a)(hg:a.grownBy b row)(hr:∀ k,row=some k->w.heap.size<=k):xR p w b :=
 ⟨hg.os.trans h.os,hg.tape.trans h.tape,hg.output.trans h.output,zk h.size hg.size,fun k hk hp=>(hg.block k (Nat.lt_of_lt_of_le hk h.size) (fun e=>by have:=hr k e.symm;omega)).trans (h.block k hk hp)⟩
theorem gL.row{lo p n:Nat}{w w':World}{sv:Value}{vs:List Value}{ws:List Wd}(h:gL w p ws)(ho:w.ownsRow lo 214 1 sv n vs)(hp:p<lo)(hg:w.grownBy w' sv.ownBlock):gL w' p ws:=by
 have xB:=h.lt;have hpn:some p≠sv.ownBlock:=fun e=>by have:=(ho.lt p e.symm).1;omega
 obtain⟨a,cap,hc,hf,h1,h2,h3⟩:=h;refine⟨a,cap,hg.cell hc hpn,(zf (hg.block p xB hpn)).trans hf,h1,h2,fun j hj=>?_⟩;obtain⟨b,e1,e2,e3⟩:=h3 j hj;have hl:=zV w _ e3;rw[addr_add] at hl;have Dw:some b.block≠sv.ownBlock:=by
  intro e;rcases ho.2 with⟨hv,_⟩|⟨g,cp,cur,hv,_,hh,_⟩
  .rw[hv] at e;cases e
  .rw[hv] at e
   cases e;obtain⟨cs,fr,hs⟩:=e2.2;rw[hh] at hs
   cases hs
 exact⟨b,e1,⟨e2.1,e2.2.of (hg.block _ hl Dw)⟩,hg.cell e3 (by rw[addr_add];exact Dw)⟩
def sK(p:Nat)(wi:Bool)(r:Option (List qT×List Wd))(n0:Nat)(w:World)(sv:Value)(more:Bool)(n:Nat)(wr:World):Prop :=
 ∃ (Ts:List qT) (ws:List Wd),Zr w.heap.size wr sv Ts/\gL wr p ws/\xR p w wr/\ws.length+Ts.length<=n0/\(∀ x∈ws,Em x)/\(more=true->ws.length<n/\qU wi n Ts ws=r)/\(more=false->some (Ts,ws)=r)
theorem lJ(w:World)(m:Wd)(g:Nat)(hg:w.cell? ⟨g,0,none⟩=some (xg m)):Of w (.slice (some ⟨g,0,none⟩) 1 1) [m] :=
 ⟨some ⟨g,0,none⟩,1,rfl,z8 _,by decide,(fun h=>by cases h),fun j hj=>by
  have:j=0:=by simp at hj;omega
  subst this;exact⟨_,rfl,by simpa[zF] using hg⟩⟩
theorem dy(p:Nat)(m:Wd)(ws:List Wd)(W:World)(hp:gL W p ws) :
  Calls prog 175 #[.pointer (some ⟨p,0,none⟩),.slice (some ⟨W.heap.size,0,none⟩) 1 1] (W.alloc (.cells #[xg m] 9))
   fun e w'=>e = .returned (.bool (Yy m ws))/\gL w' p (if Yy m ws then ws.tail else ws)/\xR p W w':=by
 have hb:Below W.heap.size W (W.alloc (.cells #[xg m] 9)):=(zy _ _).alloc (z8 _) _;refine(lY p [m] ws _ _ (hp.below hb) (lJ _ m _ (xu _ _ _ _ _)) (by simp)).mono ?_;rintro e w' ⟨rfl,h1,h2,_⟩;have e:Dz [m] ws=Yy m ws:=by simp[Dz]
 rw[e] at h1 |-
 exact⟨rfl,h1,(xR.of hb).trans h2⟩
theorem lG(p:Nat)(wi:Bool)(ws:List Wd)(w:World)(hp:gL w p ws)(hx:∀ x∈ws,Em x)(hT:RT p w)(hl:ws.length<=1000) :
  Calls prog 220 #[.pointer (some ⟨p,0,none⟩),.bool wi] w (zru p (qU wi (ws.length+1) [] ws) w):=by
 obtain⟨r,hr⟩:=xX (qU wi (ws.length+1) [] ws);rw[hr];have HX:=z7 hx;have HR:=z7 hr;have xB:=hp.lt;have HP:=z7 hp;have HT:=z7 hT;clear hr hx hp hT;go_enter func220,ntmps220;go_wp2;go_loopg [5,6] (ws.length+1) (fun n sv mo wr=>∃ more:Bool,mo = .bool more/\sK p wi r (ws.length+1) w sv more n wr)
 case atStart=>exact⟨true,rfl,[],ws,Zr.nil _ _,HP.out,xR.refl _ _,by simp,HX.out,fun _=>⟨by omega,HR.out⟩,fun h=>by cases h⟩
 case round =>
  obtain⟨more,rfl,Ts,us,xi,Hb,fY,hlen,Rq,hmo,vM⟩:=hrel;have qb:=z7 xi;have HPA:=z7 Hb;have HXS:=z7 Rq;obtain⟨a,cap,rfl⟩:=xi.form;have xd6:=Hb.lt
  cases more with
  | false =>
   have jD:=z7 (vM rfl);clear vM hmo xi Hb Rq;have Xg:=M7 Ts a cap w.heap.size wr (by omega) fY.size qb.out.tests;have HSM:=z7 Xg;clear Xg;go_wp2_with fail;refine HSM.out.mono ?_;rintro e w1 ⟨⟨v,rfl,ht⟩,xG⟩;have Dy:=z7 ht;clear ht;go_wp2;go_ret;rw[<-jD.out];exact⟨⟨⟨_,rfl,Dy.out⟩,HPA.out.below xG⟩,fY.below xG⟩
  | true =>
   obtain⟨hlg,jc⟩:=hmo rfl;obtain⟨m,rfl⟩:∃ m,gk=m+1:=⟨gk - 1,by omega⟩;have dp:=z7 jc;have Xq:=dz p us wr Hb Rq (HT.out.but fY);have Kp:=z7 Xq;clear hmo vM jc xi Hb Rq Xq;go_wp2_with fail;refine Kp.out.mono ?_;rintro e w1 ⟨hq,xG⟩
   cases hn:kS us with
   | none =>
    rw[hn] at hq;obtain rfl:=hq;go_wp2;refine⟨rfl,?_,fY.trans xG⟩;have vg:r=none:=by rw[<-dp.out,qU,Vh,hn]
    rw[vg]
   | some q =>
    obtain⟨va,t⟩:=q;rw[hn] at hq;obtain⟨rfl,Un⟩:=hq;obtain⟨Aq,KS,G7⟩:=jK hn;have Xy:=fY.trans xG;have HN:=z7 hn;have JZ:=z7 Un;have zrq:=z7 (qb.out.but xG xB);have HXT:=z7 (fun x hx=>HXS.out x (KS x hx));clear hn Un KS;go_wp2_with fail;refine(dy p [46,46] t _ JZ.out).mono ?_;rintro e w2 ⟨rfl,VY,xJ⟩;have uT:=Xy.trans xJ;have Dx:=z7 (zrq.out.but xJ xB);have FM:=z7 VY;clear VY
    cases hd:Yy [46,46] t
    .have kh:=FM.out;rw[hd] at kh;have K8:=z7 kh;have Cq:Vh us=some ((va,va),t):=by rw[Vh,HN.out];simp[hd]
     have zgv:=z7 Cq;clear kh hd Cq;have HIT:=z7 (zgv.out);have zrk:decide ((va:Int)<(va:Int))=false:=by first|(simp;done)|(simp;omega)
     have Mv:=QW va va wi w2 Aq Aq;have tP:=z7 Mv;clear Mv;go_wp2_with fail;refine tP.out.mono ?_;rintro e w4 ⟨⟨fv,rfl,hft⟩,ur⟩;have Gd:=K8.out.below ur;have dh:=uT.below ur;have Mu:=Dx.out.but (xR.of (p:=p) ur) xB;obtain⟨vs,VU,lF⟩:=Mu;have lD:=z7 hft;have Mq:=z7 Gd;have DM:=z7 lF;have JM:=z7 VU;obtain⟨kf,bQ,rfl,_⟩:=hft;clear Gd lF VU;go_wp2_with (at_builtin;refine Yt UH rfl _ _ rfl w.heap.size _ Ts.length vs rfl (JM.out.alloc _) ⟨w4.heap.size,0,none⟩ 1 1 [.func (.func kf) #[] bQ] rfl rfl ?c1 ?c2 ?c3 ?c4 ?_)
     case c1=>exact cells_one (xu _ _ _ _ _)
     case c2=>intro u hu;simp at hu;subst hu;rfl
     case c3=>omega
     case c4=>have:=dh.size;simp;omega
     intro QE w5 jo qm Dv;have ZH:Below w4.heap.size w4 (w4.alloc (.cells #[.func (.func kf) #[] bQ] 214)):=(zy _ _).alloc (z8 _) _;have V2:∀ g,(zJ a Ts.length cap).ownBlock=some g->w.heap.size<=g/\g<w2.heap.size:=fun g hg=>by
      obtain⟨_,T9,_⟩:=Dx.out;exact T9.lt g hg
     have V3:Zr w.heap.size w5 QE (Ts++[gD va va wi]) :=
      Zr.more DM.out (by have:=JM.out.1;omega) lD.out (by have:=uT.size;omega) (z8 _) (fun g hg => .inl (V2 g hg).2) ZH qm (by simpa using Dv) jo
     have L6:gL w5 p t:=(Mq.out.below ZH).row (JM.out.alloc _) xB qm;have jJ:xR p w w5:=(dh.below ZH).PK qm (fun k hk=>(V2 k hk).1);obtain⟨a5,c5,rfl⟩:=xf jo;have Du:=z7 V3;have WO:=z7 L6;clear V3 L6 jo qm Dv ZH V2;go_wp2_with fail;refine(dy p [44] t _ WO.out).mono ?_;rintro e w6 ⟨rfl,T8,dL⟩;have jr:=jJ.trans dL;have Mk:=z7 (Du.out.but dL xB);have lC:=z7 (show qU wi (m+1) Ts us=if Yy [44] t then qU wi m (Ts++[gD va va wi]) (t).tail else some (Ts++[gD va va wi],t) by rw[qU,HIT.out]);have lH:=z7 T8;clear T8
     cases jS:Yy [44] t
     .have PJ:=lH.out;rw[jS] at PJ;have PG:=lC.out;rw[jS,dp.out] at PG;have HQ6:=z7 PJ;have HSQ:=z7 PG;clear jS PJ PG;go_wp2;go_roundg 0
      case measure=>omega
      case rel=>exact⟨false,rfl,Ts++[gD va va wi],t,by simpa using Mk.out,HQ6.out,jr,by simp;omega,HXT.out,(fun h=>by cases h),fun _=>HSQ.out.symm⟩
     .have PJ:=lH.out;rw[jS] at PJ;have PG:=lC.out;rw[jS,dp.out] at PG;have HQ6:=z7 PJ;have HSQ:=z7 PG;have vy:0<(t).length:=by
       cases ht:t with
       | nil=>rw[ht] at jS;cases jS
       | cons x y=>simp
      clear jS PJ PG;go_wp2;go_roundg m
      case measure=>omega
      case rel=>exact⟨true,rfl,Ts++[gD va va wi],(t).tail,by simpa using Mk.out,HQ6.out,jr,by simp;omega,fun x hx=>HXT.out x (zu hx),fun _=>⟨by simp;omega,HSQ.out.symm⟩,fun h=>by cases h⟩
    .have kh:=FM.out;rw[hd] at kh;have K8:=z7 kh;have zrg:=z7 (fun x hx=>HXT.out x (zu hx));have zy4:=dz p t.tail w2 K8.out zrg.out (HT.out.but uT);have zrf:=z7 zy4;have HD:=z7 hd;clear kh hd zy4;go_wp2_with fail;refine zrf.out.mono ?_;rintro e w3 ⟨XE,ub⟩
     cases dN:kS t.tail with
     | none =>
      rw[dN] at XE;obtain rfl:=XE;have vg:r=none:=by rw[<-dp.out,qU,Vh,HN.out];simp[HD.out,dN]
      go_wp2;refine⟨rfl,?_,uT.trans ub⟩;first|rfl|(rw[vg])
     | some q =>
      obtain⟨vb,t2⟩:=q;rw[dN] at XE;obtain⟨rfl,He⟩:=XE;obtain⟨hvb,zy5,xd8⟩:=jK dN;have xd9:t2.length+1<=t.length:=by
       have:t.tail.length<=t.length:=by simp
       omega
      have dA:=uT.trans ub;have Mj:=z7 (Dx.out.but ub xB);have lL:=z7 He;have HX3:=z7 (fun x hx=>zrg.out x (zy5 x hx));have lM:Vh us=if vb<va then none else some ((va,vb),t2):=by rw[Vh,HN.out];simp[HD.out,dN]
      have zy6:=z7 lM;clear He dN zy5 lM;by_cases hba:vb<va
      .have vg:r=none:=by rw[<-dp.out,qU,zy6.out,if_pos hba]
       have zrk:decide ((vb:Int)<(va:Int))=true:=by simp;omega
       go_wp2;refine⟨rfl,?_,dA⟩;first|rfl|(rw[vg])
      .have Cq:=zy6.out;rw[if_neg hba] at Cq;have zgv:=z7 Cq;clear Cq;have HIT:=z7 (zgv.out);have zrk:decide ((vb:Int)<(va:Int))=false:=by first|(simp;done)|(simp;omega)
       have Mv:=QW va vb wi w3 Aq hvb;have tP:=z7 Mv;clear Mv;go_wp2_with fail;refine tP.out.mono ?_;rintro e w4 ⟨⟨fv,rfl,hft⟩,ur⟩;have Gd:=lL.out.below ur;have dh:=dA.below ur;have Mu:=Mj.out.but (xR.of (p:=p) ur) xB;obtain⟨vs,VU,lF⟩:=Mu;have lD:=z7 hft;have Mq:=z7 Gd;have DM:=z7 lF;have JM:=z7 VU;obtain⟨kf,bQ,rfl,_⟩:=hft;clear Gd lF VU;go_wp2_with (at_builtin;refine Yt UH rfl _ _ rfl w.heap.size _ Ts.length vs rfl (JM.out.alloc _) ⟨w4.heap.size,0,none⟩ 1 1 [.func (.func kf) #[] bQ] rfl rfl ?c1 ?c2 ?c3 ?c4 ?_)
       case c1=>exact cells_one (xu _ _ _ _ _)
       case c2=>intro u hu;simp at hu;subst hu;rfl
       case c3=>omega
       case c4=>have:=dh.size;simp;omega
       intro QE w5 jo qm Dv;have ZH:Below w4.heap.size w4 (w4.alloc (.cells #[.func (.func kf) #[] bQ] 214)):=(zy _ _).alloc (z8 _) _;have V2:∀ g,(zJ a Ts.length cap).ownBlock=some g->w.heap.size<=g/\g<w3.heap.size:=fun g hg=>by
        obtain⟨_,T9,_⟩:=Mj.out;exact T9.lt g hg
       have V3:Zr w.heap.size w5 QE (Ts++[gD va vb wi]) :=
        Zr.more DM.out (by have:=JM.out.1;omega) lD.out (by have:=dA.size;omega) (z8 _) (fun g hg => .inl (V2 g hg).2) ZH qm (by simpa using Dv) jo
       have L6:gL w5 p t2:=(Mq.out.below ZH).row (JM.out.alloc _) xB qm;have jJ:xR p w w5:=(dh.below ZH).PK qm (fun k hk=>(V2 k hk).1);obtain⟨a5,c5,rfl⟩:=xf jo;have Du:=z7 V3;have WO:=z7 L6;clear V3 L6 jo qm Dv ZH V2;go_wp2_with fail;refine(dy p [44] t2 _ WO.out).mono ?_;rintro e w6 ⟨rfl,T8,dL⟩;have jr:=jJ.trans dL;have Mk:=z7 (Du.out.but dL xB);have lC:=z7 (show qU wi (m+1) Ts us=if Yy [44] t2 then qU wi m (Ts++[gD va vb wi]) (t2).tail else some (Ts++[gD va vb wi],t2) by rw[qU,HIT.out]);have lH:=z7 T8;clear T8
       cases jS:Yy [44] t2
       .have PJ:=lH.out;rw[jS] at PJ;have PG:=lC.out;rw[jS,dp.out] at PG;have HQ6:=z7 PJ;have HSQ:=z7 PG;clear jS PJ PG;go_wp2;go_roundg 0
        case measure=>omega
        case rel=>exact⟨false,rfl,Ts++[gD va vb wi],t2,by simpa using Mk.out,HQ6.out,jr,by simp;omega,HX3.out,(fun h=>by cases h),fun _=>HSQ.out.symm⟩
       .have PJ:=lH.out;rw[jS] at PJ;have PG:=lC.out;rw[jS,dp.out] at PG;have HQ6:=z7 PJ;have HSQ:=z7 PG;have vy:0<(t2).length:=by
         cases ht:t2 with
         | nil=>rw[ht] at jS;cases jS
         | cons x y=>simp
        clear jS PJ PG;go_wp2;go_roundg m
        case measure=>omega
        case rel=>exact⟨true,rfl,Ts++[gD va vb wi],(t2).tail,by simpa using Mk.out,HQ6.out,jr,by simp;omega,fun x hx=>HX3.out x (zu hx),fun _=>⟨by simp;omega,HSQ.out.symm⟩,fun h=>by cases h⟩
structure Sub(t ws:List Wd):Prop where
 mem:∀ x∈t,x∈ws
 len:t.length<=ws.length
theorem Sub.refl(ws:List Wd):Sub ws ws:=⟨fun _ h=>h,z8 _⟩
theorem Sub.trans{a b c:List Wd}(h:Sub a b)(k:Sub b c):Sub a c:=⟨fun x hx=>k.mem x (h.mem x hx),zk h.len k.len⟩
theorem Sub.tail(ws:List Wd):Sub ws.tail ws:=⟨fun _ h=>zu h,by simp⟩
theorem YX{ws t:List Wd}{v:Nat}(h:kS ws=some (v,t)):Sub t ws:=⟨(jK h).2.1,by have:=(jK h).2.2;omega⟩
theorem Ck{ws t:List Wd}{q:Nat×Nat}(h:Vh ws=some (q,t)):Sub t ws:=by
 unfold Vh at h
 cases hn:kS ws with
 | none=>rw[hn] at h;cases h
 | some r =>
  obtain⟨a,u⟩:=r;rw[hn] at h;dsimp only at h;have hs:=YX hn;by_cases hd:Yy [46,46] u=true
  .rw[if_pos hd] at h
   cases dN:kS u.tail with
   | none=>rw[dN] at h;cases h
   | some r2 =>
    obtain⟨b,u2⟩:=r2;rw[dN] at h;dsimp only at h;by_cases hb:b<a
    .rw[if_pos hb] at h;cases h
    .rw[if_neg hb] at h
     cases h;exact((YX dN).trans (Sub.tail u)).trans hs
  .rw[if_neg hd] at h
   cases h;exact hs
theorem JE{wi:Bool}:∀ {n:Nat} {acc ts:List qT} {ws t:List Wd},qU wi n acc ws=some (ts,t)->Sub t ws
 | 0,_,_,_,_,h=>by cases h
 | n+1,acc,ts,ws,t,h=>by
  rw[qU] at h
  cases hi:Vh ws with
  | none=>rw[hi] at h;cases h
  | some r =>
   obtain⟨q,u⟩:=r;rw[hi] at h;dsimp only at h;by_cases hc:Yy [44] u=true
   .rw[if_pos hc] at h;exact((JE h).trans (Sub.tail u)).trans (Ck hi)
   .rw[if_neg hc] at h
    cases h;exact Ck hi
theorem WR{wi:Bool}{ws t:List Wd}{T:qT}(h:jM wi ws=some (T,t)):Sub t ws:=by
 unfold jM at h
 cases hg:qU wi (ws.length+1) [] ws with
 | none=>rw[hg] at h;cases h
 | some r =>
  obtain⟨ts,u⟩:=r;rw[hg] at h
  cases h;exact JE hg
def Yh(p:Nat)(r:Option (qT×List Wd))(w:World)(e:Ending)(w':World):Prop :=
 (match r with|none=>e=En|some (T,t)=>(∃ v,e = .returned v/\jd w.heap.size w'.heap.size w' v T)/\gL w' p t)/\xR p w w'
theorem bH(p:Nat)(wi:Bool)(ws:List Wd)(w:World)(hp:gL w p ws)(hx:∀ x∈ws,Em x)(hT:RT p w)(hl:ws.length<=1000) :
  Calls prog 220 #[.pointer (some ⟨p,0,none⟩),.bool wi] w (Yh p (jM wi ws) w):=by
 refine(lG p wi ws w hp hx hT hl).mono ?_;rintro e w' ⟨h,hb⟩;refine⟨?_,hb⟩;unfold jM
 cases hg:qU wi (ws.length+1) [] ws with
 | none=>rw[hg] at h;exact h
 | some r =>
  obtain⟨ts,u⟩:=r;rw[hg] at h;exact h
def sJ(p:Nat)(r:Option ((qT×Bool)×List Wd))(w:World)(e:Ending)(w':World):Prop :=
 (match r with|none=>e=En|some ((T,nt),t)=>(∃ v,e = .returned (.tuple #[v,.bool nt])/\jd w.heap.size w'.heap.size w' v T)/\gL w' p t)/\xR p w w'
theorem Qa(p:Nat)(ws:List Wd)(w:World)(hp:gL w p ws)(hx:∀ x∈ws,Em x)(hT:RT p w)(hl:ws.length<=1000) :
  Calls prog 184 #[.pointer (some ⟨p,0,none⟩)] w (sJ p (vp ws) w):=by
 obtain⟨r,hr⟩:=xX (vp ws);rw[hr];have HX:=z7 hx;have HR:=z7 hr;have xB:=hp.lt;have HP:=z7 hp;have HT:=z7 hT;clear hr hx hp hT;go_enter func184,ntmps184;have L1:ws.tail.length<=1000:=by simp;omega
 have L2:ws.tail.tail.length<=1000:=by simp;omega
 have M1:∀ x∈ws.tail,Em x:=fun x h=>HX.out x (zu h)
 have M2:∀ x∈ws.tail.tail,Em x:=fun x h=>M1 x (zu h)
 have B2:=z7 M1;have YH:=z7 M2;clear M1 M2;go_wp2_with fail;refine(dy p [61] (ws) _ HP.out).mono ?_;rintro e w1 ⟨rfl,Un,xG⟩;have Xy:=xG;have zrd:=z7 Un;clear Un
 cases e1:Yy [61] (ws)
 .have hq:=zrd.out;rw[e1] at hq;have JZ:=z7 hq;have E1:=z7 e1;clear hq e1;go_wp2_with fail;refine(dy p [33,61] (ws) _ JZ.out).mono ?_;rintro e w2 ⟨rfl,VY,xJ⟩;have uT:=Xy.trans xJ;have zrb:=z7 VY;clear VY
  cases e2:Yy [33,61] (ws)
  .have hq:=zrb.out;rw[e2] at hq;have FM:=z7 hq;have E2:=z7 e2;clear hq e2;go_wp2_with fail;refine(dy p [105,115] (ws) _ FM.out).mono ?_;rintro e w3 ⟨rfl,He,ub⟩;have dA:=uT.trans ub;have yz0:=z7 He;clear He
   cases e3:Yy [105,115] (ws)
   .have hq:=yz0.out;rw[e3] at hq;have lL:=z7 hq;have E3:=z7 e3;clear hq e3;go_wp2_with fail;refine(dy p [110,111,116] (ws) _ lL.out).mono ?_;rintro e w4 ⟨rfl,Gd,ur⟩;have dh:=dA.trans ur;have lN:=z7 Gd;clear Gd
    cases e4:Yy [110,111,116] (ws)
    .have hq:=lN.out;rw[e4] at hq;have Mq:=z7 hq;have E4:=z7 e4;clear hq e4;go_wp2_with fail;refine(dy p [119,105,116,104,105,110] (ws) _ Mq.out).mono ?_;rintro e w5 ⟨rfl,L6,jW⟩;have jJ:=dh.trans jW;have lS:=z7 L6;clear L6
     cases e5:Yy [119,105,116,104,105,110] (ws)
     .have hq:=lS.out;rw[e5] at hq;have WO:=z7 hq;have E5:=z7 e5;clear hq e5;go_wp2_with fail;refine(dy p [105,110] (ws) _ WO.out).mono ?_;rintro e w6 ⟨rfl,T8,dL⟩;have jr:=jJ.trans dL;have lW:=z7 T8;clear T8
      cases e6:Yy [105,110] (ws)
      .have hq:=lW.out;rw[e6] at hq;have lH:=z7 hq;have E6:=z7 e6;clear hq e6;have vg:r=none:=by
        rw[<-HR.out];simp[vp,E1.out,E2.out,E3.out,E4.out,E5.out,E6.out]
       have gB:=z7 vg;clear vg;go_wp2;refine⟨rfl,?_,jr⟩;rw[gB.out]
      .have hq:=lW.out;rw[e6] at hq;have lH:=z7 hq;have E6:=z7 e6;clear hq e6;have Zu:=bH p false (ws.tail) w6 lH.out B2.out (HT.out.but jr) L1;have HL:=z7 Zu;clear Zu;go_wp2_with fail;refine HL.out.mono ?_;rintro e w7 ⟨hq,jP⟩;have js:=jr.trans jP;have fF:r=(jM false (ws.tail)).map fun q=>((q.1,false),q.2):=by
        rw[<-HR.out];simp[vp,E1.out,E2.out,E3.out,E4.out,E5.out,E6.out]
       have jh:=z7 fF;clear fF
       cases hn:jM false (ws.tail) with
       | none =>
        rw[hn] at hq;obtain rfl:=hq;have vg:=jh.out;rw[hn] at vg;have gB:=z7 vg;clear vg hn;go_wp2;refine⟨rfl,?_,js⟩;rw[gB.out];rfl
       | some q =>
        obtain⟨T,t⟩:=q;rw[hn] at hq;obtain⟨⟨v,rfl,ht⟩,Dq⟩:=hq;have vg:=jh.out;rw[hn] at vg;have gB:=z7 vg;have Dy:=z7 ht;have KE:=z7 Dq;clear vg hn ht Dq;go_wp2;go_ret2
        refine⟨?_,js⟩;rw[gB.out];exact⟨⟨v,rfl,Dy.out.keep (xW (z8 _)) jr.size (z8 _)⟩,KE.out⟩
     .have hq:=lS.out;rw[e5] at hq;have WO:=z7 hq;have E5:=z7 e5;clear hq e5;have Zu:=bH p true (ws.tail) w5 WO.out B2.out (HT.out.but jJ) L1;have HL:=z7 Zu;clear Zu;go_wp2_with fail;refine HL.out.mono ?_;rintro e w6 ⟨hq,dL⟩;have jr:=jJ.trans dL;have fF:r=(jM true (ws.tail)).map fun q=>((q.1,false),q.2):=by
       rw[<-HR.out];simp[vp,E1.out,E2.out,E3.out,E4.out,E5.out]
      have jh:=z7 fF;clear fF
      cases hn:jM true (ws.tail) with
      | none =>
       rw[hn] at hq;obtain rfl:=hq;have vg:=jh.out;rw[hn] at vg;have gB:=z7 vg;clear vg hn;go_wp2;refine⟨rfl,?_,jr⟩;rw[gB.out];rfl
      | some q =>
       obtain⟨T,t⟩:=q;rw[hn] at hq;obtain⟨⟨v,rfl,ht⟩,Dq⟩:=hq;have vg:=jh.out;rw[hn] at vg;have gB:=z7 vg;have Dy:=z7 ht;have KE:=z7 Dq;clear vg hn ht Dq;go_wp2;go_ret2
       refine⟨?_,jr⟩;rw[gB.out];exact⟨⟨v,rfl,Dy.out.keep (xW (z8 _)) jJ.size (z8 _)⟩,KE.out⟩
    .have hq:=lN.out;rw[e4] at hq;have Mq:=z7 hq;have E4:=z7 e4;clear hq e4;go_wp2_with fail;refine(dy p [119,105,116,104,105,110] (ws.tail) _ Mq.out).mono ?_;rintro e w5 ⟨rfl,L6,jW⟩;have jJ:=dh.trans jW;have lS:=z7 L6;clear L6
     cases e5:Yy [119,105,116,104,105,110] (ws.tail)
     .have hq:=lS.out;rw[e5] at hq;have WO:=z7 hq;have E5:=z7 e5;clear hq e5;go_wp2_with fail;refine(dy p [105,110] (ws.tail) _ WO.out).mono ?_;rintro e w6 ⟨rfl,T8,dL⟩;have jr:=jJ.trans dL;have lW:=z7 T8;clear T8
      cases e6:Yy [105,110] (ws.tail)
      .have hq:=lW.out;rw[e6] at hq;have lH:=z7 hq;have E6:=z7 e6;clear hq e6;have vg:r=none:=by
        rw[<-HR.out];simp[vp,E1.out,E2.out,E3.out,E4.out,E5.out,E6.out]
       have gB:=z7 vg;clear vg;go_wp2;refine⟨rfl,?_,jr⟩;rw[gB.out]
      .have hq:=lW.out;rw[e6] at hq;have lH:=z7 hq;have E6:=z7 e6;clear hq e6;have Zu:=bH p false (ws.tail.tail) w6 lH.out YH.out (HT.out.but jr) L2;have HL:=z7 Zu;clear Zu;go_wp2_with fail;refine HL.out.mono ?_;rintro e w7 ⟨hq,jP⟩;have js:=jr.trans jP;have fF:r=(jM false (ws.tail.tail)).map fun q=>((q.1,true),q.2):=by
        rw[<-HR.out];simp[vp,E1.out,E2.out,E3.out,E4.out,E5.out,E6.out]
       have jh:=z7 fF;clear fF
       cases hn:jM false (ws.tail.tail) with
       | none =>
        rw[hn] at hq;obtain rfl:=hq;have vg:=jh.out;rw[hn] at vg;have gB:=z7 vg;clear vg hn;go_wp2;refine⟨rfl,?_,js⟩;rw[gB.out];rfl
       | some q =>
        obtain⟨T,t⟩:=q;rw[hn] at hq;obtain⟨⟨v,rfl,ht⟩,Dq⟩:=hq;have vg:=jh.out;rw[hn] at vg;have gB:=z7 vg;have Dy:=z7 ht;have KE:=z7 Dq;clear vg hn ht Dq;go_wp2;go_ret2
        refine⟨?_,js⟩;rw[gB.out];exact⟨⟨v,rfl,Dy.out.keep (xW (z8 _)) jr.size (z8 _)⟩,KE.out⟩
     .have hq:=lS.out;rw[e5] at hq;have WO:=z7 hq;have E5:=z7 e5;clear hq e5;have Zu:=bH p true (ws.tail.tail) w5 WO.out YH.out (HT.out.but jJ) L2;have HL:=z7 Zu;clear Zu;go_wp2_with fail;refine HL.out.mono ?_;rintro e w6 ⟨hq,dL⟩;have jr:=jJ.trans dL;have fF:r=(jM true (ws.tail.tail)).map fun q=>((q.1,true),q.2):=by
       rw[<-HR.out];simp[vp,E1.out,E2.out,E3.out,E4.out,E5.out]
      have jh:=z7 fF;clear fF
      cases hn:jM true (ws.tail.tail) with
      | none =>
       rw[hn] at hq;obtain rfl:=hq;have vg:=jh.out;rw[hn] at vg;have gB:=z7 vg;clear vg hn;go_wp2;refine⟨rfl,?_,jr⟩;rw[gB.out];rfl
      | some q =>
       obtain⟨T,t⟩:=q;rw[hn] at hq;obtain⟨⟨v,rfl,ht⟩,Dq⟩:=hq;have vg:=jh.out;rw[hn] at vg;have gB:=z7 vg;have Dy:=z7 ht;have KE:=z7 Dq;clear vg hn ht Dq;go_wp2;go_ret2
       refine⟨?_,jr⟩;rw[gB.out];exact⟨⟨v,rfl,Dy.out.keep (xW (z8 _)) jJ.size (z8 _)⟩,KE.out⟩
   .have hq:=yz0.out;rw[e3] at hq;have lL:=z7 hq;have E3:=z7 e3;clear hq e3;go_wp2_with fail;refine(dy p [110,111,116] (ws.tail) _ lL.out).mono ?_;rintro e w4 ⟨rfl,Gd,ur⟩;have dh:=dA.trans ur;have lN:=z7 Gd;clear Gd
    cases e4:Yy [110,111,116] (ws.tail)
    .have hq:=lN.out;rw[e4] at hq;have Mq:=z7 hq;have E4:=z7 e4;clear hq e4;have Zu:=dz p (ws.tail) w4 Mq.out B2.out (HT.out.but dh);have HL:=z7 Zu;clear Zu;go_wp2_with fail;refine HL.out.mono ?_;rintro e w5 ⟨hq,jW⟩;have jJ:=dh.trans jW;have fF:r=(kS (ws.tail)).map fun q=>((gD q.1 q.1 false,false),q.2):=by
      rw[<-HR.out];simp[vp,E1.out,E2.out,E3.out,E4.out]
     have jh:=z7 fF;clear fF
     cases hn:kS (ws.tail) with
     | none =>
      rw[hn] at hq;obtain rfl:=hq;have vg:=jh.out;rw[hn] at vg;have gB:=z7 vg;clear vg hn;go_wp2;refine⟨rfl,?_,jJ⟩;rw[gB.out];rfl
     | some q =>
      obtain⟨va,t⟩:=q;rw[hn] at hq;obtain⟨rfl,Dq⟩:=hq;have Aq:=(jK hn).1;have vg:=jh.out;rw[hn] at vg;have gB:=z7 vg;have KE:=z7 Dq;have lr:=z7 (QW va va false w5 Aq Aq);clear vg hn Dq;go_wp2_with fail;refine lr.out.mono ?_;rintro e w6 ⟨⟨v,rfl,ht⟩,dL⟩;have Dy:=z7 ht;clear ht;go_wp2;go_ret2
      refine⟨?_,jJ.below dL⟩;rw[gB.out];exact⟨⟨v,rfl,Dy.out.keep (xW (z8 _)) jJ.size (z8 _)⟩,KE.out.below dL⟩
    .have hq:=lN.out;rw[e4] at hq;have Mq:=z7 hq;have E4:=z7 e4;clear hq e4;have Zu:=dz p (ws.tail.tail) w4 Mq.out YH.out (HT.out.but dh);have HL:=z7 Zu;clear Zu;go_wp2_with fail;refine HL.out.mono ?_;rintro e w5 ⟨hq,jW⟩;have jJ:=dh.trans jW;have fF:r=(kS (ws.tail.tail)).map fun q=>((gD q.1 q.1 false,true),q.2):=by
      rw[<-HR.out];simp[vp,E1.out,E2.out,E3.out,E4.out]
     have jh:=z7 fF;clear fF
     cases hn:kS (ws.tail.tail) with
     | none =>
      rw[hn] at hq;obtain rfl:=hq;have vg:=jh.out;rw[hn] at vg;have gB:=z7 vg;clear vg hn;go_wp2;refine⟨rfl,?_,jJ⟩;rw[gB.out];rfl
     | some q =>
      obtain⟨va,t⟩:=q;rw[hn] at hq;obtain⟨rfl,Dq⟩:=hq;have Aq:=(jK hn).1;have vg:=jh.out;rw[hn] at vg;have gB:=z7 vg;have KE:=z7 Dq;have lr:=z7 (QW va va false w5 Aq Aq);clear vg hn Dq;go_wp2_with fail;refine lr.out.mono ?_;rintro e w6 ⟨⟨v,rfl,ht⟩,dL⟩;have Dy:=z7 ht;clear ht;go_wp2;go_ret2
      refine⟨?_,jJ.below dL⟩;rw[gB.out];exact⟨⟨v,rfl,Dy.out.keep (xW (z8 _)) jJ.size (z8 _)⟩,KE.out.below dL⟩
  .have hq:=zrb.out;rw[e2] at hq;have FM:=z7 hq;have E2:=z7 e2;clear hq e2;have Zu:=bH p false (ws.tail) w2 FM.out B2.out (HT.out.but uT) L1;have HL:=z7 Zu;clear Zu;go_wp2_with fail;refine HL.out.mono ?_;rintro e w3 ⟨hq,ub⟩;have dA:=uT.trans ub;have fF:r=(jM false (ws.tail)).map fun q=>((q.1,true),q.2):=by
    rw[<-HR.out];simp[vp,E1.out,E2.out]
   have jh:=z7 fF;clear fF
   cases hn:jM false (ws.tail) with
   | none =>
    rw[hn] at hq;obtain rfl:=hq;have vg:=jh.out;rw[hn] at vg;have gB:=z7 vg;clear vg hn;go_wp2;refine⟨rfl,?_,dA⟩;rw[gB.out];rfl
   | some q =>
    obtain⟨T,t⟩:=q;rw[hn] at hq;obtain⟨⟨v,rfl,ht⟩,Dq⟩:=hq;have vg:=jh.out;rw[hn] at vg;have gB:=z7 vg;have Dy:=z7 ht;have KE:=z7 Dq;clear vg hn ht Dq;go_wp2;go_ret2
    refine⟨?_,dA⟩;rw[gB.out];exact⟨⟨v,rfl,Dy.out.keep (xW (z8 _)) uT.size (z8 _)⟩,KE.out⟩
 .have hq:=zrd.out;rw[e1] at hq;have JZ:=z7 hq;have E1:=z7 e1;clear hq e1;have Zu:=bH p false (ws.tail) w1 JZ.out B2.out (HT.out.but Xy) L1;have HL:=z7 Zu;clear Zu;go_wp2_with fail;refine HL.out.mono ?_;rintro e w2 ⟨hq,xJ⟩;have uT:=Xy.trans xJ;have fF:r=(jM false (ws.tail)).map fun q=>((q.1,false),q.2):=by
   rw[<-HR.out];simp[vp,E1.out]
  have jh:=z7 fF;clear fF
  cases hn:jM false (ws.tail) with
  | none =>
   rw[hn] at hq;obtain rfl:=hq;have vg:=jh.out;rw[hn] at vg;have gB:=z7 vg;clear vg hn;go_wp2;refine⟨rfl,?_,uT⟩;rw[gB.out];rfl
  | some q =>
   obtain⟨T,t⟩:=q;rw[hn] at hq;obtain⟨⟨v,rfl,ht⟩,Dq⟩:=hq;have vg:=jh.out;rw[hn] at vg;have gB:=z7 vg;have Dy:=z7 ht;have KE:=z7 Dq;clear vg hn ht Dq;go_wp2;go_ret2
   refine⟨?_,uT⟩;rw[gB.out];exact⟨⟨v,rfl,Dy.out.keep (xW (z8 _)) Xy.size (z8 _)⟩,KE.out⟩
theorem lh(t:List Wd):Dz [[109,111,100],[37]] t=Ly (t.headD []):=by
 cases t with
 | nil=>rfl
 | cons c u=>simp[Dz,LO,Ly]
theorem WS(w:World)(m m2:Wd)(g:Nat)(hg:w.cell? ⟨g,0,none⟩=some (xg m))(je:w.cell? ⟨g,1,none⟩=some (xg m2)):Of w (.slice (some ⟨g,0,none⟩) 2 2) [m,m2] :=
 ⟨some ⟨g,0,none⟩,2,rfl,z8 _,by decide,(fun h=>by cases h),fun j hj=>by
  match j,hj with
  | 0,_=>exact⟨_,rfl,by simpa[zF] using hg⟩
  | 1,_=>exact⟨_,rfl,by simpa[zF] using je⟩⟩
theorem mz(p:Nat)(ws:List Wd)(W:World)(hp:gL W p ws) :
  Calls prog 175 #[.pointer (some ⟨p,0,none⟩),.slice (some ⟨W.heap.size,0,none⟩) 2 2] (W.alloc (.cells #[xg [109,111,100],xg [37]] 9))
   fun e w'=>e = .returned (.bool (Ly (ws.headD [])))/\gL w' p (if Ly (ws.headD []) then ws.tail else ws)/\xR p W w':=by
 have hb:Below W.heap.size W (W.alloc (.cells #[xg [109,111,100],xg [37]] 9)):=(zy _ _).alloc (z8 _) _;refine(lY p [[109,111,100],[37]] ws _ _ (hp.below hb) (WS _ _ _ _ (xu _ _ _ _ _) (xu _ _ _ _ _)) (by simp)).mono ?_;rintro e w' ⟨rfl,h1,h2,_⟩;rw[lh] at h1 |-
 exact⟨rfl,h1,(xR.of hb).trans h2⟩
theorem Eo(p:Nat)(w:World)(hp:gL w p []):Calls prog 145 #[.pointer (some ⟨p,0,none⟩)] w (Yh p (gj []) w):=by
 obtain⟨a,cap,hc,hf,h1,h2,h3⟩:=hp;clear h3;go_enter func145,ntmps145;go_wp2;exact⟨rfl,rfl,xR.refl _ _⟩
theorem my(fn:Fn)(first cap:Array Value)(w:World):(binOp .eql 309 (.func fn first cap) .nilFunc).run prog w = .ok (.bool false) w:=by
 have h:∀ d:Nat,(zQ (d+1) 309 (.func fn first cap) .nilFunc).run prog w = .ok false w:=fun d=>by
  simp[zQ,run_underlying underlying309]
 simp only[binOp];simp[Op.equal,Op.maxDepth,h 9999]
theorem Mg(w:World):(binOp .eql 309 .nilFunc .nilFunc).run prog w = .ok (.bool true) w:=by
 have h:∀ d:Nat,(zQ (d+1) 309 .nilFunc .nilFunc).run prog w = .ok true w:=fun d=>by
  simp[zQ,run_underlying underlying309]
 simp only[binOp];simp[Op.equal,Op.maxDepth,h 9999]
theorem xR.frozen{p:Nat}{w w':World}(h:xR p w w'){a:Addr}(hl:a.block<w.heap.size)(ha:a.block≠p):w'.frozen? a=w.frozen? a:=zf (h.block a.block hl ha)
structure xS(w:World)(k:Nat)(u:Value):Prop where
 c:w.cell? ⟨k,0,none⟩=some u
 z:w.frozen? ⟨k,0,none⟩=false
 n:¬El w k
theorem Mf{w:World}{a:Addr}{u:Value}{k:Nat}(h:El (w.setCell a u) k):El w k:=by
 obtain⟨cs,fr,h⟩:=h;by_cases hk:k=a.block
 .simp only[zZ,Array.getElem?_modify,if_pos hk.symm] at h
  cases hh:w.heap[k]? with
  | none=>simp[hh] at h
  | some o =>
   simp only[hh,Option.map_some] at h
   cases o with
   | cells c e f =>
    simp only[zU,zG] at h;exact⟨c,f,by rw[hh,h.2.1]⟩
   | _=>simp at h
 .exact⟨cs,fr,(zg _ _ _ _ hk).symm.trans h⟩
theorem xS.lt{w:World}{k:Nat}{u:Value}(h:xS w k u):k<w.heap.size:=zV w _ h.c
theorem xS.but{p k:Nat}{w w':World}{u:Value}(h:xS w k u)(hb:xR p w w')(hp:k≠p):xS w' k u :=
 ⟨hb.cell h.c hp,(hb.frozen (a:=⟨k,0,none⟩) h.lt hp).trans h.z,fun hs=>h.n (hs.of (hb.block k h.lt hp).symm)⟩
theorem xS.made(w:World)(u:Value)(t:TypeId)(ht:t≠9):xS (w.alloc (.cells #[u] t)) w.heap.size u :=
 ⟨xu _ _ _ _ _,by simp,fun ⟨cs,fr,h⟩=>ht (by
  have:(w.alloc (.cells #[u] t)).heap[w.heap.size]? = some (.cells #[u] t):=by show(w.heap.push _)[w.heap.size]? = _;simp
  rw[this] at h;simp only[zU,zG] at h;exact h.2.1)⟩
theorem xS.same{w:World}{k:Nat}{u:Value}(h:xS w k u)(x:Value):xS (w.setCell ⟨k,0,none⟩ x) k x:=⟨by rw[World.cell?_setCell_same (h:=h.c)],by simpa using h.z,fun hs=>h.n (Mf hs)⟩
theorem xS.other{w:World}{k j:Nat}{u:Value}(h:xS w k u)(hj:k≠j)(x:Value):xS (w.setCell ⟨j,0,none⟩ x) k u :=
 ⟨(zX (zg _ _ _ _ hj)).trans h.c,(zf (zg _ _ _ _ hj)).trans h.z,fun hs=>h.n (Mf hs)⟩
theorem xR.alloc{p:Nat}{w a:World}(h:xR p w a)(o:Obj):xR p w (a.alloc o):=h.below ((zy _ _).alloc (z8 _) _)
theorem xR.put{p k:Nat}{w a:World}(h:xR p w a)(hk:w.heap.size<=k)(u:Value):xR p w (a.setCell ⟨k,0,none⟩ u) :=
 ⟨h.os,h.tape,h.output,by simpa[zZ] using h.size,fun j hj hp=>(zg _ _ _ _ (show j≠k by omega)).trans (h.block j hj hp)⟩
theorem gL.put{w:World}{p k:Nat}{ws:List Wd}(h:gL w p ws)(hk:k≠p)(hs:¬El w k)(u:Value):gL (w.setCell ⟨k,0,none⟩ u) p ws:=by
 obtain⟨a,cap,hc,hf,h1,h2,h3⟩:=h;have hb:∀ j,j≠k->(w.setCell ⟨k,0,none⟩ u).heap[j]? = w.heap[j]? := fun j hj=>zg _ _ _ _ hj
 refine⟨a,cap,(zX (hb p hk.symm)).trans hc,(zf (hb p hk.symm)).trans hf,h1,h2,fun j hj=>?_⟩;obtain⟨b,e1,e2,e3⟩:=h3 j hj;have bP:b.block≠k:=fun e=>hs (e▸e2.2)
 exact⟨b,e1,⟨e2.1,e2.2.of (hb _ bP)⟩,(zX (hb _ (by rw[addr_add];exact bP))).trans e3⟩
theorem zy7{α β γ δ:Type}{P:α->β->γ->δ->Prop}{A:Prop}(G:α->β->γ->δ->Prop)(h1:∀ a b c d,P a b c d->G a b c d)(h2:(∀ a b c d,P a b c d->G a b c d)->A):A:=h2 h1
theorem gz{P:Program}{md:Region.Mode}{ops:Array Oper}{Q:Exit->Act->World->Prop}{S:World->Prop}{f:Nat}{m m':Array Bool}{a:Act}{w:World}(hm:m'=m)(h:wpAnyH P md ops Q S f m a w):wpAnyH P md ops Q S f m' a w:=hm▸h
theorem Bg(p:Nat)(c:Wd)(t:List Wd)(w:World)(hp:gL w p (c::t))(hx:∀ x∈c::t,Em x)(hT:RT p w)(hl:t.length<=999) :
  Calls prog 145 #[.pointer (some ⟨p,0,none⟩)] w (Yh p (gj (c::t)) w):=by
 have HP:=z7 hp;have HX:=z7 hx;have HT:=z7 hT;have xB:=hp.lt;obtain⟨a,cap,hc,hf,h1,h2,h3⟩:=hp;obtain⟨b,rfl,hb,JO⟩:=h3 0 (by simp);have Pe:w.cell? b=some (xg c):=by
  have:(b.add 0)=b:=by simp[zF]
  rw[this] at JO;exact JO
 have hmx:cap<=9223372036854775807:=by unfold maxLen at h2;omega
 have hlen:(c::t).length=t.length+1:=rfl;rw[hlen] at hc h1;obtain⟨r,hr⟩:=xX (gj (c::t));rw[hr];have HR:=z7 hr;have uM:=Ei ⟨c.toArray⟩ w;rw[toList_mk] at uM;have HOP:=z7 uM;have hef:=my;have fT:=Mg;have Nv:∀ (fn:Fn) (first cap:Array Value) (w:World),(Instr.makeFunc fn first cap).run prog w = .ok (.func fn first cap) w:=fun _ _ _ _=>rfl
 clear JO h3 hr hx hT uM;go_enter func145,ntmps145;go_wp2_with fail;refine HOP.out.mono ?_;rintro e w1 ⟨hq,rfl⟩
 cases ho:uU c with
 | none =>
  rw[ho] at hq;obtain rfl:=hq;have vg:r=none:=by rw[<-HR.out,gj,ho]
  have gB:=z7 vg;clear vg ho;go_wp2;refine⟨rfl,?_,(xR.refl _ _).alloc _⟩;rw[gB.out]
 | some F =>
  rw[ho] at hq;obtain⟨fv,rfl,tH⟩:=hq;have HFV:=z7 tH;have hK:=tH 0 0 w;obtain⟨kf,bQ,rfl,_⟩:=hK;have HO:=z7 ho;clear tH ho;by_cases qK:cap=1
  .have R5:t=[]:=List.eq_nil_of_length_eq_zero (by omega);subst R5;subst qK;go_wp2_with fail;have F1:∃ W1,W1=(w.setCell ⟨p,0,none⟩ (.slice (some b) 0 0)).alloc (.cells #[.func (.func kf) #[] bQ] 309)/\xR p w W1/\W1.heap.size=w.heap.size+1/\gL W1 p ([]:List Wd)/\xS W1 w.heap.size (.func (.func kf) #[] bQ):=by
    have hs:(w.setCell ⟨p,0,none⟩ (.slice (some b) 0 0)).heap.size=w.heap.size:=by simp[zZ]
    refine⟨_,rfl,(xR.set p w 0 _).alloc _,by simp[zZ],((HP.out.step hc).2 rfl).below ((zy _ _).alloc (z8 _) _),?_⟩;rw[<-hs];exact xS.made _ _ _ (by decide)
   obtain⟨W1,XY,Xy,uH,Un,cQ1⟩:=F1;have WT:∀ o,((w.setCell ⟨p,0,none⟩ (.slice (some b) 0 0)).alloc (.cells #[.func (.func kf) #[] bQ] 309)).alloc o=W1.alloc o:=fun o=>by rw[XY]
   have JZ:=z7 Un;have gN:=z7 uH;have him:=mz p ([]:List Wd) W1 Un;rw[uH] at him;have HIM:=z7 him;clear Un uH him;rw[WT];clear WT XY;refine HIM.out.mono ?_;rintro e w2 ⟨rfl,VY,xJ⟩;have uT:=Xy.trans xJ;have Zs:w.heap.size≠p:=by omega
   have Md:=cQ1.but xJ Zs;have FM:=z7 VY;clear VY cQ1
   cases hm:Ly (([]:List Wd).headD [])
   .have kh:=FM.out;rw[hm] at kh;have K8:=z7 kh;have HM:=z7 hm;clear kh hm;have cQ:=Md;obtain⟨Q,hQ⟩:∃ Q,Q=w.heap.size:=⟨_,rfl⟩;rw[<-hQ] at cQ Md Zs |-
    have HQ:=z7 hQ;clear hQ;have PF:=z7 (Qa p (([]:List Wd)) w2 K8.out (fun x h=>HX.out x (by simp[h])) (HT.out.but uT) (by omega));go_wp2_with fail;refine PF.out.mono ?_;rintro e w7 ⟨hq,jP⟩;have js:=uT.trans jP;have fF:r=match vp (([]:List Wd)) with
      | none=>none
      | some ((i,nt),v)=>some ((fun x=>i (F x) !=nt),v):=by
     rw[<-HR.out];rw[gj,HO.out];dsimp only;unfold Yx;rw[HM.out];rfl
    cases hn:vp (([]:List Wd)) with
    | none =>
     rw[hn] at hq fF;obtain rfl:=hq;have jh:=z7 fF;clear fF hn;go_wp2;refine⟨rfl,?_,js⟩;rw[jh.out]
    | some q =>
     obtain⟨⟨Tm,nt⟩,t'⟩:=q;rw[hn] at hq fF;obtain⟨⟨v,rfl,mq⟩,Hj⟩:=hq;have jh:=Lib.hid fF;have HTM:=Lib.hid mq;have HP7:=Lib.hid Hj;have mg:=cQ.but jP Zs;have hQ7:=mg.lt;have HF7:=Lib.hid (WH.keep (lo':=w.heap.size) (hi':=w7.heap.size) (HFV.out w.heap.size w2.heap.size w2) (jP.keep xB (Nat.le_refl _)) (Nat.le_refl _) jP.size);obtain⟨kt,Ep,rfl,_⟩:=mq;clear fF hn Hj;go_wp2;go_ret;have ZH:=js.alloc (.cells #[.func (.func kt) #[] Ep] 214);have hbB:=ZH.alloc (.cells #[.bool nt] 4);have O4:(w7.alloc (.cells #[.func (.func kt) #[] Ep] 214)).heap.size=w7.heap.size+1:=by simp
     have hsB:((w7.alloc (.cells #[.func (.func kt) #[] Ep] 214)).alloc (.cells #[.bool nt] 4)).heap.size=w7.heap.size+2:=by simp
     have Dk:Below w7.heap.size w7 ((w7.alloc (.cells #[.func (.func kt) #[] Ep] 214)).alloc (.cells #[.bool nt] 4)):=((zy _ _).alloc (z8 _) _).alloc (by simp) _;refine⟨?_,hbB⟩;rw[jh.out];have hQw:=HQ.out;have hw7:=js.size;refine⟨⟨_,rfl,185,_,rfl,fun args w=>enters_of func185 (by kernel_rfl) rfl args w,fun W hW nv x hx=>?_⟩,HP7.out.below Dk⟩;rw[hsB] at hW;have Gv:xr w.heap.size w7.heap.size w7 W:=hW.via (vK Dk (z8 _) (z8 _)) (z8 _) (by omega);refine QA nv x _ _ _ _ _ nt Tm (F) w.heap.size w7.heap.size W hx ((hW.cell ?_ ?_).trans ?_) ((Gv.cell ?_ hQ7).trans mg.c) ((hW.cell ?_ ?_).trans ?_) (HTM.out.keep (Gv.via (xW (z8 _)) (by have:=uT.size;omega) (z8 _)) (by have:=uT.size;omega) (z8 _)) (HF7.out.keep Gv (z8 _) (z8 _)) Gv.1;all_goals first|(show w.heap.size<=w7.heap.size;omega)|(show w7.heap.size<w7.heap.size+2;omega)|(show w.heap.size<=w7.heap.size+1;omega)|(show w7.heap.size+1<w7.heap.size+2;omega)|(show w.heap.size<=Q;omega)|(go_simp;done)
   .have kh:=FM.out;rw[hm] at kh;have K8:=z7 kh;have HM:=z7 hm;clear kh hm;have cQ:=Md;obtain⟨Q,hQ⟩:∃ Q,Q=w.heap.size:=⟨_,rfl⟩;rw[<-hQ] at cQ Md Zs |-
    have HQ:=z7 hQ;clear hQ;have Kp:=z7 (fun W (hb:xR p w W) (hp:gL W p ([]:List Wd).tail)=>dz p ([]:List Wd).tail W hp (fun x h=>HX.out x (zY _ (zu h))) (HT.out.but hb));have jO:w2.drew.cell? ⟨Q,0,none⟩=some (.func (.func kf) #[] bQ):=Md.c;have dH:=uT.drew;have ib:=z7 (show gL w2.drew p ([]:List Wd).tail from K8.out.below (zy _ w2).drew);have WW:xS w2.drew Q (.func (.func kf) #[] bQ):=⟨Md.c,Md.z,Md.n⟩;clear Xy;go_wp2_with fail;refine rt (fun W':World=>W'.cell? ⟨Q,0,none⟩=some (.func (.func kf) #[] bQ)) [0,2] 5 jO ?_;(iterate 2 ((first|refine ty ?_|refine tn ?_);try simp only[pl]))
    refine xq ?_;generalize w2.drew=wD at dH ib WW |-
    apply zy7 (P:=fun (W:World) (k4 k5 mv:Nat)=>(∃ t3,kS (([]:List Wd)).tail=some (mv,t3)/\gL W p t3)/\xR p w W/\xS W Q (.func (.func kf) #[] bQ)/\xS W k4 (.int .i64 0)/\xS W k5 .nilFunc/\w.heap.size<=k4/\w.heap.size<=k5/\k4≠k5/\k4≠p/\k5≠p/\k4≠Q/\k5≠Q)
    case h2 =>
     intro L;refine wpAnyH_ready (rs:=[1,3,4]) (by kernel_rfl) (by simp) (zv rfl (fun K hK=>?_) (zv rfl (fun K hK=>?_) (zv rfl (fun K hK=>?_) zj)))
     .skip
      go_simp;refine(Kp.out wD dH ib.out).mono ?_;rintro e qP ⟨hq,Yw⟩;obtain⟨q0,qx⟩:=xX (kS (([]:List Wd)).tail);rw[qx] at hq
      cases q0 with
      | none =>
       obtain rfl:=hq;refine⟨rfl,?_,dH.trans Yw⟩;rw[<-HR.out,gj,HO.out];dsimp only;unfold Yx;rw[HM.out,if_pos rfl,qx]
      | some q0 =>
       obtain⟨mv,t3⟩:=q0;have HN:=z7 qx;obtain⟨rfl,Qe⟩:=hq;have V4:=z7 Qe;have vo:=dH.trans Yw;have gV:=WW.but Yw Zs;clear qx;clear Qe;refine hK.out _ _ gV.c (fun _=>?_);clear hK K;refine wpAnyH_ready (rs:=[3,4]) (by kernel_rfl) (by simp) (zv rfl (fun K hK=>?_) (zv rfl (fun K hK=>?_) zj))
       .skip
        go_simp;have FA:∃ N,N=qP.alloc (.cells #[(.int .i64 0)] 3)/\xR p qP N/\xS N qP.heap.size (.int .i64 0):=⟨_,rfl,(xR.refl _ _).alloc _,xS.made _ _ _ (by decide)⟩;obtain⟨um,hW,qY,Zq⟩:=FA;have Y8:∀ o,o=zx (some ⟨qP.heap.size,0,none⟩)->o=o:=fun _ _=>rfl
        rw[<-hW];have Zk:=z7 (V4.out.below (show Below qP.heap.size qP um by rw[hW];exact(zy _ _).alloc (z8 _) _));have vL:=vo.trans qY;have qa:=gV.but qY Zs;have uQ:w.heap.size<=qP.heap.size:=vo.size;have kD:qP.heap.size≠Q:=fun e=>by have:=gV.lt;omega
        clear hW Y8;obtain⟨k4,dV⟩:∃ k,k=qP.heap.size:=⟨_,rfl⟩;rw[<-dV] at Zq uQ kD |-
        have j9:k4≠p:=by omega
        have sG:=z7 dV;clear dV;refine hK.out _ _ qa.c (fun _=>?_);clear hK K;refine jx 4 (fun K hK=>?_);go_simp;have FA:∃ N,N=um.alloc (.cells #[.nilFunc] 309)/\xR p um N/\xS N um.heap.size .nilFunc:=⟨_,rfl,(xR.refl _ _).alloc _,xS.made _ _ _ (by decide)⟩;obtain⟨V5,hW,uC,gU⟩:=FA;have Y8:∀ o,o=zx (some ⟨um.heap.size,0,none⟩)->o=o:=fun _ _=>rfl
        rw[<-hW];have dv:=z7 (Zk.out.below (show Below um.heap.size um V5 by rw[hW];exact(zy _ _).alloc (z8 _) _));have uE:=vL.trans uC;have ku:=qa.but uC Zs;have uK:w.heap.size<=um.heap.size:=vL.size;have kC:um.heap.size≠Q:=fun e=>by have:=qa.lt;omega
        clear hW Y8;have jz:=Zq.but uC j9;have Zj:um.heap.size≠k4:=fun e=>by have:=Zq.lt;omega
        obtain⟨k5,Z0⟩:∃ k,k=um.heap.size:=⟨_,rfl⟩;rw[<-Z0] at gU uK kC |-
        rw[<-Z0] at Zj;have jy:k5≠p:=by omega
        have sF:=z7 Z0;clear Z0;refine hK.out _ _ ku.c (fun _=>?_);clear hK K;refine gz (m:=#[true,true,true,true,true,false,false]) (by kernel_rfl) ?_;exact L V5 k4 k5 mv ⟨⟨t3,HN.out,dv.out⟩,uE,ku,jz,gU,uQ,uK,by omega,j9,jy,kD,kC⟩
       .skip
        go_simp;have FA:∃ N,N=qP.alloc (.cells #[.nilFunc] 309)/\xR p qP N/\xS N qP.heap.size .nilFunc:=⟨_,rfl,(xR.refl _ _).alloc _,xS.made _ _ _ (by decide)⟩;obtain⟨um,hW,qY,Zg⟩:=FA;have Y8:∀ o,o=zx (some ⟨qP.heap.size,0,none⟩)->o=o:=fun _ _=>rfl
        rw[<-hW];have Zk:=z7 (V4.out.below (show Below qP.heap.size qP um by rw[hW];exact(zy _ _).alloc (z8 _) _));have vL:=vo.trans qY;have qa:=gV.but qY Zs;have uK:w.heap.size<=qP.heap.size:=vo.size;have kC:qP.heap.size≠Q:=fun e=>by have:=gV.lt;omega
        clear hW Y8;obtain⟨k5,Z0⟩:∃ k,k=qP.heap.size:=⟨_,rfl⟩;rw[<-Z0] at Zg uK kC |-
        have jy:k5≠p:=by omega
        have sF:=z7 Z0;clear Z0;refine hK.out _ _ qa.c (fun _=>?_);clear hK K;refine jx 3 (fun K hK=>?_);go_simp;have FA:∃ N,N=um.alloc (.cells #[(.int .i64 0)] 3)/\xR p um N/\xS N um.heap.size (.int .i64 0):=⟨_,rfl,(xR.refl _ _).alloc _,xS.made _ _ _ (by decide)⟩;obtain⟨V5,hW,uC,jz⟩:=FA;have Y8:∀ o,o=zx (some ⟨um.heap.size,0,none⟩)->o=o:=fun _ _=>rfl
        rw[<-hW];have dv:=z7 (Zk.out.below (show Below um.heap.size um V5 by rw[hW];exact(zy _ _).alloc (z8 _) _));have uE:=vL.trans uC;have ku:=qa.but uC Zs;have uQ:w.heap.size<=um.heap.size:=vL.size;have kD:um.heap.size≠Q:=fun e=>by have:=qa.lt;omega
        clear hW Y8;have gU:=Zg.but uC jy;have Zj:um.heap.size≠k5:=fun e=>by have:=Zg.lt;omega
        obtain⟨k4,dV⟩:∃ k,k=um.heap.size:=⟨_,rfl⟩;rw[<-dV] at jz uQ kD |-
        rw[<-dV] at Zj;have j9:k4≠p:=by omega
        have sG:=z7 dV;clear dV;refine hK.out _ _ ku.c (fun _=>?_);clear hK K;refine gz (m:=#[true,true,true,true,true,false,false]) (by kernel_rfl) ?_;exact L V5 k4 k5 mv ⟨⟨t3,HN.out,dv.out⟩,uE,ku,jz,gU,uQ,uK,by omega,j9,jy,kD,kC⟩
     .skip
      go_simp;have FA:∃ N,N=wD.alloc (.cells #[(.int .i64 0)] 3)/\xR p wD N/\xS N wD.heap.size (.int .i64 0):=⟨_,rfl,(xR.refl _ _).alloc _,xS.made _ _ _ (by decide)⟩;obtain⟨qP,hW,Yw,Er⟩:=FA;have Y8:∀ o,o=zx (some ⟨wD.heap.size,0,none⟩)->o=o:=fun _ _=>rfl
      rw[<-hW];have V4:=z7 (ib.out.below (show Below wD.heap.size wD qP by rw[hW];exact(zy _ _).alloc (z8 _) _));have vo:=dH.trans Yw;have gV:=WW.but Yw Zs;have uQ:w.heap.size<=wD.heap.size:=dH.size;have kD:wD.heap.size≠Q:=fun e=>by have:=WW.lt;omega
      clear hW Y8;obtain⟨k4,dV⟩:∃ k,k=wD.heap.size:=⟨_,rfl⟩;rw[<-dV] at Er uQ kD |-
      have j9:k4≠p:=by omega
      have sG:=z7 dV;clear dV;refine hK.out _ _ gV.c (fun _=>?_);clear hK K;refine wpAnyH_ready (rs:=[1,4]) (by kernel_rfl) (by simp) (zv rfl (fun K hK=>?_) (zv rfl (fun K hK=>?_) zj))
      .skip
       go_simp;refine(Kp.out qP vo V4.out).mono ?_;rintro e um ⟨hq,qY⟩;obtain⟨q0,qx⟩:=xX (kS (([]:List Wd)).tail);rw[qx] at hq
       cases q0 with
       | none =>
        obtain rfl:=hq;refine⟨rfl,?_,vo.trans qY⟩;rw[<-HR.out,gj,HO.out];dsimp only;unfold Yx;rw[HM.out,if_pos rfl,qx]
       | some q0 =>
        obtain⟨mv,t3⟩:=q0;have HN:=z7 qx;obtain⟨rfl,Qe⟩:=hq;have Zk:=z7 Qe;have vL:=vo.trans qY;have qa:=gV.but qY Zs;clear qx;have Zq:=Er.but qY j9;clear Qe;refine hK.out _ _ qa.c (fun _=>?_);clear hK K;refine jx 4 (fun K hK=>?_);go_simp;have FA:∃ N,N=um.alloc (.cells #[.nilFunc] 309)/\xR p um N/\xS N um.heap.size .nilFunc:=⟨_,rfl,(xR.refl _ _).alloc _,xS.made _ _ _ (by decide)⟩;obtain⟨V5,hW,uC,gU⟩:=FA;have Y8:∀ o,o=zx (some ⟨um.heap.size,0,none⟩)->o=o:=fun _ _=>rfl
        rw[<-hW];have dv:=z7 (Zk.out.below (show Below um.heap.size um V5 by rw[hW];exact(zy _ _).alloc (z8 _) _));have uE:=vL.trans uC;have ku:=qa.but uC Zs;have uK:w.heap.size<=um.heap.size:=vL.size;have kC:um.heap.size≠Q:=fun e=>by have:=qa.lt;omega
        clear hW Y8;have jz:=Zq.but uC j9;have Zj:um.heap.size≠k4:=fun e=>by have:=Zq.lt;omega
        obtain⟨k5,Z0⟩:∃ k,k=um.heap.size:=⟨_,rfl⟩;rw[<-Z0] at gU uK kC |-
        rw[<-Z0] at Zj;have jy:k5≠p:=by omega
        have sF:=z7 Z0;clear Z0;refine hK.out _ _ ku.c (fun _=>?_);clear hK K;refine gz (m:=#[true,true,true,true,true,false,false]) (by kernel_rfl) ?_;exact L V5 k4 k5 mv ⟨⟨t3,HN.out,dv.out⟩,uE,ku,jz,gU,uQ,uK,by omega,j9,jy,kD,kC⟩
      .skip
       go_simp;have FA:∃ N,N=qP.alloc (.cells #[.nilFunc] 309)/\xR p qP N/\xS N qP.heap.size .nilFunc:=⟨_,rfl,(xR.refl _ _).alloc _,xS.made _ _ _ (by decide)⟩;obtain⟨um,hW,qY,Zg⟩:=FA;have Y8:∀ o,o=zx (some ⟨qP.heap.size,0,none⟩)->o=o:=fun _ _=>rfl
       rw[<-hW];have Zk:=z7 (V4.out.below (show Below qP.heap.size qP um by rw[hW];exact(zy _ _).alloc (z8 _) _));have vL:=vo.trans qY;have qa:=gV.but qY Zs;have uK:w.heap.size<=qP.heap.size:=vo.size;have kC:qP.heap.size≠Q:=fun e=>by have:=gV.lt;omega
       clear hW Y8;have Zq:=Er.but qY j9;have Zj:qP.heap.size≠k4:=fun e=>by have:=Er.lt;omega
       obtain⟨k5,Z0⟩:∃ k,k=qP.heap.size:=⟨_,rfl⟩;rw[<-Z0] at Zg uK kC |-
       rw[<-Z0] at Zj;have jy:k5≠p:=by omega
       have sF:=z7 Z0;clear Z0;refine hK.out _ _ qa.c (fun _=>?_);clear hK K;refine jx 1 (fun K hK=>?_);go_simp;refine(Kp.out um vL Zk.out).mono ?_;rintro e V5 ⟨hq,uC⟩;obtain⟨q0,qx⟩:=xX (kS (([]:List Wd)).tail);rw[qx] at hq
       cases q0 with
       | none =>
        obtain rfl:=hq;refine⟨rfl,?_,vL.trans uC⟩;rw[<-HR.out,gj,HO.out];dsimp only;unfold Yx;rw[HM.out,if_pos rfl,qx]
       | some q0 =>
        obtain⟨mv,t3⟩:=q0;have HN:=z7 qx;obtain⟨rfl,Qe⟩:=hq;have dv:=z7 Qe;have uE:=vL.trans uC;have ku:=qa.but uC Zs;clear qx;have jz:=Zq.but uC j9;have gU:=Zg.but uC jy;clear Qe;refine hK.out _ _ ku.c (fun _=>?_);clear hK K;refine gz (m:=#[true,true,true,true,true,false,false]) (by kernel_rfl) ?_;exact L V5 k4 k5 mv ⟨⟨t3,HN.out,dv.out⟩,uE,ku,jz,gU,uQ,uK,by omega,j9,jy,kD,kC⟩
     .skip
      go_simp;have FA:∃ N,N=wD.alloc (.cells #[.nilFunc] 309)/\xR p wD N/\xS N wD.heap.size .nilFunc:=⟨_,rfl,(xR.refl _ _).alloc _,xS.made _ _ _ (by decide)⟩;obtain⟨qP,hW,Yw,Es⟩:=FA;have Y8:∀ o,o=zx (some ⟨wD.heap.size,0,none⟩)->o=o:=fun _ _=>rfl
      rw[<-hW];have V4:=z7 (ib.out.below (show Below wD.heap.size wD qP by rw[hW];exact(zy _ _).alloc (z8 _) _));have vo:=dH.trans Yw;have gV:=WW.but Yw Zs;have uK:w.heap.size<=wD.heap.size:=dH.size;have kC:wD.heap.size≠Q:=fun e=>by have:=WW.lt;omega
      clear hW Y8;obtain⟨k5,Z0⟩:∃ k,k=wD.heap.size:=⟨_,rfl⟩;rw[<-Z0] at Es uK kC |-
      have jy:k5≠p:=by omega
      have sF:=z7 Z0;clear Z0;refine hK.out _ _ gV.c (fun _=>?_);clear hK K;refine wpAnyH_ready (rs:=[1,3]) (by kernel_rfl) (by simp) (zv rfl (fun K hK=>?_) (zv rfl (fun K hK=>?_) zj))
      .skip
       go_simp;refine(Kp.out qP vo V4.out).mono ?_;rintro e um ⟨hq,qY⟩;obtain⟨q0,qx⟩:=xX (kS (([]:List Wd)).tail);rw[qx] at hq
       cases q0 with
       | none =>
        obtain rfl:=hq;refine⟨rfl,?_,vo.trans qY⟩;rw[<-HR.out,gj,HO.out];dsimp only;unfold Yx;rw[HM.out,if_pos rfl,qx]
       | some q0 =>
        obtain⟨mv,t3⟩:=q0;have HN:=z7 qx;obtain⟨rfl,Qe⟩:=hq;have Zk:=z7 Qe;have vL:=vo.trans qY;have qa:=gV.but qY Zs;clear qx;have Zg:=Es.but qY jy;clear Qe;refine hK.out _ _ qa.c (fun _=>?_);clear hK K;refine jx 3 (fun K hK=>?_);go_simp;have FA:∃ N,N=um.alloc (.cells #[(.int .i64 0)] 3)/\xR p um N/\xS N um.heap.size (.int .i64 0):=⟨_,rfl,(xR.refl _ _).alloc _,xS.made _ _ _ (by decide)⟩;obtain⟨V5,hW,uC,jz⟩:=FA;have Y8:∀ o,o=zx (some ⟨um.heap.size,0,none⟩)->o=o:=fun _ _=>rfl
        rw[<-hW];have dv:=z7 (Zk.out.below (show Below um.heap.size um V5 by rw[hW];exact(zy _ _).alloc (z8 _) _));have uE:=vL.trans uC;have ku:=qa.but uC Zs;have uQ:w.heap.size<=um.heap.size:=vL.size;have kD:um.heap.size≠Q:=fun e=>by have:=qa.lt;omega
        clear hW Y8;have gU:=Zg.but uC jy;have Zj:um.heap.size≠k5:=fun e=>by have:=Zg.lt;omega
        obtain⟨k4,dV⟩:∃ k,k=um.heap.size:=⟨_,rfl⟩;rw[<-dV] at jz uQ kD |-
        rw[<-dV] at Zj;have j9:k4≠p:=by omega
        have sG:=z7 dV;clear dV;refine hK.out _ _ ku.c (fun _=>?_);clear hK K;refine gz (m:=#[true,true,true,true,true,false,false]) (by kernel_rfl) ?_;exact L V5 k4 k5 mv ⟨⟨t3,HN.out,dv.out⟩,uE,ku,jz,gU,uQ,uK,by omega,j9,jy,kD,kC⟩
      .skip
       go_simp;have FA:∃ N,N=qP.alloc (.cells #[(.int .i64 0)] 3)/\xR p qP N/\xS N qP.heap.size (.int .i64 0):=⟨_,rfl,(xR.refl _ _).alloc _,xS.made _ _ _ (by decide)⟩;obtain⟨um,hW,qY,Zq⟩:=FA;have Y8:∀ o,o=zx (some ⟨qP.heap.size,0,none⟩)->o=o:=fun _ _=>rfl
       rw[<-hW];have Zk:=z7 (V4.out.below (show Below qP.heap.size qP um by rw[hW];exact(zy _ _).alloc (z8 _) _));have vL:=vo.trans qY;have qa:=gV.but qY Zs;have uQ:w.heap.size<=qP.heap.size:=vo.size;have kD:qP.heap.size≠Q:=fun e=>by have:=gV.lt;omega
       clear hW Y8;have Zg:=Es.but qY jy;have Zj:qP.heap.size≠k5:=fun e=>by have:=Es.lt;omega
       obtain⟨k4,dV⟩:∃ k,k=qP.heap.size:=⟨_,rfl⟩;rw[<-dV] at Zq uQ kD |-
       rw[<-dV] at Zj;have j9:k4≠p:=by omega
       have sG:=z7 dV;clear dV;refine hK.out _ _ qa.c (fun _=>?_);clear hK K;refine jx 1 (fun K hK=>?_);go_simp;refine(Kp.out um vL Zk.out).mono ?_;rintro e V5 ⟨hq,uC⟩;obtain⟨q0,qx⟩:=xX (kS (([]:List Wd)).tail);rw[qx] at hq
       cases q0 with
       | none =>
        obtain rfl:=hq;refine⟨rfl,?_,vL.trans uC⟩;rw[<-HR.out,gj,HO.out];dsimp only;unfold Yx;rw[HM.out,if_pos rfl,qx]
       | some q0 =>
        obtain⟨mv,t3⟩:=q0;have HN:=z7 qx;obtain⟨rfl,Qe⟩:=hq;have dv:=z7 Qe;have uE:=vL.trans uC;have ku:=qa.but uC Zs;clear qx;have jz:=Zq.but uC j9;have gU:=Zg.but uC jy;clear Qe;refine hK.out _ _ ku.c (fun _=>?_);clear hK K;refine gz (m:=#[true,true,true,true,true,false,false]) (by kernel_rfl) ?_;exact L V5 k4 k5 mv ⟨⟨t3,HN.out,dv.out⟩,uE,ku,jz,gU,uQ,uK,by omega,j9,jy,kD,kC⟩
    case h1 =>
     rintro V5 k4 k5 mv ⟨⟨t3,qx,He⟩,uE,ku,jz,gU,uQ,uK,Mb,j9,jy,kD,kC⟩;have HN:=z7 qx;have BU:=(jK qx).1;have KS:=YX qx;have dv:=z7 He;clear qx He;refine jx 5 (fun K hK=>?_);have y4:=jz.c;have y4z:=jz.z;go_simp;refine hK.out _ _ (ku.other (j:=k4) kD.symm _).c (fun _=>?_);clear hK K y4 y4z;have c4S:=jz.same (.int .i64 mv);have mf:=gU.other (j:=k4) Mb.symm (.int .i64 mv);have cQS:=ku.other (j:=k4) kD.symm (.int .i64 mv);have MZ:=uE.put uQ (.int .i64 mv);have oZ:=z7 (dv.out.put j9 jz.n (.int .i64 mv));generalize V5.setCell ⟨k4,0,none⟩ (.int .i64 mv)=wS at c4S mf cQS MZ oZ |-
     refine jx 6 (fun K hK=>?_);have y5:=mf.c;have y5z:=mf.z;go_simp;refine hK.out _ _ (cQS.other (j:=k5) kC.symm _).c (fun _=>?_);clear hK K y5 y5z;have c4T:=c4S.other (j:=k5) Mb (.func (.func kf) #[] bQ);have c5T:=mf.same (.func (.func kf) #[] bQ);have mZ:=cQS.other (j:=k5) kC.symm (.func (.func kf) #[] bQ);have Dj:=MZ.put uK (.func (.func kf) #[] bQ);have BB:=z7 (oZ.out.put jy mf.n (.func (.func kf) #[] bQ));generalize wS.setCell ⟨k5,0,none⟩ (.func (.func kf) #[] bQ)=wT at c4T c5T mZ Dj BB |-
     refine b7 ?_ _;have y4:=c4T.c;have yQ:=mZ.c;have yQz:=mZ.z;by_cases By:mv=0
     .have vg:r=none:=by rw[<-HR.out,gj,HO.out];dsimp only;unfold Yx;rw[HM.out,if_pos rfl,HN.out];simp[By]
      have gB:=z7 vg;subst By;clear vg;go_wp2;refine⟨rfl,?_,Dj⟩;rw[gB.out]
     .have hmz:((mv:Int)==0)=false:=by simp;omega
      have hre:gj (c::([]:List Wd))=match vp t3 with
        | none=>none
        | some ((i,nt),v)=>some ((fun x=>i (B8 F mv x) !=nt),v):=by
       rw[gj,HO.out];dsimp only;unfold Yx;rw[HM.out,if_pos rfl,HN.out];simp only[if_neg By];rfl
      have oA:=z7 hre;have Vl:0<mv:=by omega
      clear hre By;have cU:=mZ.same (.func (.func 182) #[] #[.pointer (some ⟨k5,0,none⟩),.pointer (some ⟨k4,0,none⟩)]);have V6:=Dj.put (show w.heap.size<=Q by have:=HQ.out;omega) (.func (.func 182) #[] #[.pointer (some ⟨k5,0,none⟩),.pointer (some ⟨k4,0,none⟩)]);have HPU:=z7 (BB.out.put Zs mZ.n (.func (.func 182) #[] #[.pointer (some ⟨k5,0,none⟩),.pointer (some ⟨k4,0,none⟩)]));have c4U:=c4T.other (j:=Q) kD (.func (.func 182) #[] #[.pointer (some ⟨k5,0,none⟩),.pointer (some ⟨k4,0,none⟩)]);have c5U:=c5T.other (j:=Q) kC (.func (.func 182) #[] #[.pointer (some ⟨k5,0,none⟩),.pointer (some ⟨k4,0,none⟩)]);go_wp2_with fail;generalize wT.setCell ⟨Q,0,none⟩ (.func (.func 182) #[] #[.pointer (some ⟨k5,0,none⟩),.pointer (some ⟨k4,0,none⟩)])=wU at cU V6 HPU c4U c5U |-
      have hFU:WH w.heap.size wU.heap.size wU (.func (.func 182) #[] #[.pointer (some ⟨k5,0,none⟩),.pointer (some ⟨k4,0,none⟩)]) (B8 F mv) :=
       ⟨182,_,rfl,fun args w=>enters_of func182 (by kernel_rfl) rfl args w,fun W hW nv x hx =>
        Mz nv x k5 k4 _ mv F 0 0 W hx BU Vl ((hW.cell (p:=⟨k5,0,none⟩) uK c5U.lt).trans c5U.c) ((hW.cell (p:=⟨k4,0,none⟩) uQ c4U.lt).trans c4U.c) (HFV.out 0 0 W) (Nat.zero_le _)⟩
      have HFU:=z7 hFU;have cQ:=cU;clear hFU y4 yQ yQz;have PF:=z7 (Qa p (t3) wU HPU.out (fun x h=>HX.out x (zY _ (zu (KS.mem x h)))) (HT.out.but V6) (by have Qv:=KS.len;have Qw:(([]:List Wd)).tail.length<=(([]:List Wd)).length:=(by simp);omega));go_wp2_with fail;refine PF.out.mono ?_;rintro e w7 ⟨hq,jP⟩;have js:=V6.trans jP;have fF:r=match vp (t3) with
        | none=>none
        | some ((i,nt),v)=>some ((fun x=>i ((B8 F mv) x) !=nt),v):=by
       rw[<-HR.out];exact oA.out
      cases hn:vp (t3) with
      | none =>
       rw[hn] at hq fF;obtain rfl:=hq;have jh:=z7 fF;clear fF hn;go_wp2;refine⟨rfl,?_,js⟩;rw[jh.out]
      | some q =>
       obtain⟨⟨Tm,nt⟩,t'⟩:=q;rw[hn] at hq fF;obtain⟨⟨v,rfl,mq⟩,Hj⟩:=hq;have jh:=Lib.hid fF;have HTM:=Lib.hid mq;have HP7:=Lib.hid Hj;have mg:=cQ.but jP Zs;have hQ7:=mg.lt;have HF7:=Lib.hid (WH.keep (lo':=w.heap.size) (hi':=w7.heap.size) HFU.out (jP.keep xB (Nat.le_refl _)) (Nat.le_refl _) jP.size);obtain⟨kt,Ep,rfl,_⟩:=mq;clear fF hn Hj;go_wp2;go_ret;have ZH:=js.alloc (.cells #[.func (.func kt) #[] Ep] 214);have hbB:=ZH.alloc (.cells #[.bool nt] 4);have O4:(w7.alloc (.cells #[.func (.func kt) #[] Ep] 214)).heap.size=w7.heap.size+1:=by simp
       have hsB:((w7.alloc (.cells #[.func (.func kt) #[] Ep] 214)).alloc (.cells #[.bool nt] 4)).heap.size=w7.heap.size+2:=by simp
       have Dk:Below w7.heap.size w7 ((w7.alloc (.cells #[.func (.func kt) #[] Ep] 214)).alloc (.cells #[.bool nt] 4)):=((zy _ _).alloc (z8 _) _).alloc (by simp) _;refine⟨?_,hbB⟩;rw[jh.out];have hQw:=HQ.out;have hw7:=js.size;refine⟨⟨_,rfl,185,_,rfl,fun args w=>enters_of func185 (by kernel_rfl) rfl args w,fun W hW nv x hx=>?_⟩,HP7.out.below Dk⟩;rw[hsB] at hW;have Gv:xr w.heap.size w7.heap.size w7 W:=hW.via (vK Dk (z8 _) (z8 _)) (z8 _) (by omega);refine QA nv x _ _ _ _ _ nt Tm ((B8 F mv)) w.heap.size w7.heap.size W hx ((hW.cell ?_ ?_).trans ?_) ((Gv.cell ?_ hQ7).trans mg.c) ((hW.cell ?_ ?_).trans ?_) (HTM.out.keep (Gv.via (xW (z8 _)) (by have:=V6.size;omega) (z8 _)) (by have:=V6.size;omega) (z8 _)) (HF7.out.keep Gv (z8 _) (z8 _)) Gv.1;all_goals first|(show w.heap.size<=w7.heap.size;omega)|(show w7.heap.size<w7.heap.size+2;omega)|(show w.heap.size<=w7.heap.size+1;omega)|(show w7.heap.size+1<w7.heap.size+2;omega)|(show w.heap.size<=Q;omega)|(go_simp;done)
  .have vy:¬(cap:Int)=1:=by omega
   go_wp2_with fail;have F1:∃ W1,W1=(w.setCell ⟨p,0,none⟩ (.slice (some (b.add 1)) t.length (cap - 1))).alloc (.cells #[.func (.func kf) #[] bQ] 309)/\xR p w W1/\W1.heap.size=w.heap.size+1/\gL W1 p t/\xS W1 w.heap.size (.func (.func kf) #[] bQ):=by
    have hs:(w.setCell ⟨p,0,none⟩ (.slice (some (b.add 1)) t.length (cap - 1))).heap.size=w.heap.size:=by simp[zZ]
    refine⟨_,rfl,(xR.set p w 0 _).alloc _,by simp[zZ],((HP.out.step hc).1).below ((zy _ _).alloc (z8 _) _),?_⟩;rw[<-hs];exact xS.made _ _ _ (by decide)
   obtain⟨W1,XY,Xy,uH,Un,cQ1⟩:=F1;have WT:∀ o,((w.setCell ⟨p,0,none⟩ (.slice (some (b.add 1)) t.length (cap - 1))).alloc (.cells #[.func (.func kf) #[] bQ] 309)).alloc o=W1.alloc o:=fun o=>by rw[XY]
   have JZ:=z7 Un;have gN:=z7 uH;have him:=mz p t W1 Un;rw[uH] at him;have HIM:=z7 him;clear Un uH him;have zag:(some (b.add 1):Option Addr)=some ⟨b.block,b.off+1,none⟩:=rfl;rw[zag] at WT;rw[WT];clear WT XY;refine HIM.out.mono ?_;rintro e w2 ⟨rfl,VY,xJ⟩;have uT:=Xy.trans xJ;have Zs:w.heap.size≠p:=by omega
   have Md:=cQ1.but xJ Zs;have FM:=z7 VY;clear VY cQ1
   cases hm:Ly (t.headD [])
   .have kh:=FM.out;rw[hm] at kh;have K8:=z7 kh;have HM:=z7 hm;clear kh hm;have cQ:=Md;obtain⟨Q,hQ⟩:∃ Q,Q=w.heap.size:=⟨_,rfl⟩;rw[<-hQ] at cQ Md Zs |-
    have HQ:=z7 hQ;clear hQ;have PF:=z7 (Qa p (t) w2 K8.out (fun x h=>HX.out x (by simp[h])) (HT.out.but uT) (by omega));go_wp2_with fail;refine PF.out.mono ?_;rintro e w7 ⟨hq,jP⟩;have js:=uT.trans jP;have fF:r=match vp (t) with
      | none=>none
      | some ((i,nt),v)=>some ((fun x=>i (F x) !=nt),v):=by
     rw[<-HR.out];rw[gj,HO.out];dsimp only;unfold Yx;rw[HM.out];rfl
    cases hn:vp (t) with
    | none =>
     rw[hn] at hq fF;obtain rfl:=hq;have jh:=z7 fF;clear fF hn;go_wp2;refine⟨rfl,?_,js⟩;rw[jh.out]
    | some q =>
     obtain⟨⟨Tm,nt⟩,t'⟩:=q;rw[hn] at hq fF;obtain⟨⟨v,rfl,mq⟩,Hj⟩:=hq;have jh:=Lib.hid fF;have HTM:=Lib.hid mq;have HP7:=Lib.hid Hj;have mg:=cQ.but jP Zs;have hQ7:=mg.lt;have HF7:=Lib.hid (WH.keep (lo':=w.heap.size) (hi':=w7.heap.size) (HFV.out w.heap.size w2.heap.size w2) (jP.keep xB (Nat.le_refl _)) (Nat.le_refl _) jP.size);obtain⟨kt,Ep,rfl,_⟩:=mq;clear fF hn Hj;go_wp2;go_ret;have ZH:=js.alloc (.cells #[.func (.func kt) #[] Ep] 214);have hbB:=ZH.alloc (.cells #[.bool nt] 4);have O4:(w7.alloc (.cells #[.func (.func kt) #[] Ep] 214)).heap.size=w7.heap.size+1:=by simp
     have hsB:((w7.alloc (.cells #[.func (.func kt) #[] Ep] 214)).alloc (.cells #[.bool nt] 4)).heap.size=w7.heap.size+2:=by simp
     have Dk:Below w7.heap.size w7 ((w7.alloc (.cells #[.func (.func kt) #[] Ep] 214)).alloc (.cells #[.bool nt] 4)):=((zy _ _).alloc (z8 _) _).alloc (by simp) _;refine⟨?_,hbB⟩;rw[jh.out];have hQw:=HQ.out;have hw7:=js.size;refine⟨⟨_,rfl,185,_,rfl,fun args w=>enters_of func185 (by kernel_rfl) rfl args w,fun W hW nv x hx=>?_⟩,HP7.out.below Dk⟩;rw[hsB] at hW;have Gv:xr w.heap.size w7.heap.size w7 W:=hW.via (vK Dk (z8 _) (z8 _)) (z8 _) (by omega);refine QA nv x _ _ _ _ _ nt Tm (F) w.heap.size w7.heap.size W hx ((hW.cell ?_ ?_).trans ?_) ((Gv.cell ?_ hQ7).trans mg.c) ((hW.cell ?_ ?_).trans ?_) (HTM.out.keep (Gv.via (xW (z8 _)) (by have:=uT.size;omega) (z8 _)) (by have:=uT.size;omega) (z8 _)) (HF7.out.keep Gv (z8 _) (z8 _)) Gv.1;all_goals first|(show w.heap.size<=w7.heap.size;omega)|(show w7.heap.size<w7.heap.size+2;omega)|(show w.heap.size<=w7.heap.size+1;omega)|(show w7.heap.size+1<w7.heap.size+2;omega)|(show w.heap.size<=Q;omega)|(go_simp;done)
   .have kh:=FM.out;rw[hm] at kh;have K8:=z7 kh;have HM:=z7 hm;clear kh hm;have cQ:=Md;obtain⟨Q,hQ⟩:∃ Q,Q=w.heap.size:=⟨_,rfl⟩;rw[<-hQ] at cQ Md Zs |-
    have HQ:=z7 hQ;clear hQ;have Kp:=z7 (fun W (hb:xR p w W) (hp:gL W p t.tail)=>dz p t.tail W hp (fun x h=>HX.out x (zY _ (zu h))) (HT.out.but hb));have jO:w2.drew.cell? ⟨Q,0,none⟩=some (.func (.func kf) #[] bQ):=Md.c;have dH:=uT.drew;have ib:=z7 (show gL w2.drew p t.tail from K8.out.below (zy _ w2).drew);have WW:xS w2.drew Q (.func (.func kf) #[] bQ):=⟨Md.c,Md.z,Md.n⟩;clear Xy;go_wp2_with fail;refine rt (fun W':World=>W'.cell? ⟨Q,0,none⟩=some (.func (.func kf) #[] bQ)) [0,2] 5 jO ?_;(iterate 2 ((first|refine ty ?_|refine tn ?_);try simp only[pl]))
    refine xq ?_;generalize w2.drew=wD at dH ib WW |-
    apply zy7 (P:=fun (W:World) (k4 k5 mv:Nat)=>(∃ t3,kS (t).tail=some (mv,t3)/\gL W p t3)/\xR p w W/\xS W Q (.func (.func kf) #[] bQ)/\xS W k4 (.int .i64 0)/\xS W k5 .nilFunc/\w.heap.size<=k4/\w.heap.size<=k5/\k4≠k5/\k4≠p/\k5≠p/\k4≠Q/\k5≠Q)
    case h2 =>
     intro L;refine wpAnyH_ready (rs:=[1,3,4]) (by kernel_rfl) (by simp) (zv rfl (fun K hK=>?_) (zv rfl (fun K hK=>?_) (zv rfl (fun K hK=>?_) zj)))
     .skip
      go_simp;refine(Kp.out wD dH ib.out).mono ?_;rintro e qP ⟨hq,Yw⟩;obtain⟨q0,qx⟩:=xX (kS (t).tail);rw[qx] at hq
      cases q0 with
      | none =>
       obtain rfl:=hq;refine⟨rfl,?_,dH.trans Yw⟩;rw[<-HR.out,gj,HO.out];dsimp only;unfold Yx;rw[HM.out,if_pos rfl,qx]
      | some q0 =>
       obtain⟨mv,t3⟩:=q0;have HN:=z7 qx;obtain⟨rfl,Qe⟩:=hq;have V4:=z7 Qe;have vo:=dH.trans Yw;have gV:=WW.but Yw Zs;clear qx;clear Qe;refine hK.out _ _ gV.c (fun _=>?_);clear hK K;refine wpAnyH_ready (rs:=[3,4]) (by kernel_rfl) (by simp) (zv rfl (fun K hK=>?_) (zv rfl (fun K hK=>?_) zj))
       .skip
        go_simp;have FA:∃ N,N=qP.alloc (.cells #[(.int .i64 0)] 3)/\xR p qP N/\xS N qP.heap.size (.int .i64 0):=⟨_,rfl,(xR.refl _ _).alloc _,xS.made _ _ _ (by decide)⟩;obtain⟨um,hW,qY,Zq⟩:=FA;have Y8:∀ o,o=zx (some ⟨qP.heap.size,0,none⟩)->o=o:=fun _ _=>rfl
        rw[<-hW];have Zk:=z7 (V4.out.below (show Below qP.heap.size qP um by rw[hW];exact(zy _ _).alloc (z8 _) _));have vL:=vo.trans qY;have qa:=gV.but qY Zs;have uQ:w.heap.size<=qP.heap.size:=vo.size;have kD:qP.heap.size≠Q:=fun e=>by have:=gV.lt;omega
        clear hW Y8;obtain⟨k4,dV⟩:∃ k,k=qP.heap.size:=⟨_,rfl⟩;rw[<-dV] at Zq uQ kD |-
        have j9:k4≠p:=by omega
        have sG:=z7 dV;clear dV;refine hK.out _ _ qa.c (fun _=>?_);clear hK K;refine jx 4 (fun K hK=>?_);go_simp;have FA:∃ N,N=um.alloc (.cells #[.nilFunc] 309)/\xR p um N/\xS N um.heap.size .nilFunc:=⟨_,rfl,(xR.refl _ _).alloc _,xS.made _ _ _ (by decide)⟩;obtain⟨V5,hW,uC,gU⟩:=FA;have Y8:∀ o,o=zx (some ⟨um.heap.size,0,none⟩)->o=o:=fun _ _=>rfl
        rw[<-hW];have dv:=z7 (Zk.out.below (show Below um.heap.size um V5 by rw[hW];exact(zy _ _).alloc (z8 _) _));have uE:=vL.trans uC;have ku:=qa.but uC Zs;have uK:w.heap.size<=um.heap.size:=vL.size;have kC:um.heap.size≠Q:=fun e=>by have:=qa.lt;omega
        clear hW Y8;have jz:=Zq.but uC j9;have Zj:um.heap.size≠k4:=fun e=>by have:=Zq.lt;omega
        obtain⟨k5,Z0⟩:∃ k,k=um.heap.size:=⟨_,rfl⟩;rw[<-Z0] at gU uK kC |-
        rw[<-Z0] at Zj;have jy:k5≠p:=by omega
        have sF:=z7 Z0;clear Z0;refine hK.out _ _ ku.c (fun _=>?_);clear hK K;refine gz (m:=#[true,true,true,true,true,false,false]) (by kernel_rfl) ?_;exact L V5 k4 k5 mv ⟨⟨t3,HN.out,dv.out⟩,uE,ku,jz,gU,uQ,uK,by omega,j9,jy,kD,kC⟩
       .skip
        go_simp;have FA:∃ N,N=qP.alloc (.cells #[.nilFunc] 309)/\xR p qP N/\xS N qP.heap.size .nilFunc:=⟨_,rfl,(xR.refl _ _).alloc _,xS.made _ _ _ (by decide)⟩;obtain⟨um,hW,qY,Zg⟩:=FA;have Y8:∀ o,o=zx (some ⟨qP.heap.size,0,none⟩)->o=o:=fun _ _=>rfl
        rw[<-hW];have Zk:=z7 (V4.out.below (show Below qP.heap.size qP um by rw[hW];exact(zy _ _).alloc (z8 _) _));have vL:=vo.trans qY;have qa:=gV.but qY Zs;have uK:w.heap.size<=qP.heap.size:=vo.size;have kC:qP.heap.size≠Q:=fun e=>by have:=gV.lt;omega
        clear hW Y8;obtain⟨k5,Z0⟩:∃ k,k=qP.heap.size:=⟨_,rfl⟩;rw[<-Z0] at Zg uK kC |-
        have jy:k5≠p:=by omega
        have sF:=z7 Z0;clear Z0;refine hK.out _ _ qa.c (fun _=>?_);clear hK K;refine jx 3 (fun K hK=>?_);go_simp;have FA:∃ N,N=um.alloc (.cells #[(.int .i64 0)] 3)/\xR p um N/\xS N um.heap.size (.int .i64 0):=⟨_,rfl,(xR.refl _ _).alloc _,xS.made _ _ _ (by decide)⟩;obtain⟨V5,hW,uC,jz⟩:=FA;have Y8:∀ o,o=zx (some ⟨um.heap.size,0,none⟩)->o=o:=fun _ _=>rfl
        rw[<-hW];have dv:=z7 (Zk.out.below (show Below um.heap.size um V5 by rw[hW];exact(zy _ _).alloc (z8 _) _));have uE:=vL.trans uC;have ku:=qa.but uC Zs;have uQ:w.heap.size<=um.heap.size:=vL.size;have kD:um.heap.size≠Q:=fun e=>by have:=qa.lt;omega
        clear hW Y8;have gU:=Zg.but uC jy;have Zj:um.heap.size≠k5:=fun e=>by have:=Zg.lt;omega
        obtain⟨k4,dV⟩:∃ k,k=um.heap.size:=⟨_,rfl⟩;rw[<-dV] at jz uQ kD |-
        rw[<-dV] at Zj;have j9:k4≠p:=by omega
        have sG:=z7 dV;clear dV;refine hK.out _ _ ku.c (fun _=>?_);clear hK K;refine gz (m:=#[true,true,true,true,true,false,false]) (by kernel_rfl) ?_;exact L V5 k4 k5 mv ⟨⟨t3,HN.out,dv.out⟩,uE,ku,jz,gU,uQ,uK,by omega,j9,jy,kD,kC⟩
     .skip
      go_simp;have FA:∃ N,N=wD.alloc (.cells #[(.int .i64 0)] 3)/\xR p wD N/\xS N wD.heap.size (.int .i64 0):=⟨_,rfl,(xR.refl _ _).alloc _,xS.made _ _ _ (by decide)⟩;obtain⟨qP,hW,Yw,Er⟩:=FA;have Y8:∀ o,o=zx (some ⟨wD.heap.size,0,none⟩)->o=o:=fun _ _=>rfl
      rw[<-hW];have V4:=z7 (ib.out.below (show Below wD.heap.size wD qP by rw[hW];exact(zy _ _).alloc (z8 _) _));have vo:=dH.trans Yw;have gV:=WW.but Yw Zs;have uQ:w.heap.size<=wD.heap.size:=dH.size;have kD:wD.heap.size≠Q:=fun e=>by have:=WW.lt;omega
      clear hW Y8;obtain⟨k4,dV⟩:∃ k,k=wD.heap.size:=⟨_,rfl⟩;rw[<-dV] at Er uQ kD |-
      have j9:k4≠p:=by omega
      have sG:=z7 dV;clear dV;refine hK.out _ _ gV.c (fun _=>?_);clear hK K;refine wpAnyH_ready (rs:=[1,4]) (by kernel_rfl) (by simp) (zv rfl (fun K hK=>?_) (zv rfl (fun K hK=>?_) zj))
      .skip
       go_simp;refine(Kp.out qP vo V4.out).mono ?_;rintro e um ⟨hq,qY⟩;obtain⟨q0,qx⟩:=xX (kS (t).tail);rw[qx] at hq
       cases q0 with
       | none =>
        obtain rfl:=hq;refine⟨rfl,?_,vo.trans qY⟩;rw[<-HR.out,gj,HO.out];dsimp only;unfold Yx;rw[HM.out,if_pos rfl,qx]
       | some q0 =>
        obtain⟨mv,t3⟩:=q0;have HN:=z7 qx;obtain⟨rfl,Qe⟩:=hq;have Zk:=z7 Qe;have vL:=vo.trans qY;have qa:=gV.but qY Zs;clear qx;have Zq:=Er.but qY j9;clear Qe;refine hK.out _ _ qa.c (fun _=>?_);clear hK K;refine jx 4 (fun K hK=>?_);go_simp;have FA:∃ N,N=um.alloc (.cells #[.nilFunc] 309)/\xR p um N/\xS N um.heap.size .nilFunc:=⟨_,rfl,(xR.refl _ _).alloc _,xS.made _ _ _ (by decide)⟩;obtain⟨V5,hW,uC,gU⟩:=FA;have Y8:∀ o,o=zx (some ⟨um.heap.size,0,none⟩)->o=o:=fun _ _=>rfl
        rw[<-hW];have dv:=z7 (Zk.out.below (show Below um.heap.size um V5 by rw[hW];exact(zy _ _).alloc (z8 _) _));have uE:=vL.trans uC;have ku:=qa.but uC Zs;have uK:w.heap.size<=um.heap.size:=vL.size;have kC:um.heap.size≠Q:=fun e=>by have:=qa.lt;omega
        clear hW Y8;have jz:=Zq.but uC j9;have Zj:um.heap.size≠k4:=fun e=>by have:=Zq.lt;omega
        obtain⟨k5,Z0⟩:∃ k,k=um.heap.size:=⟨_,rfl⟩;rw[<-Z0] at gU uK kC |-
        rw[<-Z0] at Zj;have jy:k5≠p:=by omega
        have sF:=z7 Z0;clear Z0;refine hK.out _ _ ku.c (fun _=>?_);clear hK K;refine gz (m:=#[true,true,true,true,true,false,false]) (by kernel_rfl) ?_;exact L V5 k4 k5 mv ⟨⟨t3,HN.out,dv.out⟩,uE,ku,jz,gU,uQ,uK,by omega,j9,jy,kD,kC⟩
      .skip
       go_simp;have FA:∃ N,N=qP.alloc (.cells #[.nilFunc] 309)/\xR p qP N/\xS N qP.heap.size .nilFunc:=⟨_,rfl,(xR.refl _ _).alloc _,xS.made _ _ _ (by decide)⟩;obtain⟨um,hW,qY,Zg⟩:=FA;have Y8:∀ o,o=zx (some ⟨qP.heap.size,0,none⟩)->o=o:=fun _ _=>rfl
       rw[<-hW];have Zk:=z7 (V4.out.below (show Below qP.heap.size qP um by rw[hW];exact(zy _ _).alloc (z8 _) _));have vL:=vo.trans qY;have qa:=gV.but qY Zs;have uK:w.heap.size<=qP.heap.size:=vo.size;have kC:qP.heap.size≠Q:=fun e=>by have:=gV.lt;omega
       clear hW Y8;have Zq:=Er.but qY j9;have Zj:qP.heap.size≠k4:=fun e=>by have:=Er.lt;omega
       obtain⟨k5,Z0⟩:∃ k,k=qP.heap.size:=⟨_,rfl⟩;rw[<-Z0] at Zg uK kC |-
       rw[<-Z0] at Zj;have jy:k5≠p:=by omega
       have sF:=z7 Z0;clear Z0;refine hK.out _ _ qa.c (fun _=>?_);clear hK K;refine jx 1 (fun K hK=>?_);go_simp;refine(Kp.out um vL Zk.out).mono ?_;rintro e V5 ⟨hq,uC⟩;obtain⟨q0,qx⟩:=xX (kS (t).tail);rw[qx] at hq
       cases q0 with
       | none =>
        obtain rfl:=hq;refine⟨rfl,?_,vL.trans uC⟩;rw[<-HR.out,gj,HO.out];dsimp only;unfold Yx;rw[HM.out,if_pos rfl,qx]
       | some q0 =>
        obtain⟨mv,t3⟩:=q0;have HN:=z7 qx;obtain⟨rfl,Qe⟩:=hq;have dv:=z7 Qe;have uE:=vL.trans uC;have ku:=qa.but uC Zs;clear qx;have jz:=Zq.but uC j9;have gU:=Zg.but uC jy;clear Qe;refine hK.out _ _ ku.c (fun _=>?_);clear hK K;refine gz (m:=#[true,true,true,true,true,false,false]) (by kernel_rfl) ?_;exact L V5 k4 k5 mv ⟨⟨t3,HN.out,dv.out⟩,uE,ku,jz,gU,uQ,uK,by omega,j9,jy,kD,kC⟩
     .skip
      go_simp;have FA:∃ N,N=wD.alloc (.cells #[.nilFunc] 309)/\xR p wD N/\xS N wD.heap.size .nilFunc:=⟨_,rfl,(xR.refl _ _).alloc _,xS.made _ _ _ (by decide)⟩;obtain⟨qP,hW,Yw,Es⟩:=FA;have Y8:∀ o,o=zx (some ⟨wD.heap.size,0,none⟩)->o=o:=fun _ _=>rfl
      rw[<-hW];have V4:=z7 (ib.out.below (show Below wD.heap.size wD qP by rw[hW];exact(zy _ _).alloc (z8 _) _));have vo:=dH.trans Yw;have gV:=WW.but Yw Zs;have uK:w.heap.size<=wD.heap.size:=dH.size;have kC:wD.heap.size≠Q:=fun e=>by have:=WW.lt;omega
      clear hW Y8;obtain⟨k5,Z0⟩:∃ k,k=wD.heap.size:=⟨_,rfl⟩;rw[<-Z0] at Es uK kC |-
      have jy:k5≠p:=by omega
      have sF:=z7 Z0;clear Z0;refine hK.out _ _ gV.c (fun _=>?_);clear hK K;refine wpAnyH_ready (rs:=[1,3]) (by kernel_rfl) (by simp) (zv rfl (fun K hK=>?_) (zv rfl (fun K hK=>?_) zj))
      .skip
       go_simp;refine(Kp.out qP vo V4.out).mono ?_;rintro e um ⟨hq,qY⟩;obtain⟨q0,qx⟩:=xX (kS (t).tail);rw[qx] at hq
       cases q0 with
       | none =>
        obtain rfl:=hq;refine⟨rfl,?_,vo.trans qY⟩;rw[<-HR.out,gj,HO.out];dsimp only;unfold Yx;rw[HM.out,if_pos rfl,qx]
       | some q0 =>
        obtain⟨mv,t3⟩:=q0;have HN:=z7 qx;obtain⟨rfl,Qe⟩:=hq;have Zk:=z7 Qe;have vL:=vo.trans qY;have qa:=gV.but qY Zs;clear qx;have Zg:=Es.but qY jy;clear Qe;refine hK.out _ _ qa.c (fun _=>?_);clear hK K;refine jx 3 (fun K hK=>?_);go_simp;have FA:∃ N,N=um.alloc (.cells #[(.int .i64 0)] 3)/\xR p um N/\xS N um.heap.size (.int .i64 0):=⟨_,rfl,(xR.refl _ _).alloc _,xS.made _ _ _ (by decide)⟩;obtain⟨V5,hW,uC,jz⟩:=FA;have Y8:∀ o,o=zx (some ⟨um.heap.size,0,none⟩)->o=o:=fun _ _=>rfl
        rw[<-hW];have dv:=z7 (Zk.out.below (show Below um.heap.size um V5 by rw[hW];exact(zy _ _).alloc (z8 _) _));have uE:=vL.trans uC;have ku:=qa.but uC Zs;have uQ:w.heap.size<=um.heap.size:=vL.size;have kD:um.heap.size≠Q:=fun e=>by have:=qa.lt;omega
        clear hW Y8;have gU:=Zg.but uC jy;have Zj:um.heap.size≠k5:=fun e=>by have:=Zg.lt;omega
        obtain⟨k4,dV⟩:∃ k,k=um.heap.size:=⟨_,rfl⟩;rw[<-dV] at jz uQ kD |-
        rw[<-dV] at Zj;have j9:k4≠p:=by omega
        have sG:=z7 dV;clear dV;refine hK.out _ _ ku.c (fun _=>?_);clear hK K;refine gz (m:=#[true,true,true,true,true,false,false]) (by kernel_rfl) ?_;exact L V5 k4 k5 mv ⟨⟨t3,HN.out,dv.out⟩,uE,ku,jz,gU,uQ,uK,by omega,j9,jy,kD,kC⟩
      .skip
       go_simp;have FA:∃ N,N=qP.alloc (.cells #[(.int .i64 0)] 3)/\xR p qP N/\xS N qP.heap.size (.int .i64 0):=⟨_,rfl,(xR.refl _ _).alloc _,xS.made _ _ _ (by decide)⟩;obtain⟨um,hW,qY,Zq⟩:=FA;have Y8:∀ o,o=zx (some ⟨qP.heap.size,0,none⟩)->o=o:=fun _ _=>rfl
       rw[<-hW];have Zk:=z7 (V4.out.below (show Below qP.heap.size qP um by rw[hW];exact(zy _ _).alloc (z8 _) _));have vL:=vo.trans qY;have qa:=gV.but qY Zs;have uQ:w.heap.size<=qP.heap.size:=vo.size;have kD:qP.heap.size≠Q:=fun e=>by have:=gV.lt;omega
       clear hW Y8;have Zg:=Es.but qY jy;have Zj:qP.heap.size≠k5:=fun e=>by have:=Es.lt;omega
       obtain⟨k4,dV⟩:∃ k,k=qP.heap.size:=⟨_,rfl⟩;rw[<-dV] at Zq uQ kD |-
       rw[<-dV] at Zj;have j9:k4≠p:=by omega
       have sG:=z7 dV;clear dV;refine hK.out _ _ qa.c (fun _=>?_);clear hK K;refine jx 1 (fun K hK=>?_);go_simp;refine(Kp.out um vL Zk.out).mono ?_;rintro e V5 ⟨hq,uC⟩;obtain⟨q0,qx⟩:=xX (kS (t).tail);rw[qx] at hq
       cases q0 with
       | none =>
        obtain rfl:=hq;refine⟨rfl,?_,vL.trans uC⟩;rw[<-HR.out,gj,HO.out];dsimp only;unfold Yx;rw[HM.out,if_pos rfl,qx]
       | some q0 =>
        obtain⟨mv,t3⟩:=q0;have HN:=z7 qx;obtain⟨rfl,Qe⟩:=hq;have dv:=z7 Qe;have uE:=vL.trans uC;have ku:=qa.but uC Zs;clear qx;have jz:=Zq.but uC j9;have gU:=Zg.but uC jy;clear Qe;refine hK.out _ _ ku.c (fun _=>?_);clear hK K;refine gz (m:=#[true,true,true,true,true,false,false]) (by kernel_rfl) ?_;exact L V5 k4 k5 mv ⟨⟨t3,HN.out,dv.out⟩,uE,ku,jz,gU,uQ,uK,by omega,j9,jy,kD,kC⟩
    case h1 =>
     rintro V5 k4 k5 mv ⟨⟨t3,qx,He⟩,uE,ku,jz,gU,uQ,uK,Mb,j9,jy,kD,kC⟩;have HN:=z7 qx;have BU:=(jK qx).1;have KS:=YX qx;have dv:=z7 He;clear qx He;refine jx 5 (fun K hK=>?_);have y4:=jz.c;have y4z:=jz.z;go_simp;refine hK.out _ _ (ku.other (j:=k4) kD.symm _).c (fun _=>?_);clear hK K y4 y4z;have c4S:=jz.same (.int .i64 mv);have mf:=gU.other (j:=k4) Mb.symm (.int .i64 mv);have cQS:=ku.other (j:=k4) kD.symm (.int .i64 mv);have MZ:=uE.put uQ (.int .i64 mv);have oZ:=z7 (dv.out.put j9 jz.n (.int .i64 mv));generalize V5.setCell ⟨k4,0,none⟩ (.int .i64 mv)=wS at c4S mf cQS MZ oZ |-
     refine jx 6 (fun K hK=>?_);have y5:=mf.c;have y5z:=mf.z;go_simp;refine hK.out _ _ (cQS.other (j:=k5) kC.symm _).c (fun _=>?_);clear hK K y5 y5z;have c4T:=c4S.other (j:=k5) Mb (.func (.func kf) #[] bQ);have c5T:=mf.same (.func (.func kf) #[] bQ);have mZ:=cQS.other (j:=k5) kC.symm (.func (.func kf) #[] bQ);have Dj:=MZ.put uK (.func (.func kf) #[] bQ);have BB:=z7 (oZ.out.put jy mf.n (.func (.func kf) #[] bQ));generalize wS.setCell ⟨k5,0,none⟩ (.func (.func kf) #[] bQ)=wT at c4T c5T mZ Dj BB |-
     refine b7 ?_ _;have y4:=c4T.c;have yQ:=mZ.c;have yQz:=mZ.z;by_cases By:mv=0
     .have vg:r=none:=by rw[<-HR.out,gj,HO.out];dsimp only;unfold Yx;rw[HM.out,if_pos rfl,HN.out];simp[By]
      have gB:=z7 vg;subst By;clear vg;go_wp2;refine⟨rfl,?_,Dj⟩;rw[gB.out]
     .have hmz:((mv:Int)==0)=false:=by simp;omega
      have hre:gj (c::t)=match vp t3 with
        | none=>none
        | some ((i,nt),v)=>some ((fun x=>i (B8 F mv x) !=nt),v):=by
       rw[gj,HO.out];dsimp only;unfold Yx;rw[HM.out,if_pos rfl,HN.out];simp only[if_neg By];rfl
      have oA:=z7 hre;have Vl:0<mv:=by omega
      clear hre By;have cU:=mZ.same (.func (.func 182) #[] #[.pointer (some ⟨k5,0,none⟩),.pointer (some ⟨k4,0,none⟩)]);have V6:=Dj.put (show w.heap.size<=Q by have:=HQ.out;omega) (.func (.func 182) #[] #[.pointer (some ⟨k5,0,none⟩),.pointer (some ⟨k4,0,none⟩)]);have HPU:=z7 (BB.out.put Zs mZ.n (.func (.func 182) #[] #[.pointer (some ⟨k5,0,none⟩),.pointer (some ⟨k4,0,none⟩)]));have c4U:=c4T.other (j:=Q) kD (.func (.func 182) #[] #[.pointer (some ⟨k5,0,none⟩),.pointer (some ⟨k4,0,none⟩)]);have c5U:=c5T.other (j:=Q) kC (.func (.func 182) #[] #[.pointer (some ⟨k5,0,none⟩),.pointer (some ⟨k4,0,none⟩)]);go_wp2_with fail;generalize wT.setCell ⟨Q,0,none⟩ (.func (.func 182) #[] #[.pointer (some ⟨k5,0,none⟩),.pointer (some ⟨k4,0,none⟩)])=wU at cU V6 HPU c4U c5U |-
      have hFU:WH w.heap.size wU.heap.size wU (.func (.func 182) #[] #[.pointer (some ⟨k5,0,none⟩),.pointer (some ⟨k4,0,none⟩)]) (B8 F mv) :=
       ⟨182,_,rfl,fun args w=>enters_of func182 (by kernel_rfl) rfl args w,fun W hW nv x hx =>
        Mz nv x k5 k4 _ mv F 0 0 W hx BU Vl ((hW.cell (p:=⟨k5,0,none⟩) uK c5U.lt).trans c5U.c) ((hW.cell (p:=⟨k4,0,none⟩) uQ c4U.lt).trans c4U.c) (HFV.out 0 0 W) (Nat.zero_le _)⟩
      have HFU:=z7 hFU;have cQ:=cU;clear hFU y4 yQ yQz;have PF:=z7 (Qa p (t3) wU HPU.out (fun x h=>HX.out x (zY _ (zu (KS.mem x h)))) (HT.out.but V6) (by have Qv:=KS.len;have Qw:(t).tail.length<=(t).length:=(by simp);omega));go_wp2_with fail;refine PF.out.mono ?_;rintro e w7 ⟨hq,jP⟩;have js:=V6.trans jP;have fF:r=match vp (t3) with
        | none=>none
        | some ((i,nt),v)=>some ((fun x=>i ((B8 F mv) x) !=nt),v):=by
       rw[<-HR.out];exact oA.out
      cases hn:vp (t3) with
      | none =>
       rw[hn] at hq fF;obtain rfl:=hq;have jh:=z7 fF;clear fF hn;go_wp2;refine⟨rfl,?_,js⟩;rw[jh.out]
      | some q =>
       obtain⟨⟨Tm,nt⟩,t'⟩:=q;rw[hn] at hq fF;obtain⟨⟨v,rfl,mq⟩,Hj⟩:=hq;have jh:=Lib.hid fF;have HTM:=Lib.hid mq;have HP7:=Lib.hid Hj;have mg:=cQ.but jP Zs;have hQ7:=mg.lt;have HF7:=Lib.hid (WH.keep (lo':=w.heap.size) (hi':=w7.heap.size) HFU.out (jP.keep xB (Nat.le_refl _)) (Nat.le_refl _) jP.size);obtain⟨kt,Ep,rfl,_⟩:=mq;clear fF hn Hj;go_wp2;go_ret;have ZH:=js.alloc (.cells #[.func (.func kt) #[] Ep] 214);have hbB:=ZH.alloc (.cells #[.bool nt] 4);have O4:(w7.alloc (.cells #[.func (.func kt) #[] Ep] 214)).heap.size=w7.heap.size+1:=by simp
       have hsB:((w7.alloc (.cells #[.func (.func kt) #[] Ep] 214)).alloc (.cells #[.bool nt] 4)).heap.size=w7.heap.size+2:=by simp
       have Dk:Below w7.heap.size w7 ((w7.alloc (.cells #[.func (.func kt) #[] Ep] 214)).alloc (.cells #[.bool nt] 4)):=((zy _ _).alloc (z8 _) _).alloc (by simp) _;refine⟨?_,hbB⟩;rw[jh.out];have hQw:=HQ.out;have hw7:=js.size;refine⟨⟨_,rfl,185,_,rfl,fun args w=>enters_of func185 (by kernel_rfl) rfl args w,fun W hW nv x hx=>?_⟩,HP7.out.below Dk⟩;rw[hsB] at hW;have Gv:xr w.heap.size w7.heap.size w7 W:=hW.via (vK Dk (z8 _) (z8 _)) (z8 _) (by omega);refine QA nv x _ _ _ _ _ nt Tm ((B8 F mv)) w.heap.size w7.heap.size W hx ((hW.cell ?_ ?_).trans ?_) ((Gv.cell ?_ hQ7).trans mg.c) ((hW.cell ?_ ?_).trans ?_) (HTM.out.keep (Gv.via (xW (z8 _)) (by have:=V6.size;omega) (z8 _)) (by have:=V6.size;omega) (z8 _)) (HF7.out.keep Gv (z8 _) (z8 _)) Gv.1;all_goals first|(show w.heap.size<=w7.heap.size;omega)|(show w7.heap.size<w7.heap.size+2;omega)|(show w.heap.size<=w7.heap.size+1;omega)|(show w7.heap.size+1<w7.heap.size+2;omega)|(show w.heap.size<=Q;omega)|(go_simp;done)
theorem Et(p:Nat)(ws:List Wd)(w:World)(hp:gL w p ws)(hx:∀ x∈ws,Em x)(hT:RT p w)(hl:ws.length<=1000) :
  Calls prog 145 #[.pointer (some ⟨p,0,none⟩)] w (Yh p (gj ws) w):=by
 match ws,hp,hx,hl with
 | [],hp,_,_=>exact Eo p w hp
 | c::t,hp,hx,hl=>exact Bg p c t w hp hx hT (by simpa using hl)
def zf5(p:Nat)(w:World)(v:Value)(P:Parser):Prop :=
 ∃ k first cap,v = .func (.func k) first cap/\(∀ args w,(callFunc k args).run prog w = .ok (.enter k args) w) /\
  ∀ W ws,xR p w W->gL W p ws->(∀ x∈ws,Em x)->ws.length<=1000->Calls prog k (first++cap) W (Yh p (P ws) W)
def zf6(v:Value)(wo:List qT->qT):Prop :=
 ∃ k,v = .func (.func k) #[] #[]/\(∀ args w,(callFunc k args).run prog w = .ok (.enter k args) w) /\
  ∀ (Ts:List qT) (a:Option Addr) (c lo:Nat) (W:World),Ts.length<=1000000->lo<=W.heap.size->Zv lo W.heap.size W a Ts ->
   Calls prog k #[.slice a Ts.length c] W fun e w'=>(∃ v,e = .returned v/\jd lo w'.heap.size w' v (wo Ts))/\Below W.heap.size W w'
def zf7(p:Nat)(word:Wd)(P:Parser)(r:Option (List qT×List Wd))(n0:Nat)(w:World)(sv:Value)(n:Nat)(wr:World):Prop :=
 ∃ (Ts:List qT) (us:List Wd),Zr w.heap.size wr sv Ts/\gL wr p us/\xR p w wr/\us.length+Ts.length<=n0+1/\(∀ x∈us,Em x)/\us.length<=n/\us.length<=n0 /\
  (if Yy word us then fN word P n Ts us.tail else some (Ts,us))=r
theorem sD{lo l0 h0:Nat}{w:World}{u:Value}{T:qT}(hT:jd l0 h0 w u T)(Hz:lo<=l0)(hh:h0<=w.heap.size)(hl:lo<=w.heap.size) :
  Zr lo (w.alloc (.cells #[u] 214)) (.slice (some ⟨w.heap.size,0,none⟩) 1 1) [T]:=by
 have hb:Below w.heap.size w (w.alloc (.cells #[u] 214)):=(zy _ _).alloc (z8 _) _;refine⟨[u],World.ownsRow_lit w #[u] 1 hl (by decide) rfl,fun j hj=>?_⟩;have:j=0:=by simp at hj;omega
 subst this;exact⟨u,l0,h0,rfl,Hz,zk hh hb.size,fun g hg=>by cases hg;exact .inr hh,hT.keep (vK hb hh hh) (z8 _) (z8 _)⟩
theorem S7(p:Nat)(word:Wd)(wo:List qT->qT)(P:Parser)(tv ov:Value)(ws:List Wd)(w:World)(hp:gL w p ws)(hx:∀ x∈ws,Em x)(hl:ws.length<=1000)(ht:zf6 tv wo)(ho:zf5 p w ov P)(hs:∀ us T t,P us=some (T,t)->Sub t us) :
  Calls prog 141 #[.pointer (some ⟨p,0,none⟩),xg word,tv,ov] w (Yh p (Ev word wo P ws) w):=by
 obtain⟨r,hr⟩:=xX (fN word P (ws.length+1) [] ws);have hpr:Ev word wo P ws=r.map fun q=>(wo q.1,q.2):=by unfold Ev;rw[hr]
 rw[hpr];have HR:=z7 hr;have HX:=z7 hx;have HP:=z7 hp;have HS:=z7 hs;have xB:=hp.lt;obtain⟨kt,rfl,het,yz6⟩:=ht;obtain⟨ko,first,cap,rfl,heo,mY⟩:=ho;have yik:=z7 yz6;have Fx:=z7 mY;clear hr hpr hx hp hs yz6 mY;go_enter func141,ntmps141;go_wp2_with fail;refine(Fx.out w ws (xR.refl _ _) HP.out HX.out hl).mono ?_;rintro e w1 ⟨hq,xG⟩
 cases hn:P ws with
 | none =>
  rw[hn] at hq;obtain rfl:=hq;have vg:r=none:=by rw[<-HR.out,fN,hn]
  have gB:=z7 vg;clear vg hn;go_wp2;refine⟨rfl,?_,xG⟩;rw[gB.out];rfl
 | some q =>
  obtain⟨T1,t1⟩:=q;rw[hn] at hq;obtain⟨⟨v,rfl,hT1⟩,Un⟩:=hq;have mX:=HS.out _ _ _ hn;have JS:=sD hT1 (z8 w.heap.size) (z8 _) xG.size;have HRL:=z7 JS;obtain⟨kv,cpv,rfl,_⟩:=hT1;have yij:xR p w (w1.alloc (.cells #[.func (.func kv) #[] cpv] 214)):=xG.below ((zy _ _).alloc (z8 _) _);have yz7:gL (w1.alloc (.cells #[.func (.func kv) #[] cpv] 214)) p t1:=Un.below ((zy _ _).alloc (z8 _) _);have JZ:=z7 yz7;have fF:(if Yy word t1 then fN word P ws.length [T1] t1.tail else some ([T1],t1))=r:=by rw[<-HR.out,fN,hn];rfl
  have jh:=z7 fF;have mV:=z7 (fun x hx=>HX.out x (mX.mem x hx));have yz8:=mX.len;clear hn Un yz7 JS fF mX;go_wp2_with fail;go_loopg [9] ws.length (fun n sv wr=>zf7 p word P r ws.length w sv n wr)
  case atStart=>exact⟨[T1],t1,HRL.out,JZ.out,yij,by simp;omega,mV.out,yz8,yz8,jh.out⟩
  case round =>
   obtain⟨Ts,us,xi,Hb,fY,hlen,Rq,hun,hu0,jc⟩:=hrel;have qb:=z7 xi;have HPA:=z7 Hb;have HXS:=z7 Rq;have dp:=z7 jc;obtain⟨a,c,rfl⟩:=xi.form;clear xi Hb Rq jc;go_wp2_with fail;refine(dy p word us _ HPA.out).mono ?_;rintro e w2 ⟨rfl,VY,xJ⟩;have uT:=fY.trans xJ;have Dx:=z7 (qb.out.but xJ xB);have FM:=z7 VY;clear VY
   cases hi:Yy word us
   .have jc:=dp.out;rw[hi] at jc;have VY:=FM.out;rw[hi] at VY;have VT:=z7 jc;have HPZ:=z7 VY;have Xg:=yik.out Ts a c w.heap.size w2 (by omega) uT.size Dx.out.tests;have HSM:=z7 Xg;clear hi jc VY Xg;go_wp2_with fail;refine HSM.out.mono ?_;rintro e w3 ⟨⟨v,rfl,htt⟩,ub⟩;have Dy:=z7 htt;clear htt;go_wp2;go_ret;rw[<-VT.out];exact⟨⟨⟨_,rfl,Dy.out⟩,HPZ.out.below ub⟩,uT.below ub⟩
   .have jc:=dp.out;rw[hi] at jc;have VY:=FM.out;rw[hi] at VY;have HPZ:=z7 VY;have gx:0<us.length:=by
     cases us with
     | nil=>cases hi
     | cons x y=>simp
    obtain⟨m,rfl⟩:∃ m,gk=m+1:=⟨gk - 1,by omega⟩;have VT:=z7 jc;have mY:=Fx.out w2 us.tail uT VY (fun x hx=>HXS.out x (zu hx)) (by simp;omega);have HON:=z7 mY;clear hi jc VY mY;go_wp2_with fail;refine HON.out.mono ?_;rintro e w3 ⟨XE,ub⟩;have dA:=uT.trans ub
    cases Ww:P us.tail with
    | none =>
     rw[Ww] at XE;obtain rfl:=XE;have vg:r=none:=by rw[<-VT.out];simp[fN,Ww]
     have gB:=z7 vg;clear vg Ww;go_wp2;refine⟨rfl,?_,dA⟩;rw[gB.out];rfl
    | some q3 =>
     obtain⟨T3,t3⟩:=q3;rw[Ww] at XE;obtain⟨⟨v,rfl,A2⟩,He⟩:=XE;have mU:=HS.out _ _ _ Ww;have yz9:(if Yy word t3 then fN word P m (Ts++[T3]) t3.tail else some (Ts++[T3],t3))=r:=by rw[<-VT.out];simp[fN,Ww]
     have yig:=z7 yz9;obtain⟨vs,VU,lF⟩:=Dx.out.but ub xB;have lD:=z7 A2;have Mq:=z7 He;have DM:=z7 lF;have JM:=z7 VU;have HX3:=z7 (fun x hx=>HXS.out x (zu (mU.mem x hx)));have hl3:t3.length+1<=us.length:=by have:=mU.len;simp at this;omega
     obtain⟨kf,bQ,rfl,_⟩:=A2;clear He lF VU Ww yz9 mU;go_wp2_with (at_builtin;refine Yt UH rfl _ _ rfl w.heap.size _ Ts.length vs rfl (JM.out.alloc _) ⟨w3.heap.size,0,none⟩ 1 1 [.func (.func kf) #[] bQ] rfl rfl ?c1 ?c2 ?c3 ?c4 ?_)
     case c1=>exact cells_one (xu _ _ _ _ _)
     case c2=>intro u hu;simp at hu;subst hu;rfl
     case c3=>omega
     case c4=>have:=dA.size;simp;omega
     intro QE w5 jo qm Dv;have ZH:Below w3.heap.size w3 (w3.alloc (.cells #[.func (.func kf) #[] bQ] 214)):=(zy _ _).alloc (z8 _) _;have V2:∀ g,(zJ a Ts.length c).ownBlock=some g->w.heap.size<=g/\g<w2.heap.size:=fun g hg=>by
      obtain⟨_,T9,_⟩:=Dx.out;exact T9.lt g hg
     have V3:Zr w.heap.size w5 QE (Ts++[T3]) :=
      Zr.more DM.out (by have:=JM.out.1;omega) lD.out (by have:=uT.size;omega) (z8 _) (fun g hg => .inl (V2 g hg).2) ZH qm (by simpa using Dv) jo
     have L6:gL w5 p t3:=(Mq.out.below ZH).row (JM.out.alloc _) xB qm;have jJ:xR p w w5:=(dA.below ZH).PK qm (fun k hk=>(V2 k hk).1);obtain⟨a5,c5,rfl⟩:=xf jo;have Du:=z7 V3;have WO:=z7 L6;clear V3 L6 jo qm Dv ZH V2;go_wp2;go_roundg m
     case measure=>omega
     case rel=>exact⟨Ts++[T3],t3,by simpa using Du.out,WO.out,jJ,by simp;omega,HX3.out,by omega,by omega,yig.out⟩
end Go.Proofs.YthpldolmpinnhaaGreatDoor
