import Derived.Test.YthpldolmpinnhaaGreatDoorJK37
import Derived.Maps.AppendAt
import Derived.Deep.LoopGhost
import Derived.Laws.EntriesVeiled
set_option maxHeartbeats 64000000
open Go.Lib renaming hid→z7
open Nat renaming le_refl→z8,le_trans→zk
open Go.RowKit.Below renaming refl→zy,heap_setCell→zg
open Go.Value renaming pointer→zx,slice→zJ
open Go.AllReadyH renaming cons→zv,nil→zj
open List renaming mem_of_mem_tail→zu,mem_cons_of_mem→zY
open Go.World renaming frozen?_of_block→zf,setCell→zZ,cell?_of_block→zX,block_lt_of_cell?→zV
open Option.some renaming injEq→zU
open Go.Op renaming equalIn→zQ
open Go.Obj.cells renaming injEq→zG
open Go.Addr renaming add→zF
open Go.Proofs.Tryz
namespace Go.Proofs.YthpldolmpinnhaaGreatDoor
open Go Go.RowKit
set_option maxRecDepth 10000
theorem U2:ZV prog 305 214 .nilFunc 1 8 :=
 ⟨underlying305,info_parts (by kernel_rfl),rfl,by decide,by decide⟩
theorem YC{P:Program}{t e:TypeId}{z:Value}{size bytes:Nat}(E:ZV P t e z size bytes){w:World}{ops:Array Oper}{rest:List Oper}{o:Oper}{a:Act}{Q:Exit->Act->World->Prop}
  (FW:o.guard=none) (s x:Operand) (ho:o.op = .call { callee := .builtin .append,args:=#[s,x],argTypes:=#[t,t] })
  (base:Nat) (v:Value) (n:Nat) (xs:List Value) (hs:a.eval s=v) (xV:w.ownsRow base e size v n xs)
  (ad:Addr) (m c:Nat) (news:List Value) (hx:a.eval x = .slice (some ad) m c) (hl:news.length=m*size) (dK:∀ j u,news[j]? = some u->w.cell? (ad.add j)=some u) (h1:∀ u∈news,u.oneCell'=true)
  (LB:n+m<=2147483648) (bY:base<=w.heap.size)
  (h:∀ v' w',w'.ownsRow base e size v' (n+m) (xs++news)->w.grownBy w' v.ownBlock->(v'.ownBlock=v.ownBlock\/v'.ownBlock=some w.heap.size)->wpList P ops Q rest (a.put o.dst v') w'):wpList P ops Q (o::rest) a w:=by
 obtain⟨i,hi,hz,h2,h3⟩:=E.info;have Kd:=E.small;refine wpList_append_own_at w FW s x t ho base e i z size bytes E.under hi hz h2 h3 E.Uk E.pos v n xs hs xV ad m c news hx hl dK h1 (by unfold maxLen;omega) ?_ bY (fun v' w' a b _ d=>h v' w' a b d);exact zk (Nat.mul_le_mul LB Kd) (by decide)
def ZB(lo:Nat)(w:World)(sv:Value)(Ts:List qO):Prop :=
 ∃ vs:List Value,w.ownsRow lo 214 1 sv Ts.length vs /\
  ∀ j (h:j<Ts.length),∃ u l h',vs[j]? = some u/\lo<=l/\h'<=w.heap.size/\(∀ g,sv.ownBlock=some g->g<l\/h'<=g)/\km l h' w u Ts[j]
theorem ZB.nil(lo:Nat)(w:World):ZB lo w (.slice none 0 0) []:=⟨[],World.ownsRow_nil _ _ _ _,fun j h=>absurd h (Nat.not_lt_zero j)⟩
theorem ZB.form{lo:Nat}{w:World}{sv:Value}{Ts:List qO}(h:ZB lo w sv Ts):∃ a cap,sv = .slice a Ts.length cap:=by
 obtain⟨vs,ho,_⟩:=h;exact xZ ho
theorem ZB.but{lo p:Nat}{w w':World}{sv:Value}{Ts:List qO}(h:ZB lo w sv Ts)(hb:xS p w w')(hp:p<lo):ZB lo w' sv Ts:=by
 obtain⟨vs,ho,ht⟩:=h;have vx:some p≠sv.ownBlock:=fun e=>by have:=(ho.lt p e.symm).1;omega
 refine⟨vs,ho.kept (row:=some p) ⟨hb.os,hb.tape,hb.output,hb.size,fun i hi hn=>hb.block i hi (fun e=>hn (by rw[e]))⟩ (.inr (fun e=>vx e.symm)),fun j hj=>?_⟩;obtain⟨u,l,h',e1,e2,e3,e4,e5⟩:=ht j hj;exact⟨u,l,h',e1,e2,zk e3 hb.size,e4,e5.keep (hb.keep (by omega) e3) (z8 _) (z8 _)⟩
theorem ZB.more{lo l0 h0:Nat}{w w1 w':World}{sv Uh:Value}{Ts:List qO}{T:qO}{vs:List Value}{u:Value}
  (ht:∀ j (h:j<Ts.length),∃ u l h',vs[j]? = some u/\lo<=l/\h'<=w.heap.size/\(∀ g,sv.ownBlock=some g->g<l\/h'<=g)/\km l h' w u Ts[j]) (D5:vs.length=Ts.length)
  (hT:km l0 h0 w u T) (il:lo<=l0) (LA:h0<=w.heap.size) (aQ:∀ g,sv.ownBlock=some g->g<l0\/h0<=g)
  (hb:Below w.heap.size w w1) (uP:w1.grownBy w' sv.ownBlock) (U9:Uh.ownBlock=sv.ownBlock\/Uh.ownBlock=some w1.heap.size) (ho:w'.ownsRow lo 214 1 Uh (Ts.length+1) (vs++[u])) :
  ZB lo w' Uh (Ts++[T]):=by
 have KE:∀ l h',h'<=w.heap.size->(∀ g,sv.ownBlock=some g->g<l\/h'<=g)->vQ l h' w w':=by
  intro l h' hh hg;refine⟨zk hh (zk hb.size uP.size),fun k k1 k2=>?_⟩;rw[uP.block k (by have:=hb.size;omega) (fun e=>by rcases hg k e.symm with q|q<;>omega)];exact hb.block k (by omega)
 have eY:∀ l h',h'<=w.heap.size->(∀ g,sv.ownBlock=some g->g<l\/h'<=g)->∀ g,Uh.ownBlock=some g->g<l\/h'<=g:=by
  intro l h' hh hg g e;rcases U9 with q|q
  ·exact hg g (q▸e)
  ·rw[q] at e
   cases e;exact .inr (zk hh hb.size)
 refine⟨vs++[u],by simpa using ho,fun j hj=>?_⟩;by_cases QS:j<Ts.length
 ·obtain⟨x,l,h',e1,e2,e3,e4,e5⟩:=ht j QS;exact⟨x,l,h',by rw[List.getElem?_append_left (by omega)];exact e1,e2,zk e3 (zk hb.size uP.size),eY l h' e3 e4,by rw[List.getElem_append_left QS];exact e5.keep (KE l h' e3 e4) (z8 _) (z8 _)⟩
 ·have e:j=Ts.length:=by simp at hj;omega
  subst e;refine⟨u,l0,h0,by rw[List.getElem?_append_right (by omega),D5];simp,il,zk LA (zk hb.size uP.size),eY l0 h0 LA aQ,?_⟩;rw[List.getElem_append_right (by omega)];simpa using hT.keep (KE l0 h0 LA aQ) (z8 _) (z8 _)
theorem ZB.tests{lo cap:Nat}{w:World}{a:Option Addr}{Ts:List qO}(h:ZB lo w (.slice a Ts.length cap) Ts):bW lo w.heap.size w a Ts:=by
 obtain⟨vs,ho,ht⟩:=h;intro j hj;obtain⟨u,l,h',e1,e2,e3,e4,e5⟩:=ht j hj;obtain⟨g,vh,hv,hg,dV,hc⟩:=vU ho (by omega)
 cases hv;refine⟨⟨g,0,none⟩,u,rfl,?_,hg,dV,e5.keep (vy e3) e2 e3⟩;rw[ur,hc j (by omega)];exact e1
def zm4(p:Nat)(r:Option (List qO×List Wd))(w:World)(e:Ending)(w':World):Prop :=
 (match r with|none=>e=Cs|some (ts,t)=>(∃ v,e = .returned v/\km w.heap.size w'.heap.size w' v (bE ts))/\gX w' p t)/\xS p w w'
theorem xS.O3{p:Nat}{w a b:World}{row:Option Nat}(h:xS p w a)(hg:a.grownBy b row)(hr:∀ k,row=some k->w.heap.size<=k):xS p w b :=
 ⟨hg.os.trans h.os,hg.tape.trans h.tape,hg.output.trans h.output,zk h.size hg.size,fun k hk hp=>(hg.block k (Nat.lt_of_lt_of_le hk h.size) (fun e=>by have:=hr k e.symm;omega)).trans (h.block k hk hp)⟩
theorem gX.row{lo p n:Nat}{w w':World}{sv:Value}{vs:List Value}{ws:List Wd}(h:gX w p ws)(ho:w.ownsRow lo 214 1 sv n vs)(hp:p<lo)(hg:w.grownBy w' sv.ownBlock):gX w' p ws:=by
 have xC:=h.lt;have hpn:some p≠sv.ownBlock:=fun e=>by have:=(ho.lt p e.symm).1;omega
 obtain⟨a,cap,hc,hf,h1,h2,h3⟩:=h;refine⟨a,cap,hg.cell hc hpn,(zf (hg.block p xC hpn)).trans hf,h1,h2,fun j hj=>?_⟩;obtain⟨b,e1,e2,e3⟩:=h3 j hj;have hl:=zV w _ e3;rw[addr_add] at hl;have Hg:some b.block≠sv.ownBlock:=by
  intro e;rcases ho.2 with⟨hv,_⟩|⟨g,cp,cur,hv,_,hh,_⟩
  ·rw[hv] at e;cases e
  ·rw[hv] at e
   cases e;obtain⟨cs,fr,hs⟩:=e2.2;rw[hh] at hs
   cases hs
 exact⟨b,e1,⟨e2.1,e2.2.of (hg.block _ hl Hg)⟩,hg.cell e3 (by rw[addr_add];exact Hg)⟩
def pq(p:Nat)(wi:Bool)(r:Option (List qO×List Wd))(n0:Nat)(w:World)(sv:Value)(more:Bool)(n:Nat)(wr:World):Prop :=
 ∃ (Ts:List qO) (ws:List Wd),ZB w.heap.size wr sv Ts/\gX wr p ws/\xS p w wr/\ws.length+Ts.length<=n0/\(∀ x∈ws,Cr x)/\(more=true->ws.length<n/\qZ wi n Ts ws=r)/\(more=false->some (Ts,ws)=r)
theorem eX(w:World)(m:Wd)(g:Nat)(hg:w.cell? ⟨g,0,none⟩=some (xk m)):Mw w (.slice (some ⟨g,0,none⟩) 1 1) [m] :=
 ⟨some ⟨g,0,none⟩,1,rfl,z8 _,by decide,(fun h=>by cases h),fun j hj=>by
  have:j=0:=by simp at hj;omega
  subst this;exact⟨_,rfl,by simpa[zF] using hg⟩⟩
theorem fH(p:Nat)(m:Wd)(ws:List Wd)(W:World)(hp:gX W p ws) :
  Calls prog 175 #[.pointer (some ⟨p,0,none⟩),.slice (some ⟨W.heap.size,0,none⟩) 1 1] (W.alloc (.cells #[xk m] 9))
   fun e w'=>e = .returned (.bool (ZA m ws))/\gX w' p (if ZA m ws then ws.tail else ws)/\xS p W w':=by
 have hb:Below W.heap.size W (W.alloc (.cells #[xk m] 9)):=(zy _ _).alloc (z8 _) _;refine(eg p [m] ws _ _ (hp.below hb) (eX _ m _ (xu _ _ _ _ _)) (by simp)).mono ?_;rintro e w' ⟨rfl,h1,h2,_⟩;have e:Fx [m] ws=ZA m ws:=by simp[Fx]
 rw[e] at h1 ⊢;exact⟨rfl,h1,(xS.of hb).trans h2⟩
theorem eV(p:Nat)(wi:Bool)(ws:List Wd)(w:World)(hp:gX w p ws)(hx:∀ x∈ws,Cr x)(hT:RT p w)(hl:ws.length<=1000) :
  Calls prog 220 #[.pointer (some ⟨p,0,none⟩),.bool wi] w (zm4 p (qZ wi (ws.length+1) [] ws) w):=by
 obtain⟨r,hr⟩:∃ r,qZ wi (ws.length+1) [] ws=r:=⟨_,rfl⟩;rw[hr];have HX:=z7 hx;have HR:=z7 hr;have xC:=hp.lt;have HP:=z7 hp;have HT:=z7 hT;clear hr hx hp hT;go_enter func220,ntmps220;go_wp2;go_loopg [5,6] (ws.length+1) (fun n sv mo wr=>∃ more:Bool,mo = .bool more/\pq p wi r (ws.length+1) w sv more n wr)
 case atStart=>exact⟨true,rfl,[],ws,ZB.nil _ _,HP.out,xS.refl _ _,by simp,HX.out,fun _=>⟨by omega,HR.out⟩,fun h=>by cases h⟩
 case round =>
  obtain⟨more,rfl,Ts,us,vE,EZ,gT,hlen,Oi,hmo,vL⟩:=hrel;have qV:=z7 vE;have HPA:=z7 EZ;have HXS:=z7 Oi;obtain⟨a,cap,rfl⟩:=vE.form;have xq3:=EZ.lt
  cases more with
  | false =>
   have jF:=z7 (vL rfl);clear vL hmo vE EZ Oi;have b8:=Ip Ts a cap w.heap.size wr (by omega) gT.size qV.out.tests;have HSM:=z7 b8;clear b8;go_wp2_with fail;refine HSM.out.mono ?_;rintro e w1 ⟨⟨v,rfl,ht⟩,xB⟩;have Fv:=z7 ht;clear ht;go_wp2;go_ret;rw[←jF.out];exact⟨⟨⟨_,rfl,Fv.out⟩,HPA.out.below xB⟩,gT.below xB⟩
  | true =>
   obtain⟨hlg,jH⟩:=hmo rfl;obtain⟨m,rfl⟩:∃ m,gk=m+1:=⟨gk - 1,by omega⟩;have dP:=z7 jH;have Yc:=fE p us wr EZ Oi (HT.out.but gT);have Kj:=z7 Yc;clear hmo vL jH vE EZ Oi Yc;go_wp2_with fail;refine Kj.out.mono ?_;rintro e w1 ⟨hq,xB⟩
   cases hn:kH us with
   | none =>
    rw[hn] at hq;obtain rfl:=hq;go_wp2;refine⟨rfl,?_,gT.trans xB⟩;have vu:r=none:=by rw[←dP.out,qZ,VK,hn]
    rw[vu]
   | some q =>
    obtain⟨va,t⟩:=q;rw[hn] at hq;obtain⟨rfl,Ub⟩:=hq;obtain⟨pj,K5,Jd⟩:=jq hn;have YT:=gT.trans xB;have HN:=z7 hn;have KI:=z7 Ub;have zm5:=z7 (qV.out.but xB xC);have HXT:=z7 (fun x hx=>HXS.out x (K5 x hx));clear hn Ub K5;go_wp2_with fail;refine(fH p [46,46] t _ KI.out).mono ?_;rintro e w2 ⟨rfl,Xp,xD⟩;have uN:=YT.trans xD;have Fu:=z7 (zm5.out.but xD xC);have GO:=z7 Xp;clear Xp
    cases hd:ZA [46,46] t
    ·have j4:=GO.out;rw[hd] at j4;have QJ:=z7 j4;have BU:VK us=some ((va,va),t):=by rw[VK,HN.out];simp[hd]
     have zuq:=z7 BU;clear j4 hd BU;have HIT:=z7 (zuq.out);have zm6:decide ((va:Int)<(va:Int))=false:=by first|(simp;done)|(simp;omega)
     have L0:=Qu va va wi w2 pj pj;have r8:=z7 L0;clear L0;go_wp2_with fail;refine r8.out.mono ?_;rintro e w4 ⟨⟨fv,rfl,hft⟩,uW⟩;have JB:=QJ.out.below uW;have dB:=uN.below uW;have L5:=Fu.out.but (xS.of (p:=p) uW) xC;obtain⟨vs,Uu,eU⟩:=L5;have HFT:=z7 hft;have L6:=z7 JB;have FI:=z7 eU;have Fp:=z7 Uu;obtain⟨kf,dp,rfl,_⟩:=hft;clear JB eU Uu;go_wp2_with (at_builtin;refine YC U2 rfl _ _ rfl w.heap.size _ Ts.length vs rfl (Fp.out.alloc _) ⟨w4.heap.size,0,none⟩ 1 1 [.func (.func kf) #[] dp] rfl rfl ?c1 ?c2 ?c3 ?c4 ?_)
     case c1=>exact cells_one (xu _ _ _ _ _)
     case c2=>intro u hu;simp at hu;subst hu;rfl
     case c3=>omega
     case c4=>have:=dB.size;simp;omega
     intro Uh w5 jP qc Fq;have Zg:Below w4.heap.size w4 (w4.alloc (.cells #[.func (.func kf) #[] dp] 214)):=(zy _ _).alloc (z8 _) _;have XL:∀ g,(zJ a Ts.length cap).ownBlock=some g->w.heap.size<=g/\g<w2.heap.size:=fun g hg=>by
      obtain⟨_,RO,_⟩:=Fu.out;exact RO.lt g hg
     have XM:ZB w.heap.size w5 Uh (Ts++[gu va va wi]) :=
      ZB.more FI.out (by have:=Fp.out.1;omega) HFT.out (by have:=uN.size;omega) (z8 _) (fun g hg => .inl (XL g hg).2) Zg qc (by simpa using Fq) jP
     have Hr:gX w5 p t:=(L6.out.below Zg).row (Fp.out.alloc _) xC qc;have jk:xS p w w5:=(dB.below Zg).O3 qc (fun k hk=>(XL k hk).1);obtain⟨a5,c5,rfl⟩:=xZ jP;have Fk:=z7 XM;have T5:=z7 Hr;clear XM Hr jP qc Fq Zg XL;go_wp2_with fail;refine(fH p [44] t _ T5.out).mono ?_;rintro e w6 ⟨rfl,RN,dv⟩;have jR:=jk.trans dv;have L7:=z7 (Fk.out.but dv xC);have eQ:=z7 (show qZ wi (m+1) Ts us=if ZA [44] t then qZ wi m (Ts++[gu va va wi]) (t).tail else some (Ts++[gu va va wi],t) by rw[qZ,HIT.out]);have eK:=z7 RN;clear RN
     cases jG:ZA [44] t
     ·have O4:=eK.out;rw[jG] at O4;have O5:=eQ.out;rw[jG,dP.out] at O5;have HQ6:=z7 O4;have HSQ:=z7 O5;clear jG O4 O5;go_wp2;go_roundg 0
      case measure=>omega
      case rel=>exact⟨false,rfl,Ts++[gu va va wi],t,by simpa using L7.out,HQ6.out,jR,by simp;omega,HXT.out,(fun h=>by cases h),fun _=>HSQ.out.symm⟩
     ·have O4:=eK.out;rw[jG] at O4;have O5:=eQ.out;rw[jG,dP.out] at O5;have HQ6:=z7 O4;have HSQ:=z7 O5;have vx:0<(t).length:=by
       cases ht:t with
       | nil=>rw[ht] at jG;cases jG
       | cons x y=>simp
      clear jG O4 O5;go_wp2;go_roundg m
      case measure=>omega
      case rel=>exact⟨true,rfl,Ts++[gu va va wi],(t).tail,by simpa using L7.out,HQ6.out,jR,by simp;omega,fun x hx=>HXT.out x (zu hx),fun _=>⟨by simp;omega,HSQ.out.symm⟩,fun h=>by cases h⟩
    ·have j4:=GO.out;rw[hd] at j4;have QJ:=z7 j4;have zm8:=z7 (fun x hx=>HXT.out x (zu hx));have sS:=fE p t.tail w2 QJ.out zm8.out (HT.out.but uN);have zm9:=z7 sS;have HD:=z7 hd;clear j4 hd sS;go_wp2_with fail;refine zm9.out.mono ?_;rintro e w3 ⟨X3,uD⟩
     cases dy:kH t.tail with
     | none =>
      rw[dy] at X3;obtain rfl:=X3;have vu:r=none:=by rw[←dP.out,qZ,VK,HN.out];simp[HD.out,dy]
      go_wp2;refine⟨rfl,?_,uN.trans uD⟩;first|rfl|(rw[vu])
     | some q =>
      obtain⟨vb,t2⟩:=q;rw[dy] at X3;obtain⟨rfl,EV⟩:=X3;obtain⟨hvb,sT,xq5⟩:=jq dy;have xq6:t2.length+1<=t.length:=by
       have:t.tail.length<=t.length:=by simp
       omega
      have dF:=uN.trans uD;have L8:=z7 (Fu.out.but uD xC);have eJ:=z7 EV;have HX3:=z7 (fun x hx=>zm8.out x (sT x hx));have eG:VK us=if vb<va then none else some ((va,vb),t2):=by rw[VK,HN.out];simp[HD.out,dy]
      have si:=z7 eG;clear EV dy sT eG;by_cases hba:vb<va
      ·have vu:r=none:=by rw[←dP.out,qZ,si.out,if_pos hba]
       have zm6:decide ((vb:Int)<(va:Int))=true:=by simp;omega
       go_wp2;refine⟨rfl,?_,dF⟩;first|rfl|(rw[vu])
      ·have BU:=si.out;rw[if_neg hba] at BU;have zuq:=z7 BU;clear BU;have HIT:=z7 (zuq.out);have zm6:decide ((vb:Int)<(va:Int))=false:=by first|(simp;done)|(simp;omega)
       have L0:=Qu va vb wi w3 pj hvb;have r8:=z7 L0;clear L0;go_wp2_with fail;refine r8.out.mono ?_;rintro e w4 ⟨⟨fv,rfl,hft⟩,uW⟩;have JB:=eJ.out.below uW;have dB:=dF.below uW;have L5:=L8.out.but (xS.of (p:=p) uW) xC;obtain⟨vs,Uu,eU⟩:=L5;have HFT:=z7 hft;have L6:=z7 JB;have FI:=z7 eU;have Fp:=z7 Uu;obtain⟨kf,dp,rfl,_⟩:=hft;clear JB eU Uu;go_wp2_with (at_builtin;refine YC U2 rfl _ _ rfl w.heap.size _ Ts.length vs rfl (Fp.out.alloc _) ⟨w4.heap.size,0,none⟩ 1 1 [.func (.func kf) #[] dp] rfl rfl ?c1 ?c2 ?c3 ?c4 ?_)
       case c1=>exact cells_one (xu _ _ _ _ _)
       case c2=>intro u hu;simp at hu;subst hu;rfl
       case c3=>omega
       case c4=>have:=dB.size;simp;omega
       intro Uh w5 jP qc Fq;have Zg:Below w4.heap.size w4 (w4.alloc (.cells #[.func (.func kf) #[] dp] 214)):=(zy _ _).alloc (z8 _) _;have XL:∀ g,(zJ a Ts.length cap).ownBlock=some g->w.heap.size<=g/\g<w3.heap.size:=fun g hg=>by
        obtain⟨_,RO,_⟩:=L8.out;exact RO.lt g hg
       have XM:ZB w.heap.size w5 Uh (Ts++[gu va vb wi]) :=
        ZB.more FI.out (by have:=Fp.out.1;omega) HFT.out (by have:=dF.size;omega) (z8 _) (fun g hg => .inl (XL g hg).2) Zg qc (by simpa using Fq) jP
       have Hr:gX w5 p t2:=(L6.out.below Zg).row (Fp.out.alloc _) xC qc;have jk:xS p w w5:=(dB.below Zg).O3 qc (fun k hk=>(XL k hk).1);obtain⟨a5,c5,rfl⟩:=xZ jP;have Fk:=z7 XM;have T5:=z7 Hr;clear XM Hr jP qc Fq Zg XL;go_wp2_with fail;refine(fH p [44] t2 _ T5.out).mono ?_;rintro e w6 ⟨rfl,RN,dv⟩;have jR:=jk.trans dv;have L7:=z7 (Fk.out.but dv xC);have eQ:=z7 (show qZ wi (m+1) Ts us=if ZA [44] t2 then qZ wi m (Ts++[gu va vb wi]) (t2).tail else some (Ts++[gu va vb wi],t2) by rw[qZ,HIT.out]);have eK:=z7 RN;clear RN
       cases jG:ZA [44] t2
       ·have O4:=eK.out;rw[jG] at O4;have O5:=eQ.out;rw[jG,dP.out] at O5;have HQ6:=z7 O4;have HSQ:=z7 O5;clear jG O4 O5;go_wp2;go_roundg 0
        case measure=>omega
        case rel=>exact⟨false,rfl,Ts++[gu va vb wi],t2,by simpa using L7.out,HQ6.out,jR,by simp;omega,HX3.out,(fun h=>by cases h),fun _=>HSQ.out.symm⟩
       ·have O4:=eK.out;rw[jG] at O4;have O5:=eQ.out;rw[jG,dP.out] at O5;have HQ6:=z7 O4;have HSQ:=z7 O5;have vx:0<(t2).length:=by
         cases ht:t2 with
         | nil=>rw[ht] at jG;cases jG
         | cons x y=>simp
        clear jG O4 O5;go_wp2;go_roundg m
        case measure=>omega
        case rel=>exact⟨true,rfl,Ts++[gu va vb wi],(t2).tail,by simpa using L7.out,HQ6.out,jR,by simp;omega,fun x hx=>HX3.out x (zu hx),fun _=>⟨by simp;omega,HSQ.out.symm⟩,fun h=>by cases h⟩
structure Sub(t ws:List Wd):Prop where
 mem:∀ x∈t,x∈ws
 len:t.length<=ws.length
theorem Sub.refl(ws:List Wd):Sub ws ws:=⟨fun _ h=>h,z8 _⟩
theorem Sub.trans{a b c:List Wd}(h:Sub a b)(k:Sub b c):Sub a c:=⟨fun x hx=>k.mem x (h.mem x hx),zk h.len k.len⟩
theorem Sub.tail(ws:List Wd):Sub ws.tail ws:=⟨fun _ h=>zu h,by simp⟩
theorem Zt{ws t:List Wd}{v:Nat}(h:kH ws=some (v,t)):Sub t ws:=⟨(jq h).2.1,by have:=(jq h).2.2;omega⟩
theorem BQ{ws t:List Wd}{q:Nat×Nat}(h:VK ws=some (q,t)):Sub t ws:=by
 unfold VK at h
 cases hn:kH ws with
 | none=>rw[hn] at h;cases h
 | some r =>
  obtain⟨a,u⟩:=r;rw[hn] at h;dsimp only at h;have hs:=Zt hn;by_cases hd:ZA [46,46] u=true
  ·rw[if_pos hd] at h
   cases dy:kH u.tail with
   | none=>rw[dy] at h;cases h
   | some r2 =>
    obtain⟨b,u2⟩:=r2;rw[dy] at h;dsimp only at h;by_cases hb:b<a
    ·rw[if_pos hb] at h;cases h
    ·rw[if_neg hb] at h
     cases h;exact((Zt dy).trans (Sub.tail u)).trans hs
  ·rw[if_neg hd] at h
   cases h;exact hs
theorem Ka{wi:Bool}:∀ {n:Nat} {acc ts:List qO} {ws t:List Wd},qZ wi n acc ws=some (ts,t)->Sub t ws
 | 0,_,_,_,_,h=>by cases h
 | n+1,acc,ts,ws,t,h=>by
  rw[qZ] at h
  cases hi:VK ws with
  | none=>rw[hi] at h;cases h
  | some r =>
   obtain⟨q,u⟩:=r;rw[hi] at h;dsimp only at h;by_cases hc:ZA [44] u=true
   ·rw[if_pos hc] at h;exact((Ka h).trans (Sub.tail u)).trans (BQ hi)
   ·rw[if_neg hc] at h
    cases h;exact BQ hi
theorem T6{wi:Bool}{ws t:List Wd}{T:qO}(h:jV wi ws=some (T,t)):Sub t ws:=by
 unfold jV at h
 cases hg:qZ wi (ws.length+1) [] ws with
 | none=>rw[hg] at h;cases h
 | some r =>
  obtain⟨ts,u⟩:=r;rw[hg] at h
  cases h;exact Ka hg
def YE(p:Nat)(r:Option (qO×List Wd))(w:World)(e:Ending)(w':World):Prop :=
 (match r with|none=>e=Cs|some (T,t)=>(∃ v,e = .returned v/\km w.heap.size w'.heap.size w' v T)/\gX w' p t)/\xS p w w'
theorem bd(p:Nat)(wi:Bool)(ws:List Wd)(w:World)(hp:gX w p ws)(hx:∀ x∈ws,Cr x)(hT:RT p w)(hl:ws.length<=1000) :
  Calls prog 220 #[.pointer (some ⟨p,0,none⟩),.bool wi] w (YE p (jV wi ws) w):=by
 refine(eV p wi ws w hp hx hT hl).mono ?_;rintro e w' ⟨h,hb⟩;refine⟨?_,hb⟩;unfold jV
 cases hg:qZ wi (ws.length+1) [] ws with
 | none=>rw[hg] at h;exact h
 | some r =>
  obtain⟨ts,u⟩:=r;rw[hg] at h;exact h
def pg(p:Nat)(r:Option ((qO×Bool)×List Wd))(w:World)(e:Ending)(w':World):Prop :=
 (match r with|none=>e=Cs|some ((T,nt),t)=>(∃ v,e = .returned (.tuple #[v,.bool nt])/\km w.heap.size w'.heap.size w' v T)/\gX w' p t)/\xS p w w'
theorem Qk(p:Nat)(ws:List Wd)(w:World)(hp:gX w p ws)(hx:∀ x∈ws,Cr x)(hT:RT p w)(hl:ws.length<=1000) :
  Calls prog 184 #[.pointer (some ⟨p,0,none⟩)] w (pg p (vo ws) w):=by
 obtain⟨r,hr⟩:∃ r,vo ws=r:=⟨_,rfl⟩;rw[hr];have HX:=z7 hx;have HR:=z7 hr;have xC:=hp.lt;have HP:=z7 hp;have HT:=z7 hT;clear hr hx hp hT;go_enter func184,ntmps184;have L1:ws.tail.length<=1000:=by simp;omega
 have L2:ws.tail.tail.length<=1000:=by simp;omega
 have M1:∀ x∈ws.tail,Cr x:=fun x h=>HX.out x (zu h)
 have M2:∀ x∈ws.tail.tail,Cr x:=fun x h=>M1 x (zu h)
 have D8:=z7 M1;have Y8:=z7 M2;clear M1 M2;go_wp2_with fail;refine(fH p [61] (ws) _ HP.out).mono ?_;rintro e w1 ⟨rfl,Ub,xB⟩;have YT:=xB;have zmz:=z7 Ub;clear Ub
 cases e1:ZA [61] (ws)
 ·have hq:=zmz.out;rw[e1] at hq;have KI:=z7 hq;have E1:=z7 e1;clear hq e1;go_wp2_with fail;refine(fH p [33,61] (ws) _ KI.out).mono ?_;rintro e w2 ⟨rfl,Xp,xD⟩;have uN:=YT.trans xD;have zmy:=z7 Xp;clear Xp
  cases e2:ZA [33,61] (ws)
  ·have hq:=zmy.out;rw[e2] at hq;have GO:=z7 hq;have E2:=z7 e2;clear hq e2;go_wp2_with fail;refine(fH p [105,115] (ws) _ GO.out).mono ?_;rintro e w3 ⟨rfl,EV,uD⟩;have dF:=uN.trans uD;have zmx:=z7 EV;clear EV
   cases e3:ZA [105,115] (ws)
   ·have hq:=zmx.out;rw[e3] at hq;have eJ:=z7 hq;have E3:=z7 e3;clear hq e3;go_wp2_with fail;refine(fH p [110,111,116] (ws) _ eJ.out).mono ?_;rintro e w4 ⟨rfl,JB,uW⟩;have dB:=dF.trans uW;have eF:=z7 JB;clear JB
    cases e4:ZA [110,111,116] (ws)
    ·have hq:=eF.out;rw[e4] at hq;have L6:=z7 hq;have E4:=z7 e4;clear hq e4;go_wp2_with fail;refine(fH p [119,105,116,104,105,110] (ws) _ L6.out).mono ?_;rintro e w5 ⟨rfl,Hr,kZ⟩;have jk:=dB.trans kZ;have eD:=z7 Hr;clear Hr
     cases e5:ZA [119,105,116,104,105,110] (ws)
     ·have hq:=eD.out;rw[e5] at hq;have T5:=z7 hq;have E5:=z7 e5;clear hq e5;go_wp2_with fail;refine(fH p [105,110] (ws) _ T5.out).mono ?_;rintro e w6 ⟨rfl,RN,dv⟩;have jR:=jk.trans dv;have eB:=z7 RN;clear RN
      cases e6:ZA [105,110] (ws)
      ·have hq:=eB.out;rw[e6] at hq;have eK:=z7 hq;have E6:=z7 e6;clear hq e6;have vu:r=none:=by
        rw[←HR.out];simp[vo,E1.out,E2.out,E3.out,E4.out,E5.out,E6.out]
       have gj:=z7 vu;clear vu;go_wp2;refine⟨rfl,?_,jR⟩;rw[gj.out]
      ·have hq:=eB.out;rw[e6] at hq;have eK:=z7 hq;have E6:=z7 e6;clear hq e6;have bA:=bd p false (ws.tail) w6 eK.out D8.out (HT.out.but jR) L1;have HL:=z7 bA;clear bA;go_wp2_with fail;refine HL.out.mono ?_;rintro e w7 ⟨hq,jQ⟩;have jS:=jR.trans jQ;have gh:r=(jV false (ws.tail)).map fun q=>((q.1,false),q.2):=by
        rw[←HR.out];simp[vo,E1.out,E2.out,E3.out,E4.out,E5.out,E6.out]
       have gV:=z7 gh;clear gh
       cases hn:jV false (ws.tail) with
       | none =>
        rw[hn] at hq;obtain rfl:=hq;have vu:=gV.out;rw[hn] at vu;have gj:=z7 vu;clear vu hn;go_wp2;refine⟨rfl,?_,jS⟩;rw[gj.out];rfl
       | some q =>
        obtain⟨T,t⟩:=q;rw[hn] at hq;obtain⟨⟨v,rfl,ht⟩,Fj⟩:=hq;have vu:=gV.out;rw[hn] at vu;have gj:=z7 vu;have Fv:=z7 ht;have Qn:=z7 Fj;clear vu hn ht Fj;go_wp2;go_ret2
        refine⟨?_,jS⟩;rw[gj.out];exact⟨⟨v,rfl,Fv.out.keep (vy (z8 _)) jR.size (z8 _)⟩,Qn.out⟩
     ·have hq:=eD.out;rw[e5] at hq;have T5:=z7 hq;have E5:=z7 e5;clear hq e5;have bA:=bd p true (ws.tail) w5 T5.out D8.out (HT.out.but jk) L1;have HL:=z7 bA;clear bA;go_wp2_with fail;refine HL.out.mono ?_;rintro e w6 ⟨hq,dv⟩;have jR:=jk.trans dv;have gh:r=(jV true (ws.tail)).map fun q=>((q.1,false),q.2):=by
       rw[←HR.out];simp[vo,E1.out,E2.out,E3.out,E4.out,E5.out]
      have gV:=z7 gh;clear gh
      cases hn:jV true (ws.tail) with
      | none =>
       rw[hn] at hq;obtain rfl:=hq;have vu:=gV.out;rw[hn] at vu;have gj:=z7 vu;clear vu hn;go_wp2;refine⟨rfl,?_,jR⟩;rw[gj.out];rfl
      | some q =>
       obtain⟨T,t⟩:=q;rw[hn] at hq;obtain⟨⟨v,rfl,ht⟩,Fj⟩:=hq;have vu:=gV.out;rw[hn] at vu;have gj:=z7 vu;have Fv:=z7 ht;have Qn:=z7 Fj;clear vu hn ht Fj;go_wp2;go_ret2
       refine⟨?_,jR⟩;rw[gj.out];exact⟨⟨v,rfl,Fv.out.keep (vy (z8 _)) jk.size (z8 _)⟩,Qn.out⟩
    ·have hq:=eF.out;rw[e4] at hq;have L6:=z7 hq;have E4:=z7 e4;clear hq e4;go_wp2_with fail;refine(fH p [119,105,116,104,105,110] (ws.tail) _ L6.out).mono ?_;rintro e w5 ⟨rfl,Hr,kZ⟩;have jk:=dB.trans kZ;have eD:=z7 Hr;clear Hr
     cases e5:ZA [119,105,116,104,105,110] (ws.tail)
     ·have hq:=eD.out;rw[e5] at hq;have T5:=z7 hq;have E5:=z7 e5;clear hq e5;go_wp2_with fail;refine(fH p [105,110] (ws.tail) _ T5.out).mono ?_;rintro e w6 ⟨rfl,RN,dv⟩;have jR:=jk.trans dv;have eB:=z7 RN;clear RN
      cases e6:ZA [105,110] (ws.tail)
      ·have hq:=eB.out;rw[e6] at hq;have eK:=z7 hq;have E6:=z7 e6;clear hq e6;have vu:r=none:=by
        rw[←HR.out];simp[vo,E1.out,E2.out,E3.out,E4.out,E5.out,E6.out]
       have gj:=z7 vu;clear vu;go_wp2;refine⟨rfl,?_,jR⟩;rw[gj.out]
      ·have hq:=eB.out;rw[e6] at hq;have eK:=z7 hq;have E6:=z7 e6;clear hq e6;have bA:=bd p false (ws.tail.tail) w6 eK.out Y8.out (HT.out.but jR) L2;have HL:=z7 bA;clear bA;go_wp2_with fail;refine HL.out.mono ?_;rintro e w7 ⟨hq,jQ⟩;have jS:=jR.trans jQ;have gh:r=(jV false (ws.tail.tail)).map fun q=>((q.1,true),q.2):=by
        rw[←HR.out];simp[vo,E1.out,E2.out,E3.out,E4.out,E5.out,E6.out]
       have gV:=z7 gh;clear gh
       cases hn:jV false (ws.tail.tail) with
       | none =>
        rw[hn] at hq;obtain rfl:=hq;have vu:=gV.out;rw[hn] at vu;have gj:=z7 vu;clear vu hn;go_wp2;refine⟨rfl,?_,jS⟩;rw[gj.out];rfl
       | some q =>
        obtain⟨T,t⟩:=q;rw[hn] at hq;obtain⟨⟨v,rfl,ht⟩,Fj⟩:=hq;have vu:=gV.out;rw[hn] at vu;have gj:=z7 vu;have Fv:=z7 ht;have Qn:=z7 Fj;clear vu hn ht Fj;go_wp2;go_ret2
        refine⟨?_,jS⟩;rw[gj.out];exact⟨⟨v,rfl,Fv.out.keep (vy (z8 _)) jR.size (z8 _)⟩,Qn.out⟩
     ·have hq:=eD.out;rw[e5] at hq;have T5:=z7 hq;have E5:=z7 e5;clear hq e5;have bA:=bd p true (ws.tail.tail) w5 T5.out Y8.out (HT.out.but jk) L2;have HL:=z7 bA;clear bA;go_wp2_with fail;refine HL.out.mono ?_;rintro e w6 ⟨hq,dv⟩;have jR:=jk.trans dv;have gh:r=(jV true (ws.tail.tail)).map fun q=>((q.1,true),q.2):=by
       rw[←HR.out];simp[vo,E1.out,E2.out,E3.out,E4.out,E5.out]
      have gV:=z7 gh;clear gh
      cases hn:jV true (ws.tail.tail) with
      | none =>
       rw[hn] at hq;obtain rfl:=hq;have vu:=gV.out;rw[hn] at vu;have gj:=z7 vu;clear vu hn;go_wp2;refine⟨rfl,?_,jR⟩;rw[gj.out];rfl
      | some q =>
       obtain⟨T,t⟩:=q;rw[hn] at hq;obtain⟨⟨v,rfl,ht⟩,Fj⟩:=hq;have vu:=gV.out;rw[hn] at vu;have gj:=z7 vu;have Fv:=z7 ht;have Qn:=z7 Fj;clear vu hn ht Fj;go_wp2;go_ret2
       refine⟨?_,jR⟩;rw[gj.out];exact⟨⟨v,rfl,Fv.out.keep (vy (z8 _)) jk.size (z8 _)⟩,Qn.out⟩
   ·have hq:=zmx.out;rw[e3] at hq;have eJ:=z7 hq;have E3:=z7 e3;clear hq e3;go_wp2_with fail;refine(fH p [110,111,116] (ws.tail) _ eJ.out).mono ?_;rintro e w4 ⟨rfl,JB,uW⟩;have dB:=dF.trans uW;have eF:=z7 JB;clear JB
    cases e4:ZA [110,111,116] (ws.tail)
    ·have hq:=eF.out;rw[e4] at hq;have L6:=z7 hq;have E4:=z7 e4;clear hq e4;have bA:=fE p (ws.tail) w4 L6.out D8.out (HT.out.but dB);have HL:=z7 bA;clear bA;go_wp2_with fail;refine HL.out.mono ?_;rintro e w5 ⟨hq,kZ⟩;have jk:=dB.trans kZ;have gh:r=(kH (ws.tail)).map fun q=>((gu q.1 q.1 false,false),q.2):=by
      rw[←HR.out];simp[vo,E1.out,E2.out,E3.out,E4.out]
     have gV:=z7 gh;clear gh
     cases hn:kH (ws.tail) with
     | none =>
      rw[hn] at hq;obtain rfl:=hq;have vu:=gV.out;rw[hn] at vu;have gj:=z7 vu;clear vu hn;go_wp2;refine⟨rfl,?_,jk⟩;rw[gj.out];rfl
     | some q =>
      obtain⟨va,t⟩:=q;rw[hn] at hq;obtain⟨rfl,Fj⟩:=hq;have pj:=(jq hn).1;have vu:=gV.out;rw[hn] at vu;have gj:=z7 vu;have Qn:=z7 Fj;have eC:=z7 (Qu va va false w5 pj pj);clear vu hn Fj;go_wp2_with fail;refine eC.out.mono ?_;rintro e w6 ⟨⟨v,rfl,ht⟩,dv⟩;have Fv:=z7 ht;clear ht;go_wp2;go_ret2
      refine⟨?_,jk.below dv⟩;rw[gj.out];exact⟨⟨v,rfl,Fv.out.keep (vy (z8 _)) jk.size (z8 _)⟩,Qn.out.below dv⟩
    ·have hq:=eF.out;rw[e4] at hq;have L6:=z7 hq;have E4:=z7 e4;clear hq e4;have bA:=fE p (ws.tail.tail) w4 L6.out Y8.out (HT.out.but dB);have HL:=z7 bA;clear bA;go_wp2_with fail;refine HL.out.mono ?_;rintro e w5 ⟨hq,kZ⟩;have jk:=dB.trans kZ;have gh:r=(kH (ws.tail.tail)).map fun q=>((gu q.1 q.1 false,true),q.2):=by
      rw[←HR.out];simp[vo,E1.out,E2.out,E3.out,E4.out]
     have gV:=z7 gh;clear gh
     cases hn:kH (ws.tail.tail) with
     | none =>
      rw[hn] at hq;obtain rfl:=hq;have vu:=gV.out;rw[hn] at vu;have gj:=z7 vu;clear vu hn;go_wp2;refine⟨rfl,?_,jk⟩;rw[gj.out];rfl
     | some q =>
      obtain⟨va,t⟩:=q;rw[hn] at hq;obtain⟨rfl,Fj⟩:=hq;have pj:=(jq hn).1;have vu:=gV.out;rw[hn] at vu;have gj:=z7 vu;have Qn:=z7 Fj;have eC:=z7 (Qu va va false w5 pj pj);clear vu hn Fj;go_wp2_with fail;refine eC.out.mono ?_;rintro e w6 ⟨⟨v,rfl,ht⟩,dv⟩;have Fv:=z7 ht;clear ht;go_wp2;go_ret2
      refine⟨?_,jk.below dv⟩;rw[gj.out];exact⟨⟨v,rfl,Fv.out.keep (vy (z8 _)) jk.size (z8 _)⟩,Qn.out.below dv⟩
  ·have hq:=zmy.out;rw[e2] at hq;have GO:=z7 hq;have E2:=z7 e2;clear hq e2;have bA:=bd p false (ws.tail) w2 GO.out D8.out (HT.out.but uN) L1;have HL:=z7 bA;clear bA;go_wp2_with fail;refine HL.out.mono ?_;rintro e w3 ⟨hq,uD⟩;have dF:=uN.trans uD;have gh:r=(jV false (ws.tail)).map fun q=>((q.1,true),q.2):=by
    rw[←HR.out];simp[vo,E1.out,E2.out]
   have gV:=z7 gh;clear gh
   cases hn:jV false (ws.tail) with
   | none =>
    rw[hn] at hq;obtain rfl:=hq;have vu:=gV.out;rw[hn] at vu;have gj:=z7 vu;clear vu hn;go_wp2;refine⟨rfl,?_,dF⟩;rw[gj.out];rfl
   | some q =>
    obtain⟨T,t⟩:=q;rw[hn] at hq;obtain⟨⟨v,rfl,ht⟩,Fj⟩:=hq;have vu:=gV.out;rw[hn] at vu;have gj:=z7 vu;have Fv:=z7 ht;have Qn:=z7 Fj;clear vu hn ht Fj;go_wp2;go_ret2
    refine⟨?_,dF⟩;rw[gj.out];exact⟨⟨v,rfl,Fv.out.keep (vy (z8 _)) uN.size (z8 _)⟩,Qn.out⟩
 ·have hq:=zmz.out;rw[e1] at hq;have KI:=z7 hq;have E1:=z7 e1;clear hq e1;have bA:=bd p false (ws.tail) w1 KI.out D8.out (HT.out.but YT) L1;have HL:=z7 bA;clear bA;go_wp2_with fail;refine HL.out.mono ?_;rintro e w2 ⟨hq,xD⟩;have uN:=YT.trans xD;have gh:r=(jV false (ws.tail)).map fun q=>((q.1,false),q.2):=by
   rw[←HR.out];simp[vo,E1.out]
  have gV:=z7 gh;clear gh
  cases hn:jV false (ws.tail) with
  | none =>
   rw[hn] at hq;obtain rfl:=hq;have vu:=gV.out;rw[hn] at vu;have gj:=z7 vu;clear vu hn;go_wp2;refine⟨rfl,?_,uN⟩;rw[gj.out];rfl
  | some q =>
   obtain⟨T,t⟩:=q;rw[hn] at hq;obtain⟨⟨v,rfl,ht⟩,Fj⟩:=hq;have vu:=gV.out;rw[hn] at vu;have gj:=z7 vu;have Fv:=z7 ht;have Qn:=z7 Fj;clear vu hn ht Fj;go_wp2;go_ret2
   refine⟨?_,uN⟩;rw[gj.out];exact⟨⟨v,rfl,Fv.out.keep (vy (z8 _)) YT.size (z8 _)⟩,Qn.out⟩
theorem eE(t:List Wd):Fx [[109,111,100],[37]] t=Hw (t.headD []):=by
 cases t with
 | nil=>rfl
 | cons c u=>simp[Fx,IQ,Hw]
theorem T7(w:World)(m m2:Wd)(g:Nat)(hg:w.cell? ⟨g,0,none⟩=some (xk m))(dV:w.cell? ⟨g,1,none⟩=some (xk m2)):Mw w (.slice (some ⟨g,0,none⟩) 2 2) [m,m2] :=
 ⟨some ⟨g,0,none⟩,2,rfl,z8 _,by decide,(fun h=>by cases h),fun j hj=>by
  match j,hj with
  | 0,_=>exact⟨_,rfl,by simpa[zF] using hg⟩
  | 1,_=>exact⟨_,rfl,by simpa[zF] using dV⟩⟩
theorem eH(p:Nat)(ws:List Wd)(W:World)(hp:gX W p ws) :
  Calls prog 175 #[.pointer (some ⟨p,0,none⟩),.slice (some ⟨W.heap.size,0,none⟩) 2 2] (W.alloc (.cells #[xk [109,111,100],xk [37]] 9))
   fun e w'=>e = .returned (.bool (Hw (ws.headD [])))/\gX w' p (if Hw (ws.headD []) then ws.tail else ws)/\xS p W w':=by
 have hb:Below W.heap.size W (W.alloc (.cells #[xk [109,111,100],xk [37]] 9)):=(zy _ _).alloc (z8 _) _;refine(eg p [[109,111,100],[37]] ws _ _ (hp.below hb) (T7 _ _ _ _ (xu _ _ _ _ _) (xu _ _ _ _ _)) (by simp)).mono ?_;rintro e w' ⟨rfl,h1,h2,_⟩;rw[eE] at h1 ⊢;exact⟨rfl,h1,(xS.of hb).trans h2⟩
theorem Ct(p:Nat)(w:World)(hp:gX w p []):Calls prog 145 #[.pointer (some ⟨p,0,none⟩)] w (YE p (jm []) w):=by
 obtain⟨a,cap,hc,hf,h1,h2,h3⟩:=hp;clear h3;go_enter func145,ntmps145;go_wp2;exact⟨rfl,rfl,xS.refl _ _⟩
theorem eI(fn:Fn)(first cap:Array Value)(w:World):(binOp .eql 309 (.func fn first cap) .nilFunc).run prog w = .ok (.bool false) w:=by
 have h:∀ d:Nat,(zQ (d+1) 309 (.func fn first cap) .nilFunc).run prog w = .ok false w:=fun d=>by
  simp[zQ,run_underlying underlying309]
 simp only[binOp];simp[Op.equal,Op.maxDepth,h 9999]
theorem Lz(w:World):(binOp .eql 309 .nilFunc .nilFunc).run prog w = .ok (.bool true) w:=by
 have h:∀ d:Nat,(zQ (d+1) 309 .nilFunc .nilFunc).run prog w = .ok true w:=fun d=>by
  simp[zQ,run_underlying underlying309]
 simp only[binOp];simp[Op.equal,Op.maxDepth,h 9999]
theorem xS.frozen{p:Nat}{w w':World}(h:xS p w w'){a:Addr}(hl:a.block<w.heap.size)(ha:a.block≠p):w'.frozen? a=w.frozen? a:=zf (h.block a.block hl ha)
structure xW(w:World)(k:Nat)(u:Value):Prop where
 c:w.cell? ⟨k,0,none⟩=some u
 z:w.frozen? ⟨k,0,none⟩=false
 n:¬Cp w k
theorem Ly{w:World}{a:Addr}{u:Value}{k:Nat}(h:Cp (w.setCell a u) k):Cp w k:=by
 obtain⟨cs,fr,h⟩:=h;by_cases hk:k=a.block
 ·simp only[zZ,Array.getElem?_modify,if_pos hk.symm] at h
  cases hh:w.heap[k]? with
  | none=>simp[hh] at h
  | some o =>
   simp only[hh,Option.map_some] at h
   cases o with
   | cells c e f =>
    simp only[zU,zG] at h;exact⟨c,f,by rw[hh,h.2.1]⟩
   | _=>simp at h
 ·exact⟨cs,fr,(zg _ _ _ _ hk).symm.trans h⟩
theorem xW.lt{w:World}{k:Nat}{u:Value}(h:xW w k u):k<w.heap.size:=zV w _ h.c
theorem xW.but{p k:Nat}{w w':World}{u:Value}(h:xW w k u)(hb:xS p w w')(hp:k≠p):xW w' k u :=
 ⟨hb.cell h.c hp,(hb.frozen (a:=⟨k,0,none⟩) h.lt hp).trans h.z,fun hs=>h.n (hs.of (hb.block k h.lt hp).symm)⟩
theorem xW.made(w:World)(u:Value)(t:TypeId)(ht:t≠9):xW (w.alloc (.cells #[u] t)) w.heap.size u :=
 ⟨xu _ _ _ _ _,by simp,fun ⟨cs,fr,h⟩=>ht (by
  have:(w.alloc (.cells #[u] t)).heap[w.heap.size]? = some (.cells #[u] t):=by show(w.heap.push _)[w.heap.size]? = _;simp
  rw[this] at h;simp only[zU,zG] at h;exact h.2.1)⟩
theorem xW.same{w:World}{k:Nat}{u:Value}(h:xW w k u)(x:Value):xW (w.setCell ⟨k,0,none⟩ x) k x:=⟨by rw[World.cell?_setCell_same (h:=h.c)],by simpa using h.z,fun hs=>h.n (Ly hs)⟩
theorem xW.other{w:World}{k j:Nat}{u:Value}(h:xW w k u)(hj:k≠j)(x:Value):xW (w.setCell ⟨j,0,none⟩ x) k u :=
 ⟨(zX (zg _ _ _ _ hj)).trans h.c,(zf (zg _ _ _ _ hj)).trans h.z,fun hs=>h.n (Ly hs)⟩
theorem xS.alloc{p:Nat}{w a:World}(h:xS p w a)(o:Obj):xS p w (a.alloc o):=h.below ((zy _ _).alloc (z8 _) _)
theorem xS.put{p k:Nat}{w a:World}(h:xS p w a)(hk:w.heap.size<=k)(u:Value):xS p w (a.setCell ⟨k,0,none⟩ u) :=
 ⟨h.os,h.tape,h.output,by simpa[zZ] using h.size,fun j hj hp=>(zg _ _ _ _ (show j≠k by omega)).trans (h.block j hj hp)⟩
theorem gX.put{w:World}{p k:Nat}{ws:List Wd}(h:gX w p ws)(hk:k≠p)(hs:¬Cp w k)(u:Value):gX (w.setCell ⟨k,0,none⟩ u) p ws:=by
 obtain⟨a,cap,hc,hf,h1,h2,h3⟩:=h;have hb:∀ j,j≠k->(w.setCell ⟨k,0,none⟩ u).heap[j]? = w.heap[j]? := fun j hj=>zg _ _ _ _ hj
 refine⟨a,cap,(zX (hb p hk.symm)).trans hc,(zf (hb p hk.symm)).trans hf,h1,h2,fun j hj=>?_⟩;obtain⟨b,e1,e2,e3⟩:=h3 j hj;have Zy:b.block≠k:=fun e=>hs (e▸e2.2)
 exact⟨b,e1,⟨e2.1,e2.2.of (hb _ Zy)⟩,(zX (hb _ (by rw[addr_add];exact Zy))).trans e3⟩
theorem sr{α β γ δ:Type}{P:α->β->γ->δ->Prop}{A:Prop}(G:α->β->γ->δ->Prop)(h1:∀ a b c d,P a b c d->G a b c d)(h2:(∀ a b c d,P a b c d->G a b c d)->A):A:=h2 h1
theorem jA{P:Program}{md:Region.Mode}{ops:Array Oper}{Q:Exit->Act->World->Prop}{S:World->Prop}{f:Nat}{m m':Array Bool}{a:Act}{w:World}(hm:m'=m)(h:wpAnyH P md ops Q S f m a w):wpAnyH P md ops Q S f m' a w:=hm▸h
theorem DX(p:Nat)(c:Wd)(t:List Wd)(w:World)(hp:gX w p (c::t))(hx:∀ x∈c::t,Cr x)(hT:RT p w)(hl:t.length<=999) :
  Calls prog 145 #[.pointer (some ⟨p,0,none⟩)] w (YE p (jm (c::t)) w):=by
 have HP:=z7 hp;have HX:=z7 hx;have HT:=z7 hT;have xC:=hp.lt;obtain⟨a,cap,hc,hf,h1,h2,h3⟩:=hp;obtain⟨b,rfl,hb,Kl⟩:=h3 0 (by simp);have OX:w.cell? b=some (xk c):=by
  have:(b.add 0)=b:=by simp[zF]
  rw[this] at Kl;exact Kl
 have hmx:cap<=9223372036854775807:=by unfold maxLen at h2;omega
 have hlen:(c::t).length=t.length+1:=rfl;rw[hlen] at hc h1;obtain⟨r,hr⟩:∃ r,jm (c::t)=r:=⟨_,rfl⟩;rw[hr];have HR:=z7 hr;have uC:=Co ⟨c.toArray⟩ w;rw[toList_mk] at uC;have HOP:=z7 uC;have hef:=eI;have fX:=Lz;have R0:∀ (fn:Fn) (first cap:Array Value) (w:World),(Instr.makeFunc fn first cap).run prog w = .ok (.func fn first cap) w:=fun _ _ _ _=>rfl
 clear Kl h3 hr hx hT uC;go_enter func145,ntmps145;go_wp2_with fail;refine HOP.out.mono ?_;rintro e w1 ⟨hq,rfl⟩
 cases ho:uZ c with
 | none =>
  rw[ho] at hq;obtain rfl:=hq;have vu:r=none:=by rw[←HR.out,jm,ho]
  have gj:=z7 vu;clear vu ho;go_wp2;refine⟨rfl,?_,(xS.refl _ _).alloc _⟩;rw[gj.out]
 | some F =>
  rw[ho] at hq;obtain⟨fv,rfl,pW⟩:=hq;have HFV:=z7 pW;have hK:=pW 0 0 w;obtain⟨kf,dp,rfl,_⟩:=hK;have HO:=z7 ho;clear pW ho;by_cases qY:cap=1
  ·have OP:t=[]:=List.eq_nil_of_length_eq_zero (by omega);subst OP;subst qY;go_wp2_with fail;have F1:∃ W1,W1=(w.setCell ⟨p,0,none⟩ (.slice (some b) 0 0)).alloc (.cells #[.func (.func kf) #[] dp] 309)/\xS p w W1/\W1.heap.size=w.heap.size+1/\gX W1 p ([]:List Wd)/\xW W1 w.heap.size (.func (.func kf) #[] dp):=by
    have hs:(w.setCell ⟨p,0,none⟩ (.slice (some b) 0 0)).heap.size=w.heap.size:=by simp[zZ]
    refine⟨_,rfl,(xS.set p w 0 _).alloc _,by simp[zZ],((HP.out.step hc).2 rfl).below ((zy _ _).alloc (z8 _) _),?_⟩;rw[←hs];exact xW.made _ _ _ (by decide)
   obtain⟨W1,VD,YT,uF,Ub,cQ1⟩:=F1;have T8:∀ o,((w.setCell ⟨p,0,none⟩ (.slice (some b) 0 0)).alloc (.cells #[.func (.func kf) #[] dp] 309)).alloc o=W1.alloc o:=fun o=>by rw[VD]
   have KI:=z7 Ub;have gQ:=z7 uF;have him:=eH p ([]:List Wd) W1 Ub;rw[uF] at him;have HIM:=z7 him;clear Ub uF him;rw[T8];clear T8 VD;refine HIM.out.mono ?_;rintro e w2 ⟨rfl,Xp,xD⟩;have uN:=YT.trans xD;have ZC:w.heap.size≠p:=by omega
   have Lx:=cQ1.but xD ZC;have GO:=z7 Xp;clear Xp cQ1
   cases hm:Hw (([]:List Wd).headD [])
   ·have j4:=GO.out;rw[hm] at j4;have QJ:=z7 j4;have HM:=z7 hm;clear j4 hm;have cQ:=Lx;obtain⟨Q,hQ⟩:∃ Q,Q=w.heap.size:=⟨_,rfl⟩;rw[←hQ] at cQ Lx ZC ⊢;have HQ:=z7 hQ;clear hQ;have O6:=z7 (Qk p (([]:List Wd)) w2 QJ.out (fun x h=>HX.out x (by simp[h])) (HT.out.but uN) (by omega));go_wp2_with fail;refine O6.out.mono ?_;rintro e w7 ⟨hq,jQ⟩;have jS:=uN.trans jQ;have gh:r=match vo (([]:List Wd)) with
      | none=>none
      | some ((i,nt),v)=>some ((fun x=>i (F x) !=nt),v):=by
     rw[←HR.out];rw[jm,HO.out];dsimp only;unfold Za;rw[HM.out];rfl
    cases hn:vo (([]:List Wd)) with
    | none =>
     rw[hn] at hq gh;obtain rfl:=hq;have gV:=z7 gh;clear gh hn;go_wp2;refine⟨rfl,?_,jS⟩;rw[gV.out]
    | some q =>
     obtain⟨⟨Tm,nt⟩,t'⟩:=q;rw[hn] at hq gh;obtain⟨⟨v,rfl,eL⟩,Ed⟩:=hq;have gV:=Lib.hid gh;have HTM:=Lib.hid eL;have HP7:=Lib.hid Ed;have eM:=cQ.but jQ ZC;have hQ7:=eM.lt;have HF7:=Lib.hid (Ss.keep (lo':=w.heap.size) (hi':=w7.heap.size) (HFV.out w.heap.size w2.heap.size w2) (jQ.keep xC (Nat.le_refl _)) (Nat.le_refl _) jQ.size);obtain⟨kt,Ch,rfl,_⟩:=eL;clear gh hn Ed;go_wp2;go_ret;have Zg:=jS.alloc (.cells #[.func (.func kt) #[] Ch] 214);have hbB:=Zg.alloc (.cells #[.bool nt] 4);have MW:(w7.alloc (.cells #[.func (.func kt) #[] Ch] 214)).heap.size=w7.heap.size+1:=by simp
     have hsB:((w7.alloc (.cells #[.func (.func kt) #[] Ch] 214)).alloc (.cells #[.bool nt] 4)).heap.size=w7.heap.size+2:=by simp
     have Fg:Below w7.heap.size w7 ((w7.alloc (.cells #[.func (.func kt) #[] Ch] 214)).alloc (.cells #[.bool nt] 4)):=((zy _ _).alloc (z8 _) _).alloc (by simp) _;refine⟨?_,hbB⟩;rw[gV.out];have hQw:=HQ.out;have hw7:=jS.size;refine⟨⟨_,rfl,185,_,rfl,fun args w=>enters_of func185 (by kernel_rfl) rfl args w,fun W hW nv x hx=>?_⟩,HP7.out.below Fg⟩;rw[hsB] at hW;have JU:vQ w.heap.size w7.heap.size w7 W:=hW.via (vV Fg (z8 _) (z8 _)) (z8 _) (by omega);refine Qq nv x _ _ _ _ _ nt Tm (F) w.heap.size w7.heap.size W hx ((hW.cell ?_ ?_).trans ?_) ((JU.cell ?_ hQ7).trans eM.c) ((hW.cell ?_ ?_).trans ?_) (HTM.out.keep (JU.via (vy (z8 _)) (by have:=uN.size;omega) (z8 _)) (by have:=uN.size;omega) (z8 _)) (HF7.out.keep JU (z8 _) (z8 _)) JU.1;all_goals first|(show w.heap.size<=w7.heap.size;omega)|(show w7.heap.size<w7.heap.size+2;omega)|(show w.heap.size<=w7.heap.size+1;omega)|(show w7.heap.size+1<w7.heap.size+2;omega)|(show w.heap.size<=Q;omega)|(go_simp;done)
   ·have j4:=GO.out;rw[hm] at j4;have QJ:=z7 j4;have HM:=z7 hm;clear j4 hm;have cQ:=Lx;obtain⟨Q,hQ⟩:∃ Q,Q=w.heap.size:=⟨_,rfl⟩;rw[←hQ] at cQ Lx ZC ⊢;have HQ:=z7 hQ;clear hQ;have Kj:=z7 (fun W (hb:xS p w W) (hp:gX W p ([]:List Wd).tail)=>fE p ([]:List Wd).tail W hp (fun x h=>HX.out x (zY _ (zu h))) (HT.out.but hb));have kO:w2.drew.cell? ⟨Q,0,none⟩=some (.func (.func kf) #[] dp):=Lx.c;have dz:=uN.drew;have aE:=z7 (show gX w2.drew p ([]:List Wd).tail from QJ.out.below (zy _ w2).drew);have T9:xW w2.drew Q (.func (.func kf) #[] dp):=⟨Lx.c,Lx.z,Lx.n⟩;clear YT;go_wp2_with fail;refine rt (fun W':World=>W'.cell? ⟨Q,0,none⟩=some (.func (.func kf) #[] dp)) [0,2] 5 kO ?_;(iterate 2 ((first|refine ty ?_|refine tn ?_);try simp only[pl]))
    refine xq ?_;generalize w2.drew=wD at dz aE T9 ⊢;apply sr (P:=fun (W:World) (k4 k5 mv:Nat)=>(∃ t3,kH (([]:List Wd)).tail=some (mv,t3)/\gX W p t3)/\xS p w W/\xW W Q (.func (.func kf) #[] dp)/\xW W k4 (.int .i64 0)/\xW W k5 .nilFunc/\w.heap.size<=k4/\w.heap.size<=k5/\k4≠k5/\k4≠p/\k5≠p/\k4≠Q/\k5≠Q)
    case h2 =>
     intro L;refine wpAnyH_ready (rs:=[1,3,4]) (by kernel_rfl) (by simp) (zv rfl (fun K hK=>?_) (zv rfl (fun K hK=>?_) (zv rfl (fun K hK=>?_) zj)))
     ·skip
      go_simp;refine(Kj.out wD dz aE.out).mono ?_;rintro e qM ⟨hq,YH⟩;obtain⟨q0,q9⟩:∃ q0,kH (([]:List Wd)).tail=q0:=⟨_,rfl⟩;rw[q9] at hq
      cases q0 with
      | none =>
       obtain rfl:=hq;refine⟨rfl,?_,dz.trans YH⟩;rw[←HR.out,jm,HO.out];dsimp only;unfold Za;rw[HM.out,if_pos rfl,q9]
      | some q0 =>
       obtain⟨mv,t3⟩:=q0;have HN:=z7 q9;obtain⟨rfl,Qj⟩:=hq;have XN:=z7 Qj;have vA:=dz.trans YH;have jt:=T9.but YH ZC;clear q9;clear Qj;refine hK.out _ _ jt.c (fun _=>?_);clear hK K;refine wpAnyH_ready (rs:=[3,4]) (by kernel_rfl) (by simp) (zv rfl (fun K hK=>?_) (zv rfl (fun K hK=>?_) zj))
       ·skip
        go_simp;have FA:∃ N,N=qM.alloc (.cells #[(.int .i64 0)] 3)/\xS p qM N/\xW N qM.heap.size (.int .i64 0):=⟨_,rfl,(xS.refl _ _).alloc _,xW.made _ _ _ (by decide)⟩;obtain⟨uT,hW,qf,bn⟩:=FA;have ZS:∀ o,o=zx (some ⟨qM.heap.size,0,none⟩)->o=o:=fun _ _=>rfl
        rw[←hW];have bo:=z7 (XN.out.below (show Below qM.heap.size qM uT by rw[hW];exact(zy _ _).alloc (z8 _) _));have vH:=vA.trans qf;have qT:=jt.but qf ZC;have uX:w.heap.size<=qM.heap.size:=vA.size;have kQ:qM.heap.size≠Q:=fun e=>by have:=jt.lt;omega
        clear hW ZS;obtain⟨k4,fM⟩:∃ k,k=qM.heap.size:=⟨_,rfl⟩;rw[←fM] at bn uX kQ ⊢;have kT:k4≠p:=by omega
        have pd:=z7 fM;clear fM;refine hK.out _ _ qT.c (fun _=>?_);clear hK K;refine xg 4 (by kernel_rfl) rfl (fun K hK=>?_);go_simp;have FA:∃ N,N=uT.alloc (.cells #[.nilFunc] 309)/\xS p uT N/\xW N uT.heap.size .nilFunc:=⟨_,rfl,(xS.refl _ _).alloc _,xW.made _ _ _ (by decide)⟩;obtain⟨XO,hW,uK,jh⟩:=FA;have ZS:∀ o,o=zx (some ⟨uT.heap.size,0,none⟩)->o=o:=fun _ _=>rfl
        rw[←hW];have fI:=z7 (bo.out.below (show Below uT.heap.size uT XO by rw[hW];exact(zy _ _).alloc (z8 _) _));have uJ:=vH.trans uK;have qw:=qT.but uK ZC;have uV:w.heap.size<=uT.heap.size:=vH.size;have kK:uT.heap.size≠Q:=fun e=>by have:=qT.lt;omega
        clear hW ZS;have kW:=bn.but uK kT;have bp:uT.heap.size≠k4:=fun e=>by have:=bn.lt;omega
        obtain⟨k5,bB⟩:∃ k,k=uT.heap.size:=⟨_,rfl⟩;rw[←bB] at jh uV kK ⊢;rw[←bB] at bp;have ke:k5≠p:=by omega
        have pZ:=z7 bB;clear bB;refine hK.out _ _ qw.c (fun _=>?_);clear hK K;refine jA (m:=#[true,true,true,true,true,false,false]) (by kernel_rfl) ?_;exact L XO k4 k5 mv ⟨⟨t3,HN.out,fI.out⟩,uJ,qw,kW,jh,uX,uV,by omega,kT,ke,kQ,kK⟩
       ·skip
        go_simp;have FA:∃ N,N=qM.alloc (.cells #[.nilFunc] 309)/\xS p qM N/\xW N qM.heap.size .nilFunc:=⟨_,rfl,(xS.refl _ _).alloc _,xW.made _ _ _ (by decide)⟩;obtain⟨uT,hW,qf,bh⟩:=FA;have ZS:∀ o,o=zx (some ⟨qM.heap.size,0,none⟩)->o=o:=fun _ _=>rfl
        rw[←hW];have bo:=z7 (XN.out.below (show Below qM.heap.size qM uT by rw[hW];exact(zy _ _).alloc (z8 _) _));have vH:=vA.trans qf;have qT:=jt.but qf ZC;have uV:w.heap.size<=qM.heap.size:=vA.size;have kK:qM.heap.size≠Q:=fun e=>by have:=jt.lt;omega
        clear hW ZS;obtain⟨k5,bB⟩:∃ k,k=qM.heap.size:=⟨_,rfl⟩;rw[←bB] at bh uV kK ⊢;have ke:k5≠p:=by omega
        have pZ:=z7 bB;clear bB;refine hK.out _ _ qT.c (fun _=>?_);clear hK K;refine xg 3 (by kernel_rfl) rfl (fun K hK=>?_);go_simp;have FA:∃ N,N=uT.alloc (.cells #[(.int .i64 0)] 3)/\xS p uT N/\xW N uT.heap.size (.int .i64 0):=⟨_,rfl,(xS.refl _ _).alloc _,xW.made _ _ _ (by decide)⟩;obtain⟨XO,hW,uK,kW⟩:=FA;have ZS:∀ o,o=zx (some ⟨uT.heap.size,0,none⟩)->o=o:=fun _ _=>rfl
        rw[←hW];have fI:=z7 (bo.out.below (show Below uT.heap.size uT XO by rw[hW];exact(zy _ _).alloc (z8 _) _));have uJ:=vH.trans uK;have qw:=qT.but uK ZC;have uX:w.heap.size<=uT.heap.size:=vH.size;have kQ:uT.heap.size≠Q:=fun e=>by have:=qT.lt;omega
        clear hW ZS;have jh:=bh.but uK ke;have bp:uT.heap.size≠k5:=fun e=>by have:=bh.lt;omega
        obtain⟨k4,fM⟩:∃ k,k=uT.heap.size:=⟨_,rfl⟩;rw[←fM] at kW uX kQ ⊢;rw[←fM] at bp;have kT:k4≠p:=by omega
        have pd:=z7 fM;clear fM;refine hK.out _ _ qw.c (fun _=>?_);clear hK K;refine jA (m:=#[true,true,true,true,true,false,false]) (by kernel_rfl) ?_;exact L XO k4 k5 mv ⟨⟨t3,HN.out,fI.out⟩,uJ,qw,kW,jh,uX,uV,by omega,kT,ke,kQ,kK⟩
     ·skip
      go_simp;have FA:∃ N,N=wD.alloc (.cells #[(.int .i64 0)] 3)/\xS p wD N/\xW N wD.heap.size (.int .i64 0):=⟨_,rfl,(xS.refl _ _).alloc _,xW.made _ _ _ (by decide)⟩;obtain⟨qM,hW,YH,Cw⟩:=FA;have ZS:∀ o,o=zx (some ⟨wD.heap.size,0,none⟩)->o=o:=fun _ _=>rfl
      rw[←hW];have XN:=z7 (aE.out.below (show Below wD.heap.size wD qM by rw[hW];exact(zy _ _).alloc (z8 _) _));have vA:=dz.trans YH;have jt:=T9.but YH ZC;have uX:w.heap.size<=wD.heap.size:=dz.size;have kQ:wD.heap.size≠Q:=fun e=>by have:=T9.lt;omega
      clear hW ZS;obtain⟨k4,fM⟩:∃ k,k=wD.heap.size:=⟨_,rfl⟩;rw[←fM] at Cw uX kQ ⊢;have kT:k4≠p:=by omega
      have pd:=z7 fM;clear fM;refine hK.out _ _ jt.c (fun _=>?_);clear hK K;refine wpAnyH_ready (rs:=[1,4]) (by kernel_rfl) (by simp) (zv rfl (fun K hK=>?_) (zv rfl (fun K hK=>?_) zj))
      ·skip
       go_simp;refine(Kj.out qM vA XN.out).mono ?_;rintro e uT ⟨hq,qf⟩;obtain⟨q0,q9⟩:∃ q0,kH (([]:List Wd)).tail=q0:=⟨_,rfl⟩;rw[q9] at hq
       cases q0 with
       | none =>
        obtain rfl:=hq;refine⟨rfl,?_,vA.trans qf⟩;rw[←HR.out,jm,HO.out];dsimp only;unfold Za;rw[HM.out,if_pos rfl,q9]
       | some q0 =>
        obtain⟨mv,t3⟩:=q0;have HN:=z7 q9;obtain⟨rfl,Qj⟩:=hq;have bo:=z7 Qj;have vH:=vA.trans qf;have qT:=jt.but qf ZC;clear q9;have bn:=Cw.but qf kT;clear Qj;refine hK.out _ _ qT.c (fun _=>?_);clear hK K;refine xg 4 (by kernel_rfl) rfl (fun K hK=>?_);go_simp;have FA:∃ N,N=uT.alloc (.cells #[.nilFunc] 309)/\xS p uT N/\xW N uT.heap.size .nilFunc:=⟨_,rfl,(xS.refl _ _).alloc _,xW.made _ _ _ (by decide)⟩;obtain⟨XO,hW,uK,jh⟩:=FA;have ZS:∀ o,o=zx (some ⟨uT.heap.size,0,none⟩)->o=o:=fun _ _=>rfl
        rw[←hW];have fI:=z7 (bo.out.below (show Below uT.heap.size uT XO by rw[hW];exact(zy _ _).alloc (z8 _) _));have uJ:=vH.trans uK;have qw:=qT.but uK ZC;have uV:w.heap.size<=uT.heap.size:=vH.size;have kK:uT.heap.size≠Q:=fun e=>by have:=qT.lt;omega
        clear hW ZS;have kW:=bn.but uK kT;have bp:uT.heap.size≠k4:=fun e=>by have:=bn.lt;omega
        obtain⟨k5,bB⟩:∃ k,k=uT.heap.size:=⟨_,rfl⟩;rw[←bB] at jh uV kK ⊢;rw[←bB] at bp;have ke:k5≠p:=by omega
        have pZ:=z7 bB;clear bB;refine hK.out _ _ qw.c (fun _=>?_);clear hK K;refine jA (m:=#[true,true,true,true,true,false,false]) (by kernel_rfl) ?_;exact L XO k4 k5 mv ⟨⟨t3,HN.out,fI.out⟩,uJ,qw,kW,jh,uX,uV,by omega,kT,ke,kQ,kK⟩
      ·skip
       go_simp;have FA:∃ N,N=qM.alloc (.cells #[.nilFunc] 309)/\xS p qM N/\xW N qM.heap.size .nilFunc:=⟨_,rfl,(xS.refl _ _).alloc _,xW.made _ _ _ (by decide)⟩;obtain⟨uT,hW,qf,bh⟩:=FA;have ZS:∀ o,o=zx (some ⟨qM.heap.size,0,none⟩)->o=o:=fun _ _=>rfl
       rw[←hW];have bo:=z7 (XN.out.below (show Below qM.heap.size qM uT by rw[hW];exact(zy _ _).alloc (z8 _) _));have vH:=vA.trans qf;have qT:=jt.but qf ZC;have uV:w.heap.size<=qM.heap.size:=vA.size;have kK:qM.heap.size≠Q:=fun e=>by have:=jt.lt;omega
       clear hW ZS;have bn:=Cw.but qf kT;have bp:qM.heap.size≠k4:=fun e=>by have:=Cw.lt;omega
       obtain⟨k5,bB⟩:∃ k,k=qM.heap.size:=⟨_,rfl⟩;rw[←bB] at bh uV kK ⊢;rw[←bB] at bp;have ke:k5≠p:=by omega
       have pZ:=z7 bB;clear bB;refine hK.out _ _ qT.c (fun _=>?_);clear hK K;refine xg 1 (by kernel_rfl) rfl (fun K hK=>?_);go_simp;refine(Kj.out uT vH bo.out).mono ?_;rintro e XO ⟨hq,uK⟩;obtain⟨q0,q9⟩:∃ q0,kH (([]:List Wd)).tail=q0:=⟨_,rfl⟩;rw[q9] at hq
       cases q0 with
       | none =>
        obtain rfl:=hq;refine⟨rfl,?_,vH.trans uK⟩;rw[←HR.out,jm,HO.out];dsimp only;unfold Za;rw[HM.out,if_pos rfl,q9]
       | some q0 =>
        obtain⟨mv,t3⟩:=q0;have HN:=z7 q9;obtain⟨rfl,Qj⟩:=hq;have fI:=z7 Qj;have uJ:=vH.trans uK;have qw:=qT.but uK ZC;clear q9;have kW:=bn.but uK kT;have jh:=bh.but uK ke;clear Qj;refine hK.out _ _ qw.c (fun _=>?_);clear hK K;refine jA (m:=#[true,true,true,true,true,false,false]) (by kernel_rfl) ?_;exact L XO k4 k5 mv ⟨⟨t3,HN.out,fI.out⟩,uJ,qw,kW,jh,uX,uV,by omega,kT,ke,kQ,kK⟩
     ·skip
      go_simp;have FA:∃ N,N=wD.alloc (.cells #[.nilFunc] 309)/\xS p wD N/\xW N wD.heap.size .nilFunc:=⟨_,rfl,(xS.refl _ _).alloc _,xW.made _ _ _ (by decide)⟩;obtain⟨qM,hW,YH,E0⟩:=FA;have ZS:∀ o,o=zx (some ⟨wD.heap.size,0,none⟩)->o=o:=fun _ _=>rfl
      rw[←hW];have XN:=z7 (aE.out.below (show Below wD.heap.size wD qM by rw[hW];exact(zy _ _).alloc (z8 _) _));have vA:=dz.trans YH;have jt:=T9.but YH ZC;have uV:w.heap.size<=wD.heap.size:=dz.size;have kK:wD.heap.size≠Q:=fun e=>by have:=T9.lt;omega
      clear hW ZS;obtain⟨k5,bB⟩:∃ k,k=wD.heap.size:=⟨_,rfl⟩;rw[←bB] at E0 uV kK ⊢;have ke:k5≠p:=by omega
      have pZ:=z7 bB;clear bB;refine hK.out _ _ jt.c (fun _=>?_);clear hK K;refine wpAnyH_ready (rs:=[1,3]) (by kernel_rfl) (by simp) (zv rfl (fun K hK=>?_) (zv rfl (fun K hK=>?_) zj))
      ·skip
       go_simp;refine(Kj.out qM vA XN.out).mono ?_;rintro e uT ⟨hq,qf⟩;obtain⟨q0,q9⟩:∃ q0,kH (([]:List Wd)).tail=q0:=⟨_,rfl⟩;rw[q9] at hq
       cases q0 with
       | none =>
        obtain rfl:=hq;refine⟨rfl,?_,vA.trans qf⟩;rw[←HR.out,jm,HO.out];dsimp only;unfold Za;rw[HM.out,if_pos rfl,q9]
       | some q0 =>
        obtain⟨mv,t3⟩:=q0;have HN:=z7 q9;obtain⟨rfl,Qj⟩:=hq;have bo:=z7 Qj;have vH:=vA.trans qf;have qT:=jt.but qf ZC;clear q9;have bh:=E0.but qf ke;clear Qj;refine hK.out _ _ qT.c (fun _=>?_);clear hK K;refine xg 3 (by kernel_rfl) rfl (fun K hK=>?_);go_simp;have FA:∃ N,N=uT.alloc (.cells #[(.int .i64 0)] 3)/\xS p uT N/\xW N uT.heap.size (.int .i64 0):=⟨_,rfl,(xS.refl _ _).alloc _,xW.made _ _ _ (by decide)⟩;obtain⟨XO,hW,uK,kW⟩:=FA;have ZS:∀ o,o=zx (some ⟨uT.heap.size,0,none⟩)->o=o:=fun _ _=>rfl
        rw[←hW];have fI:=z7 (bo.out.below (show Below uT.heap.size uT XO by rw[hW];exact(zy _ _).alloc (z8 _) _));have uJ:=vH.trans uK;have qw:=qT.but uK ZC;have uX:w.heap.size<=uT.heap.size:=vH.size;have kQ:uT.heap.size≠Q:=fun e=>by have:=qT.lt;omega
        clear hW ZS;have jh:=bh.but uK ke;have bp:uT.heap.size≠k5:=fun e=>by have:=bh.lt;omega
        obtain⟨k4,fM⟩:∃ k,k=uT.heap.size:=⟨_,rfl⟩;rw[←fM] at kW uX kQ ⊢;rw[←fM] at bp;have kT:k4≠p:=by omega
        have pd:=z7 fM;clear fM;refine hK.out _ _ qw.c (fun _=>?_);clear hK K;refine jA (m:=#[true,true,true,true,true,false,false]) (by kernel_rfl) ?_;exact L XO k4 k5 mv ⟨⟨t3,HN.out,fI.out⟩,uJ,qw,kW,jh,uX,uV,by omega,kT,ke,kQ,kK⟩
      ·skip
       go_simp;have FA:∃ N,N=qM.alloc (.cells #[(.int .i64 0)] 3)/\xS p qM N/\xW N qM.heap.size (.int .i64 0):=⟨_,rfl,(xS.refl _ _).alloc _,xW.made _ _ _ (by decide)⟩;obtain⟨uT,hW,qf,bn⟩:=FA;have ZS:∀ o,o=zx (some ⟨qM.heap.size,0,none⟩)->o=o:=fun _ _=>rfl
       rw[←hW];have bo:=z7 (XN.out.below (show Below qM.heap.size qM uT by rw[hW];exact(zy _ _).alloc (z8 _) _));have vH:=vA.trans qf;have qT:=jt.but qf ZC;have uX:w.heap.size<=qM.heap.size:=vA.size;have kQ:qM.heap.size≠Q:=fun e=>by have:=jt.lt;omega
       clear hW ZS;have bh:=E0.but qf ke;have bp:qM.heap.size≠k5:=fun e=>by have:=E0.lt;omega
       obtain⟨k4,fM⟩:∃ k,k=qM.heap.size:=⟨_,rfl⟩;rw[←fM] at bn uX kQ ⊢;rw[←fM] at bp;have kT:k4≠p:=by omega
       have pd:=z7 fM;clear fM;refine hK.out _ _ qT.c (fun _=>?_);clear hK K;refine xg 1 (by kernel_rfl) rfl (fun K hK=>?_);go_simp;refine(Kj.out uT vH bo.out).mono ?_;rintro e XO ⟨hq,uK⟩;obtain⟨q0,q9⟩:∃ q0,kH (([]:List Wd)).tail=q0:=⟨_,rfl⟩;rw[q9] at hq
       cases q0 with
       | none =>
        obtain rfl:=hq;refine⟨rfl,?_,vH.trans uK⟩;rw[←HR.out,jm,HO.out];dsimp only;unfold Za;rw[HM.out,if_pos rfl,q9]
       | some q0 =>
        obtain⟨mv,t3⟩:=q0;have HN:=z7 q9;obtain⟨rfl,Qj⟩:=hq;have fI:=z7 Qj;have uJ:=vH.trans uK;have qw:=qT.but uK ZC;clear q9;have kW:=bn.but uK kT;have jh:=bh.but uK ke;clear Qj;refine hK.out _ _ qw.c (fun _=>?_);clear hK K;refine jA (m:=#[true,true,true,true,true,false,false]) (by kernel_rfl) ?_;exact L XO k4 k5 mv ⟨⟨t3,HN.out,fI.out⟩,uJ,qw,kW,jh,uX,uV,by omega,kT,ke,kQ,kK⟩
    case h1 =>
     rintro XO k4 k5 mv ⟨⟨t3,q9,EV⟩,uJ,qw,kW,jh,uX,uV,Lv,kT,ke,kQ,kK⟩;have HN:=z7 q9;have DB:=(jq q9).1;have K5:=Zt q9;have fI:=z7 EV;clear q9 EV;refine xg 5 (by kernel_rfl) rfl (fun K hK=>?_);have y4:=kW.c;have y4z:=kW.z;go_simp;refine hK.out _ _ (qw.other (j:=k4) kQ.symm _).c (fun _=>?_);clear hK K y4 y4z;have c4S:=kW.same (.int .i64 mv);have eN:=jh.other (j:=k4) Lv.symm (.int .i64 mv);have cQS:=qw.other (j:=k4) kQ.symm (.int .i64 mv);have Lu:=uJ.put uX (.int .i64 mv);have lg:=z7 (fI.out.put kT kW.n (.int .i64 mv));generalize XO.setCell ⟨k4,0,none⟩ (.int .i64 mv)=wS at c4S eN cQS Lu lg ⊢;refine xg 6 (by kernel_rfl) rfl (fun K hK=>?_);have y5:=eN.c;have y5z:=eN.z;go_simp;refine hK.out _ _ (cQS.other (j:=k5) kK.symm _).c (fun _=>?_);clear hK K y5 y5z;have c4T:=c4S.other (j:=k5) Lv (.func (.func kf) #[] dp);have c5T:=eN.same (.func (.func kf) #[] dp);have eO:=cQS.other (j:=k5) kK.symm (.func (.func kf) #[] dp);have Ff:=Lu.put uV (.func (.func kf) #[] dp);have DO:=z7 (lg.out.put ke eN.n (.func (.func kf) #[] dp));generalize wS.setCell ⟨k5,0,none⟩ (.func (.func kf) #[] dp)=wT at c4T c5T eO Ff DO ⊢;refine wpAnyH_done (by kernel_rfl) ?_ _;have y4:=c4T.c;have yQ:=eO.c;have yQz:=eO.z;by_cases Dj:mv=0
     ·have vu:r=none:=by rw[←HR.out,jm,HO.out];dsimp only;unfold Za;rw[HM.out,if_pos rfl,HN.out];simp[Dj]
      have gj:=z7 vu;subst Dj;clear vu;go_wp2;refine⟨rfl,?_,Ff⟩;rw[gj.out]
     ·have hmz:((mv:Int)==0)=false:=by simp;omega
      have hre:jm (c::([]:List Wd))=match vo t3 with
        | none=>none
        | some ((i,nt),v)=>some ((fun x=>i (Du F mv x) !=nt),v):=by
       rw[jm,HO.out];dsimp only;unfold Za;rw[HM.out,if_pos rfl,HN.out];simp only[if_neg Dj];rfl
      have mf:=z7 hre;have Vf:0<mv:=by omega
      clear hre Dj;have cU:=eO.same (.func (.func 182) #[] #[.pointer (some ⟨k5,0,none⟩),.pointer (some ⟨k4,0,none⟩)]);have XP:=Ff.put (show w.heap.size<=Q by have:=HQ.out;omega) (.func (.func 182) #[] #[.pointer (some ⟨k5,0,none⟩),.pointer (some ⟨k4,0,none⟩)]);have sQ:=z7 (DO.out.put ZC eO.n (.func (.func 182) #[] #[.pointer (some ⟨k5,0,none⟩),.pointer (some ⟨k4,0,none⟩)]));have c4U:=c4T.other (j:=Q) kQ (.func (.func 182) #[] #[.pointer (some ⟨k5,0,none⟩),.pointer (some ⟨k4,0,none⟩)]);have c5U:=c5T.other (j:=Q) kK (.func (.func 182) #[] #[.pointer (some ⟨k5,0,none⟩),.pointer (some ⟨k4,0,none⟩)]);go_wp2_with fail;generalize wT.setCell ⟨Q,0,none⟩ (.func (.func 182) #[] #[.pointer (some ⟨k5,0,none⟩),.pointer (some ⟨k4,0,none⟩)])=wU at cU XP sQ c4U c5U ⊢;have hFU:Ss w.heap.size wU.heap.size wU (.func (.func 182) #[] #[.pointer (some ⟨k5,0,none⟩),.pointer (some ⟨k4,0,none⟩)]) (Du F mv) :=
       ⟨182,_,rfl,fun args w=>enters_of func182 (by kernel_rfl) rfl args w,fun W hW nv x hx =>
        It nv x k5 k4 _ mv F 0 0 W hx DB Vf ((hW.cell (p:=⟨k5,0,none⟩) uV c5U.lt).trans c5U.c) ((hW.cell (p:=⟨k4,0,none⟩) uX c4U.lt).trans c4U.c) (HFV.out 0 0 W) (Nat.zero_le _)⟩
      have HFU:=z7 hFU;have cQ:=cU;clear hFU y4 yQ yQz;have O6:=z7 (Qk p (t3) wU sQ.out (fun x h=>HX.out x (zY _ (zu (K5.mem x h)))) (HT.out.but XP) (by have UL:=K5.len;have QQ:(([]:List Wd)).tail.length<=(([]:List Wd)).length:=(by simp);omega));go_wp2_with fail;refine O6.out.mono ?_;rintro e w7 ⟨hq,jQ⟩;have jS:=XP.trans jQ;have gh:r=match vo (t3) with
        | none=>none
        | some ((i,nt),v)=>some ((fun x=>i ((Du F mv) x) !=nt),v):=by
       rw[←HR.out];exact mf.out
      cases hn:vo (t3) with
      | none =>
       rw[hn] at hq gh;obtain rfl:=hq;have gV:=z7 gh;clear gh hn;go_wp2;refine⟨rfl,?_,jS⟩;rw[gV.out]
      | some q =>
       obtain⟨⟨Tm,nt⟩,t'⟩:=q;rw[hn] at hq gh;obtain⟨⟨v,rfl,eL⟩,Ed⟩:=hq;have gV:=Lib.hid gh;have HTM:=Lib.hid eL;have HP7:=Lib.hid Ed;have eM:=cQ.but jQ ZC;have hQ7:=eM.lt;have HF7:=Lib.hid (Ss.keep (lo':=w.heap.size) (hi':=w7.heap.size) HFU.out (jQ.keep xC (Nat.le_refl _)) (Nat.le_refl _) jQ.size);obtain⟨kt,Ch,rfl,_⟩:=eL;clear gh hn Ed;go_wp2;go_ret;have Zg:=jS.alloc (.cells #[.func (.func kt) #[] Ch] 214);have hbB:=Zg.alloc (.cells #[.bool nt] 4);have MW:(w7.alloc (.cells #[.func (.func kt) #[] Ch] 214)).heap.size=w7.heap.size+1:=by simp
       have hsB:((w7.alloc (.cells #[.func (.func kt) #[] Ch] 214)).alloc (.cells #[.bool nt] 4)).heap.size=w7.heap.size+2:=by simp
       have Fg:Below w7.heap.size w7 ((w7.alloc (.cells #[.func (.func kt) #[] Ch] 214)).alloc (.cells #[.bool nt] 4)):=((zy _ _).alloc (z8 _) _).alloc (by simp) _;refine⟨?_,hbB⟩;rw[gV.out];have hQw:=HQ.out;have hw7:=jS.size;refine⟨⟨_,rfl,185,_,rfl,fun args w=>enters_of func185 (by kernel_rfl) rfl args w,fun W hW nv x hx=>?_⟩,HP7.out.below Fg⟩;rw[hsB] at hW;have JU:vQ w.heap.size w7.heap.size w7 W:=hW.via (vV Fg (z8 _) (z8 _)) (z8 _) (by omega);refine Qq nv x _ _ _ _ _ nt Tm ((Du F mv)) w.heap.size w7.heap.size W hx ((hW.cell ?_ ?_).trans ?_) ((JU.cell ?_ hQ7).trans eM.c) ((hW.cell ?_ ?_).trans ?_) (HTM.out.keep (JU.via (vy (z8 _)) (by have:=XP.size;omega) (z8 _)) (by have:=XP.size;omega) (z8 _)) (HF7.out.keep JU (z8 _) (z8 _)) JU.1;all_goals first|(show w.heap.size<=w7.heap.size;omega)|(show w7.heap.size<w7.heap.size+2;omega)|(show w.heap.size<=w7.heap.size+1;omega)|(show w7.heap.size+1<w7.heap.size+2;omega)|(show w.heap.size<=Q;omega)|(go_simp;done)
  ·have vx:¬(cap:Int)=1:=by omega
   go_wp2_with fail;have F1:∃ W1,W1=(w.setCell ⟨p,0,none⟩ (.slice (some (b.add 1)) t.length (cap - 1))).alloc (.cells #[.func (.func kf) #[] dp] 309)/\xS p w W1/\W1.heap.size=w.heap.size+1/\gX W1 p t/\xW W1 w.heap.size (.func (.func kf) #[] dp):=by
    have hs:(w.setCell ⟨p,0,none⟩ (.slice (some (b.add 1)) t.length (cap - 1))).heap.size=w.heap.size:=by simp[zZ]
    refine⟨_,rfl,(xS.set p w 0 _).alloc _,by simp[zZ],((HP.out.step hc).1).below ((zy _ _).alloc (z8 _) _),?_⟩;rw[←hs];exact xW.made _ _ _ (by decide)
   obtain⟨W1,VD,YT,uF,Ub,cQ1⟩:=F1;have T8:∀ o,((w.setCell ⟨p,0,none⟩ (.slice (some (b.add 1)) t.length (cap - 1))).alloc (.cells #[.func (.func kf) #[] dp] 309)).alloc o=W1.alloc o:=fun o=>by rw[VD]
   have KI:=z7 Ub;have gQ:=z7 uF;have him:=eH p t W1 Ub;rw[uF] at him;have HIM:=z7 him;clear Ub uF him;have zg8:(some (b.add 1):Option Addr)=some ⟨b.block,b.off+1,none⟩:=rfl;rw[zg8] at T8;rw[T8];clear T8 VD;refine HIM.out.mono ?_;rintro e w2 ⟨rfl,Xp,xD⟩;have uN:=YT.trans xD;have ZC:w.heap.size≠p:=by omega
   have Lx:=cQ1.but xD ZC;have GO:=z7 Xp;clear Xp cQ1
   cases hm:Hw (t.headD [])
   ·have j4:=GO.out;rw[hm] at j4;have QJ:=z7 j4;have HM:=z7 hm;clear j4 hm;have cQ:=Lx;obtain⟨Q,hQ⟩:∃ Q,Q=w.heap.size:=⟨_,rfl⟩;rw[←hQ] at cQ Lx ZC ⊢;have HQ:=z7 hQ;clear hQ;have O6:=z7 (Qk p (t) w2 QJ.out (fun x h=>HX.out x (by simp[h])) (HT.out.but uN) (by omega));go_wp2_with fail;refine O6.out.mono ?_;rintro e w7 ⟨hq,jQ⟩;have jS:=uN.trans jQ;have gh:r=match vo (t) with
      | none=>none
      | some ((i,nt),v)=>some ((fun x=>i (F x) !=nt),v):=by
     rw[←HR.out];rw[jm,HO.out];dsimp only;unfold Za;rw[HM.out];rfl
    cases hn:vo (t) with
    | none =>
     rw[hn] at hq gh;obtain rfl:=hq;have gV:=z7 gh;clear gh hn;go_wp2;refine⟨rfl,?_,jS⟩;rw[gV.out]
    | some q =>
     obtain⟨⟨Tm,nt⟩,t'⟩:=q;rw[hn] at hq gh;obtain⟨⟨v,rfl,eL⟩,Ed⟩:=hq;have gV:=Lib.hid gh;have HTM:=Lib.hid eL;have HP7:=Lib.hid Ed;have eM:=cQ.but jQ ZC;have hQ7:=eM.lt;have HF7:=Lib.hid (Ss.keep (lo':=w.heap.size) (hi':=w7.heap.size) (HFV.out w.heap.size w2.heap.size w2) (jQ.keep xC (Nat.le_refl _)) (Nat.le_refl _) jQ.size);obtain⟨kt,Ch,rfl,_⟩:=eL;clear gh hn Ed;go_wp2;go_ret;have Zg:=jS.alloc (.cells #[.func (.func kt) #[] Ch] 214);have hbB:=Zg.alloc (.cells #[.bool nt] 4);have MW:(w7.alloc (.cells #[.func (.func kt) #[] Ch] 214)).heap.size=w7.heap.size+1:=by simp
     have hsB:((w7.alloc (.cells #[.func (.func kt) #[] Ch] 214)).alloc (.cells #[.bool nt] 4)).heap.size=w7.heap.size+2:=by simp
     have Fg:Below w7.heap.size w7 ((w7.alloc (.cells #[.func (.func kt) #[] Ch] 214)).alloc (.cells #[.bool nt] 4)):=((zy _ _).alloc (z8 _) _).alloc (by simp) _;refine⟨?_,hbB⟩;rw[gV.out];have hQw:=HQ.out;have hw7:=jS.size;refine⟨⟨_,rfl,185,_,rfl,fun args w=>enters_of func185 (by kernel_rfl) rfl args w,fun W hW nv x hx=>?_⟩,HP7.out.below Fg⟩;rw[hsB] at hW;have JU:vQ w.heap.size w7.heap.size w7 W:=hW.via (vV Fg (z8 _) (z8 _)) (z8 _) (by omega);refine Qq nv x _ _ _ _ _ nt Tm (F) w.heap.size w7.heap.size W hx ((hW.cell ?_ ?_).trans ?_) ((JU.cell ?_ hQ7).trans eM.c) ((hW.cell ?_ ?_).trans ?_) (HTM.out.keep (JU.via (vy (z8 _)) (by have:=uN.size;omega) (z8 _)) (by have:=uN.size;omega) (z8 _)) (HF7.out.keep JU (z8 _) (z8 _)) JU.1;all_goals first|(show w.heap.size<=w7.heap.size;omega)|(show w7.heap.size<w7.heap.size+2;omega)|(show w.heap.size<=w7.heap.size+1;omega)|(show w7.heap.size+1<w7.heap.size+2;omega)|(show w.heap.size<=Q;omega)|(go_simp;done)
   ·have j4:=GO.out;rw[hm] at j4;have QJ:=z7 j4;have HM:=z7 hm;clear j4 hm;have cQ:=Lx;obtain⟨Q,hQ⟩:∃ Q,Q=w.heap.size:=⟨_,rfl⟩;rw[←hQ] at cQ Lx ZC ⊢;have HQ:=z7 hQ;clear hQ;have Kj:=z7 (fun W (hb:xS p w W) (hp:gX W p t.tail)=>fE p t.tail W hp (fun x h=>HX.out x (zY _ (zu h))) (HT.out.but hb));have kO:w2.drew.cell? ⟨Q,0,none⟩=some (.func (.func kf) #[] dp):=Lx.c;have dz:=uN.drew;have aE:=z7 (show gX w2.drew p t.tail from QJ.out.below (zy _ w2).drew);have T9:xW w2.drew Q (.func (.func kf) #[] dp):=⟨Lx.c,Lx.z,Lx.n⟩;clear YT;go_wp2_with fail;refine rt (fun W':World=>W'.cell? ⟨Q,0,none⟩=some (.func (.func kf) #[] dp)) [0,2] 5 kO ?_;(iterate 2 ((first|refine ty ?_|refine tn ?_);try simp only[pl]))
    refine xq ?_;generalize w2.drew=wD at dz aE T9 ⊢;apply sr (P:=fun (W:World) (k4 k5 mv:Nat)=>(∃ t3,kH (t).tail=some (mv,t3)/\gX W p t3)/\xS p w W/\xW W Q (.func (.func kf) #[] dp)/\xW W k4 (.int .i64 0)/\xW W k5 .nilFunc/\w.heap.size<=k4/\w.heap.size<=k5/\k4≠k5/\k4≠p/\k5≠p/\k4≠Q/\k5≠Q)
    case h2 =>
     intro L;refine wpAnyH_ready (rs:=[1,3,4]) (by kernel_rfl) (by simp) (zv rfl (fun K hK=>?_) (zv rfl (fun K hK=>?_) (zv rfl (fun K hK=>?_) zj)))
     ·skip
      go_simp;refine(Kj.out wD dz aE.out).mono ?_;rintro e qM ⟨hq,YH⟩;obtain⟨q0,q9⟩:∃ q0,kH (t).tail=q0:=⟨_,rfl⟩;rw[q9] at hq
      cases q0 with
      | none =>
       obtain rfl:=hq;refine⟨rfl,?_,dz.trans YH⟩;rw[←HR.out,jm,HO.out];dsimp only;unfold Za;rw[HM.out,if_pos rfl,q9]
      | some q0 =>
       obtain⟨mv,t3⟩:=q0;have HN:=z7 q9;obtain⟨rfl,Qj⟩:=hq;have XN:=z7 Qj;have vA:=dz.trans YH;have jt:=T9.but YH ZC;clear q9;clear Qj;refine hK.out _ _ jt.c (fun _=>?_);clear hK K;refine wpAnyH_ready (rs:=[3,4]) (by kernel_rfl) (by simp) (zv rfl (fun K hK=>?_) (zv rfl (fun K hK=>?_) zj))
       ·skip
        go_simp;have FA:∃ N,N=qM.alloc (.cells #[(.int .i64 0)] 3)/\xS p qM N/\xW N qM.heap.size (.int .i64 0):=⟨_,rfl,(xS.refl _ _).alloc _,xW.made _ _ _ (by decide)⟩;obtain⟨uT,hW,qf,bn⟩:=FA;have ZS:∀ o,o=zx (some ⟨qM.heap.size,0,none⟩)->o=o:=fun _ _=>rfl
        rw[←hW];have bo:=z7 (XN.out.below (show Below qM.heap.size qM uT by rw[hW];exact(zy _ _).alloc (z8 _) _));have vH:=vA.trans qf;have qT:=jt.but qf ZC;have uX:w.heap.size<=qM.heap.size:=vA.size;have kQ:qM.heap.size≠Q:=fun e=>by have:=jt.lt;omega
        clear hW ZS;obtain⟨k4,fM⟩:∃ k,k=qM.heap.size:=⟨_,rfl⟩;rw[←fM] at bn uX kQ ⊢;have kT:k4≠p:=by omega
        have pd:=z7 fM;clear fM;refine hK.out _ _ qT.c (fun _=>?_);clear hK K;refine xg 4 (by kernel_rfl) rfl (fun K hK=>?_);go_simp;have FA:∃ N,N=uT.alloc (.cells #[.nilFunc] 309)/\xS p uT N/\xW N uT.heap.size .nilFunc:=⟨_,rfl,(xS.refl _ _).alloc _,xW.made _ _ _ (by decide)⟩;obtain⟨XO,hW,uK,jh⟩:=FA;have ZS:∀ o,o=zx (some ⟨uT.heap.size,0,none⟩)->o=o:=fun _ _=>rfl
        rw[←hW];have fI:=z7 (bo.out.below (show Below uT.heap.size uT XO by rw[hW];exact(zy _ _).alloc (z8 _) _));have uJ:=vH.trans uK;have qw:=qT.but uK ZC;have uV:w.heap.size<=uT.heap.size:=vH.size;have kK:uT.heap.size≠Q:=fun e=>by have:=qT.lt;omega
        clear hW ZS;have kW:=bn.but uK kT;have bp:uT.heap.size≠k4:=fun e=>by have:=bn.lt;omega
        obtain⟨k5,bB⟩:∃ k,k=uT.heap.size:=⟨_,rfl⟩;rw[←bB] at jh uV kK ⊢;rw[←bB] at bp;have ke:k5≠p:=by omega
        have pZ:=z7 bB;clear bB;refine hK.out _ _ qw.c (fun _=>?_);clear hK K;refine jA (m:=#[true,true,true,true,true,false,false]) (by kernel_rfl) ?_;exact L XO k4 k5 mv ⟨⟨t3,HN.out,fI.out⟩,uJ,qw,kW,jh,uX,uV,by omega,kT,ke,kQ,kK⟩
       ·skip
        go_simp;have FA:∃ N,N=qM.alloc (.cells #[.nilFunc] 309)/\xS p qM N/\xW N qM.heap.size .nilFunc:=⟨_,rfl,(xS.refl _ _).alloc _,xW.made _ _ _ (by decide)⟩;obtain⟨uT,hW,qf,bh⟩:=FA;have ZS:∀ o,o=zx (some ⟨qM.heap.size,0,none⟩)->o=o:=fun _ _=>rfl
        rw[←hW];have bo:=z7 (XN.out.below (show Below qM.heap.size qM uT by rw[hW];exact(zy _ _).alloc (z8 _) _));have vH:=vA.trans qf;have qT:=jt.but qf ZC;have uV:w.heap.size<=qM.heap.size:=vA.size;have kK:qM.heap.size≠Q:=fun e=>by have:=jt.lt;omega
        clear hW ZS;obtain⟨k5,bB⟩:∃ k,k=qM.heap.size:=⟨_,rfl⟩;rw[←bB] at bh uV kK ⊢;have ke:k5≠p:=by omega
        have pZ:=z7 bB;clear bB;refine hK.out _ _ qT.c (fun _=>?_);clear hK K;refine xg 3 (by kernel_rfl) rfl (fun K hK=>?_);go_simp;have FA:∃ N,N=uT.alloc (.cells #[(.int .i64 0)] 3)/\xS p uT N/\xW N uT.heap.size (.int .i64 0):=⟨_,rfl,(xS.refl _ _).alloc _,xW.made _ _ _ (by decide)⟩;obtain⟨XO,hW,uK,kW⟩:=FA;have ZS:∀ o,o=zx (some ⟨uT.heap.size,0,none⟩)->o=o:=fun _ _=>rfl
        rw[←hW];have fI:=z7 (bo.out.below (show Below uT.heap.size uT XO by rw[hW];exact(zy _ _).alloc (z8 _) _));have uJ:=vH.trans uK;have qw:=qT.but uK ZC;have uX:w.heap.size<=uT.heap.size:=vH.size;have kQ:uT.heap.size≠Q:=fun e=>by have:=qT.lt;omega
        clear hW ZS;have jh:=bh.but uK ke;have bp:uT.heap.size≠k5:=fun e=>by have:=bh.lt;omega
        obtain⟨k4,fM⟩:∃ k,k=uT.heap.size:=⟨_,rfl⟩;rw[←fM] at kW uX kQ ⊢;rw[←fM] at bp;have kT:k4≠p:=by omega
        have pd:=z7 fM;clear fM;refine hK.out _ _ qw.c (fun _=>?_);clear hK K;refine jA (m:=#[true,true,true,true,true,false,false]) (by kernel_rfl) ?_;exact L XO k4 k5 mv ⟨⟨t3,HN.out,fI.out⟩,uJ,qw,kW,jh,uX,uV,by omega,kT,ke,kQ,kK⟩
     ·skip
      go_simp;have FA:∃ N,N=wD.alloc (.cells #[(.int .i64 0)] 3)/\xS p wD N/\xW N wD.heap.size (.int .i64 0):=⟨_,rfl,(xS.refl _ _).alloc _,xW.made _ _ _ (by decide)⟩;obtain⟨qM,hW,YH,Cw⟩:=FA;have ZS:∀ o,o=zx (some ⟨wD.heap.size,0,none⟩)->o=o:=fun _ _=>rfl
      rw[←hW];have XN:=z7 (aE.out.below (show Below wD.heap.size wD qM by rw[hW];exact(zy _ _).alloc (z8 _) _));have vA:=dz.trans YH;have jt:=T9.but YH ZC;have uX:w.heap.size<=wD.heap.size:=dz.size;have kQ:wD.heap.size≠Q:=fun e=>by have:=T9.lt;omega
      clear hW ZS;obtain⟨k4,fM⟩:∃ k,k=wD.heap.size:=⟨_,rfl⟩;rw[←fM] at Cw uX kQ ⊢;have kT:k4≠p:=by omega
      have pd:=z7 fM;clear fM;refine hK.out _ _ jt.c (fun _=>?_);clear hK K;refine wpAnyH_ready (rs:=[1,4]) (by kernel_rfl) (by simp) (zv rfl (fun K hK=>?_) (zv rfl (fun K hK=>?_) zj))
      ·skip
       go_simp;refine(Kj.out qM vA XN.out).mono ?_;rintro e uT ⟨hq,qf⟩;obtain⟨q0,q9⟩:∃ q0,kH (t).tail=q0:=⟨_,rfl⟩;rw[q9] at hq
       cases q0 with
       | none =>
        obtain rfl:=hq;refine⟨rfl,?_,vA.trans qf⟩;rw[←HR.out,jm,HO.out];dsimp only;unfold Za;rw[HM.out,if_pos rfl,q9]
       | some q0 =>
        obtain⟨mv,t3⟩:=q0;have HN:=z7 q9;obtain⟨rfl,Qj⟩:=hq;have bo:=z7 Qj;have vH:=vA.trans qf;have qT:=jt.but qf ZC;clear q9;have bn:=Cw.but qf kT;clear Qj;refine hK.out _ _ qT.c (fun _=>?_);clear hK K;refine xg 4 (by kernel_rfl) rfl (fun K hK=>?_);go_simp;have FA:∃ N,N=uT.alloc (.cells #[.nilFunc] 309)/\xS p uT N/\xW N uT.heap.size .nilFunc:=⟨_,rfl,(xS.refl _ _).alloc _,xW.made _ _ _ (by decide)⟩;obtain⟨XO,hW,uK,jh⟩:=FA;have ZS:∀ o,o=zx (some ⟨uT.heap.size,0,none⟩)->o=o:=fun _ _=>rfl
        rw[←hW];have fI:=z7 (bo.out.below (show Below uT.heap.size uT XO by rw[hW];exact(zy _ _).alloc (z8 _) _));have uJ:=vH.trans uK;have qw:=qT.but uK ZC;have uV:w.heap.size<=uT.heap.size:=vH.size;have kK:uT.heap.size≠Q:=fun e=>by have:=qT.lt;omega
        clear hW ZS;have kW:=bn.but uK kT;have bp:uT.heap.size≠k4:=fun e=>by have:=bn.lt;omega
        obtain⟨k5,bB⟩:∃ k,k=uT.heap.size:=⟨_,rfl⟩;rw[←bB] at jh uV kK ⊢;rw[←bB] at bp;have ke:k5≠p:=by omega
        have pZ:=z7 bB;clear bB;refine hK.out _ _ qw.c (fun _=>?_);clear hK K;refine jA (m:=#[true,true,true,true,true,false,false]) (by kernel_rfl) ?_;exact L XO k4 k5 mv ⟨⟨t3,HN.out,fI.out⟩,uJ,qw,kW,jh,uX,uV,by omega,kT,ke,kQ,kK⟩
      ·skip
       go_simp;have FA:∃ N,N=qM.alloc (.cells #[.nilFunc] 309)/\xS p qM N/\xW N qM.heap.size .nilFunc:=⟨_,rfl,(xS.refl _ _).alloc _,xW.made _ _ _ (by decide)⟩;obtain⟨uT,hW,qf,bh⟩:=FA;have ZS:∀ o,o=zx (some ⟨qM.heap.size,0,none⟩)->o=o:=fun _ _=>rfl
       rw[←hW];have bo:=z7 (XN.out.below (show Below qM.heap.size qM uT by rw[hW];exact(zy _ _).alloc (z8 _) _));have vH:=vA.trans qf;have qT:=jt.but qf ZC;have uV:w.heap.size<=qM.heap.size:=vA.size;have kK:qM.heap.size≠Q:=fun e=>by have:=jt.lt;omega
       clear hW ZS;have bn:=Cw.but qf kT;have bp:qM.heap.size≠k4:=fun e=>by have:=Cw.lt;omega
       obtain⟨k5,bB⟩:∃ k,k=qM.heap.size:=⟨_,rfl⟩;rw[←bB] at bh uV kK ⊢;rw[←bB] at bp;have ke:k5≠p:=by omega
       have pZ:=z7 bB;clear bB;refine hK.out _ _ qT.c (fun _=>?_);clear hK K;refine xg 1 (by kernel_rfl) rfl (fun K hK=>?_);go_simp;refine(Kj.out uT vH bo.out).mono ?_;rintro e XO ⟨hq,uK⟩;obtain⟨q0,q9⟩:∃ q0,kH (t).tail=q0:=⟨_,rfl⟩;rw[q9] at hq
       cases q0 with
       | none =>
        obtain rfl:=hq;refine⟨rfl,?_,vH.trans uK⟩;rw[←HR.out,jm,HO.out];dsimp only;unfold Za;rw[HM.out,if_pos rfl,q9]
       | some q0 =>
        obtain⟨mv,t3⟩:=q0;have HN:=z7 q9;obtain⟨rfl,Qj⟩:=hq;have fI:=z7 Qj;have uJ:=vH.trans uK;have qw:=qT.but uK ZC;clear q9;have kW:=bn.but uK kT;have jh:=bh.but uK ke;clear Qj;refine hK.out _ _ qw.c (fun _=>?_);clear hK K;refine jA (m:=#[true,true,true,true,true,false,false]) (by kernel_rfl) ?_;exact L XO k4 k5 mv ⟨⟨t3,HN.out,fI.out⟩,uJ,qw,kW,jh,uX,uV,by omega,kT,ke,kQ,kK⟩
     ·skip
      go_simp;have FA:∃ N,N=wD.alloc (.cells #[.nilFunc] 309)/\xS p wD N/\xW N wD.heap.size .nilFunc:=⟨_,rfl,(xS.refl _ _).alloc _,xW.made _ _ _ (by decide)⟩;obtain⟨qM,hW,YH,E0⟩:=FA;have ZS:∀ o,o=zx (some ⟨wD.heap.size,0,none⟩)->o=o:=fun _ _=>rfl
      rw[←hW];have XN:=z7 (aE.out.below (show Below wD.heap.size wD qM by rw[hW];exact(zy _ _).alloc (z8 _) _));have vA:=dz.trans YH;have jt:=T9.but YH ZC;have uV:w.heap.size<=wD.heap.size:=dz.size;have kK:wD.heap.size≠Q:=fun e=>by have:=T9.lt;omega
      clear hW ZS;obtain⟨k5,bB⟩:∃ k,k=wD.heap.size:=⟨_,rfl⟩;rw[←bB] at E0 uV kK ⊢;have ke:k5≠p:=by omega
      have pZ:=z7 bB;clear bB;refine hK.out _ _ jt.c (fun _=>?_);clear hK K;refine wpAnyH_ready (rs:=[1,3]) (by kernel_rfl) (by simp) (zv rfl (fun K hK=>?_) (zv rfl (fun K hK=>?_) zj))
      ·skip
       go_simp;refine(Kj.out qM vA XN.out).mono ?_;rintro e uT ⟨hq,qf⟩;obtain⟨q0,q9⟩:∃ q0,kH (t).tail=q0:=⟨_,rfl⟩;rw[q9] at hq
       cases q0 with
       | none =>
        obtain rfl:=hq;refine⟨rfl,?_,vA.trans qf⟩;rw[←HR.out,jm,HO.out];dsimp only;unfold Za;rw[HM.out,if_pos rfl,q9]
       | some q0 =>
        obtain⟨mv,t3⟩:=q0;have HN:=z7 q9;obtain⟨rfl,Qj⟩:=hq;have bo:=z7 Qj;have vH:=vA.trans qf;have qT:=jt.but qf ZC;clear q9;have bh:=E0.but qf ke;clear Qj;refine hK.out _ _ qT.c (fun _=>?_);clear hK K;refine xg 3 (by kernel_rfl) rfl (fun K hK=>?_);go_simp;have FA:∃ N,N=uT.alloc (.cells #[(.int .i64 0)] 3)/\xS p uT N/\xW N uT.heap.size (.int .i64 0):=⟨_,rfl,(xS.refl _ _).alloc _,xW.made _ _ _ (by decide)⟩;obtain⟨XO,hW,uK,kW⟩:=FA;have ZS:∀ o,o=zx (some ⟨uT.heap.size,0,none⟩)->o=o:=fun _ _=>rfl
        rw[←hW];have fI:=z7 (bo.out.below (show Below uT.heap.size uT XO by rw[hW];exact(zy _ _).alloc (z8 _) _));have uJ:=vH.trans uK;have qw:=qT.but uK ZC;have uX:w.heap.size<=uT.heap.size:=vH.size;have kQ:uT.heap.size≠Q:=fun e=>by have:=qT.lt;omega
        clear hW ZS;have jh:=bh.but uK ke;have bp:uT.heap.size≠k5:=fun e=>by have:=bh.lt;omega
        obtain⟨k4,fM⟩:∃ k,k=uT.heap.size:=⟨_,rfl⟩;rw[←fM] at kW uX kQ ⊢;rw[←fM] at bp;have kT:k4≠p:=by omega
        have pd:=z7 fM;clear fM;refine hK.out _ _ qw.c (fun _=>?_);clear hK K;refine jA (m:=#[true,true,true,true,true,false,false]) (by kernel_rfl) ?_;exact L XO k4 k5 mv ⟨⟨t3,HN.out,fI.out⟩,uJ,qw,kW,jh,uX,uV,by omega,kT,ke,kQ,kK⟩
      ·skip
       go_simp;have FA:∃ N,N=qM.alloc (.cells #[(.int .i64 0)] 3)/\xS p qM N/\xW N qM.heap.size (.int .i64 0):=⟨_,rfl,(xS.refl _ _).alloc _,xW.made _ _ _ (by decide)⟩;obtain⟨uT,hW,qf,bn⟩:=FA;have ZS:∀ o,o=zx (some ⟨qM.heap.size,0,none⟩)->o=o:=fun _ _=>rfl
       rw[←hW];have bo:=z7 (XN.out.below (show Below qM.heap.size qM uT by rw[hW];exact(zy _ _).alloc (z8 _) _));have vH:=vA.trans qf;have qT:=jt.but qf ZC;have uX:w.heap.size<=qM.heap.size:=vA.size;have kQ:qM.heap.size≠Q:=fun e=>by have:=jt.lt;omega
       clear hW ZS;have bh:=E0.but qf ke;have bp:qM.heap.size≠k5:=fun e=>by have:=E0.lt;omega
       obtain⟨k4,fM⟩:∃ k,k=qM.heap.size:=⟨_,rfl⟩;rw[←fM] at bn uX kQ ⊢;rw[←fM] at bp;have kT:k4≠p:=by omega
       have pd:=z7 fM;clear fM;refine hK.out _ _ qT.c (fun _=>?_);clear hK K;refine xg 1 (by kernel_rfl) rfl (fun K hK=>?_);go_simp;refine(Kj.out uT vH bo.out).mono ?_;rintro e XO ⟨hq,uK⟩;obtain⟨q0,q9⟩:∃ q0,kH (t).tail=q0:=⟨_,rfl⟩;rw[q9] at hq
       cases q0 with
       | none =>
        obtain rfl:=hq;refine⟨rfl,?_,vH.trans uK⟩;rw[←HR.out,jm,HO.out];dsimp only;unfold Za;rw[HM.out,if_pos rfl,q9]
       | some q0 =>
        obtain⟨mv,t3⟩:=q0;have HN:=z7 q9;obtain⟨rfl,Qj⟩:=hq;have fI:=z7 Qj;have uJ:=vH.trans uK;have qw:=qT.but uK ZC;clear q9;have kW:=bn.but uK kT;have jh:=bh.but uK ke;clear Qj;refine hK.out _ _ qw.c (fun _=>?_);clear hK K;refine jA (m:=#[true,true,true,true,true,false,false]) (by kernel_rfl) ?_;exact L XO k4 k5 mv ⟨⟨t3,HN.out,fI.out⟩,uJ,qw,kW,jh,uX,uV,by omega,kT,ke,kQ,kK⟩
    case h1 =>
     rintro XO k4 k5 mv ⟨⟨t3,q9,EV⟩,uJ,qw,kW,jh,uX,uV,Lv,kT,ke,kQ,kK⟩;have HN:=z7 q9;have DB:=(jq q9).1;have K5:=Zt q9;have fI:=z7 EV;clear q9 EV;refine xg 5 (by kernel_rfl) rfl (fun K hK=>?_);have y4:=kW.c;have y4z:=kW.z;go_simp;refine hK.out _ _ (qw.other (j:=k4) kQ.symm _).c (fun _=>?_);clear hK K y4 y4z;have c4S:=kW.same (.int .i64 mv);have eN:=jh.other (j:=k4) Lv.symm (.int .i64 mv);have cQS:=qw.other (j:=k4) kQ.symm (.int .i64 mv);have Lu:=uJ.put uX (.int .i64 mv);have lg:=z7 (fI.out.put kT kW.n (.int .i64 mv));generalize XO.setCell ⟨k4,0,none⟩ (.int .i64 mv)=wS at c4S eN cQS Lu lg ⊢;refine xg 6 (by kernel_rfl) rfl (fun K hK=>?_);have y5:=eN.c;have y5z:=eN.z;go_simp;refine hK.out _ _ (cQS.other (j:=k5) kK.symm _).c (fun _=>?_);clear hK K y5 y5z;have c4T:=c4S.other (j:=k5) Lv (.func (.func kf) #[] dp);have c5T:=eN.same (.func (.func kf) #[] dp);have eO:=cQS.other (j:=k5) kK.symm (.func (.func kf) #[] dp);have Ff:=Lu.put uV (.func (.func kf) #[] dp);have DO:=z7 (lg.out.put ke eN.n (.func (.func kf) #[] dp));generalize wS.setCell ⟨k5,0,none⟩ (.func (.func kf) #[] dp)=wT at c4T c5T eO Ff DO ⊢;refine wpAnyH_done (by kernel_rfl) ?_ _;have y4:=c4T.c;have yQ:=eO.c;have yQz:=eO.z;by_cases Dj:mv=0
     ·have vu:r=none:=by rw[←HR.out,jm,HO.out];dsimp only;unfold Za;rw[HM.out,if_pos rfl,HN.out];simp[Dj]
      have gj:=z7 vu;subst Dj;clear vu;go_wp2;refine⟨rfl,?_,Ff⟩;rw[gj.out]
     ·have hmz:((mv:Int)==0)=false:=by simp;omega
      have hre:jm (c::t)=match vo t3 with
        | none=>none
        | some ((i,nt),v)=>some ((fun x=>i (Du F mv x) !=nt),v):=by
       rw[jm,HO.out];dsimp only;unfold Za;rw[HM.out,if_pos rfl,HN.out];simp only[if_neg Dj];rfl
      have mf:=z7 hre;have Vf:0<mv:=by omega
      clear hre Dj;have cU:=eO.same (.func (.func 182) #[] #[.pointer (some ⟨k5,0,none⟩),.pointer (some ⟨k4,0,none⟩)]);have XP:=Ff.put (show w.heap.size<=Q by have:=HQ.out;omega) (.func (.func 182) #[] #[.pointer (some ⟨k5,0,none⟩),.pointer (some ⟨k4,0,none⟩)]);have sQ:=z7 (DO.out.put ZC eO.n (.func (.func 182) #[] #[.pointer (some ⟨k5,0,none⟩),.pointer (some ⟨k4,0,none⟩)]));have c4U:=c4T.other (j:=Q) kQ (.func (.func 182) #[] #[.pointer (some ⟨k5,0,none⟩),.pointer (some ⟨k4,0,none⟩)]);have c5U:=c5T.other (j:=Q) kK (.func (.func 182) #[] #[.pointer (some ⟨k5,0,none⟩),.pointer (some ⟨k4,0,none⟩)]);go_wp2_with fail;generalize wT.setCell ⟨Q,0,none⟩ (.func (.func 182) #[] #[.pointer (some ⟨k5,0,none⟩),.pointer (some ⟨k4,0,none⟩)])=wU at cU XP sQ c4U c5U ⊢;have hFU:Ss w.heap.size wU.heap.size wU (.func (.func 182) #[] #[.pointer (some ⟨k5,0,none⟩),.pointer (some ⟨k4,0,none⟩)]) (Du F mv) :=
       ⟨182,_,rfl,fun args w=>enters_of func182 (by kernel_rfl) rfl args w,fun W hW nv x hx =>
        It nv x k5 k4 _ mv F 0 0 W hx DB Vf ((hW.cell (p:=⟨k5,0,none⟩) uV c5U.lt).trans c5U.c) ((hW.cell (p:=⟨k4,0,none⟩) uX c4U.lt).trans c4U.c) (HFV.out 0 0 W) (Nat.zero_le _)⟩
      have HFU:=z7 hFU;have cQ:=cU;clear hFU y4 yQ yQz;have O6:=z7 (Qk p (t3) wU sQ.out (fun x h=>HX.out x (zY _ (zu (K5.mem x h)))) (HT.out.but XP) (by have UL:=K5.len;have QQ:(t).tail.length<=(t).length:=(by simp);omega));go_wp2_with fail;refine O6.out.mono ?_;rintro e w7 ⟨hq,jQ⟩;have jS:=XP.trans jQ;have gh:r=match vo (t3) with
        | none=>none
        | some ((i,nt),v)=>some ((fun x=>i ((Du F mv) x) !=nt),v):=by
       rw[←HR.out];exact mf.out
      cases hn:vo (t3) with
      | none =>
       rw[hn] at hq gh;obtain rfl:=hq;have gV:=z7 gh;clear gh hn;go_wp2;refine⟨rfl,?_,jS⟩;rw[gV.out]
      | some q =>
       obtain⟨⟨Tm,nt⟩,t'⟩:=q;rw[hn] at hq gh;obtain⟨⟨v,rfl,eL⟩,Ed⟩:=hq;have gV:=Lib.hid gh;have HTM:=Lib.hid eL;have HP7:=Lib.hid Ed;have eM:=cQ.but jQ ZC;have hQ7:=eM.lt;have HF7:=Lib.hid (Ss.keep (lo':=w.heap.size) (hi':=w7.heap.size) HFU.out (jQ.keep xC (Nat.le_refl _)) (Nat.le_refl _) jQ.size);obtain⟨kt,Ch,rfl,_⟩:=eL;clear gh hn Ed;go_wp2;go_ret;have Zg:=jS.alloc (.cells #[.func (.func kt) #[] Ch] 214);have hbB:=Zg.alloc (.cells #[.bool nt] 4);have MW:(w7.alloc (.cells #[.func (.func kt) #[] Ch] 214)).heap.size=w7.heap.size+1:=by simp
       have hsB:((w7.alloc (.cells #[.func (.func kt) #[] Ch] 214)).alloc (.cells #[.bool nt] 4)).heap.size=w7.heap.size+2:=by simp
       have Fg:Below w7.heap.size w7 ((w7.alloc (.cells #[.func (.func kt) #[] Ch] 214)).alloc (.cells #[.bool nt] 4)):=((zy _ _).alloc (z8 _) _).alloc (by simp) _;refine⟨?_,hbB⟩;rw[gV.out];have hQw:=HQ.out;have hw7:=jS.size;refine⟨⟨_,rfl,185,_,rfl,fun args w=>enters_of func185 (by kernel_rfl) rfl args w,fun W hW nv x hx=>?_⟩,HP7.out.below Fg⟩;rw[hsB] at hW;have JU:vQ w.heap.size w7.heap.size w7 W:=hW.via (vV Fg (z8 _) (z8 _)) (z8 _) (by omega);refine Qq nv x _ _ _ _ _ nt Tm ((Du F mv)) w.heap.size w7.heap.size W hx ((hW.cell ?_ ?_).trans ?_) ((JU.cell ?_ hQ7).trans eM.c) ((hW.cell ?_ ?_).trans ?_) (HTM.out.keep (JU.via (vy (z8 _)) (by have:=XP.size;omega) (z8 _)) (by have:=XP.size;omega) (z8 _)) (HF7.out.keep JU (z8 _) (z8 _)) JU.1;all_goals first|(show w.heap.size<=w7.heap.size;omega)|(show w7.heap.size<w7.heap.size+2;omega)|(show w.heap.size<=w7.heap.size+1;omega)|(show w7.heap.size+1<w7.heap.size+2;omega)|(show w.heap.size<=Q;omega)|(go_simp;done)
theorem E7(p:Nat)(ws:List Wd)(w:World)(hp:gX w p ws)(hx:∀ x∈ws,Cr x)(hT:RT p w)(hl:ws.length<=1000) :
  Calls prog 145 #[.pointer (some ⟨p,0,none⟩)] w (YE p (jm ws) w):=by
 match ws,hp,hx,hl with
 | [],hp,_,_=>exact Ct p w hp
 | c::t,hp,hx,hl=>exact DX p c t w hp hx hT (by simpa using hl)
def zq8(p:Nat)(w:World)(v:Value)(P:Parser):Prop :=
 ∃ k first cap,v = .func (.func k) first cap/\(∀ args w,(callFunc k args).run prog w = .ok (.enter k args) w) /\
  ∀ W ws,xS p w W->gX W p ws->(∀ x∈ws,Cr x)->ws.length<=1000->Calls prog k (first++cap) W (YE p (P ws) W)
def zq9(v:Value)(rp:List qO->qO):Prop :=
 ∃ k,v = .func (.func k) #[] #[]/\(∀ args w,(callFunc k args).run prog w = .ok (.enter k args) w) /\
  ∀ (Ts:List qO) (a:Option Addr) (c lo:Nat) (W:World),Ts.length<=1000000->lo<=W.heap.size->bW lo W.heap.size W a Ts ->
   Calls prog k #[.slice a Ts.length c] W fun e w'=>(∃ v,e = .returned v/\km lo w'.heap.size w' v (rp Ts))/\Below W.heap.size W w'
def zqz(p:Nat)(word:Wd)(P:Parser)(r:Option (List qO×List Wd))(n0:Nat)(w:World)(sv:Value)(n:Nat)(wr:World):Prop :=
 ∃ (Ts:List qO) (us:List Wd),ZB w.heap.size wr sv Ts/\gX wr p us/\xS p w wr/\us.length+Ts.length<=n0+1/\(∀ x∈us,Cr x)/\us.length<=n/\us.length<=n0 /\
  (if ZA word us then fk word P n Ts us.tail else some (Ts,us))=r
theorem pY{lo l0 h0:Nat}{w:World}{u:Value}{T:qO}(hT:km l0 h0 w u T)(Ex:lo<=l0)(hh:h0<=w.heap.size)(hl:lo<=w.heap.size) :
  ZB lo (w.alloc (.cells #[u] 214)) (.slice (some ⟨w.heap.size,0,none⟩) 1 1) [T]:=by
 have hb:Below w.heap.size w (w.alloc (.cells #[u] 214)):=(zy _ _).alloc (z8 _) _;refine⟨[u],World.ownsRow_lit w #[u] 1 hl (by decide) rfl,fun j hj=>?_⟩;have:j=0:=by simp at hj;omega
 subst this;exact⟨u,l0,h0,rfl,Ex,zk hh hb.size,fun g hg=>by cases hg;exact .inr hh,hT.keep (vV hb hh hh) (z8 _) (z8 _)⟩
theorem PS(p:Nat)(word:Wd)(rp:List qO->qO)(P:Parser)(tv ov:Value)(ws:List Wd)(w:World)(hp:gX w p ws)(hx:∀ x∈ws,Cr x)(hl:ws.length<=1000)(ht:zq9 tv rp)(ho:zq8 p w ov P)(hs:∀ us T t,P us=some (T,t)->Sub t us) :
  Calls prog 141 #[.pointer (some ⟨p,0,none⟩),xk word,tv,ov] w (YE p (Cb word rp P ws) w):=by
 obtain⟨r,hr⟩:∃ r,fk word P (ws.length+1) [] ws=r:=⟨_,rfl⟩;have hpr:Cb word rp P ws=r.map fun q=>(rp q.1,q.2):=by unfold Cb;rw[hr]
 rw[hpr];have HR:=z7 hr;have HX:=z7 hx;have HP:=z7 hp;have HS:=z7 hs;have xC:=hp.lt;obtain⟨kt,rfl,het,zmg⟩:=ht;obtain⟨ko,first,cap,rfl,heo,eP⟩:=ho;have ydb:=z7 zmg;have Gj:=z7 eP;clear hr hpr hx hp hs zmg eP;go_enter func141,ntmps141;go_wp2_with fail;refine(Gj.out w ws (xS.refl _ _) HP.out HX.out hl).mono ?_;rintro e w1 ⟨hq,xB⟩
 cases hn:P ws with
 | none =>
  rw[hn] at hq;obtain rfl:=hq;have vu:r=none:=by rw[←HR.out,fk,hn]
  have gj:=z7 vu;clear vu hn;go_wp2;refine⟨rfl,?_,xB⟩;rw[gj.out];rfl
 | some q =>
  obtain⟨T1,t1⟩:=q;rw[hn] at hq;obtain⟨⟨v,rfl,hT1⟩,Ub⟩:=hq;have eR:=HS.out _ _ _ hn;have Kr:=pY hT1 (z8 w.heap.size) (z8 _) xB.size;have HRL:=z7 Kr;obtain⟨kv,cpv,rfl,_⟩:=hT1;have yb0:xS p w (w1.alloc (.cells #[.func (.func kv) #[] cpv] 214)):=xB.below ((zy _ _).alloc (z8 _) _);have zmf:gX (w1.alloc (.cells #[.func (.func kv) #[] cpv] 214)) p t1:=Ub.below ((zy _ _).alloc (z8 _) _);have KI:=z7 zmf;have gh:(if ZA word t1 then fk word P ws.length [T1] t1.tail else some ([T1],t1))=r:=by rw[←HR.out,fk,hn];rfl
  have gV:=z7 gh;have eS:=z7 (fun x hx=>HX.out x (eR.mem x hx));have zmd:=eR.len;clear hn Ub zmf Kr gh eR;go_wp2_with fail;go_loopg [9] ws.length (fun n sv wr=>zqz p word P r ws.length w sv n wr)
  case atStart=>exact⟨[T1],t1,HRL.out,KI.out,yb0,by simp;omega,eS.out,zmd,zmd,gV.out⟩
  case round =>
   obtain⟨Ts,us,vE,EZ,gT,hlen,Oi,hun,hu0,jH⟩:=hrel;have qV:=z7 vE;have HPA:=z7 EZ;have HXS:=z7 Oi;have dP:=z7 jH;obtain⟨a,c,rfl⟩:=vE.form;clear vE EZ Oi jH;go_wp2_with fail;refine(fH p word us _ HPA.out).mono ?_;rintro e w2 ⟨rfl,Xp,xD⟩;have uN:=gT.trans xD;have Fu:=z7 (qV.out.but xD xC);have GO:=z7 Xp;clear Xp
   cases hi:ZA word us
   ·have jH:=dP.out;rw[hi] at jH;have Xp:=GO.out;rw[hi] at Xp;have Vq:=z7 jH;have HPZ:=z7 Xp;have b8:=ydb.out Ts a c w.heap.size w2 (by omega) uN.size Fu.out.tests;have HSM:=z7 b8;clear hi jH Xp b8;go_wp2_with fail;refine HSM.out.mono ?_;rintro e w3 ⟨⟨v,rfl,htt⟩,uD⟩;have Fv:=z7 htt;clear htt;go_wp2;go_ret;rw[←Vq.out];exact⟨⟨⟨_,rfl,Fv.out⟩,HPZ.out.below uD⟩,uN.below uD⟩
   ·have jH:=dP.out;rw[hi] at jH;have Xp:=GO.out;rw[hi] at Xp;have HPZ:=z7 Xp;have je:0<us.length:=by
     cases us with
     | nil=>cases hi
     | cons x y=>simp
    obtain⟨m,rfl⟩:∃ m,gk=m+1:=⟨gk - 1,by omega⟩;have Vq:=z7 jH;have eP:=Gj.out w2 us.tail uN Xp (fun x hx=>HXS.out x (zu hx)) (by simp;omega);have HON:=z7 eP;clear hi jH Xp eP;go_wp2_with fail;refine HON.out.mono ?_;rintro e w3 ⟨X3,uD⟩;have dF:=uN.trans uD
    cases TV:P us.tail with
    | none =>
     rw[TV] at X3;obtain rfl:=X3;have vu:r=none:=by rw[←Vq.out];simp[fk,TV]
     have gj:=z7 vu;clear vu TV;go_wp2;refine⟨rfl,?_,dF⟩;rw[gj.out];rfl
    | some q3 =>
     obtain⟨T3,t3⟩:=q3;rw[TV] at X3;obtain⟨⟨v,rfl,TJ⟩,EV⟩:=X3;have eT:=HS.out _ _ _ TV;have zmb:(if ZA word t3 then fk word P m (Ts++[T3]) t3.tail else some (Ts++[T3],t3))=r:=by rw[←Vq.out];simp[fk,TV]
     have yb1:=z7 zmb;obtain⟨vs,Uu,eU⟩:=Fu.out.but uD xC;have HFT:=z7 TJ;have L6:=z7 EV;have FI:=z7 eU;have Fp:=z7 Uu;have HX3:=z7 (fun x hx=>HXS.out x (zu (eT.mem x hx)));have hl3:t3.length+1<=us.length:=by have:=eT.len;simp at this;omega
     obtain⟨kf,dp,rfl,_⟩:=TJ;clear EV eU Uu TV zmb eT;go_wp2_with (at_builtin;refine YC U2 rfl _ _ rfl w.heap.size _ Ts.length vs rfl (Fp.out.alloc _) ⟨w3.heap.size,0,none⟩ 1 1 [.func (.func kf) #[] dp] rfl rfl ?c1 ?c2 ?c3 ?c4 ?_)
     case c1=>exact cells_one (xu _ _ _ _ _)
     case c2=>intro u hu;simp at hu;subst hu;rfl
     case c3=>omega
     case c4=>have:=dF.size;simp;omega
     intro Uh w5 jP qc Fq;have Zg:Below w3.heap.size w3 (w3.alloc (.cells #[.func (.func kf) #[] dp] 214)):=(zy _ _).alloc (z8 _) _;have XL:∀ g,(zJ a Ts.length c).ownBlock=some g->w.heap.size<=g/\g<w2.heap.size:=fun g hg=>by
      obtain⟨_,RO,_⟩:=Fu.out;exact RO.lt g hg
     have XM:ZB w.heap.size w5 Uh (Ts++[T3]) :=
      ZB.more FI.out (by have:=Fp.out.1;omega) HFT.out (by have:=uN.size;omega) (z8 _) (fun g hg => .inl (XL g hg).2) Zg qc (by simpa using Fq) jP
     have Hr:gX w5 p t3:=(L6.out.below Zg).row (Fp.out.alloc _) xC qc;have jk:xS p w w5:=(dF.below Zg).O3 qc (fun k hk=>(XL k hk).1);obtain⟨a5,c5,rfl⟩:=xZ jP;have Fk:=z7 XM;have T5:=z7 Hr;clear XM Hr jP qc Fq Zg XL;go_wp2;go_roundg m
     case measure=>omega
     case rel=>exact⟨Ts++[T3],t3,by simpa using Fk.out,T5.out,jk,by simp;omega,HX3.out,by omega,by omega,yb1.out⟩
end Go.Proofs.YthpldolmpinnhaaGreatDoor
