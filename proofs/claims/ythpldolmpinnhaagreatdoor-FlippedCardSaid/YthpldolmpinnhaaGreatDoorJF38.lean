import Derived.Test.YthpldolmpinnhaaGreatDoorJF37
import Derived.Maps.AppendAt
import Derived.Deep.LoopGhost
import Derived.Laws.EntriesVeiled
set_option maxHeartbeats 64000000
open Go.Lib renaming hid→z7
open Nat renaming le_refl→z8,le_trans→zk
open Go.RowKit.Below renaming refl→zy,heap_setCell→zg
open Go.Value renaming pointer→zx,slice→zJ
open Go.AllReadyH renaming cons→zv,nil→zj
open List renaming mem_of_mem_tail→zu,mem_cons_of_mem→zY
open Go.World renaming frozen?_of_block→zf,setCell→zZ,cell?_of_block→zX,block_lt_of_cell?→zV
open Option.some renaming injEq→zU
open Go.Op renaming equalIn→zQ
open Go.Obj.cells renaming injEq→zG
open Go.Addr renaming add→zF
open Go.Proofs.Tryz
namespace Go.Proofs.YthpldolmpinnhaaGreatDoor
open Go Go.RowKit
set_option maxRecDepth 10000
theorem UH:Zq prog 305 214 .nilFunc 1 8 :=
 ⟨underlying305,info_parts (by kernel_rfl),rfl,by decide,by decide⟩
theorem Yi{P:Program}{t e:TypeId}{z:Value}{size bytes:Nat}(E:Zq P t e z size bytes){w:World}{ops:Array Oper}{rest:List Oper}{o:Oper}{a:Act}{Q:Exit->Act->World->Prop}
  (JY:o.guard=none) (s x:Operand) (ho:o.op = .call { callee := .builtin .append,args:=#[s,x],argTypes:=#[t,t] })
  (base:Nat) (v:Value) (n:Nat) (xs:List Value) (hs:a.eval s=v) (xV:w.ownsRow base e size v n xs)
  (ad:Addr) (m c:Nat) (news:List Value) (hx:a.eval x = .slice (some ad) m c) (hl:news.length=m*size) (dP:∀ j u,news[j]? = some u->w.cell? (ad.add j)=some u) (h1:∀ u∈news,u.oneCell'=true)
  (H6:n+m<=2147483648) (bH:base<=w.heap.size)
  (h:∀ v' w',w'.ownsRow base e size v' (n+m) (xs++news)->w.grownBy w' v.ownBlock->(v'.ownBlock=v.ownBlock\/v'.ownBlock=some w.heap.size)->wpList P ops Q rest (a.put o.dst v') w'):wpList P ops Q (o::rest) a w:=by
 obtain⟨i,hi,hz,h2,h3⟩:=E.info;have QS:=E.small;refine wpList_append_own_at w JY s x t ho base e i z size bytes E.under hi hz h2 h3 E.VT E.pos v n xs hs xV ad m c news hx hl dP h1 (by unfold maxLen;omega) ?_ bH (fun v' w' a b _ d=>h v' w' a b d);exact zk (Nat.mul_le_mul H6 QS) (by decide)
def ZT(lo:Nat)(w:World)(sv:Value)(Ts:List qR):Prop :=
 ∃ vs:List Value,w.ownsRow lo 214 1 sv Ts.length vs /\
  ∀ j (h:j<Ts.length),∃ u l h',vs[j]? = some u/\lo<=l/\h'<=w.heap.size/\(∀ g,sv.ownBlock=some g->g<l\/h'<=g)/\j6 l h' w u Ts[j]
theorem ZT.nil(lo:Nat)(w:World):ZT lo w (.slice none 0 0) []:=⟨[],World.ownsRow_nil _ _ _ _,fun j h=>absurd h (Nat.not_lt_zero j)⟩
theorem ZT.form{lo:Nat}{w:World}{sv:Value}{Ts:List qR}(h:ZT lo w sv Ts):∃ a cap,sv = .slice a Ts.length cap:=by
 obtain⟨vs,ho,_⟩:=h;exact xd ho
theorem ZT.but{lo p:Nat}{w w':World}{sv:Value}{Ts:List qR}(h:ZT lo w sv Ts)(hb:xP p w w')(hp:p<lo):ZT lo w' sv Ts:=by
 obtain⟨vs,ho,ht⟩:=h;have xc:some p≠sv.ownBlock:=fun e=>by have:=(ho.lt p e.symm).1;omega
 refine⟨vs,ho.kept (row:=some p) ⟨hb.os,hb.tape,hb.output,hb.size,fun i hi hn=>hb.block i hi (fun e=>hn (by rw[e]))⟩ (.inr (fun e=>xc e.symm)),fun j hj=>?_⟩;obtain⟨u,l,h',e1,e2,e3,e4,e5⟩:=ht j hj;exact⟨u,l,h',e1,e2,zk e3 hb.size,e4,e5.keep (hb.keep (by omega) e3) (z8 _) (z8 _)⟩
theorem ZT.more{lo l0 h0:Nat}{w w1 w':World}{sv QQ:Value}{Ts:List qR}{T:qR}{vs:List Value}{u:Value}
  (ht:∀ j (h:j<Ts.length),∃ u l h',vs[j]? = some u/\lo<=l/\h'<=w.heap.size/\(∀ g,sv.ownBlock=some g->g<l\/h'<=g)/\j6 l h' w u Ts[j]) (DW:vs.length=Ts.length)
  (hT:j6 l0 h0 w u T) (Ai:lo<=l0) (Mn:h0<=w.heap.size) (A1:∀ g,sv.ownBlock=some g->g<l0\/h0<=g)
  (hb:Below w.heap.size w w1) (uW:w1.grownBy w' sv.ownBlock) (VG:QQ.ownBlock=sv.ownBlock\/QQ.ownBlock=some w1.heap.size) (ho:w'.ownsRow lo 214 1 QQ (Ts.length+1) (vs++[u])) :
  ZT lo w' QQ (Ts++[T]):=by
 have Kt:∀ l h',h'<=w.heap.size->(∀ g,sv.ownBlock=some g->g<l\/h'<=g)->vQ l h' w w':=by
  intro l h' hh hg;refine⟨zk hh (zk hb.size uW.size),fun k k1 k2=>?_⟩;rw[uW.block k (by have:=hb.size;omega) (fun e=>by rcases hg k e.symm with q|q<;>omega)];exact hb.block k (by omega)
 have M6:∀ l h',h'<=w.heap.size->(∀ g,sv.ownBlock=some g->g<l\/h'<=g)->∀ g,QQ.ownBlock=some g->g<l\/h'<=g:=by
  intro l h' hh hg g e;rcases VG with q|q
  ·exact hg g (q▸e)
  ·rw[q] at e
   cases e;exact .inr (zk hh hb.size)
 refine⟨vs++[u],by simpa using ho,fun j hj=>?_⟩;by_cases Qi:j<Ts.length
 ·obtain⟨x,l,h',e1,e2,e3,e4,e5⟩:=ht j Qi;exact⟨x,l,h',by rw[List.getElem?_append_left (by omega)];exact e1,e2,zk e3 (zk hb.size uW.size),M6 l h' e3 e4,by rw[List.getElem_append_left Qi];exact e5.keep (Kt l h' e3 e4) (z8 _) (z8 _)⟩
 ·have e:j=Ts.length:=by simp at hj;omega
  subst e;refine⟨u,l0,h0,by rw[List.getElem?_append_right (by omega),DW];simp,Ai,zk Mn (zk hb.size uW.size),M6 l0 h0 Mn A1,?_⟩;rw[List.getElem_append_right (by omega)];simpa using hT.keep (Kt l0 h0 Mn A1) (z8 _) (z8 _)
theorem ZT.tests{lo cap:Nat}{w:World}{a:Option Addr}{Ts:List qR}(h:ZT lo w (.slice a Ts.length cap) Ts):Z4 lo w.heap.size w a Ts:=by
 obtain⟨vs,ho,ht⟩:=h;intro j hj;obtain⟨u,l,h',e1,e2,e3,e4,e5⟩:=ht j hj;obtain⟨g,ve,hv,hg,ft,hc⟩:=xl ho (by omega)
 cases hv;refine⟨⟨g,0,none⟩,u,rfl,?_,hg,ft,e5.keep (vx e3) e2 e3⟩;rw[vS,hc j (by omega)];exact e1
def zrb(p:Nat)(r:Option (List qR×List Wd))(w:World)(e:Ending)(w':World):Prop :=
 (match r with|none=>e=Ee|some (ts,t)=>(∃ v,e = .returned v/\j6 w.heap.size w'.heap.size w' v (bn ts))/\gJ w' p t)/\xP p w w'
theorem xP.Pb{p:Nat}{w a b:World}{row:Option Nat}(h:xP p w a)(hg:a.grownBy b row)(hr:∀ k,row=some k->w.heap.size<=k):xP p w b :=
 ⟨hg.os.trans h.os,hg.tape.trans h.tape,hg.output.trans h.output,zk h.size hg.size,fun k hk hp=>(hg.block k (Nat.lt_of_lt_of_le hk h.size) (fun e=>by have:=hr k e.symm;omega)).trans (h.block k hk hp)⟩
theorem gJ.row{lo p n:Nat}{w w':World}{sv:Value}{vs:List Value}{ws:List Wd}(h:gJ w p ws)(ho:w.ownsRow lo 214 1 sv n vs)(hp:p<lo)(hg:w.grownBy w' sv.ownBlock):gJ w' p ws:=by
 have xD:=h.lt;have hpn:some p≠sv.ownBlock:=fun e=>by have:=(ho.lt p e.symm).1;omega
 obtain⟨a,cap,hc,hf,h1,h2,h3⟩:=h;refine⟨a,cap,hg.cell hc hpn,(zf (hg.block p xD hpn)).trans hf,h1,h2,fun j hj=>?_⟩;obtain⟨b,e1,e2,e3⟩:=h3 j hj;have hl:=zV w _ e3;rw[addr_add] at hl;have IN:some b.block≠sv.ownBlock:=by
  intro e;rcases ho.2 with⟨hv,_⟩|⟨g,cp,cur,hv,_,hh,_⟩
  ·rw[hv] at e;cases e
  ·rw[hv] at e
   cases e;obtain⟨cs,fr,hs⟩:=e2.2;rw[hh] at hs
   cases hs
 exact⟨b,e1,⟨e2.1,e2.2.of (hg.block _ hl IN)⟩,hg.cell e3 (by rw[addr_add];exact IN)⟩
def sQ(p:Nat)(wi:Bool)(r:Option (List qR×List Wd))(n0:Nat)(w:World)(sv:Value)(more:Bool)(n:Nat)(wr:World):Prop :=
 ∃ (Ts:List qR) (ws:List Wd),ZT w.heap.size wr sv Ts/\gJ wr p ws/\xP p w wr/\ws.length+Ts.length<=n0/\(∀ x∈ws,Ec x)/\(more=true->ws.length<n/\qb wi n Ts ws=r)/\(more=false->some (Ts,ws)=r)
theorem l9(w:World)(m:Wd)(g:Nat)(hg:w.cell? ⟨g,0,none⟩=some (xk m)):Oz w (.slice (some ⟨g,0,none⟩) 1 1) [m] :=
 ⟨some ⟨g,0,none⟩,1,rfl,z8 _,by decide,(fun h=>by cases h),fun j hj=>by
  have:j=0:=by simp at hj;omega
  subst this;exact⟨_,rfl,by simpa[zF] using hg⟩⟩
theorem fW(p:Nat)(m:Wd)(ws:List Wd)(W:World)(hp:gJ W p ws) :
  Calls prog 175 #[.pointer (some ⟨p,0,none⟩),.slice (some ⟨W.heap.size,0,none⟩) 1 1] (W.alloc (.cells #[xk m] 9))
   fun e w'=>e = .returned (.bool (Y0 m ws))/\gJ w' p (if Y0 m ws then ws.tail else ws)/\xP p W w':=by
 have hb:Below W.heap.size W (W.alloc (.cells #[xk m] 9)):=(zy _ _).alloc (z8 _) _;refine(im p [m] ws _ _ (hp.below hb) (l9 _ m _ (xu _ _ _ _ _)) (by simp)).mono ?_;rintro e w' ⟨rfl,h1,h2,_⟩;have e:Fi [m] ws=Y0 m ws:=by simp[Fi]
 rw[e] at h1 ⊢;exact⟨rfl,h1,(xP.of hb).trans h2⟩
theorem lz(p:Nat)(wi:Bool)(ws:List Wd)(w:World)(hp:gJ w p ws)(hx:∀ x∈ws,Ec x)(hT:RT p w)(hl:ws.length<=1000) :
  Calls prog 220 #[.pointer (some ⟨p,0,none⟩),.bool wi] w (zrb p (qb wi (ws.length+1) [] ws) w):=by
 obtain⟨r,hr⟩:=xX (qb wi (ws.length+1) [] ws);rw[hr];have HX:=z7 hx;have HR:=z7 hr;have xD:=hp.lt;have HP:=z7 hp;have HT:=z7 hT;clear hr hx hp hT;go_enter func220,ntmps220;go_wp2;go_loopg [5,6] (ws.length+1) (fun n sv mo wr=>∃ more:Bool,mo = .bool more/\sQ p wi r (ws.length+1) w sv more n wr)
 case atStart=>exact⟨true,rfl,[],ws,ZT.nil _ _,HP.out,xP.refl _ _,by simp,HX.out,fun _=>⟨by omega,HR.out⟩,fun h=>by cases h⟩
 case round =>
  obtain⟨more,rfl,Ts,us,vD,Hu,fx,hlen,R4,hmo,vH⟩:=hrel;have qV:=z7 vD;have HPA:=z7 Hu;have HXS:=z7 R4;obtain⟨a,cap,rfl⟩:=vD.form;have xd6:=Hu.lt
  cases more with
  | false =>
   have jX:=z7 (vH rfl);clear vH hmo vD Hu R4;have VV:=Lt Ts a cap w.heap.size wr (by omega) fx.size qV.out.tests;have HSM:=z7 VV;clear VV;go_wp2_with fail;refine HSM.out.mono ?_;rintro e w1 ⟨⟨v,rfl,ht⟩,xB⟩;have Fl:=z7 ht;clear ht;go_wp2;go_ret;rw[←jX.out];exact⟨⟨⟨_,rfl,Fl.out⟩,HPA.out.below xB⟩,fx.below xB⟩
  | true =>
   obtain⟨hlg,jM⟩:=hmo rfl;obtain⟨m,rfl⟩:∃ m,gk=m+1:=⟨gk - 1,by omega⟩;have b8:=z7 jM;have X7:=fT p us wr Hu R4 (HT.out.but fx);have KR:=z7 X7;clear hmo vH jM vD Hu R4 X7;go_wp2_with fail;refine KR.out.mono ?_;rintro e w1 ⟨hq,xB⟩
   cases hn:kL us with
   | none =>
    rw[hn] at hq;obtain rfl:=hq;go_wp2;refine⟨rfl,?_,fx.trans xB⟩;have vv:r=none:=by rw[←b8.out,qb,Vt,hn]
    rw[vv]
   | some q =>
    obtain⟨va,t⟩:=q;rw[hn] at hq;obtain⟨rfl,Va⟩:=hq;obtain⟨sK,KF,Ja⟩:=jb hn;have X0:=fx.trans xB;have HN:=z7 hn;have Kw:=z7 Va;have yz0:=z7 (qV.out.but xB xD);have HXT:=z7 (fun x hx=>HXS.out x (KF x hx));clear hn Va KF;go_wp2_with fail;refine(fW p [46,46] t _ Kw.out).mono ?_;rintro e w2 ⟨rfl,Vb,xF⟩;have uS:=X0.trans xF;have Fm:=z7 (yz0.out.but xF xD);have Ff:=z7 Vb;clear Vb
    cases hd:Y0 [46,46] t
    ·have j9:=Ff.out;rw[hd] at j9;have Qs:=z7 j9;have C4:Vt us=some ((va,va),t):=by rw[Vt,HN.out];simp[hd]
     have zgj:=z7 C4;clear j9 hd C4;have HIT:=z7 (zgj.out);have yz1:decide ((va:Int)<(va:Int))=false:=by first|(simp;done)|(simp;omega)
     have M7:=QL va va wi w2 sK sK;have tW:=z7 M7;clear M7;go_wp2_with fail;refine tW.out.mono ?_;rintro e w4 ⟨⟨fv,rfl,hft⟩,uN⟩;have G0:=Qs.out.below uN;have dT:=uS.below uN;have M8:=Fm.out.but (xP.of (p:=p) uN) xD;obtain⟨vs,UT,ly⟩:=M8;have HFT:=z7 hft;have M9:=z7 G0;have Dd:=z7 ly;have DE:=z7 UT;obtain⟨kf,bZ,rfl,_⟩:=hft;clear G0 ly UT;go_wp2_with (at_builtin;refine Yi UH rfl _ _ rfl w.heap.size _ Ts.length vs rfl (DE.out.alloc _) ⟨w4.heap.size,0,none⟩ 1 1 [.func (.func kf) #[] bZ] rfl rfl ?c1 ?c2 ?c3 ?c4 ?_)
     case c1=>exact cells_one (xu _ _ _ _ _)
     case c2=>intro u hu;simp at hu;subst hu;rfl
     case c3=>omega
     case c4=>have:=dT.size;simp;omega
     intro QQ w5 jW qc Fp;have ZB:Below w4.heap.size w4 (w4.alloc (.cells #[.func (.func kf) #[] bZ] 214)):=(zy _ _).alloc (z8 _) _;have Xt:∀ g,(zJ a Ts.length cap).ownBlock=some g->w.heap.size<=g/\g<w2.heap.size:=fun g hg=>by
      obtain⟨_,Sn,_⟩:=Fm.out;exact Sn.lt g hg
     have Xh:ZT w.heap.size w5 QQ (Ts++[gZ va va wi]) :=
      ZT.more Dd.out (by have:=DE.out.1;omega) HFT.out (by have:=uS.size;omega) (z8 _) (fun g hg => .inl (Xt g hg).2) ZB qc (by simpa using Fp) jW
     have Ir:gJ w5 p t:=(M9.out.below ZB).row (DE.out.alloc _) xD qc;have jZ:xP p w w5:=(dT.below ZB).Pb qc (fun k hk=>(Xt k hk).1);obtain⟨a5,c5,rfl⟩:=xd jW;have Fs:=z7 Xh;have WK:=z7 Ir;clear Xh Ir jW qc Fp ZB Xt;go_wp2_with fail;refine(fW p [44] t _ WK.out).mono ?_;rintro e w6 ⟨rfl,Sm,dE⟩;have jA:=jZ.trans dE;have Mz:=z7 (Fs.out.but dE xD);have lx:=z7 (show qb wi (m+1) Ts us=if Y0 [44] t then qb wi m (Ts++[gZ va va wi]) (t).tail else some (Ts++[gZ va va wi],t) by rw[qb,HIT.out]);have lu:=z7 Sm;clear Sm
     cases jy:Y0 [44] t
     ·have PZ:=lu.out;rw[jy] at PZ;have PY:=lx.out;rw[jy,b8.out] at PY;have HQ6:=z7 PZ;have HSQ:=z7 PY;clear jy PZ PY;go_wp2;go_roundg 0
      case measure=>omega
      case rel=>exact⟨false,rfl,Ts++[gZ va va wi],t,by simpa using Mz.out,HQ6.out,jA,by simp;omega,HXT.out,(fun h=>by cases h),fun _=>HSQ.out.symm⟩
     ·have PZ:=lu.out;rw[jy] at PZ;have PY:=lx.out;rw[jy,b8.out] at PY;have HQ6:=z7 PZ;have HSQ:=z7 PY;have xc:0<(t).length:=by
       cases ht:t with
       | nil=>rw[ht] at jy;cases jy
       | cons x y=>simp
      clear jy PZ PY;go_wp2;go_roundg m
      case measure=>omega
      case rel=>exact⟨true,rfl,Ts++[gZ va va wi],(t).tail,by simpa using Mz.out,HQ6.out,jA,by simp;omega,fun x hx=>HXT.out x (zu hx),fun _=>⟨by simp;omega,HSQ.out.symm⟩,fun h=>by cases h⟩
    ·have j9:=Ff.out;rw[hd] at j9;have Qs:=z7 j9;have yz3:=z7 (fun x hx=>HXT.out x (zu hx));have zy8:=fT p t.tail w2 Qs.out yz3.out (HT.out.but uS);have yz4:=z7 zy8;have HD:=z7 hd;clear j9 hd zy8;go_wp2_with fail;refine yz4.out.mono ?_;rintro e w3 ⟨XJ,uP⟩
     cases dC:kL t.tail with
     | none =>
      rw[dC] at XJ;obtain rfl:=XJ;have vv:r=none:=by rw[←b8.out,qb,Vt,HN.out];simp[HD.out,dC]
      go_wp2;refine⟨rfl,?_,uS.trans uP⟩;first|rfl|(rw[vv])
     | some q =>
      obtain⟨vb,t2⟩:=q;rw[dC] at XJ;obtain⟨rfl,Hg⟩:=XJ;obtain⟨hvb,zy9,xd8⟩:=jb dC;have xd9:t2.length+1<=t.length:=by
       have:t.tail.length<=t.length:=by simp
       omega
      have dR:=uS.trans uP;have My:=z7 (Fm.out.but uP xD);have lj:=z7 Hg;have HX3:=z7 (fun x hx=>yz3.out x (zy9 x hx));have lg:Vt us=if vb<va then none else some ((va,vb),t2):=by rw[Vt,HN.out];simp[HD.out,dC]
      have zyz:=z7 lg;clear Hg dC zy9 lg;by_cases hba:vb<va
      ·have vv:r=none:=by rw[←b8.out,qb,zyz.out,if_pos hba]
       have yz1:decide ((vb:Int)<(va:Int))=true:=by simp;omega
       go_wp2;refine⟨rfl,?_,dR⟩;first|rfl|(rw[vv])
      ·have C4:=zyz.out;rw[if_neg hba] at C4;have zgj:=z7 C4;clear C4;have HIT:=z7 (zgj.out);have yz1:decide ((vb:Int)<(va:Int))=false:=by first|(simp;done)|(simp;omega)
       have M7:=QL va vb wi w3 sK hvb;have tW:=z7 M7;clear M7;go_wp2_with fail;refine tW.out.mono ?_;rintro e w4 ⟨⟨fv,rfl,hft⟩,uN⟩;have G0:=lj.out.below uN;have dT:=dR.below uN;have M8:=My.out.but (xP.of (p:=p) uN) xD;obtain⟨vs,UT,ly⟩:=M8;have HFT:=z7 hft;have M9:=z7 G0;have Dd:=z7 ly;have DE:=z7 UT;obtain⟨kf,bZ,rfl,_⟩:=hft;clear G0 ly UT;go_wp2_with (at_builtin;refine Yi UH rfl _ _ rfl w.heap.size _ Ts.length vs rfl (DE.out.alloc _) ⟨w4.heap.size,0,none⟩ 1 1 [.func (.func kf) #[] bZ] rfl rfl ?c1 ?c2 ?c3 ?c4 ?_)
       case c1=>exact cells_one (xu _ _ _ _ _)
       case c2=>intro u hu;simp at hu;subst hu;rfl
       case c3=>omega
       case c4=>have:=dT.size;simp;omega
       intro QQ w5 jW qc Fp;have ZB:Below w4.heap.size w4 (w4.alloc (.cells #[.func (.func kf) #[] bZ] 214)):=(zy _ _).alloc (z8 _) _;have Xt:∀ g,(zJ a Ts.length cap).ownBlock=some g->w.heap.size<=g/\g<w3.heap.size:=fun g hg=>by
        obtain⟨_,Sn,_⟩:=My.out;exact Sn.lt g hg
       have Xh:ZT w.heap.size w5 QQ (Ts++[gZ va vb wi]) :=
        ZT.more Dd.out (by have:=DE.out.1;omega) HFT.out (by have:=dR.size;omega) (z8 _) (fun g hg => .inl (Xt g hg).2) ZB qc (by simpa using Fp) jW
       have Ir:gJ w5 p t2:=(M9.out.below ZB).row (DE.out.alloc _) xD qc;have jZ:xP p w w5:=(dT.below ZB).Pb qc (fun k hk=>(Xt k hk).1);obtain⟨a5,c5,rfl⟩:=xd jW;have Fs:=z7 Xh;have WK:=z7 Ir;clear Xh Ir jW qc Fp ZB Xt;go_wp2_with fail;refine(fW p [44] t2 _ WK.out).mono ?_;rintro e w6 ⟨rfl,Sm,dE⟩;have jA:=jZ.trans dE;have Mz:=z7 (Fs.out.but dE xD);have lx:=z7 (show qb wi (m+1) Ts us=if Y0 [44] t2 then qb wi m (Ts++[gZ va vb wi]) (t2).tail else some (Ts++[gZ va vb wi],t2) by rw[qb,HIT.out]);have lu:=z7 Sm;clear Sm
       cases jy:Y0 [44] t2
       ·have PZ:=lu.out;rw[jy] at PZ;have PY:=lx.out;rw[jy,b8.out] at PY;have HQ6:=z7 PZ;have HSQ:=z7 PY;clear jy PZ PY;go_wp2;go_roundg 0
        case measure=>omega
        case rel=>exact⟨false,rfl,Ts++[gZ va vb wi],t2,by simpa using Mz.out,HQ6.out,jA,by simp;omega,HX3.out,(fun h=>by cases h),fun _=>HSQ.out.symm⟩
       ·have PZ:=lu.out;rw[jy] at PZ;have PY:=lx.out;rw[jy,b8.out] at PY;have HQ6:=z7 PZ;have HSQ:=z7 PY;have xc:0<(t2).length:=by
         cases ht:t2 with
         | nil=>rw[ht] at jy;cases jy
         | cons x y=>simp
        clear jy PZ PY;go_wp2;go_roundg m
        case measure=>omega
        case rel=>exact⟨true,rfl,Ts++[gZ va vb wi],(t2).tail,by simpa using Mz.out,HQ6.out,jA,by simp;omega,fun x hx=>HX3.out x (zu hx),fun _=>⟨by simp;omega,HSQ.out.symm⟩,fun h=>by cases h⟩
structure Sub(t ws:List Wd):Prop where
 mem:∀ x∈t,x∈ws
 len:t.length<=ws.length
theorem Sub.refl(ws:List Wd):Sub ws ws:=⟨fun _ h=>h,z8 _⟩
theorem Sub.trans{a b c:List Wd}(h:Sub a b)(k:Sub b c):Sub a c:=⟨fun x hx=>k.mem x (h.mem x hx),zk h.len k.len⟩
theorem Sub.tail(ws:List Wd):Sub ws.tail ws:=⟨fun _ h=>zu h,by simp⟩
theorem Yv{ws t:List Wd}{v:Nat}(h:kL ws=some (v,t)):Sub t ws:=⟨(jb h).2.1,by have:=(jb h).2.2;omega⟩
theorem C5{ws t:List Wd}{q:Nat×Nat}(h:Vt ws=some (q,t)):Sub t ws:=by
 unfold Vt at h
 cases hn:kL ws with
 | none=>rw[hn] at h;cases h
 | some r =>
  obtain⟨a,u⟩:=r;rw[hn] at h;dsimp only at h;have hs:=Yv hn;by_cases hd:Y0 [46,46] u=true
  ·rw[if_pos hd] at h
   cases dC:kL u.tail with
   | none=>rw[dC] at h;cases h
   | some r2 =>
    obtain⟨b,u2⟩:=r2;rw[dC] at h;dsimp only at h;by_cases hb:b<a
    ·rw[if_pos hb] at h;cases h
    ·rw[if_neg hb] at h
     cases h;exact((Yv dC).trans (Sub.tail u)).trans hs
  ·rw[if_neg hd] at h
   cases h;exact hs
theorem Jf{wi:Bool}:∀ {n:Nat} {acc ts:List qR} {ws t:List Wd},qb wi n acc ws=some (ts,t)->Sub t ws
 | 0,_,_,_,_,h=>by cases h
 | n+1,acc,ts,ws,t,h=>by
  rw[qb] at h
  cases hi:Vt ws with
  | none=>rw[hi] at h;cases h
  | some r =>
   obtain⟨q,u⟩:=r;rw[hi] at h;dsimp only at h;by_cases hc:Y0 [44] u=true
   ·rw[if_pos hc] at h;exact((Jf h).trans (Sub.tail u)).trans (C5 hi)
   ·rw[if_neg hc] at h
    cases h;exact C5 hi
theorem WJ{wi:Bool}{ws t:List Wd}{T:qR}(h:jG wi ws=some (T,t)):Sub t ws:=by
 unfold jG at h
 cases hg:qb wi (ws.length+1) [] ws with
 | none=>rw[hg] at h;cases h
 | some r =>
  obtain⟨ts,u⟩:=r;rw[hg] at h
  cases h;exact Jf hg
def Yl(p:Nat)(r:Option (qR×List Wd))(w:World)(e:Ending)(w':World):Prop :=
 (match r with|none=>e=Ee|some (T,t)=>(∃ v,e = .returned v/\j6 w.heap.size w'.heap.size w' v T)/\gJ w' p t)/\xP p w w'
theorem bB(p:Nat)(wi:Bool)(ws:List Wd)(w:World)(hp:gJ w p ws)(hx:∀ x∈ws,Ec x)(hT:RT p w)(hl:ws.length<=1000) :
  Calls prog 220 #[.pointer (some ⟨p,0,none⟩),.bool wi] w (Yl p (jG wi ws) w):=by
 refine(lz p wi ws w hp hx hT hl).mono ?_;rintro e w' ⟨h,hb⟩;refine⟨?_,hb⟩;unfold jG
 cases hg:qb wi (ws.length+1) [] ws with
 | none=>rw[hg] at h;exact h
 | some r =>
  obtain⟨ts,u⟩:=r;rw[hg] at h;exact h
def sJ(p:Nat)(r:Option ((qR×Bool)×List Wd))(w:World)(e:Ending)(w':World):Prop :=
 (match r with|none=>e=Ee|some ((T,nt),t)=>(∃ v,e = .returned (.tuple #[v,.bool nt])/\j6 w.heap.size w'.heap.size w' v T)/\gJ w' p t)/\xP p w w'
theorem QN(p:Nat)(ws:List Wd)(w:World)(hp:gJ w p ws)(hx:∀ x∈ws,Ec x)(hT:RT p w)(hl:ws.length<=1000) :
  Calls prog 184 #[.pointer (some ⟨p,0,none⟩)] w (sJ p (vr ws) w):=by
 obtain⟨r,hr⟩:=xX (vr ws);rw[hr];have HX:=z7 hx;have HR:=z7 hr;have xD:=hp.lt;have HP:=z7 hp;have HT:=z7 hT;clear hr hx hp hT;go_enter func184,ntmps184;have L1:ws.tail.length<=1000:=by simp;omega
 have L2:ws.tail.tail.length<=1000:=by simp;omega
 have M1:∀ x∈ws.tail,Ec x:=fun x h=>HX.out x (zu h)
 have M2:∀ x∈ws.tail.tail,Ec x:=fun x h=>M1 x (zu h)
 have Dc:=z7 M1;have YZ:=z7 M2;clear M1 M2;go_wp2_with fail;refine(fW p [61] (ws) _ HP.out).mono ?_;rintro e w1 ⟨rfl,Va,xB⟩;have X0:=xB;have yz5:=z7 Va;clear Va
 cases e1:Y0 [61] (ws)
 ·have hq:=yz5.out;rw[e1] at hq;have Kw:=z7 hq;have E1:=z7 e1;clear hq e1;go_wp2_with fail;refine(fW p [33,61] (ws) _ Kw.out).mono ?_;rintro e w2 ⟨rfl,Vb,xF⟩;have uS:=X0.trans xF;have yz6:=z7 Vb;clear Vb
  cases e2:Y0 [33,61] (ws)
  ·have hq:=yz6.out;rw[e2] at hq;have Ff:=z7 hq;have E2:=z7 e2;clear hq e2;go_wp2_with fail;refine(fW p [105,115] (ws) _ Ff.out).mono ?_;rintro e w3 ⟨rfl,Hg,uP⟩;have dR:=uS.trans uP;have yz7:=z7 Hg;clear Hg
   cases e3:Y0 [105,115] (ws)
   ·have hq:=yz7.out;rw[e3] at hq;have lj:=z7 hq;have E3:=z7 e3;clear hq e3;go_wp2_with fail;refine(fW p [110,111,116] (ws) _ lj.out).mono ?_;rintro e w4 ⟨rfl,G0,uN⟩;have dT:=dR.trans uN;have ld:=z7 G0;clear G0
    cases e4:Y0 [110,111,116] (ws)
    ·have hq:=ld.out;rw[e4] at hq;have M9:=z7 hq;have E4:=z7 e4;clear hq e4;go_wp2_with fail;refine(fW p [119,105,116,104,105,110] (ws) _ M9.out).mono ?_;rintro e w5 ⟨rfl,Ir,ju⟩;have jZ:=dT.trans ju;have lb:=z7 Ir;clear Ir
     cases e5:Y0 [119,105,116,104,105,110] (ws)
     ·have hq:=lb.out;rw[e5] at hq;have WK:=z7 hq;have E5:=z7 e5;clear hq e5;go_wp2_with fail;refine(fW p [105,110] (ws) _ WK.out).mono ?_;rintro e w6 ⟨rfl,Sm,dE⟩;have jA:=jZ.trans dE;have lZ:=z7 Sm;clear Sm
      cases e6:Y0 [105,110] (ws)
      ·have hq:=lZ.out;rw[e6] at hq;have lu:=z7 hq;have E6:=z7 e6;clear hq e6;have vv:r=none:=by
        rw[←HR.out];simp[vr,E1.out,E2.out,E3.out,E4.out,E5.out,E6.out]
       have gX:=z7 vv;clear vv;go_wp2;refine⟨rfl,?_,jA⟩;rw[gX.out]
      ·have hq:=lZ.out;rw[e6] at hq;have lu:=z7 hq;have E6:=z7 e6;clear hq e6;have Z5:=bB p false (ws.tail) w6 lu.out Dc.out (HT.out.but jA) L1;have HL:=z7 Z5;clear Z5;go_wp2_with fail;refine HL.out.mono ?_;rintro e w7 ⟨hq,jD⟩;have ja:=jA.trans jD;have fY:r=(jG false (ws.tail)).map fun q=>((q.1,false),q.2):=by
        rw[←HR.out];simp[vr,E1.out,E2.out,E3.out,E4.out,E5.out,E6.out]
       have gG:=z7 fY;clear fY
       cases hn:jG false (ws.tail) with
       | none =>
        rw[hn] at hq;obtain rfl:=hq;have vv:=gG.out;rw[hn] at vv;have gX:=z7 vv;clear vv hn;go_wp2;refine⟨rfl,?_,ja⟩;rw[gX.out];rfl
       | some q =>
        obtain⟨T,t⟩:=q;rw[hn] at hq;obtain⟨⟨v,rfl,ht⟩,Ft⟩:=hq;have vv:=gG.out;rw[hn] at vv;have gX:=z7 vv;have Fl:=z7 ht;have KZ:=z7 Ft;clear vv hn ht Ft;go_wp2;go_ret2
        refine⟨?_,ja⟩;rw[gX.out];exact⟨⟨v,rfl,Fl.out.keep (vx (z8 _)) jA.size (z8 _)⟩,KZ.out⟩
     ·have hq:=lb.out;rw[e5] at hq;have WK:=z7 hq;have E5:=z7 e5;clear hq e5;have Z5:=bB p true (ws.tail) w5 WK.out Dc.out (HT.out.but jZ) L1;have HL:=z7 Z5;clear Z5;go_wp2_with fail;refine HL.out.mono ?_;rintro e w6 ⟨hq,dE⟩;have jA:=jZ.trans dE;have fY:r=(jG true (ws.tail)).map fun q=>((q.1,false),q.2):=by
       rw[←HR.out];simp[vr,E1.out,E2.out,E3.out,E4.out,E5.out]
      have gG:=z7 fY;clear fY
      cases hn:jG true (ws.tail) with
      | none =>
       rw[hn] at hq;obtain rfl:=hq;have vv:=gG.out;rw[hn] at vv;have gX:=z7 vv;clear vv hn;go_wp2;refine⟨rfl,?_,jA⟩;rw[gX.out];rfl
      | some q =>
       obtain⟨T,t⟩:=q;rw[hn] at hq;obtain⟨⟨v,rfl,ht⟩,Ft⟩:=hq;have vv:=gG.out;rw[hn] at vv;have gX:=z7 vv;have Fl:=z7 ht;have KZ:=z7 Ft;clear vv hn ht Ft;go_wp2;go_ret2
       refine⟨?_,jA⟩;rw[gX.out];exact⟨⟨v,rfl,Fl.out.keep (vx (z8 _)) jZ.size (z8 _)⟩,KZ.out⟩
    ·have hq:=ld.out;rw[e4] at hq;have M9:=z7 hq;have E4:=z7 e4;clear hq e4;go_wp2_with fail;refine(fW p [119,105,116,104,105,110] (ws.tail) _ M9.out).mono ?_;rintro e w5 ⟨rfl,Ir,ju⟩;have jZ:=dT.trans ju;have lb:=z7 Ir;clear Ir
     cases e5:Y0 [119,105,116,104,105,110] (ws.tail)
     ·have hq:=lb.out;rw[e5] at hq;have WK:=z7 hq;have E5:=z7 e5;clear hq e5;go_wp2_with fail;refine(fW p [105,110] (ws.tail) _ WK.out).mono ?_;rintro e w6 ⟨rfl,Sm,dE⟩;have jA:=jZ.trans dE;have lZ:=z7 Sm;clear Sm
      cases e6:Y0 [105,110] (ws.tail)
      ·have hq:=lZ.out;rw[e6] at hq;have lu:=z7 hq;have E6:=z7 e6;clear hq e6;have vv:r=none:=by
        rw[←HR.out];simp[vr,E1.out,E2.out,E3.out,E4.out,E5.out,E6.out]
       have gX:=z7 vv;clear vv;go_wp2;refine⟨rfl,?_,jA⟩;rw[gX.out]
      ·have hq:=lZ.out;rw[e6] at hq;have lu:=z7 hq;have E6:=z7 e6;clear hq e6;have Z5:=bB p false (ws.tail.tail) w6 lu.out YZ.out (HT.out.but jA) L2;have HL:=z7 Z5;clear Z5;go_wp2_with fail;refine HL.out.mono ?_;rintro e w7 ⟨hq,jD⟩;have ja:=jA.trans jD;have fY:r=(jG false (ws.tail.tail)).map fun q=>((q.1,true),q.2):=by
        rw[←HR.out];simp[vr,E1.out,E2.out,E3.out,E4.out,E5.out,E6.out]
       have gG:=z7 fY;clear fY
       cases hn:jG false (ws.tail.tail) with
       | none =>
        rw[hn] at hq;obtain rfl:=hq;have vv:=gG.out;rw[hn] at vv;have gX:=z7 vv;clear vv hn;go_wp2;refine⟨rfl,?_,ja⟩;rw[gX.out];rfl
       | some q =>
        obtain⟨T,t⟩:=q;rw[hn] at hq;obtain⟨⟨v,rfl,ht⟩,Ft⟩:=hq;have vv:=gG.out;rw[hn] at vv;have gX:=z7 vv;have Fl:=z7 ht;have KZ:=z7 Ft;clear vv hn ht Ft;go_wp2;go_ret2
        refine⟨?_,ja⟩;rw[gX.out];exact⟨⟨v,rfl,Fl.out.keep (vx (z8 _)) jA.size (z8 _)⟩,KZ.out⟩
     ·have hq:=lb.out;rw[e5] at hq;have WK:=z7 hq;have E5:=z7 e5;clear hq e5;have Z5:=bB p true (ws.tail.tail) w5 WK.out YZ.out (HT.out.but jZ) L2;have HL:=z7 Z5;clear Z5;go_wp2_with fail;refine HL.out.mono ?_;rintro e w6 ⟨hq,dE⟩;have jA:=jZ.trans dE;have fY:r=(jG true (ws.tail.tail)).map fun q=>((q.1,true),q.2):=by
       rw[←HR.out];simp[vr,E1.out,E2.out,E3.out,E4.out,E5.out]
      have gG:=z7 fY;clear fY
      cases hn:jG true (ws.tail.tail) with
      | none =>
       rw[hn] at hq;obtain rfl:=hq;have vv:=gG.out;rw[hn] at vv;have gX:=z7 vv;clear vv hn;go_wp2;refine⟨rfl,?_,jA⟩;rw[gX.out];rfl
      | some q =>
       obtain⟨T,t⟩:=q;rw[hn] at hq;obtain⟨⟨v,rfl,ht⟩,Ft⟩:=hq;have vv:=gG.out;rw[hn] at vv;have gX:=z7 vv;have Fl:=z7 ht;have KZ:=z7 Ft;clear vv hn ht Ft;go_wp2;go_ret2
       refine⟨?_,jA⟩;rw[gX.out];exact⟨⟨v,rfl,Fl.out.keep (vx (z8 _)) jZ.size (z8 _)⟩,KZ.out⟩
   ·have hq:=yz7.out;rw[e3] at hq;have lj:=z7 hq;have E3:=z7 e3;clear hq e3;go_wp2_with fail;refine(fW p [110,111,116] (ws.tail) _ lj.out).mono ?_;rintro e w4 ⟨rfl,G0,uN⟩;have dT:=dR.trans uN;have ld:=z7 G0;clear G0
    cases e4:Y0 [110,111,116] (ws.tail)
    ·have hq:=ld.out;rw[e4] at hq;have M9:=z7 hq;have E4:=z7 e4;clear hq e4;have Z5:=fT p (ws.tail) w4 M9.out Dc.out (HT.out.but dT);have HL:=z7 Z5;clear Z5;go_wp2_with fail;refine HL.out.mono ?_;rintro e w5 ⟨hq,ju⟩;have jZ:=dT.trans ju;have fY:r=(kL (ws.tail)).map fun q=>((gZ q.1 q.1 false,false),q.2):=by
      rw[←HR.out];simp[vr,E1.out,E2.out,E3.out,E4.out]
     have gG:=z7 fY;clear fY
     cases hn:kL (ws.tail) with
     | none =>
      rw[hn] at hq;obtain rfl:=hq;have vv:=gG.out;rw[hn] at vv;have gX:=z7 vv;clear vv hn;go_wp2;refine⟨rfl,?_,jZ⟩;rw[gX.out];rfl
     | some q =>
      obtain⟨va,t⟩:=q;rw[hn] at hq;obtain⟨rfl,Ft⟩:=hq;have sK:=(jb hn).1;have vv:=gG.out;rw[hn] at vv;have gX:=z7 vv;have KZ:=z7 Ft;have lY:=z7 (QL va va false w5 sK sK);clear vv hn Ft;go_wp2_with fail;refine lY.out.mono ?_;rintro e w6 ⟨⟨v,rfl,ht⟩,dE⟩;have Fl:=z7 ht;clear ht;go_wp2;go_ret2
      refine⟨?_,jZ.below dE⟩;rw[gX.out];exact⟨⟨v,rfl,Fl.out.keep (vx (z8 _)) jZ.size (z8 _)⟩,KZ.out.below dE⟩
    ·have hq:=ld.out;rw[e4] at hq;have M9:=z7 hq;have E4:=z7 e4;clear hq e4;have Z5:=fT p (ws.tail.tail) w4 M9.out YZ.out (HT.out.but dT);have HL:=z7 Z5;clear Z5;go_wp2_with fail;refine HL.out.mono ?_;rintro e w5 ⟨hq,ju⟩;have jZ:=dT.trans ju;have fY:r=(kL (ws.tail.tail)).map fun q=>((gZ q.1 q.1 false,true),q.2):=by
      rw[←HR.out];simp[vr,E1.out,E2.out,E3.out,E4.out]
     have gG:=z7 fY;clear fY
     cases hn:kL (ws.tail.tail) with
     | none =>
      rw[hn] at hq;obtain rfl:=hq;have vv:=gG.out;rw[hn] at vv;have gX:=z7 vv;clear vv hn;go_wp2;refine⟨rfl,?_,jZ⟩;rw[gX.out];rfl
     | some q =>
      obtain⟨va,t⟩:=q;rw[hn] at hq;obtain⟨rfl,Ft⟩:=hq;have sK:=(jb hn).1;have vv:=gG.out;rw[hn] at vv;have gX:=z7 vv;have KZ:=z7 Ft;have lY:=z7 (QL va va false w5 sK sK);clear vv hn Ft;go_wp2_with fail;refine lY.out.mono ?_;rintro e w6 ⟨⟨v,rfl,ht⟩,dE⟩;have Fl:=z7 ht;clear ht;go_wp2;go_ret2
      refine⟨?_,jZ.below dE⟩;rw[gX.out];exact⟨⟨v,rfl,Fl.out.keep (vx (z8 _)) jZ.size (z8 _)⟩,KZ.out.below dE⟩
  ·have hq:=yz6.out;rw[e2] at hq;have Ff:=z7 hq;have E2:=z7 e2;clear hq e2;have Z5:=bB p false (ws.tail) w2 Ff.out Dc.out (HT.out.but uS) L1;have HL:=z7 Z5;clear Z5;go_wp2_with fail;refine HL.out.mono ?_;rintro e w3 ⟨hq,uP⟩;have dR:=uS.trans uP;have fY:r=(jG false (ws.tail)).map fun q=>((q.1,true),q.2):=by
    rw[←HR.out];simp[vr,E1.out,E2.out]
   have gG:=z7 fY;clear fY
   cases hn:jG false (ws.tail) with
   | none =>
    rw[hn] at hq;obtain rfl:=hq;have vv:=gG.out;rw[hn] at vv;have gX:=z7 vv;clear vv hn;go_wp2;refine⟨rfl,?_,dR⟩;rw[gX.out];rfl
   | some q =>
    obtain⟨T,t⟩:=q;rw[hn] at hq;obtain⟨⟨v,rfl,ht⟩,Ft⟩:=hq;have vv:=gG.out;rw[hn] at vv;have gX:=z7 vv;have Fl:=z7 ht;have KZ:=z7 Ft;clear vv hn ht Ft;go_wp2;go_ret2
    refine⟨?_,dR⟩;rw[gX.out];exact⟨⟨v,rfl,Fl.out.keep (vx (z8 _)) uS.size (z8 _)⟩,KZ.out⟩
 ·have hq:=yz5.out;rw[e1] at hq;have Kw:=z7 hq;have E1:=z7 e1;clear hq e1;have Z5:=bB p false (ws.tail) w1 Kw.out Dc.out (HT.out.but X0) L1;have HL:=z7 Z5;clear Z5;go_wp2_with fail;refine HL.out.mono ?_;rintro e w2 ⟨hq,xF⟩;have uS:=X0.trans xF;have fY:r=(jG false (ws.tail)).map fun q=>((q.1,false),q.2):=by
   rw[←HR.out];simp[vr,E1.out]
  have gG:=z7 fY;clear fY
  cases hn:jG false (ws.tail) with
  | none =>
   rw[hn] at hq;obtain rfl:=hq;have vv:=gG.out;rw[hn] at vv;have gX:=z7 vv;clear vv hn;go_wp2;refine⟨rfl,?_,uS⟩;rw[gX.out];rfl
  | some q =>
   obtain⟨T,t⟩:=q;rw[hn] at hq;obtain⟨⟨v,rfl,ht⟩,Ft⟩:=hq;have vv:=gG.out;rw[hn] at vv;have gX:=z7 vv;have Fl:=z7 ht;have KZ:=z7 Ft;clear vv hn ht Ft;go_wp2;go_ret2
   refine⟨?_,uS⟩;rw[gX.out];exact⟨⟨v,rfl,Fl.out.keep (vx (z8 _)) X0.size (z8 _)⟩,KZ.out⟩
theorem lX(t:List Wd):Fi [[109,111,100],[37]] t=Iw (t.headD []):=by
 cases t with
 | nil=>rfl
 | cons c u=>simp[Fi,LD,Iw]
theorem WG(w:World)(m m2:Wd)(g:Nat)(hg:w.cell? ⟨g,0,none⟩=some (xk m))(ft:w.cell? ⟨g,1,none⟩=some (xk m2)):Oz w (.slice (some ⟨g,0,none⟩) 2 2) [m,m2] :=
 ⟨some ⟨g,0,none⟩,2,rfl,z8 _,by decide,(fun h=>by cases h),fun j hj=>by
  match j,hj with
  | 0,_=>exact⟨_,rfl,by simpa[zF] using hg⟩
  | 1,_=>exact⟨_,rfl,by simpa[zF] using ft⟩⟩
theorem lV(p:Nat)(ws:List Wd)(W:World)(hp:gJ W p ws) :
  Calls prog 175 #[.pointer (some ⟨p,0,none⟩),.slice (some ⟨W.heap.size,0,none⟩) 2 2] (W.alloc (.cells #[xk [109,111,100],xk [37]] 9))
   fun e w'=>e = .returned (.bool (Iw (ws.headD [])))/\gJ w' p (if Iw (ws.headD []) then ws.tail else ws)/\xP p W w':=by
 have hb:Below W.heap.size W (W.alloc (.cells #[xk [109,111,100],xk [37]] 9)):=(zy _ _).alloc (z8 _) _;refine(im p [[109,111,100],[37]] ws _ _ (hp.below hb) (WG _ _ _ _ (xu _ _ _ _ _) (xu _ _ _ _ _)) (by simp)).mono ?_;rintro e w' ⟨rfl,h1,h2,_⟩;rw[lX] at h1 ⊢;exact⟨rfl,h1,(xP.of hb).trans h2⟩
theorem Ei(p:Nat)(w:World)(hp:gJ w p []):Calls prog 145 #[.pointer (some ⟨p,0,none⟩)] w (Yl p (js []) w):=by
 obtain⟨a,cap,hc,hf,h1,h2,h3⟩:=hp;clear h3;go_enter func145,ntmps145;go_wp2;exact⟨rfl,rfl,xP.refl _ _⟩
theorem lU(fn:Fn)(first cap:Array Value)(w:World):(binOp .eql 309 (.func fn first cap) .nilFunc).run prog w = .ok (.bool false) w:=by
 have h:∀ d:Nat,(zQ (d+1) 309 (.func fn first cap) .nilFunc).run prog w = .ok false w:=fun d=>by
  simp[zQ,run_underlying underlying309]
 simp only[binOp];simp[Op.equal,Op.maxDepth,h 9999]
theorem Mx(w:World):(binOp .eql 309 .nilFunc .nilFunc).run prog w = .ok (.bool true) w:=by
 have h:∀ d:Nat,(zQ (d+1) 309 .nilFunc .nilFunc).run prog w = .ok true w:=fun d=>by
  simp[zQ,run_underlying underlying309]
 simp only[binOp];simp[Op.equal,Op.maxDepth,h 9999]
theorem xP.frozen{p:Nat}{w w':World}(h:xP p w w'){a:Addr}(hl:a.block<w.heap.size)(ha:a.block≠p):w'.frozen? a=w.frozen? a:=zf (h.block a.block hl ha)
structure xR(w:World)(k:Nat)(u:Value):Prop where
 c:w.cell? ⟨k,0,none⟩=some u
 z:w.frozen? ⟨k,0,none⟩=false
 n:¬Ea w k
theorem Mv{w:World}{a:Addr}{u:Value}{k:Nat}(h:Ea (w.setCell a u) k):Ea w k:=by
 obtain⟨cs,fr,h⟩:=h;by_cases hk:k=a.block
 ·simp only[zZ,Array.getElem?_modify,if_pos hk.symm] at h
  cases hh:w.heap[k]? with
  | none=>simp[hh] at h
  | some o =>
   simp only[hh,Option.map_some] at h
   cases o with
   | cells c e f =>
    simp only[zU,zG] at h;exact⟨c,f,by rw[hh,h.2.1]⟩
   | _=>simp at h
 ·exact⟨cs,fr,(zg _ _ _ _ hk).symm.trans h⟩
theorem xR.lt{w:World}{k:Nat}{u:Value}(h:xR w k u):k<w.heap.size:=zV w _ h.c
theorem xR.but{p k:Nat}{w w':World}{u:Value}(h:xR w k u)(hb:xP p w w')(hp:k≠p):xR w' k u :=
 ⟨hb.cell h.c hp,(hb.frozen (a:=⟨k,0,none⟩) h.lt hp).trans h.z,fun hs=>h.n (hs.of (hb.block k h.lt hp).symm)⟩
theorem xR.made(w:World)(u:Value)(t:TypeId)(ht:t≠9):xR (w.alloc (.cells #[u] t)) w.heap.size u :=
 ⟨xu _ _ _ _ _,by simp,fun ⟨cs,fr,h⟩=>ht (by
  have:(w.alloc (.cells #[u] t)).heap[w.heap.size]? = some (.cells #[u] t):=by show(w.heap.push _)[w.heap.size]? = _;simp
  rw[this] at h;simp only[zU,zG] at h;exact h.2.1)⟩
theorem xR.same{w:World}{k:Nat}{u:Value}(h:xR w k u)(x:Value):xR (w.setCell ⟨k,0,none⟩ x) k x:=⟨by rw[World.cell?_setCell_same (h:=h.c)],by simpa using h.z,fun hs=>h.n (Mv hs)⟩
theorem xR.other{w:World}{k j:Nat}{u:Value}(h:xR w k u)(hj:k≠j)(x:Value):xR (w.setCell ⟨j,0,none⟩ x) k u :=
 ⟨(zX (zg _ _ _ _ hj)).trans h.c,(zf (zg _ _ _ _ hj)).trans h.z,fun hs=>h.n (Mv hs)⟩
theorem xP.alloc{p:Nat}{w a:World}(h:xP p w a)(o:Obj):xP p w (a.alloc o):=h.below ((zy _ _).alloc (z8 _) _)
theorem xP.put{p k:Nat}{w a:World}(h:xP p w a)(hk:w.heap.size<=k)(u:Value):xP p w (a.setCell ⟨k,0,none⟩ u) :=
 ⟨h.os,h.tape,h.output,by simpa[zZ] using h.size,fun j hj hp=>(zg _ _ _ _ (show j≠k by omega)).trans (h.block j hj hp)⟩
theorem gJ.put{w:World}{p k:Nat}{ws:List Wd}(h:gJ w p ws)(hk:k≠p)(hs:¬Ea w k)(u:Value):gJ (w.setCell ⟨k,0,none⟩ u) p ws:=by
 obtain⟨a,cap,hc,hf,h1,h2,h3⟩:=h;have hb:∀ j,j≠k->(w.setCell ⟨k,0,none⟩ u).heap[j]? = w.heap[j]? := fun j hj=>zg _ _ _ _ hj
 refine⟨a,cap,(zX (hb p hk.symm)).trans hc,(zf (hb p hk.symm)).trans hf,h1,h2,fun j hj=>?_⟩;obtain⟨b,e1,e2,e3⟩:=h3 j hj;have ZU:b.block≠k:=fun e=>hs (e▸e2.2)
 exact⟨b,e1,⟨e2.1,e2.2.of (hb _ ZU)⟩,(zX (hb _ (by rw[addr_add];exact ZU))).trans e3⟩
theorem zyy{α β γ δ:Type}{P:α->β->γ->δ->Prop}{A:Prop}(G:α->β->γ->δ->Prop)(h1:∀ a b c d,P a b c d->G a b c d)(h2:(∀ a b c d,P a b c d->G a b c d)->A):A:=h2 h1
theorem jl{P:Program}{md:Region.Mode}{ops:Array Oper}{Q:Exit->Act->World->Prop}{S:World->Prop}{f:Nat}{m m':Array Bool}{a:Act}{w:World}(hm:m'=m)(h:wpAnyH P md ops Q S f m a w):wpAnyH P md ops Q S f m' a w:=hm▸h
theorem B2(p:Nat)(c:Wd)(t:List Wd)(w:World)(hp:gJ w p (c::t))(hx:∀ x∈c::t,Ec x)(hT:RT p w)(hl:t.length<=999) :
  Calls prog 145 #[.pointer (some ⟨p,0,none⟩)] w (Yl p (js (c::t)) w):=by
 have HP:=z7 hp;have HX:=z7 hx;have HT:=z7 hT;have xD:=hp.lt;obtain⟨a,cap,hc,hf,h1,h2,h3⟩:=hp;obtain⟨b,rfl,hb,JQ⟩:=h3 0 (by simp);have PM:w.cell? b=some (xk c):=by
  have:(b.add 0)=b:=by simp[zF]
  rw[this] at JQ;exact JQ
 have hmx:cap<=9223372036854775807:=by unfold maxLen at h2;omega
 have hlen:(c::t).length=t.length+1:=rfl;rw[hlen] at hc h1;obtain⟨r,hr⟩:=xX (js (c::t));rw[hr];have HR:=z7 hr;have uI:=EA ⟨c.toArray⟩ w;rw[toList_mk] at uI;have HOP:=z7 uI;have hef:=lU;have fL:=Mx;have Sk:∀ (fn:Fn) (first cap:Array Value) (w:World),(Instr.makeFunc fn first cap).run prog w = .ok (.func fn first cap) w:=fun _ _ _ _=>rfl
 clear JQ h3 hr hx hT uI;go_enter func145,ntmps145;go_wp2_with fail;refine HOP.out.mono ?_;rintro e w1 ⟨hq,rfl⟩
 cases ho:uV c with
 | none =>
  rw[ho] at hq;obtain rfl:=hq;have vv:r=none:=by rw[←HR.out,js,ho]
  have gX:=z7 vv;clear vv ho;go_wp2;refine⟨rfl,?_,(xP.refl _ _).alloc _⟩;rw[gX.out]
 | some F =>
  rw[ho] at hq;obtain⟨fv,rfl,tN⟩:=hq;have HFV:=z7 tN;have hK:=tN 0 0 w;obtain⟨kf,bZ,rfl,_⟩:=hK;have HO:=z7 ho;clear tN ho;by_cases qX:cap=1
  ·have Pr:t=[]:=List.eq_nil_of_length_eq_zero (by omega);subst Pr;subst qX;go_wp2_with fail;have F1:∃ W1,W1=(w.setCell ⟨p,0,none⟩ (.slice (some b) 0 0)).alloc (.cells #[.func (.func kf) #[] bZ] 309)/\xP p w W1/\W1.heap.size=w.heap.size+1/\gJ W1 p ([]:List Wd)/\xR W1 w.heap.size (.func (.func kf) #[] bZ):=by
    have hs:(w.setCell ⟨p,0,none⟩ (.slice (some b) 0 0)).heap.size=w.heap.size:=by simp[zZ]
    refine⟨_,rfl,(xP.set p w 0 _).alloc _,by simp[zZ],((HP.out.step hc).2 rfl).below ((zy _ _).alloc (z8 _) _),?_⟩;rw[←hs];exact xR.made _ _ _ (by decide)
   obtain⟨W1,Vu,X0,uL,Va,cQ1⟩:=F1;have WD:∀ o,((w.setCell ⟨p,0,none⟩ (.slice (some b) 0 0)).alloc (.cells #[.func (.func kf) #[] bZ] 309)).alloc o=W1.alloc o:=fun o=>by rw[Vu]
   have Kw:=z7 Va;have gC:=z7 uL;have him:=lV p ([]:List Wd) W1 Va;rw[uL] at him;have HIM:=z7 him;clear Va uL him;rw[WD];clear WD Vu;refine HIM.out.mono ?_;rintro e w2 ⟨rfl,Vb,xF⟩;have uS:=X0.trans xF;have ZW:w.heap.size≠p:=by omega
   have Mu:=cQ1.but xF ZW;have Ff:=z7 Vb;clear Vb cQ1
   cases hm:Iw (([]:List Wd).headD [])
   ·have j9:=Ff.out;rw[hm] at j9;have Qs:=z7 j9;have HM:=z7 hm;clear j9 hm;have cQ:=Mu;obtain⟨Q,hQ⟩:∃ Q,Q=w.heap.size:=⟨_,rfl⟩;rw[←hQ] at cQ Mu ZW ⊢;have HQ:=z7 hQ;clear hQ;have PX:=z7 (QN p (([]:List Wd)) w2 Qs.out (fun x h=>HX.out x (by simp[h])) (HT.out.but uS) (by omega));go_wp2_with fail;refine PX.out.mono ?_;rintro e w7 ⟨hq,jD⟩;have ja:=uS.trans jD;have fY:r=match vr (([]:List Wd)) with
      | none=>none
      | some ((i,nt),v)=>some ((fun x=>i (F x) !=nt),v):=by
     rw[←HR.out];rw[js,HO.out];dsimp only;unfold Y1;rw[HM.out];rfl
    cases hn:vr (([]:List Wd)) with
    | none =>
     rw[hn] at hq fY;obtain rfl:=hq;have gG:=z7 fY;clear fY hn;go_wp2;refine⟨rfl,?_,ja⟩;rw[gG.out]
    | some q =>
     obtain⟨⟨Tm,nt⟩,t'⟩:=q;rw[hn] at hq fY;obtain⟨⟨v,rfl,lQ⟩,Hx⟩:=hq;have gG:=Lib.hid fY;have HTM:=Lib.hid lQ;have HP7:=Lib.hid Hx;have lJ:=cQ.but jD ZW;have hQ7:=lJ.lt;have HF7:=Lib.hid (WY.keep (lo':=w.heap.size) (hi':=w7.heap.size) (HFV.out w.heap.size w2.heap.size w2) (jD.keep xD (Nat.le_refl _)) (Nat.le_refl _) jD.size);obtain⟨kt,El,rfl,_⟩:=lQ;clear fY hn Hx;go_wp2;go_ret;have ZB:=ja.alloc (.cells #[.func (.func kt) #[] El] 214);have hbB:=ZB.alloc (.cells #[.bool nt] 4);have Nr:(w7.alloc (.cells #[.func (.func kt) #[] El] 214)).heap.size=w7.heap.size+1:=by simp
     have hsB:((w7.alloc (.cells #[.func (.func kt) #[] El] 214)).alloc (.cells #[.bool nt] 4)).heap.size=w7.heap.size+2:=by simp
     have Fh:Below w7.heap.size w7 ((w7.alloc (.cells #[.func (.func kt) #[] El] 214)).alloc (.cells #[.bool nt] 4)):=((zy _ _).alloc (z8 _) _).alloc (by simp) _;refine⟨?_,hbB⟩;rw[gG.out];have hQw:=HQ.out;have hw7:=ja.size;refine⟨⟨_,rfl,185,_,rfl,fun args w=>enters_of func185 (by kernel_rfl) rfl args w,fun W hW nv x hx=>?_⟩,HP7.out.below Fh⟩;rw[hsB] at hW;have Jo:vQ w.heap.size w7.heap.size w7 W:=hW.via (vU Fh (z8 _) (z8 _)) (z8 _) (by omega);refine QM nv x _ _ _ _ _ nt Tm (F) w.heap.size w7.heap.size W hx ((hW.cell ?_ ?_).trans ?_) ((Jo.cell ?_ hQ7).trans lJ.c) ((hW.cell ?_ ?_).trans ?_) (HTM.out.keep (Jo.via (vx (z8 _)) (by have:=uS.size;omega) (z8 _)) (by have:=uS.size;omega) (z8 _)) (HF7.out.keep Jo (z8 _) (z8 _)) Jo.1;all_goals first|(show w.heap.size<=w7.heap.size;omega)|(show w7.heap.size<w7.heap.size+2;omega)|(show w.heap.size<=w7.heap.size+1;omega)|(show w7.heap.size+1<w7.heap.size+2;omega)|(show w.heap.size<=Q;omega)|(go_simp;done)
   ·have j9:=Ff.out;rw[hm] at j9;have Qs:=z7 j9;have HM:=z7 hm;clear j9 hm;have cQ:=Mu;obtain⟨Q,hQ⟩:∃ Q,Q=w.heap.size:=⟨_,rfl⟩;rw[←hQ] at cQ Mu ZW ⊢;have HQ:=z7 hQ;clear hQ;have KR:=z7 (fun W (hb:xP p w W) (hp:gJ W p ([]:List Wd).tail)=>fT p ([]:List Wd).tail W hp (fun x h=>HX.out x (zY _ (zu h))) (HT.out.but hb));have jo:w2.drew.cell? ⟨Q,0,none⟩=some (.func (.func kf) #[] bZ):=Mu.c;have dF:=uS.drew;have eO:=z7 (show gJ w2.drew p ([]:List Wd).tail from Qs.out.below (zy _ w2).drew);have WB:xR w2.drew Q (.func (.func kf) #[] bZ):=⟨Mu.c,Mu.z,Mu.n⟩;clear X0;go_wp2_with fail;refine rt (fun W':World=>W'.cell? ⟨Q,0,none⟩=some (.func (.func kf) #[] bZ)) [0,2] 5 jo ?_;(iterate 2 ((first|refine ty ?_|refine tn ?_);try simp only[pl]))
    refine xq ?_;generalize w2.drew=wD at dF eO WB ⊢;apply zyy (P:=fun (W:World) (k4 k5 mv:Nat)=>(∃ t3,kL (([]:List Wd)).tail=some (mv,t3)/\gJ W p t3)/\xP p w W/\xR W Q (.func (.func kf) #[] bZ)/\xR W k4 (.int .i64 0)/\xR W k5 .nilFunc/\w.heap.size<=k4/\w.heap.size<=k5/\k4≠k5/\k4≠p/\k5≠p/\k4≠Q/\k5≠Q)
    case h2 =>
     intro L;refine wpAnyH_ready (rs:=[1,3,4]) (by kernel_rfl) (by simp) (zv rfl (fun K hK=>?_) (zv rfl (fun K hK=>?_) (zv rfl (fun K hK=>?_) zj)))
     ·skip
      go_simp;refine(KR.out wD dF eO.out).mono ?_;rintro e qO ⟨hq,Ym⟩;obtain⟨q0,q9⟩:=xX (kL (([]:List Wd)).tail);rw[q9] at hq
      cases q0 with
      | none =>
       obtain rfl:=hq;refine⟨rfl,?_,dF.trans Ym⟩;rw[←HR.out,js,HO.out];dsimp only;unfold Y1;rw[HM.out,if_pos rfl,q9]
      | some q0 =>
       obtain⟨mv,t3⟩:=q0;have HN:=z7 q9;obtain⟨rfl,QO⟩:=hq;have Xw:=z7 QO;have vp:=dF.trans Ym;have gy:=WB.but Ym ZW;clear q9;clear QO;refine hK.out _ _ gy.c (fun _=>?_);clear hK K;refine wpAnyH_ready (rs:=[3,4]) (by kernel_rfl) (by simp) (zv rfl (fun K hK=>?_) (zv rfl (fun K hK=>?_) zj))
       ·skip
        go_simp;have FA:∃ N,N=qO.alloc (.cells #[(.int .i64 0)] 3)/\xP p qO N/\xR N qO.heap.size (.int .i64 0):=⟨_,rfl,(xP.refl _ _).alloc _,xR.made _ _ _ (by decide)⟩;obtain⟨ua,hW,qk,Z6⟩:=FA;have Zt:∀ o,o=zx (some ⟨qO.heap.size,0,none⟩)->o=o:=fun _ _=>rfl
        rw[←hW];have Z7:=z7 (Xw.out.below (show Below qO.heap.size qO ua by rw[hW];exact(zy _ _).alloc (z8 _) _));have vE:=vp.trans qk;have qa:=gy.but qk ZW;have uU:w.heap.size<=qO.heap.size:=vp.size;have kU:qO.heap.size≠Q:=fun e=>by have:=gy.lt;omega
        clear hW Zt;obtain⟨k4,fw⟩:∃ k,k=qO.heap.size:=⟨_,rfl⟩;rw[←fw] at Z6 uU kU ⊢;have km:k4≠p:=by omega
        have sG:=z7 fw;clear fw;refine hK.out _ _ qa.c (fun _=>?_);clear hK K;refine kR 4 (fun K hK=>?_);go_simp;have FA:∃ N,N=ua.alloc (.cells #[.nilFunc] 309)/\xP p ua N/\xR N ua.heap.size .nilFunc:=⟨_,rfl,(xP.refl _ _).alloc _,xR.made _ _ _ (by decide)⟩;obtain⟨V0,hW,uB,gx⟩:=FA;have Zt:∀ o,o=zx (some ⟨ua.heap.size,0,none⟩)->o=o:=fun _ _=>rfl
        rw[←hW];have fe:=z7 (Z7.out.below (show Below ua.heap.size ua V0 by rw[hW];exact(zy _ _).alloc (z8 _) _));have uC:=vE.trans uB;have qw:=qa.but uB ZW;have uQ:w.heap.size<=ua.heap.size:=vE.size;have kQ:ua.heap.size≠Q:=fun e=>by have:=qa.lt;omega
        clear hW Zt;have kh:=Z6.but uB km;have Z8:ua.heap.size≠k4:=fun e=>by have:=Z6.lt;omega
        obtain⟨k5,bW⟩:∃ k,k=ua.heap.size:=⟨_,rfl⟩;rw[←bW] at gx uQ kQ ⊢;rw[←bW] at Z8;have j4:k5≠p:=by omega
        have sF:=z7 bW;clear bW;refine hK.out _ _ qw.c (fun _=>?_);clear hK K;refine jl (m:=#[true,true,true,true,true,false,false]) (by kernel_rfl) ?_;exact L V0 k4 k5 mv ⟨⟨t3,HN.out,fe.out⟩,uC,qw,kh,gx,uU,uQ,by omega,km,j4,kU,kQ⟩
       ·skip
        go_simp;have FA:∃ N,N=qO.alloc (.cells #[.nilFunc] 309)/\xP p qO N/\xR N qO.heap.size .nilFunc:=⟨_,rfl,(xP.refl _ _).alloc _,xR.made _ _ _ (by decide)⟩;obtain⟨ua,hW,qk,Z9⟩:=FA;have Zt:∀ o,o=zx (some ⟨qO.heap.size,0,none⟩)->o=o:=fun _ _=>rfl
        rw[←hW];have Z7:=z7 (Xw.out.below (show Below qO.heap.size qO ua by rw[hW];exact(zy _ _).alloc (z8 _) _));have vE:=vp.trans qk;have qa:=gy.but qk ZW;have uQ:w.heap.size<=qO.heap.size:=vp.size;have kQ:qO.heap.size≠Q:=fun e=>by have:=gy.lt;omega
        clear hW Zt;obtain⟨k5,bW⟩:∃ k,k=qO.heap.size:=⟨_,rfl⟩;rw[←bW] at Z9 uQ kQ ⊢;have j4:k5≠p:=by omega
        have sF:=z7 bW;clear bW;refine hK.out _ _ qa.c (fun _=>?_);clear hK K;refine kR 3 (fun K hK=>?_);go_simp;have FA:∃ N,N=ua.alloc (.cells #[(.int .i64 0)] 3)/\xP p ua N/\xR N ua.heap.size (.int .i64 0):=⟨_,rfl,(xP.refl _ _).alloc _,xR.made _ _ _ (by decide)⟩;obtain⟨V0,hW,uB,kh⟩:=FA;have Zt:∀ o,o=zx (some ⟨ua.heap.size,0,none⟩)->o=o:=fun _ _=>rfl
        rw[←hW];have fe:=z7 (Z7.out.below (show Below ua.heap.size ua V0 by rw[hW];exact(zy _ _).alloc (z8 _) _));have uC:=vE.trans uB;have qw:=qa.but uB ZW;have uU:w.heap.size<=ua.heap.size:=vE.size;have kU:ua.heap.size≠Q:=fun e=>by have:=qa.lt;omega
        clear hW Zt;have gx:=Z9.but uB j4;have Z8:ua.heap.size≠k5:=fun e=>by have:=Z9.lt;omega
        obtain⟨k4,fw⟩:∃ k,k=ua.heap.size:=⟨_,rfl⟩;rw[←fw] at kh uU kU ⊢;rw[←fw] at Z8;have km:k4≠p:=by omega
        have sG:=z7 fw;clear fw;refine hK.out _ _ qw.c (fun _=>?_);clear hK K;refine jl (m:=#[true,true,true,true,true,false,false]) (by kernel_rfl) ?_;exact L V0 k4 k5 mv ⟨⟨t3,HN.out,fe.out⟩,uC,qw,kh,gx,uU,uQ,by omega,km,j4,kU,kQ⟩
     ·skip
      go_simp;have FA:∃ N,N=wD.alloc (.cells #[(.int .i64 0)] 3)/\xP p wD N/\xR N wD.heap.size (.int .i64 0):=⟨_,rfl,(xP.refl _ _).alloc _,xR.made _ _ _ (by decide)⟩;obtain⟨qO,hW,Ym,Em⟩:=FA;have Zt:∀ o,o=zx (some ⟨wD.heap.size,0,none⟩)->o=o:=fun _ _=>rfl
      rw[←hW];have Xw:=z7 (eO.out.below (show Below wD.heap.size wD qO by rw[hW];exact(zy _ _).alloc (z8 _) _));have vp:=dF.trans Ym;have gy:=WB.but Ym ZW;have uU:w.heap.size<=wD.heap.size:=dF.size;have kU:wD.heap.size≠Q:=fun e=>by have:=WB.lt;omega
      clear hW Zt;obtain⟨k4,fw⟩:∃ k,k=wD.heap.size:=⟨_,rfl⟩;rw[←fw] at Em uU kU ⊢;have km:k4≠p:=by omega
      have sG:=z7 fw;clear fw;refine hK.out _ _ gy.c (fun _=>?_);clear hK K;refine wpAnyH_ready (rs:=[1,4]) (by kernel_rfl) (by simp) (zv rfl (fun K hK=>?_) (zv rfl (fun K hK=>?_) zj))
      ·skip
       go_simp;refine(KR.out qO vp Xw.out).mono ?_;rintro e ua ⟨hq,qk⟩;obtain⟨q0,q9⟩:=xX (kL (([]:List Wd)).tail);rw[q9] at hq
       cases q0 with
       | none =>
        obtain rfl:=hq;refine⟨rfl,?_,vp.trans qk⟩;rw[←HR.out,js,HO.out];dsimp only;unfold Y1;rw[HM.out,if_pos rfl,q9]
       | some q0 =>
        obtain⟨mv,t3⟩:=q0;have HN:=z7 q9;obtain⟨rfl,QO⟩:=hq;have Z7:=z7 QO;have vE:=vp.trans qk;have qa:=gy.but qk ZW;clear q9;have Z6:=Em.but qk km;clear QO;refine hK.out _ _ qa.c (fun _=>?_);clear hK K;refine kR 4 (fun K hK=>?_);go_simp;have FA:∃ N,N=ua.alloc (.cells #[.nilFunc] 309)/\xP p ua N/\xR N ua.heap.size .nilFunc:=⟨_,rfl,(xP.refl _ _).alloc _,xR.made _ _ _ (by decide)⟩;obtain⟨V0,hW,uB,gx⟩:=FA;have Zt:∀ o,o=zx (some ⟨ua.heap.size,0,none⟩)->o=o:=fun _ _=>rfl
        rw[←hW];have fe:=z7 (Z7.out.below (show Below ua.heap.size ua V0 by rw[hW];exact(zy _ _).alloc (z8 _) _));have uC:=vE.trans uB;have qw:=qa.but uB ZW;have uQ:w.heap.size<=ua.heap.size:=vE.size;have kQ:ua.heap.size≠Q:=fun e=>by have:=qa.lt;omega
        clear hW Zt;have kh:=Z6.but uB km;have Z8:ua.heap.size≠k4:=fun e=>by have:=Z6.lt;omega
        obtain⟨k5,bW⟩:∃ k,k=ua.heap.size:=⟨_,rfl⟩;rw[←bW] at gx uQ kQ ⊢;rw[←bW] at Z8;have j4:k5≠p:=by omega
        have sF:=z7 bW;clear bW;refine hK.out _ _ qw.c (fun _=>?_);clear hK K;refine jl (m:=#[true,true,true,true,true,false,false]) (by kernel_rfl) ?_;exact L V0 k4 k5 mv ⟨⟨t3,HN.out,fe.out⟩,uC,qw,kh,gx,uU,uQ,by omega,km,j4,kU,kQ⟩
      ·skip
       go_simp;have FA:∃ N,N=qO.alloc (.cells #[.nilFunc] 309)/\xP p qO N/\xR N qO.heap.size .nilFunc:=⟨_,rfl,(xP.refl _ _).alloc _,xR.made _ _ _ (by decide)⟩;obtain⟨ua,hW,qk,Z9⟩:=FA;have Zt:∀ o,o=zx (some ⟨qO.heap.size,0,none⟩)->o=o:=fun _ _=>rfl
       rw[←hW];have Z7:=z7 (Xw.out.below (show Below qO.heap.size qO ua by rw[hW];exact(zy _ _).alloc (z8 _) _));have vE:=vp.trans qk;have qa:=gy.but qk ZW;have uQ:w.heap.size<=qO.heap.size:=vp.size;have kQ:qO.heap.size≠Q:=fun e=>by have:=gy.lt;omega
       clear hW Zt;have Z6:=Em.but qk km;have Z8:qO.heap.size≠k4:=fun e=>by have:=Em.lt;omega
       obtain⟨k5,bW⟩:∃ k,k=qO.heap.size:=⟨_,rfl⟩;rw[←bW] at Z9 uQ kQ ⊢;rw[←bW] at Z8;have j4:k5≠p:=by omega
       have sF:=z7 bW;clear bW;refine hK.out _ _ qa.c (fun _=>?_);clear hK K;refine kR 1 (fun K hK=>?_);go_simp;refine(KR.out ua vE Z7.out).mono ?_;rintro e V0 ⟨hq,uB⟩;obtain⟨q0,q9⟩:=xX (kL (([]:List Wd)).tail);rw[q9] at hq
       cases q0 with
       | none =>
        obtain rfl:=hq;refine⟨rfl,?_,vE.trans uB⟩;rw[←HR.out,js,HO.out];dsimp only;unfold Y1;rw[HM.out,if_pos rfl,q9]
       | some q0 =>
        obtain⟨mv,t3⟩:=q0;have HN:=z7 q9;obtain⟨rfl,QO⟩:=hq;have fe:=z7 QO;have uC:=vE.trans uB;have qw:=qa.but uB ZW;clear q9;have kh:=Z6.but uB km;have gx:=Z9.but uB j4;clear QO;refine hK.out _ _ qw.c (fun _=>?_);clear hK K;refine jl (m:=#[true,true,true,true,true,false,false]) (by kernel_rfl) ?_;exact L V0 k4 k5 mv ⟨⟨t3,HN.out,fe.out⟩,uC,qw,kh,gx,uU,uQ,by omega,km,j4,kU,kQ⟩
     ·skip
      go_simp;have FA:∃ N,N=wD.alloc (.cells #[.nilFunc] 309)/\xP p wD N/\xR N wD.heap.size .nilFunc:=⟨_,rfl,(xP.refl _ _).alloc _,xR.made _ _ _ (by decide)⟩;obtain⟨qO,hW,Ym,En⟩:=FA;have Zt:∀ o,o=zx (some ⟨wD.heap.size,0,none⟩)->o=o:=fun _ _=>rfl
      rw[←hW];have Xw:=z7 (eO.out.below (show Below wD.heap.size wD qO by rw[hW];exact(zy _ _).alloc (z8 _) _));have vp:=dF.trans Ym;have gy:=WB.but Ym ZW;have uQ:w.heap.size<=wD.heap.size:=dF.size;have kQ:wD.heap.size≠Q:=fun e=>by have:=WB.lt;omega
      clear hW Zt;obtain⟨k5,bW⟩:∃ k,k=wD.heap.size:=⟨_,rfl⟩;rw[←bW] at En uQ kQ ⊢;have j4:k5≠p:=by omega
      have sF:=z7 bW;clear bW;refine hK.out _ _ gy.c (fun _=>?_);clear hK K;refine wpAnyH_ready (rs:=[1,3]) (by kernel_rfl) (by simp) (zv rfl (fun K hK=>?_) (zv rfl (fun K hK=>?_) zj))
      ·skip
       go_simp;refine(KR.out qO vp Xw.out).mono ?_;rintro e ua ⟨hq,qk⟩;obtain⟨q0,q9⟩:=xX (kL (([]:List Wd)).tail);rw[q9] at hq
       cases q0 with
       | none =>
        obtain rfl:=hq;refine⟨rfl,?_,vp.trans qk⟩;rw[←HR.out,js,HO.out];dsimp only;unfold Y1;rw[HM.out,if_pos rfl,q9]
       | some q0 =>
        obtain⟨mv,t3⟩:=q0;have HN:=z7 q9;obtain⟨rfl,QO⟩:=hq;have Z7:=z7 QO;have vE:=vp.trans qk;have qa:=gy.but qk ZW;clear q9;have Z9:=En.but qk j4;clear QO;refine hK.out _ _ qa.c (fun _=>?_);clear hK K;refine kR 3 (fun K hK=>?_);go_simp;have FA:∃ N,N=ua.alloc (.cells #[(.int .i64 0)] 3)/\xP p ua N/\xR N ua.heap.size (.int .i64 0):=⟨_,rfl,(xP.refl _ _).alloc _,xR.made _ _ _ (by decide)⟩;obtain⟨V0,hW,uB,kh⟩:=FA;have Zt:∀ o,o=zx (some ⟨ua.heap.size,0,none⟩)->o=o:=fun _ _=>rfl
        rw[←hW];have fe:=z7 (Z7.out.below (show Below ua.heap.size ua V0 by rw[hW];exact(zy _ _).alloc (z8 _) _));have uC:=vE.trans uB;have qw:=qa.but uB ZW;have uU:w.heap.size<=ua.heap.size:=vE.size;have kU:ua.heap.size≠Q:=fun e=>by have:=qa.lt;omega
        clear hW Zt;have gx:=Z9.but uB j4;have Z8:ua.heap.size≠k5:=fun e=>by have:=Z9.lt;omega
        obtain⟨k4,fw⟩:∃ k,k=ua.heap.size:=⟨_,rfl⟩;rw[←fw] at kh uU kU ⊢;rw[←fw] at Z8;have km:k4≠p:=by omega
        have sG:=z7 fw;clear fw;refine hK.out _ _ qw.c (fun _=>?_);clear hK K;refine jl (m:=#[true,true,true,true,true,false,false]) (by kernel_rfl) ?_;exact L V0 k4 k5 mv ⟨⟨t3,HN.out,fe.out⟩,uC,qw,kh,gx,uU,uQ,by omega,km,j4,kU,kQ⟩
      ·skip
       go_simp;have FA:∃ N,N=qO.alloc (.cells #[(.int .i64 0)] 3)/\xP p qO N/\xR N qO.heap.size (.int .i64 0):=⟨_,rfl,(xP.refl _ _).alloc _,xR.made _ _ _ (by decide)⟩;obtain⟨ua,hW,qk,Z6⟩:=FA;have Zt:∀ o,o=zx (some ⟨qO.heap.size,0,none⟩)->o=o:=fun _ _=>rfl
       rw[←hW];have Z7:=z7 (Xw.out.below (show Below qO.heap.size qO ua by rw[hW];exact(zy _ _).alloc (z8 _) _));have vE:=vp.trans qk;have qa:=gy.but qk ZW;have uU:w.heap.size<=qO.heap.size:=vp.size;have kU:qO.heap.size≠Q:=fun e=>by have:=gy.lt;omega
       clear hW Zt;have Z9:=En.but qk j4;have Z8:qO.heap.size≠k5:=fun e=>by have:=En.lt;omega
       obtain⟨k4,fw⟩:∃ k,k=qO.heap.size:=⟨_,rfl⟩;rw[←fw] at Z6 uU kU ⊢;rw[←fw] at Z8;have km:k4≠p:=by omega
       have sG:=z7 fw;clear fw;refine hK.out _ _ qa.c (fun _=>?_);clear hK K;refine kR 1 (fun K hK=>?_);go_simp;refine(KR.out ua vE Z7.out).mono ?_;rintro e V0 ⟨hq,uB⟩;obtain⟨q0,q9⟩:=xX (kL (([]:List Wd)).tail);rw[q9] at hq
       cases q0 with
       | none =>
        obtain rfl:=hq;refine⟨rfl,?_,vE.trans uB⟩;rw[←HR.out,js,HO.out];dsimp only;unfold Y1;rw[HM.out,if_pos rfl,q9]
       | some q0 =>
        obtain⟨mv,t3⟩:=q0;have HN:=z7 q9;obtain⟨rfl,QO⟩:=hq;have fe:=z7 QO;have uC:=vE.trans uB;have qw:=qa.but uB ZW;clear q9;have kh:=Z6.but uB km;have gx:=Z9.but uB j4;clear QO;refine hK.out _ _ qw.c (fun _=>?_);clear hK K;refine jl (m:=#[true,true,true,true,true,false,false]) (by kernel_rfl) ?_;exact L V0 k4 k5 mv ⟨⟨t3,HN.out,fe.out⟩,uC,qw,kh,gx,uU,uQ,by omega,km,j4,kU,kQ⟩
    case h1 =>
     rintro V0 k4 k5 mv ⟨⟨t3,q9,Hg⟩,uC,qw,kh,gx,uU,uQ,Mq,km,j4,kU,kQ⟩;have HN:=z7 q9;have Bz:=(jb q9).1;have KF:=Yv q9;have fe:=z7 Hg;clear q9 Hg;refine kR 5 (fun K hK=>?_);have y4:=kh.c;have y4z:=kh.z;go_simp;refine hK.out _ _ (qw.other (j:=k4) kU.symm _).c (fun _=>?_);clear hK K y4 y4z;have c4S:=kh.same (.int .i64 mv);have lG:=gx.other (j:=k4) Mq.symm (.int .i64 mv);have cQS:=qw.other (j:=k4) kU.symm (.int .i64 mv);have Mk:=uC.put uU (.int .i64 mv);have o9:=z7 (fe.out.put km kh.n (.int .i64 mv));generalize V0.setCell ⟨k4,0,none⟩ (.int .i64 mv)=wS at c4S lG cQS Mk o9 ⊢;refine kR 6 (fun K hK=>?_);have y5:=lG.c;have y5z:=lG.z;go_simp;refine hK.out _ _ (cQS.other (j:=k5) kQ.symm _).c (fun _=>?_);clear hK K y5 y5z;have c4T:=c4S.other (j:=k5) Mq (.func (.func kf) #[] bZ);have c5T:=lG.same (.func (.func kf) #[] bZ);have lF:=cQS.other (j:=k5) kQ.symm (.func (.func kf) #[] bZ);have Fw:=Mk.put uQ (.func (.func kf) #[] bZ);have Bf:=z7 (o9.out.put j4 lG.n (.func (.func kf) #[] bZ));generalize wS.setCell ⟨k5,0,none⟩ (.func (.func kf) #[] bZ)=wT at c4T c5T lF Fw Bf ⊢;refine bX ?_ _;have y4:=c4T.c;have yQ:=lF.c;have yQz:=lF.z;by_cases Dr:mv=0
     ·have vv:r=none:=by rw[←HR.out,js,HO.out];dsimp only;unfold Y1;rw[HM.out,if_pos rfl,HN.out];simp[Dr]
      have gX:=z7 vv;subst Dr;clear vv;go_wp2;refine⟨rfl,?_,Fw⟩;rw[gX.out]
     ·have hmz:((mv:Int)==0)=false:=by simp;omega
      have hre:js (c::([]:List Wd))=match vr t3 with
        | none=>none
        | some ((i,nt),v)=>some ((fun x=>i (Dn F mv x) !=nt),v):=by
       rw[js,HO.out];dsimp only;unfold Y1;rw[HM.out,if_pos rfl,HN.out];simp only[if_neg Dr];rfl
      have oT:=z7 hre;have Vc:0<mv:=by omega
      clear hre Dr;have cU:=lF.same (.func (.func 182) #[] #[.pointer (some ⟨k5,0,none⟩),.pointer (some ⟨k4,0,none⟩)]);have V1:=Fw.put (show w.heap.size<=Q by have:=HQ.out;omega) (.func (.func 182) #[] #[.pointer (some ⟨k5,0,none⟩),.pointer (some ⟨k4,0,none⟩)]);have HPU:=z7 (Bf.out.put ZW lF.n (.func (.func 182) #[] #[.pointer (some ⟨k5,0,none⟩),.pointer (some ⟨k4,0,none⟩)]));have c4U:=c4T.other (j:=Q) kU (.func (.func 182) #[] #[.pointer (some ⟨k5,0,none⟩),.pointer (some ⟨k4,0,none⟩)]);have c5U:=c5T.other (j:=Q) kQ (.func (.func 182) #[] #[.pointer (some ⟨k5,0,none⟩),.pointer (some ⟨k4,0,none⟩)]);go_wp2_with fail;generalize wT.setCell ⟨Q,0,none⟩ (.func (.func 182) #[] #[.pointer (some ⟨k5,0,none⟩),.pointer (some ⟨k4,0,none⟩)])=wU at cU V1 HPU c4U c5U ⊢;have hFU:WY w.heap.size wU.heap.size wU (.func (.func 182) #[] #[.pointer (some ⟨k5,0,none⟩),.pointer (some ⟨k4,0,none⟩)]) (Dn F mv) :=
       ⟨182,_,rfl,fun args w=>enters_of func182 (by kernel_rfl) rfl args w,fun W hW nv x hx =>
        M3 nv x k5 k4 _ mv F 0 0 W hx Bz Vc ((hW.cell (p:=⟨k5,0,none⟩) uQ c5U.lt).trans c5U.c) ((hW.cell (p:=⟨k4,0,none⟩) uU c4U.lt).trans c4U.c) (HFV.out 0 0 W) (Nat.zero_le _)⟩
      have HFU:=z7 hFU;have cQ:=cU;clear hFU y4 yQ yQz;have PX:=z7 (QN p (t3) wU HPU.out (fun x h=>HX.out x (zY _ (zu (KF.mem x h)))) (HT.out.but V1) (by have Uu:=KF.len;have Uf:(([]:List Wd)).tail.length<=(([]:List Wd)).length:=(by simp);omega));go_wp2_with fail;refine PX.out.mono ?_;rintro e w7 ⟨hq,jD⟩;have ja:=V1.trans jD;have fY:r=match vr (t3) with
        | none=>none
        | some ((i,nt),v)=>some ((fun x=>i ((Dn F mv) x) !=nt),v):=by
       rw[←HR.out];exact oT.out
      cases hn:vr (t3) with
      | none =>
       rw[hn] at hq fY;obtain rfl:=hq;have gG:=z7 fY;clear fY hn;go_wp2;refine⟨rfl,?_,ja⟩;rw[gG.out]
      | some q =>
       obtain⟨⟨Tm,nt⟩,t'⟩:=q;rw[hn] at hq fY;obtain⟨⟨v,rfl,lQ⟩,Hx⟩:=hq;have gG:=Lib.hid fY;have HTM:=Lib.hid lQ;have HP7:=Lib.hid Hx;have lJ:=cQ.but jD ZW;have hQ7:=lJ.lt;have HF7:=Lib.hid (WY.keep (lo':=w.heap.size) (hi':=w7.heap.size) HFU.out (jD.keep xD (Nat.le_refl _)) (Nat.le_refl _) jD.size);obtain⟨kt,El,rfl,_⟩:=lQ;clear fY hn Hx;go_wp2;go_ret;have ZB:=ja.alloc (.cells #[.func (.func kt) #[] El] 214);have hbB:=ZB.alloc (.cells #[.bool nt] 4);have Nr:(w7.alloc (.cells #[.func (.func kt) #[] El] 214)).heap.size=w7.heap.size+1:=by simp
       have hsB:((w7.alloc (.cells #[.func (.func kt) #[] El] 214)).alloc (.cells #[.bool nt] 4)).heap.size=w7.heap.size+2:=by simp
       have Fh:Below w7.heap.size w7 ((w7.alloc (.cells #[.func (.func kt) #[] El] 214)).alloc (.cells #[.bool nt] 4)):=((zy _ _).alloc (z8 _) _).alloc (by simp) _;refine⟨?_,hbB⟩;rw[gG.out];have hQw:=HQ.out;have hw7:=ja.size;refine⟨⟨_,rfl,185,_,rfl,fun args w=>enters_of func185 (by kernel_rfl) rfl args w,fun W hW nv x hx=>?_⟩,HP7.out.below Fh⟩;rw[hsB] at hW;have Jo:vQ w.heap.size w7.heap.size w7 W:=hW.via (vU Fh (z8 _) (z8 _)) (z8 _) (by omega);refine QM nv x _ _ _ _ _ nt Tm ((Dn F mv)) w.heap.size w7.heap.size W hx ((hW.cell ?_ ?_).trans ?_) ((Jo.cell ?_ hQ7).trans lJ.c) ((hW.cell ?_ ?_).trans ?_) (HTM.out.keep (Jo.via (vx (z8 _)) (by have:=V1.size;omega) (z8 _)) (by have:=V1.size;omega) (z8 _)) (HF7.out.keep Jo (z8 _) (z8 _)) Jo.1;all_goals first|(show w.heap.size<=w7.heap.size;omega)|(show w7.heap.size<w7.heap.size+2;omega)|(show w.heap.size<=w7.heap.size+1;omega)|(show w7.heap.size+1<w7.heap.size+2;omega)|(show w.heap.size<=Q;omega)|(go_simp;done)
  ·have xc:¬(cap:Int)=1:=by omega
   go_wp2_with fail;have F1:∃ W1,W1=(w.setCell ⟨p,0,none⟩ (.slice (some (b.add 1)) t.length (cap - 1))).alloc (.cells #[.func (.func kf) #[] bZ] 309)/\xP p w W1/\W1.heap.size=w.heap.size+1/\gJ W1 p t/\xR W1 w.heap.size (.func (.func kf) #[] bZ):=by
    have hs:(w.setCell ⟨p,0,none⟩ (.slice (some (b.add 1)) t.length (cap - 1))).heap.size=w.heap.size:=by simp[zZ]
    refine⟨_,rfl,(xP.set p w 0 _).alloc _,by simp[zZ],((HP.out.step hc).1).below ((zy _ _).alloc (z8 _) _),?_⟩;rw[←hs];exact xR.made _ _ _ (by decide)
   obtain⟨W1,Vu,X0,uL,Va,cQ1⟩:=F1;have WD:∀ o,((w.setCell ⟨p,0,none⟩ (.slice (some (b.add 1)) t.length (cap - 1))).alloc (.cells #[.func (.func kf) #[] bZ] 309)).alloc o=W1.alloc o:=fun o=>by rw[Vu]
   have Kw:=z7 Va;have gC:=z7 uL;have him:=lV p t W1 Va;rw[uL] at him;have HIM:=z7 him;clear Va uL him;have zab:(some (b.add 1):Option Addr)=some ⟨b.block,b.off+1,none⟩:=rfl;rw[zab] at WD;rw[WD];clear WD Vu;refine HIM.out.mono ?_;rintro e w2 ⟨rfl,Vb,xF⟩;have uS:=X0.trans xF;have ZW:w.heap.size≠p:=by omega
   have Mu:=cQ1.but xF ZW;have Ff:=z7 Vb;clear Vb cQ1
   cases hm:Iw (t.headD [])
   ·have j9:=Ff.out;rw[hm] at j9;have Qs:=z7 j9;have HM:=z7 hm;clear j9 hm;have cQ:=Mu;obtain⟨Q,hQ⟩:∃ Q,Q=w.heap.size:=⟨_,rfl⟩;rw[←hQ] at cQ Mu ZW ⊢;have HQ:=z7 hQ;clear hQ;have PX:=z7 (QN p (t) w2 Qs.out (fun x h=>HX.out x (by simp[h])) (HT.out.but uS) (by omega));go_wp2_with fail;refine PX.out.mono ?_;rintro e w7 ⟨hq,jD⟩;have ja:=uS.trans jD;have fY:r=match vr (t) with
      | none=>none
      | some ((i,nt),v)=>some ((fun x=>i (F x) !=nt),v):=by
     rw[←HR.out];rw[js,HO.out];dsimp only;unfold Y1;rw[HM.out];rfl
    cases hn:vr (t) with
    | none =>
     rw[hn] at hq fY;obtain rfl:=hq;have gG:=z7 fY;clear fY hn;go_wp2;refine⟨rfl,?_,ja⟩;rw[gG.out]
    | some q =>
     obtain⟨⟨Tm,nt⟩,t'⟩:=q;rw[hn] at hq fY;obtain⟨⟨v,rfl,lQ⟩,Hx⟩:=hq;have gG:=Lib.hid fY;have HTM:=Lib.hid lQ;have HP7:=Lib.hid Hx;have lJ:=cQ.but jD ZW;have hQ7:=lJ.lt;have HF7:=Lib.hid (WY.keep (lo':=w.heap.size) (hi':=w7.heap.size) (HFV.out w.heap.size w2.heap.size w2) (jD.keep xD (Nat.le_refl _)) (Nat.le_refl _) jD.size);obtain⟨kt,El,rfl,_⟩:=lQ;clear fY hn Hx;go_wp2;go_ret;have ZB:=ja.alloc (.cells #[.func (.func kt) #[] El] 214);have hbB:=ZB.alloc (.cells #[.bool nt] 4);have Nr:(w7.alloc (.cells #[.func (.func kt) #[] El] 214)).heap.size=w7.heap.size+1:=by simp
     have hsB:((w7.alloc (.cells #[.func (.func kt) #[] El] 214)).alloc (.cells #[.bool nt] 4)).heap.size=w7.heap.size+2:=by simp
     have Fh:Below w7.heap.size w7 ((w7.alloc (.cells #[.func (.func kt) #[] El] 214)).alloc (.cells #[.bool nt] 4)):=((zy _ _).alloc (z8 _) _).alloc (by simp) _;refine⟨?_,hbB⟩;rw[gG.out];have hQw:=HQ.out;have hw7:=ja.size;refine⟨⟨_,rfl,185,_,rfl,fun args w=>enters_of func185 (by kernel_rfl) rfl args w,fun W hW nv x hx=>?_⟩,HP7.out.below Fh⟩;rw[hsB] at hW;have Jo:vQ w.heap.size w7.heap.size w7 W:=hW.via (vU Fh (z8 _) (z8 _)) (z8 _) (by omega);refine QM nv x _ _ _ _ _ nt Tm (F) w.heap.size w7.heap.size W hx ((hW.cell ?_ ?_).trans ?_) ((Jo.cell ?_ hQ7).trans lJ.c) ((hW.cell ?_ ?_).trans ?_) (HTM.out.keep (Jo.via (vx (z8 _)) (by have:=uS.size;omega) (z8 _)) (by have:=uS.size;omega) (z8 _)) (HF7.out.keep Jo (z8 _) (z8 _)) Jo.1;all_goals first|(show w.heap.size<=w7.heap.size;omega)|(show w7.heap.size<w7.heap.size+2;omega)|(show w.heap.size<=w7.heap.size+1;omega)|(show w7.heap.size+1<w7.heap.size+2;omega)|(show w.heap.size<=Q;omega)|(go_simp;done)
   ·have j9:=Ff.out;rw[hm] at j9;have Qs:=z7 j9;have HM:=z7 hm;clear j9 hm;have cQ:=Mu;obtain⟨Q,hQ⟩:∃ Q,Q=w.heap.size:=⟨_,rfl⟩;rw[←hQ] at cQ Mu ZW ⊢;have HQ:=z7 hQ;clear hQ;have KR:=z7 (fun W (hb:xP p w W) (hp:gJ W p t.tail)=>fT p t.tail W hp (fun x h=>HX.out x (zY _ (zu h))) (HT.out.but hb));have jo:w2.drew.cell? ⟨Q,0,none⟩=some (.func (.func kf) #[] bZ):=Mu.c;have dF:=uS.drew;have eO:=z7 (show gJ w2.drew p t.tail from Qs.out.below (zy _ w2).drew);have WB:xR w2.drew Q (.func (.func kf) #[] bZ):=⟨Mu.c,Mu.z,Mu.n⟩;clear X0;go_wp2_with fail;refine rt (fun W':World=>W'.cell? ⟨Q,0,none⟩=some (.func (.func kf) #[] bZ)) [0,2] 5 jo ?_;(iterate 2 ((first|refine ty ?_|refine tn ?_);try simp only[pl]))
    refine xq ?_;generalize w2.drew=wD at dF eO WB ⊢;apply zyy (P:=fun (W:World) (k4 k5 mv:Nat)=>(∃ t3,kL (t).tail=some (mv,t3)/\gJ W p t3)/\xP p w W/\xR W Q (.func (.func kf) #[] bZ)/\xR W k4 (.int .i64 0)/\xR W k5 .nilFunc/\w.heap.size<=k4/\w.heap.size<=k5/\k4≠k5/\k4≠p/\k5≠p/\k4≠Q/\k5≠Q)
    case h2 =>
     intro L;refine wpAnyH_ready (rs:=[1,3,4]) (by kernel_rfl) (by simp) (zv rfl (fun K hK=>?_) (zv rfl (fun K hK=>?_) (zv rfl (fun K hK=>?_) zj)))
     ·skip
      go_simp;refine(KR.out wD dF eO.out).mono ?_;rintro e qO ⟨hq,Ym⟩;obtain⟨q0,q9⟩:=xX (kL (t).tail);rw[q9] at hq
      cases q0 with
      | none =>
       obtain rfl:=hq;refine⟨rfl,?_,dF.trans Ym⟩;rw[←HR.out,js,HO.out];dsimp only;unfold Y1;rw[HM.out,if_pos rfl,q9]
      | some q0 =>
       obtain⟨mv,t3⟩:=q0;have HN:=z7 q9;obtain⟨rfl,QO⟩:=hq;have Xw:=z7 QO;have vp:=dF.trans Ym;have gy:=WB.but Ym ZW;clear q9;clear QO;refine hK.out _ _ gy.c (fun _=>?_);clear hK K;refine wpAnyH_ready (rs:=[3,4]) (by kernel_rfl) (by simp) (zv rfl (fun K hK=>?_) (zv rfl (fun K hK=>?_) zj))
       ·skip
        go_simp;have FA:∃ N,N=qO.alloc (.cells #[(.int .i64 0)] 3)/\xP p qO N/\xR N qO.heap.size (.int .i64 0):=⟨_,rfl,(xP.refl _ _).alloc _,xR.made _ _ _ (by decide)⟩;obtain⟨ua,hW,qk,Z6⟩:=FA;have Zt:∀ o,o=zx (some ⟨qO.heap.size,0,none⟩)->o=o:=fun _ _=>rfl
        rw[←hW];have Z7:=z7 (Xw.out.below (show Below qO.heap.size qO ua by rw[hW];exact(zy _ _).alloc (z8 _) _));have vE:=vp.trans qk;have qa:=gy.but qk ZW;have uU:w.heap.size<=qO.heap.size:=vp.size;have kU:qO.heap.size≠Q:=fun e=>by have:=gy.lt;omega
        clear hW Zt;obtain⟨k4,fw⟩:∃ k,k=qO.heap.size:=⟨_,rfl⟩;rw[←fw] at Z6 uU kU ⊢;have km:k4≠p:=by omega
        have sG:=z7 fw;clear fw;refine hK.out _ _ qa.c (fun _=>?_);clear hK K;refine kR 4 (fun K hK=>?_);go_simp;have FA:∃ N,N=ua.alloc (.cells #[.nilFunc] 309)/\xP p ua N/\xR N ua.heap.size .nilFunc:=⟨_,rfl,(xP.refl _ _).alloc _,xR.made _ _ _ (by decide)⟩;obtain⟨V0,hW,uB,gx⟩:=FA;have Zt:∀ o,o=zx (some ⟨ua.heap.size,0,none⟩)->o=o:=fun _ _=>rfl
        rw[←hW];have fe:=z7 (Z7.out.below (show Below ua.heap.size ua V0 by rw[hW];exact(zy _ _).alloc (z8 _) _));have uC:=vE.trans uB;have qw:=qa.but uB ZW;have uQ:w.heap.size<=ua.heap.size:=vE.size;have kQ:ua.heap.size≠Q:=fun e=>by have:=qa.lt;omega
        clear hW Zt;have kh:=Z6.but uB km;have Z8:ua.heap.size≠k4:=fun e=>by have:=Z6.lt;omega
        obtain⟨k5,bW⟩:∃ k,k=ua.heap.size:=⟨_,rfl⟩;rw[←bW] at gx uQ kQ ⊢;rw[←bW] at Z8;have j4:k5≠p:=by omega
        have sF:=z7 bW;clear bW;refine hK.out _ _ qw.c (fun _=>?_);clear hK K;refine jl (m:=#[true,true,true,true,true,false,false]) (by kernel_rfl) ?_;exact L V0 k4 k5 mv ⟨⟨t3,HN.out,fe.out⟩,uC,qw,kh,gx,uU,uQ,by omega,km,j4,kU,kQ⟩
       ·skip
        go_simp;have FA:∃ N,N=qO.alloc (.cells #[.nilFunc] 309)/\xP p qO N/\xR N qO.heap.size .nilFunc:=⟨_,rfl,(xP.refl _ _).alloc _,xR.made _ _ _ (by decide)⟩;obtain⟨ua,hW,qk,Z9⟩:=FA;have Zt:∀ o,o=zx (some ⟨qO.heap.size,0,none⟩)->o=o:=fun _ _=>rfl
        rw[←hW];have Z7:=z7 (Xw.out.below (show Below qO.heap.size qO ua by rw[hW];exact(zy _ _).alloc (z8 _) _));have vE:=vp.trans qk;have qa:=gy.but qk ZW;have uQ:w.heap.size<=qO.heap.size:=vp.size;have kQ:qO.heap.size≠Q:=fun e=>by have:=gy.lt;omega
        clear hW Zt;obtain⟨k5,bW⟩:∃ k,k=qO.heap.size:=⟨_,rfl⟩;rw[←bW] at Z9 uQ kQ ⊢;have j4:k5≠p:=by omega
        have sF:=z7 bW;clear bW;refine hK.out _ _ qa.c (fun _=>?_);clear hK K;refine kR 3 (fun K hK=>?_);go_simp;have FA:∃ N,N=ua.alloc (.cells #[(.int .i64 0)] 3)/\xP p ua N/\xR N ua.heap.size (.int .i64 0):=⟨_,rfl,(xP.refl _ _).alloc _,xR.made _ _ _ (by decide)⟩;obtain⟨V0,hW,uB,kh⟩:=FA;have Zt:∀ o,o=zx (some ⟨ua.heap.size,0,none⟩)->o=o:=fun _ _=>rfl
        rw[←hW];have fe:=z7 (Z7.out.below (show Below ua.heap.size ua V0 by rw[hW];exact(zy _ _).alloc (z8 _) _));have uC:=vE.trans uB;have qw:=qa.but uB ZW;have uU:w.heap.size<=ua.heap.size:=vE.size;have kU:ua.heap.size≠Q:=fun e=>by have:=qa.lt;omega
        clear hW Zt;have gx:=Z9.but uB j4;have Z8:ua.heap.size≠k5:=fun e=>by have:=Z9.lt;omega
        obtain⟨k4,fw⟩:∃ k,k=ua.heap.size:=⟨_,rfl⟩;rw[←fw] at kh uU kU ⊢;rw[←fw] at Z8;have km:k4≠p:=by omega
        have sG:=z7 fw;clear fw;refine hK.out _ _ qw.c (fun _=>?_);clear hK K;refine jl (m:=#[true,true,true,true,true,false,false]) (by kernel_rfl) ?_;exact L V0 k4 k5 mv ⟨⟨t3,HN.out,fe.out⟩,uC,qw,kh,gx,uU,uQ,by omega,km,j4,kU,kQ⟩
     ·skip
      go_simp;have FA:∃ N,N=wD.alloc (.cells #[(.int .i64 0)] 3)/\xP p wD N/\xR N wD.heap.size (.int .i64 0):=⟨_,rfl,(xP.refl _ _).alloc _,xR.made _ _ _ (by decide)⟩;obtain⟨qO,hW,Ym,Em⟩:=FA;have Zt:∀ o,o=zx (some ⟨wD.heap.size,0,none⟩)->o=o:=fun _ _=>rfl
      rw[←hW];have Xw:=z7 (eO.out.below (show Below wD.heap.size wD qO by rw[hW];exact(zy _ _).alloc (z8 _) _));have vp:=dF.trans Ym;have gy:=WB.but Ym ZW;have uU:w.heap.size<=wD.heap.size:=dF.size;have kU:wD.heap.size≠Q:=fun e=>by have:=WB.lt;omega
      clear hW Zt;obtain⟨k4,fw⟩:∃ k,k=wD.heap.size:=⟨_,rfl⟩;rw[←fw] at Em uU kU ⊢;have km:k4≠p:=by omega
      have sG:=z7 fw;clear fw;refine hK.out _ _ gy.c (fun _=>?_);clear hK K;refine wpAnyH_ready (rs:=[1,4]) (by kernel_rfl) (by simp) (zv rfl (fun K hK=>?_) (zv rfl (fun K hK=>?_) zj))
      ·skip
       go_simp;refine(KR.out qO vp Xw.out).mono ?_;rintro e ua ⟨hq,qk⟩;obtain⟨q0,q9⟩:=xX (kL (t).tail);rw[q9] at hq
       cases q0 with
       | none =>
        obtain rfl:=hq;refine⟨rfl,?_,vp.trans qk⟩;rw[←HR.out,js,HO.out];dsimp only;unfold Y1;rw[HM.out,if_pos rfl,q9]
       | some q0 =>
        obtain⟨mv,t3⟩:=q0;have HN:=z7 q9;obtain⟨rfl,QO⟩:=hq;have Z7:=z7 QO;have vE:=vp.trans qk;have qa:=gy.but qk ZW;clear q9;have Z6:=Em.but qk km;clear QO;refine hK.out _ _ qa.c (fun _=>?_);clear hK K;refine kR 4 (fun K hK=>?_);go_simp;have FA:∃ N,N=ua.alloc (.cells #[.nilFunc] 309)/\xP p ua N/\xR N ua.heap.size .nilFunc:=⟨_,rfl,(xP.refl _ _).alloc _,xR.made _ _ _ (by decide)⟩;obtain⟨V0,hW,uB,gx⟩:=FA;have Zt:∀ o,o=zx (some ⟨ua.heap.size,0,none⟩)->o=o:=fun _ _=>rfl
        rw[←hW];have fe:=z7 (Z7.out.below (show Below ua.heap.size ua V0 by rw[hW];exact(zy _ _).alloc (z8 _) _));have uC:=vE.trans uB;have qw:=qa.but uB ZW;have uQ:w.heap.size<=ua.heap.size:=vE.size;have kQ:ua.heap.size≠Q:=fun e=>by have:=qa.lt;omega
        clear hW Zt;have kh:=Z6.but uB km;have Z8:ua.heap.size≠k4:=fun e=>by have:=Z6.lt;omega
        obtain⟨k5,bW⟩:∃ k,k=ua.heap.size:=⟨_,rfl⟩;rw[←bW] at gx uQ kQ ⊢;rw[←bW] at Z8;have j4:k5≠p:=by omega
        have sF:=z7 bW;clear bW;refine hK.out _ _ qw.c (fun _=>?_);clear hK K;refine jl (m:=#[true,true,true,true,true,false,false]) (by kernel_rfl) ?_;exact L V0 k4 k5 mv ⟨⟨t3,HN.out,fe.out⟩,uC,qw,kh,gx,uU,uQ,by omega,km,j4,kU,kQ⟩
      ·skip
       go_simp;have FA:∃ N,N=qO.alloc (.cells #[.nilFunc] 309)/\xP p qO N/\xR N qO.heap.size .nilFunc:=⟨_,rfl,(xP.refl _ _).alloc _,xR.made _ _ _ (by decide)⟩;obtain⟨ua,hW,qk,Z9⟩:=FA;have Zt:∀ o,o=zx (some ⟨qO.heap.size,0,none⟩)->o=o:=fun _ _=>rfl
       rw[←hW];have Z7:=z7 (Xw.out.below (show Below qO.heap.size qO ua by rw[hW];exact(zy _ _).alloc (z8 _) _));have vE:=vp.trans qk;have qa:=gy.but qk ZW;have uQ:w.heap.size<=qO.heap.size:=vp.size;have kQ:qO.heap.size≠Q:=fun e=>by have:=gy.lt;omega
       clear hW Zt;have Z6:=Em.but qk km;have Z8:qO.heap.size≠k4:=fun e=>by have:=Em.lt;omega
       obtain⟨k5,bW⟩:∃ k,k=qO.heap.size:=⟨_,rfl⟩;rw[←bW] at Z9 uQ kQ ⊢;rw[←bW] at Z8;have j4:k5≠p:=by omega
       have sF:=z7 bW;clear bW;refine hK.out _ _ qa.c (fun _=>?_);clear hK K;refine kR 1 (fun K hK=>?_);go_simp;refine(KR.out ua vE Z7.out).mono ?_;rintro e V0 ⟨hq,uB⟩;obtain⟨q0,q9⟩:=xX (kL (t).tail);rw[q9] at hq
       cases q0 with
       | none =>
        obtain rfl:=hq;refine⟨rfl,?_,vE.trans uB⟩;rw[←HR.out,js,HO.out];dsimp only;unfold Y1;rw[HM.out,if_pos rfl,q9]
       | some q0 =>
        obtain⟨mv,t3⟩:=q0;have HN:=z7 q9;obtain⟨rfl,QO⟩:=hq;have fe:=z7 QO;have uC:=vE.trans uB;have qw:=qa.but uB ZW;clear q9;have kh:=Z6.but uB km;have gx:=Z9.but uB j4;clear QO;refine hK.out _ _ qw.c (fun _=>?_);clear hK K;refine jl (m:=#[true,true,true,true,true,false,false]) (by kernel_rfl) ?_;exact L V0 k4 k5 mv ⟨⟨t3,HN.out,fe.out⟩,uC,qw,kh,gx,uU,uQ,by omega,km,j4,kU,kQ⟩
     ·skip
      go_simp;have FA:∃ N,N=wD.alloc (.cells #[.nilFunc] 309)/\xP p wD N/\xR N wD.heap.size .nilFunc:=⟨_,rfl,(xP.refl _ _).alloc _,xR.made _ _ _ (by decide)⟩;obtain⟨qO,hW,Ym,En⟩:=FA;have Zt:∀ o,o=zx (some ⟨wD.heap.size,0,none⟩)->o=o:=fun _ _=>rfl
      rw[←hW];have Xw:=z7 (eO.out.below (show Below wD.heap.size wD qO by rw[hW];exact(zy _ _).alloc (z8 _) _));have vp:=dF.trans Ym;have gy:=WB.but Ym ZW;have uQ:w.heap.size<=wD.heap.size:=dF.size;have kQ:wD.heap.size≠Q:=fun e=>by have:=WB.lt;omega
      clear hW Zt;obtain⟨k5,bW⟩:∃ k,k=wD.heap.size:=⟨_,rfl⟩;rw[←bW] at En uQ kQ ⊢;have j4:k5≠p:=by omega
      have sF:=z7 bW;clear bW;refine hK.out _ _ gy.c (fun _=>?_);clear hK K;refine wpAnyH_ready (rs:=[1,3]) (by kernel_rfl) (by simp) (zv rfl (fun K hK=>?_) (zv rfl (fun K hK=>?_) zj))
      ·skip
       go_simp;refine(KR.out qO vp Xw.out).mono ?_;rintro e ua ⟨hq,qk⟩;obtain⟨q0,q9⟩:=xX (kL (t).tail);rw[q9] at hq
       cases q0 with
       | none =>
        obtain rfl:=hq;refine⟨rfl,?_,vp.trans qk⟩;rw[←HR.out,js,HO.out];dsimp only;unfold Y1;rw[HM.out,if_pos rfl,q9]
       | some q0 =>
        obtain⟨mv,t3⟩:=q0;have HN:=z7 q9;obtain⟨rfl,QO⟩:=hq;have Z7:=z7 QO;have vE:=vp.trans qk;have qa:=gy.but qk ZW;clear q9;have Z9:=En.but qk j4;clear QO;refine hK.out _ _ qa.c (fun _=>?_);clear hK K;refine kR 3 (fun K hK=>?_);go_simp;have FA:∃ N,N=ua.alloc (.cells #[(.int .i64 0)] 3)/\xP p ua N/\xR N ua.heap.size (.int .i64 0):=⟨_,rfl,(xP.refl _ _).alloc _,xR.made _ _ _ (by decide)⟩;obtain⟨V0,hW,uB,kh⟩:=FA;have Zt:∀ o,o=zx (some ⟨ua.heap.size,0,none⟩)->o=o:=fun _ _=>rfl
        rw[←hW];have fe:=z7 (Z7.out.below (show Below ua.heap.size ua V0 by rw[hW];exact(zy _ _).alloc (z8 _) _));have uC:=vE.trans uB;have qw:=qa.but uB ZW;have uU:w.heap.size<=ua.heap.size:=vE.size;have kU:ua.heap.size≠Q:=fun e=>by have:=qa.lt;omega
        clear hW Zt;have gx:=Z9.but uB j4;have Z8:ua.heap.size≠k5:=fun e=>by have:=Z9.lt;omega
        obtain⟨k4,fw⟩:∃ k,k=ua.heap.size:=⟨_,rfl⟩;rw[←fw] at kh uU kU ⊢;rw[←fw] at Z8;have km:k4≠p:=by omega
        have sG:=z7 fw;clear fw;refine hK.out _ _ qw.c (fun _=>?_);clear hK K;refine jl (m:=#[true,true,true,true,true,false,false]) (by kernel_rfl) ?_;exact L V0 k4 k5 mv ⟨⟨t3,HN.out,fe.out⟩,uC,qw,kh,gx,uU,uQ,by omega,km,j4,kU,kQ⟩
      ·skip
       go_simp;have FA:∃ N,N=qO.alloc (.cells #[(.int .i64 0)] 3)/\xP p qO N/\xR N qO.heap.size (.int .i64 0):=⟨_,rfl,(xP.refl _ _).alloc _,xR.made _ _ _ (by decide)⟩;obtain⟨ua,hW,qk,Z6⟩:=FA;have Zt:∀ o,o=zx (some ⟨qO.heap.size,0,none⟩)->o=o:=fun _ _=>rfl
       rw[←hW];have Z7:=z7 (Xw.out.below (show Below qO.heap.size qO ua by rw[hW];exact(zy _ _).alloc (z8 _) _));have vE:=vp.trans qk;have qa:=gy.but qk ZW;have uU:w.heap.size<=qO.heap.size:=vp.size;have kU:qO.heap.size≠Q:=fun e=>by have:=gy.lt;omega
       clear hW Zt;have Z9:=En.but qk j4;have Z8:qO.heap.size≠k5:=fun e=>by have:=En.lt;omega
       obtain⟨k4,fw⟩:∃ k,k=qO.heap.size:=⟨_,rfl⟩;rw[←fw] at Z6 uU kU ⊢;rw[←fw] at Z8;have km:k4≠p:=by omega
       have sG:=z7 fw;clear fw;refine hK.out _ _ qa.c (fun _=>?_);clear hK K;refine kR 1 (fun K hK=>?_);go_simp;refine(KR.out ua vE Z7.out).mono ?_;rintro e V0 ⟨hq,uB⟩;obtain⟨q0,q9⟩:=xX (kL (t).tail);rw[q9] at hq
       cases q0 with
       | none =>
        obtain rfl:=hq;refine⟨rfl,?_,vE.trans uB⟩;rw[←HR.out,js,HO.out];dsimp only;unfold Y1;rw[HM.out,if_pos rfl,q9]
       | some q0 =>
        obtain⟨mv,t3⟩:=q0;have HN:=z7 q9;obtain⟨rfl,QO⟩:=hq;have fe:=z7 QO;have uC:=vE.trans uB;have qw:=qa.but uB ZW;clear q9;have kh:=Z6.but uB km;have gx:=Z9.but uB j4;clear QO;refine hK.out _ _ qw.c (fun _=>?_);clear hK K;refine jl (m:=#[true,true,true,true,true,false,false]) (by kernel_rfl) ?_;exact L V0 k4 k5 mv ⟨⟨t3,HN.out,fe.out⟩,uC,qw,kh,gx,uU,uQ,by omega,km,j4,kU,kQ⟩
    case h1 =>
     rintro V0 k4 k5 mv ⟨⟨t3,q9,Hg⟩,uC,qw,kh,gx,uU,uQ,Mq,km,j4,kU,kQ⟩;have HN:=z7 q9;have Bz:=(jb q9).1;have KF:=Yv q9;have fe:=z7 Hg;clear q9 Hg;refine kR 5 (fun K hK=>?_);have y4:=kh.c;have y4z:=kh.z;go_simp;refine hK.out _ _ (qw.other (j:=k4) kU.symm _).c (fun _=>?_);clear hK K y4 y4z;have c4S:=kh.same (.int .i64 mv);have lG:=gx.other (j:=k4) Mq.symm (.int .i64 mv);have cQS:=qw.other (j:=k4) kU.symm (.int .i64 mv);have Mk:=uC.put uU (.int .i64 mv);have o9:=z7 (fe.out.put km kh.n (.int .i64 mv));generalize V0.setCell ⟨k4,0,none⟩ (.int .i64 mv)=wS at c4S lG cQS Mk o9 ⊢;refine kR 6 (fun K hK=>?_);have y5:=lG.c;have y5z:=lG.z;go_simp;refine hK.out _ _ (cQS.other (j:=k5) kQ.symm _).c (fun _=>?_);clear hK K y5 y5z;have c4T:=c4S.other (j:=k5) Mq (.func (.func kf) #[] bZ);have c5T:=lG.same (.func (.func kf) #[] bZ);have lF:=cQS.other (j:=k5) kQ.symm (.func (.func kf) #[] bZ);have Fw:=Mk.put uQ (.func (.func kf) #[] bZ);have Bf:=z7 (o9.out.put j4 lG.n (.func (.func kf) #[] bZ));generalize wS.setCell ⟨k5,0,none⟩ (.func (.func kf) #[] bZ)=wT at c4T c5T lF Fw Bf ⊢;refine bX ?_ _;have y4:=c4T.c;have yQ:=lF.c;have yQz:=lF.z;by_cases Dr:mv=0
     ·have vv:r=none:=by rw[←HR.out,js,HO.out];dsimp only;unfold Y1;rw[HM.out,if_pos rfl,HN.out];simp[Dr]
      have gX:=z7 vv;subst Dr;clear vv;go_wp2;refine⟨rfl,?_,Fw⟩;rw[gX.out]
     ·have hmz:((mv:Int)==0)=false:=by simp;omega
      have hre:js (c::t)=match vr t3 with
        | none=>none
        | some ((i,nt),v)=>some ((fun x=>i (Dn F mv x) !=nt),v):=by
       rw[js,HO.out];dsimp only;unfold Y1;rw[HM.out,if_pos rfl,HN.out];simp only[if_neg Dr];rfl
      have oT:=z7 hre;have Vc:0<mv:=by omega
      clear hre Dr;have cU:=lF.same (.func (.func 182) #[] #[.pointer (some ⟨k5,0,none⟩),.pointer (some ⟨k4,0,none⟩)]);have V1:=Fw.put (show w.heap.size<=Q by have:=HQ.out;omega) (.func (.func 182) #[] #[.pointer (some ⟨k5,0,none⟩),.pointer (some ⟨k4,0,none⟩)]);have HPU:=z7 (Bf.out.put ZW lF.n (.func (.func 182) #[] #[.pointer (some ⟨k5,0,none⟩),.pointer (some ⟨k4,0,none⟩)]));have c4U:=c4T.other (j:=Q) kU (.func (.func 182) #[] #[.pointer (some ⟨k5,0,none⟩),.pointer (some ⟨k4,0,none⟩)]);have c5U:=c5T.other (j:=Q) kQ (.func (.func 182) #[] #[.pointer (some ⟨k5,0,none⟩),.pointer (some ⟨k4,0,none⟩)]);go_wp2_with fail;generalize wT.setCell ⟨Q,0,none⟩ (.func (.func 182) #[] #[.pointer (some ⟨k5,0,none⟩),.pointer (some ⟨k4,0,none⟩)])=wU at cU V1 HPU c4U c5U ⊢;have hFU:WY w.heap.size wU.heap.size wU (.func (.func 182) #[] #[.pointer (some ⟨k5,0,none⟩),.pointer (some ⟨k4,0,none⟩)]) (Dn F mv) :=
       ⟨182,_,rfl,fun args w=>enters_of func182 (by kernel_rfl) rfl args w,fun W hW nv x hx =>
        M3 nv x k5 k4 _ mv F 0 0 W hx Bz Vc ((hW.cell (p:=⟨k5,0,none⟩) uQ c5U.lt).trans c5U.c) ((hW.cell (p:=⟨k4,0,none⟩) uU c4U.lt).trans c4U.c) (HFV.out 0 0 W) (Nat.zero_le _)⟩
      have HFU:=z7 hFU;have cQ:=cU;clear hFU y4 yQ yQz;have PX:=z7 (QN p (t3) wU HPU.out (fun x h=>HX.out x (zY _ (zu (KF.mem x h)))) (HT.out.but V1) (by have Uu:=KF.len;have Uf:(t).tail.length<=(t).length:=(by simp);omega));go_wp2_with fail;refine PX.out.mono ?_;rintro e w7 ⟨hq,jD⟩;have ja:=V1.trans jD;have fY:r=match vr (t3) with
        | none=>none
        | some ((i,nt),v)=>some ((fun x=>i ((Dn F mv) x) !=nt),v):=by
       rw[←HR.out];exact oT.out
      cases hn:vr (t3) with
      | none =>
       rw[hn] at hq fY;obtain rfl:=hq;have gG:=z7 fY;clear fY hn;go_wp2;refine⟨rfl,?_,ja⟩;rw[gG.out]
      | some q =>
       obtain⟨⟨Tm,nt⟩,t'⟩:=q;rw[hn] at hq fY;obtain⟨⟨v,rfl,lQ⟩,Hx⟩:=hq;have gG:=Lib.hid fY;have HTM:=Lib.hid lQ;have HP7:=Lib.hid Hx;have lJ:=cQ.but jD ZW;have hQ7:=lJ.lt;have HF7:=Lib.hid (WY.keep (lo':=w.heap.size) (hi':=w7.heap.size) HFU.out (jD.keep xD (Nat.le_refl _)) (Nat.le_refl _) jD.size);obtain⟨kt,El,rfl,_⟩:=lQ;clear fY hn Hx;go_wp2;go_ret;have ZB:=ja.alloc (.cells #[.func (.func kt) #[] El] 214);have hbB:=ZB.alloc (.cells #[.bool nt] 4);have Nr:(w7.alloc (.cells #[.func (.func kt) #[] El] 214)).heap.size=w7.heap.size+1:=by simp
       have hsB:((w7.alloc (.cells #[.func (.func kt) #[] El] 214)).alloc (.cells #[.bool nt] 4)).heap.size=w7.heap.size+2:=by simp
       have Fh:Below w7.heap.size w7 ((w7.alloc (.cells #[.func (.func kt) #[] El] 214)).alloc (.cells #[.bool nt] 4)):=((zy _ _).alloc (z8 _) _).alloc (by simp) _;refine⟨?_,hbB⟩;rw[gG.out];have hQw:=HQ.out;have hw7:=ja.size;refine⟨⟨_,rfl,185,_,rfl,fun args w=>enters_of func185 (by kernel_rfl) rfl args w,fun W hW nv x hx=>?_⟩,HP7.out.below Fh⟩;rw[hsB] at hW;have Jo:vQ w.heap.size w7.heap.size w7 W:=hW.via (vU Fh (z8 _) (z8 _)) (z8 _) (by omega);refine QM nv x _ _ _ _ _ nt Tm ((Dn F mv)) w.heap.size w7.heap.size W hx ((hW.cell ?_ ?_).trans ?_) ((Jo.cell ?_ hQ7).trans lJ.c) ((hW.cell ?_ ?_).trans ?_) (HTM.out.keep (Jo.via (vx (z8 _)) (by have:=V1.size;omega) (z8 _)) (by have:=V1.size;omega) (z8 _)) (HF7.out.keep Jo (z8 _) (z8 _)) Jo.1;all_goals first|(show w.heap.size<=w7.heap.size;omega)|(show w7.heap.size<w7.heap.size+2;omega)|(show w.heap.size<=w7.heap.size+1;omega)|(show w7.heap.size+1<w7.heap.size+2;omega)|(show w.heap.size<=Q;omega)|(go_simp;done)
theorem Eo(p:Nat)(ws:List Wd)(w:World)(hp:gJ w p ws)(hx:∀ x∈ws,Ec x)(hT:RT p w)(hl:ws.length<=1000) :
  Calls prog 145 #[.pointer (some ⟨p,0,none⟩)] w (Yl p (js ws) w):=by
 match ws,hp,hx,hl with
 | [],hp,_,_=>exact Ei p w hp
 | c::t,hp,hx,hl=>exact B2 p c t w hp hx hT (by simpa using hl)
def zfz(p:Nat)(w:World)(v:Value)(P:Parser):Prop :=
 ∃ k first cap,v = .func (.func k) first cap/\(∀ args w,(callFunc k args).run prog w = .ok (.enter k args) w) /\
  ∀ W ws,xP p w W->gJ W p ws->(∀ x∈ws,Ec x)->ws.length<=1000->Calls prog k (first++cap) W (Yl p (P ws) W)
def zfy(v:Value)(tog:List qR->qR):Prop :=
 ∃ k,v = .func (.func k) #[] #[]/\(∀ args w,(callFunc k args).run prog w = .ok (.enter k args) w) /\
  ∀ (Ts:List qR) (a:Option Addr) (c lo:Nat) (W:World),Ts.length<=1000000->lo<=W.heap.size->Z4 lo W.heap.size W a Ts ->
   Calls prog k #[.slice a Ts.length c] W fun e w'=>(∃ v,e = .returned v/\j6 lo w'.heap.size w' v (tog Ts))/\Below W.heap.size W w'
def zfx(p:Nat)(word:Wd)(P:Parser)(r:Option (List qR×List Wd))(n0:Nat)(w:World)(sv:Value)(n:Nat)(wr:World):Prop :=
 ∃ (Ts:List qR) (us:List Wd),ZT w.heap.size wr sv Ts/\gJ wr p us/\xP p w wr/\us.length+Ts.length<=n0+1/\(∀ x∈us,Ec x)/\us.length<=n/\us.length<=n0 /\
  (if Y0 word us then fJ word P n Ts us.tail else some (Ts,us))=r
theorem sD{lo l0 h0:Nat}{w:World}{u:Value}{T:qR}(hT:j6 l0 h0 w u T)(QT:lo<=l0)(hh:h0<=w.heap.size)(hl:lo<=w.heap.size) :
  ZT lo (w.alloc (.cells #[u] 214)) (.slice (some ⟨w.heap.size,0,none⟩) 1 1) [T]:=by
 have hb:Below w.heap.size w (w.alloc (.cells #[u] 214)):=(zy _ _).alloc (z8 _) _;refine⟨[u],World.ownsRow_lit w #[u] 1 hl (by decide) rfl,fun j hj=>?_⟩;have:j=0:=by simp at hj;omega
 subst this;exact⟨u,l0,h0,rfl,QT,zk hh hb.size,fun g hg=>by cases hg;exact .inr hh,hT.keep (vU hb hh hh) (z8 _) (z8 _)⟩
theorem Rr(p:Nat)(word:Wd)(tog:List qR->qR)(P:Parser)(tv ov:Value)(ws:List Wd)(w:World)(hp:gJ w p ws)(hx:∀ x∈ws,Ec x)(hl:ws.length<=1000)(ht:zfy tv tog)(ho:zfz p w ov P)(hs:∀ us T t,P us=some (T,t)->Sub t us) :
  Calls prog 141 #[.pointer (some ⟨p,0,none⟩),xk word,tv,ov] w (Yl p (E8 word tog P ws) w):=by
 obtain⟨r,hr⟩:=xX (fJ word P (ws.length+1) [] ws);have hpr:E8 word tog P ws=r.map fun q=>(tog q.1,q.2):=by unfold E8;rw[hr]
 rw[hpr];have HR:=z7 hr;have HX:=z7 hx;have HP:=z7 hp;have HS:=z7 hs;have xD:=hp.lt;obtain⟨kt,rfl,het,yzv⟩:=ht;obtain⟨ko,first,cap,rfl,heo,lD⟩:=ho;have yib:=z7 yzv;have Gl:=z7 lD;clear hr hpr hx hp hs yzv lD;go_enter func141,ntmps141;go_wp2_with fail;refine(Gl.out w ws (xP.refl _ _) HP.out HX.out hl).mono ?_;rintro e w1 ⟨hq,xB⟩
 cases hn:P ws with
 | none =>
  rw[hn] at hq;obtain rfl:=hq;have vv:r=none:=by rw[←HR.out,fJ,hn]
  have gX:=z7 vv;clear vv hn;go_wp2;refine⟨rfl,?_,xB⟩;rw[gX.out];rfl
 | some q =>
  obtain⟨T1,t1⟩:=q;rw[hn] at hq;obtain⟨⟨v,rfl,hT1⟩,Va⟩:=hq;have lC:=HS.out _ _ _ hn;have JB:=sD hT1 (z8 w.heap.size) (z8 _) xB.size;have HRL:=z7 JB;obtain⟨kv,cpv,rfl,_⟩:=hT1;have yl0:xP p w (w1.alloc (.cells #[.func (.func kv) #[] cpv] 214)):=xB.below ((zy _ _).alloc (z8 _) _);have yzu:gJ (w1.alloc (.cells #[.func (.func kv) #[] cpv] 214)) p t1:=Va.below ((zy _ _).alloc (z8 _) _);have Kw:=z7 yzu;have fY:(if Y0 word t1 then fJ word P ws.length [T1] t1.tail else some ([T1],t1))=r:=by rw[←HR.out,fJ,hn];rfl
  have gG:=z7 fY;have lH:=z7 (fun x hx=>HX.out x (lC.mem x hx));have yzq:=lC.len;clear hn Va yzu JB fY lC;go_wp2_with fail;go_loopg [9] ws.length (fun n sv wr=>zfx p word P r ws.length w sv n wr)
  case atStart=>exact⟨[T1],t1,HRL.out,Kw.out,yl0,by simp;omega,lH.out,yzq,yzq,gG.out⟩
  case round =>
   obtain⟨Ts,us,vD,Hu,fx,hlen,R4,hun,hu0,jM⟩:=hrel;have qV:=z7 vD;have HPA:=z7 Hu;have HXS:=z7 R4;have b8:=z7 jM;obtain⟨a,c,rfl⟩:=vD.form;clear vD Hu R4 jM;go_wp2_with fail;refine(fW p word us _ HPA.out).mono ?_;rintro e w2 ⟨rfl,Vb,xF⟩;have uS:=fx.trans xF;have Fm:=z7 (qV.out.but xF xD);have Ff:=z7 Vb;clear Vb
   cases hi:Y0 word us
   ·have jM:=b8.out;rw[hi] at jM;have Vb:=Ff.out;rw[hi] at Vb;have VS:=z7 jM;have HPZ:=z7 Vb;have VV:=yib.out Ts a c w.heap.size w2 (by omega) uS.size Fm.out.tests;have HSM:=z7 VV;clear hi jM Vb VV;go_wp2_with fail;refine HSM.out.mono ?_;rintro e w3 ⟨⟨v,rfl,htt⟩,uP⟩;have Fl:=z7 htt;clear htt;go_wp2;go_ret;rw[←VS.out];exact⟨⟨⟨_,rfl,Fl.out⟩,HPZ.out.below uP⟩,uS.below uP⟩
   ·have jM:=b8.out;rw[hi] at jM;have Vb:=Ff.out;rw[hi] at Vb;have HPZ:=z7 Vb;have jm:0<us.length:=by
     cases us with
     | nil=>cases hi
     | cons x y=>simp
    obtain⟨m,rfl⟩:∃ m,gk=m+1:=⟨gk - 1,by omega⟩;have VS:=z7 jM;have lD:=Gl.out w2 us.tail uS Vb (fun x hx=>HXS.out x (zu hx)) (by simp;omega);have HON:=z7 lD;clear hi jM Vb lD;go_wp2_with fail;refine HON.out.mono ?_;rintro e w3 ⟨XJ,uP⟩;have dR:=uS.trans uP
    cases Wa:P us.tail with
    | none =>
     rw[Wa] at XJ;obtain rfl:=XJ;have vv:r=none:=by rw[←VS.out];simp[fJ,Wa]
     have gX:=z7 vv;clear vv Wa;go_wp2;refine⟨rfl,?_,dR⟩;rw[gX.out];rfl
    | some q3 =>
     obtain⟨T3,t3⟩:=q3;rw[Wa] at XJ;obtain⟨⟨v,rfl,Wc⟩,Hg⟩:=XJ;have lL:=HS.out _ _ _ Wa;have yzk:(if Y0 word t3 then fJ word P m (Ts++[T3]) t3.tail else some (Ts++[T3],t3))=r:=by rw[←VS.out];simp[fJ,Wa]
     have yl1:=z7 yzk;obtain⟨vs,UT,ly⟩:=Fm.out.but uP xD;have HFT:=z7 Wc;have M9:=z7 Hg;have Dd:=z7 ly;have DE:=z7 UT;have HX3:=z7 (fun x hx=>HXS.out x (zu (lL.mem x hx)));have hl3:t3.length+1<=us.length:=by have:=lL.len;simp at this;omega
     obtain⟨kf,bZ,rfl,_⟩:=Wc;clear Hg ly UT Wa yzk lL;go_wp2_with (at_builtin;refine Yi UH rfl _ _ rfl w.heap.size _ Ts.length vs rfl (DE.out.alloc _) ⟨w3.heap.size,0,none⟩ 1 1 [.func (.func kf) #[] bZ] rfl rfl ?c1 ?c2 ?c3 ?c4 ?_)
     case c1=>exact cells_one (xu _ _ _ _ _)
     case c2=>intro u hu;simp at hu;subst hu;rfl
     case c3=>omega
     case c4=>have:=dR.size;simp;omega
     intro QQ w5 jW qc Fp;have ZB:Below w3.heap.size w3 (w3.alloc (.cells #[.func (.func kf) #[] bZ] 214)):=(zy _ _).alloc (z8 _) _;have Xt:∀ g,(zJ a Ts.length c).ownBlock=some g->w.heap.size<=g/\g<w2.heap.size:=fun g hg=>by
      obtain⟨_,Sn,_⟩:=Fm.out;exact Sn.lt g hg
     have Xh:ZT w.heap.size w5 QQ (Ts++[T3]) :=
      ZT.more Dd.out (by have:=DE.out.1;omega) HFT.out (by have:=uS.size;omega) (z8 _) (fun g hg => .inl (Xt g hg).2) ZB qc (by simpa using Fp) jW
     have Ir:gJ w5 p t3:=(M9.out.below ZB).row (DE.out.alloc _) xD qc;have jZ:xP p w w5:=(dR.below ZB).Pb qc (fun k hk=>(Xt k hk).1);obtain⟨a5,c5,rfl⟩:=xd jW;have Fs:=z7 Xh;have WK:=z7 Ir;clear Xh Ir jW qc Fp ZB Xt;go_wp2;go_roundg m
     case measure=>omega
     case rel=>exact⟨Ts++[T3],t3,by simpa using Fs.out,WK.out,jZ,by simp;omega,HX3.out,by omega,by omega,yl1.out⟩
end Go.Proofs.YthpldolmpinnhaaGreatDoor
