import Derived.Test.YthpldolmpinnhaaGreatDoorJG17
set_option maxHeartbeats 64000000
open Go.Lib renaming hid→z7
open Go.World renaming block_lt_of_cell?→z8,ownsRow_nil→zx
open Nat renaming le_refl→zy
namespace Go.Proofs.YthpldolmpinnhaaGreatDoor
open Go Go.RowKit
set_option maxRecDepth 10000
theorem MkS.fM{α:Type}(P:MkS->Prop)(g:MkS->α->MkS)(hg:∀ s a,P s->P (g s a)):∀ (l:List α) (s:MkS),P s->P (l.foldl g s)
 | [],_,h=>h
 | a::l,s,h=>MkS.fM P g hg l _ (hg s a h)
structure qi(P:MkS->Prop):Prop where
 put:∀ s op v k tg,P s->P (s.put op v k tg)
 const:∀ s t,P s->P (s.const t)
 u7:∀ s i j,P s->P (s.u7 i j)
section
variable {P:MkS->Prop} (I:qi P)
include I
theorem qi.one{s:MkS}(op:Nat)(t:Wd)(h:P s):P (s.one op t):=I.put _ _ _ _ _ (I.const _ _ h)
theorem qi.j7:∀ (f:Fo) (s:MkS) (acc:List Nat),P s->P (MkS.j7 f s acc).1
 | .uz k _ _ r,s,acc,h=>by
  rw[MkS.j7];split
  .exact qi.j7 r s acc h
  .exact qi.j7 r _ _ (I.const _ _ h)
 | .nil,_,_,h=>h
 | .text _ _,_,_,h=>h
 | .hash _,_,_,h=>h
 | .put _ _ _,_,_,h=>h
 | .num _ _ _,_,_,h=>h
 | .br _ _ _ _ _ _ _,_,_,h=>h
theorem qi.qD:∀ (f:Fo) (s:MkS) (acc:List (Wd×Nat)),P s->P (MkS.qD f s acc).1
 | .uz k _ _ r,s,acc,h=>by
  rw[MkS.qD];split
  .exact qi.qD r _ _ (I.put _ _ _ _ _ h)
  .exact qi.qD r s acc h
 | .nil,_,_,h=>h
 | .text _ _,_,_,h=>h
 | .hash _,_,_,h=>h
 | .put _ _ _,_,_,h=>h
 | .num _ _ _,_,_,h=>h
 | .br _ _ _ _ _ _ _,_,_,h=>h
theorem qi.plu{s:MkS}(n o:Wd)(bs:Fo)(s0:MkS)(k:Wd)(h:P s):P (MkS.jE n o bs s0 k s):=by
 unfold MkS.jE;split
 .exact I.u7 _ _ _ h
 .exact MkS.fM P _ (fun s c h=>by split;exact I.u7 _ _ _ h;exact h) _ _ h
theorem qi.go:∀ (f:Fo) (bg:Wd->MkS->MkS) (s:MkS) (ls:List Nat),(∀ k s,P s->P (bg k s))->P s->P (MkS.qq f bg s ls).1
 | .nil,_,_,_,_,h=>h
 | .text t r,bg,s,ls,hb,h=>qi.go r bg _ ls hb (I.one _ _ h)
 | .hash r,bg,s,ls,hb,h=>qi.go r bg _ ls hb (I.put _ _ _ _ _ h)
 | .put n _ r,bg,s,ls,hb,h=>qi.go r bg _ ls hb (I.one _ _ h)
 | .num n _ r,bg,s,ls,hb,h=>qi.go r bg _ ls hb (I.one _ _ h)
 | .br n _ f o _ bs r,bg,s,ls,hb,h=>by
  rw[MkS.qq];split
  .exact qi.go r bg _ ls hb (MkS.fM P _ (fun s i h=>I.u7 _ _ _ h) _ _ (qi.go bs _ _ _ (fun k x hx=>I.u7 _ _ _ hx) (I.put _ _ _ _ _ (I.j7 bs _ _ (I.const _ _ h)))))
  .exact qi.go r bg _ ls hb (I.put _ _ _ _ _ (MkS.fM P _ (fun s i h=>I.u7 _ _ _ h) _ _ (qi.go bs _ _ _ (fun k x hx=>I.plu n o bs s k hx) (I.put _ _ _ _ _ (I.qD bs _ _ (I.put _ _ _ _ _ (I.const _ _ h)))))))
 | .uz k _ m r,bg,s,ls,hb,h=>qi.go r bg _ _ hb (I.put _ _ _ _ _ (qi.go m _ _ _ (fun _ _ h=>h) (hb k s h)))
theorem qi.all(f:Fo)(h:P MkS.start):P (MkS.all f):=I.put _ _ _ _ _ (I.go f _ _ _ (fun _ _ h=>h) h)
end
theorem pC:qi fun s=>∀ x∈s.code,x.pos<=s.pos:=by
 refine⟨fun s op v k tg h x hx=>?_,fun s t h=>?_,fun s i j h x hx=>?_⟩
 .simp only[MkS.put,List.mem_append,List.mem_singleton] at hx |-
  rcases hx with hx|rfl
  .have:=h x hx;omega
  .show s.pos<=_;omega
 .obtain⟨-,z2,z3⟩:=vY s t;rw[z2,z3];exact h
 .simp only[MkS.u7] at hx |-
  obtain⟨n,hn,e⟩:=List.mem_iff_getElem.1 hx;have h1:(s.code.modify i fun x=>{ x with tg:=x.tg.set j s.pos })[n]? = some x:=by rw[List.getElem?_eq_getElem hn,e]
  rw[List.getElem?_modify] at h1
  cases hc:s.code[n]? with
  | none=>rw[hc] at h1;cases h1
  | some y =>
   rw[hc] at h1;have:=h y (List.mem_of_getElem? hc);simp at h1;subst h1;split<;>exact this
structure jX(q:Nat)(s:MkS)(vC vI:Value)(rs:List (Value×Value))(mb:Nat)(w:World):Prop where
 q0:w.cell? ⟨q,0,none⟩=some vC
 q1:w.cell? ⟨q,1,none⟩=some vI
 q2:w.cell? ⟨q,2,none⟩=some (.map (some mb))
 cC:w.ownsRow 0 9 1 vC s.cs.length (s.cs.map xg)
 cI:w.ownsRow 0 128 5 vI s.code.length (bu s.code rs)
 rows:GG w s.code rs
 mp:ZU w mb s.code.length (dF s.code s.code.length)
def zmf(s:MkS)(w:World)(e:Ending)(w':World):Prop:=∃ q vC vI rs mb,e = .returned (.pointer (some ⟨q,0,none⟩))/\jX q s vC vI rs mb w'/\w.heap.size<=q/\Below w.heap.size w w'
theorem aw(w:World):∃ W,W=((w.alloc (.cells #[.slice none 0 0,.slice none 0 0,.map none] 126)).alloc (.map #[] 0)).alloc (.cells #[.pointer (some ⟨w.heap.size,0,none⟩),.int .i64 0,.map (some (w.heap.size+1))] 187) /\
  ux (w.heap.size+2) ⟨w.heap.size,w.heap.size,w.heap.size+1,.slice none 0 0,.slice none 0 0,[]⟩ MkS.start W/\Fr xI xI w W:=by
 obtain⟨A,hA⟩:=xX (w.alloc (.cells #[.slice none 0 0,.slice none 0 0,.map none] 126));have sA:A.heap.size=w.heap.size+1:=by rw[<-hA];simp
 have cA:=fun j=>xu w #[.slice none 0 0,.slice none 0 0,.map none] 126 (0,0) j
 have zA:∀ j,A.frozen? ⟨w.heap.size,j,none⟩=false:=by intro j;rw[<-hA];simp
 have tA:Vc A w.heap.size=some 126:=by rw[<-hA];exact Um _ _ _
 have fA:Fr xI xI w A:=by rw[<-hA];exact(Fr.refl _ _).alloc _
 rw[hA] at cA |-
 clear hA;obtain⟨B,hB⟩:=xX (A.alloc (.map #[] 0));have sB:B.heap.size=w.heap.size+2:=by rw[<-hB];simp[sA]
 have mB:=j5.made 3 A;have fB:Fr xI xI A B:=by rw[<-hB];exact(Fr.refl _ _).alloc _
 rw[hB,sA] at mB;rw[hB];clear hB;obtain⟨C,hC⟩:=xX (B.alloc (.cells #[.pointer (some ⟨w.heap.size,0,none⟩),.int .i64 0,.map (some (w.heap.size+1))] 187));have cC:=fun j=>xu B #[.pointer (some ⟨w.heap.size,0,none⟩),.int .i64 0,.map (some (w.heap.size+1))] 187 (0,0) j
 have zC:∀ j,C.frozen? ⟨w.heap.size+2,j,none⟩=false:=by intro j;rw[<-hC,<-sB];simp
 have tC:Vc C (w.heap.size+2)=some 187:=by rw[<-hC,<-sB];exact Um _ _ _
 have fC:Fr xI xI B C:=by rw[<-hC];exact(Fr.refl _ _).alloc _
 rw[hC,sB] at cC;rw[hC];clear hC;have f:=fB.trans fC;have e0:kV []=fun _=>none:=by funext x;simp[kV]
 refine⟨C,rfl,⟨cC 0,cC 1,cC 2,f.cell (cA 0) id,f.cell (cA 1) id,f.cell (cA 2) id,zC,fun j=>(f.frozen (show w.heap.size<_ by omega) id).trans (zA j),tC,(uO (f.keep w.heap.size (by omega) id)).trans tA,?_,zx _ _ _ _,zx _ _ _ _,⟨rfl,fun n i r h=>by simp[MkS.start] at h,fun n m r r' h=>by simp at h⟩,?_⟩,fA.trans f⟩
 .show j5 _ _ _ 0 (kV []);rw[e0];exact mB.fr fC id
 .rintro k (rfl|rfl|rfl|hk|hk|⟨r,hr,-⟩)
  .show w.heap.size<=w.heap.size+2;omega
  .exact zy _
  .show w.heap.size<=w.heap.size+1;omega
  .cases hk
  .cases hk
  .cases hr
theorem cy{lo hi:Nat}(f:Fo)(w:World)(a:Option Addr)(c:Nat)(vs:List Value)(hr:U6 lo hi w a vs)(XQ:xZ lo hi w vs f)(Z2:hi<=w.heap.size)(hm:f.vD=true)(hw:f.wf 2000000=true)(hc:f.UW)(hl:f.len<=2000000)(hs:f.cw<=890000)
  (hF:gy w) (hN:uS w):Calls Tryz.prog 51 #[.slice a f.len c] w (zmf (MkS.all f) w):=by
 have GM:=@run_makeMap Tryz.prog;obtain⟨W,hW,vM,GD⟩:=aw w;have g1:=z8 w _ (hF 0 (by omega));have g2:=z8 w _ (hN 0 (by omega));have Uu:YS lo hi w w.heap.size W:=⟨⟨Nat.le_trans Z2 GD.size,fun k h1 h2=>GD.keep k (by omega) id⟩,Z2,hF.fr GD (fun _ q=>q.elim) g1,fun j hj=>GD.cell (hN j hj) id,g1,g2⟩;have Sp:=z7 (pB f _ _ MkS.start W a c vs vM Uu hr XQ hm hw hc hl (by show 0+_<=_;omega));have GO:=z7 Uu;have jD:=z7 vM;have Ud:=z7 GD;clear hr XQ hm hw hc hl hF hN Uu vM GD;go_enter Tryz.func51,Tryz.ntmps51;go_wp2_with fail;rw[<-hW];obtain⟨P,hP⟩:=xX (w.heap.size+2);rw[show w.heap.size+1+1=P from hP];rw[hP] at Sp jD;clear hP;refine Sp.out.mono ?_;rintro e w1 ⟨rfl,L1,Vl,⟨UP,XF⟩,ug⟩;dsimp only at UP XF;obtain⟨s1,uH⟩:=xX (MkS.dm f MkS.start);have Qv:=(Np f MkS.start).2;rw[uH] at Vl Qv;have Qw:s1.sz<=890000:=by have:MkS.start.sz=0:=rfl;omega
 unfold MkS.sz at Qw;have Ch:YS lo hi w L1.B w1:=by rw[XF];exact GO.out.fr ug jD.out.lo
 have dM:(uJ ⟨0,s1.pos,0,[],[]⟩).length=1:=by simp[uJ,fZ,jZ]
 have KE:=z7 (bq P L1 s1 0 0 [] [] (.slice none 0 0) (.slice none 0 0) w1 Vl (qj.nil _) (qj.nil _) (fun g hg=>by cases hg) (fun g hg=>by cases hg) (fun g hg=>by cases hg) (fun g hg=>by rcases hg with hg|hg<;>cases hg)
  ⟨(by decide:0<12),by simp,by simp,by simp,by simp,rfl⟩ Ch.fo Ch.g1 (by omega) (by omega) (by rw[dM];omega))
 have qQ:s1.put 0 0 [] []=MkS.all f:=by unfold MkS.all;rw[uH]
 rw[qQ] at KE;have zu2:=z7 (pC.all f (fun x hx=>by cases hx));have hza:(MkS.all f).code.length<=900000/\(MkS.all f).pos<=900000:=by
  rw[<-qQ];have:=gu s1 0 0 [] [];rw[dM] at this;unfold MkS.sz at this;omega
 have Ve:=z7 ug;clear hW Vl ug Sp uH Qv Ch qQ;go_wp2_with fail;refine KE.out.mono ?_;rintro e w2 ⟨b9,c9,rfl,-,-,-,L2,jA,⟨kh,Kw⟩,vU,-,-⟩;have p0:=jA.p0;have Nr:=z7 (Tv _ L2 (MkS.all f) w2 jA (by omega) (fun x hx=>by have:=zu2.out x hx;omega));have YH:=z7 jA;have fL:=z7 vU;have HNP:=z7 (show L2.q=w.heap.size from kh.trans UP);clear jA vU KE UP kh XF Kw;go_wp2_with fail;refine Nr.out.mono ?_;rintro e w3 ⟨rfl,mb,Hk,q0,q1,q2,hmi,gQ⟩;have nq:∀ g,L2.has P g->Vc w2 g≠some 126->g≠L2.q:=by rintro g - hg rfl;exact hg YH.out.tq
 have hcC:=gQ.own YH.out.cC (fun g hg=>(YH.out.nC hg).2.1);have hcI:=gQ.own YH.out.cI (fun g hg=>(YH.out.nI hg).2.1);have KB:=YH.out.rows.fr gQ (by rintro g rfl;rw[YH.out.tq];simp);have p03:=gQ.cell p0 YH.out.nP.1;have hqq:L2.q=w.heap.size:=HNP.out;have F8:Below w.heap.size w w3:=by
  have f12:Fr (fun g=>w.heap.size<=g) (fun g=>w.heap.size<=g) W w2:=((Ve.out.wide (G:=fun g=>w.heap.size<=g) (fun g hg=>jD.out.lo g hg)).trans (fL.out.wide (G:=fun g=>w.heap.size<=g) (fun g hg=>by
   rcases hg with hg|hg|hg
   .have h1:=Ve.out.fp g hg;rcases h1 with h1|h1
    .exact jD.out.lo g h1
    .have:=Ud.out.size;omega
   .cases hg
   .cases hg)))
  have f13:=f12.trans (gQ.wide (G:=fun g=>w.heap.size<=g) (by rintro g rfl;show w.heap.size<=L2.q;omega));have:=((Ud.out.wide (G:=fun g=>w.heap.size<=g) (fun _ q=>q.elim)).trans f13);exact this.low (fun k hk=>hk) (zy _)
 have HPA:=z7 (show jX L2.q (MkS.all f) L2.vC L2.vI L2.rs mb w3 from⟨q0,q1,q2,hcC,hcI,KB,hmi⟩);have Oj:=z7 F8;clear hcC hcI KB F8 hmi q0 q1 q2 gQ Nr nq hqq p0;go_wp2;go_ret;exact⟨_,_,_,_,mb,rfl,HPA.out,by rw[HNP.out];exact zy _,Oj.out⟩
end Go.Proofs.YthpldolmpinnhaaGreatDoor
