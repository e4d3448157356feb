import Derived.Test.YthpldolmpinnhaaGreatDoorJF17
set_option maxHeartbeats 64000000
open Go.Lib renaming hid→z7
open Go.World renaming block_lt_of_cell?→z8,ownsRow_nil→zx
open Nat renaming le_refl→zy
namespace Go.Proofs.YthpldolmpinnhaaGreatDoor
open Go Go.RowKit
set_option maxRecDepth 10000
theorem MkS.fK{α:Type}(P:MkS->Prop)(g:MkS->α->MkS)(hg:∀ s a,P s->P (g s a)):∀ (l:List α) (s:MkS),P s->P (l.foldl g s)
 | [],_,h=>h
 | a::l,s,h=>MkS.fK P g hg l _ (hg s a h)
structure qI(P:MkS->Prop):Prop where
 put:∀ s op v k tg,P s->P (s.put op v k tg)
 const:∀ s t,P s->P (s.const t)
 u7:∀ s i j,P s->P (s.u7 i j)
section
variable {P:MkS->Prop} (I:qI P)
include I
theorem qI.one{s:MkS}(op:Nat)(t:Wd)(h:P s):P (s.one op t):=I.put _ _ _ _ _ (I.const _ _ h)
theorem qI.ki:∀ (f:Fo) (s:MkS) (acc:List Nat),P s->P (MkS.ki f s acc).1
 | .uf k _ _ r,s,acc,h=>by
  rw[MkS.ki];split
  ·exact qI.ki r s acc h
  ·exact qI.ki r _ _ (I.const _ _ h)
 | .nil,_,_,h=>h
 | .text _ _,_,_,h=>h
 | .hash _,_,_,h=>h
 | .put _ _ _,_,_,h=>h
 | .num _ _ _,_,_,h=>h
 | .br _ _ _ _ _ _ _,_,_,h=>h
theorem qI.qJ:∀ (f:Fo) (s:MkS) (acc:List (Wd×Nat)),P s->P (MkS.qJ f s acc).1
 | .uf k _ _ r,s,acc,h=>by
  rw[MkS.qJ];split
  ·exact qI.qJ r _ _ (I.put _ _ _ _ _ h)
  ·exact qI.qJ r s acc h
 | .nil,_,_,h=>h
 | .text _ _,_,_,h=>h
 | .hash _,_,_,h=>h
 | .put _ _ _,_,_,h=>h
 | .num _ _ _,_,_,h=>h
 | .br _ _ _ _ _ _ _,_,_,h=>h
theorem qI.plu{s:MkS}(n o:Wd)(bs:Fo)(s0:MkS)(k:Wd)(h:P s):P (MkS.jU n o bs s0 k s):=by
 unfold MkS.jU;split
 ·exact I.u7 _ _ _ h
 ·exact MkS.fK P _ (fun s c h=>by split;exact I.u7 _ _ _ h;exact h) _ _ h
theorem qI.go:∀ (f:Fo) (bg:Wd->MkS->MkS) (s:MkS) (ls:List Nat),(∀ k s,P s->P (bg k s))->P s->P (MkS.qx f bg s ls).1
 | .nil,_,_,_,_,h=>h
 | .text t r,bg,s,ls,hb,h=>qI.go r bg _ ls hb (I.one _ _ h)
 | .hash r,bg,s,ls,hb,h=>qI.go r bg _ ls hb (I.put _ _ _ _ _ h)
 | .put n _ r,bg,s,ls,hb,h=>qI.go r bg _ ls hb (I.one _ _ h)
 | .num n _ r,bg,s,ls,hb,h=>qI.go r bg _ ls hb (I.one _ _ h)
 | .br n _ f o _ bs r,bg,s,ls,hb,h=>by
  rw[MkS.qx];split
  ·exact qI.go r bg _ ls hb (MkS.fK P _ (fun s i h=>I.u7 _ _ _ h) _ _ (qI.go bs _ _ _ (fun k x hx=>I.u7 _ _ _ hx) (I.put _ _ _ _ _ (I.ki bs _ _ (I.const _ _ h)))))
  ·exact qI.go r bg _ ls hb (I.put _ _ _ _ _ (MkS.fK P _ (fun s i h=>I.u7 _ _ _ h) _ _ (qI.go bs _ _ _ (fun k x hx=>I.plu n o bs s k hx) (I.put _ _ _ _ _ (I.qJ bs _ _ (I.put _ _ _ _ _ (I.const _ _ h)))))))
 | .uf k _ m r,bg,s,ls,hb,h=>qI.go r bg _ _ hb (I.put _ _ _ _ _ (qI.go m _ _ _ (fun _ _ h=>h) (hb k s h)))
theorem qI.all(f:Fo)(h:P MkS.start):P (MkS.all f):=I.put _ _ _ _ _ (I.go f _ _ _ (fun _ _ h=>h) h)
end
theorem pG:qI fun s=>∀ x∈s.code,x.pos<=s.pos:=by
 refine⟨fun s op v k tg h x hx=>?_,fun s t h=>?_,fun s i j h x hx=>?_⟩
 ·simp only[MkS.put,List.mem_append,List.mem_singleton] at hx ⊢;rcases hx with hx|rfl
  ·have:=h x hx;omega
  ·show s.pos<=_;omega
 ·obtain⟨-,z2,z3⟩:=vz s t;rw[z2,z3];exact h
 ·simp only[MkS.u7] at hx ⊢;obtain⟨n,hn,e⟩:=List.mem_iff_getElem.1 hx;have h1:(s.code.modify i fun x=>{ x with tg:=x.tg.set j s.pos })[n]? = some x:=by rw[List.getElem?_eq_getElem hn,e]
  rw[List.getElem?_modify] at h1
  cases hc:s.code[n]? with
  | none=>rw[hc] at h1;cases h1
  | some y =>
   rw[hc] at h1;have:=h y (List.mem_of_getElem? hc);simp at h1;subst h1;split<;>exact this
structure qT(q:Nat)(s:MkS)(vC vI:Value)(rs:List (Value×Value))(mb:Nat)(w:World):Prop where
 q0:w.cell? ⟨q,0,none⟩=some vC
 q1:w.cell? ⟨q,1,none⟩=some vI
 q2:w.cell? ⟨q,2,none⟩=some (.map (some mb))
 cC:w.ownsRow 0 9 1 vC s.cs.length (s.cs.map xk)
 cI:w.ownsRow 0 128 5 vI s.code.length (dm s.code rs)
 rows:Gq w s.code rs
 mp:ZX w mb s.code.length (dV s.code s.code.length)
def zn0(s:MkS)(w:World)(e:Ending)(w':World):Prop:=∃ q vC vI rs mb,e = .returned (.pointer (some ⟨q,0,none⟩))/\qT q s vC vI rs mb w'/\w.heap.size<=q/\Below w.heap.size w w'
theorem aH(w:World):∃ W,W=((w.alloc (.cells #[.slice none 0 0,.slice none 0 0,.map none] 126)).alloc (.map #[] 0)).alloc (.cells #[.pointer (some ⟨w.heap.size,0,none⟩),.int .i64 0,.map (some (w.heap.size+1))] 187) /\
  uz (w.heap.size+2) ⟨w.heap.size,w.heap.size,w.heap.size+1,.slice none 0 0,.slice none 0 0,[]⟩ MkS.start W/\Fr xH xH w W:=by
 obtain⟨A,hA⟩:=xX (w.alloc (.cells #[.slice none 0 0,.slice none 0 0,.map none] 126));have sA:A.heap.size=w.heap.size+1:=by rw[←hA];simp
 have cA:=fun j=>xu w #[.slice none 0 0,.slice none 0 0,.map none] 126 (0,0) j
 have zA:∀ j,A.frozen? ⟨w.heap.size,j,none⟩=false:=by intro j;rw[←hA];simp
 have tA:Zc A w.heap.size=some 126:=by rw[←hA];exact Ua _ _ _
 have fA:Fr xH xH w A:=by rw[←hA];exact(Fr.refl _ _).alloc _
 rw[hA] at cA ⊢;clear hA;obtain⟨B,hB⟩:=xX (A.alloc (.map #[] 0));have sB:B.heap.size=w.heap.size+2:=by rw[←hB];simp[sA]
 have mB:=kW.made 3 A;have fB:Fr xH xH A B:=by rw[←hB];exact(Fr.refl _ _).alloc _
 rw[hB,sA] at mB;rw[hB];clear hB;obtain⟨C,hC⟩:=xX (B.alloc (.cells #[.pointer (some ⟨w.heap.size,0,none⟩),.int .i64 0,.map (some (w.heap.size+1))] 187));have cC:=fun j=>xu B #[.pointer (some ⟨w.heap.size,0,none⟩),.int .i64 0,.map (some (w.heap.size+1))] 187 (0,0) j
 have zC:∀ j,C.frozen? ⟨w.heap.size+2,j,none⟩=false:=by intro j;rw[←hC,←sB];simp
 have tC:Zc C (w.heap.size+2)=some 187:=by rw[←hC,←sB];exact Ua _ _ _
 have fC:Fr xH xH B C:=by rw[←hC];exact(Fr.refl _ _).alloc _
 rw[hC,sB] at cC;rw[hC];clear hC;have f:=fB.trans fC;have e0:kg []=fun _=>none:=by funext x;simp[kg]
 refine⟨C,rfl,⟨cC 0,cC 1,cC 2,f.cell (cA 0) id,f.cell (cA 1) id,f.cell (cA 2) id,zC,fun j=>(f.frozen (show w.heap.size<_ by omega) id).trans (zA j),tC,(uX (f.keep w.heap.size (by omega) id)).trans tA,?_,zx _ _ _ _,zx _ _ _ _,⟨rfl,fun n i r h=>by simp[MkS.start] at h,fun n m r r' h=>by simp at h⟩,?_⟩,fA.trans f⟩
 ·show kW _ _ _ 0 (kg []);rw[e0];exact mB.fr fC id
 ·rintro k (rfl|rfl|rfl|hk|hk|⟨r,hr,-⟩)
  ·show w.heap.size<=w.heap.size+2;omega
  ·exact zy _
  ·show w.heap.size<=w.heap.size+1;omega
  ·cases hk
  ·cases hk
  ·cases hr
theorem aI{lo hi:Nat}(f:Fo)(w:World)(a:Option Addr)(c:Nat)(vs:List Value)(hr:U5 lo hi w a vs)(XI:xY lo hi w vs f)(Zi:hi<=w.heap.size)(hm:f.vG=true)(hw:f.wf 2000000=true)(hc:f.YF)(hl:f.len<=2000000)(hs:f.cw<=890000)
  (hF:jk w) (hN:qd w):Calls Tryz.prog 51 #[.slice a f.len c] w (zn0 (MkS.all f) w):=by
 have MA:=@run_makeMap Tryz.prog;obtain⟨W,hW,vH,Xq⟩:=aH w;have g1:=z8 w _ (hF 0 (by omega));have g2:=z8 w _ (hN 0 (by omega));have Uq:YB lo hi w w.heap.size W:=⟨⟨Nat.le_trans Zi Xq.size,fun k h1 h2=>Xq.keep k (by omega) id⟩,Zi,hF.fr Xq (fun _ q=>q.elim) g1,fun j hj=>Xq.cell (hN j hj) id,g1,g2⟩;have SP:=z7 (pJ f _ _ MkS.start W a c vs vH Uq hr XI hm hw hc hl (by show 0+_<=_;omega));have GU:=z7 Uq;have jX:=z7 vH;have Vo:=z7 Xq;clear hr XI hm hw hc hl hF hN Uq vH Xq;go_enter Tryz.func51,Tryz.ntmps51;go_wp2_with fail;rw[←hW];obtain⟨P,hP⟩:=xX (w.heap.size+2);rw[show w.heap.size+1+1=P from hP];rw[hP] at SP jX;clear hP;refine SP.out.mono ?_;rintro e w1 ⟨rfl,L1,Vc,⟨K6,XX⟩,uy⟩;dsimp only at K6 XX;obtain⟨s1,uL⟩:=xX (MkS.dS f MkS.start);have Uu:=(NW f MkS.start).2;rw[uL] at Vc Uu;have Uf:s1.sz<=890000:=by have:MkS.start.sz=0:=rfl;omega
 unfold MkS.sz at Uf;have Cp:YB lo hi w L1.B w1:=by rw[XX];exact GU.out.fr uy jX.out.lo
 have dH:(uq ⟨0,s1.pos,0,[],[]⟩).length=1:=by simp[uq,gB,kG]
 have KZ:=z7 (dh P L1 s1 0 0 [] [] (.slice none 0 0) (.slice none 0 0) w1 Vc (uo.nil _) (uo.nil _) (fun g hg=>by cases hg) (fun g hg=>by cases hg) (fun g hg=>by cases hg) (fun g hg=>by rcases hg with hg|hg<;>cases hg)
  ⟨(by decide:0<12),by simp,by simp,by simp,by simp,rfl⟩ Cp.fo Cp.g1 (by omega) (by omega) (by rw[dH];omega))
 have qY:s1.put 0 0 [] []=MkS.all f:=by unfold MkS.all;rw[uL]
 rw[qY] at KZ;have zu6:=z7 (pG.all f (fun x hx=>by cases hx));have hza:(MkS.all f).code.length<=900000/\(MkS.all f).pos<=900000:=by
  rw[←qY];have:=jn s1 0 0 [] [];rw[dH] at this;unfold MkS.sz at this;omega
 have VD:=z7 uy;clear hW Vc uy SP uL Uu Cp qY;go_wp2_with fail;refine KZ.out.mono ?_;rintro e w2 ⟨b9,c9,rfl,-,-,-,L2,jI,⟨j9,JV⟩,vu,-,-⟩;have p0:=jI.p0;have NA:=z7 (St _ L2 (MkS.all f) w2 jI (by omega) (fun x hx=>by have:=zu6.out x hx;omega));have YZ:=z7 jI;have fy:=z7 vu;have HNP:=z7 (show L2.q=w.heap.size from j9.trans K6);clear jI vu KZ K6 j9 XX JV;go_wp2_with fail;refine NA.out.mono ?_;rintro e w3 ⟨rfl,mb,Hy,q0,q1,q2,hmi,jx⟩;have nq:∀ g,L2.has P g->Zc w2 g≠some 126->g≠L2.q:=by rintro g - hg rfl;exact hg YZ.out.tq
 have hcC:=jx.own YZ.out.cC (fun g hg=>(YZ.out.nC hg).2.1);have hcI:=jx.own YZ.out.cI (fun g hg=>(YZ.out.nI hg).2.1);have Kd:=YZ.out.rows.fr jx (by rintro g rfl;rw[YZ.out.tq];simp);have p03:=jx.cell p0 YZ.out.nP.1;have hqq:L2.q=w.heap.size:=HNP.out;have Ce:Below w.heap.size w w3:=by
  have f12:Fr (fun g=>w.heap.size<=g) (fun g=>w.heap.size<=g) W w2:=((VD.out.wide (G:=fun g=>w.heap.size<=g) (fun g hg=>jX.out.lo g hg)).trans (fy.out.wide (G:=fun g=>w.heap.size<=g) (fun g hg=>by
   rcases hg with hg|hg|hg
   ·have h1:=VD.out.fp g hg;rcases h1 with h1|h1
    ·exact jX.out.lo g h1
    ·have:=Vo.out.size;omega
   ·cases hg
   ·cases hg)))
  have f13:=f12.trans (jx.wide (G:=fun g=>w.heap.size<=g) (by rintro g rfl;show w.heap.size<=L2.q;omega));have:=((Vo.out.wide (G:=fun g=>w.heap.size<=g) (fun _ q=>q.elim)).trans f13);exact this.low (fun k hk=>hk) (zy _)
 have HPA:=z7 (show qT L2.q (MkS.all f) L2.vC L2.vI L2.rs mb w3 from⟨q0,q1,q2,hcC,hcI,Kd,hmi⟩);have O8:=z7 Ce;clear hcC hcI Kd Ce hmi q0 q1 q2 jx NA nq hqq p0;go_wp2;go_ret;exact⟨_,_,_,_,mb,rfl,HPA.out,by rw[HNP.out];exact zy _,O8.out⟩
end Go.Proofs.YthpldolmpinnhaaGreatDoor
