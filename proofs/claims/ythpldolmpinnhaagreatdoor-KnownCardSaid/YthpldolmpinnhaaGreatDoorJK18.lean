import Derived.Test.YthpldolmpinnhaaGreatDoorJK17
set_option maxHeartbeats 64000000
open Go.Lib renaming hid→z7
open Go.World renaming block_lt_of_cell?→z8,ownsRow_nil→zx
open Nat renaming le_refl→zy
namespace Go.Proofs.YthpldolmpinnhaaGreatDoor
open Go Go.RowKit
set_option maxRecDepth 10000
theorem MkS.fu{α:Type}(P:MkS->Prop)(g:MkS->α->MkS)(hg:∀ s a,P s->P (g s a)):∀ (l:List α) (s:MkS),P s->P (l.foldl g s)
 | [],_,h=>h
 | a::l,s,h=>MkS.fu P g hg l _ (hg s a h)
structure qA(P:MkS->Prop):Prop where
 put:∀ s op v k tg,P s->P (s.put op v k tg)
 const:∀ s t,P s->P (s.const t)
 u7:∀ s i j,P s->P (s.u7 i j)
section
variable {P:MkS->Prop} (I:qA P)
include I
theorem qA.one{s:MkS}(op:Nat)(t:Wd)(h:P s):P (s.one op t):=I.put _ _ _ _ _ (I.const _ _ h)
theorem qA.kS:∀ (f:Fo) (s:MkS) (acc:List Nat),P s->P (MkS.kS f s acc).1
 | .ug k _ _ r,s,acc,h=>by
  rw[MkS.kS];split
  ·exact qA.kS r s acc h
  ·exact qA.kS r _ _ (I.const _ _ h)
 | .nil,_,_,h=>h
 | .text _ _,_,_,h=>h
 | .hash _,_,_,h=>h
 | .put _ _ _,_,_,h=>h
 | .num _ _ _,_,_,h=>h
 | .br _ _ _ _ _ _ _,_,_,h=>h
theorem qA.qJ:∀ (f:Fo) (s:MkS) (acc:List (Wd×Nat)),P s->P (MkS.qJ f s acc).1
 | .ug k _ _ r,s,acc,h=>by
  rw[MkS.qJ];split
  ·exact qA.qJ r _ _ (I.put _ _ _ _ _ h)
  ·exact qA.qJ r s acc h
 | .nil,_,_,h=>h
 | .text _ _,_,_,h=>h
 | .hash _,_,_,h=>h
 | .put _ _ _,_,_,h=>h
 | .num _ _ _,_,_,h=>h
 | .br _ _ _ _ _ _ _,_,_,h=>h
theorem qA.plu{s:MkS}(n o:Wd)(bs:Fo)(s0:MkS)(k:Wd)(h:P s):P (MkS.jY n o bs s0 k s):=by
 unfold MkS.jY;split
 ·exact I.u7 _ _ _ h
 ·exact MkS.fu P _ (fun s c h=>by split;exact I.u7 _ _ _ h;exact h) _ _ h
theorem qA.go:∀ (f:Fo) (bg:Wd->MkS->MkS) (s:MkS) (ls:List Nat),(∀ k s,P s->P (bg k s))->P s->P (MkS.qv f bg s ls).1
 | .nil,_,_,_,_,h=>h
 | .text t r,bg,s,ls,hb,h=>qA.go r bg _ ls hb (I.one _ _ h)
 | .hash r,bg,s,ls,hb,h=>qA.go r bg _ ls hb (I.put _ _ _ _ _ h)
 | .put n _ r,bg,s,ls,hb,h=>qA.go r bg _ ls hb (I.one _ _ h)
 | .num n _ r,bg,s,ls,hb,h=>qA.go r bg _ ls hb (I.one _ _ h)
 | .br n _ f o _ bs r,bg,s,ls,hb,h=>by
  rw[MkS.qv];split
  ·exact qA.go r bg _ ls hb (MkS.fu P _ (fun s i h=>I.u7 _ _ _ h) _ _ (qA.go bs _ _ _ (fun k x hx=>I.u7 _ _ _ hx) (I.put _ _ _ _ _ (I.kS bs _ _ (I.const _ _ h)))))
  ·exact qA.go r bg _ ls hb (I.put _ _ _ _ _ (MkS.fu P _ (fun s i h=>I.u7 _ _ _ h) _ _ (qA.go bs _ _ _ (fun k x hx=>I.plu n o bs s k hx) (I.put _ _ _ _ _ (I.qJ bs _ _ (I.put _ _ _ _ _ (I.const _ _ h)))))))
 | .ug k _ m r,bg,s,ls,hb,h=>qA.go r bg _ _ hb (I.put _ _ _ _ _ (qA.go m _ _ _ (fun _ _ h=>h) (hb k s h)))
theorem qA.all(f:Fo)(h:P MkS.start):P (MkS.all f):=I.put _ _ _ _ _ (I.go f _ _ _ (fun _ _ h=>h) h)
end
theorem nu:qA fun s=>∀ x∈s.code,x.pos<=s.pos:=by
 refine⟨fun s op v k tg h x hx=>?_,fun s t h=>?_,fun s i j h x hx=>?_⟩
 ·simp only[MkS.put,List.mem_append,List.mem_singleton] at hx ⊢;rcases hx with hx|rfl
  ·have:=h x hx;omega
  ·show s.pos<=_;omega
 ·obtain⟨-,z2,z3⟩:=vq s t;rw[z2,z3];exact h
 ·simp only[MkS.u7] at hx ⊢;obtain⟨n,hn,e⟩:=List.mem_iff_getElem.1 hx;have h1:(s.code.modify i fun x=>{ x with tg:=x.tg.set j s.pos })[n]? = some x:=by rw[List.getElem?_eq_getElem hn,e]
  rw[List.getElem?_modify] at h1
  cases hc:s.code[n]? with
  | none=>rw[hc] at h1;cases h1
  | some y =>
   rw[hc] at h1;have:=h y (List.mem_of_getElem? hc);simp at h1;subst h1;split<;>exact this
structure jy(q:Nat)(s:MkS)(vC vI:Value)(rs:List (Value×Value))(mb:Nat)(w:World):Prop where
 q0:w.cell? ⟨q,0,none⟩=some vC
 q1:w.cell? ⟨q,1,none⟩=some vI
 q2:w.cell? ⟨q,2,none⟩=some (.map (some mb))
 cC:w.ownsRow 0 9 1 vC s.cs.length (s.cs.map xk)
 cI:w.ownsRow 0 128 5 vI s.code.length (dH s.code rs)
 rows:JO w s.code rs
 mp:Z7 w mb s.code.length (fW s.code s.code.length)
def zcz(s:MkS)(w:World)(e:Ending)(w':World):Prop:=∃ q vC vI rs mb,e = .returned (.pointer (some ⟨q,0,none⟩))/\jy q s vC vI rs mb w'/\w.heap.size<=q/\Below w.heap.size w w'
theorem Ag(w:World):∃ W,W=((w.alloc (.cells #[.slice none 0 0,.slice none 0 0,.map none] 126)).alloc (.map #[] 0)).alloc (.cells #[.pointer (some ⟨w.heap.size,0,none⟩),.int .i64 0,.map (some (w.heap.size+1))] 187) /\
  uz (w.heap.size+2) ⟨w.heap.size,w.heap.size,w.heap.size+1,.slice none 0 0,.slice none 0 0,[]⟩ MkS.start W/\Fr xN xN w W:=by
 obtain⟨A,hA⟩:∃ A,w.alloc (.cells #[.slice none 0 0,.slice none 0 0,.map none] 126)=A:=⟨_,rfl⟩;have sA:A.heap.size=w.heap.size+1:=by rw[←hA];simp
 have cA:=fun j=>xu w #[.slice none 0 0,.slice none 0 0,.map none] 126 (0,0) j
 have zA:∀ j,A.frozen? ⟨w.heap.size,j,none⟩=false:=by intro j;rw[←hA];simp
 have tA:Vj A w.heap.size=some 126:=by rw[←hA];exact Ud _ _ _
 have fA:Fr xN xN w A:=by rw[←hA];exact(Fr.refl _ _).alloc _
 rw[hA] at cA ⊢;clear hA;obtain⟨B,hB⟩:∃ B,A.alloc (.map #[] 0)=B:=⟨_,rfl⟩;have sB:B.heap.size=w.heap.size+2:=by rw[←hB];simp[sA]
 have mB:=kP.made 3 A;have fB:Fr xN xN A B:=by rw[←hB];exact(Fr.refl _ _).alloc _
 rw[hB,sA] at mB;rw[hB];clear hB;obtain⟨C,hC⟩:∃ C,B.alloc (.cells #[.pointer (some ⟨w.heap.size,0,none⟩),.int .i64 0,.map (some (w.heap.size+1))] 187)=C:=⟨_,rfl⟩;have cC:=fun j=>xu B #[.pointer (some ⟨w.heap.size,0,none⟩),.int .i64 0,.map (some (w.heap.size+1))] 187 (0,0) j
 have zC:∀ j,C.frozen? ⟨w.heap.size+2,j,none⟩=false:=by intro j;rw[←hC,←sB];simp
 have tC:Vj C (w.heap.size+2)=some 187:=by rw[←hC,←sB];exact Ud _ _ _
 have fC:Fr xN xN B C:=by rw[←hC];exact(Fr.refl _ _).alloc _
 rw[hC,sB] at cC;rw[hC];clear hC;have f:=fB.trans fC;have e0:kg []=fun _=>none:=by funext x;simp[kg]
 refine⟨C,rfl,⟨cC 0,cC 1,cC 2,f.cell (cA 0) id,f.cell (cA 1) id,f.cell (cA 2) id,zC,fun j=>(f.frozen (show w.heap.size<_ by omega) id).trans (zA j),tC,(uE (f.keep w.heap.size (by omega) id)).trans tA,?_,zx _ _ _ _,zx _ _ _ _,⟨rfl,fun n i r h=>by simp[MkS.start] at h,fun n m r r' h=>by simp at h⟩,?_⟩,fA.trans f⟩
 ·show kP _ _ _ 0 (kg []);rw[e0];exact mB.fr fC id
 ·rintro k (rfl|rfl|rfl|hk|hk|⟨r,hr,-⟩)
  ·show w.heap.size<=w.heap.size+2;omega
  ·exact zy _
  ·show w.heap.size<=w.heap.size+1;omega
  ·cases hk
  ·cases hk
  ·cases hr
theorem Af{lo hi:Nat}(f:Fo)(w:World)(a:Option Addr)(c:Nat)(vs:List Value)(hr:VH lo hi w a vs)(Xq:xY lo hi w vs f)(Yj:hi<=w.heap.size)(hm:f.vD=true)(hw:f.wf 2000000=true)(hc:f.UN)(hl:f.len<=2000000)(hs:f.cw<=890000)
  (hF:jc w) (hN:ui w):Calls Tryz.prog 51 #[.slice a f.len c] w (zcz (MkS.all f) w):=by
 have LI:=@run_makeMap Tryz.prog;obtain⟨W,hW,vL,JR⟩:=Ag w;have g1:=z8 w _ (hF 0 (by omega));have g2:=z8 w _ (hN 0 (by omega));have VT:Yq lo hi w w.heap.size W:=⟨⟨Nat.le_trans Yj JR.size,fun k h1 h2=>JR.keep k (by omega) id⟩,Yj,hF.fr JR (fun _ q=>q.elim) g1,fun j hj=>JR.cell (hN j hj) id,g1,g2⟩;have RG:=z7 (ny f _ _ MkS.start W a c vs vL VT hr Xq hm hw hc hl (by show 0+_<=_;omega));have Jl:=z7 VT;have jF:=z7 vL;have FN:=z7 JR;clear hr Xq hm hw hc hl hF hN VT vL JR;go_enter Tryz.func51,Tryz.ntmps51;go_wp2_with fail;rw[←hW];obtain⟨P,hP⟩:∃ P,w.heap.size+2=P:=⟨_,rfl⟩;rw[show w.heap.size+1+1=P from hP];rw[hP] at RG jF;clear hP;refine RG.out.mono ?_;rintro e w1 ⟨rfl,L1,Vf,⟨QL,Yh⟩,uq⟩;dsimp only at QL Yh;obtain⟨s1,uF⟩:∃ s1,MkS.dD f MkS.start=s1:=⟨_,rfl⟩;have UL:=(ML f MkS.start).2;rw[uF] at Vf UL;have QQ:s1.sz<=890000:=by have:MkS.start.sz=0:=rfl;omega
 unfold MkS.sz at QQ;have Cx:Yq lo hi w L1.B w1:=by rw[Yh];exact Jl.out.fr uq jF.out.lo
 have du:(uU ⟨0,s1.pos,0,[],[]⟩).length=1:=by simp[uU,gR,j8]
 have Qn:=z7 (dL P L1 s1 0 0 [] [] (.slice none 0 0) (.slice none 0 0) w1 Vf (qq.nil _) (qq.nil _) (fun g hg=>by cases hg) (fun g hg=>by cases hg) (fun g hg=>by cases hg) (fun g hg=>by rcases hg with hg|hg<;>cases hg)
  ⟨(by decide:0<12),by simp,by simp,by simp,by simp,rfl⟩ Cx.fo Cx.g1 (by omega) (by omega) (by rw[du];omega))
 have qC:s1.put 0 0 [] []=MkS.all f:=by unfold MkS.all;rw[uF]
 rw[qC] at Qn;have zz4:=z7 (nu.all f (fun x hx=>by cases hx));have hza:(MkS.all f).code.length<=900000/\(MkS.all f).pos<=900000:=by
  rw[←qC];have:=ji s1 0 0 [] [];rw[du] at this;unfold MkS.sz at this;omega
 have Uz:=z7 uq;clear hW Vf uq RG uF UL Cx qC;go_wp2_with fail;refine Qn.out.mono ?_;rintro e w2 ⟨b9,c9,rfl,-,-,-,L2,jC,⟨j4,Ki⟩,vG,-,-⟩;have p0:=jC.p0;have MM:=z7 (RA _ L2 (MkS.all f) w2 jC (by omega) (fun x hx=>by have:=zz4.out x hx;omega));have Y8:=z7 jC;have dY:=z7 vG;have HNP:=z7 (show L2.q=w.heap.size from j4.trans QL);clear jC vG Qn QL j4 Yh Ki;go_wp2_with fail;refine MM.out.mono ?_;rintro e w3 ⟨rfl,mb,Ef,q0,q1,q2,hmi,jw⟩;have nq:∀ g,L2.has P g->Vj w2 g≠some 126->g≠L2.q:=by rintro g - hg rfl;exact hg Y8.out.tq
 have hcC:=jw.own Y8.out.cC (fun g hg=>(Y8.out.nC hg).2.1);have hcI:=jw.own Y8.out.cI (fun g hg=>(Y8.out.nI hg).2.1);have Ql:=Y8.out.rows.fr jw (by rintro g rfl;rw[Y8.out.tq];simp);have p03:=jw.cell p0 Y8.out.nP.1;have hqq:L2.q=w.heap.size:=HNP.out;have C8:Below w.heap.size w w3:=by
  have f12:Fr (fun g=>w.heap.size<=g) (fun g=>w.heap.size<=g) W w2:=((Uz.out.wide (G:=fun g=>w.heap.size<=g) (fun g hg=>jF.out.lo g hg)).trans (dY.out.wide (G:=fun g=>w.heap.size<=g) (fun g hg=>by
   rcases hg with hg|hg|hg
   ·have h1:=Uz.out.fp g hg;rcases h1 with h1|h1
    ·exact jF.out.lo g h1
    ·have:=FN.out.size;omega
   ·cases hg
   ·cases hg)))
  have f13:=f12.trans (jw.wide (G:=fun g=>w.heap.size<=g) (by rintro g rfl;show w.heap.size<=L2.q;omega));have:=((FN.out.wide (G:=fun g=>w.heap.size<=g) (fun _ q=>q.elim)).trans f13);exact this.low (fun k hk=>hk) (zy _)
 have HPA:=z7 (show jy L2.q (MkS.all f) L2.vC L2.vI L2.rs mb w3 from⟨q0,q1,q2,hcC,hcI,Ql,hmi⟩);have Mt:=z7 C8;clear hcC hcI Ql C8 hmi q0 q1 q2 jw MM nq hqq p0;go_wp2;go_ret;exact⟨_,_,_,_,mb,rfl,HPA.out,by rw[HNP.out];exact zy _,Mt.out⟩
end Go.Proofs.YthpldolmpinnhaaGreatDoor
