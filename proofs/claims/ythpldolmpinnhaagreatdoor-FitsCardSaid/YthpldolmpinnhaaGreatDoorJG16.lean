import Derived.Test.YthpldolmpinnhaaGreatDoorJG15
import Derived.Test.YthpldolmpinnhaaGreatDoorShelf
import Derived.Recover
import Derived.WalkSmall
import Derived.Laws.IdiomStrings
set_option maxHeartbeats 64000000
open Go.Lib renaming hid→z7,Utf8Tabs→zH
open Nat renaming le_refl→z8,zero_le→zj
open SizeOf renaming sizeOf→zy
open Go.Instr renaming typeAssert→zx
open Go.Addr renaming block→zv
open Go.World renaming frozen?_setCell→zu,block_lt_of_cell?→zZ,frozen?_of_block→zX,cell?_of_block→zD,cell?_alloc_lt→zE
open List renaming append_assoc→zk,length_nil→zg,replicate→zV,length_pos_iff→zU,eq_nil_of_length_eq_zero→zQ,getElem?_eq_getElem→zG,length_cons→zI,drop_zero→zL
open Go.RowKit.Below renaming refl→zf
open Bool renaming and_eq_true→zY
open ByteArray renaming size_extract→zJ
open Option.some renaming inj→zF
open Go.Proofs.Tryz
namespace Go.Proofs.YthpldolmpinnhaaGreatDoor
open Go Go.RowKit
set_option maxRecDepth 10000
theorem KX{w W:World}(h:zH 3 4 w)(hb:Below w.heap.size w W):zH 3 4 W:=by
 have lt:∀ (a:Addr) (v:Value),w.cell? a=some v->a.block<w.heap.size:=fun a v h=>zZ w a h
 refine⟨fun c hc=>?_,fun i hi=>⟨?_,?_⟩⟩
 .rw[hb.cell (lt _ _ (h.1 c hc))];exact h.1 c hc
 .rw[hb.cell (lt _ _ (h.2 i hi).1)];exact(h.2 i hi).1
 .rw[hb.cell (lt _ _ (h.2 i hi).2)];exact(h.2 i hi).2
theorem Cc(b:Nat)(w:World):(zx (.iface 101 (.pointer (some ⟨b,0,none⟩))) 20 101 true).run prog w = .ok (.tuple #[.pointer (some ⟨b,0,none⟩),.bool true]) w:=by rfl
theorem IN(w:World):(zx .nilIface 20 101 true).run prog w = .ok (.tuple #[.pointer none,.bool false]) w:=by rfl
theorem NA(A B:Nat)(w:World):CallsD prog 109 #[.pointer (some ⟨A,0,none⟩),.pointer (some ⟨B,0,none⟩)] .returning w fun e u' w'=>e = .returned (.tuple #[])/\u' = .returning/\w'=w:=by
 refine callsD_of_wpS func109 rfl fun c₀ cs hu=>?_
 have ha:=IN;apply wpS_seq;apply wpS_region;simp[wpOpsS,go_sem,recoverD,hu,ha,ntmps109,Exit.thenS];refine wpS_of_wp ?_;go_wp2
 cases c₀;simp_all [bodyPostS,results,results109]
theorem ZD(A B b:Nat)(u v:Value)(uf:List PanicEntry)(w:World)(hA:w.cell? ⟨A,0,none⟩=some u)(hAz:w.frozen? ⟨A,0,none⟩=false)(hB:w.cell? ⟨B,0,none⟩=some v)(hBz:w.frozen? ⟨B,0,none⟩=false)(hAB:B≠A) :
  CallsD prog 109 #[.pointer (some ⟨A,0,none⟩),.pointer (some ⟨B,0,none⟩)] (.panicking ({ v := .iface 101 (.pointer (some ⟨b,0,none⟩)),recovered:=false }::uf)) w fun e u' w' =>
   e = .returned (.tuple #[])/\u' = .panicking ({ v := .iface 101 (.pointer (some ⟨b,0,none⟩)),recovered:=true }::uf)/\w'=(w.setCell ⟨A,0,none⟩ (.slice none 0 0)).setCell ⟨B,0,none⟩ (.iface 101 (.pointer (some ⟨b,0,none⟩))):=by
 have ha:=Cc b;refine callsD_of_wpS func109 rfl fun c₀ cs hu=>?_
 apply wpS_seq;apply wpS_region;simp[wpOpsS,go_sem,recoverD,hu,ha,ntmps109,Exit.thenS];refine wpS_of_wp ?_;simp only[Array.replicate,zV,List.setIfInBounds_toArray,List.set_cons_zero,List.set_cons_succ,List.append_toArray,List.cons_append,List.nil_append,Act.put];have hB':(w.setCell ⟨A,0,none⟩ (.slice none 0 0)).cell? ⟨B,0,none⟩=some v:=by rw[xk,if_neg (fun e=>hAB (congrArg zv e).symm)];exact hB
 go_wp2;simp[bodyPostS,results,results109]
def uF(l:List UInt8):Except (Nat×Nat) Fo :=
 if 1000<l.length then .error (1,0)
 else if (uI l).2<l.length then .error (2,(uI l).1.length)
 else match YM (xm l) with | .error e => .error e | .ok x => .ok x.1
def zu1(r:Except (Nat×Nat) Fo)(w:World)(e:Ending)(w':World):Prop :=
 (match r with
  | .error (n,a)=>∃ b,e = .returned (.tuple #[.slice none 0 0,.iface 101 (.pointer (some ⟨b,0,none⟩))])/\w'.cell? ⟨b,0,none⟩=some (.int .i64 n)/\w'.cell? ⟨b,1,none⟩=some (.int .i64 a)
  | .ok f=>(∃ a c vs,e = .returned (.tuple #[.slice a f.len c,.nilIface])/\U6 w.heap.size w'.heap.size w' a vs/\xZ w.heap.size w'.heap.size w' vs f)/\f.vD=true)/\Below w.heap.size w w'
structure qw(A:Nat)(u v:Value)(w:World):Prop where
 c0:w.cell? ⟨A,0,none⟩=some u
 c1:w.cell? ⟨A+1,0,none⟩=some v
 z0:w.frozen? ⟨A,0,none⟩=false
 z1:w.frozen? ⟨A+1,0,none⟩=false
theorem qw.keep{A:Nat}{u v:Value}{w w':World}(h:qw A u v w)(hb:∀ k,k=A\/k=A+1->w'.heap[k]? = w.heap[k]?):qw A u v w' :=
 ⟨(zD (a:=⟨A,0,none⟩) (hb A (.inl rfl))).trans h.c0,(zD (a:=⟨A+1,0,none⟩) (hb _ (.inr rfl))).trans h.c1,
  (zX (a:=⟨A,0,none⟩) (hb A (.inl rfl))).trans h.z0,(zX (a:=⟨A+1,0,none⟩) (hb _ (.inr rfl))).trans h.z1⟩
theorem qw.lt{A:Nat}{u v:Value}{w:World}(h:qw A u v w):A+1<w.heap.size:=zZ w _ h.c1
theorem qw.below{A:Nat}{u v:Value}{w w':World}(h:qw A u v w)(hb:Below w.heap.size w w'):qw A u v w' :=
 h.keep fun k hk=>hb.block k (by have:=h.lt;omega)
theorem qw.but{A p:Nat}{u v:Value}{w w':World}(h:qw A u v w)(hb:xR p w w')(hp:A+1<p):qw A u v w' :=
 h.keep fun k hk=>hb.block k (by have:=h.lt;omega) (by omega)
theorem qw.Xu{A:Nat}{u v x:Value}{w:World}(h:qw A u v w):qw A x v (w.setCell ⟨A,0,none⟩ x) :=
 ⟨by rw[xk,if_pos rfl,h.c0];rfl,by rw[xk,if_neg (by simp)];exact h.c1,by rw[zu];exact h.z0,by rw[zu];exact h.z1⟩
theorem qw.Ce{A:Nat}{u v x:Value}{w:World}(h:qw A u v w):qw A u x (w.setCell ⟨A+1,0,none⟩ x) :=
 ⟨by rw[xk,if_neg (by simp)];exact h.c0,by rw[xk,if_pos rfl,h.c1];rfl,by rw[zu];exact h.z0,by rw[zu];exact h.z1⟩
theorem vG.ygu{p A:Nat}{rs:List Int}{i d:Nat}{w:World}{a:Option Addr}{n c:Nat}(h:vG p rs i d w)(hA:w.cell? ⟨A,0,none⟩=some (.slice a n c))(vy:A≠p)(u:Value):vG p rs i d (w.setCell ⟨A,0,none⟩ u):=by
 obtain⟨⟨g,cap,h0,h1,h2,h3,h4⟩,h5,h6,h7,h8,h9,du,Qn,Qp⟩:=h;have ne:∀ k:Nat,¬(⟨A,0,none⟩:Addr)=⟨p,k,none⟩:=fun k e=>vy (congrArg zv e)
 refine⟨⟨g,cap,by rw[xk,if_neg (ne 0)];exact h0,h1,h2,h3,fun j hj=>?_⟩,by rw[xk,if_neg (ne 1)];exact h5,by rw[xk,if_neg (ne 2)];exact h6,by rw[zu];exact h7,by rw[zu];exact h8,h9,du,Qn,Qp⟩;rw[xk,if_neg (fun e=>by have:=h4 j hj;rw[<-e,hA] at this;cases this)];exact h4 j hj
theorem vJ{a w:World}{B b:Nat}{x:Value}{j:Nat}(h:Below B a w)(hb:B<=b):Below B a (w.setCell ⟨b,j,none⟩ x) :=
 ⟨h.os,h.tape,h.output,Nat.le_trans h.size (by simp[World.setCell]),fun k hk=>(Below.heap_setCell _ _ _ _ (by show k≠b;omega)).trans (h.block k hk)⟩
theorem aX(l:List UInt8):∀ r∈xm l,0<=r:=by
 have key:∀ (n:Nat) (l:List UInt8),l.length<=n->∀ r∈xm l,0<=r:=by
  intro n;induction n with
  | zero =>
   intro l h r hr;have:l=[]:=zQ (by omega);subst this;rw[gq] at hr
   cases hr
  | succ n ih =>
   intro l h r hr;by_cases h0:l=[]\/xw l=0
   .rw[xm,dif_pos h0] at hr
    cases hr
   .have h1:l≠[]:=fun e=>h0 (.inl e)
    have h2:xw l≠0:=fun e=>h0 (.inr e)
    rw[dG h1 h2] at hr;rcases List.mem_cons.1 hr with q|q
    .omega
    .exact ih _ (by have:=zU.2 h1;simp;omega) r q
 exact key _ l (z8 _)
theorem VZ(l:List UInt8):(xm l).length<=l.length:=by
 have key:∀ (n:Nat) (l:List UInt8),l.length<=n->(xm l).length<=l.length:=by
  intro n;induction n with
  | zero =>
   intro l h;have:l=[]:=zQ (by omega);subst this;rw[gq];simp
  | succ n ih =>
   intro l h;by_cases h0:l=[]\/xw l=0
   .rw[xm,dif_pos h0];simp
   .have h1:l≠[]:=fun e=>h0 (.inl e)
    have h2:xw l≠0:=fun e=>h0 (.inr e)
    rw[dG h1 h2];have:=ih (l.drop (xw l)) (by have:=zU.2 h1;simp;omega);have:=zU.2 h1;simp at *;omega
 exact key _ l (z8 _)
theorem IP(w:World){A:Nat}(hA:w.heap.size=A):qw A (.slice none 0 0) .nilIface ((w.alloc (.cells #[.slice none 0 0] 107)).alloc (.cells #[.nilIface] 73)):=by
 have h1:(w.alloc (.cells #[.slice none 0 0] 107)).heap.size=A+1:=by simp[hA]
 have xB:A<(w.alloc (.cells #[.slice none 0 0] 107)).heap.size:=by omega
 refine⟨?_,?_,?_,?_⟩
 .rw[zE _ _ _ xB,<-hA];exact xu _ _ _ _ _
 .rw[<-h1];exact xu _ _ _ _ _
 .rw[zX (Below.heap_alloc _ _ _ xB)];subst hA;simp
 .rw[<-h1];simp
theorem SR(s:ByteArray)(w:World)(hs:s.size<=9223372036854775807)(hT:zH 3 4 w)(hN:uS w) :
  Calls prog 78 #[.string s] w (zu1 (uF s.data.toList) w):=by
 have Nv:∀ (fn:Fn) (first cap:Array Value) (w:World),(Instr.makeFunc fn first cap).run prog w = .ok (.func fn first cap) w:=fun _ _ _ _=>rfl
 have HT:=z7 hT;have HNA:=z7 hN;obtain⟨A,hA⟩:=xX w.heap.size;have HA:=z7 hA;clear hT hN;by_cases wY:1000<s.size
 .have h1:decide ((1000:Int)<(s.size:Int))=true:=by simp;omega
  have h2:decide (1000<s.size)=true:=by simp;omega
  have HR:=z7 (show uF s.data.toList = .error (1,0) by unfold uF;rw[xc,if_pos wY]);clear wY;go_enter_defers func78,ntmps78
  go_wp2;obtain⟨W,hW⟩:=xX (((w.alloc (.cells #[.slice none 0 0] 107)).alloc (.cells #[.nilIface] 73)).alloc (.cells #[.int .i64 1,.int .i64 0] 105));rw[hW];have Y7:qw A (.slice none 0 0) .nilIface W:=by
   rw[<-hW];exact(IP w hA).below ((zf _ _).alloc (z8 _) _)
  have jB:Below A w W:=by
   rw[<-hW,<-hA];exact((((zf _ _).alloc (z8 _) _).alloc (by simp) _).alloc (by simp;omega) _)
  have hc:=fun i=>xu ((w.alloc (.cells #[.slice none 0 0] 107)).alloc (.cells #[.nilIface] 73)) #[.int .i64 1,.int .i64 0] 105 (0,0) i
  rw[hW,show((w.alloc (.cells #[.slice none 0 0] 107)).alloc (.cells #[.nilIface] 73)).heap.size=A+1+1 by simp[hA]] at hc;clear hW;obtain⟨bf,KV⟩:=xX (A+1+1);rw[KV] at hc |-
  clear KV;refine leaves_cons (f:=109) (args:=#[.pointer (some ⟨A,0,none⟩),.pointer (some ⟨A+1,0,none⟩)]) (by simp) (by simp[go_sem]) ?_;refine(ZD A (A+1) _ _ _ _ _ Y7.c0 Y7.z0 Y7.c1 Y7.z1 (by omega)).mono ?_;rintro e u' Qm ⟨rfl,rfl,rfl⟩;have vE:=(Y7.Xu (x := .slice none 0 0)).Ce (x := .iface 101 (.pointer (some ⟨bf,0,none⟩)));have Ux:=vE.c0;have SS:=vE.c1;simp[Leaves,settle,results,results78,go_sem,Ux,SS];have hF:=HR.out;rw[hF];have Mm:bf≠A:=fun e=>by have h1:=(hc 0);rw[e,Y7.c0] at h1;cases h1
  have aV:bf≠A+1:=fun e=>by have h1:=(hc 0);rw[e,Y7.c1] at h1;cases h1
  exact⟨⟨bf,rfl,by rw[xk,if_neg (fun e=>aV (congrArg zv e).symm),xk,if_neg (fun e=>Mm (congrArg zv e).symm)];exact(hc 0),by rw[xk,if_neg (fun e=>aV (congrArg zv e).symm),xk,if_neg (fun e=>Mm (congrArg zv e).symm)];exact(hc 1)⟩,by rw[HA.out];exact vJ (vJ jB (by omega)) (by omega)⟩
 .have h1:decide ((1000:Int)<(s.size:Int))=false:=by simp;omega
  have h2:decide (1000<s.size)=false:=by simp;omega
  go_enter_defers func78,ntmps78
  have Y7:=IP w hA;have Na:Below A w ((w.alloc (.cells #[.slice none 0 0] 107)).alloc (.cells #[.nilIface] 73)):=by
   rw[<-hA];exact((zf _ _).alloc (z8 _) _).alloc (by simp) _
  have zif:((w.alloc (.cells #[.slice none 0 0] 107)).alloc (.cells #[.nilIface] 73)).heap.size=A+1+1:=by simp[hA]
  obtain⟨W0,Jf⟩:=xX ((w.alloc (.cells #[.slice none 0 0] 107)).alloc (.cells #[.nilIface] 73));rw[Jf] at Y7 Na zif;have aU:=z7 Jf;clear Jf;obtain⟨I,hI⟩:=xX (A+1+1);have HI:=z7 hI;have xu7:s.size<=1000:=by omega
  go_wp2_with fail;clear hI;go_loopw [] (fun wr=>∃ k pre,k<=s.size/\wr.heap[I]? = some (.stringIter s k)/\Below A w wr/\qw A (.slice none 0 0) .nilIface wr/\uI s.data.toList=(pre++(uI (s.data.toList.drop k)).1,k+(uI (s.data.toList.drop k)).2)) (fun wr=>s.size - wr.iterPos I)
  case atStart =>
   rw[aU.out];refine⟨0,[],zj _,?_,Na.alloc (by omega) _,Y7.below ((zf _ _).alloc (z8 _) _),by simp⟩;rw[<-HI.out,<-zif];exact World.iter_heap W0 s 0
  case round =>
   obtain⟨k,pre,hk,hit,qB,vE,oT⟩:=hrel;have HP:=z7 oT;have SW:=z7 vE;have HB:=z7 qB;have HIT:=z7 hit;have xu8:I<wr.heap.size:=(Array.getElem?_eq_some_iff.1 hit).1;have hAI:A+1<I:=by have:=HI.out;omega
   by_cases xB:k<s.size
   .have hn:=Lib.run_next_any_at (P:=prog) wr I s k 0 hit xB;have hd:=NS s k xB;have kZ:Gt (s.data.toList.drop k):=by
     cases hl:s.data.toList.drop k with
     | nil=>have:=congrArg List.length hl;simp at this;omega
     | cons a r=>exact Gy a r
    have HOK:=z7 kZ;have SA:=Lib.iterAt_heap wr I s k (k+(ZX (s.data.toList.drop k)).2) hit;have ZW:=Lib.below_iterAt qB (k:=I) (by omega) s (k+(ZX (s.data.toList.drop k)).2);have ZB:=vE.keep (w':=wr.iterAt I s (k+(ZX (s.data.toList.drop k)).2)) (fun j hj=>Lib.iterAt_other _ _ _ _ _ (by omega));obtain⟨pt,Uv⟩:=xX (ZX (s.data.toList.drop k));obtain⟨r,z⟩:=pt;rw[hd,Uv] at hn;rw[Uv] at SA ZW ZB;dsimp only at hn SA ZW ZB;obtain⟨W1,XY⟩:=xX (wr.iterAt I s (k+z));rw[XY] at hn SA ZW ZB;have xu9:W1.heap.size=wr.heap.size:=by rw[<-XY];exact Lib.iterAt_size _ _ _ _
    have BB:=z7 Uv;have AV:=z7 (Tryz.utf8_DecodeRuneInString (s.extract k s.size) W1 (KX HT.out (by rw[HA.out];exact ZW)));have hde:Lib.decodeGo (s.extract k s.size)=(r,z):=by
     unfold Lib.decodeGo;rw[if_neg (by rw[zJ];omega),IM s k xB,Uv]
    rw[hde] at AV;have k1:(k:Int)<=(s.size:Int):=by omega
    have k2:decide ((k:Int)<0)=false:=by simp
    clear hd kZ qB vE oT Uv XY hde hit;rcases HOK.out with⟨h0,IW⟩|⟨h0,gx,di⟩
    .rw[BB.out] at IW;obtain⟨rfl,rfl⟩:r=65533/\z=1:=by cases IW;exact⟨rfl,rfl⟩
     have jk:=Y5 h0;have VY:(uI s.data.toList).2=k:=by rw[HP.out,jk];rfl
     have HCT:=z7 (IL s k VY);have HR:=z7 (show uF s.data.toList = .error (2,(uI s.data.toList).1.length) by
      unfold uF;rw[if_neg (by rw[xc];omega),if_pos (by rw[xc,VY];exact xB)])
     have Ij:=z7 (fun W=>Tryz.utf8_RuneCountInString (s.extract 0 k) W (by rw[zJ];omega));rw[HCT.out] at Ij;obtain⟨cnt,ZV⟩:=xX ((uI s.data.toList).1.length);rw[ZV] at HR Ij;clear IW jk VY ZV h0 HCT;go_wp2_with fail;refine AV.out.mono ?_;rintro e W2 ⟨rfl,xJ⟩;have Xk:=ZW.trans (xJ.mono (by omega));have Rz:=ZB.below xJ;clear AV;go_wp2_with fail;refine(Ij.out W2).mono ?_;rintro e W3 ⟨rfl,pos,rfl⟩;have BC:=Rz.below ((zf W2.heap.size W2).alloc (z8 _) (.stringIter (s.extract 0 k) pos));have XC:Below A w (W2.iter (s.extract 0 k) pos):=Xk.alloc (by have:=xJ.size;omega) _;obtain⟨W3,kg⟩:=xX (W2.iter (s.extract 0 k) pos);rw[kg];have Kb:qw A (.slice none 0 0) .nilIface W3:=by rw[<-kg];exact BC
     rw[kg] at XC;clear kg BC Xk Rz ZW ZB SA hn Ij;go_wp2;have Ry:=Kb.below ((zf W3.heap.size W3).alloc (z8 _) (.cells #[.int .i64 2,.int .i64 cnt] 105));have oW:=Kb.lt;have Uw:Below A w (W3.alloc (.cells #[.int .i64 2,.int .i64 cnt] 105)):=XC.alloc (by omega) _;have hc:=fun i=>xu W3 #[.int .i64 2,.int .i64 cnt] 105 (0,0) i
     obtain⟨W4,DH⟩:=xX (W3.alloc (.cells #[.int .i64 2,.int .i64 cnt] 105));rw[DH] at Ry Uw hc |-
     clear DH;obtain⟨bf,KV⟩:=xX W3.heap.size;rw[KV] at hc |-
     clear KV;refine leaves_cons (f:=109) (args:=#[.pointer (some ⟨A,0,none⟩),.pointer (some ⟨A+1,0,none⟩)]) (by simp) (by simp[go_sem]) ?_;refine(ZD A (A+1) _ _ _ _ _ Ry.c0 Ry.z0 Ry.c1 Ry.z1 (by omega)).mono ?_;rintro e u' Qm ⟨rfl,rfl,rfl⟩;have vE:=(Ry.Xu (x := .slice none 0 0)).Ce (x := .iface 101 (.pointer (some ⟨bf,0,none⟩)));have Ux:=vE.c0;have SS:=vE.c1;simp[Leaves,settle,results,results78,go_sem,Ux,SS];have hF:=HR.out;rw[hF];have Mm:bf≠A:=fun e=>by have h1:=(hc 0);rw[e,Ry.c0] at h1;cases h1
     have aV:bf≠A+1:=fun e=>by have h1:=(hc 0);rw[e,Ry.c1] at h1;cases h1
     exact⟨⟨bf,rfl,by rw[xk,if_neg (fun e=>aV (congrArg zv e).symm),xk,if_neg (fun e=>Mm (congrArg zv e).symm)];exact(hc 0),by rw[xk,if_neg (fun e=>aV (congrArg zv e).symm),xk,if_neg (fun e=>Mm (congrArg zv e).symm)];exact(hc 1)⟩,by rw[HA.out];exact vJ (vJ Uw (by omega)) (by omega)⟩
    .have hz:xw (s.data.toList.drop k)=z:=by rw[h0,BB.out]
     rw[BB.out] at di;rw[hz] at gx;have hle:=(XM (s.data.toList.drop k)).1;rw[hz] at hle;simp only[List.length_drop,xc] at hle;have vy:s.data.toList.drop k≠[]:=by intro e;have:=congrArg List.length e;simp at this;omega
     have vM:=gG vy (by omega);rw[hz,List.drop_drop] at vM;have jD:=z7 (show uI s.data.toList=(pre++[(s.data.toList.drop k).take z]++(uI (s.data.toList.drop (k+z))).1,(k+z)+(uI (s.data.toList.drop (k+z))).2) by
      rw[HP.out,vM];simp[Nat.add_assoc])
     have aQ:((r:Int)==65533)=false\/(r=65533/\((z:Int)==1)=false):=by
      by_cases hr:r=65533
      .right;refine⟨hr,?_⟩;simp;intro Qv;exact di ⟨hr,by omega⟩
      .left;simp;omega
     clear di vM vy h0 hz;rcases aQ with qK|⟨rfl,jT⟩;all_goals
      go_wp2_with fail;refine AV.out.mono ?_;rintro e W2 ⟨rfl,xJ⟩;have Xk:=ZW.trans (xJ.mono (by omega));have Rz:=ZB.below xJ;have zid:W2.heap[I]? = some (.stringIter s (k+z)):=(xJ.block I (by omega)).trans SA;clear AV ZW ZB SA hn xJ;go_wp2;go_roundw
      case rel=>exact⟨k+z,_,by omega,zid,Xk,Rz,jD.out⟩
      case measure =>
       rw[iterPos_of zid,iterPos_of HIT.out];omega
   .have hn:=Lib.run_next_end_at (P:=prog) wr I s k 0 hit xB;have wV:k=s.size:=by omega
    have hz:s.data.toList.drop k=[]:=List.drop_of_length_le (by rw[xc];omega);have VY:(uI s.data.toList).2=s.size:=by rw[oT,hz,kO];exact wV
    have UT:=(gF s s.size 0 (by omega) (by omega) (by rw[zL,VY];omega)).2 #[];rw[zL] at UT;have HRT:=z7 (show uF s.data.toList=match YM (xm s.data.toList) with | .error e => .error e | .ok x => .ok x.1 by
     unfold uF;rw[if_neg (by rw[xc];omega),if_neg (by rw[xc,VY];omega)])
    obtain⟨rs,ZA⟩:=xX (xm s.data.toList);have JS:rs.length<=1000:=by have:=VZ s.data.toList;rw[xc,ZA] at this;omega
    have zu2:=z7 (show ∀ r∈rs,0<=r by rw[<-ZA];exact aX _);rw[ZA] at UT HRT;have hcv:=run_runes_of_string (P:=prog) wr 9 147 21 s underlying9 underlying147 underlying21 (by rw[UT];simp;omega);have F:∃ cp W,(convert 9 147 (.string s)).run prog wr = .ok (.slice (some ⟨wr.heap.size,0,none⟩) rs.length cp) W/\Below wr.heap.size wr W/\wr.heap.size<W.heap.size/\rs.length<=cp/\cp<=maxLen/\∀ j (h:j<rs.length),W.cell? ⟨wr.heap.size,j,none⟩=some (.int .i32 rs[j]):=by
     have e2:(Conv.runesFrom s s.size 0 #[]).size=rs.length:=by rw[UT];simp
     rw[e2] at hcv;refine⟨_,_,hcv,(zf _ _).drew.alloc (z8 _) _,by simp,grownCap_ge _ _ _ _,grownCap_le_maxLen _ _ _ _ (by unfold maxLen;omega),fun j hj=>?_⟩;rw[show wr.heap.size=wr.drew.heap.size from rfl,xu,UT,Array.getElem?_append_left (by simpa using hj)];simp[hj]
    obtain⟨cp,W,vH,jB,wQ,zib,zl0,gO⟩:=F;have HCE:=z7 gO;have ZB:=vE.below jB;have ZW:=qB.trans (jB.mono (by omega));clear hcv UT gO oT VY hz ZA wV;have zl1:=zZ w _ (HNA.out 0 (by omega));have Y8:w.heap.size<=W.heap.size:=by have:=ZW.size;omega
    have uN:Below W.heap.size W (W.alloc (.cells #[.slice (some ⟨wr.heap.size,0,none⟩) rs.length cp,.int .i64 0,.int .i64 0] 249)):=(zf _ _).alloc (z8 _) _;have jS:=fun i=>xu W #[.slice (some ⟨wr.heap.size,0,none⟩) rs.length cp,.int .i64 0,.int .i64 0] 249 (0,0) i
    have hsy:vG W.heap.size rs 0 0 (W.alloc (.cells #[.slice (some ⟨wr.heap.size,0,none⟩) rs.length cp,.int .i64 0,.int .i64 0] 249)) :=
     ⟨⟨wr.heap.size,cp,jS 0,zib,zl0,wQ,fun j hj=>(zE _ _ _ wQ).trans (HCE.out j hj)⟩,jS 1,jS 2,by simp,by simp,by omega,by omega,by omega,zu2.out⟩
    have wK:=ZB.below uN;have zu3:Below A w _:=ZW.trans (uN.mono (by omega));go_wp2_with fail;obtain⟨Y,hY⟩:=xX (W.alloc (.cells #[.slice (some ⟨wr.heap.size,0,none⟩) rs.length cp,.int .i64 0,.int .i64 0] 249));rw[hY] at hsy wK zu3 |-
    have hpY:W.heap.size<Y.heap.size:=by rw[<-hY];simp
    obtain⟨p,hp⟩:=xX W.heap.size;rw[hp] at hsy hpY Y8 |-
    have hAp:A+1<p:=by have:=ZB.lt;omega
    have Uu:Ju p Y:=⟨HNA.out.below (by rw[HA.out];exact zu3),by have hg:0<w.heap.size:=zl1;omega⟩;have hM:=R9 p rs 5 (z8 _) false 0 Y hsy Uu;obtain⟨rm,hrm⟩:=xX (YL rs 5 false 0);have HRM:=z7 (show uF s.data.toList=match rm.then (fun f i=>if xU rs i = -1 then (.ok (f,i):qF Fo) else .error (3,i)) with | .error e => .error e | .ok x => .ok x.1 by rw[HRT.out,<-hrm];rfl);rw[hrm] at hM;have HM:=z7 hM;clear hM hrm hY uN jS hsy ZB ZW hp vE qB zib zl0 HCE HRT hn vH hit SW HB HIT HP zl1;refine HM.out.mono ?_;rintro e X ⟨hq,hbX⟩;have XN:=wK.but hbX hAp;have zu5:Below A w X:=zu3.trans (hbX.low (by omega) (by omega))
    cases rm with
    | error en =>
     obtain⟨nO,nR⟩:=en;obtain⟨bf,rfl,f1,f2,_,_,_⟩:=hq;have oA:=z7 (show uF s.data.toList = .error (nO,nR) from HRM.out);go_wp2;refine leaves_cons (f:=109) (args:=#[.pointer (some ⟨A,0,none⟩),.pointer (some ⟨A+1,0,none⟩)]) (by simp) (by simp[go_sem]) ?_;refine(ZD A (A+1) _ _ _ _ _ XN.c0 XN.z0 XN.c1 XN.z1 (by omega)).mono ?_;rintro e u' Qm ⟨rfl,rfl,rfl⟩;have vE:=(XN.Xu (x := .slice none 0 0)).Ce (x := .iface 101 (.pointer (some ⟨bf,0,none⟩)));have Ux:=vE.c0;have SS:=vE.c1;simp[Leaves,settle,results,results78,go_sem,Ux,SS];have hF:=oA.out;rw[hF];have Mm:bf≠A:=fun e=>by have h1:=f1;rw[e,XN.c0] at h1;cases h1
     have aV:bf≠A+1:=fun e=>by have h1:=f1;rw[e,XN.c1] at h1;cases h1
     exact⟨⟨bf,rfl,by rw[xk,if_neg (fun e=>aV (congrArg zv e).symm),xk,if_neg (fun e=>Mm (congrArg zv e).symm)];exact f1,by rw[xk,if_neg (fun e=>aV (congrArg zv e).symm),xk,if_neg (fun e=>Mm (congrArg zv e).symm)];exact f2⟩,by rw[HA.out];exact vJ (vJ zu5 (by omega)) (by omega)⟩
    | ok fj =>
     obtain⟨f,j⟩:=fj;obtain⟨⟨a,c,rfl,vs,xi,ql⟩,JP,hsX⟩:=hq;have qb:=z7 xi;have Y2:=z7 ql;have Gx:=z7 (show uF s.data.toList=match (if xU rs j = -1 then (.ok (f,j):qF Fo) else .error (3,j)) with | .error e => .error e | .ok x => .ok x.1 from HRM.out);have g0:=XN.c0;have g1:=XN.z0;have X8:=z7 (hsX.ygu g0 (by omega) (.slice a f.len c));have BC:=XN.Xu (x := .slice a f.len c);have XC:Below A w (X.setCell ⟨A,0,none⟩ (.slice a f.len c)):=vJ zu5 (z8 _);have dV:xr Y.heap.size X.heap.size X (X.setCell ⟨A,0,none⟩ (.slice a f.len c)):=(xW (z8 _)).put (by omega) 0 _;obtain⟨X4,hX4⟩:=xX (X.setCell ⟨A,0,none⟩ (.slice a f.len c));rw[hX4] at X8 BC XC dV;have HX4:=z7 hX4;have hYX:=hbX.size;clear hX4 xi ql hsX XN zu5 HRM HM hbX;go_wp2_with fail;rw[HX4.out];refine(ja p rs j 0 X4 X8.out).mono ?_;rintro e X5 ⟨rfl,jW⟩;have Mc:=z7 (X8.out.below jW);have hA4:=BC.lt;have Gh:=BC.below jW;have Uw:=XC.trans (jW.mono (by omega));have Z0:=dV.below jW;by_cases he:xU rs j = -1
     .have oA:=z7 (show uF s.data.toList = .ok f by rw[Gx.out,if_pos he]);rw[he];have q0:=Gh.c0;have q1:=Gh.c1;have q2:=Gh.z0;have q3:=Gh.z1;have VC:=Gh.Xu (x := .slice a f.len c);have Gw:=VC.Ce (x := .nilIface);have SD:Below A w ((X5.setCell ⟨A,0,none⟩ (.slice a f.len c)).setCell ⟨A+1,0,none⟩ .nilIface):=vJ (vJ Uw (z8 _)) (by omega);have Gv:xr Y.heap.size X.heap.size X ((X5.setCell ⟨A,0,none⟩ (.slice a f.len c)).setCell ⟨A+1,0,none⟩ .nilIface):=(Z0.put (by omega) 0 _).put (by omega) 0 _;have q4:=VC.c1;have q5:=VC.z1;clear Gx he HX4;go_wp2;refine leaves_cons (f:=109) (args:=#[.pointer (some ⟨A,0,none⟩),.pointer (some ⟨A+1,0,none⟩)]) (by simp) (by simp[go_sem]) ?_;refine(NA A (A+1) _).mono ?_;rintro e u' Qm ⟨rfl,rfl,rfl⟩;have Ux:=Gw.c0;have SS:=Gw.c1;simp[Leaves,settle,results,results78,go_sem,Ux,SS];have hF:=oA.out;rw[hF];exact⟨⟨⟨a,c,vs,rfl,qb.out.keep Gv (by rw[HA.out];omega) Gv.1,xZ.keep Gv (by rw[HA.out];omega) Gv.1 _ _ Y2.out⟩,JP⟩,by rw[HA.out];exact SD⟩
     .have oA:=z7 (show uF s.data.toList = .error (3,j) by rw[Gx.out,if_neg he]);have he':(xU rs j==-1)=false:=by simpa using he
      have q0:=Mc.out.at_;clear Gx he HX4;go_wp2_with fail;refine(dK p 3 j X5 Mc.out.Jy).mono ?_;rintro e X6 ⟨⟨bf,rfl,f1,f2,_,_,_⟩,dL⟩;have F4:=Gh.below dL;have NU:=Uw.trans (dL.mono (by have:=Gh.lt;omega));go_wp2;refine leaves_cons (f:=109) (args:=#[.pointer (some ⟨A,0,none⟩),.pointer (some ⟨A+1,0,none⟩)]) (by simp) (by simp[go_sem]) ?_;refine(ZD A (A+1) _ _ _ _ _ F4.c0 F4.z0 F4.c1 F4.z1 (by omega)).mono ?_;rintro e u' Qm ⟨rfl,rfl,rfl⟩;have vE:=(F4.Xu (x := .slice none 0 0)).Ce (x := .iface 101 (.pointer (some ⟨bf,0,none⟩)));have Ux:=vE.c0;have SS:=vE.c1;simp[Leaves,settle,results,results78,go_sem,Ux,SS];have hF:=oA.out;rw[hF];have Mm:bf≠A:=fun e=>by have h1:=f1;rw[e,F4.c0] at h1;cases h1
      have aV:bf≠A+1:=fun e=>by have h1:=f1;rw[e,F4.c1] at h1;cases h1
      exact⟨⟨bf,rfl,by rw[xk,if_neg (fun e=>aV (congrArg zv e).symm),xk,if_neg (fun e=>Mm (congrArg zv e).symm)];exact f1,by rw[xk,if_neg (fun e=>aV (congrArg zv e).symm),xk,if_neg (fun e=>Mm (congrArg zv e).symm)];exact f2⟩,by rw[HA.out];exact vJ (vJ NU (by omega)) (by omega)⟩
inductive Out (σ:Type) where
 | go (b:Bool) (s:σ)
 | XO (c:List PanicEntry) (s:σ)
def Out.then{σ:Type}(x:Out σ)(k:σ->Out σ):Out σ:=match x with | .go true s=>k s | .go false s => .go false s | .XO c s => .XO c s
def xO{σ:Type}(F:σ->Fo->Out σ):Fo->σ->Out σ
 | .nil,s => .go true s
 | .text _ r,s=>xO F r s
 | .hash r,s=>xO F r s
 | .put n a r,s=>(F s (.put n a .nil)).then fun s=>xO F r s
 | .num n a r,s=>(F s (.num n a .nil)).then fun s=>xO F r s
 | .br n a f o c bs r,s=>(F s (.br n a f o c bs .nil)).then fun s=>(xO F bs s).then fun s=>xO F r s
 | .uz _ _ m r,s=>(xO F m s).then fun s=>xO F r s
def IA:Fo->Option (Wd×Nat)
 | .put n a _=>some (n,a)
 | .num n a _=>some (n,a)
 | .br n a _ _ _ _ _=>some (n,a)
 | _=>none
def Fo.wf(N:Nat):Fo->Bool
 | .nil=>true
 | .text _ r=>r.wf N
 | .hash r=>r.wf N
 | .put n _ r=>decide (n.length<=4000001) && r.wf N
 | .num n _ r=>decide (n.length<=4000001) && r.wf N
 | .br n _ f _ _ bs r=>decide (n.length<=4000001) && decide (f<3) && bs.uk && decide (bs.len<=N) && bs.wf N && r.wf N
 | .uz k _ m r=>decide (k.length<=4000001) && m.vD && decide (m.len<=N) && m.wf N && r.wf N
def Fo.wt:Fo->Nat
 | .br _ _ _ _ _ bs _=>2+bs.len
 | _=>1
def Fo.cnt:Fo->Nat
 | .nil=>0
 | .text _ r=>r.cnt
 | .hash r=>r.cnt
 | .put _ _ r=>1+r.cnt
 | .num _ _ r=>1+r.cnt
 | .br _ _ _ _ _ bs r=>2+bs.len+bs.cnt+r.cnt
 | .uz _ _ m r=>m.cnt+r.cnt
def Sa{σ:Type}(I:σ->Nat->World->Prop)(room:Nat)(o:Out σ)(e:Ending)(w':World):Prop :=
 match o with
 | .go b s=>e = .returned (.bool b)/\I s room w'
 | .XO c s=>e = .panicked c/\I s room w'
structure Ci{σ:Type}(lo hi:Nat)(w0:World)(v:Value)(I:σ->Nat->World->Prop)(F:σ->Fo->Out σ):Prop where
 fn:∃ k cap,v = .func (.func k) #[] cap/\(∀ args w,(callFunc k args).run prog w = .ok (.enter k args) w) /\
  ∀ s room W x u n a,I s (room+x.wt) W->xZ lo hi w0 [u] x->x.wf 2000000=true->IA x=some (n,a)->Calls prog k (#[u,.agg #[xg n,.int .i64 (a:Nat)]]++cap) W (Sa I room (F s x))
 keep:∀ s b W,I s b W->xr lo hi w0 W
 below:∀ s b W W',I s b W->Below W.heap.size W W'->I s b W'
 less:∀ s b b' W,I s b W->b'<=b->I s b' W
section
variable (b:Nat) (t:Wd) (w:World)
theorem F5:(zx (.iface 172 (.pointer (some ⟨b,0,none⟩))) 112 172 true).run prog w = .ok (.tuple #[.pointer (some ⟨b,0,none⟩),.bool true]) w:=by rfl
theorem Uq:(zx (.iface 175 (.pointer (some ⟨b,0,none⟩))) 112 175 true).run prog w = .ok (.tuple #[.pointer (some ⟨b,0,none⟩),.bool true]) w:=by rfl
theorem Qu:(zx (.iface 177 (.pointer (some ⟨b,0,none⟩))) 112 177 true).run prog w = .ok (.tuple #[.pointer (some ⟨b,0,none⟩),.bool true]) w:=by rfl
theorem Ia:(zx (.iface 262 (xg t)) 112 172 true).run prog w = .ok (.tuple #[.pointer none,.bool false]) w:=by rfl
theorem Ic:(zx (.iface 262 (xg t)) 112 175 true).run prog w = .ok (.tuple #[.pointer none,.bool false]) w:=by rfl
theorem Nc:(zx (.iface 262 (xg t)) 112 177 true).run prog w = .ok (.tuple #[.pointer none,.bool false]) w:=by rfl
theorem Ie:(zx (.iface 264 (.agg #[])) 112 172 true).run prog w = .ok (.tuple #[.pointer none,.bool false]) w:=by rfl
theorem Ii:(zx (.iface 264 (.agg #[])) 112 175 true).run prog w = .ok (.tuple #[.pointer none,.bool false]) w:=by rfl
theorem Ni:(zx (.iface 264 (.agg #[])) 112 177 true).run prog w = .ok (.tuple #[.pointer none,.bool false]) w:=by rfl
theorem F6:(zx (.iface 175 (.pointer (some ⟨b,0,none⟩))) 112 172 true).run prog w = .ok (.tuple #[.pointer none,.bool false]) w:=by rfl
theorem BE:(zx (.iface 177 (.pointer (some ⟨b,0,none⟩))) 112 172 true).run prog w = .ok (.tuple #[.pointer none,.bool false]) w:=by rfl
theorem KU:(zx (.iface 177 (.pointer (some ⟨b,0,none⟩))) 112 175 true).run prog w = .ok (.tuple #[.pointer none,.bool false]) w:=by rfl
theorem Nl:(zx (.iface 172 (.pointer (some ⟨b,0,none⟩))) 112 175 true).run prog w = .ok (.tuple #[.pointer none,.bool false]) w:=by rfl
theorem BH:(zx (.iface 172 (.pointer (some ⟨b,0,none⟩))) 112 177 true).run prog w = .ok (.tuple #[.pointer none,.bool false]) w:=by rfl
theorem Se:(zx (.iface 175 (.pointer (some ⟨b,0,none⟩))) 112 177 true).run prog w = .ok (.tuple #[.pointer none,.bool false]) w:=by rfl
end
def qv:Wd:=[111,116,104,101,114]
def KQ:List Wd:=[[122,101,114,111],[111,110,101],[116,119,111],[102,101,119],[109,97,110,121],[111,116,104,101,114]]
def Fo.keys:Fo->List Wd
 | .uz k _ _ r=>k::r.keys
 | _=>[]
namespace MkS
def j7:Fo->MkS->List Nat->MkS×List Nat
 | .uz k _ _ r,s,acc=>if k=qv then j7 r s acc else j7 r (s.const k) (acc++[s.num k])
 | _,s,acc=>(s,acc)
def place(ks:List Wd)(k:Wd):Nat:=if k=qv then (ks.filter (· ≠ qv)).length else (ks.filter (· ≠ qv)).idxOf k
def qD:Fo->MkS->List (Wd×Nat)->MkS×List (Wd×Nat)
 | .uz k _ _ r,s,acc=>if k.head? = some 61 then qD r (s.put 7 (xE k.tail) [] [0]) (acc++[(k,s.code.length)]) else qD r s acc
 | _,s,acc=>(s,acc)
def Il(ks:List Wd)(t:Nat)(key:Wd)(s:MkS):MkS :=
 (List.range 6).foldl (fun s c=>if KQ.getD c []=key\/key=qv/\KQ.getD c [] ∉ ks then s.u7 t c else s) s
def gT(n:Wd)(bs:Fo)(s:MkS):MkS×List Nat:=j7 bs (s.const n) [s.num n]
def kY(n:Wd)(bs:Fo)(s:MkS):MkS:=(gT n bs s).1.put 10 0 (gT n bs s).2 (zV (gT n bs s).2.length 0)
def kP(n o:Wd)(bs:Fo)(s:MkS):MkS×List (Wd×Nat):=qD bs ((s.const n).put 4 (xE o) [s.num n] []) []
def qM(n o:Wd)(f:Nat)(bs:Fo)(s:MkS):MkS:=(kP n o bs s).1.put (if f=2 then 9 else 8) 0 [] (zV 6 0)
def bj(n:Wd)(bs:Fo)(s:MkS)(k:Wd)(x:MkS):MkS:=x.u7 (gT n bs s).1.code.length (place bs.keys k)
def jE(n o:Wd)(bs:Fo)(s:MkS)(k:Wd)(x:MkS):MkS :=
 match (kP n o bs s).2.lookup k with
 | some i=>x.u7 i 0
 | none=>Il bs.keys (kP n o bs s).1.code.length k x
def qq:Fo->(Wd->MkS->MkS)->MkS->List Nat->MkS×List Nat
 | .nil,_,s,ls=>(s,ls)
 | .text t r,bg,s,ls=>qq r bg (s.one 1 t) ls
 | .hash r,bg,s,ls=>qq r bg (s.put 6 0 [] []) ls
 | .put n _ r,bg,s,ls=>qq r bg (s.one 2 n) ls
 | .num n _ r,bg,s,ls=>qq r bg (s.one 3 n) ls
 | .br n _ f o _ bs r,bg,s,ls =>
  if f=0 then
   let y:=qq bs (bj n bs s) (kY n bs s) []
   qq r bg (y.2.foldl (fun s i=>s.u7 i 0) y.1) ls
  else
   let y:=qq bs (jE n o bs s) (qM n o f bs s) []
   qq r bg ((y.2.foldl (fun s i=>s.u7 i 0) y.1).put 5 0 [] []) ls
 | .uz k _ m r,bg,s,ls =>
  let s1:=(qq m (fun _ s=>s) (bg k s) []).1
  qq r bg (s1.put 11 0 [] [0]) (ls++[s1.code.length])
def dm(m:Fo)(s:MkS):MkS:=(qq m (fun _ s=>s) s []).1
def start:MkS:=⟨[],[],0⟩
def all(m:Fo):MkS:=(dm m start).put 0 0 [] []
end MkS
def EqW(k:Wd):Prop:=k.tail≠[]/\k.tail.length<=9/\k.tail.all xF=true
def Fo.UW:Fo->Prop
 | .nil=>True
 | .text t r=>t.length<=5000000/\r.UW
 | .hash r=>r.UW
 | .put n _ r=>n.length<=16/\r.UW
 | .num n _ r=>n.length<=16/\r.UW
 | .br n _ f o _ bs r=>n.length<=16/\f<3/\xE o<=999999999/\bs.uk=true/\bs.keys.Nodup/\(∀ k∈bs.keys,k.length<=17/\(f≠0->k.head? = some 61->EqW k))/\bs.UW/\r.UW
 | .uz _ _ m r=>m.vD=true/\m.UW/\r.UW
def Fo.cw:Fo->Nat
 | .nil=>0
 | .text _ r=>5+r.cw
 | .hash r=>5+r.cw
 | .put _ _ r=>5+r.cw
 | .num _ _ r=>5+r.cw
 | .br _ _ _ _ _ bs r=>40+bs.cw+r.cw
 | .uz _ _ m r=>20+m.cw+r.cw
def Fo.gw:Fo->Nat
 | .uz _ _ m r=>5+m.cw+r.gw
 | _=>0
theorem Fo.YR:∀ f:Fo,f.gw+15*f.keys.length<=f.cw
 | .uz k a m r=>by have:=Fo.YR r;simp only[Fo.gw,Fo.keys,Fo.cw,zI];omega
 | .nil=>zj _
 | .text _ _=>zj _
 | .hash _=>zj _
 | .put _ _ _=>zj _
 | .num _ _ _=>zj _
 | .br _ _ _ _ _ _ _=>zj _
def MkS.le(s s':MkS):Prop:=∀ (i:Nat) (x:jG),s.code[i]? = some x->∃ y,s'.code[i]? = some y/\y.tg.length=x.tg.length
theorem MkS.le_refl(s:MkS):s.le s:=fun _ x h=>⟨x,h,rfl⟩
theorem MkS.le_trans{a b c:MkS}(h:a.le b)(k:b.le c):a.le c:=fun i x hx=>by
 obtain⟨y,h1,h2⟩:=h i x hx;obtain⟨z,h3,h4⟩:=k i y h1;exact⟨z,h3,h4.trans h2⟩
theorem MkS.Qq(s:MkS)(t:Wd):s.le (s.const t):=fun i x hx=>⟨x,by rw[(vY s t).2.1];exact hx,rfl⟩
theorem MkS.Z1(s:MkS)(op v:Nat)(k tg:List Nat):s.le (s.put op v k tg):=fun i x hx=>⟨x,by simp only[MkS.put];rw[List.getElem?_append_left (List.getElem?_eq_some_iff.1 hx).1];exact hx,rfl⟩
theorem MkS.ZC(s:MkS)(i j:Nat):s.le (s.u7 i j):=fun n x hx=>by
 simp only[MkS.u7];rw[List.getElem?_modify];by_cases h:i=n
 .exact⟨{ x with tg:=x.tg.set j s.pos },by simp[h,hx],by simp⟩
 .exact⟨x,by simp[h,hx],rfl⟩
theorem MkS.Nn(s:MkS)(op:Nat)(t:Wd):s.le (s.one op t):=MkS.le_trans (s.Qq t) (MkS.Z1 _ _ _ _ _)
theorem MkS.F7{α:Type}(g:MkS->α->MkS)(hg:∀ (s:MkS) (a:α),s.le (g s a)):∀ (l:List α) (s:MkS),s.le (l.foldl g s)
 | [],s=>s.le_refl
 | a::l,s=>MkS.le_trans (hg s a) (MkS.F7 g hg l _)
theorem MkS.Y9{α:Type}(g:MkS->α->MkS)(hg:∀ (s:MkS) (a:α),(g s a).sz=s.sz):∀ (l:List α) (s:MkS),(l.foldl g s).sz=s.sz
 | [],s=>rfl
 | a::l,s=>(MkS.Y9 g hg l _).trans (hg s a)
theorem MkS.aK(ks:List Wd)(t:Nat)(key:Wd)(s:MkS):s.le (MkS.Il ks t key s)/\(MkS.Il ks t key s).sz=s.sz:=by
 refine⟨MkS.F7 _ (fun s c=>?_) _ s,MkS.Y9 _ (fun s c=>?_) _ s⟩
 .split
  .exact s.ZC _ _
  .exact s.le_refl
 .split
  .exact gP _ _ _
  .rfl
theorem MkS.Cl(n:Wd)(bs:Fo)(s:MkS)(k:Wd)(x:MkS):x.le (MkS.bj n bs s k x)/\(MkS.bj n bs s k x).sz=x.sz:=⟨x.ZC _ _,gP _ _ _⟩
theorem MkS.Cm(n o:Wd)(bs:Fo)(s:MkS)(k:Wd)(x:MkS):x.le (MkS.jE n o bs s k x)/\(MkS.jE n o bs s k x).sz=x.sz:=by
 unfold MkS.jE;split
 .exact⟨x.ZC _ _,gP _ _ _⟩
 .exact MkS.aK _ _ _ _
theorem MkS.Qk:∀ (f:Fo) (s:MkS) (acc:List Nat),s.le (MkS.j7 f s acc).1/\(MkS.j7 f s acc).1.sz<=s.sz+f.keys.length/\(MkS.j7 f s acc).2.length<=acc.length+f.keys.length/\(MkS.j7 f s acc).1.code=s.code/\(MkS.j7 f s acc).1.pos=s.pos
 | .uz k _ _ r,s,acc=>by
  rw[MkS.j7];split
  .obtain⟨a,b,c,d⟩:=MkS.Qk r s acc;exact⟨a,by simp[Fo.keys];omega,by simp[Fo.keys];omega,d⟩
  .obtain⟨a,b,c,d,e⟩:=MkS.Qk r (s.const k) (acc++[s.num k]);obtain⟨z1,z2,z3⟩:=vY s k;exact⟨MkS.le_trans (s.Qq k) a,by simp[Fo.keys];omega,by simp[Fo.keys] at c |-;omega,d.trans z2,e.trans z3⟩
 | .nil,s,acc=>⟨s.le_refl,z8 _,z8 _,rfl,rfl⟩
 | .text _ _,s,acc=>⟨s.le_refl,z8 _,z8 _,rfl,rfl⟩
 | .hash _,s,acc=>⟨s.le_refl,z8 _,z8 _,rfl,rfl⟩
 | .put _ _ _,s,acc=>⟨s.le_refl,z8 _,z8 _,rfl,rfl⟩
 | .num _ _ _,s,acc=>⟨s.le_refl,z8 _,z8 _,rfl,rfl⟩
 | .br _ _ _ _ _ _ _,s,acc=>⟨s.le_refl,z8 _,z8 _,rfl,rfl⟩
theorem MkS.Cn:∀ (f:Fo) (s:MkS) (acc:List (Wd×Nat)),s.le (MkS.qD f s acc).1/\(MkS.qD f s acc).1.sz<=s.sz+8*f.keys.length
 | .uz k _ _ r,s,acc=>by
  rw[MkS.qD];split
  .obtain⟨a,b⟩:=MkS.Cn r (s.put 7 (xE k.tail) [] [0]) (acc++[(k,s.code.length)]);have:=gu s 7 (xE k.tail) [] [0];have hx:(uJ ⟨7,s.pos,xE k.tail,[],[0]⟩).length=7:=by simp[uJ,fZ,jZ,jb,XJ]
   exact⟨MkS.le_trans (s.Z1 _ _ _ _) a,by simp[Fo.keys];omega⟩
  .obtain⟨a,b⟩:=MkS.Cn r s acc;exact⟨a,by simp[Fo.keys];omega⟩
 | .nil,s,acc=>⟨s.le_refl,z8 _⟩
 | .text _ _,s,acc=>⟨s.le_refl,z8 _⟩
 | .hash _,s,acc=>⟨s.le_refl,z8 _⟩
 | .put _ _ _,s,acc=>⟨s.le_refl,z8 _⟩
 | .num _ _ _,s,acc=>⟨s.le_refl,z8 _⟩
 | .br _ _ _ _ _ _ _,s,acc=>⟨s.le_refl,z8 _⟩
theorem Rx:∀ (k t:List Nat),(DS k t).length=4*k.length+2
 | [],t=>by simp[DS,jb]
 | a::k,t=>by simp[DS,jb,Rx k t.tail];omega
theorem Rv(pos:Nat)(x:Nat)(k:List Nat)(t:List Nat):(uJ ⟨10,pos,0,x::k,t⟩).length=7+4*k.length:=by
 simp[uJ,fZ,jZ,jb,Rx];omega
theorem MkS.KK:∀ (f:Fo) (s:MkS) (x:Nat) (acc:List Nat),∃ y,(MkS.j7 f s (x::acc)).2=x::y
 | .uz k _ _ r,s,x,acc=>by
  rw[MkS.j7];split
  .exact MkS.KK r s x acc
  .exact MkS.KK r (s.const k) x (acc++[s.num k])
 | .nil,s,x,acc=>⟨_,rfl⟩
 | .text _ _,s,x,acc=>⟨_,rfl⟩
 | .hash _,s,x,acc=>⟨_,rfl⟩
 | .put _ _ _,s,x,acc=>⟨_,rfl⟩
 | .num _ _ _,s,x,acc=>⟨_,rfl⟩
 | .br _ _ _ _ _ _ _,s,x,acc=>⟨_,rfl⟩
theorem MkS.Co(n:Wd)(bs:Fo)(s:MkS):s.le (MkS.kY n bs s)/\(MkS.kY n bs s).sz<=s.sz+9+5*bs.keys.length:=by
 obtain⟨a,b,c,d,e⟩:=MkS.Qk bs (s.const n) [s.num n];obtain⟨y,hy⟩:=MkS.KK bs (s.const n) (s.num n) [];refine⟨MkS.le_trans (s.Qq n) (MkS.le_trans a (MkS.Z1 _ _ _ _ _)),?_⟩;unfold MkS.kY MkS.gT;rw[gu,hy,Rv];rw[hy] at c;have:=(vY s n).1;simp at c;omega
theorem MkS.Cp(n o:Wd)(f:Nat)(bs:Fo)(s:MkS):s.le (MkS.qM n o f bs s)/\(MkS.qM n o f bs s).sz<=s.sz+24+8*bs.keys.length:=by
 obtain⟨a,b⟩:=MkS.Cn bs ((s.const n).put 4 (xE o) [s.num n] []) [];refine⟨MkS.le_trans (s.Qq n) (MkS.le_trans (MkS.Z1 _ _ _ _ _) (MkS.le_trans a (MkS.Z1 _ _ _ _ _))),?_⟩;unfold MkS.qM MkS.kP;have h1:=gu (s.const n) 4 (xE o) [s.num n] [];have h2:(uJ ⟨4,(s.const n).pos,xE o,[s.num n],[]⟩).length=7:=by simp[uJ,fZ,jZ,jb,XJ]
 have h3:∀ p,(uJ ⟨if f=2 then 9 else 8,p,0,[],zV 6 0⟩).length=13:=fun p=>by split<;>simp[uJ,fZ,jZ,jb]
 rw[gu,h3];have:=(vY s n).1;omega
theorem MkS.KJ(s:MkS)(op:Nat)(t:Wd)(h:op=1\/op=2\/op=3):(s.one op t).sz<=s.sz+5:=by
 unfold MkS.one;rw[gu];have:=(vY s t).1;have hx:(uJ ⟨op,(s.const t).pos,0,[s.num t],[]⟩).length=3:=by rcases h with rfl|rfl|rfl<;>simp[uJ,fZ,jZ,jb]
 omega
theorem MkS.go_le:∀ (f:Fo) (bg:Wd->MkS->MkS) (s:MkS) (ls:List Nat),(∀ k s,s.le (bg k s)/\(bg k s).sz=s.sz)->s.le (MkS.qq f bg s ls).1/\(MkS.qq f bg s ls).1.sz+15*f.keys.length<=s.sz+f.cw
 | .nil,bg,s,ls,hb=>⟨s.le_refl,z8 _⟩
 | .text t r,bg,s,ls,hb=>by
  obtain⟨a,b⟩:=MkS.go_le r bg (s.one 1 t) ls hb;have:=s.KJ 1 t (.inl rfl);exact⟨MkS.le_trans (s.Nn _ _) a,by simp only[Fo.keys,Fo.cw,MkS.qq,zg];omega⟩
 | .hash r,bg,s,ls,hb=>by
  obtain⟨a,b⟩:=MkS.go_le r bg (s.put 6 0 [] []) ls hb;have:=gu s 6 0 [] [];have hx:(uJ ⟨6,s.pos,0,[],[]⟩).length=1:=by simp[uJ,fZ,jZ]
  exact⟨MkS.le_trans (s.Z1 _ _ _ _) a,by simp only[Fo.keys,Fo.cw,MkS.qq,zg];omega⟩
 | .put n _ r,bg,s,ls,hb=>by
  obtain⟨a,b⟩:=MkS.go_le r bg (s.one 2 n) ls hb;have:=s.KJ 2 n (.inr (.inl rfl));exact⟨MkS.le_trans (s.Nn _ _) a,by simp only[Fo.keys,Fo.cw,MkS.qq,zg];omega⟩
 | .num n _ r,bg,s,ls,hb=>by
  obtain⟨a,b⟩:=MkS.go_le r bg (s.one 3 n) ls hb;have:=s.KJ 3 n (.inr (.inr rfl));exact⟨MkS.le_trans (s.Nn _ _) a,by simp only[Fo.keys,Fo.cw,MkS.qq,zg];omega⟩
 | .br n _ f o _ bs r,bg,s,ls,hb=>by
  have A4:=fun (l:List Nat) (x:MkS)=>MkS.F7 (fun s i=>MkS.u7 s i 0) (fun s i=>s.ZC i 0) l x
  have Uk:=fun (l:List Nat) (x:MkS)=>MkS.Y9 (fun s i=>MkS.u7 s i 0) (fun s i=>gP s i 0) l x
  rw[MkS.qq];split
  .obtain⟨a,b⟩:=MkS.go_le bs (MkS.bj n bs s) (MkS.kY n bs s) [] (fun k x=>MkS.Cl n bs s k x);obtain⟨c,d⟩:=MkS.Co n bs s;obtain⟨e,g⟩:=MkS.go_le r bg ((MkS.qq bs (MkS.bj n bs s) (MkS.kY n bs s) []).2.foldl (fun s i=>MkS.u7 s i 0) (MkS.qq bs (MkS.bj n bs s) (MkS.kY n bs s) []).1) ls hb;rw[Uk] at g;exact⟨MkS.le_trans c (MkS.le_trans a (MkS.le_trans (A4 _ _) e)),by simp only[Fo.keys,Fo.cw,zg];omega⟩
  .obtain⟨a,b⟩:=MkS.go_le bs (MkS.jE n o bs s) (MkS.qM n o f bs s) [] (fun k x=>MkS.Cm n o bs s k x);obtain⟨c,d⟩:=MkS.Cp n o f bs s;obtain⟨e,g⟩:=MkS.go_le r bg (((MkS.qq bs (MkS.jE n o bs s) (MkS.qM n o f bs s) []).2.foldl (fun s i=>MkS.u7 s i 0) (MkS.qq bs (MkS.jE n o bs s) (MkS.qM n o f bs s) []).1).put 5 0 [] []) ls hb;rw[gu,Uk] at g;have hx:∀ p,(uJ ⟨5,p,0,[],[]⟩).length=1:=fun p=>by simp[uJ,fZ,jZ]
   rw[hx] at g;exact⟨MkS.le_trans c (MkS.le_trans a (MkS.le_trans (A4 _ _) (MkS.le_trans (MkS.Z1 _ _ _ _ _) e))),by simp only[Fo.keys,Fo.cw,zg];omega⟩
 | .uz k _ m r,bg,s,ls,hb=>by
  obtain⟨a,b⟩:=MkS.go_le m (fun _ s=>s) (bg k s) [] (fun _ s=>⟨s.le_refl,rfl⟩);obtain⟨c,d⟩:=MkS.go_le r bg ((MkS.qq m (fun _ s=>s) (bg k s) []).1.put 11 0 [] [0]) (ls++[(MkS.qq m (fun _ s=>s) (bg k s) []).1.code.length]) hb;rw[gu] at d;have hx:∀ p,(uJ ⟨11,p,0,[],[0]⟩).length=3:=fun p=>by simp[uJ,fZ,jZ,jb]
  rw[hx] at d;have:=(hb k s).2;exact⟨MkS.le_trans (hb k s).1 (MkS.le_trans a (MkS.le_trans (MkS.Z1 _ _ _ _ _) c)),by simp only[Fo.keys,Fo.cw,MkS.qq,zI];omega⟩
theorem Np(m:Fo)(s:MkS):s.le (MkS.dm m s)/\(MkS.dm m s).sz<=s.sz+m.cw:=by
 obtain⟨a,b⟩:=MkS.go_le m (fun _ s=>s) s [] (fun _ s=>⟨s.le_refl,rfl⟩);exact⟨a,by unfold MkS.dm;omega⟩
theorem xA{lo hi:Nat}{w0 W:World}(h:xr lo hi w0 W){b j:Nat}{v:Value}(hc:w0.cell? ⟨b,j,none⟩=some v)(h1:lo<=b)(h2:b<hi):W.cell? ⟨b,j,none⟩=some v:=(h.cell (p:=⟨b,j,none⟩) h1 h2).trans hc
def aJ{σ:Type}(lo hi:Nat)(w0:World)(v:Value)(I:σ->Nat->World->Prop)(F:σ->Fo->Out σ)(f:Fo):Prop :=
 ∀ s room W a c vs,I s (room+f.cnt) W->U6 lo hi w0 a vs->xZ lo hi w0 vs f->Calls prog 49 #[.slice a f.len c,v] W (Sa I room (xO F f s))
theorem Si{σ:Type}{lo hi:Nat}{w0:World}{v:Value}{I:σ->Nat->World->Prop}{F:σ->Fo->Out σ}(hy:Ci lo hi w0 v I F)(f:Fo)(hm:f.vD=true)(hw:f.wf 2000000=true)(hl:f.len<=2000000)
  (ih:∀ m:Fo,zy m<zy f->m.vD=true->m.wf 2000000=true->m.len<=2000000->aJ lo hi w0 v I F m):aJ lo hi w0 v I F f:=by
 intro s room W a c vs hI xi ql;obtain⟨⟨k,cap,rfl,Dc,vu⟩,Jd,F8,Ru⟩:=hy;have Vo:=z7 Ru;obtain⟨L,hL⟩:=xX f.len;rw[hL];have Dh:vs.length=L:=(xZ.count f vs ql hm).trans hL;obtain⟨R,hR⟩:=xX (xO F f s);rw[hR];have HI0:=z7 hI;have qb:=z7 xi;have Y2:=z7 ql;have HM:=z7 hm;have HW:=z7 hw;have HR:=z7 hR;have uw:=z7 vu;have XP:=z7 Jd;have ygf:=z7 F8;have om:=z7 ih;have Cr:=z7 Dh;have HL:=z7 hL;have hL2:L<=2000000:=by omega
 clear hI xi ql hm hw hR vu Jd F8 Ru ih Dh hl hL;go_enter func49,ntmps49;go_wp2_with fail;go_loopw [14] (fun iv wr=>∃ i us xs r s1,iv = .int .i64 (i:Nat)/\i<=L/\xZ lo hi w0 xs r/\r.vD=true/\r.wf 2000000=true/\us.length=i/\vs=us++xs/\i+r.len=L/\zy r<=zy f/\I s1 (room+r.cnt) wr/\xO F r s1=R) (fun iv _=>L - (intOf iv).toNat)
 case atStart=>exact⟨0,[],vs,f,s,rfl,zj _,Y2.out,HM.out,HW.out,rfl,rfl,by have:=HL.out;omega,z8 _,HI0.out,HR.out⟩
 case round =>
  obtain⟨i,us,xs,r,s1,rfl,hiL,fg,wJ,Hq,Vn,wG,kR,qc,UM,VB⟩:=hrel;have HN:=z7 fg;have KG:=z7 wJ;have Qj:=z7 Hq;have Mn:=z7 wG;have Cs:=z7 Vn;have KD:=z7 UM;have fI:=z7 VB;clear fg wJ Hq wG Vn UM VB;by_cases xB:i<L
  .obtain⟨x0,xt,Rq⟩:∃ x0 xt,xs=x0::xt:=by
    cases xs with
    | nil=>have h1:=Cr.out;rw[Mn.out] at h1;have:=Cs.out;simp at h1;omega
    | cons a b=>exact⟨a,b,rfl⟩
   subst Rq;obtain⟨g,o,rfl,Zw,je,vQ⟩:=qb.out i (by have:=Cr.out;omega);have JO:vs[i]'(by have:=Cr.out;omega)=x0:=by
    have h1:vs[i]? = some x0:=by rw[Mn.out,<-Cs.out];simp
    rw[zG (by have:=Cr.out;omega)] at h1;exact zF h1
   rw[JO] at vQ;have qK:=xA (XP.out _ _ wr KD.out) vQ Zw je;have k1:(i:Int)<(L:Int):=by omega
   have k2:decide ((i:Int)<(L:Int))=true:=by simp;omega
   have dJ:=z7 qc;clear vQ JO qc
   cases r with
   | nil =>
    have:=HN.out
    cases this
   | uz k0 a0 m0 r0=>have:=KG.out;cases this
   | text t r =>
    obtain⟨vt,he,fg⟩:=HN.out
    cases he;have e1:=Ia t;have e2:=Ic t;have e3:=Nc t;have Qh:=z7 fg;clear fg;have Qj:=z7 (show r.wf 2000000=true from Qj.out);have KG:=z7 (show r.vD=true from KG.out);have XU:=z7 (show i+(r.len+1)=L from kR);have VL:=z7 (show xO F r s1=R from fI.out);have dJ:=z7 (show zy r<=zy f by have:=dJ.out;simp at this;omega);go_wp2;go_roundw
    case rel=>exact⟨i+1,us++[(.iface 262 (xg t))],_,r,s1,by simp,by omega,Qh.out,KG.out,Qj.out,by simp[Cs.out],by rw[Mn.out,zk];rfl,by have:=XU.out;omega,by have:=dJ.out;omega,KD.out,VL.out⟩
    case measure=>simp only[intOf];omega
   | hash r =>
    obtain⟨vt,he,fg⟩:=HN.out
    cases he;have e1:=Ie;have e2:=Ii;have e3:=Ni;have Qh:=z7 fg;clear fg;have Qj:=z7 (show r.wf 2000000=true from Qj.out);have KG:=z7 (show r.vD=true from KG.out);have XU:=z7 (show i+(r.len+1)=L from kR);have VL:=z7 (show xO F r s1=R from fI.out);have dJ:=z7 (show zy r<=zy f by have:=dJ.out;simp at this;omega);go_wp2;go_roundw
    case rel=>exact⟨i+1,us++[(.iface 264 (.agg #[]))],_,r,s1,by simp,by omega,Qh.out,KG.out,Qj.out,by simp[Cs.out],by rw[Mn.out,zk];rfl,by have:=XU.out;omega,by have:=dJ.out;omega,KD.out,VL.out⟩
    case measure=>simp only[intOf];omega
   | put n a r =>
    obtain⟨vt,b0,he,xG,xJ,ff,Uj,fg⟩:=HN.out
    cases he;have Mo:=xA (XP.out _ _ wr KD.out) ff xG xJ;have AJ:=xA (XP.out _ _ wr KD.out) Uj xG xJ;have e1:=F5 b0;have Qh:=z7 fg;have ZJ:(decide (n.length<=4000001) && r.wf 2000000)=true:=Qj.out;simp only[zY,decide_eq_true_eq] at ZJ;have JT:room+(Fo.put n a r).cnt=(room+r.cnt)+(Fo.put n a .nil).wt:=by simp only[Fo.cnt,Fo.wt];omega
    have aG:=KD.out;rw[JT] at aG;have A5:=z7 (uw.out s1 (room+r.cnt) wr (.put n a .nil) (.iface 172 (.pointer (some ⟨b0,0,none⟩))) n a aG ⟨[],b0,rfl,xG,xJ,ff,Uj,rfl⟩ (by simp[Fo.wf,ZJ.1]) rfl);have Qj:=z7 ZJ.2;clear fg ZJ JT aG;have KG:=z7 (show r.vD=true from KG.out);have XU:=z7 (show i+(r.len+1)=L from kR);have dJ:=z7 (show zy r<=zy f by have:=dJ.out;simp at this;omega);obtain⟨o1,Ds⟩:=xX (F s1 (.put n a .nil));have ZF:=fI.out;rw[xO,Ds] at ZF;have Gx:=z7 ZF.symm;rw[Ds] at A5;clear Ds ZF fI ff Uj;go_wp2_with fail;refine A5.out.mono ?_;rintro e w2 hq
    cases o1 with
    | XO c s2 =>
     obtain⟨rfl,Kk⟩:=hq;have VL:=z7 (show R = .XO c s2 from Gx.out);go_wp2;refine⟨rfl,?_⟩;rw[VL.out];exact⟨rfl,Vo.out _ _ _ _ Kk (by omega)⟩
    | go b s2 =>
     obtain⟨rfl,Kk⟩:=hq;have Nr:=z7 Kk;clear Kk
     cases b with
     | false =>
      have VL:=z7 (show R = .go false s2 from Gx.out);go_wp2;go_ret;rw[VL.out];exact⟨rfl,Vo.out _ _ _ _ Nr.out (by omega)⟩
     | true =>
      have VL:=z7 (show xO F r s2=R from Gx.out.symm);go_wp2;go_roundw
      case rel=>exact⟨i+1,us++[(.iface 172 (.pointer (some ⟨b0,0,none⟩)))],_,r,s2,by simp,by omega,Qh.out,KG.out,Qj.out,by simp[Cs.out],by rw[Mn.out,zk];rfl,by have:=XU.out;omega,by have:=dJ.out;omega,Nr.out,VL.out⟩
      case measure=>simp only[intOf];omega
   | num n a r =>
    obtain⟨vt,b0,he,xG,xJ,ff,Uj,fg⟩:=HN.out
    cases he;have Mo:=xA (XP.out _ _ wr KD.out) ff xG xJ;have AJ:=xA (XP.out _ _ wr KD.out) Uj xG xJ;have e1:=F6 b0;have e2:=Uq b0;have Qh:=z7 fg;have ZJ:(decide (n.length<=4000001) && r.wf 2000000)=true:=Qj.out;simp only[zY,decide_eq_true_eq] at ZJ;have JT:room+(Fo.num n a r).cnt=(room+r.cnt)+(Fo.num n a .nil).wt:=by simp only[Fo.cnt,Fo.wt];omega
    have aG:=KD.out;rw[JT] at aG;have A5:=z7 (uw.out s1 (room+r.cnt) wr (.num n a .nil) (.iface 175 (.pointer (some ⟨b0,0,none⟩))) n a aG ⟨[],b0,rfl,xG,xJ,ff,Uj,rfl⟩ (by simp[Fo.wf,ZJ.1]) rfl);have Qj:=z7 ZJ.2;clear fg ZJ JT aG;have KG:=z7 (show r.vD=true from KG.out);have XU:=z7 (show i+(r.len+1)=L from kR);have dJ:=z7 (show zy r<=zy f by have:=dJ.out;simp at this;omega);obtain⟨o1,Ds⟩:=xX (F s1 (.num n a .nil));have ZF:=fI.out;rw[xO,Ds] at ZF;have Gx:=z7 ZF.symm;rw[Ds] at A5;clear Ds ZF fI ff Uj;go_wp2_with fail;refine A5.out.mono ?_;rintro e w2 hq
    cases o1 with
    | XO c s2 =>
     obtain⟨rfl,Kk⟩:=hq;have VL:=z7 (show R = .XO c s2 from Gx.out);go_wp2;refine⟨rfl,?_⟩;rw[VL.out];exact⟨rfl,Vo.out _ _ _ _ Kk (by omega)⟩
    | go b s2 =>
     obtain⟨rfl,Kk⟩:=hq;have Nr:=z7 Kk;clear Kk
     cases b with
     | false =>
      have VL:=z7 (show R = .go false s2 from Gx.out);go_wp2;go_ret;rw[VL.out];exact⟨rfl,Vo.out _ _ _ _ Nr.out (by omega)⟩
     | true =>
      have VL:=z7 (show xO F r s2=R from Gx.out.symm);go_wp2;go_roundw
      case rel=>exact⟨i+1,us++[(.iface 175 (.pointer (some ⟨b0,0,none⟩)))],_,r,s2,by simp,by omega,Qh.out,KG.out,Qj.out,by simp[Cs.out],by rw[Mn.out,zk];rfl,by have:=XU.out;omega,by have:=dJ.out;omega,Nr.out,VL.out⟩
      case measure=>simp only[intOf];omega
   | br n a fo of cl bs r =>
    obtain⟨vt,b0,ba,bc,ws,he,xG,xJ,ff,Uj,jT,Mp,BI,Mr,KB,UR,fg⟩:=HN.out
    cases he;have Mo:=xA (XP.out _ _ wr KD.out) ff xG xJ;have AJ:=xA (XP.out _ _ wr KD.out) Uj xG xJ;have e1:=BE b0;have e2:=KU b0;have e3:=Qu b0;have Qh:=z7 fg;have ot:=z7 UR;have Gu:=z7 KB;have ZJ:(decide (n.length<=4000001) && decide (fo<3) && bs.uk && decide (bs.len<=2000000) && bs.wf 2000000 && r.wf 2000000)=true:=Qj.out;simp only[zY,decide_eq_true_eq] at ZJ;obtain⟨⟨⟨⟨⟨oh,Jj⟩,AE⟩,Dw⟩,qB⟩,zl3⟩:=ZJ;have JT:room+(Fo.br n a fo of cl bs r).cnt=(room+r.cnt+bs.cnt)+(Fo.br n a fo of cl bs .nil).wt:=by simp only[Fo.cnt,Fo.wt];omega
    have aG:=KD.out;rw[JT] at aG;have A5:=z7 (uw.out s1 (room+r.cnt+bs.cnt) wr (.br n a fo of cl bs .nil) (.iface 177 (.pointer (some ⟨b0,0,none⟩))) n a aG ⟨[],b0,ba,bc,ws,rfl,xG,xJ,ff,Uj,jT,Mp,BI,Mr,KB,UR,rfl⟩ (by simp[Fo.wf,oh,Jj,AE,Dw,qB]) rfl);have HC4:=z7 BI;have Qj:=z7 zl3;have HBL:=z7 AE;have Im:=z7 qB;have KG:=z7 (show r.vD=true from KG.out);have XU:=z7 (show i+(r.len+1)=L from kR);have dJ:=z7 (show zy r<=zy f/\zy bs<zy f by have:=dJ.out;simp at this;omega);obtain⟨o1,Ds⟩:=xX (F s1 (.br n a fo of cl bs .nil));have ZF:=fI.out;rw[xO,Ds] at ZF;have Gx:=z7 ZF.symm;rw[Ds] at A5;clear Ds ZF fI ff Uj jT Mp BI Mr KB UR fg zl3 AE qB JT aG;go_wp2_with fail;refine A5.out.mono ?_;rintro e w2 hq
    cases o1 with
    | XO c s2 =>
     obtain⟨rfl,Kk⟩:=hq;have VL:=z7 (show R = .XO c s2 from Gx.out);go_wp2;refine⟨rfl,?_⟩;rw[VL.out];exact⟨rfl,Vo.out _ _ _ _ Kk (by omega)⟩
    | go b s2 =>
     obtain⟨rfl,Kk⟩:=hq;have Nr:=z7 Kk;clear Kk
     cases b with
     | false =>
      have VL:=z7 (show R = .go false s2 from Gx.out);go_wp2;go_ret;rw[VL.out];exact⟨rfl,Vo.out _ _ _ _ Nr.out (by omega)⟩
     | true =>
      have VL:=z7 (show(xO F bs s2).then (fun s=>xO F r s)=R from Gx.out.symm);have hh4:=xA (XP.out _ _ w2 Nr.out) HC4.out xG xJ;clear Mo AJ qK A5 Gx KD;go_wp2_with fail;go_loopw [60] (fun iv wq=>∃ i2 us2 xs2 r2 s3,iv = .int .i64 (i2:Nat)/\i2<=bs.len/\xZ lo hi w0 xs2 r2/\r2.uk=true/\r2.wf 2000000=true/\us2.length=i2*3/\ws=us2++xs2/\i2+r2.len=bs.len/\zy r2<=zy bs/\I s3 (room+r.cnt+r2.cnt) wq/\(xO F r2 s3).then (fun s=>xO F r s)=R) (fun iv _=>bs.len - (intOf iv).toNat)
      case atStart=>exact⟨0,[],ws,bs,s2,rfl,zj _,ot.out,HBL.out,Im.out,rfl,rfl,by omega,z8 _,Nr.out,VL.out⟩
      case round =>
       obtain⟨i2,us2,xs2,r2,s3,rfl,xuu,zl5,zl6,zl7,zl8,zl9,Ns,KZ,SN,Kb⟩:=hrel;have nL:=z7 zl5;have Ug:=z7 zl6;have zu6:=z7 zl7;have Io:=z7 zl9;have B0:=z7 zl8;have aF:=z7 SN;have I4:=z7 Kb;have ygb:=z7 KZ;have aD:=z7 Ns;clear zl5 zl6 zl7 zl9 zl8 SN Kb KZ;by_cases b8:i2<bs.len
       .cases r2 with
        | nil=>exfalso;simp[Fo.len] at Ns;omega
        | text t r=>have:=Ug.out;cases this
        | hash r=>have:=Ug.out;cases this
        | put n a r=>have:=Ug.out;cases this
        | num n a r=>have:=Ug.out;cases this
        | br n a fo of cl bs r=>have:=Ug.out;cases this
        | uz k0 a0 m0 r0 =>
         obtain⟨Rk,ma,mc,ms,Ct,XR,aB,Qg⟩:=nL.out;subst Ct;have Rj:ws.length=us2.length+(Rk.length+3):=by rw[Io.out];simp
         have UO:∀ j v,[xg k0,.int .i64 (a0:Nat),.slice ma m0.len mc][j]? = some v->∃ (h:i2*3+j<ws.length),ws[i2*3+j]=v:=by
          intro j v hj;have hj3:j<3:=by
           apply Classical.byContradiction;intro hc;rw[List.getElem?_eq_none (by simp;omega)] at hj
           cases hj
          refine⟨by have:=B0.out;omega,?_⟩;have h1:ws[i2*3+j]? = some v:=by
           rw[Io.out,<-B0.out,List.getElem?_append_right (by omega),Nat.add_sub_cancel_left,<-hj];match j,hj3 with
           | 0,_=>rfl
           | 1,_=>rfl
           | 2,_=>rfl
          rw[zG (by have:=B0.out;omega)] at h1;exact zF h1
         obtain⟨q0,p0⟩:=UO 0 _ rfl;obtain⟨q1,p1⟩:=UO 1 _ rfl;obtain⟨q2,p2⟩:=UO 2 _ rfl;obtain⟨g2,o2,rfl,Nt,Nh,d0⟩:=Gu.out (i2*3+0) q0;obtain⟨ow,o2',hgg,_,_,d1⟩:=Gu.out (i2*3+1) q1
         cases hgg;obtain⟨ow,o2',hgg,_,_,d2⟩:=Gu.out (i2*3+2) q2
         cases hgg;rw[p0] at d0;rw[p1] at d1;rw[p2] at d2;have c0:=xA (XP.out _ _ wr aF.out) d0 Nt Nh;have c1:=xA (XP.out _ _ wr aF.out) d1 Nt Nh;have c2:=xA (XP.out _ _ wr aF.out) d2 Nt Nh;simp only[Nat.add_zero,<-Nat.add_assoc] at c0 c1 c2;have yf1:=z7 XR;have yf2:=z7 aB;have p6:=z7 Qg;have k3:(i2:Int)<(bs.len:Int):=by omega
         have k4:decide ((i2:Int)<(bs.len:Int))=true:=by simp;omega
         clear XR aB Qg d0 d1 d2 p0 p1 p2 UO;have aC:(decide (k0.length<=4000001) && m0.vD && decide (m0.len<=2000000) && m0.wf 2000000 && r0.wf 2000000)=true:=zu6.out;simp only[zY,decide_eq_true_eq] at aC;obtain⟨⟨⟨⟨_,Vl⟩,jA⟩,Jz⟩,J0⟩:=aC;have B1:zy m0<zy f/\zy r0<=zy bs:=by have:=dJ.out;have:=ygb.out;simp at this;omega
         have HEC:=z7 (om.out m0 B1.1 Vl Jz jA s3 (room+r.cnt+r0.cnt) (wr.alloc (.cells #[xg k0,.int .i64 (a0:Nat),.slice ma m0.len mc] 183)) ma mc ms (ygf.out s3 _ wr _ (by have:=aF.out;rw[show room+r.cnt+(Fo.uz k0 a0 m0 r0).cnt=room+r.cnt+r0.cnt+m0.cnt from by simp only[Fo.cnt];omega] at this;exact this) ((zf _ _).alloc (z8 _) _)) yf1.out yf2.out);have HSS:=z7 B1.2;have p7:=z7 J0;have p8:=z7 (show r0.uk=true from Ug.out);have p9:=z7 (show i2+(r0.len+1)=bs.len from aD.out);obtain⟨oo,hoo⟩:=xX (xO F m0 s3);have Jw:=I4.out;rw[xO,hoo] at Jw;have Gx:=z7 Jw.symm;rw[hoo] at HEC;clear hoo Jw Vl jA Jz J0 B1;go_wp2_with fail;refine HEC.out.mono ?_;rintro e w3 hq
         cases oo with
         | XO c s4 =>
          obtain⟨rfl,hi4⟩:=hq;have VL:=z7 (show R = .XO c s4 from Gx.out);go_wp2;refine⟨rfl,?_⟩;rw[VL.out];exact⟨rfl,Vo.out _ _ _ _ hi4 (by omega)⟩
         | go b s4 =>
          obtain⟨rfl,hi4⟩:=hq;have zlz:=z7 hi4;clear hi4
          cases b with
          | false =>
           have VL:=z7 (show R = .go false s4 from Gx.out);go_wp2;go_ret;rw[VL.out];exact⟨rfl,Vo.out _ _ _ _ zlz.out (by omega)⟩
          | true =>
           have VL:=z7 (show(xO F r0 s4).then (fun s=>xO F r s)=R from Gx.out.symm);go_wp2;go_roundw
           case rel=>exact⟨i2+1,us2++[xg k0,.int .i64 (a0:Nat),.slice ma m0.len mc],Rk,r0,s4,by simp,by omega,p6.out,p8.out,p7.out,by have:=B0.out;simp;omega,by rw[Io.out,zk];rfl,by have:=p9.out;omega,HSS.out,zlz.out,VL.out⟩
           case measure=>simp only[intOf];omega
       .have k4:decide ((i2:Int)<(bs.len:Int))=false:=by simp;omega
        have vg:r2 = .nil:=by
         have:=Ug.out
         cases r2<;>simp[Fo.len] at Ns<;>first|rfl|omega
        have HRY:=z7 (show xO F r s3=R by rw[<-I4.out,vg];rfl);have dJ:=z7 dJ.out.1;go_wp2;go_roundw
        case rel=>exact⟨i+1,us++[(.iface 177 (.pointer (some ⟨b0,0,none⟩)))],_,r,s3,by simp,by omega,Qh.out,KG.out,Qj.out,by simp[Cs.out],by rw[Mn.out,zk];rfl,by have:=XU.out;omega,by have:=dJ.out;omega,Vo.out _ _ _ _ aF.out (by omega),HRY.out⟩
        case measure=>simp only[intOf];omega
  .have k2:decide ((i:Int)<(L:Int))=false:=by simp;omega
   have vg:r = .nil:=by
    cases r<;>simp[Fo.len] at kR<;>first|rfl|omega
   have VL:=z7 (show R = .go true s1 by rw[<-fI.out,vg];rfl);go_wp2;go_ret;rw[VL.out];exact⟨rfl,Vo.out _ _ _ _ KD.out (by omega)⟩
theorem F9{σ:Type}{lo hi:Nat}{w0:World}{v:Value}{I:σ->Nat->World->Prop}{F:σ->Fo->Out σ}(hy:Ci lo hi w0 v I F):∀ (n:Nat) (f:Fo),zy f<n->f.vD=true->f.wf 2000000=true->f.len<=2000000->aJ lo hi w0 v I F f
 | 0,f,h,_,_,_=>absurd h (Nat.not_lt_zero _)
 | n+1,f,h,hm,hw,hl=>Si hy f hm hw hl fun m h1 h2 h3 h4=>F9 hy n m (by omega) h2 h3 h4
end Go.Proofs.YthpldolmpinnhaaGreatDoor
