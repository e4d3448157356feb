import Derived.Test.YthpldolmpinnhaaGreatDoorJK15
import Derived.Test.YthpldolmpinnhaaGreatDoorShelf
import Derived.Recover
import Derived.WalkSmall
import Derived.Laws.IdiomStrings
set_option maxHeartbeats 64000000
open Go.Lib renaming hid→z7,Utf8Tabs→zH
open Nat renaming le_refl→z8,zero_le→zj
open SizeOf renaming sizeOf→zy
open Go.Instr renaming typeAssert→zx
open Go.Addr renaming block→zv
open Go.World renaming frozen?_setCell→zu,block_lt_of_cell?→zZ,frozen?_of_block→zX,cell?_of_block→zD,cell?_alloc_lt→zE
open List renaming append_assoc→zk,length_nil→zg,replicate→zV,length_pos_iff→zU,eq_nil_of_length_eq_zero→zQ,getElem?_eq_getElem→zG,length_cons→zI,drop_zero→zL
open Go.RowKit.Below renaming refl→zf
open Bool renaming and_eq_true→zY
open ByteArray renaming size_extract→zJ
open Option.some renaming inj→zF
open Go.Proofs.Tryz
namespace Go.Proofs.YthpldolmpinnhaaGreatDoor
open Go Go.RowKit
set_option maxRecDepth 10000
theorem Rj{w W:World}(h:zH 3 4 w)(hb:Below w.heap.size w W):zH 3 4 W:=by
 have lt:∀ (a:Addr) (v:Value),w.cell? a=some v->a.block<w.heap.size:=fun a v h=>zZ w a h
 refine⟨fun c hc=>?_,fun i hi=>⟨?_,?_⟩⟩
 ·rw[hb.cell (lt _ _ (h.1 c hc))];exact h.1 c hc
 ·rw[hb.cell (lt _ _ (h.2 i hi).1)];exact(h.2 i hi).1
 ·rw[hb.cell (lt _ _ (h.2 i hi).2)];exact(h.2 i hi).2
theorem C0(b:Nat)(w:World):(zx (.iface 101 (.pointer (some ⟨b,0,none⟩))) 20 101 true).run prog w = .ok (.tuple #[.pointer (some ⟨b,0,none⟩),.bool true]) w:=by rfl
theorem Hz(w:World):(zx .nilIface 20 101 true).run prog w = .ok (.tuple #[.pointer none,.bool false]) w:=by rfl
theorem MF(A B:Nat)(w:World):CallsD prog 109 #[.pointer (some ⟨A,0,none⟩),.pointer (some ⟨B,0,none⟩)] .returning w fun e u' w'=>e = .returned (.tuple #[])/\u' = .returning/\w'=w:=by
 refine callsD_of_wpS func109 rfl fun c₀ cs hu=>?_
 have ha:=Hz;apply wpS_seq;apply wpS_region;simp[wpOpsS,go_sem,recoverD,hu,ha,ntmps109,Exit.thenS];refine wpS_of_wp ?_;go_wp2
 cases c₀;simp_all [bodyPostS,results,results109]
theorem Zu(A B b:Nat)(u v:Value)(uG:List PanicEntry)(w:World)(hA:w.cell? ⟨A,0,none⟩=some u)(hAz:w.frozen? ⟨A,0,none⟩=false)(hB:w.cell? ⟨B,0,none⟩=some v)(hBz:w.frozen? ⟨B,0,none⟩=false)(hAB:B≠A) :
  CallsD prog 109 #[.pointer (some ⟨A,0,none⟩),.pointer (some ⟨B,0,none⟩)] (.panicking ({ v := .iface 101 (.pointer (some ⟨b,0,none⟩)),recovered:=false }::uG)) w fun e u' w' =>
   e = .returned (.tuple #[])/\u' = .panicking ({ v := .iface 101 (.pointer (some ⟨b,0,none⟩)),recovered:=true }::uG)/\w'=(w.setCell ⟨A,0,none⟩ (.slice none 0 0)).setCell ⟨B,0,none⟩ (.iface 101 (.pointer (some ⟨b,0,none⟩))):=by
 have ha:=C0 b;refine callsD_of_wpS func109 rfl fun c₀ cs hu=>?_
 apply wpS_seq;apply wpS_region;simp[wpOpsS,go_sem,recoverD,hu,ha,ntmps109,Exit.thenS];refine wpS_of_wp ?_;simp only[Array.replicate,zV,List.setIfInBounds_toArray,List.set_cons_zero,List.set_cons_succ,List.append_toArray,List.cons_append,List.nil_append,Act.put];have hB':(w.setCell ⟨A,0,none⟩ (.slice none 0 0)).cell? ⟨B,0,none⟩=some v:=by rw[xf,if_neg (fun e=>hAB (congrArg zv e).symm)];exact hB
 go_wp2;simp[bodyPostS,results,results109]
def um(l:List UInt8):Except (Nat×Nat) Fo :=
 if 1000<l.length then .error (1,0)
 else if (uI l).2<l.length then .error (2,(uI l).1.length)
 else match X8 (vv l) with | .error e => .error e | .ok x => .ok x.1
def zz2(r:Except (Nat×Nat) Fo)(w:World)(e:Ending)(w':World):Prop :=
 (match r with
  | .error (n,a)=>∃ b,e = .returned (.tuple #[.slice none 0 0,.iface 101 (.pointer (some ⟨b,0,none⟩))])/\w'.cell? ⟨b,0,none⟩=some (.int .i64 n)/\w'.cell? ⟨b,1,none⟩=some (.int .i64 a)
  | .ok f=>(∃ a c vs,e = .returned (.tuple #[.slice a f.len c,.nilIface])/\VH w.heap.size w'.heap.size w' a vs/\xY w.heap.size w'.heap.size w' vs f)/\f.vD=true)/\Below w.heap.size w w'
structure qp(A:Nat)(u v:Value)(w:World):Prop where
 c0:w.cell? ⟨A,0,none⟩=some u
 c1:w.cell? ⟨A+1,0,none⟩=some v
 z0:w.frozen? ⟨A,0,none⟩=false
 z1:w.frozen? ⟨A+1,0,none⟩=false
theorem qp.keep{A:Nat}{u v:Value}{w w':World}(h:qp A u v w)(hb:∀ k,k=A\/k=A+1->w'.heap[k]? = w.heap[k]?):qp A u v w' :=
 ⟨(zD (a:=⟨A,0,none⟩) (hb A (.inl rfl))).trans h.c0,(zD (a:=⟨A+1,0,none⟩) (hb _ (.inr rfl))).trans h.c1,
  (zX (a:=⟨A,0,none⟩) (hb A (.inl rfl))).trans h.z0,(zX (a:=⟨A+1,0,none⟩) (hb _ (.inr rfl))).trans h.z1⟩
theorem qp.lt{A:Nat}{u v:Value}{w:World}(h:qp A u v w):A+1<w.heap.size:=zZ w _ h.c1
theorem qp.below{A:Nat}{u v:Value}{w w':World}(h:qp A u v w)(hb:Below w.heap.size w w'):qp A u v w' :=
 h.keep fun k hk=>hb.block k (by have:=h.lt;omega)
theorem qp.but{A p:Nat}{u v:Value}{w w':World}(h:qp A u v w)(hb:xS p w w')(hp:A+1<p):qp A u v w' :=
 h.keep fun k hk=>hb.block k (by have:=h.lt;omega) (by omega)
theorem qp.Ya{A:Nat}{u v x:Value}{w:World}(h:qp A u v w):qp A x v (w.setCell ⟨A,0,none⟩ x) :=
 ⟨by rw[xf,if_pos rfl,h.c0];rfl,by rw[xf,if_neg (by simp)];exact h.c1,by rw[zu];exact h.z0,by rw[zu];exact h.z1⟩
theorem qp.C1{A:Nat}{u v x:Value}{w:World}(h:qp A u v w):qp A u x (w.setCell ⟨A+1,0,none⟩ x) :=
 ⟨by rw[xf,if_neg (by simp)];exact h.c0,by rw[xf,if_pos rfl,h.c1];rfl,by rw[zu];exact h.z0,by rw[zu];exact h.z1⟩
theorem vK.yvx{p A:Nat}{rs:List Int}{i d:Nat}{w:World}{a:Option Addr}{n c:Nat}(h:vK p rs i d w)(hA:w.cell? ⟨A,0,none⟩=some (.slice a n c))(vx:A≠p)(u:Value):vK p rs i d (w.setCell ⟨A,0,none⟩ u):=by
 obtain⟨⟨g,cap,h0,h1,h2,h3,h4⟩,h5,h6,h7,h8,h9,dM,KU,JS⟩:=h;have ne:∀ k:Nat,¬(⟨A,0,none⟩:Addr)=⟨p,k,none⟩:=fun k e=>vx (congrArg zv e)
 refine⟨⟨g,cap,by rw[xf,if_neg (ne 0)];exact h0,h1,h2,h3,fun j hj=>?_⟩,by rw[xf,if_neg (ne 1)];exact h5,by rw[xf,if_neg (ne 2)];exact h6,by rw[zu];exact h7,by rw[zu];exact h8,h9,dM,KU,JS⟩;rw[xf,if_neg (fun e=>by have:=h4 j hj;rw[←e,hA] at this;cases this)];exact h4 j hj
theorem vW{a w:World}{B b:Nat}{x:Value}{j:Nat}(h:Below B a w)(hb:B<=b):Below B a (w.setCell ⟨b,j,none⟩ x) :=
 ⟨h.os,h.tape,h.output,Nat.le_trans h.size (by simp[World.setCell]),fun k hk=>(Below.heap_setCell _ _ _ _ (by show k≠b;omega)).trans (h.block k hk)⟩
theorem Wi(l:List UInt8):∀ r∈vv l,0<=r:=by
 have key:∀ (n:Nat) (l:List UInt8),l.length<=n->∀ r∈vv l,0<=r:=by
  intro n;induction n with
  | zero =>
   intro l h r hr;have:l=[]:=zQ (by omega);subst this;rw[jl] at hr
   cases hr
  | succ n ih =>
   intro l h r hr;by_cases h0:l=[]\/xp l=0
   ·rw[vv,dif_pos h0] at hr
    cases hr
   ·have h1:l≠[]:=fun e=>h0 (.inl e)
    have h2:xp l≠0:=fun e=>h0 (.inr e)
    rw[fT h1 h2] at hr;rcases List.mem_cons.1 hr with q|q
    ·omega
    ·exact ih _ (by have:=zU.2 h1;simp;omega) r q
 exact key _ l (z8 _)
theorem Xo(l:List UInt8):(vv l).length<=l.length:=by
 have key:∀ (n:Nat) (l:List UInt8),l.length<=n->(vv l).length<=l.length:=by
  intro n;induction n with
  | zero =>
   intro l h;have:l=[]:=zQ (by omega);subst this;rw[jl];simp
  | succ n ih =>
   intro l h;by_cases h0:l=[]\/xp l=0
   ·rw[vv,dif_pos h0];simp
   ·have h1:l≠[]:=fun e=>h0 (.inl e)
    have h2:xp l≠0:=fun e=>h0 (.inr e)
    rw[fT h1 h2];have:=ih (l.drop (xp l)) (by have:=zU.2 h1;simp;omega);have:=zU.2 h1;simp at *;omega
 exact key _ l (z8 _)
theorem Hy(w:World){A:Nat}(hA:w.heap.size=A):qp A (.slice none 0 0) .nilIface ((w.alloc (.cells #[.slice none 0 0] 107)).alloc (.cells #[.nilIface] 73)):=by
 have h1:(w.alloc (.cells #[.slice none 0 0] 107)).heap.size=A+1:=by simp[hA]
 have xC:A<(w.alloc (.cells #[.slice none 0 0] 107)).heap.size:=by omega
 refine⟨?_,?_,?_,?_⟩
 ·rw[zE _ _ _ xC,←hA];exact xu _ _ _ _ _
 ·rw[←h1];exact xu _ _ _ _ _
 ·rw[zX (Below.heap_alloc _ _ _ xC)];subst hA;simp
 ·rw[←h1];simp
theorem Rf(s:ByteArray)(w:World)(hs:s.size<=9223372036854775807)(hT:zH 3 4 w)(hN:ui w) :
  Calls prog 78 #[.string s] w (zz2 (um s.data.toList) w):=by
 have R0:∀ (fn:Fn) (first cap:Array Value) (w:World),(Instr.makeFunc fn first cap).run prog w = .ok (.func fn first cap) w:=fun _ _ _ _=>rfl
 have HT:=z7 hT;have HNA:=z7 hN;obtain⟨A,hA⟩:∃ A,w.heap.size=A:=⟨_,rfl⟩;have HA:=z7 hA;clear hT hN;by_cases rK:1000<s.size
 ·have h1:decide ((1000:Int)<(s.size:Int))=true:=by simp;omega
  have h2:decide (1000<s.size)=true:=by simp;omega
  have HR:=z7 (show um s.data.toList = .error (1,0) by unfold um;rw[xi,if_pos rK]);clear rK;go_enter_defers func78,ntmps78
  go_wp2;obtain⟨W,hW⟩:∃ W,((w.alloc (.cells #[.slice none 0 0] 107)).alloc (.cells #[.nilIface] 73)).alloc (.cells #[.int .i64 1,.int .i64 0] 105)=W:=⟨_,rfl⟩;rw[hW];have ZR:qp A (.slice none 0 0) .nilIface W:=by
   rw[←hW];exact(Hy w hA).below ((zf _ _).alloc (z8 _) _)
  have jT:Below A w W:=by
   rw[←hW,←hA];exact((((zf _ _).alloc (z8 _) _).alloc (by simp) _).alloc (by simp;omega) _)
  have hc:=fun i=>xu ((w.alloc (.cells #[.slice none 0 0] 107)).alloc (.cells #[.nilIface] 73)) #[.int .i64 1,.int .i64 0] 105 (0,0) i
  rw[hW,show((w.alloc (.cells #[.slice none 0 0] 107)).alloc (.cells #[.nilIface] 73)).heap.size=A+1+1 by simp[hA]] at hc;clear hW;obtain⟨bf,Kp⟩:∃ bf,A+1+1=bf:=⟨_,rfl⟩;rw[Kp] at hc ⊢;clear Kp;refine leaves_cons (f:=109) (args:=#[.pointer (some ⟨A,0,none⟩),.pointer (some ⟨A+1,0,none⟩)]) (by simp) (by simp[go_sem]) ?_;refine(Zu A (A+1) _ _ _ _ _ ZR.c0 ZR.z0 ZR.c1 ZR.z1 (by omega)).mono ?_;rintro e u' Kb ⟨rfl,rfl,rfl⟩;have vM:=(ZR.Ya (x := .slice none 0 0)).C1 (x := .iface 101 (.pointer (some ⟨bf,0,none⟩)));have VR:=vM.c0;have Rb:=vM.c1;simp[Leaves,settle,results,results78,go_sem,VR,Rb];have hF:=HR.out;rw[hF];have Wl:bf≠A:=fun e=>by have h1:=(hc 0);rw[e,ZR.c0] at h1;cases h1
  have Wm:bf≠A+1:=fun e=>by have h1:=(hc 0);rw[e,ZR.c1] at h1;cases h1
  exact⟨⟨bf,rfl,by rw[xf,if_neg (fun e=>Wm (congrArg zv e).symm),xf,if_neg (fun e=>Wl (congrArg zv e).symm)];exact(hc 0),by rw[xf,if_neg (fun e=>Wm (congrArg zv e).symm),xf,if_neg (fun e=>Wl (congrArg zv e).symm)];exact(hc 1)⟩,by rw[HA.out];exact vW (vW jT (by omega)) (by omega)⟩
 ·have h1:decide ((1000:Int)<(s.size:Int))=false:=by simp;omega
  have h2:decide (1000<s.size)=false:=by simp;omega
  go_enter_defers func78,ntmps78
  have ZR:=Hy w hA;have MD:Below A w ((w.alloc (.cells #[.slice none 0 0] 107)).alloc (.cells #[.nilIface] 73)):=by
   rw[←hA];exact((zf _ _).alloc (z8 _) _).alloc (by simp) _
  have zby:((w.alloc (.cells #[.slice none 0 0] 107)).alloc (.cells #[.nilIface] 73)).heap.size=A+1+1:=by simp[hA]
  obtain⟨W0,Ej⟩:∃ W0,(w.alloc (.cells #[.slice none 0 0] 107)).alloc (.cells #[.nilIface] 73)=W0:=⟨_,rfl⟩;rw[Ej] at ZR MD zby;have HW0:=z7 Ej;clear Ej;obtain⟨I,hI⟩:∃ I,A+1+1=I:=⟨_,rfl⟩;have HI:=z7 hI;have ypf:s.size<=1000:=by omega
  go_wp2_with fail;clear hI;go_loopw [] (fun wr=>∃ k pre,k<=s.size/\wr.heap[I]? = some (.stringIter s k)/\Below A w wr/\qp A (.slice none 0 0) .nilIface wr/\uI s.data.toList=(pre++(uI (s.data.toList.drop k)).1,k+(uI (s.data.toList.drop k)).2)) (fun wr=>s.size - wr.iterPos I)
  case atStart =>
   rw[HW0.out];refine⟨0,[],zj _,?_,MD.alloc (by omega) _,ZR.below ((zf _ _).alloc (z8 _) _),by simp⟩;rw[←HI.out,←zby];exact World.iter_heap W0 s 0
  case round =>
   obtain⟨k,pre,hk,hit,qG,vM,mq⟩:=hrel;have HP:=z7 mq;have RZ:=z7 vM;have HB:=z7 qG;have HIT:=z7 hit;have ypd:I<wr.heap.size:=(Array.getElem?_eq_some_iff.1 hit).1;have hAI:A+1<I:=by have:=HI.out;omega
   by_cases xC:k<s.size
   ·have hn:=Lib.run_next_any_at (P:=prog) wr I s k 0 hit xC;have hd:=MK s k xC;have ku:G7 (s.data.toList.drop k):=by
     cases hl:s.data.toList.drop k with
     | nil=>have:=congrArg List.length hl;simp at this;omega
     | cons a r=>exact JX a r
    have HOK:=z7 ku;have RY:=Lib.iterAt_heap wr I s k (k+(Z5 (s.data.toList.drop k)).2) hit;have V7:=Lib.below_iterAt qG (k:=I) (by omega) s (k+(Z5 (s.data.toList.drop k)).2);have Zq:=vM.keep (w':=wr.iterAt I s (k+(Z5 (s.data.toList.drop k)).2)) (fun j hj=>Lib.iterAt_other _ _ _ _ _ (by omega));obtain⟨pt,VS⟩:∃ pt,Z5 (s.data.toList.drop k)=pt:=⟨_,rfl⟩;obtain⟨r,z⟩:=pt;rw[hd,VS] at hn;rw[VS] at RY V7 Zq;dsimp only at hn RY V7 Zq;obtain⟨W1,VD⟩:∃ W1,wr.iterAt I s (k+z)=W1:=⟨_,rfl⟩;rw[VD] at hn RY V7 Zq;have ypb:W1.heap.size=wr.heap.size:=by rw[←VD];exact Lib.iterAt_size _ _ _ _
    have DO:=z7 VS;have Tl:=z7 (Tryz.utf8_DecodeRuneInString (s.extract k s.size) W1 (Rj HT.out (by rw[HA.out];exact V7)));have hde:Lib.decodeGo (s.extract k s.size)=(r,z):=by
     unfold Lib.decodeGo;rw[if_neg (by rw[zJ];omega),H9 s k xC,VS]
    rw[hde] at Tl;have k1:(k:Int)<=(s.size:Int):=by omega
    have k2:decide ((k:Int)<0)=false:=by simp
    clear hd ku qG vM mq VS VD hde hit;rcases HOK.out with⟨h0,Hx⟩|⟨h0,je,UI⟩
    ·rw[DO.out] at Hx;obtain⟨rfl,rfl⟩:r=65533/\z=1:=by cases Hx;exact⟨rfl,rfl⟩
     have jg:=ZO h0;have Xp:(uI s.data.toList).2=k:=by rw[HP.out,jg];rfl
     have HCT:=z7 (H8 s k Xp);have HR:=z7 (show um s.data.toList = .error (2,(uI s.data.toList).1.length) by
      unfold um;rw[if_neg (by rw[xi];omega),if_pos (by rw[xi,Xp];exact xC)])
     have ES:=z7 (fun W=>Tryz.utf8_RuneCountInString (s.extract 0 k) W (by rw[zJ];omega));rw[HCT.out] at ES;obtain⟨cnt,Z6⟩:∃ cnt,(uI s.data.toList).1.length=cnt:=⟨_,rfl⟩;rw[Z6] at HR ES;clear Hx jg Xp Z6 h0 HCT;go_wp2_with fail;refine Tl.out.mono ?_;rintro e W2 ⟨rfl,xD⟩;have Ye:=V7.trans (xD.mono (by omega));have OA:=Zq.below xD;clear Tl;go_wp2_with fail;refine(ES.out W2).mono ?_;rintro e W3 ⟨rfl,pos,rfl⟩;have DR:=OA.below ((zf W2.heap.size W2).alloc (z8 _) (.stringIter (s.extract 0 k) pos));have X2:Below A w (W2.iter (s.extract 0 k) pos):=Ye.alloc (by have:=xD.size;omega) _;obtain⟨W3,j6⟩:∃ W3,W2.iter (s.extract 0 k) pos=W3:=⟨_,rfl⟩;rw[j6];have QP:qp A (.slice none 0 0) .nilIface W3:=by rw[←j6];exact DR
     rw[j6] at X2;clear j6 DR Ye OA V7 Zq RY hn ES;go_wp2;have Oa:=QP.below ((zf W3.heap.size W3).alloc (z8 _) (.cells #[.int .i64 2,.int .i64 cnt] 105));have mg:=QP.lt;have UJ:Below A w (W3.alloc (.cells #[.int .i64 2,.int .i64 cnt] 105)):=X2.alloc (by omega) _;have hc:=fun i=>xu W3 #[.int .i64 2,.int .i64 cnt] 105 (0,0) i
     obtain⟨W4,FC⟩:∃ W4,W3.alloc (.cells #[.int .i64 2,.int .i64 cnt] 105)=W4:=⟨_,rfl⟩;rw[FC] at Oa UJ hc ⊢;clear FC;obtain⟨bf,Kp⟩:∃ bf,W3.heap.size=bf:=⟨_,rfl⟩;rw[Kp] at hc ⊢;clear Kp;refine leaves_cons (f:=109) (args:=#[.pointer (some ⟨A,0,none⟩),.pointer (some ⟨A+1,0,none⟩)]) (by simp) (by simp[go_sem]) ?_;refine(Zu A (A+1) _ _ _ _ _ Oa.c0 Oa.z0 Oa.c1 Oa.z1 (by omega)).mono ?_;rintro e u' Kb ⟨rfl,rfl,rfl⟩;have vM:=(Oa.Ya (x := .slice none 0 0)).C1 (x := .iface 101 (.pointer (some ⟨bf,0,none⟩)));have VR:=vM.c0;have Rb:=vM.c1;simp[Leaves,settle,results,results78,go_sem,VR,Rb];have hF:=HR.out;rw[hF];have Wl:bf≠A:=fun e=>by have h1:=(hc 0);rw[e,Oa.c0] at h1;cases h1
     have Wm:bf≠A+1:=fun e=>by have h1:=(hc 0);rw[e,Oa.c1] at h1;cases h1
     exact⟨⟨bf,rfl,by rw[xf,if_neg (fun e=>Wm (congrArg zv e).symm),xf,if_neg (fun e=>Wl (congrArg zv e).symm)];exact(hc 0),by rw[xf,if_neg (fun e=>Wm (congrArg zv e).symm),xf,if_neg (fun e=>Wl (congrArg zv e).symm)];exact(hc 1)⟩,by rw[HA.out];exact vW (vW UJ (by omega)) (by omega)⟩
    ·have hz:xp (s.data.toList.drop k)=z:=by rw[h0,DO.out]
     rw[DO.out] at UI;rw[hz] at je;have hle:=(Xy (s.data.toList.drop k)).1;rw[hz] at hle;simp only[List.length_drop,xi] at hle;have vx:s.data.toList.drop k≠[]:=by intro e;have:=congrArg List.length e;simp at this;omega
     have vL:=gy vx (by omega);rw[hz,List.drop_drop] at vL;have jF:=z7 (show uI s.data.toList=(pre++[(s.data.toList.drop k).take z]++(uI (s.data.toList.drop (k+z))).1,(k+z)+(uI (s.data.toList.drop (k+z))).2) by
      rw[HP.out,vL];simp[Nat.add_assoc])
     have Wn:((r:Int)==65533)=false\/(r=65533/\((z:Int)==1)=false):=by
      by_cases hr:r=65533
      ·right;refine⟨hr,?_⟩;simp;intro UL;exact UI ⟨hr,by omega⟩
      ·left;simp;omega
     clear UI vL vx h0 hz;rcases Wn with qY|⟨rfl,jD⟩;all_goals
      go_wp2_with fail;refine Tl.out.mono ?_;rintro e W2 ⟨rfl,xD⟩;have Ye:=V7.trans (xD.mono (by omega));have OA:=Zq.below xD;have zbx:W2.heap[I]? = some (.stringIter s (k+z)):=(xD.block I (by omega)).trans RY;clear Tl V7 Zq RY hn xD;go_wp2;go_roundw
      case rel=>exact⟨k+z,_,by omega,zbx,Ye,OA,jF.out⟩
      case measure =>
       rw[iterPos_of zbx,iterPos_of HIT.out];omega
   ·have hn:=Lib.run_next_end_at (P:=prog) wr I s k 0 hit xC;have rJ:k=s.size:=by omega
    have hz:s.data.toList.drop k=[]:=List.drop_of_length_le (by rw[xi];omega);have Xp:(uI s.data.toList).2=s.size:=by rw[mq,hz,kC];exact rJ
    have Uv:=(gx s s.size 0 (by omega) (by omega) (by rw[zL,Xp];omega)).2 #[];rw[zL] at Uv;have HRT:=z7 (show um s.data.toList=match X8 (vv s.data.toList) with | .error e => .error e | .ok x => .ok x.1 by
     unfold um;rw[if_neg (by rw[xi];omega),if_neg (by rw[xi,Xp];omega)])
    obtain⟨rs,ZQ⟩:∃ rs,vv s.data.toList=rs:=⟨_,rfl⟩;have Kr:rs.length<=1000:=by have:=Xo s.data.toList;rw[xi,ZQ] at this;omega
    have zz4:=z7 (show ∀ r∈rs,0<=r by rw[←ZQ];exact Wi _);rw[ZQ] at Uv HRT;have hcv:=run_runes_of_string (P:=prog) wr 9 147 21 s underlying9 underlying147 underlying21 (by rw[Uv];simp;omega);have F:∃ cp W,(convert 9 147 (.string s)).run prog wr = .ok (.slice (some ⟨wr.heap.size,0,none⟩) rs.length cp) W/\Below wr.heap.size wr W/\wr.heap.size<W.heap.size/\rs.length<=cp/\cp<=maxLen/\∀ j (h:j<rs.length),W.cell? ⟨wr.heap.size,j,none⟩=some (.int .i32 rs[j]):=by
     have e2:(Conv.runesFrom s s.size 0 #[]).size=rs.length:=by rw[Uv];simp
     rw[e2] at hcv;refine⟨_,_,hcv,(zf _ _).drew.alloc (z8 _) _,by simp,grownCap_ge _ _ _ _,grownCap_le_maxLen _ _ _ _ (by unfold maxLen;omega),fun j hj=>?_⟩;rw[show wr.heap.size=wr.drew.heap.size from rfl,xu,Uv,Array.getElem?_append_left (by simpa using hj)];simp[hj]
    obtain⟨cp,W,vB,jT,rG,zbv,zbu,gK⟩:=F;have HCE:=z7 gK;have Zq:=vM.below jT;have V7:=qG.trans (jT.mono (by omega));clear hcv Uv gK mq Xp hz ZQ rJ;have zbq:=zZ w _ (HNA.out 0 (by omega));have ZS:w.heap.size<=W.heap.size:=by have:=V7.size;omega
    have qz:Below W.heap.size W (W.alloc (.cells #[.slice (some ⟨wr.heap.size,0,none⟩) rs.length cp,.int .i64 0,.int .i64 0] 249)):=(zf _ _).alloc (z8 _) _;have jG:=fun i=>xu W #[.slice (some ⟨wr.heap.size,0,none⟩) rs.length cp,.int .i64 0,.int .i64 0] 249 (0,0) i
    have hsy:vK W.heap.size rs 0 0 (W.alloc (.cells #[.slice (some ⟨wr.heap.size,0,none⟩) rs.length cp,.int .i64 0,.int .i64 0] 249)) :=
     ⟨⟨wr.heap.size,cp,jG 0,zbv,zbu,rG,fun j hj=>(zE _ _ _ rG).trans (HCE.out j hj)⟩,jG 1,jG 2,by simp,by simp,by omega,by omega,by omega,zz4.out⟩
    have rF:=Zq.below qz;have zz5:Below A w _:=V7.trans (qz.mono (by omega));go_wp2_with fail;obtain⟨Y,hY⟩:∃ Y,W.alloc (.cells #[.slice (some ⟨wr.heap.size,0,none⟩) rs.length cp,.int .i64 0,.int .i64 0] 249)=Y:=⟨_,rfl⟩;rw[hY] at hsy rF zz5 ⊢;have hpY:W.heap.size<Y.heap.size:=by rw[←hY];simp
    obtain⟨p,hp⟩:∃ p,W.heap.size=p:=⟨_,rfl⟩;rw[hp] at hsy hpY ZS ⊢;have hAp:A+1<p:=by have:=Zq.lt;omega
    have VT:KG p Y:=⟨HNA.out.below (by rw[HA.out];exact zz5),by have hg:0<w.heap.size:=zbq;omega⟩;have hM:=OW p rs 5 (z8 _) false 0 Y hsy VT;obtain⟨rm,hrm⟩:∃ rm,YA rs 5 false 0=rm:=⟨_,rfl⟩;have HRM:=z7 (show um s.data.toList=match rm.then (fun f i=>if xU rs i = -1 then (.ok (f,i):kz Fo) else .error (3,i)) with | .error e => .error e | .ok x => .ok x.1 by rw[HRT.out,←hrm];rfl);rw[hrm] at hM;have HM:=z7 hM;clear hM hrm hY qz jG hsy Zq V7 hp vM qG zbv zbu HCE HRT hn vB hit RZ HB HIT HP zbq;refine HM.out.mono ?_;rintro e X ⟨hq,hbX⟩;have Xx:=rF.but hbX hAp;have zz7:Below A w X:=zz5.trans (hbX.low (by omega) (by omega))
    cases rm with
    | error en =>
     obtain⟨iR,iT⟩:=en;obtain⟨bf,rfl,f1,f2,_,_,_⟩:=hq;have mf:=z7 (show um s.data.toList = .error (iR,iT) from HRM.out);go_wp2;refine leaves_cons (f:=109) (args:=#[.pointer (some ⟨A,0,none⟩),.pointer (some ⟨A+1,0,none⟩)]) (by simp) (by simp[go_sem]) ?_;refine(Zu A (A+1) _ _ _ _ _ Xx.c0 Xx.z0 Xx.c1 Xx.z1 (by omega)).mono ?_;rintro e u' Kb ⟨rfl,rfl,rfl⟩;have vM:=(Xx.Ya (x := .slice none 0 0)).C1 (x := .iface 101 (.pointer (some ⟨bf,0,none⟩)));have VR:=vM.c0;have Rb:=vM.c1;simp[Leaves,settle,results,results78,go_sem,VR,Rb];have hF:=mf.out;rw[hF];have Wl:bf≠A:=fun e=>by have h1:=f1;rw[e,Xx.c0] at h1;cases h1
     have Wm:bf≠A+1:=fun e=>by have h1:=f1;rw[e,Xx.c1] at h1;cases h1
     exact⟨⟨bf,rfl,by rw[xf,if_neg (fun e=>Wm (congrArg zv e).symm),xf,if_neg (fun e=>Wl (congrArg zv e).symm)];exact f1,by rw[xf,if_neg (fun e=>Wm (congrArg zv e).symm),xf,if_neg (fun e=>Wl (congrArg zv e).symm)];exact f2⟩,by rw[HA.out];exact vW (vW zz7 (by omega)) (by omega)⟩
    | ok fj =>
     obtain⟨f,j⟩:=fj;obtain⟨⟨a,c,rfl,vs,vE,kD⟩,Km,hsX⟩:=hq;have qV:=z7 vE;have Yz:=z7 kD;have JV:=z7 (show um s.data.toList=match (if xU rs j = -1 then (.ok (f,j):kz Fo) else .error (3,j)) with | .error e => .error e | .ok x => .ok x.1 from HRM.out);have g0:=Xx.c0;have g1:=Xx.z0;have YR:=z7 (hsX.yvx g0 (by omega) (.slice a f.len c));have DR:=Xx.Ya (x := .slice a f.len c);have X2:Below A w (X.setCell ⟨A,0,none⟩ (.slice a f.len c)):=vW zz7 (z8 _);have fM:vQ Y.heap.size X.heap.size X (X.setCell ⟨A,0,none⟩ (.slice a f.len c)):=(vy (z8 _)).put (by omega) 0 _;obtain⟨X4,hX4⟩:∃ X4,X.setCell ⟨A,0,none⟩ (.slice a f.len c)=X4:=⟨_,rfl⟩;rw[hX4] at YR DR X2 fM;have HX4:=z7 hX4;have hYX:=hbX.size;clear hX4 vE kD hsX Xx zz7 HRM HM hbX;go_wp2_with fail;rw[HX4.out];refine(jE p rs j 0 X4 YR.out).mono ?_;rintro e X5 ⟨rfl,kZ⟩;have LO:=z7 (YR.out.below kZ);have hA4:=DR.lt;have G8:=DR.below kZ;have UJ:=X2.trans (kZ.mono (by omega));have bB:=fM.below kZ;by_cases he:xU rs j = -1
     ·have mf:=z7 (show um s.data.toList = .ok f by rw[JV.out,if_pos he]);rw[he];have q0:=G8.c0;have q1:=G8.c1;have q2:=G8.z0;have q3:=G8.z1;have V3:=G8.Ya (x := .slice a f.len c);have G9:=V3.C1 (x := .nilIface);have R7:Below A w ((X5.setCell ⟨A,0,none⟩ (.slice a f.len c)).setCell ⟨A+1,0,none⟩ .nilIface):=vW (vW UJ (z8 _)) (by omega);have JU:vQ Y.heap.size X.heap.size X ((X5.setCell ⟨A,0,none⟩ (.slice a f.len c)).setCell ⟨A+1,0,none⟩ .nilIface):=(bB.put (by omega) 0 _).put (by omega) 0 _;have q4:=V3.c1;have q5:=V3.z1;clear JV he HX4;go_wp2;refine leaves_cons (f:=109) (args:=#[.pointer (some ⟨A,0,none⟩),.pointer (some ⟨A+1,0,none⟩)]) (by simp) (by simp[go_sem]) ?_;refine(MF A (A+1) _).mono ?_;rintro e u' Kb ⟨rfl,rfl,rfl⟩;have VR:=G9.c0;have Rb:=G9.c1;simp[Leaves,settle,results,results78,go_sem,VR,Rb];have hF:=mf.out;rw[hF];exact⟨⟨⟨a,c,vs,rfl,qV.out.keep JU (by rw[HA.out];omega) JU.1,xY.keep JU (by rw[HA.out];omega) JU.1 _ _ Yz.out⟩,Km⟩,by rw[HA.out];exact R7⟩
     ·have mf:=z7 (show um s.data.toList = .error (3,j) by rw[JV.out,if_neg he]);have he':(xU rs j==-1)=false:=by simpa using he
      have q0:=LO.out.at_;clear JV he HX4;go_wp2_with fail;refine(fR p 3 j X5 LO.out.KQ).mono ?_;rintro e X6 ⟨⟨bf,rfl,f1,f2,_,_,_⟩,dv⟩;have Gz:=G8.below dv;have Mx:=UJ.trans (dv.mono (by have:=G8.lt;omega));go_wp2;refine leaves_cons (f:=109) (args:=#[.pointer (some ⟨A,0,none⟩),.pointer (some ⟨A+1,0,none⟩)]) (by simp) (by simp[go_sem]) ?_;refine(Zu A (A+1) _ _ _ _ _ Gz.c0 Gz.z0 Gz.c1 Gz.z1 (by omega)).mono ?_;rintro e u' Kb ⟨rfl,rfl,rfl⟩;have vM:=(Gz.Ya (x := .slice none 0 0)).C1 (x := .iface 101 (.pointer (some ⟨bf,0,none⟩)));have VR:=vM.c0;have Rb:=vM.c1;simp[Leaves,settle,results,results78,go_sem,VR,Rb];have hF:=mf.out;rw[hF];have Wl:bf≠A:=fun e=>by have h1:=f1;rw[e,Gz.c0] at h1;cases h1
      have Wm:bf≠A+1:=fun e=>by have h1:=f1;rw[e,Gz.c1] at h1;cases h1
      exact⟨⟨bf,rfl,by rw[xf,if_neg (fun e=>Wm (congrArg zv e).symm),xf,if_neg (fun e=>Wl (congrArg zv e).symm)];exact f1,by rw[xf,if_neg (fun e=>Wm (congrArg zv e).symm),xf,if_neg (fun e=>Wl (congrArg zv e).symm)];exact f2⟩,by rw[HA.out];exact vW (vW Mx (by omega)) (by omega)⟩
inductive Out (σ:Type) where
 | go (b:Bool) (s:σ)
 | TC (c:List PanicEntry) (s:σ)
def Out.then{σ:Type}(x:Out σ)(k:σ->Out σ):Out σ:=match x with | .go true s=>k s | .go false s => .go false s | .TC c s => .TC c s
def ve{σ:Type}(F:σ->Fo->Out σ):Fo->σ->Out σ
 | .nil,s => .go true s
 | .text _ r,s=>ve F r s
 | .hash r,s=>ve F r s
 | .put n a r,s=>(F s (.put n a .nil)).then fun s=>ve F r s
 | .num n a r,s=>(F s (.num n a .nil)).then fun s=>ve F r s
 | .br n a f o c bs r,s=>(F s (.br n a f o c bs .nil)).then fun s=>(ve F bs s).then fun s=>ve F r s
 | .ug _ _ m r,s=>(ve F m s).then fun s=>ve F r s
def Wo:Fo->Option (Wd×Nat)
 | .put n a _=>some (n,a)
 | .num n a _=>some (n,a)
 | .br n a _ _ _ _ _=>some (n,a)
 | _=>none
def Fo.wf(N:Nat):Fo->Bool
 | .nil=>true
 | .text _ r=>r.wf N
 | .hash r=>r.wf N
 | .put n _ r=>decide (n.length<=4000001) && r.wf N
 | .num n _ r=>decide (n.length<=4000001) && r.wf N
 | .br n _ f _ _ bs r=>decide (n.length<=4000001) && decide (f<3) && bs.ux && decide (bs.len<=N) && bs.wf N && r.wf N
 | .ug k _ m r=>decide (k.length<=4000001) && m.vD && decide (m.len<=N) && m.wf N && r.wf N
def Fo.wt:Fo->Nat
 | .br _ _ _ _ _ bs _=>2+bs.len
 | _=>1
def Fo.cnt:Fo->Nat
 | .nil=>0
 | .text _ r=>r.cnt
 | .hash r=>r.cnt
 | .put _ _ r=>1+r.cnt
 | .num _ _ r=>1+r.cnt
 | .br _ _ _ _ _ bs r=>2+bs.len+bs.cnt+r.cnt
 | .ug _ _ m r=>m.cnt+r.cnt
def zz8{σ:Type}(I:σ->Nat->World->Prop)(room:Nat)(o:Out σ)(e:Ending)(w':World):Prop :=
 match o with
 | .go b s=>e = .returned (.bool b)/\I s room w'
 | .TC c s=>e = .panicked c/\I s room w'
structure MB{σ:Type}(lo hi:Nat)(w0:World)(v:Value)(I:σ->Nat->World->Prop)(F:σ->Fo->Out σ):Prop where
 fn:∃ k cap,v = .func (.func k) #[] cap/\(∀ args w,(callFunc k args).run prog w = .ok (.enter k args) w) /\
  ∀ s room W x u n a,I s (room+x.wt) W->xY lo hi w0 [u] x->x.wf 2000000=true->Wo x=some (n,a)->Calls prog k (#[u,.agg #[xk n,.int .i64 (a:Nat)]]++cap) W (zz8 I room (F s x))
 keep:∀ s b W,I s b W->vQ lo hi w0 W
 below:∀ s b W W',I s b W->Below W.heap.size W W'->I s b W'
 less:∀ s b b' W,I s b W->b'<=b->I s b' W
section
variable (b:Nat) (t:Wd) (w:World)
theorem Gy:(zx (.iface 172 (.pointer (some ⟨b,0,none⟩))) 112 172 true).run prog w = .ok (.tuple #[.pointer (some ⟨b,0,none⟩),.bool true]) w:=by rfl
theorem VW:(zx (.iface 175 (.pointer (some ⟨b,0,none⟩))) 112 175 true).run prog w = .ok (.tuple #[.pointer (some ⟨b,0,none⟩),.bool true]) w:=by rfl
theorem UM:(zx (.iface 177 (.pointer (some ⟨b,0,none⟩))) 112 177 true).run prog w = .ok (.tuple #[.pointer (some ⟨b,0,none⟩),.bool true]) w:=by rfl
theorem Hv:(zx (.iface 262 (xk t)) 112 172 true).run prog w = .ok (.tuple #[.pointer none,.bool false]) w:=by rfl
theorem Hu:(zx (.iface 262 (xk t)) 112 175 true).run prog w = .ok (.tuple #[.pointer none,.bool false]) w:=by rfl
theorem MC:(zx (.iface 262 (xk t)) 112 177 true).run prog w = .ok (.tuple #[.pointer none,.bool false]) w:=by rfl
theorem Hq:(zx (.iface 264 (.agg #[])) 112 172 true).run prog w = .ok (.tuple #[.pointer none,.bool false]) w:=by rfl
theorem Hk:(zx (.iface 264 (.agg #[])) 112 175 true).run prog w = .ok (.tuple #[.pointer none,.bool false]) w:=by rfl
theorem ME:(zx (.iface 264 (.agg #[])) 112 177 true).run prog w = .ok (.tuple #[.pointer none,.bool false]) w:=by rfl
theorem Gx:(zx (.iface 175 (.pointer (some ⟨b,0,none⟩))) 112 172 true).run prog w = .ok (.tuple #[.pointer none,.bool false]) w:=by rfl
theorem DS:(zx (.iface 177 (.pointer (some ⟨b,0,none⟩))) 112 172 true).run prog w = .ok (.tuple #[.pointer none,.bool false]) w:=by rfl
theorem QT:(zx (.iface 177 (.pointer (some ⟨b,0,none⟩))) 112 175 true).run prog w = .ok (.tuple #[.pointer none,.bool false]) w:=by rfl
theorem MH:(zx (.iface 172 (.pointer (some ⟨b,0,none⟩))) 112 175 true).run prog w = .ok (.tuple #[.pointer none,.bool false]) w:=by rfl
theorem DT:(zx (.iface 172 (.pointer (some ⟨b,0,none⟩))) 112 177 true).run prog w = .ok (.tuple #[.pointer none,.bool false]) w:=by rfl
theorem RX:(zx (.iface 175 (.pointer (some ⟨b,0,none⟩))) 112 177 true).run prog w = .ok (.tuple #[.pointer none,.bool false]) w:=by rfl
end
def qy:Wd:=[111,116,104,101,114]
def QW:List Wd:=[[122,101,114,111],[111,110,101],[116,119,111],[102,101,119],[109,97,110,121],[111,116,104,101,114]]
def Fo.keys:Fo->List Wd
 | .ug k _ _ r=>k::r.keys
 | _=>[]
namespace MkS
def kS:Fo->MkS->List Nat->MkS×List Nat
 | .ug k _ _ r,s,acc=>if k=qy then kS r s acc else kS r (s.const k) (acc++[s.num k])
 | _,s,acc=>(s,acc)
def place(ks:List Wd)(k:Wd):Nat:=if k=qy then (ks.filter (· ≠ qy)).length else (ks.filter (· ≠ qy)).idxOf k
def qJ:Fo->MkS->List (Wd×Nat)->MkS×List (Wd×Nat)
 | .ug k _ _ r,s,acc=>if k.head? = some 61 then qJ r (s.put 7 (xH k.tail) [] [0]) (acc++[(k,s.code.length)]) else qJ r s acc
 | _,s,acc=>(s,acc)
def Hj(ks:List Wd)(t:Nat)(key:Wd)(s:MkS):MkS :=
 (List.range 6).foldl (fun s c=>if QW.getD c []=key\/key=qy/\QW.getD c [] ∉ ks then s.u7 t c else s) s
def gD(n:Wd)(bs:Fo)(s:MkS):MkS×List Nat:=kS bs (s.const n) [s.num n]
def ky(n:Wd)(bs:Fo)(s:MkS):MkS:=(gD n bs s).1.put 10 0 (gD n bs s).2 (zV (gD n bs s).2.length 0)
def kE(n o:Wd)(bs:Fo)(s:MkS):MkS×List (Wd×Nat):=qJ bs ((s.const n).put 4 (xH o) [s.num n] []) []
def qH(n o:Wd)(f:Nat)(bs:Fo)(s:MkS):MkS:=(kE n o bs s).1.put (if f=2 then 9 else 8) 0 [] (zV 6 0)
def dO(n:Wd)(bs:Fo)(s:MkS)(k:Wd)(x:MkS):MkS:=x.u7 (gD n bs s).1.code.length (place bs.keys k)
def jY(n o:Wd)(bs:Fo)(s:MkS)(k:Wd)(x:MkS):MkS :=
 match (kE n o bs s).2.lookup k with
 | some i=>x.u7 i 0
 | none=>Hj bs.keys (kE n o bs s).1.code.length k x
def qv:Fo->(Wd->MkS->MkS)->MkS->List Nat->MkS×List Nat
 | .nil,_,s,ls=>(s,ls)
 | .text t r,bg,s,ls=>qv r bg (s.one 1 t) ls
 | .hash r,bg,s,ls=>qv r bg (s.put 6 0 [] []) ls
 | .put n _ r,bg,s,ls=>qv r bg (s.one 2 n) ls
 | .num n _ r,bg,s,ls=>qv r bg (s.one 3 n) ls
 | .br n _ f o _ bs r,bg,s,ls =>
  if f=0 then
   let y:=qv bs (dO n bs s) (ky n bs s) []
   qv r bg (y.2.foldl (fun s i=>s.u7 i 0) y.1) ls
  else
   let y:=qv bs (jY n o bs s) (qH n o f bs s) []
   qv r bg ((y.2.foldl (fun s i=>s.u7 i 0) y.1).put 5 0 [] []) ls
 | .ug k _ m r,bg,s,ls =>
  let s1:=(qv m (fun _ s=>s) (bg k s) []).1
  qv r bg (s1.put 11 0 [] [0]) (ls++[s1.code.length])
def dD(m:Fo)(s:MkS):MkS:=(qv m (fun _ s=>s) s []).1
def start:MkS:=⟨[],[],0⟩
def all(m:Fo):MkS:=(dD m start).put 0 0 [] []
end MkS
def EqW(k:Wd):Prop:=k.tail≠[]/\k.tail.length<=9/\k.tail.all xF=true
def Fo.UN:Fo->Prop
 | .nil=>True
 | .text t r=>t.length<=5000000/\r.UN
 | .hash r=>r.UN
 | .put n _ r=>n.length<=16/\r.UN
 | .num n _ r=>n.length<=16/\r.UN
 | .br n _ f o _ bs r=>n.length<=16/\f<3/\xH o<=999999999/\bs.ux=true/\bs.keys.Nodup/\(∀ k∈bs.keys,k.length<=17/\(f≠0->k.head? = some 61->EqW k))/\bs.UN/\r.UN
 | .ug _ _ m r=>m.vD=true/\m.UN/\r.UN
def Fo.cw:Fo->Nat
 | .nil=>0
 | .text _ r=>5+r.cw
 | .hash r=>5+r.cw
 | .put _ _ r=>5+r.cw
 | .num _ _ r=>5+r.cw
 | .br _ _ _ _ _ bs r=>40+bs.cw+r.cw
 | .ug _ _ m r=>20+m.cw+r.cw
def Fo.gw:Fo->Nat
 | .ug _ _ m r=>5+m.cw+r.gw
 | _=>0
theorem Fo.Yu:∀ f:Fo,f.gw+15*f.keys.length<=f.cw
 | .ug k a m r=>by have:=Fo.Yu r;simp only[Fo.gw,Fo.keys,Fo.cw,zI];omega
 | .nil=>zj _
 | .text _ _=>zj _
 | .hash _=>zj _
 | .put _ _ _=>zj _
 | .num _ _ _=>zj _
 | .br _ _ _ _ _ _ _=>zj _
def MkS.le(s s':MkS):Prop:=∀ (i:Nat) (x:jf),s.code[i]? = some x->∃ y,s'.code[i]? = some y/\y.tg.length=x.tg.length
theorem MkS.le_refl(s:MkS):s.le s:=fun _ x h=>⟨x,h,rfl⟩
theorem MkS.le_trans{a b c:MkS}(h:a.le b)(k:b.le c):a.le c:=fun i x hx=>by
 obtain⟨y,h1,h2⟩:=h i x hx;obtain⟨z,h3,h4⟩:=k i y h1;exact⟨z,h3,h4.trans h2⟩
theorem MkS.UO(s:MkS)(t:Wd):s.le (s.const t):=fun i x hx=>⟨x,by rw[(vq s t).2.1];exact hx,rfl⟩
theorem MkS.bC(s:MkS)(op v:Nat)(k tg:List Nat):s.le (s.put op v k tg):=fun i x hx=>⟨x,by simp only[MkS.put];rw[List.getElem?_append_left (List.getElem?_eq_some_iff.1 hx).1];exact hx,rfl⟩
theorem MkS.Zk(s:MkS)(i j:Nat):s.le (s.u7 i j):=fun n x hx=>by
 simp only[MkS.u7];rw[List.getElem?_modify];by_cases h:i=n
 ·exact⟨{ x with tg:=x.tg.set j s.pos },by simp[h,hx],by simp⟩
 ·exact⟨x,by simp[h,hx],rfl⟩
theorem MkS.MI(s:MkS)(op:Nat)(t:Wd):s.le (s.one op t):=MkS.le_trans (s.UO t) (MkS.bC _ _ _ _ _)
theorem MkS.Gv{α:Type}(g:MkS->α->MkS)(hg:∀ (s:MkS) (a:α),s.le (g s a)):∀ (l:List α) (s:MkS),s.le (l.foldl g s)
 | [],s=>s.le_refl
 | a::l,s=>MkS.le_trans (hg s a) (MkS.Gv g hg l _)
theorem MkS.ZT{α:Type}(g:MkS->α->MkS)(hg:∀ (s:MkS) (a:α),(g s a).sz=s.sz):∀ (l:List α) (s:MkS),(l.foldl g s).sz=s.sz
 | [],s=>rfl
 | a::l,s=>(MkS.ZT g hg l _).trans (hg s a)
theorem MkS.Wp(ks:List Wd)(t:Nat)(key:Wd)(s:MkS):s.le (MkS.Hj ks t key s)/\(MkS.Hj ks t key s).sz=s.sz:=by
 refine⟨MkS.Gv _ (fun s c=>?_) _ s,MkS.ZT _ (fun s c=>?_) _ s⟩
 ·split
  ·exact s.Zk _ _
  ·exact s.le_refl
 ·split
  ·exact gJ _ _ _
  ·rfl
theorem MkS.C3(n:Wd)(bs:Fo)(s:MkS)(k:Wd)(x:MkS):x.le (MkS.dO n bs s k x)/\(MkS.dO n bs s k x).sz=x.sz:=⟨x.Zk _ _,gJ _ _ _⟩
theorem MkS.C4(n o:Wd)(bs:Fo)(s:MkS)(k:Wd)(x:MkS):x.le (MkS.jY n o bs s k x)/\(MkS.jY n o bs s k x).sz=x.sz:=by
 unfold MkS.jY;split
 ·exact⟨x.Zk _ _,gJ _ _ _⟩
 ·exact MkS.Wp _ _ _ _
theorem MkS.UP:∀ (f:Fo) (s:MkS) (acc:List Nat),s.le (MkS.kS f s acc).1/\(MkS.kS f s acc).1.sz<=s.sz+f.keys.length/\(MkS.kS f s acc).2.length<=acc.length+f.keys.length/\(MkS.kS f s acc).1.code=s.code/\(MkS.kS f s acc).1.pos=s.pos
 | .ug k _ _ r,s,acc=>by
  rw[MkS.kS];split
  ·obtain⟨a,b,c,d⟩:=MkS.UP r s acc;exact⟨a,by simp[Fo.keys];omega,by simp[Fo.keys];omega,d⟩
  ·obtain⟨a,b,c,d,e⟩:=MkS.UP r (s.const k) (acc++[s.num k]);obtain⟨z1,z2,z3⟩:=vq s k;exact⟨MkS.le_trans (s.UO k) a,by simp[Fo.keys];omega,by simp[Fo.keys] at c ⊢;omega,d.trans z2,e.trans z3⟩
 | .nil,s,acc=>⟨s.le_refl,z8 _,z8 _,rfl,rfl⟩
 | .text _ _,s,acc=>⟨s.le_refl,z8 _,z8 _,rfl,rfl⟩
 | .hash _,s,acc=>⟨s.le_refl,z8 _,z8 _,rfl,rfl⟩
 | .put _ _ _,s,acc=>⟨s.le_refl,z8 _,z8 _,rfl,rfl⟩
 | .num _ _ _,s,acc=>⟨s.le_refl,z8 _,z8 _,rfl,rfl⟩
 | .br _ _ _ _ _ _ _,s,acc=>⟨s.le_refl,z8 _,z8 _,rfl,rfl⟩
theorem MkS.C5:∀ (f:Fo) (s:MkS) (acc:List (Wd×Nat)),s.le (MkS.qJ f s acc).1/\(MkS.qJ f s acc).1.sz<=s.sz+8*f.keys.length
 | .ug k _ _ r,s,acc=>by
  rw[MkS.qJ];split
  ·obtain⟨a,b⟩:=MkS.C5 r (s.put 7 (xH k.tail) [] [0]) (acc++[(k,s.code.length)]);have:=ji s 7 (xH k.tail) [] [0];have hx:(uU ⟨7,s.pos,xH k.tail,[],[0]⟩).length=7:=by simp[uU,gR,j8,kh,Ys]
   exact⟨MkS.le_trans (s.bC _ _ _ _) a,by simp[Fo.keys];omega⟩
  ·obtain⟨a,b⟩:=MkS.C5 r s acc;exact⟨a,by simp[Fo.keys];omega⟩
 | .nil,s,acc=>⟨s.le_refl,z8 _⟩
 | .text _ _,s,acc=>⟨s.le_refl,z8 _⟩
 | .hash _,s,acc=>⟨s.le_refl,z8 _⟩
 | .put _ _ _,s,acc=>⟨s.le_refl,z8 _⟩
 | .num _ _ _,s,acc=>⟨s.le_refl,z8 _⟩
 | .br _ _ _ _ _ _ _,s,acc=>⟨s.le_refl,z8 _⟩
theorem Oc:∀ (k t:List Nat),(Fa k t).length=4*k.length+2
 | [],t=>by simp[Fa,kh]
 | a::k,t=>by simp[Fa,kh,Oc k t.tail];omega
theorem Oe(pos:Nat)(x:Nat)(k:List Nat)(t:List Nat):(uU ⟨10,pos,0,x::k,t⟩).length=7+4*k.length:=by
 simp[uU,gR,j8,kh,Oc];omega
theorem MkS.QA:∀ (f:Fo) (s:MkS) (x:Nat) (acc:List Nat),∃ y,(MkS.kS f s (x::acc)).2=x::y
 | .ug k _ _ r,s,x,acc=>by
  rw[MkS.kS];split
  ·exact MkS.QA r s x acc
  ·exact MkS.QA r (s.const k) x (acc++[s.num k])
 | .nil,s,x,acc=>⟨_,rfl⟩
 | .text _ _,s,x,acc=>⟨_,rfl⟩
 | .hash _,s,x,acc=>⟨_,rfl⟩
 | .put _ _ _,s,x,acc=>⟨_,rfl⟩
 | .num _ _ _,s,x,acc=>⟨_,rfl⟩
 | .br _ _ _ _ _ _ _,s,x,acc=>⟨_,rfl⟩
theorem MkS.C6(n:Wd)(bs:Fo)(s:MkS):s.le (MkS.ky n bs s)/\(MkS.ky n bs s).sz<=s.sz+9+5*bs.keys.length:=by
 obtain⟨a,b,c,d,e⟩:=MkS.UP bs (s.const n) [s.num n];obtain⟨y,hy⟩:=MkS.QA bs (s.const n) (s.num n) [];refine⟨MkS.le_trans (s.UO n) (MkS.le_trans a (MkS.bC _ _ _ _ _)),?_⟩;unfold MkS.ky MkS.gD;rw[ji,hy,Oe];rw[hy] at c;have:=(vq s n).1;simp at c;omega
theorem MkS.C7(n o:Wd)(f:Nat)(bs:Fo)(s:MkS):s.le (MkS.qH n o f bs s)/\(MkS.qH n o f bs s).sz<=s.sz+24+8*bs.keys.length:=by
 obtain⟨a,b⟩:=MkS.C5 bs ((s.const n).put 4 (xH o) [s.num n] []) [];refine⟨MkS.le_trans (s.UO n) (MkS.le_trans (MkS.bC _ _ _ _ _) (MkS.le_trans a (MkS.bC _ _ _ _ _))),?_⟩;unfold MkS.qH MkS.kE;have h1:=ji (s.const n) 4 (xH o) [s.num n] [];have h2:(uU ⟨4,(s.const n).pos,xH o,[s.num n],[]⟩).length=7:=by simp[uU,gR,j8,kh,Ys]
 have h3:∀ p,(uU ⟨if f=2 then 9 else 8,p,0,[],zV 6 0⟩).length=13:=fun p=>by split<;>simp[uU,gR,j8,kh]
 rw[ji,h3];have:=(vq s n).1;omega
theorem MkS.Qa(s:MkS)(op:Nat)(t:Wd)(h:op=1\/op=2\/op=3):(s.one op t).sz<=s.sz+5:=by
 unfold MkS.one;rw[ji];have:=(vq s t).1;have hx:(uU ⟨op,(s.const t).pos,0,[s.num t],[]⟩).length=3:=by rcases h with rfl|rfl|rfl<;>simp[uU,gR,j8,kh]
 omega
theorem MkS.go_le:∀ (f:Fo) (bg:Wd->MkS->MkS) (s:MkS) (ls:List Nat),(∀ k s,s.le (bg k s)/\(bg k s).sz=s.sz)->s.le (MkS.qv f bg s ls).1/\(MkS.qv f bg s ls).1.sz+15*f.keys.length<=s.sz+f.cw
 | .nil,bg,s,ls,hb=>⟨s.le_refl,z8 _⟩
 | .text t r,bg,s,ls,hb=>by
  obtain⟨a,b⟩:=MkS.go_le r bg (s.one 1 t) ls hb;have:=s.Qa 1 t (.inl rfl);exact⟨MkS.le_trans (s.MI _ _) a,by simp only[Fo.keys,Fo.cw,MkS.qv,zg];omega⟩
 | .hash r,bg,s,ls,hb=>by
  obtain⟨a,b⟩:=MkS.go_le r bg (s.put 6 0 [] []) ls hb;have:=ji s 6 0 [] [];have hx:(uU ⟨6,s.pos,0,[],[]⟩).length=1:=by simp[uU,gR,j8]
  exact⟨MkS.le_trans (s.bC _ _ _ _) a,by simp only[Fo.keys,Fo.cw,MkS.qv,zg];omega⟩
 | .put n _ r,bg,s,ls,hb=>by
  obtain⟨a,b⟩:=MkS.go_le r bg (s.one 2 n) ls hb;have:=s.Qa 2 n (.inr (.inl rfl));exact⟨MkS.le_trans (s.MI _ _) a,by simp only[Fo.keys,Fo.cw,MkS.qv,zg];omega⟩
 | .num n _ r,bg,s,ls,hb=>by
  obtain⟨a,b⟩:=MkS.go_le r bg (s.one 3 n) ls hb;have:=s.Qa 3 n (.inr (.inr rfl));exact⟨MkS.le_trans (s.MI _ _) a,by simp only[Fo.keys,Fo.cw,MkS.qv,zg];omega⟩
 | .br n _ f o _ bs r,bg,s,ls,hb=>by
  have TB:=fun (l:List Nat) (x:MkS)=>MkS.Gv (fun s i=>MkS.u7 s i 0) (fun s i=>s.Zk i 0) l x
  have VA:=fun (l:List Nat) (x:MkS)=>MkS.ZT (fun s i=>MkS.u7 s i 0) (fun s i=>gJ s i 0) l x
  rw[MkS.qv];split
  ·obtain⟨a,b⟩:=MkS.go_le bs (MkS.dO n bs s) (MkS.ky n bs s) [] (fun k x=>MkS.C3 n bs s k x);obtain⟨c,d⟩:=MkS.C6 n bs s;obtain⟨e,g⟩:=MkS.go_le r bg ((MkS.qv bs (MkS.dO n bs s) (MkS.ky n bs s) []).2.foldl (fun s i=>MkS.u7 s i 0) (MkS.qv bs (MkS.dO n bs s) (MkS.ky n bs s) []).1) ls hb;rw[VA] at g;exact⟨MkS.le_trans c (MkS.le_trans a (MkS.le_trans (TB _ _) e)),by simp only[Fo.keys,Fo.cw,zg];omega⟩
  ·obtain⟨a,b⟩:=MkS.go_le bs (MkS.jY n o bs s) (MkS.qH n o f bs s) [] (fun k x=>MkS.C4 n o bs s k x);obtain⟨c,d⟩:=MkS.C7 n o f bs s;obtain⟨e,g⟩:=MkS.go_le r bg (((MkS.qv bs (MkS.jY n o bs s) (MkS.qH n o f bs s) []).2.foldl (fun s i=>MkS.u7 s i 0) (MkS.qv bs (MkS.jY n o bs s) (MkS.qH n o f bs s) []).1).put 5 0 [] []) ls hb;rw[ji,VA] at g;have hx:∀ p,(uU ⟨5,p,0,[],[]⟩).length=1:=fun p=>by simp[uU,gR,j8]
   rw[hx] at g;exact⟨MkS.le_trans c (MkS.le_trans a (MkS.le_trans (TB _ _) (MkS.le_trans (MkS.bC _ _ _ _ _) e))),by simp only[Fo.keys,Fo.cw,zg];omega⟩
 | .ug k _ m r,bg,s,ls,hb=>by
  obtain⟨a,b⟩:=MkS.go_le m (fun _ s=>s) (bg k s) [] (fun _ s=>⟨s.le_refl,rfl⟩);obtain⟨c,d⟩:=MkS.go_le r bg ((MkS.qv m (fun _ s=>s) (bg k s) []).1.put 11 0 [] [0]) (ls++[(MkS.qv m (fun _ s=>s) (bg k s) []).1.code.length]) hb;rw[ji] at d;have hx:∀ p,(uU ⟨11,p,0,[],[0]⟩).length=3:=fun p=>by simp[uU,gR,j8,kh]
  rw[hx] at d;have:=(hb k s).2;exact⟨MkS.le_trans (hb k s).1 (MkS.le_trans a (MkS.le_trans (MkS.bC _ _ _ _ _) c)),by simp only[Fo.keys,Fo.cw,MkS.qv,zI];omega⟩
theorem ML(m:Fo)(s:MkS):s.le (MkS.dD m s)/\(MkS.dD m s).sz<=s.sz+m.cw:=by
 obtain⟨a,b⟩:=MkS.go_le m (fun _ s=>s) s [] (fun _ s=>⟨s.le_refl,rfl⟩);exact⟨a,by unfold MkS.dD;omega⟩
theorem xA{lo hi:Nat}{w0 W:World}(h:vQ lo hi w0 W){b j:Nat}{v:Value}(hc:w0.cell? ⟨b,j,none⟩=some v)(h1:lo<=b)(h2:b<hi):W.cell? ⟨b,j,none⟩=some v:=(h.cell (p:=⟨b,j,none⟩) h1 h2).trans hc
def Wr{σ:Type}(lo hi:Nat)(w0:World)(v:Value)(I:σ->Nat->World->Prop)(F:σ->Fo->Out σ)(f:Fo):Prop :=
 ∀ s room W a c vs,I s (room+f.cnt) W->VH lo hi w0 a vs->xY lo hi w0 vs f->Calls prog 49 #[.slice a f.len c,v] W (zz8 I room (ve F f s))
theorem RV{σ:Type}{lo hi:Nat}{w0:World}{v:Value}{I:σ->Nat->World->Prop}{F:σ->Fo->Out σ}(hy:MB lo hi w0 v I F)(f:Fo)(hm:f.vD=true)(hw:f.wf 2000000=true)(hl:f.len<=2000000)
  (ih:∀ m:Fo,zy m<zy f->m.vD=true->m.wf 2000000=true->m.len<=2000000->Wr lo hi w0 v I F m):Wr lo hi w0 v I F f:=by
 intro s room W a c vs hI vE kD;obtain⟨⟨k,cap,rfl,Bc,vF⟩,KE,C8,rD⟩:=hy;have VX:=z7 rD;obtain⟨L,hL⟩:∃ L,f.len=L:=⟨_,rfl⟩;rw[hL];have D5:vs.length=L:=(xY.count f vs kD hm).trans hL;obtain⟨R,hR⟩:∃ R,ve F f s=R:=⟨_,rfl⟩;rw[hR];have HI0:=z7 hI;have qV:=z7 vE;have Yz:=z7 kD;have HM:=z7 hm;have HW:=z7 hw;have HR:=z7 hR;have qU:=z7 vF;have Xv:=z7 KE;have yvj:=z7 C8;have mZ:=z7 ih;have C9:=z7 D5;have HL:=z7 hL;have hL2:L<=2000000:=by omega
 clear hI vE kD hm hw hR vF KE C8 rD ih D5 hl hL;go_enter func49,ntmps49;go_wp2_with fail;go_loopw [14] (fun iv wr=>∃ i us xs r s1,iv = .int .i64 (i:Nat)/\i<=L/\xY lo hi w0 xs r/\r.vD=true/\r.wf 2000000=true/\us.length=i/\vs=us++xs/\i+r.len=L/\zy r<=zy f/\I s1 (room+r.cnt) wr/\ve F r s1=R) (fun iv _=>L - (intOf iv).toNat)
 case atStart=>exact⟨0,[],vs,f,s,rfl,zj _,Yz.out,HM.out,HW.out,rfl,rfl,by have:=HL.out;omega,z8 _,HI0.out,HR.out⟩
 case round =>
  obtain⟨i,us,xs,r,s1,rfl,hiL,gO,rB,Eg,VY,rC,j5,qa,U8,V2⟩:=hrel;have HN:=z7 gO;have Qe:=z7 rB;have UR:=z7 Eg;have LW:=z7 rC;have Cz:=z7 VY;have Qi:=z7 U8;have fP:=z7 V2;clear gO rB Eg rC VY U8 V2;by_cases xC:i<L
  ·obtain⟨x0,xt,Oi⟩:∃ x0 xt,xs=x0::xt:=by
    cases xs with
    | nil=>have h1:=C9.out;rw[LW.out] at h1;have:=Cz.out;simp at h1;omega
    | cons a b=>exact⟨a,b,rfl⟩
   subst Oi;obtain⟨g,o,rfl,Y9,dV,vX⟩:=qV.out i (by have:=C9.out;omega);have Kl:vs[i]'(by have:=C9.out;omega)=x0:=by
    have h1:vs[i]? = some x0:=by rw[LW.out,←Cz.out];simp
    rw[zG (by have:=C9.out;omega)] at h1;exact zF h1
   rw[Kl] at vX;have qY:=xA (Xv.out _ _ wr Qi.out) vX Y9 dV;have k1:(i:Int)<(L:Int):=by omega
   have k2:decide ((i:Int)<(L:Int))=true:=by simp;omega
   have fS:=z7 qa;clear vX Kl qa
   cases r with
   | nil =>
    have:=HN.out
    cases this
   | ug k0 a0 m0 r0=>have:=Qe.out;cases this
   | text t r =>
    obtain⟨vt,he,gO⟩:=HN.out
    cases he;have e1:=Hv t;have e2:=Hu t;have e3:=MC t;have QU:=z7 gO;clear gO;have UR:=z7 (show r.wf 2000000=true from UR.out);have Qe:=z7 (show r.vD=true from Qe.out);have Yp:=z7 (show i+(r.len+1)=L from j5);have V8:=z7 (show ve F r s1=R from fP.out);have fS:=z7 (show zy r<=zy f by have:=fS.out;simp at this;omega);go_wp2;go_roundw
    case rel=>exact⟨i+1,us++[(.iface 262 (xk t))],_,r,s1,by simp,by omega,QU.out,Qe.out,UR.out,by simp[Cz.out],by rw[LW.out,zk];rfl,by have:=Yp.out;omega,by have:=fS.out;omega,Qi.out,V8.out⟩
    case measure=>simp only[intOf];omega
   | hash r =>
    obtain⟨vt,he,gO⟩:=HN.out
    cases he;have e1:=Hq;have e2:=Hk;have e3:=ME;have QU:=z7 gO;clear gO;have UR:=z7 (show r.wf 2000000=true from UR.out);have Qe:=z7 (show r.vD=true from Qe.out);have Yp:=z7 (show i+(r.len+1)=L from j5);have V8:=z7 (show ve F r s1=R from fP.out);have fS:=z7 (show zy r<=zy f by have:=fS.out;simp at this;omega);go_wp2;go_roundw
    case rel=>exact⟨i+1,us++[(.iface 264 (.agg #[]))],_,r,s1,by simp,by omega,QU.out,Qe.out,UR.out,by simp[Cz.out],by rw[LW.out,zk];rfl,by have:=Yp.out;omega,by have:=fS.out;omega,Qi.out,V8.out⟩
    case measure=>simp only[intOf];omega
   | put n a r =>
    obtain⟨vt,b0,he,xB,xD,gP,Va,gO⟩:=HN.out
    cases he;have LA:=xA (Xv.out _ _ wr Qi.out) gP xB xD;have Tr:=xA (Xv.out _ _ wr Qi.out) Va xB xD;have e1:=Gy b0;have QU:=z7 gO;have Zv:(decide (n.length<=4000001) && r.wf 2000000)=true:=UR.out;simp only[zY,decide_eq_true_eq] at Zv;have Ks:room+(Fo.put n a r).cnt=(room+r.cnt)+(Fo.put n a .nil).wt:=by simp only[Fo.cnt,Fo.wt];omega
    have Ws:=Qi.out;rw[Ks] at Ws;have TE:=z7 (qU.out s1 (room+r.cnt) wr (.put n a .nil) (.iface 172 (.pointer (some ⟨b0,0,none⟩))) n a Ws ⟨[],b0,rfl,xB,xD,gP,Va,rfl⟩ (by simp[Fo.wf,Zv.1]) rfl);have UR:=z7 Zv.2;clear gO Zv Ks Ws;have Qe:=z7 (show r.vD=true from Qe.out);have Yp:=z7 (show i+(r.len+1)=L from j5);have fS:=z7 (show zy r<=zy f by have:=fS.out;simp at this;omega);obtain⟨o1,D3⟩:∃ o1,F s1 (.put n a .nil)=o1:=⟨_,rfl⟩;have Y0:=fP.out;rw[ve,D3] at Y0;have JV:=z7 Y0.symm;rw[D3] at TE;clear D3 Y0 fP gP Va;go_wp2_with fail;refine TE.out.mono ?_;rintro e w2 hq
    cases o1 with
    | TC c s2 =>
     obtain⟨rfl,Be⟩:=hq;have V8:=z7 (show R = .TC c s2 from JV.out);go_wp2;refine⟨rfl,?_⟩;rw[V8.out];exact⟨rfl,VX.out _ _ _ _ Be (by omega)⟩
    | go b s2 =>
     obtain⟨rfl,Be⟩:=hq;have MM:=z7 Be;clear Be
     cases b with
     | false =>
      have V8:=z7 (show R = .go false s2 from JV.out);go_wp2;go_ret;rw[V8.out];exact⟨rfl,VX.out _ _ _ _ MM.out (by omega)⟩
     | true =>
      have V8:=z7 (show ve F r s2=R from JV.out.symm);go_wp2;go_roundw
      case rel=>exact⟨i+1,us++[(.iface 172 (.pointer (some ⟨b0,0,none⟩)))],_,r,s2,by simp,by omega,QU.out,Qe.out,UR.out,by simp[Cz.out],by rw[LW.out,zk];rfl,by have:=Yp.out;omega,by have:=fS.out;omega,MM.out,V8.out⟩
      case measure=>simp only[intOf];omega
   | num n a r =>
    obtain⟨vt,b0,he,xB,xD,gP,Va,gO⟩:=HN.out
    cases he;have LA:=xA (Xv.out _ _ wr Qi.out) gP xB xD;have Tr:=xA (Xv.out _ _ wr Qi.out) Va xB xD;have e1:=Gx b0;have e2:=VW b0;have QU:=z7 gO;have Zv:(decide (n.length<=4000001) && r.wf 2000000)=true:=UR.out;simp only[zY,decide_eq_true_eq] at Zv;have Ks:room+(Fo.num n a r).cnt=(room+r.cnt)+(Fo.num n a .nil).wt:=by simp only[Fo.cnt,Fo.wt];omega
    have Ws:=Qi.out;rw[Ks] at Ws;have TE:=z7 (qU.out s1 (room+r.cnt) wr (.num n a .nil) (.iface 175 (.pointer (some ⟨b0,0,none⟩))) n a Ws ⟨[],b0,rfl,xB,xD,gP,Va,rfl⟩ (by simp[Fo.wf,Zv.1]) rfl);have UR:=z7 Zv.2;clear gO Zv Ks Ws;have Qe:=z7 (show r.vD=true from Qe.out);have Yp:=z7 (show i+(r.len+1)=L from j5);have fS:=z7 (show zy r<=zy f by have:=fS.out;simp at this;omega);obtain⟨o1,D3⟩:∃ o1,F s1 (.num n a .nil)=o1:=⟨_,rfl⟩;have Y0:=fP.out;rw[ve,D3] at Y0;have JV:=z7 Y0.symm;rw[D3] at TE;clear D3 Y0 fP gP Va;go_wp2_with fail;refine TE.out.mono ?_;rintro e w2 hq
    cases o1 with
    | TC c s2 =>
     obtain⟨rfl,Be⟩:=hq;have V8:=z7 (show R = .TC c s2 from JV.out);go_wp2;refine⟨rfl,?_⟩;rw[V8.out];exact⟨rfl,VX.out _ _ _ _ Be (by omega)⟩
    | go b s2 =>
     obtain⟨rfl,Be⟩:=hq;have MM:=z7 Be;clear Be
     cases b with
     | false =>
      have V8:=z7 (show R = .go false s2 from JV.out);go_wp2;go_ret;rw[V8.out];exact⟨rfl,VX.out _ _ _ _ MM.out (by omega)⟩
     | true =>
      have V8:=z7 (show ve F r s2=R from JV.out.symm);go_wp2;go_roundw
      case rel=>exact⟨i+1,us++[(.iface 175 (.pointer (some ⟨b0,0,none⟩)))],_,r,s2,by simp,by omega,QU.out,Qe.out,UR.out,by simp[Cz.out],by rw[LW.out,zk];rfl,by have:=Yp.out;omega,by have:=fS.out;omega,MM.out,V8.out⟩
      case measure=>simp only[intOf];omega
   | br n a fo of cl bs r =>
    obtain⟨vt,b0,ba,bc,ws,he,xB,xD,gP,Va,jD,La,DW,Lc,Ql,Uy,gO⟩:=HN.out
    cases he;have LA:=xA (Xv.out _ _ wr Qi.out) gP xB xD;have Tr:=xA (Xv.out _ _ wr Qi.out) Va xB xD;have e1:=DS b0;have e2:=QT b0;have e3:=UM b0;have QU:=z7 gO;have mY:=z7 Uy;have Le:=z7 Ql;have Zv:(decide (n.length<=4000001) && decide (fo<3) && bs.ux && decide (bs.len<=2000000) && bs.wf 2000000 && r.wf 2000000)=true:=UR.out;simp only[zY,decide_eq_true_eq] at Zv;obtain⟨⟨⟨⟨⟨hnl,KB⟩,Wy⟩,Hg⟩,qG⟩,zbj⟩:=Zv;have Ks:room+(Fo.br n a fo of cl bs r).cnt=(room+r.cnt+bs.cnt)+(Fo.br n a fo of cl bs .nil).wt:=by simp only[Fo.cnt,Fo.wt];omega
    have Ws:=Qi.out;rw[Ks] at Ws;have TE:=z7 (qU.out s1 (room+r.cnt+bs.cnt) wr (.br n a fo of cl bs .nil) (.iface 177 (.pointer (some ⟨b0,0,none⟩))) n a Ws ⟨[],b0,ba,bc,ws,rfl,xB,xD,gP,Va,jD,La,DW,Lc,Ql,Uy,rfl⟩ (by simp[Fo.wf,hnl,KB,Wy,Hg,qG]) rfl);have HC4:=z7 DW;have UR:=z7 zbj;have HBL:=z7 Wy;have US:=z7 qG;have Qe:=z7 (show r.vD=true from Qe.out);have Yp:=z7 (show i+(r.len+1)=L from j5);have fS:=z7 (show zy r<=zy f/\zy bs<zy f by have:=fS.out;simp at this;omega);obtain⟨o1,D3⟩:∃ o1,F s1 (.br n a fo of cl bs .nil)=o1:=⟨_,rfl⟩;have Y0:=fP.out;rw[ve,D3] at Y0;have JV:=z7 Y0.symm;rw[D3] at TE;clear D3 Y0 fP gP Va jD La DW Lc Ql Uy gO zbj Wy qG Ks Ws;go_wp2_with fail;refine TE.out.mono ?_;rintro e w2 hq
    cases o1 with
    | TC c s2 =>
     obtain⟨rfl,Be⟩:=hq;have V8:=z7 (show R = .TC c s2 from JV.out);go_wp2;refine⟨rfl,?_⟩;rw[V8.out];exact⟨rfl,VX.out _ _ _ _ Be (by omega)⟩
    | go b s2 =>
     obtain⟨rfl,Be⟩:=hq;have MM:=z7 Be;clear Be
     cases b with
     | false =>
      have V8:=z7 (show R = .go false s2 from JV.out);go_wp2;go_ret;rw[V8.out];exact⟨rfl,VX.out _ _ _ _ MM.out (by omega)⟩
     | true =>
      have V8:=z7 (show(ve F bs s2).then (fun s=>ve F r s)=R from JV.out.symm);have hh4:=xA (Xv.out _ _ w2 MM.out) HC4.out xB xD;clear LA Tr qY TE JV Qi;go_wp2_with fail;go_loopw [60] (fun iv wq=>∃ i2 us2 xs2 r2 s3,iv = .int .i64 (i2:Nat)/\i2<=bs.len/\xY lo hi w0 xs2 r2/\r2.ux=true/\r2.wf 2000000=true/\us2.length=i2*3/\ws=us2++xs2/\i2+r2.len=bs.len/\zy r2<=zy bs/\I s3 (room+r.cnt+r2.cnt) wq/\(ve F r2 s3).then (fun s=>ve F r s)=R) (fun iv _=>bs.len - (intOf iv).toNat)
      case atStart=>exact⟨0,[],ws,bs,s2,rfl,zj _,mY.out,HBL.out,US.out,rfl,rfl,by omega,z8 _,MM.out,V8.out⟩
      case round =>
       obtain⟨i2,us2,xs2,r2,s3,rfl,yr4,zbf,zbd,zbb,za0,za1,MN,QR,wo,QP⟩:=hrel;have iM:=z7 zbf;have Vc:=z7 zbd;have zzz:=z7 zbb;have Hf:=z7 za1;have D6:=z7 za0;have Wt:=z7 wo;have ED:=z7 QP;have yvf:=z7 QR;have Wh:=z7 MN;clear zbf zbd zbb za1 za0 wo QP QR;by_cases Z1:i2<bs.len
       ·cases r2 with
        | nil=>exfalso;simp[Fo.len] at MN;omega
        | text t r=>have:=Vc.out;cases this
        | hash r=>have:=Vc.out;cases this
        | put n a r=>have:=Vc.out;cases this
        | num n a r=>have:=Vc.out;cases this
        | br n a fo of cl bs r=>have:=Vc.out;cases this
        | ug k0 a0 m0 r0 =>
         obtain⟨Ol,ma,mc,ms,Cy,Xu,Ww,UT⟩:=iM.out;subst Cy;have rE:ws.length=us2.length+(Ol.length+3):=by rw[Hf.out];simp
         have U9:∀ j v,[xk k0,.int .i64 (a0:Nat),.slice ma m0.len mc][j]? = some v->∃ (h:i2*3+j<ws.length),ws[i2*3+j]=v:=by
          intro j v hj;have hj3:j<3:=by
           apply Classical.byContradiction;intro hc;rw[List.getElem?_eq_none (by simp;omega)] at hj
           cases hj
          refine⟨by have:=D6.out;omega,?_⟩;have h1:ws[i2*3+j]? = some v:=by
           rw[Hf.out,←D6.out,List.getElem?_append_right (by omega),Nat.add_sub_cancel_left,←hj];match j,hj3 with
           | 0,_=>rfl
           | 1,_=>rfl
           | 2,_=>rfl
          rw[zG (by have:=D6.out;omega)] at h1;exact zF h1
         obtain⟨q0,p0⟩:=U9 0 _ rfl;obtain⟨q1,p1⟩:=U9 1 _ rfl;obtain⟨q2,p2⟩:=U9 2 _ rfl;obtain⟨g2,o2,rfl,MO,MP,d0⟩:=Le.out (i2*3+0) q0;obtain⟨mX,o2',hgg,_,_,d1⟩:=Le.out (i2*3+1) q1
         cases hgg;obtain⟨mX,o2',hgg,_,_,d2⟩:=Le.out (i2*3+2) q2
         cases hgg;rw[p0] at d0;rw[p1] at d1;rw[p2] at d2;have c0:=xA (Xv.out _ _ wr Wt.out) d0 MO MP;have c1:=xA (Xv.out _ _ wr Wt.out) d1 MO MP;have c2:=xA (Xv.out _ _ wr Wt.out) d2 MO MP;simp only[Nat.add_zero,←Nat.add_assoc] at c0 c1 c2;have yvb:=z7 Xu;have yu0:=z7 Ww;have mV:=z7 UT;have k3:(i2:Int)<(bs.len:Int):=by omega
         have k4:decide ((i2:Int)<(bs.len:Int))=true:=by simp;omega
         clear Xu Ww UT d0 d1 d2 p0 p1 p2 U9;have A1:(decide (k0.length<=4000001) && m0.vD && decide (m0.len<=2000000) && m0.wf 2000000 && r0.wf 2000000)=true:=zzz.out;simp only[zY,decide_eq_true_eq] at A1;obtain⟨⟨⟨⟨_,Vf⟩,jC⟩,KV⟩,KX⟩:=A1;have D7:zy m0<zy f/\zy r0<=zy bs:=by have:=fS.out;have:=yvf.out;simp at this;omega
         have HEC:=z7 (mZ.out m0 D7.1 Vf KV jC s3 (room+r.cnt+r0.cnt) (wr.alloc (.cells #[xk k0,.int .i64 (a0:Nat),.slice ma m0.len mc] 183)) ma mc ms (yvj.out s3 _ wr _ (by have:=Wt.out;rw[show room+r.cnt+(Fo.ug k0 a0 m0 r0).cnt=room+r.cnt+r0.cnt+m0.cnt from by simp only[Fo.cnt];omega] at this;exact this) ((zf _ _).alloc (z8 _) _)) yvb.out yu0.out);have HSS:=z7 D7.2;have mU:=z7 KX;have mQ:=z7 (show r0.ux=true from Vc.out);have mJ:=z7 (show i2+(r0.len+1)=bs.len from Wh.out);obtain⟨oo,hoo⟩:∃ oo,ve F m0 s3=oo:=⟨_,rfl⟩;have DG:=ED.out;rw[ve,hoo] at DG;have JV:=z7 DG.symm;rw[hoo] at HEC;clear hoo DG Vf jC KV KX D7;go_wp2_with fail;refine HEC.out.mono ?_;rintro e w3 hq
         cases oo with
         | TC c s4 =>
          obtain⟨rfl,hi4⟩:=hq;have V8:=z7 (show R = .TC c s4 from JV.out);go_wp2;refine⟨rfl,?_⟩;rw[V8.out];exact⟨rfl,VX.out _ _ _ _ hi4 (by omega)⟩
         | go b s4 =>
          obtain⟨rfl,hi4⟩:=hq;have za2:=z7 hi4;clear hi4
          cases b with
          | false =>
           have V8:=z7 (show R = .go false s4 from JV.out);go_wp2;go_ret;rw[V8.out];exact⟨rfl,VX.out _ _ _ _ za2.out (by omega)⟩
          | true =>
           have V8:=z7 (show(ve F r0 s4).then (fun s=>ve F r s)=R from JV.out.symm);go_wp2;go_roundw
           case rel=>exact⟨i2+1,us2++[xk k0,.int .i64 (a0:Nat),.slice ma m0.len mc],Ol,r0,s4,by simp,by omega,mV.out,mQ.out,mU.out,by have:=D6.out;simp;omega,by rw[Hf.out,zk];rfl,by have:=mJ.out;omega,HSS.out,za2.out,V8.out⟩
           case measure=>simp only[intOf];omega
       ·have k4:decide ((i2:Int)<(bs.len:Int))=false:=by simp;omega
        have vu:r2 = .nil:=by
         have:=Vc.out
         cases r2<;>simp[Fo.len] at MN<;>first|rfl|omega
        have HRY:=z7 (show ve F r s3=R by rw[←ED.out,vu];rfl);have fS:=z7 fS.out.1;go_wp2;go_roundw
        case rel=>exact⟨i+1,us++[(.iface 177 (.pointer (some ⟨b0,0,none⟩)))],_,r,s3,by simp,by omega,QU.out,Qe.out,UR.out,by simp[Cz.out],by rw[LW.out,zk];rfl,by have:=Yp.out;omega,by have:=fS.out;omega,VX.out _ _ _ _ Wt.out (by omega),HRY.out⟩
        case measure=>simp only[intOf];omega
  ·have k2:decide ((i:Int)<(L:Int))=false:=by simp;omega
   have vu:r = .nil:=by
    cases r<;>simp[Fo.len] at j5<;>first|rfl|omega
   have V8:=z7 (show R = .go true s1 by rw[←fP.out,vu];rfl);go_wp2;go_ret;rw[V8.out];exact⟨rfl,VX.out _ _ _ _ Qi.out (by omega)⟩
theorem Hd{σ:Type}{lo hi:Nat}{w0:World}{v:Value}{I:σ->Nat->World->Prop}{F:σ->Fo->Out σ}(hy:MB lo hi w0 v I F):∀ (n:Nat) (f:Fo),zy f<n->f.vD=true->f.wf 2000000=true->f.len<=2000000->Wr lo hi w0 v I F f
 | 0,f,h,_,_,_=>absurd h (Nat.not_lt_zero _)
 | n+1,f,h,hm,hw,hl=>RV hy f hm hw hl fun m h1 h2 h3 h4=>Hd hy n m (by omega) h2 h3 h4
end Go.Proofs.YthpldolmpinnhaaGreatDoor
