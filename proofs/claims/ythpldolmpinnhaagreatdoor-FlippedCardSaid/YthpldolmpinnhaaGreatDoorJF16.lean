import Derived.Test.YthpldolmpinnhaaGreatDoorJF15
import Derived.Test.YthpldolmpinnhaaGreatDoorShelf
import Derived.Recover
import Derived.WalkSmall
import Derived.Laws.IdiomStrings
set_option maxHeartbeats 64000000
open Go.Lib renaming hid→z7,Utf8Tabs→zH
open Nat renaming le_refl→z8,zero_le→zj
open SizeOf renaming sizeOf→zy
open Go.Instr renaming typeAssert→zx
open Go.Addr renaming block→zv
open Go.World renaming frozen?_setCell→zu,block_lt_of_cell?→zZ,frozen?_of_block→zX,cell?_of_block→zD,cell?_alloc_lt→zE
open List renaming append_assoc→zk,length_nil→zg,replicate→zV,length_pos_iff→zU,eq_nil_of_length_eq_zero→zQ,getElem?_eq_getElem→zG,length_cons→zI,drop_zero→zL
open Go.RowKit.Below renaming refl→zf
open Bool renaming and_eq_true→zY
open ByteArray renaming size_extract→zJ
open Option.some renaming inj→zF
open Go.Proofs.Tryz
namespace Go.Proofs.YthpldolmpinnhaaGreatDoor
open Go Go.RowKit
set_option maxRecDepth 10000
theorem SF{w W:World}(h:zH 3 4 w)(hb:Below w.heap.size w W):zH 3 4 W:=by
 have lt:∀ (a:Addr) (v:Value),w.cell? a=some v->a.block<w.heap.size:=fun a v h=>zZ w a h
 refine⟨fun c hc=>?_,fun i hi=>⟨?_,?_⟩⟩
 ·rw[hb.cell (lt _ _ (h.1 c hc))];exact h.1 c hc
 ·rw[hb.cell (lt _ _ (h.2 i hi).1)];exact(h.2 i hi).1
 ·rw[hb.cell (lt _ _ (h.2 i hi).2)];exact(h.2 i hi).2
theorem CP(b:Nat)(w:World):(zx (.iface 101 (.pointer (some ⟨b,0,none⟩))) 20 101 true).run prog w = .ok (.tuple #[.pointer (some ⟨b,0,none⟩),.bool true]) w:=by rfl
theorem IB(w:World):(zx .nilIface 20 101 true).run prog w = .ok (.tuple #[.pointer none,.bool false]) w:=by rfl
theorem NM(A B:Nat)(w:World):CallsD prog 109 #[.pointer (some ⟨A,0,none⟩),.pointer (some ⟨B,0,none⟩)] .returning w fun e u' w'=>e = .returned (.tuple #[])/\u' = .returning/\w'=w:=by
 refine callsD_of_wpS func109 rfl fun c₀ cs hu=>?_
 have ha:=IB;apply wpS_seq;apply wpS_region;simp[wpOpsS,go_sem,recoverD,hu,ha,ntmps109,Exit.thenS];refine wpS_of_wp ?_;go_wp2
 cases c₀;simp_all [bodyPostS,results,results109]
theorem ZJ(A B b:Nat)(u v:Value)(uE:List PanicEntry)(w:World)(hA:w.cell? ⟨A,0,none⟩=some u)(hAz:w.frozen? ⟨A,0,none⟩=false)(hB:w.cell? ⟨B,0,none⟩=some v)(hBz:w.frozen? ⟨B,0,none⟩=false)(hAB:B≠A) :
  CallsD prog 109 #[.pointer (some ⟨A,0,none⟩),.pointer (some ⟨B,0,none⟩)] (.panicking ({ v := .iface 101 (.pointer (some ⟨b,0,none⟩)),recovered:=false }::uE)) w fun e u' w' =>
   e = .returned (.tuple #[])/\u' = .panicking ({ v := .iface 101 (.pointer (some ⟨b,0,none⟩)),recovered:=true }::uE)/\w'=(w.setCell ⟨A,0,none⟩ (.slice none 0 0)).setCell ⟨B,0,none⟩ (.iface 101 (.pointer (some ⟨b,0,none⟩))):=by
 have ha:=CP b;refine callsD_of_wpS func109 rfl fun c₀ cs hu=>?_
 apply wpS_seq;apply wpS_region;simp[wpOpsS,go_sem,recoverD,hu,ha,ntmps109,Exit.thenS];refine wpS_of_wp ?_;simp only[Array.replicate,zV,List.setIfInBounds_toArray,List.set_cons_zero,List.set_cons_succ,List.append_toArray,List.cons_append,List.nil_append,Act.put];have hB':(w.setCell ⟨A,0,none⟩ (.slice none 0 0)).cell? ⟨B,0,none⟩=some v:=by rw[xg,if_neg (fun e=>hAB (congrArg zv e).symm)];exact hB
 go_wp2;simp[bodyPostS,results,results109]
def uJ(l:List UInt8):Except (Nat×Nat) Fo :=
 if 1000<l.length then .error (1,0)
 else if (uH l).2<l.length then .error (2,(uH l).1.length)
 else match YU (xm l) with | .error e => .error e | .ok x => .ok x.1
def zu4(r:Except (Nat×Nat) Fo)(w:World)(e:Ending)(w':World):Prop :=
 (match r with
  | .error (n,a)=>∃ b,e = .returned (.tuple #[.slice none 0 0,.iface 101 (.pointer (some ⟨b,0,none⟩))])/\w'.cell? ⟨b,0,none⟩=some (.int .i64 n)/\w'.cell? ⟨b,1,none⟩=some (.int .i64 a)
  | .ok f=>(∃ a c vs,e = .returned (.tuple #[.slice a f.len c,.nilIface])/\U5 w.heap.size w'.heap.size w' a vs/\xY w.heap.size w'.heap.size w' vs f)/\f.vG=true)/\Below w.heap.size w w'
structure qp(A:Nat)(u v:Value)(w:World):Prop where
 c0:w.cell? ⟨A,0,none⟩=some u
 c1:w.cell? ⟨A+1,0,none⟩=some v
 z0:w.frozen? ⟨A,0,none⟩=false
 z1:w.frozen? ⟨A+1,0,none⟩=false
theorem qp.keep{A:Nat}{u v:Value}{w w':World}(h:qp A u v w)(hb:∀ k,k=A\/k=A+1->w'.heap[k]? = w.heap[k]?):qp A u v w' :=
 ⟨(zD (a:=⟨A,0,none⟩) (hb A (.inl rfl))).trans h.c0,(zD (a:=⟨A+1,0,none⟩) (hb _ (.inr rfl))).trans h.c1,
  (zX (a:=⟨A,0,none⟩) (hb A (.inl rfl))).trans h.z0,(zX (a:=⟨A+1,0,none⟩) (hb _ (.inr rfl))).trans h.z1⟩
theorem qp.lt{A:Nat}{u v:Value}{w:World}(h:qp A u v w):A+1<w.heap.size:=zZ w _ h.c1
theorem qp.below{A:Nat}{u v:Value}{w w':World}(h:qp A u v w)(hb:Below w.heap.size w w'):qp A u v w' :=
 h.keep fun k hk=>hb.block k (by have:=h.lt;omega)
theorem qp.but{A p:Nat}{u v:Value}{w w':World}(h:qp A u v w)(hb:xP p w w')(hp:A+1<p):qp A u v w' :=
 h.keep fun k hk=>hb.block k (by have:=h.lt;omega) (by omega)
theorem qp.X3{A:Nat}{u v x:Value}{w:World}(h:qp A u v w):qp A x v (w.setCell ⟨A,0,none⟩ x) :=
 ⟨by rw[xg,if_pos rfl,h.c0];rfl,by rw[xg,if_neg (by simp)];exact h.c1,by rw[zu];exact h.z0,by rw[zu];exact h.z1⟩
theorem qp.CR{A:Nat}{u v x:Value}{w:World}(h:qp A u v w):qp A u x (w.setCell ⟨A+1,0,none⟩ x) :=
 ⟨by rw[xg,if_neg (by simp)];exact h.c0,by rw[xg,if_pos rfl,h.c1];rfl,by rw[zu];exact h.z0,by rw[zu];exact h.z1⟩
theorem vK.ygq{p A:Nat}{rs:List Int}{i d:Nat}{w:World}{a:Option Addr}{n c:Nat}(h:vK p rs i d w)(hA:w.cell? ⟨A,0,none⟩=some (.slice a n c))(xc:A≠p)(u:Value):vK p rs i d (w.setCell ⟨A,0,none⟩ u):=by
 obtain⟨⟨g,cap,h0,h1,h2,h3,h4⟩,h5,h6,h7,h8,h9,dw,Jc,Gj⟩:=h;have ne:∀ k:Nat,¬(⟨A,0,none⟩:Addr)=⟨p,k,none⟩:=fun k e=>xc (congrArg zv e)
 refine⟨⟨g,cap,by rw[xg,if_neg (ne 0)];exact h0,h1,h2,h3,fun j hj=>?_⟩,by rw[xg,if_neg (ne 1)];exact h5,by rw[xg,if_neg (ne 2)];exact h6,by rw[zu];exact h7,by rw[zu];exact h8,h9,dw,Jc,Gj⟩;rw[xg,if_neg (fun e=>by have:=h4 j hj;rw[←e,hA] at this;cases this)];exact h4 j hj
theorem vo{a w:World}{B b:Nat}{x:Value}{j:Nat}(h:Below B a w)(hb:B<=b):Below B a (w.setCell ⟨b,j,none⟩ x) :=
 ⟨h.os,h.tape,h.output,Nat.le_trans h.size (by simp[World.setCell]),fun k hk=>(Below.heap_setCell _ _ _ _ (by show k≠b;omega)).trans (h.block k hk)⟩
theorem Ap(l:List UInt8):∀ r∈xm l,0<=r:=by
 have key:∀ (n:Nat) (l:List UInt8),l.length<=n->∀ r∈xm l,0<=r:=by
  intro n;induction n with
  | zero =>
   intro l h r hr;have:l=[]:=zQ (by omega);subst this;rw[jr] at hr
   cases hr
  | succ n ih =>
   intro l h r hr;by_cases h0:l=[]\/xh l=0
   ·rw[xm,dif_pos h0] at hr
    cases hr
   ·have h1:l≠[]:=fun e=>h0 (.inl e)
    have h2:xh l≠0:=fun e=>h0 (.inr e)
    rw[dY h1 h2] at hr;rcases List.mem_cons.1 hr with q|q
    ·omega
    ·exact ih _ (by have:=zU.2 h1;simp;omega) r q
 exact key _ l (z8 _)
theorem Vd(l:List UInt8):(xm l).length<=l.length:=by
 have key:∀ (n:Nat) (l:List UInt8),l.length<=n->(xm l).length<=l.length:=by
  intro n;induction n with
  | zero =>
   intro l h;have:l=[]:=zQ (by omega);subst this;rw[jr];simp
  | succ n ih =>
   intro l h;by_cases h0:l=[]\/xh l=0
   ·rw[xm,dif_pos h0];simp
   ·have h1:l≠[]:=fun e=>h0 (.inl e)
    have h2:xh l≠0:=fun e=>h0 (.inr e)
    rw[dY h1 h2];have:=ih (l.drop (xh l)) (by have:=zU.2 h1;simp;omega);have:=zU.2 h1;simp at *;omega
 exact key _ l (z8 _)
theorem IC(w:World){A:Nat}(hA:w.heap.size=A):qp A (.slice none 0 0) .nilIface ((w.alloc (.cells #[.slice none 0 0] 107)).alloc (.cells #[.nilIface] 73)):=by
 have h1:(w.alloc (.cells #[.slice none 0 0] 107)).heap.size=A+1:=by simp[hA]
 have xD:A<(w.alloc (.cells #[.slice none 0 0] 107)).heap.size:=by omega
 refine⟨?_,?_,?_,?_⟩
 ·rw[zE _ _ _ xD,←hA];exact xu _ _ _ _ _
 ·rw[←h1];exact xu _ _ _ _ _
 ·rw[zX (Below.heap_alloc _ _ _ xD)];subst hA;simp
 ·rw[←h1];simp
theorem SD(s:ByteArray)(w:World)(hs:s.size<=9223372036854775807)(hT:zH 3 4 w)(hN:qd w) :
  Calls prog 78 #[.string s] w (zu4 (uJ s.data.toList) w):=by
 have Sk:∀ (fn:Fn) (first cap:Array Value) (w:World),(Instr.makeFunc fn first cap).run prog w = .ok (.func fn first cap) w:=fun _ _ _ _=>rfl
 have HT:=z7 hT;have HNA:=z7 hN;obtain⟨A,hA⟩:=xX w.heap.size;have HA:=z7 hA;clear hT hN;by_cases wK:1000<s.size
 ·have h1:decide ((1000:Int)<(s.size:Int))=true:=by simp;omega
  have h2:decide (1000<s.size)=true:=by simp;omega
  have HR:=z7 (show uJ s.data.toList = .error (1,0) by unfold uJ;rw[xA,if_pos wK]);clear wK;go_enter_defers func78,ntmps78
  go_wp2;obtain⟨W,hW⟩:=xX (((w.alloc (.cells #[.slice none 0 0] 107)).alloc (.cells #[.nilIface] 73)).alloc (.cells #[.int .i64 1,.int .i64 0] 105));rw[hW];have Zs:qp A (.slice none 0 0) .nilIface W:=by
   rw[←hW];exact(IC w hA).below ((zf _ _).alloc (z8 _) _)
  have jC:Below A w W:=by
   rw[←hW,←hA];exact((((zf _ _).alloc (z8 _) _).alloc (by simp) _).alloc (by simp;omega) _)
  have hc:=fun i=>xu ((w.alloc (.cells #[.slice none 0 0] 107)).alloc (.cells #[.nilIface] 73)) #[.int .i64 1,.int .i64 0] 105 (0,0) i
  rw[hW,show((w.alloc (.cells #[.slice none 0 0] 107)).alloc (.cells #[.nilIface] 73)).heap.size=A+1+1 by simp[hA]] at hc;clear hW;obtain⟨bf,JD⟩:=xX (A+1+1);rw[JD] at hc ⊢;clear JD;refine leaves_cons (f:=109) (args:=#[.pointer (some ⟨A,0,none⟩),.pointer (some ⟨A+1,0,none⟩)]) (by simp) (by simp[go_sem]) ?_;refine(ZJ A (A+1) _ _ _ _ _ Zs.c0 Zs.z0 Zs.c1 Zs.z1 (by omega)).mono ?_;rintro e u' Vx ⟨rfl,rfl,rfl⟩;have vV:=(Zs.X3 (x := .slice none 0 0)).CR (x := .iface 101 (.pointer (some ⟨bf,0,none⟩)));have Ux:=vV.c0;have SB:=vV.c1;simp[Leaves,settle,results,results78,go_sem,Ux,SB];have hF:=HR.out;rw[hF];have Ar:bf≠A:=fun e=>by have h1:=(hc 0);rw[e,Zs.c0] at h1;cases h1
  have At:bf≠A+1:=fun e=>by have h1:=(hc 0);rw[e,Zs.c1] at h1;cases h1
  exact⟨⟨bf,rfl,by rw[xg,if_neg (fun e=>At (congrArg zv e).symm),xg,if_neg (fun e=>Ar (congrArg zv e).symm)];exact(hc 0),by rw[xg,if_neg (fun e=>At (congrArg zv e).symm),xg,if_neg (fun e=>Ar (congrArg zv e).symm)];exact(hc 1)⟩,by rw[HA.out];exact vo (vo jC (by omega)) (by omega)⟩
 ·have h1:decide ((1000:Int)<(s.size:Int))=false:=by simp;omega
  have h2:decide (1000<s.size)=false:=by simp;omega
  go_enter_defers func78,ntmps78
  have Zs:=IC w hA;have NN:Below A w ((w.alloc (.cells #[.slice none 0 0] 107)).alloc (.cells #[.nilIface] 73)):=by
   rw[←hA];exact((zf _ _).alloc (z8 _) _).alloc (by simp) _
  have zl1:((w.alloc (.cells #[.slice none 0 0] 107)).alloc (.cells #[.nilIface] 73)).heap.size=A+1+1:=by simp[hA]
  obtain⟨W0,Hz⟩:=xX ((w.alloc (.cells #[.slice none 0 0] 107)).alloc (.cells #[.nilIface] 73));rw[Hz] at Zs NN zl1;have HW0:=z7 Hz;clear Hz;obtain⟨I,hI⟩:=xX (A+1+1);have HI:=z7 hI;have xuz:s.size<=1000:=by omega
  go_wp2_with fail;clear hI;go_loopw [] (fun wr=>∃ k pre,k<=s.size/\wr.heap[I]? = some (.stringIter s k)/\Below A w wr/\qp A (.slice none 0 0) .nilIface wr/\uH s.data.toList=(pre++(uH (s.data.toList.drop k)).1,k+(uH (s.data.toList.drop k)).2)) (fun wr=>s.size - wr.iterPos I)
  case atStart =>
   rw[HW0.out];refine⟨0,[],zj _,?_,NN.alloc (by omega) _,Zs.below ((zf _ _).alloc (z8 _) _),by simp⟩;rw[←HI.out,←zl1];exact World.iter_heap W0 s 0
  case round =>
   obtain⟨k,pre,hk,hit,qG,vV,oR⟩:=hrel;have HP:=z7 oR;have SC:=z7 vV;have HB:=z7 qG;have HIT:=z7 hit;have xuy:I<wr.heap.size:=(Array.getElem?_eq_some_iff.1 hit).1;have hAI:A+1<I:=by have:=HI.out;omega
   by_cases xD:k<s.size
   ·have hn:=Lib.run_next_any_at (P:=prog) wr I s k 0 hit xD;have hd:=NH s k xD;have ku:GM (s.data.toList.drop k):=by
     cases hl:s.data.toList.drop k with
     | nil=>have:=congrArg List.length hl;simp at this;omega
     | cons a r=>exact Jm a r
    have HOK:=z7 ku;have SE:=Lib.iterAt_heap wr I s k (k+(Zb (s.data.toList.drop k)).2) hit;have VE:=Lib.below_iterAt qG (k:=I) (by omega) s (k+(Zb (s.data.toList.drop k)).2);have ZG:=vV.keep (w':=wr.iterAt I s (k+(Zb (s.data.toList.drop k)).2)) (fun j hj=>Lib.iterAt_other _ _ _ _ _ (by omega));obtain⟨pt,Uv⟩:=xX (Zb (s.data.toList.drop k));obtain⟨r,z⟩:=pt;rw[hd,Uv] at hn;rw[Uv] at SE VE ZG;dsimp only at hn SE VE ZG;obtain⟨W1,Vu⟩:=xX (wr.iterAt I s (k+z));rw[Vu] at hn SE VE ZG;have xux:W1.heap.size=wr.heap.size:=by rw[←Vu];exact Lib.iterAt_size _ _ _ _
    have Bf:=z7 Uv;have Az:=z7 (Tryz.utf8_DecodeRuneInString (s.extract k s.size) W1 (SF HT.out (by rw[HA.out];exact VE)));have hde:Lib.decodeGo (s.extract k s.size)=(r,z):=by
     unfold Lib.decodeGo;rw[if_neg (by rw[zJ];omega),ID s k xD,Uv]
    rw[hde] at Az;have k1:(k:Int)<=(s.size:Int):=by omega
    have k2:decide ((k:Int)<0)=false:=by simp
    clear hd ku qG vV oR Uv Vu hde hit;rcases HOK.out with⟨h0,ZZ⟩|⟨h0,jm,Q6⟩
    ·rw[Bf.out] at ZZ;obtain⟨rfl,rfl⟩:r=65533/\z=1:=by cases ZZ;exact⟨rfl,rfl⟩
     have jz:=Zp h0;have Vb:(uH s.data.toList).2=k:=by rw[HP.out,jz];rfl
     have HCT:=z7 (IF s k Vb);have HR:=z7 (show uJ s.data.toList = .error (2,(uH s.data.toList).1.length) by
      unfold uJ;rw[if_neg (by rw[xA];omega),if_pos (by rw[xA,Vb];exact xD)])
     have Iz:=z7 (fun W=>Tryz.utf8_RuneCountInString (s.extract 0 k) W (by rw[zJ];omega));rw[HCT.out] at Iz;obtain⟨cnt,ZY⟩:=xX ((uH s.data.toList).1.length);rw[ZY] at HR Iz;clear ZZ jz Vb ZY h0 HCT;go_wp2_with fail;refine Az.out.mono ?_;rintro e W2 ⟨rfl,xF⟩;have X8:=VE.trans (xF.mono (by omega));have R0:=ZG.below xF;clear Az;go_wp2_with fail;refine(Iz.out W2).mono ?_;rintro e W3 ⟨rfl,pos,rfl⟩;have Bd:=R0.below ((zf W2.heap.size W2).alloc (z8 _) (.stringIter (s.extract 0 k) pos));have XK:Below A w (W2.iter (s.extract 0 k) pos):=X8.alloc (by have:=xF.size;omega) _;obtain⟨W3,kT⟩:=xX (W2.iter (s.extract 0 k) pos);rw[kT];have Xk:qp A (.slice none 0 0) .nilIface W3:=by rw[←kT];exact Bd
     rw[kT] at XK;clear kT Bd X8 R0 VE ZG SE hn Iz;go_wp2;have R1:=Xk.below ((zf W3.heap.size W3).alloc (z8 _) (.cells #[.int .i64 2,.int .i64 cnt] 105));have oS:=Xk.lt;have Un:Below A w (W3.alloc (.cells #[.int .i64 2,.int .i64 cnt] 105)):=XK.alloc (by omega) _;have hc:=fun i=>xu W3 #[.int .i64 2,.int .i64 cnt] 105 (0,0) i
     obtain⟨W4,Dq⟩:=xX (W3.alloc (.cells #[.int .i64 2,.int .i64 cnt] 105));rw[Dq] at R1 Un hc ⊢;clear Dq;obtain⟨bf,JD⟩:=xX W3.heap.size;rw[JD] at hc ⊢;clear JD;refine leaves_cons (f:=109) (args:=#[.pointer (some ⟨A,0,none⟩),.pointer (some ⟨A+1,0,none⟩)]) (by simp) (by simp[go_sem]) ?_;refine(ZJ A (A+1) _ _ _ _ _ R1.c0 R1.z0 R1.c1 R1.z1 (by omega)).mono ?_;rintro e u' Vx ⟨rfl,rfl,rfl⟩;have vV:=(R1.X3 (x := .slice none 0 0)).CR (x := .iface 101 (.pointer (some ⟨bf,0,none⟩)));have Ux:=vV.c0;have SB:=vV.c1;simp[Leaves,settle,results,results78,go_sem,Ux,SB];have hF:=HR.out;rw[hF];have Ar:bf≠A:=fun e=>by have h1:=(hc 0);rw[e,R1.c0] at h1;cases h1
     have At:bf≠A+1:=fun e=>by have h1:=(hc 0);rw[e,R1.c1] at h1;cases h1
     exact⟨⟨bf,rfl,by rw[xg,if_neg (fun e=>At (congrArg zv e).symm),xg,if_neg (fun e=>Ar (congrArg zv e).symm)];exact(hc 0),by rw[xg,if_neg (fun e=>At (congrArg zv e).symm),xg,if_neg (fun e=>Ar (congrArg zv e).symm)];exact(hc 1)⟩,by rw[HA.out];exact vo (vo Un (by omega)) (by omega)⟩
    ·have hz:xh (s.data.toList.drop k)=z:=by rw[h0,Bf.out]
     rw[Bf.out] at Q6;rw[hz] at jm;have hle:=(XB (s.data.toList.drop k)).1;rw[hz] at hle;simp only[List.length_drop,xA] at hle;have xc:s.data.toList.drop k≠[]:=by intro e;have:=congrArg List.length e;simp at this;omega
     have vH:=gj xc (by omega);rw[hz,List.drop_drop] at vH;have jX:=z7 (show uH s.data.toList=(pre++[(s.data.toList.drop k).take z]++(uH (s.data.toList.drop (k+z))).1,(k+z)+(uH (s.data.toList.drop (k+z))).2) by
      rw[HP.out,vH];simp[Nat.add_assoc])
     have Ah:((r:Int)==65533)=false\/(r=65533/\((z:Int)==1)=false):=by
      by_cases hr:r=65533
      ·right;refine⟨hr,?_⟩;simp;intro Uu;exact Q6 ⟨hr,by omega⟩
      ·left;simp;omega
     clear Q6 vH xc h0 hz;rcases Ah with qX|⟨rfl,jJ⟩;all_goals
      go_wp2_with fail;refine Az.out.mono ?_;rintro e W2 ⟨rfl,xF⟩;have X8:=VE.trans (xF.mono (by omega));have R0:=ZG.below xF;have zl2:W2.heap[I]? = some (.stringIter s (k+z)):=(xF.block I (by omega)).trans SE;clear Az VE ZG SE hn xF;go_wp2;go_roundw
      case rel=>exact⟨k+z,_,by omega,zl2,X8,R0,jX.out⟩
      case measure =>
       rw[iterPos_of zl2,iterPos_of HIT.out];omega
   ·have hn:=Lib.run_next_end_at (P:=prog) wr I s k 0 hit xD;have wJ:k=s.size:=by omega
    have hz:s.data.toList.drop k=[]:=List.drop_of_length_le (by rw[xA];omega);have Vb:(uH s.data.toList).2=s.size:=by rw[oR,hz,kH];exact wJ
    have US:=(gg s s.size 0 (by omega) (by omega) (by rw[zL,Vb];omega)).2 #[];rw[zL] at US;have HRT:=z7 (show uJ s.data.toList=match YU (xm s.data.toList) with | .error e => .error e | .ok x => .ok x.1 by
     unfold uJ;rw[if_neg (by rw[xA];omega),if_neg (by rw[xA,Vb];omega)])
    obtain⟨rs,ZM⟩:=xX (xm s.data.toList);have JB:rs.length<=1000:=by have:=Vd s.data.toList;rw[xA,ZM] at this;omega
    have zu6:=z7 (show ∀ r∈rs,0<=r by rw[←ZM];exact Ap _);rw[ZM] at US HRT;have hcv:=run_runes_of_string (P:=prog) wr 9 147 21 s underlying9 underlying147 underlying21 (by rw[US];simp;omega);have F:∃ cp W,(convert 9 147 (.string s)).run prog wr = .ok (.slice (some ⟨wr.heap.size,0,none⟩) rs.length cp) W/\Below wr.heap.size wr W/\wr.heap.size<W.heap.size/\rs.length<=cp/\cp<=maxLen/\∀ j (h:j<rs.length),W.cell? ⟨wr.heap.size,j,none⟩=some (.int .i32 rs[j]):=by
     have e2:(Conv.runesFrom s s.size 0 #[]).size=rs.length:=by rw[US];simp
     rw[e2] at hcv;refine⟨_,_,hcv,(zf _ _).drew.alloc (z8 _) _,by simp,grownCap_ge _ _ _ _,grownCap_le_maxLen _ _ _ _ (by unfold maxLen;omega),fun j hj=>?_⟩;rw[show wr.heap.size=wr.drew.heap.size from rfl,xu,US,Array.getElem?_append_left (by simpa using hj)];simp[hj]
    obtain⟨cp,W,vF,jC,wG,zl3,zl4,gH⟩:=F;have HCE:=z7 gH;have ZG:=vV.below jC;have VE:=qG.trans (jC.mono (by omega));clear hcv US gH oR Vb hz ZM wJ;have zl5:=zZ w _ (HNA.out 0 (by omega));have Zt:w.heap.size<=W.heap.size:=by have:=VE.size;omega
    have um:Below W.heap.size W (W.alloc (.cells #[.slice (some ⟨wr.heap.size,0,none⟩) rs.length cp,.int .i64 0,.int .i64 0] 249)):=(zf _ _).alloc (z8 _) _;have jy:=fun i=>xu W #[.slice (some ⟨wr.heap.size,0,none⟩) rs.length cp,.int .i64 0,.int .i64 0] 249 (0,0) i
    have hsy:vK W.heap.size rs 0 0 (W.alloc (.cells #[.slice (some ⟨wr.heap.size,0,none⟩) rs.length cp,.int .i64 0,.int .i64 0] 249)) :=
     ⟨⟨wr.heap.size,cp,jy 0,zl3,zl4,wG,fun j hj=>(zE _ _ _ wG).trans (HCE.out j hj)⟩,jy 1,jy 2,by simp,by simp,by omega,by omega,by omega,zu6.out⟩
    have wF:=ZG.below um;have zu7:Below A w _:=VE.trans (um.mono (by omega));go_wp2_with fail;obtain⟨Y,hY⟩:=xX (W.alloc (.cells #[.slice (some ⟨wr.heap.size,0,none⟩) rs.length cp,.int .i64 0,.int .i64 0] 249));rw[hY] at hsy wF zu7 ⊢;have hpY:W.heap.size<Y.heap.size:=by rw[←hY];simp
    obtain⟨p,hp⟩:=xX W.heap.size;rw[hp] at hsy hpY Zt ⊢;have hAp:A+1<p:=by have:=ZG.lt;omega
    have Uq:Ko p Y:=⟨HNA.out.below (by rw[HA.out];exact zu7),by have hg:0<w.heap.size:=zl5;omega⟩;have hM:=Pw p rs 5 (z8 _) false 0 Y hsy Uq;obtain⟨rm,hrm⟩:=xX (YV rs 5 false 0);have HRM:=z7 (show uJ s.data.toList=match rm.then (fun f i=>if xU rs i = -1 then (.ok (f,i):qK Fo) else .error (3,i)) with | .error e => .error e | .ok x => .ok x.1 by rw[HRT.out,←hrm];rfl);rw[hrm] at hM;have HM:=z7 hM;clear hM hrm hY um jy hsy ZG VE hp vV qG zl3 zl4 HCE HRT hn vF hit SC HB HIT HP zl5;refine HM.out.mono ?_;rintro e X ⟨hq,hbX⟩;have XC:=wF.but hbX hAp;have zu9:Below A w X:=zu7.trans (hbX.low (by omega) (by omega))
    cases rm with
    | error en =>
     obtain⟨nH,nL⟩:=en;obtain⟨bf,rfl,f1,f2,_,_,_⟩:=hq;have oT:=z7 (show uJ s.data.toList = .error (nH,nL) from HRM.out);go_wp2;refine leaves_cons (f:=109) (args:=#[.pointer (some ⟨A,0,none⟩),.pointer (some ⟨A+1,0,none⟩)]) (by simp) (by simp[go_sem]) ?_;refine(ZJ A (A+1) _ _ _ _ _ XC.c0 XC.z0 XC.c1 XC.z1 (by omega)).mono ?_;rintro e u' Vx ⟨rfl,rfl,rfl⟩;have vV:=(XC.X3 (x := .slice none 0 0)).CR (x := .iface 101 (.pointer (some ⟨bf,0,none⟩)));have Ux:=vV.c0;have SB:=vV.c1;simp[Leaves,settle,results,results78,go_sem,Ux,SB];have hF:=oT.out;rw[hF];have Ar:bf≠A:=fun e=>by have h1:=f1;rw[e,XC.c0] at h1;cases h1
     have At:bf≠A+1:=fun e=>by have h1:=f1;rw[e,XC.c1] at h1;cases h1
     exact⟨⟨bf,rfl,by rw[xg,if_neg (fun e=>At (congrArg zv e).symm),xg,if_neg (fun e=>Ar (congrArg zv e).symm)];exact f1,by rw[xg,if_neg (fun e=>At (congrArg zv e).symm),xg,if_neg (fun e=>Ar (congrArg zv e).symm)];exact f2⟩,by rw[HA.out];exact vo (vo zu9 (by omega)) (by omega)⟩
    | ok fj =>
     obtain⟨f,j⟩:=fj;obtain⟨⟨a,c,rfl,vs,vD,kE⟩,JG,hsX⟩:=hq;have qV:=z7 vD;have YQ:=z7 kE;have Jn:=z7 (show uJ s.data.toList=match (if xU rs j = -1 then (.ok (f,j):qK Fo) else .error (3,j)) with | .error e => .error e | .ok x => .ok x.1 from HRM.out);have g0:=XC.c0;have g1:=XC.z0;have Yq:=z7 (hsX.ygq g0 (by omega) (.slice a f.len c));have Bd:=XC.X3 (x := .slice a f.len c);have XK:Below A w (X.setCell ⟨A,0,none⟩ (.slice a f.len c)):=vo zu9 (z8 _);have fw:vQ Y.heap.size X.heap.size X (X.setCell ⟨A,0,none⟩ (.slice a f.len c)):=(vx (z8 _)).put (by omega) 0 _;obtain⟨X4,hX4⟩:=xX (X.setCell ⟨A,0,none⟩ (.slice a f.len c));rw[hX4] at Yq Bd XK fw;have HX4:=z7 hX4;have hYX:=hbX.size;clear hX4 vD kE hsX XC zu9 HRM HM hbX;go_wp2_with fail;rw[HX4.out];refine(jL p rs j 0 X4 Yq.out).mono ?_;rintro e X5 ⟨rfl,ju⟩;have Me:=z7 (Yq.out.below ju);have hA4:=Bd.lt;have GN:=Bd.below ju;have Un:=XK.trans (ju.mono (by omega));have bW:=fw.below ju;by_cases he:xU rs j = -1
     ·have oT:=z7 (show uJ s.data.toList = .ok f by rw[Jn.out,if_pos he]);rw[he];have q0:=GN.c0;have q1:=GN.c1;have q2:=GN.z0;have q3:=GN.z1;have Xu:=GN.X3 (x := .slice a f.len c);have GO:=Xu.CR (x := .nilIface);have SZ:Below A w ((X5.setCell ⟨A,0,none⟩ (.slice a f.len c)).setCell ⟨A+1,0,none⟩ .nilIface):=vo (vo Un (z8 _)) (by omega);have Jo:vQ Y.heap.size X.heap.size X ((X5.setCell ⟨A,0,none⟩ (.slice a f.len c)).setCell ⟨A+1,0,none⟩ .nilIface):=(bW.put (by omega) 0 _).put (by omega) 0 _;have q4:=Xu.c1;have q5:=Xu.z1;clear Jn he HX4;go_wp2;refine leaves_cons (f:=109) (args:=#[.pointer (some ⟨A,0,none⟩),.pointer (some ⟨A+1,0,none⟩)]) (by simp) (by simp[go_sem]) ?_;refine(NM A (A+1) _).mono ?_;rintro e u' Vx ⟨rfl,rfl,rfl⟩;have Ux:=GO.c0;have SB:=GO.c1;simp[Leaves,settle,results,results78,go_sem,Ux,SB];have hF:=oT.out;rw[hF];exact⟨⟨⟨a,c,vs,rfl,qV.out.keep Jo (by rw[HA.out];omega) Jo.1,xY.keep Jo (by rw[HA.out];omega) Jo.1 _ _ YQ.out⟩,JG⟩,by rw[HA.out];exact SZ⟩
     ·have oT:=z7 (show uJ s.data.toList = .error (3,j) by rw[Jn.out,if_neg he]);have he':(xU rs j==-1)=false:=by simpa using he
      have q0:=Me.out.at_;clear Jn he HX4;go_wp2_with fail;refine(dy p 3 j X5 Me.out.Ki).mono ?_;rintro e X6 ⟨⟨bf,rfl,f1,f2,_,_,_⟩,dE⟩;have GR:=GN.below dE;have Nk:=Un.trans (dE.mono (by have:=GN.lt;omega));go_wp2;refine leaves_cons (f:=109) (args:=#[.pointer (some ⟨A,0,none⟩),.pointer (some ⟨A+1,0,none⟩)]) (by simp) (by simp[go_sem]) ?_;refine(ZJ A (A+1) _ _ _ _ _ GR.c0 GR.z0 GR.c1 GR.z1 (by omega)).mono ?_;rintro e u' Vx ⟨rfl,rfl,rfl⟩;have vV:=(GR.X3 (x := .slice none 0 0)).CR (x := .iface 101 (.pointer (some ⟨bf,0,none⟩)));have Ux:=vV.c0;have SB:=vV.c1;simp[Leaves,settle,results,results78,go_sem,Ux,SB];have hF:=oT.out;rw[hF];have Ar:bf≠A:=fun e=>by have h1:=f1;rw[e,GR.c0] at h1;cases h1
      have At:bf≠A+1:=fun e=>by have h1:=f1;rw[e,GR.c1] at h1;cases h1
      exact⟨⟨bf,rfl,by rw[xg,if_neg (fun e=>At (congrArg zv e).symm),xg,if_neg (fun e=>Ar (congrArg zv e).symm)];exact f1,by rw[xg,if_neg (fun e=>At (congrArg zv e).symm),xg,if_neg (fun e=>Ar (congrArg zv e).symm)];exact f2⟩,by rw[HA.out];exact vo (vo Nk (by omega)) (by omega)⟩
inductive Out (σ:Type) where
 | go (b:Bool) (s:σ)
 | CS (c:List PanicEntry) (s:σ)
def Out.then{σ:Type}(x:Out σ)(k:σ->Out σ):Out σ:=match x with | .go true s=>k s | .go false s => .go false s | .CS c s => .CS c s
def vP{σ:Type}(F:σ->Fo->Out σ):Fo->σ->Out σ
 | .nil,s => .go true s
 | .text _ r,s=>vP F r s
 | .hash r,s=>vP F r s
 | .put n a r,s=>(F s (.put n a .nil)).then fun s=>vP F r s
 | .num n a r,s=>(F s (.num n a .nil)).then fun s=>vP F r s
 | .br n a f o c bs r,s=>(F s (.br n a f o c bs .nil)).then fun s=>(vP F bs s).then fun s=>vP F r s
 | .uf _ _ m r,s=>(vP F m s).then fun s=>vP F r s
def Aw:Fo->Option (Wd×Nat)
 | .put n a _=>some (n,a)
 | .num n a _=>some (n,a)
 | .br n a _ _ _ _ _=>some (n,a)
 | _=>none
def Fo.wf(N:Nat):Fo->Bool
 | .nil=>true
 | .text _ r=>r.wf N
 | .hash r=>r.wf N
 | .put n _ r=>decide (n.length<=4000001) && r.wf N
 | .num n _ r=>decide (n.length<=4000001) && r.wf N
 | .br n _ f _ _ bs r=>decide (n.length<=4000001) && decide (f<3) && bs.uv && decide (bs.len<=N) && bs.wf N && r.wf N
 | .uf k _ m r=>decide (k.length<=4000001) && m.vG && decide (m.len<=N) && m.wf N && r.wf N
def Fo.wt:Fo->Nat
 | .br _ _ _ _ _ bs _=>2+bs.len
 | _=>1
def Fo.cnt:Fo->Nat
 | .nil=>0
 | .text _ r=>r.cnt
 | .hash r=>r.cnt
 | .put _ _ r=>1+r.cnt
 | .num _ _ r=>1+r.cnt
 | .br _ _ _ _ _ bs r=>2+bs.len+bs.cnt+r.cnt
 | .uf _ _ m r=>m.cnt+r.cnt
def zuz{σ:Type}(I:σ->Nat->World->Prop)(room:Nat)(o:Out σ)(e:Ending)(w':World):Prop :=
 match o with
 | .go b s=>e = .returned (.bool b)/\I s room w'
 | .CS c s=>e = .panicked c/\I s room w'
structure NO{σ:Type}(lo hi:Nat)(w0:World)(v:Value)(I:σ->Nat->World->Prop)(F:σ->Fo->Out σ):Prop where
 fn:∃ k cap,v = .func (.func k) #[] cap/\(∀ args w,(callFunc k args).run prog w = .ok (.enter k args) w) /\
  ∀ s room W x u n a,I s (room+x.wt) W->xY lo hi w0 [u] x->x.wf 2000000=true->Aw x=some (n,a)->Calls prog k (#[u,.agg #[xk n,.int .i64 (a:Nat)]]++cap) W (zuz I room (F s x))
 keep:∀ s b W,I s b W->vQ lo hi w0 W
 below:∀ s b W W',I s b W->Below W.heap.size W W'->I s b W'
 less:∀ s b b' W,I s b W->b'<=b->I s b' W
section
variable (b:Nat) (t:Wd) (w:World)
theorem GA:(zx (.iface 172 (.pointer (some ⟨b,0,none⟩))) 112 172 true).run prog w = .ok (.tuple #[.pointer (some ⟨b,0,none⟩),.bool true]) w:=by rfl
theorem Uk:(zx (.iface 175 (.pointer (some ⟨b,0,none⟩))) 112 175 true).run prog w = .ok (.tuple #[.pointer (some ⟨b,0,none⟩),.bool true]) w:=by rfl
theorem Q7:(zx (.iface 177 (.pointer (some ⟨b,0,none⟩))) 112 177 true).run prog w = .ok (.tuple #[.pointer (some ⟨b,0,none⟩),.bool true]) w:=by rfl
theorem IE:(zx (.iface 262 (xk t)) 112 172 true).run prog w = .ok (.tuple #[.pointer none,.bool false]) w:=by rfl
theorem IH:(zx (.iface 262 (xk t)) 112 175 true).run prog w = .ok (.tuple #[.pointer none,.bool false]) w:=by rfl
theorem NP:(zx (.iface 262 (xk t)) 112 177 true).run prog w = .ok (.tuple #[.pointer none,.bool false]) w:=by rfl
theorem II:(zx (.iface 264 (.agg #[])) 112 172 true).run prog w = .ok (.tuple #[.pointer none,.bool false]) w:=by rfl
theorem IL:(zx (.iface 264 (.agg #[])) 112 175 true).run prog w = .ok (.tuple #[.pointer none,.bool false]) w:=by rfl
theorem NR:(zx (.iface 264 (.agg #[])) 112 177 true).run prog w = .ok (.tuple #[.pointer none,.bool false]) w:=by rfl
theorem Ga:(zx (.iface 175 (.pointer (some ⟨b,0,none⟩))) 112 172 true).run prog w = .ok (.tuple #[.pointer none,.bool false]) w:=by rfl
theorem Bb:(zx (.iface 177 (.pointer (some ⟨b,0,none⟩))) 112 172 true).run prog w = .ok (.tuple #[.pointer none,.bool false]) w:=by rfl
theorem Ku:(zx (.iface 177 (.pointer (some ⟨b,0,none⟩))) 112 175 true).run prog w = .ok (.tuple #[.pointer none,.bool false]) w:=by rfl
theorem NS:(zx (.iface 172 (.pointer (some ⟨b,0,none⟩))) 112 175 true).run prog w = .ok (.tuple #[.pointer none,.bool false]) w:=by rfl
theorem BZ:(zx (.iface 172 (.pointer (some ⟨b,0,none⟩))) 112 177 true).run prog w = .ok (.tuple #[.pointer none,.bool false]) w:=by rfl
theorem SH:(zx (.iface 175 (.pointer (some ⟨b,0,none⟩))) 112 177 true).run prog w = .ok (.tuple #[.pointer none,.bool false]) w:=by rfl
end
def qz:Wd:=[111,116,104,101,114]
def Kq:List Wd:=[[122,101,114,111],[111,110,101],[116,119,111],[102,101,119],[109,97,110,121],[111,116,104,101,114]]
def Fo.keys:Fo->List Wd
 | .uf k _ _ r=>k::r.keys
 | _=>[]
namespace MkS
def ki:Fo->MkS->List Nat->MkS×List Nat
 | .uf k _ _ r,s,acc=>if k=qz then ki r s acc else ki r (s.const k) (acc++[s.num k])
 | _,s,acc=>(s,acc)
def place(ks:List Wd)(k:Wd):Nat:=if k=qz then (ks.filter (· ≠ qz)).length else (ks.filter (· ≠ qz)).idxOf k
def qJ:Fo->MkS->List (Wd×Nat)->MkS×List (Wd×Nat)
 | .uf k _ _ r,s,acc=>if k.head? = some 61 then qJ r (s.put 7 (xE k.tail) [] [0]) (acc++[(k,s.code.length)]) else qJ r s acc
 | _,s,acc=>(s,acc)
def IM(ks:List Wd)(t:Nat)(key:Wd)(s:MkS):MkS :=
 (List.range 6).foldl (fun s c=>if Kq.getD c []=key\/key=qz/\Kq.getD c [] ∉ ks then s.u7 t c else s) s
def gM(n:Wd)(bs:Fo)(s:MkS):MkS×List Nat:=ki bs (s.const n) [s.num n]
def ky(n:Wd)(bs:Fo)(s:MkS):MkS:=(gM n bs s).1.put 10 0 (gM n bs s).2 (zV (gM n bs s).2.length 0)
def kI(n o:Wd)(bs:Fo)(s:MkS):MkS×List (Wd×Nat):=qJ bs ((s.const n).put 4 (xE o) [s.num n] []) []
def qH(n o:Wd)(f:Nat)(bs:Fo)(s:MkS):MkS:=(kI n o bs s).1.put (if f=2 then 9 else 8) 0 [] (zV 6 0)
def b7(n:Wd)(bs:Fo)(s:MkS)(k:Wd)(x:MkS):MkS:=x.u7 (gM n bs s).1.code.length (place bs.keys k)
def jU(n o:Wd)(bs:Fo)(s:MkS)(k:Wd)(x:MkS):MkS :=
 match (kI n o bs s).2.lookup k with
 | some i=>x.u7 i 0
 | none=>IM bs.keys (kI n o bs s).1.code.length k x
def qx:Fo->(Wd->MkS->MkS)->MkS->List Nat->MkS×List Nat
 | .nil,_,s,ls=>(s,ls)
 | .text t r,bg,s,ls=>qx r bg (s.one 1 t) ls
 | .hash r,bg,s,ls=>qx r bg (s.put 6 0 [] []) ls
 | .put n _ r,bg,s,ls=>qx r bg (s.one 2 n) ls
 | .num n _ r,bg,s,ls=>qx r bg (s.one 3 n) ls
 | .br n _ f o _ bs r,bg,s,ls =>
  if f=0 then
   let y:=qx bs (b7 n bs s) (ky n bs s) []
   qx r bg (y.2.foldl (fun s i=>s.u7 i 0) y.1) ls
  else
   let y:=qx bs (jU n o bs s) (qH n o f bs s) []
   qx r bg ((y.2.foldl (fun s i=>s.u7 i 0) y.1).put 5 0 [] []) ls
 | .uf k _ m r,bg,s,ls =>
  let s1:=(qx m (fun _ s=>s) (bg k s) []).1
  qx r bg (s1.put 11 0 [] [0]) (ls++[s1.code.length])
def dS(m:Fo)(s:MkS):MkS:=(qx m (fun _ s=>s) s []).1
def start:MkS:=⟨[],[],0⟩
def all(m:Fo):MkS:=(dS m start).put 0 0 [] []
end MkS
def EqW(k:Wd):Prop:=k.tail≠[]/\k.tail.length<=9/\k.tail.all xJ=true
def Fo.YF:Fo->Prop
 | .nil=>True
 | .text t r=>t.length<=5000000/\r.YF
 | .hash r=>r.YF
 | .put n _ r=>n.length<=16/\r.YF
 | .num n _ r=>n.length<=16/\r.YF
 | .br n _ f o _ bs r=>n.length<=16/\f<3/\xE o<=999999999/\bs.uv=true/\bs.keys.Nodup/\(∀ k∈bs.keys,k.length<=17/\(f≠0->k.head? = some 61->EqW k))/\bs.YF/\r.YF
 | .uf _ _ m r=>m.vG=true/\m.YF/\r.YF
def Fo.cw:Fo->Nat
 | .nil=>0
 | .text _ r=>5+r.cw
 | .hash r=>5+r.cw
 | .put _ _ r=>5+r.cw
 | .num _ _ r=>5+r.cw
 | .br _ _ _ _ _ bs r=>40+bs.cw+r.cw
 | .uf _ _ m r=>20+m.cw+r.cw
def Fo.gw:Fo->Nat
 | .uf _ _ m r=>5+m.cw+r.gw
 | _=>0
theorem Fo.YD:∀ f:Fo,f.gw+15*f.keys.length<=f.cw
 | .uf k a m r=>by have:=Fo.YD r;simp only[Fo.gw,Fo.keys,Fo.cw,zI];omega
 | .nil=>zj _
 | .text _ _=>zj _
 | .hash _=>zj _
 | .put _ _ _=>zj _
 | .num _ _ _=>zj _
 | .br _ _ _ _ _ _ _=>zj _
def MkS.le(s s':MkS):Prop:=∀ (i:Nat) (x:j8),s.code[i]? = some x->∃ y,s'.code[i]? = some y/\y.tg.length=x.tg.length
theorem MkS.le_refl(s:MkS):s.le s:=fun _ x h=>⟨x,h,rfl⟩
theorem MkS.le_trans{a b c:MkS}(h:a.le b)(k:b.le c):a.le c:=fun i x hx=>by
 obtain⟨y,h1,h2⟩:=h i x hx;obtain⟨z,h3,h4⟩:=k i y h1;exact⟨z,h3,h4.trans h2⟩
theorem MkS.Q8(s:MkS)(t:Wd):s.le (s.const t):=fun i x hx=>⟨x,by rw[(vz s t).2.1];exact hx,rfl⟩
theorem MkS.bA(s:MkS)(op v:Nat)(k tg:List Nat):s.le (s.put op v k tg):=fun i x hx=>⟨x,by simp only[MkS.put];rw[List.getElem?_append_left (List.getElem?_eq_some_iff.1 hx).1];exact hx,rfl⟩
theorem MkS.ZF(s:MkS)(i j:Nat):s.le (s.u7 i j):=fun n x hx=>by
 simp only[MkS.u7];rw[List.getElem?_modify];by_cases h:i=n
 ·exact⟨{ x with tg:=x.tg.set j s.pos },by simp[h,hx],by simp⟩
 ·exact⟨x,by simp[h,hx],rfl⟩
theorem MkS.NT(s:MkS)(op:Nat)(t:Wd):s.le (s.one op t):=MkS.le_trans (s.Q8 t) (MkS.bA _ _ _ _ _)
theorem MkS.Gc{α:Type}(g:MkS->α->MkS)(hg:∀ (s:MkS) (a:α),s.le (g s a)):∀ (l:List α) (s:MkS),s.le (l.foldl g s)
 | [],s=>s.le_refl
 | a::l,s=>MkS.le_trans (hg s a) (MkS.Gc g hg l _)
theorem MkS.Zh{α:Type}(g:MkS->α->MkS)(hg:∀ (s:MkS) (a:α),(g s a).sz=s.sz):∀ (l:List α) (s:MkS),(l.foldl g s).sz=s.sz
 | [],s=>rfl
 | a::l,s=>(MkS.Zh g hg l _).trans (hg s a)
theorem MkS.az(ks:List Wd)(t:Nat)(key:Wd)(s:MkS):s.le (MkS.IM ks t key s)/\(MkS.IM ks t key s).sz=s.sz:=by
 refine⟨MkS.Gc _ (fun s c=>?_) _ s,MkS.Zh _ (fun s c=>?_) _ s⟩
 ·split
  ·exact s.ZF _ _
  ·exact s.le_refl
 ·split
  ·exact gI _ _ _
  ·rfl
theorem MkS.CT(n:Wd)(bs:Fo)(s:MkS)(k:Wd)(x:MkS):x.le (MkS.b7 n bs s k x)/\(MkS.b7 n bs s k x).sz=x.sz:=⟨x.ZF _ _,gI _ _ _⟩
theorem MkS.CW(n o:Wd)(bs:Fo)(s:MkS)(k:Wd)(x:MkS):x.le (MkS.jU n o bs s k x)/\(MkS.jU n o bs s k x).sz=x.sz:=by
 unfold MkS.jU;split
 ·exact⟨x.ZF _ _,gI _ _ _⟩
 ·exact MkS.az _ _ _ _
theorem MkS.Q9:∀ (f:Fo) (s:MkS) (acc:List Nat),s.le (MkS.ki f s acc).1/\(MkS.ki f s acc).1.sz<=s.sz+f.keys.length/\(MkS.ki f s acc).2.length<=acc.length+f.keys.length/\(MkS.ki f s acc).1.code=s.code/\(MkS.ki f s acc).1.pos=s.pos
 | .uf k _ _ r,s,acc=>by
  rw[MkS.ki];split
  ·obtain⟨a,b,c,d⟩:=MkS.Q9 r s acc;exact⟨a,by simp[Fo.keys];omega,by simp[Fo.keys];omega,d⟩
  ·obtain⟨a,b,c,d,e⟩:=MkS.Q9 r (s.const k) (acc++[s.num k]);obtain⟨z1,z2,z3⟩:=vz s k;exact⟨MkS.le_trans (s.Q8 k) a,by simp[Fo.keys];omega,by simp[Fo.keys] at c ⊢;omega,d.trans z2,e.trans z3⟩
 | .nil,s,acc=>⟨s.le_refl,z8 _,z8 _,rfl,rfl⟩
 | .text _ _,s,acc=>⟨s.le_refl,z8 _,z8 _,rfl,rfl⟩
 | .hash _,s,acc=>⟨s.le_refl,z8 _,z8 _,rfl,rfl⟩
 | .put _ _ _,s,acc=>⟨s.le_refl,z8 _,z8 _,rfl,rfl⟩
 | .num _ _ _,s,acc=>⟨s.le_refl,z8 _,z8 _,rfl,rfl⟩
 | .br _ _ _ _ _ _ _,s,acc=>⟨s.le_refl,z8 _,z8 _,rfl,rfl⟩
theorem MkS.CA:∀ (f:Fo) (s:MkS) (acc:List (Wd×Nat)),s.le (MkS.qJ f s acc).1/\(MkS.qJ f s acc).1.sz<=s.sz+8*f.keys.length
 | .uf k _ _ r,s,acc=>by
  rw[MkS.qJ];split
  ·obtain⟨a,b⟩:=MkS.CA r (s.put 7 (xE k.tail) [] [0]) (acc++[(k,s.code.length)]);have:=jn s 7 (xE k.tail) [] [0];have hx:(uq ⟨7,s.pos,xE k.tail,[],[0]⟩).length=7:=by simp[uq,gB,kG,uY,kJ]
   exact⟨MkS.le_trans (s.bA _ _ _ _) a,by simp[Fo.keys];omega⟩
  ·obtain⟨a,b⟩:=MkS.CA r s acc;exact⟨a,by simp[Fo.keys];omega⟩
 | .nil,s,acc=>⟨s.le_refl,z8 _⟩
 | .text _ _,s,acc=>⟨s.le_refl,z8 _⟩
 | .hash _,s,acc=>⟨s.le_refl,z8 _⟩
 | .put _ _ _,s,acc=>⟨s.le_refl,z8 _⟩
 | .num _ _ _,s,acc=>⟨s.le_refl,z8 _⟩
 | .br _ _ _ _ _ _ _,s,acc=>⟨s.le_refl,z8 _⟩
theorem R2:∀ (k t:List Nat),(K3 k t).length=4*k.length+2
 | [],t=>by simp[K3,uY]
 | a::k,t=>by simp[K3,uY,R2 k t.tail];omega
theorem R3(pos:Nat)(x:Nat)(k:List Nat)(t:List Nat):(uq ⟨10,pos,0,x::k,t⟩).length=7+4*k.length:=by
 simp[uq,gB,kG,uY,R2];omega
theorem MkS.Kk:∀ (f:Fo) (s:MkS) (x:Nat) (acc:List Nat),∃ y,(MkS.ki f s (x::acc)).2=x::y
 | .uf k _ _ r,s,x,acc=>by
  rw[MkS.ki];split
  ·exact MkS.Kk r s x acc
  ·exact MkS.Kk r (s.const k) x (acc++[s.num k])
 | .nil,s,x,acc=>⟨_,rfl⟩
 | .text _ _,s,x,acc=>⟨_,rfl⟩
 | .hash _,s,x,acc=>⟨_,rfl⟩
 | .put _ _ _,s,x,acc=>⟨_,rfl⟩
 | .num _ _ _,s,x,acc=>⟨_,rfl⟩
 | .br _ _ _ _ _ _ _,s,x,acc=>⟨_,rfl⟩
theorem MkS.Ca(n:Wd)(bs:Fo)(s:MkS):s.le (MkS.ky n bs s)/\(MkS.ky n bs s).sz<=s.sz+9+5*bs.keys.length:=by
 obtain⟨a,b,c,d,e⟩:=MkS.Q9 bs (s.const n) [s.num n];obtain⟨y,hy⟩:=MkS.Kk bs (s.const n) (s.num n) [];refine⟨MkS.le_trans (s.Q8 n) (MkS.le_trans a (MkS.bA _ _ _ _ _)),?_⟩;unfold MkS.ky MkS.gM;rw[jn,hy,R3];rw[hy] at c;have:=(vz s n).1;simp at c;omega
theorem MkS.Cc(n o:Wd)(f:Nat)(bs:Fo)(s:MkS):s.le (MkS.qH n o f bs s)/\(MkS.qH n o f bs s).sz<=s.sz+24+8*bs.keys.length:=by
 obtain⟨a,b⟩:=MkS.CA bs ((s.const n).put 4 (xE o) [s.num n] []) [];refine⟨MkS.le_trans (s.Q8 n) (MkS.le_trans (MkS.bA _ _ _ _ _) (MkS.le_trans a (MkS.bA _ _ _ _ _))),?_⟩;unfold MkS.qH MkS.kI;have h1:=jn (s.const n) 4 (xE o) [s.num n] [];have h2:(uq ⟨4,(s.const n).pos,xE o,[s.num n],[]⟩).length=7:=by simp[uq,gB,kG,uY,kJ]
 have h3:∀ p,(uq ⟨if f=2 then 9 else 8,p,0,[],zV 6 0⟩).length=13:=fun p=>by split<;>simp[uq,gB,kG,uY]
 rw[jn,h3];have:=(vz s n).1;omega
theorem MkS.Kj(s:MkS)(op:Nat)(t:Wd)(h:op=1\/op=2\/op=3):(s.one op t).sz<=s.sz+5:=by
 unfold MkS.one;rw[jn];have:=(vz s t).1;have hx:(uq ⟨op,(s.const t).pos,0,[s.num t],[]⟩).length=3:=by rcases h with rfl|rfl|rfl<;>simp[uq,gB,kG,uY]
 omega
theorem MkS.go_le:∀ (f:Fo) (bg:Wd->MkS->MkS) (s:MkS) (ls:List Nat),(∀ k s,s.le (bg k s)/\(bg k s).sz=s.sz)->s.le (MkS.qx f bg s ls).1/\(MkS.qx f bg s ls).1.sz+15*f.keys.length<=s.sz+f.cw
 | .nil,bg,s,ls,hb=>⟨s.le_refl,z8 _⟩
 | .text t r,bg,s,ls,hb=>by
  obtain⟨a,b⟩:=MkS.go_le r bg (s.one 1 t) ls hb;have:=s.Kj 1 t (.inl rfl);exact⟨MkS.le_trans (s.NT _ _) a,by simp only[Fo.keys,Fo.cw,MkS.qx,zg];omega⟩
 | .hash r,bg,s,ls,hb=>by
  obtain⟨a,b⟩:=MkS.go_le r bg (s.put 6 0 [] []) ls hb;have:=jn s 6 0 [] [];have hx:(uq ⟨6,s.pos,0,[],[]⟩).length=1:=by simp[uq,gB,kG]
  exact⟨MkS.le_trans (s.bA _ _ _ _) a,by simp only[Fo.keys,Fo.cw,MkS.qx,zg];omega⟩
 | .put n _ r,bg,s,ls,hb=>by
  obtain⟨a,b⟩:=MkS.go_le r bg (s.one 2 n) ls hb;have:=s.Kj 2 n (.inr (.inl rfl));exact⟨MkS.le_trans (s.NT _ _) a,by simp only[Fo.keys,Fo.cw,MkS.qx,zg];omega⟩
 | .num n _ r,bg,s,ls,hb=>by
  obtain⟨a,b⟩:=MkS.go_le r bg (s.one 3 n) ls hb;have:=s.Kj 3 n (.inr (.inr rfl));exact⟨MkS.le_trans (s.NT _ _) a,by simp only[Fo.keys,Fo.cw,MkS.qx,zg];omega⟩
 | .br n _ f o _ bs r,bg,s,ls,hb=>by
  have Wl:=fun (l:List Nat) (x:MkS)=>MkS.Gc (fun s i=>MkS.u7 s i 0) (fun s i=>s.ZF i 0) l x
  have VH:=fun (l:List Nat) (x:MkS)=>MkS.Zh (fun s i=>MkS.u7 s i 0) (fun s i=>gI s i 0) l x
  rw[MkS.qx];split
  ·obtain⟨a,b⟩:=MkS.go_le bs (MkS.b7 n bs s) (MkS.ky n bs s) [] (fun k x=>MkS.CT n bs s k x);obtain⟨c,d⟩:=MkS.Ca n bs s;obtain⟨e,g⟩:=MkS.go_le r bg ((MkS.qx bs (MkS.b7 n bs s) (MkS.ky n bs s) []).2.foldl (fun s i=>MkS.u7 s i 0) (MkS.qx bs (MkS.b7 n bs s) (MkS.ky n bs s) []).1) ls hb;rw[VH] at g;exact⟨MkS.le_trans c (MkS.le_trans a (MkS.le_trans (Wl _ _) e)),by simp only[Fo.keys,Fo.cw,zg];omega⟩
  ·obtain⟨a,b⟩:=MkS.go_le bs (MkS.jU n o bs s) (MkS.qH n o f bs s) [] (fun k x=>MkS.CW n o bs s k x);obtain⟨c,d⟩:=MkS.Cc n o f bs s;obtain⟨e,g⟩:=MkS.go_le r bg (((MkS.qx bs (MkS.jU n o bs s) (MkS.qH n o f bs s) []).2.foldl (fun s i=>MkS.u7 s i 0) (MkS.qx bs (MkS.jU n o bs s) (MkS.qH n o f bs s) []).1).put 5 0 [] []) ls hb;rw[jn,VH] at g;have hx:∀ p,(uq ⟨5,p,0,[],[]⟩).length=1:=fun p=>by simp[uq,gB,kG]
   rw[hx] at g;exact⟨MkS.le_trans c (MkS.le_trans a (MkS.le_trans (Wl _ _) (MkS.le_trans (MkS.bA _ _ _ _ _) e))),by simp only[Fo.keys,Fo.cw,zg];omega⟩
 | .uf k _ m r,bg,s,ls,hb=>by
  obtain⟨a,b⟩:=MkS.go_le m (fun _ s=>s) (bg k s) [] (fun _ s=>⟨s.le_refl,rfl⟩);obtain⟨c,d⟩:=MkS.go_le r bg ((MkS.qx m (fun _ s=>s) (bg k s) []).1.put 11 0 [] [0]) (ls++[(MkS.qx m (fun _ s=>s) (bg k s) []).1.code.length]) hb;rw[jn] at d;have hx:∀ p,(uq ⟨11,p,0,[],[0]⟩).length=3:=fun p=>by simp[uq,gB,kG,uY]
  rw[hx] at d;have:=(hb k s).2;exact⟨MkS.le_trans (hb k s).1 (MkS.le_trans a (MkS.le_trans (MkS.bA _ _ _ _ _) c)),by simp only[Fo.keys,Fo.cw,MkS.qx,zI];omega⟩
theorem NW(m:Fo)(s:MkS):s.le (MkS.dS m s)/\(MkS.dS m s).sz<=s.sz+m.cw:=by
 obtain⟨a,b⟩:=MkS.go_le m (fun _ s=>s) s [] (fun _ s=>⟨s.le_refl,rfl⟩);exact⟨a,by unfold MkS.dS;omega⟩
theorem xS{lo hi:Nat}{w0 W:World}(h:vQ lo hi w0 W){b j:Nat}{v:Value}(hc:w0.cell? ⟨b,j,none⟩=some v)(h1:lo<=b)(h2:b<hi):W.cell? ⟨b,j,none⟩=some v:=(h.cell (p:=⟨b,j,none⟩) h1 h2).trans hc
def ay{σ:Type}(lo hi:Nat)(w0:World)(v:Value)(I:σ->Nat->World->Prop)(F:σ->Fo->Out σ)(f:Fo):Prop :=
 ∀ s room W a c vs,I s (room+f.cnt) W->U5 lo hi w0 a vs->xY lo hi w0 vs f->Calls prog 49 #[.slice a f.len c,v] W (zuz I room (vP F f s))
theorem SI{σ:Type}{lo hi:Nat}{w0:World}{v:Value}{I:σ->Nat->World->Prop}{F:σ->Fo->Out σ}(hy:NO lo hi w0 v I F)(f:Fo)(hm:f.vG=true)(hw:f.wf 2000000=true)(hl:f.len<=2000000)
  (ih:∀ m:Fo,zy m<zy f->m.vG=true->m.wf 2000000=true->m.len<=2000000->ay lo hi w0 v I F m):ay lo hi w0 v I F f:=by
 intro s room W a c vs hI vD kE;obtain⟨⟨k,cap,rfl,CQ,vY⟩,Kt,Ce,wB⟩:=hy;have Vm:=z7 wB;obtain⟨L,hL⟩:=xX f.len;rw[hL];have DW:vs.length=L:=(xY.count f vs kE hm).trans hL;obtain⟨R,hR⟩:=xX (vP F f s);rw[hR];have HI0:=z7 hI;have qV:=z7 vD;have YQ:=z7 kE;have HM:=z7 hm;have HW:=z7 hw;have HR:=z7 hR;have ur:=z7 vY;have XE:=z7 Kt;have ygd:=z7 Ce;have oW:=z7 ih;have Ci:=z7 DW;have HL:=z7 hL;have hL2:L<=2000000:=by omega
 clear hI vD kE hm hw hR vY Kt Ce wB ih DW hl hL;go_enter func49,ntmps49;go_wp2_with fail;go_loopw [14] (fun iv wr=>∃ i us xs r s1,iv = .int .i64 (i:Nat)/\i<=L/\xY lo hi w0 xs r/\r.vG=true/\r.wf 2000000=true/\us.length=i/\vs=us++xs/\i+r.len=L/\zy r<=zy f/\I s1 (room+r.cnt) wr/\vP F r s1=R) (fun iv _=>L - (intOf iv).toNat)
 case atStart=>exact⟨0,[],vs,f,s,rfl,zj _,YQ.out,HM.out,HW.out,rfl,rfl,by have:=HL.out;omega,z8 _,HI0.out,HR.out⟩
 case round =>
  obtain⟨i,us,xs,r,s1,rfl,hiL,gp,wC,Cl,Vl,wE,kS,qP,UN,Xv⟩:=hrel;have HN:=z7 gp;have Kg:=z7 wC;have Qz:=z7 Cl;have Mm:=z7 wE;have Cm:=z7 Vl;have Kf:=z7 UN;have fX:=z7 Xv;clear gp wC Cl wE Vl UN Xv;by_cases xD:i<L
  ·obtain⟨x0,xt,R4⟩:∃ x0 xt,xs=x0::xt:=by
    cases xs with
    | nil=>have h1:=Ci.out;rw[Mm.out] at h1;have:=Cm.out;simp at h1;omega
    | cons a b=>exact⟨a,b,rfl⟩
   subst R4;obtain⟨g,o,rfl,Ze,ft,xi⟩:=qV.out i (by have:=Ci.out;omega);have JQ:vs[i]'(by have:=Ci.out;omega)=x0:=by
    have h1:vs[i]? = some x0:=by rw[Mm.out,←Cm.out];simp
    rw[zG (by have:=Ci.out;omega)] at h1;exact zF h1
   rw[JQ] at xi;have qX:=xS (XE.out _ _ wr Kf.out) xi Ze ft;have k1:(i:Int)<(L:Int):=by omega
   have k2:decide ((i:Int)<(L:Int))=true:=by simp;omega
   have du:=z7 qP;clear xi JQ qP
   cases r with
   | nil =>
    have:=HN.out
    cases this
   | uf k0 a0 m0 r0=>have:=Kg.out;cases this
   | text t r =>
    obtain⟨vt,he,gp⟩:=HN.out
    cases he;have e1:=IE t;have e2:=IH t;have e3:=NP t;have Ql:=z7 gp;clear gp;have Qz:=z7 (show r.wf 2000000=true from Qz.out);have Kg:=z7 (show r.vG=true from Kg.out);have Xj:=z7 (show i+(r.len+1)=L from kS);have VI:=z7 (show vP F r s1=R from fX.out);have du:=z7 (show zy r<=zy f by have:=du.out;simp at this;omega);go_wp2;go_roundw
    case rel=>exact⟨i+1,us++[(.iface 262 (xk t))],_,r,s1,by simp,by omega,Ql.out,Kg.out,Qz.out,by simp[Cm.out],by rw[Mm.out,zk];rfl,by have:=Xj.out;omega,by have:=du.out;omega,Kf.out,VI.out⟩
    case measure=>simp only[intOf];omega
   | hash r =>
    obtain⟨vt,he,gp⟩:=HN.out
    cases he;have e1:=II;have e2:=IL;have e3:=NR;have Ql:=z7 gp;clear gp;have Qz:=z7 (show r.wf 2000000=true from Qz.out);have Kg:=z7 (show r.vG=true from Kg.out);have Xj:=z7 (show i+(r.len+1)=L from kS);have VI:=z7 (show vP F r s1=R from fX.out);have du:=z7 (show zy r<=zy f by have:=du.out;simp at this;omega);go_wp2;go_roundw
    case rel=>exact⟨i+1,us++[(.iface 264 (.agg #[]))],_,r,s1,by simp,by omega,Ql.out,Kg.out,Qz.out,by simp[Cm.out],by rw[Mm.out,zk];rfl,by have:=Xj.out;omega,by have:=du.out;omega,Kf.out,VI.out⟩
    case measure=>simp only[intOf];omega
   | put n a r =>
    obtain⟨vt,b0,he,xB,xF,gh,Uj,gp⟩:=HN.out
    cases he;have Mn:=xS (XE.out _ _ wr Kf.out) gh xB xF;have Au:=xS (XE.out _ _ wr Kf.out) Uj xB xF;have e1:=GA b0;have Ql:=z7 gp;have ZK:(decide (n.length<=4000001) && r.wf 2000000)=true:=Qz.out;simp only[zY,decide_eq_true_eq] at ZK;have Qy:room+(Fo.put n a r).cnt=(room+r.cnt)+(Fo.put n a .nil).wt:=by simp only[Fo.cnt,Fo.wt];omega
    have ax:=Kf.out;rw[Qy] at ax;have Wm:=z7 (ur.out s1 (room+r.cnt) wr (.put n a .nil) (.iface 172 (.pointer (some ⟨b0,0,none⟩))) n a ax ⟨[],b0,rfl,xB,xF,gh,Uj,rfl⟩ (by simp[Fo.wf,ZK.1]) rfl);have Qz:=z7 ZK.2;clear gp ZK Qy ax;have Kg:=z7 (show r.vG=true from Kg.out);have Xj:=z7 (show i+(r.len+1)=L from kS);have du:=z7 (show zy r<=zy f by have:=du.out;simp at this;omega);obtain⟨o1,DS⟩:=xX (F s1 (.put n a .nil));have b6:=fX.out;rw[vP,DS] at b6;have Jn:=z7 b6.symm;rw[DS] at Wm;clear DS b6 fX gh Uj;go_wp2_with fail;refine Wm.out.mono ?_;rintro e w2 hq
    cases o1 with
    | CS c s2 =>
     obtain⟨rfl,CK⟩:=hq;have VI:=z7 (show R = .CS c s2 from Jn.out);go_wp2;refine⟨rfl,?_⟩;rw[VI.out];exact⟨rfl,Vm.out _ _ _ _ CK (by omega)⟩
    | go b s2 =>
     obtain⟨rfl,CK⟩:=hq;have NA:=z7 CK;clear CK
     cases b with
     | false =>
      have VI:=z7 (show R = .go false s2 from Jn.out);go_wp2;go_ret;rw[VI.out];exact⟨rfl,Vm.out _ _ _ _ NA.out (by omega)⟩
     | true =>
      have VI:=z7 (show vP F r s2=R from Jn.out.symm);go_wp2;go_roundw
      case rel=>exact⟨i+1,us++[(.iface 172 (.pointer (some ⟨b0,0,none⟩)))],_,r,s2,by simp,by omega,Ql.out,Kg.out,Qz.out,by simp[Cm.out],by rw[Mm.out,zk];rfl,by have:=Xj.out;omega,by have:=du.out;omega,NA.out,VI.out⟩
      case measure=>simp only[intOf];omega
   | num n a r =>
    obtain⟨vt,b0,he,xB,xF,gh,Uj,gp⟩:=HN.out
    cases he;have Mn:=xS (XE.out _ _ wr Kf.out) gh xB xF;have Au:=xS (XE.out _ _ wr Kf.out) Uj xB xF;have e1:=Ga b0;have e2:=Uk b0;have Ql:=z7 gp;have ZK:(decide (n.length<=4000001) && r.wf 2000000)=true:=Qz.out;simp only[zY,decide_eq_true_eq] at ZK;have Qy:room+(Fo.num n a r).cnt=(room+r.cnt)+(Fo.num n a .nil).wt:=by simp only[Fo.cnt,Fo.wt];omega
    have ax:=Kf.out;rw[Qy] at ax;have Wm:=z7 (ur.out s1 (room+r.cnt) wr (.num n a .nil) (.iface 175 (.pointer (some ⟨b0,0,none⟩))) n a ax ⟨[],b0,rfl,xB,xF,gh,Uj,rfl⟩ (by simp[Fo.wf,ZK.1]) rfl);have Qz:=z7 ZK.2;clear gp ZK Qy ax;have Kg:=z7 (show r.vG=true from Kg.out);have Xj:=z7 (show i+(r.len+1)=L from kS);have du:=z7 (show zy r<=zy f by have:=du.out;simp at this;omega);obtain⟨o1,DS⟩:=xX (F s1 (.num n a .nil));have b6:=fX.out;rw[vP,DS] at b6;have Jn:=z7 b6.symm;rw[DS] at Wm;clear DS b6 fX gh Uj;go_wp2_with fail;refine Wm.out.mono ?_;rintro e w2 hq
    cases o1 with
    | CS c s2 =>
     obtain⟨rfl,CK⟩:=hq;have VI:=z7 (show R = .CS c s2 from Jn.out);go_wp2;refine⟨rfl,?_⟩;rw[VI.out];exact⟨rfl,Vm.out _ _ _ _ CK (by omega)⟩
    | go b s2 =>
     obtain⟨rfl,CK⟩:=hq;have NA:=z7 CK;clear CK
     cases b with
     | false =>
      have VI:=z7 (show R = .go false s2 from Jn.out);go_wp2;go_ret;rw[VI.out];exact⟨rfl,Vm.out _ _ _ _ NA.out (by omega)⟩
     | true =>
      have VI:=z7 (show vP F r s2=R from Jn.out.symm);go_wp2;go_roundw
      case rel=>exact⟨i+1,us++[(.iface 175 (.pointer (some ⟨b0,0,none⟩)))],_,r,s2,by simp,by omega,Ql.out,Kg.out,Qz.out,by simp[Cm.out],by rw[Mm.out,zk];rfl,by have:=Xj.out;omega,by have:=du.out;omega,NA.out,VI.out⟩
      case measure=>simp only[intOf];omega
   | br n a fo of cl bs r =>
    obtain⟨vt,b0,ba,bc,ws,he,xB,xF,gh,Uj,jJ,Cn,DZ,Mo,Kd,UP,gp⟩:=HN.out
    cases he;have Mn:=xS (XE.out _ _ wr Kf.out) gh xB xF;have Au:=xS (XE.out _ _ wr Kf.out) Uj xB xF;have e1:=Bb b0;have e2:=Ku b0;have e3:=Q7 b0;have Ql:=z7 gp;have Wn:=z7 UP;have Mp:=z7 Kd;have ZK:(decide (n.length<=4000001) && decide (fo<3) && bs.uv && decide (bs.len<=2000000) && bs.wf 2000000 && r.wf 2000000)=true:=Qz.out;simp only[zY,decide_eq_true_eq] at ZK;obtain⟨⟨⟨⟨⟨oA,Uw⟩,N7⟩,IN⟩,qG⟩,zl7⟩:=ZK;have Qy:room+(Fo.br n a fo of cl bs r).cnt=(room+r.cnt+bs.cnt)+(Fo.br n a fo of cl bs .nil).wt:=by simp only[Fo.cnt,Fo.wt];omega
    have ax:=Kf.out;rw[Qy] at ax;have Wm:=z7 (ur.out s1 (room+r.cnt+bs.cnt) wr (.br n a fo of cl bs .nil) (.iface 177 (.pointer (some ⟨b0,0,none⟩))) n a ax ⟨[],b0,ba,bc,ws,rfl,xB,xF,gh,Uj,jJ,Cn,DZ,Mo,Kd,UP,rfl⟩ (by simp[Fo.wf,oA,Uw,N7,IN,qG]) rfl);have HC4:=z7 DZ;have Qz:=z7 zl7;have HBL:=z7 N7;have IP:=z7 qG;have Kg:=z7 (show r.vG=true from Kg.out);have Xj:=z7 (show i+(r.len+1)=L from kS);have du:=z7 (show zy r<=zy f/\zy bs<zy f by have:=du.out;simp at this;omega);obtain⟨o1,DS⟩:=xX (F s1 (.br n a fo of cl bs .nil));have b6:=fX.out;rw[vP,DS] at b6;have Jn:=z7 b6.symm;rw[DS] at Wm;clear DS b6 fX gh Uj jJ Cn DZ Mo Kd UP gp zl7 N7 qG Qy ax;go_wp2_with fail;refine Wm.out.mono ?_;rintro e w2 hq
    cases o1 with
    | CS c s2 =>
     obtain⟨rfl,CK⟩:=hq;have VI:=z7 (show R = .CS c s2 from Jn.out);go_wp2;refine⟨rfl,?_⟩;rw[VI.out];exact⟨rfl,Vm.out _ _ _ _ CK (by omega)⟩
    | go b s2 =>
     obtain⟨rfl,CK⟩:=hq;have NA:=z7 CK;clear CK
     cases b with
     | false =>
      have VI:=z7 (show R = .go false s2 from Jn.out);go_wp2;go_ret;rw[VI.out];exact⟨rfl,Vm.out _ _ _ _ NA.out (by omega)⟩
     | true =>
      have VI:=z7 (show(vP F bs s2).then (fun s=>vP F r s)=R from Jn.out.symm);have hh4:=xS (XE.out _ _ w2 NA.out) HC4.out xB xF;clear Mn Au qX Wm Jn Kf;go_wp2_with fail;go_loopw [60] (fun iv wq=>∃ i2 us2 xs2 r2 s3,iv = .int .i64 (i2:Nat)/\i2<=bs.len/\xY lo hi w0 xs2 r2/\r2.uv=true/\r2.wf 2000000=true/\us2.length=i2*3/\ws=us2++xs2/\i2+r2.len=bs.len/\zy r2<=zy bs/\I s3 (room+r.cnt+r2.cnt) wq/\(vP F r2 s3).then (fun s=>vP F r s)=R) (fun iv _=>bs.len - (intOf iv).toNat)
      case atStart=>exact⟨0,[],ws,bs,s2,rfl,zj _,Wn.out,HBL.out,IP.out,rfl,rfl,by omega,z8 _,NA.out,VI.out⟩
      case round =>
       obtain⟨i2,us2,xs2,r2,s3,rfl,xuj,zl9,zlz,zly,zlx,zlv,Na,Kv,hi3,Xk⟩:=hrel;have nJ:=z7 zl9;have Ug:=z7 zlz;have zuy:=z7 zly;have IW:=z7 zlv;have DA:=z7 zlx;have av:=z7 hi3;have Dk:=z7 Xk;have yf0:=z7 Kv;have au:=z7 Na;clear zl9 zlz zly zlv zlx hi3 Xk Kv;by_cases Zj:i2<bs.len
       ·cases r2 with
        | nil=>exfalso;simp[Fo.len] at Na;omega
        | text t r=>have:=Ug.out;cases this
        | hash r=>have:=Ug.out;cases this
        | put n a r=>have:=Ug.out;cases this
        | num n a r=>have:=Ug.out;cases this
        | br n a fo of cl bs r=>have:=Ug.out;cases this
        | uf k0 a0 m0 r0 =>
         obtain⟨R5,ma,mc,ms,Co,XH,aq,Qx⟩:=nJ.out;subst Co;have wH:ws.length=us2.length+(R5.length+3):=by rw[IW.out];simp
         have VG:∀ j v,[xk k0,.int .i64 (a0:Nat),.slice ma m0.len mc][j]? = some v->∃ (h:i2*3+j<ws.length),ws[i2*3+j]=v:=by
          intro j v hj;have hj3:j<3:=by
           apply Classical.byContradiction;intro hc;rw[List.getElem?_eq_none (by simp;omega)] at hj
           cases hj
          refine⟨by have:=DA.out;omega,?_⟩;have h1:ws[i2*3+j]? = some v:=by
           rw[IW.out,←DA.out,List.getElem?_append_right (by omega),Nat.add_sub_cancel_left,←hj];match j,hj3 with
           | 0,_=>rfl
           | 1,_=>rfl
           | 2,_=>rfl
          rw[zG (by have:=DA.out;omega)] at h1;exact zF h1
         obtain⟨q0,p0⟩:=VG 0 _ rfl;obtain⟨q1,p1⟩:=VG 1 _ rfl;obtain⟨q2,p2⟩:=VG 2 _ rfl;obtain⟨g2,o2,rfl,Nc,Ni,d0⟩:=Mp.out (i2*3+0) q0;obtain⟨om,o2',hgg,_,_,d1⟩:=Mp.out (i2*3+1) q1
         cases hgg;obtain⟨om,o2',hgg,_,_,d2⟩:=Mp.out (i2*3+2) q2
         cases hgg;rw[p0] at d0;rw[p1] at d1;rw[p2] at d2;have c0:=xS (XE.out _ _ wr av.out) d0 Nc Ni;have c1:=xS (XE.out _ _ wr av.out) d1 Nc Ni;have c2:=xS (XE.out _ _ wr av.out) d2 Nc Ni;simp only[Nat.add_zero,←Nat.add_assoc] at c0 c1 c2;have yf2:=z7 XH;have yf3:=z7 aq;have ot:=z7 Qx;have k3:(i2:Int)<(bs.len:Int):=by omega
         have k4:decide ((i2:Int)<(bs.len:Int))=true:=by simp;omega
         clear XH aq Qx d0 d1 d2 p0 p1 p2 VG;have aj:(decide (k0.length<=4000001) && m0.vG && decide (m0.len<=2000000) && m0.wf 2000000 && r0.wf 2000000)=true:=zuy.out;simp only[zY,decide_eq_true_eq] at aj;obtain⟨⟨⟨⟨_,Vc⟩,jI⟩,Ke⟩,Kc⟩:=aj;have Da:zy m0<zy f/\zy r0<=zy bs:=by have:=du.out;have:=yf0.out;simp at this;omega
         have HEC:=z7 (oW.out m0 Da.1 Vc Ke jI s3 (room+r.cnt+r0.cnt) (wr.alloc (.cells #[xk k0,.int .i64 (a0:Nat),.slice ma m0.len mc] 183)) ma mc ms (ygd.out s3 _ wr _ (by have:=av.out;rw[show room+r.cnt+(Fo.uf k0 a0 m0 r0).cnt=room+r.cnt+r0.cnt+m0.cnt from by simp only[Fo.cnt];omega] at this;exact this) ((zf _ _).alloc (z8 _) _)) yf2.out yf3.out);have HSS:=z7 Da.2;have oh:=z7 Kc;have ow:=z7 (show r0.uv=true from Ug.out);have p6:=z7 (show i2+(r0.len+1)=bs.len from au.out);obtain⟨oo,hoo⟩:=xX (vP F m0 s3);have Gk:=Dk.out;rw[vP,hoo] at Gk;have Jn:=z7 Gk.symm;rw[hoo] at HEC;clear hoo Gk Vc jI Ke Kc Da;go_wp2_with fail;refine HEC.out.mono ?_;rintro e w3 hq
         cases oo with
         | CS c s4 =>
          obtain⟨rfl,hi4⟩:=hq;have VI:=z7 (show R = .CS c s4 from Jn.out);go_wp2;refine⟨rfl,?_⟩;rw[VI.out];exact⟨rfl,Vm.out _ _ _ _ hi4 (by omega)⟩
         | go b s4 =>
          obtain⟨rfl,hi4⟩:=hq;have zlu:=z7 hi4;clear hi4
          cases b with
          | false =>
           have VI:=z7 (show R = .go false s4 from Jn.out);go_wp2;go_ret;rw[VI.out];exact⟨rfl,Vm.out _ _ _ _ zlu.out (by omega)⟩
          | true =>
           have VI:=z7 (show(vP F r0 s4).then (fun s=>vP F r s)=R from Jn.out.symm);go_wp2;go_roundw
           case rel=>exact⟨i2+1,us2++[xk k0,.int .i64 (a0:Nat),.slice ma m0.len mc],R5,r0,s4,by simp,by omega,ot.out,ow.out,oh.out,by have:=DA.out;simp;omega,by rw[IW.out,zk];rfl,by have:=p6.out;omega,HSS.out,zlu.out,VI.out⟩
           case measure=>simp only[intOf];omega
       ·have k4:decide ((i2:Int)<(bs.len:Int))=false:=by simp;omega
        have vv:r2 = .nil:=by
         have:=Ug.out
         cases r2<;>simp[Fo.len] at Na<;>first|rfl|omega
        have HRY:=z7 (show vP F r s3=R by rw[←Dk.out,vv];rfl);have du:=z7 du.out.1;go_wp2;go_roundw
        case rel=>exact⟨i+1,us++[(.iface 177 (.pointer (some ⟨b0,0,none⟩)))],_,r,s3,by simp,by omega,Ql.out,Kg.out,Qz.out,by simp[Cm.out],by rw[Mm.out,zk];rfl,by have:=Xj.out;omega,by have:=du.out;omega,Vm.out _ _ _ _ av.out (by omega),HRY.out⟩
        case measure=>simp only[intOf];omega
  ·have k2:decide ((i:Int)<(L:Int))=false:=by simp;omega
   have vv:r = .nil:=by
    cases r<;>simp[Fo.len] at kS<;>first|rfl|omega
   have VI:=z7 (show R = .go true s1 by rw[←fX.out,vv];rfl);go_wp2;go_ret;rw[VI.out];exact⟨rfl,Vm.out _ _ _ _ Kf.out (by omega)⟩
theorem IA{σ:Type}{lo hi:Nat}{w0:World}{v:Value}{I:σ->Nat->World->Prop}{F:σ->Fo->Out σ}(hy:NO lo hi w0 v I F):∀ (n:Nat) (f:Fo),zy f<n->f.vG=true->f.wf 2000000=true->f.len<=2000000->ay lo hi w0 v I F f
 | 0,f,h,_,_,_=>absurd h (Nat.not_lt_zero _)
 | n+1,f,h,hm,hw,hl=>SI hy f hm hw hl fun m h1 h2 h3 h4=>IA hy n m (by omega) h2 h3 h4
end Go.Proofs.YthpldolmpinnhaaGreatDoor
