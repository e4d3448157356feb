import Derived.Test.YthpldolmpinnhaaGreatDoorJP15
import Derived.Test.YthpldolmpinnhaaGreatDoorShelf
import Derived.Recover
import Derived.WalkSmall
import Derived.Laws.IdiomStrings
set_option maxHeartbeats 64000000
open Go.Lib renaming hid→z7,Utf8Tabs→zH
open Nat renaming le_refl→z8,zero_le→zj
open SizeOf renaming sizeOf→zy
open Go.Instr renaming typeAssert→zx
open Go.Addr renaming block→zv
open Go.World renaming frozen?_setCell→zu,block_lt_of_cell?→zZ,frozen?_of_block→zX,cell?_of_block→zD,cell?_alloc_lt→zE
open List renaming append_assoc→zk,length_nil→zg,replicate→zV,length_pos_iff→zU,eq_nil_of_length_eq_zero→zQ,getElem?_eq_getElem→zG,length_cons→zL,drop_zero→zM
open Go.RowKit.Below renaming refl→zf
open Bool renaming and_eq_true→zY
open ByteArray renaming size_extract→zJ
open Option.some renaming inj→zF
open Go.Proofs.Tryz
namespace Go.Proofs.YthpldolmpinnhaaGreatDoor
open Go Go.RowKit
set_option maxRecDepth 10000
theorem Rw{w W:World}(h:zH 3 4 w)(hb:Below w.heap.size w W):zH 3 4 W:=by
 have lt:∀ (a:Addr) (v:Value),w.cell? a=some v->a.block<w.heap.size:=fun a v h=>zZ w a h
 refine⟨fun c hc=>?_,fun i hi=>⟨?_,?_⟩⟩
 ·rw[hb.cell (lt _ _ (h.1 c hc))];exact h.1 c hc
 ·rw[hb.cell (lt _ _ (h.2 i hi).1)];exact(h.2 i hi).1
 ·rw[hb.cell (lt _ _ (h.2 i hi).2)];exact(h.2 i hi).2
theorem Cj(b:Nat)(w:World):(zx (.iface 101 (.pointer (some ⟨b,0,none⟩))) 20 101 true).run prog w = .ok (.tuple #[.pointer (some ⟨b,0,none⟩),.bool true]) w:=by rfl
theorem Ho(w:World):(zx .nilIface 20 101 true).run prog w = .ok (.tuple #[.pointer none,.bool false]) w:=by rfl
theorem Ms(A B:Nat)(w:World):CallsD prog 109 #[.pointer (some ⟨A,0,none⟩),.pointer (some ⟨B,0,none⟩)] .returning w fun e u' w'=>e = .returned (.tuple #[])/\u' = .returning/\w'=w:=by
 refine callsD_of_wpS func109 rfl fun c₀ cs hu=>?_
 have ha:=Ho;apply wpS_seq;apply wpS_region;simp[wpOpsS,go_sem,recoverD,hu,ha,ntmps109,Exit.thenS];refine wpS_of_wp ?_;go_wp2
 cases c₀;simp_all [bodyPostS,results,results109]
theorem ZF(A B b:Nat)(u v:Value)(uM:List PanicEntry)(w:World)(hA:w.cell? ⟨A,0,none⟩=some u)(hAz:w.frozen? ⟨A,0,none⟩=false)(hB:w.cell? ⟨B,0,none⟩=some v)(hBz:w.frozen? ⟨B,0,none⟩=false)(hAB:B≠A) :
  CallsD prog 109 #[.pointer (some ⟨A,0,none⟩),.pointer (some ⟨B,0,none⟩)] (.panicking ({ v := .iface 101 (.pointer (some ⟨b,0,none⟩)),recovered:=false }::uM)) w fun e u' w' =>
   e = .returned (.tuple #[])/\u' = .panicking ({ v := .iface 101 (.pointer (some ⟨b,0,none⟩)),recovered:=true }::uM)/\w'=(w.setCell ⟨A,0,none⟩ (.slice none 0 0)).setCell ⟨B,0,none⟩ (.iface 101 (.pointer (some ⟨b,0,none⟩))):=by
 have ha:=Cj b;refine callsD_of_wpS func109 rfl fun c₀ cs hu=>?_
 apply wpS_seq;apply wpS_region;simp[wpOpsS,go_sem,recoverD,hu,ha,ntmps109,Exit.thenS];refine wpS_of_wp ?_;simp only[Array.replicate,zV,List.setIfInBounds_toArray,List.set_cons_zero,List.set_cons_succ,List.append_toArray,List.cons_append,List.nil_append,Act.put];have hB':(w.setCell ⟨A,0,none⟩ (.slice none 0 0)).cell? ⟨B,0,none⟩=some v:=by rw[xd,if_neg (fun e=>hAB (congrArg zv e).symm)];exact hB
 go_wp2;simp[bodyPostS,results,results109]
def uW(l:List UInt8):Except (Nat×Nat) Fo :=
 if 1000<l.length then .error (1,0)
 else if (vo l).2<l.length then .error (2,(vo l).1.length)
 else match ZR (xO l) with | .error e => .error e | .ok x => .ok x.1
def zx8(r:Except (Nat×Nat) Fo)(w:World)(e:Ending)(w':World):Prop :=
 (match r with
  | .error (n,a)=>∃ b,e = .returned (.tuple #[.slice none 0 0,.iface 101 (.pointer (some ⟨b,0,none⟩))])/\w'.cell? ⟨b,0,none⟩=some (.int .i64 n)/\w'.cell? ⟨b,1,none⟩=some (.int .i64 a)
  | .ok f=>(∃ a c vs,e = .returned (.tuple #[.slice a f.len c,.nilIface])/\Vn w.heap.size w'.heap.size w' a vs/\xV w.heap.size w'.heap.size w' vs f)/\f.vD=true)/\Below w.heap.size w w'
structure kg(A:Nat)(u v:Value)(w:World):Prop where
 c0:w.cell? ⟨A,0,none⟩=some u
 c1:w.cell? ⟨A+1,0,none⟩=some v
 z0:w.frozen? ⟨A,0,none⟩=false
 z1:w.frozen? ⟨A+1,0,none⟩=false
theorem kg.keep{A:Nat}{u v:Value}{w w':World}(h:kg A u v w)(hb:∀ k,k=A\/k=A+1->w'.heap[k]? = w.heap[k]?):kg A u v w' :=
 ⟨(zD (a:=⟨A,0,none⟩) (hb A (.inl rfl))).trans h.c0,(zD (a:=⟨A+1,0,none⟩) (hb _ (.inr rfl))).trans h.c1,
  (zX (a:=⟨A,0,none⟩) (hb A (.inl rfl))).trans h.z0,(zX (a:=⟨A+1,0,none⟩) (hb _ (.inr rfl))).trans h.z1⟩
theorem kg.lt{A:Nat}{u v:Value}{w:World}(h:kg A u v w):A+1<w.heap.size:=zZ w _ h.c1
theorem kg.below{A:Nat}{u v:Value}{w w':World}(h:kg A u v w)(hb:Below w.heap.size w w'):kg A u v w' :=
 h.keep fun k hk=>hb.block k (by have:=h.lt;omega)
theorem kg.but{A p:Nat}{u v:Value}{w w':World}(h:kg A u v w)(hb:xl p w w')(hp:A+1<p):kg A u v w' :=
 h.keep fun k hk=>hb.block k (by have:=h.lt;omega) (by omega)
theorem kg.Yw{A:Nat}{u v x:Value}{w:World}(h:kg A u v w):kg A x v (w.setCell ⟨A,0,none⟩ x) :=
 ⟨by rw[xd,if_pos rfl,h.c0];rfl,by rw[xd,if_neg (by simp)];exact h.c1,by rw[zu];exact h.z0,by rw[zu];exact h.z1⟩
theorem kg.Cg{A:Nat}{u v x:Value}{w:World}(h:kg A u v w):kg A u x (w.setCell ⟨A+1,0,none⟩ x) :=
 ⟨by rw[xd,if_neg (by simp)];exact h.c0,by rw[xd,if_pos rfl,h.c1];rfl,by rw[zu];exact h.z0,by rw[zu];exact h.z1⟩
theorem vJ.ykg{p A:Nat}{rs:List Int}{i d:Nat}{w:World}{a:Option Addr}{n c:Nat}(h:vJ p rs i d w)(hA:w.cell? ⟨A,0,none⟩=some (.slice a n c))(xw:A≠p)(u:Value):vJ p rs i d (w.setCell ⟨A,0,none⟩ u):=by
 obtain⟨⟨g,cap,h0,h1,h2,h3,h4⟩,h5,h6,h7,h8,h9,dV,Qm,UL⟩:=h;have ne:∀ k:Nat,¬(⟨A,0,none⟩:Addr)=⟨p,k,none⟩:=fun k e=>xw (congrArg zv e)
 refine⟨⟨g,cap,by rw[xd,if_neg (ne 0)];exact h0,h1,h2,h3,fun j hj=>?_⟩,by rw[xd,if_neg (ne 1)];exact h5,by rw[xd,if_neg (ne 2)];exact h6,by rw[zu];exact h7,by rw[zu];exact h8,h9,dV,Qm,UL⟩;rw[xd,if_neg (fun e=>by have:=h4 j hj;rw[←e,hA] at this;cases this)];exact h4 j hj
theorem vp{a w:World}{B b:Nat}{x:Value}{j:Nat}(h:Below B a w)(hb:B<=b):Below B a (w.setCell ⟨b,j,none⟩ x) :=
 ⟨h.os,h.tape,h.output,Nat.le_trans h.size (by simp[World.setCell]),fun k hk=>(Below.heap_setCell _ _ _ _ (by show k≠b;omega)).trans (h.block k hk)⟩
theorem AF(l:List UInt8):∀ r∈xO l,0<=r:=by
 have key:∀ (n:Nat) (l:List UInt8),l.length<=n->∀ r∈xO l,0<=r:=by
  intro n;induction n with
  | zero =>
   intro l h r hr;have:l=[]:=zQ (by omega);subst this;rw[kC] at hr
   cases hr
  | succ n ih =>
   intro l h r hr;by_cases h0:l=[]\/xr l=0
   ·rw[xO,dif_pos h0] at hr
    cases hr
   ·have h1:l≠[]:=fun e=>h0 (.inl e)
    have h2:xr l≠0:=fun e=>h0 (.inr e)
    rw[jb h1 h2] at hr;rcases List.mem_cons.1 hr with q|q
    ·omega
    ·exact ih _ (by have:=zU.2 h1;simp;omega) r q
 exact key _ l (z8 _)
theorem V8(l:List UInt8):(xO l).length<=l.length:=by
 have key:∀ (n:Nat) (l:List UInt8),l.length<=n->(xO l).length<=l.length:=by
  intro n;induction n with
  | zero =>
   intro l h;have:l=[]:=zQ (by omega);subst this;rw[kC];simp
  | succ n ih =>
   intro l h;by_cases h0:l=[]\/xr l=0
   ·rw[xO,dif_pos h0];simp
   ·have h1:l≠[]:=fun e=>h0 (.inl e)
    have h2:xr l≠0:=fun e=>h0 (.inr e)
    rw[jb h1 h2];have:=ih (l.drop (xr l)) (by have:=zU.2 h1;simp;omega);have:=zU.2 h1;simp at *;omega
 exact key _ l (z8 _)
theorem Hp(w:World){A:Nat}(hA:w.heap.size=A):kg A (.slice none 0 0) .nilIface ((w.alloc (.cells #[.slice none 0 0] 107)).alloc (.cells #[.nilIface] 73)):=by
 have h1:(w.alloc (.cells #[.slice none 0 0] 107)).heap.size=A+1:=by simp[hA]
 have xC:A<(w.alloc (.cells #[.slice none 0 0] 107)).heap.size:=by omega
 refine⟨?_,?_,?_,?_⟩
 ·rw[zE _ _ _ xC,←hA];exact xq _ _ _ _ _
 ·rw[←h1];exact xq _ _ _ _ _
 ·rw[zX (Below.heap_alloc _ _ _ xC)];subst hA;simp
 ·rw[←h1];simp
theorem S0(s:ByteArray)(w:World)(hs:s.size<=9223372036854775807)(hT:zH 3 4 w)(hN:qP w) :
  Calls prog 78 #[.string s] w (zx8 (uW s.data.toList) w):=by
 have RS:∀ (fn:Fn) (first cap:Array Value) (w:World),(Instr.makeFunc fn first cap).run prog w = .ok (.func fn first cap) w:=fun _ _ _ _=>rfl
 have HT:=z7 hT;have HNA:=z7 hN;obtain⟨A,hA⟩:∃ A,w.heap.size=A:=⟨_,rfl⟩;have HA:=z7 hA;clear hT hN;by_cases sw:1000<s.size
 ·have h1:decide ((1000:Int)<(s.size:Int))=true:=by simp;omega
  have h2:decide (1000<s.size)=true:=by simp;omega
  have HR:=z7 (show uW s.data.toList = .error (1,0) by unfold uW;rw[xN,if_pos sw]);clear sw;go_enter_defers func78,ntmps78
  go_wp2;obtain⟨W,hW⟩:∃ W,((w.alloc (.cells #[.slice none 0 0] 107)).alloc (.cells #[.nilIface] 73)).alloc (.cells #[.int .i64 1,.int .i64 0] 105)=W:=⟨_,rfl⟩;rw[hW];have Y1:kg A (.slice none 0 0) .nilIface W:=by
   rw[←hW];exact(Hp w hA).below ((zf _ _).alloc (z8 _) _)
  have gP:Below A w W:=by
   rw[←hW,←hA];exact((((zf _ _).alloc (z8 _) _).alloc (by simp) _).alloc (by simp;omega) _)
  have hc:=fun i=>xq ((w.alloc (.cells #[.slice none 0 0] 107)).alloc (.cells #[.nilIface] 73)) #[.int .i64 1,.int .i64 0] 105 (0,0) i
  rw[hW,show((w.alloc (.cells #[.slice none 0 0] 107)).alloc (.cells #[.nilIface] 73)).heap.size=A+1+1 by simp[hA]] at hc;clear hW;obtain⟨bf,Jj⟩:∃ bf,A+1+1=bf:=⟨_,rfl⟩;rw[Jj] at hc ⊢;clear Jj;refine leaves_cons (f:=109) (args:=#[.pointer (some ⟨A,0,none⟩),.pointer (some ⟨A+1,0,none⟩)]) (by simp) (by simp[go_sem]) ?_;refine(ZF A (A+1) _ _ _ _ _ Y1.c0 Y1.z0 Y1.c1 Y1.z1 (by omega)).mono ?_;rintro e u' KH ⟨rfl,rfl,rfl⟩;have vP:=(Y1.Yw (x := .slice none 0 0)).Cg (x := .iface 101 (.pointer (some ⟨bf,0,none⟩)));have Vw:=vP.c0;have S1:=vP.c1;simp[Leaves,settle,results,results78,go_sem,Vw,S1];have hF:=HR.out;rw[hF];have AD:bf≠A:=fun e=>by have h1:=(hc 0);rw[e,Y1.c0] at h1;cases h1
  have AB:bf≠A+1:=fun e=>by have h1:=(hc 0);rw[e,Y1.c1] at h1;cases h1
  exact⟨⟨bf,rfl,by rw[xd,if_neg (fun e=>AB (congrArg zv e).symm),xd,if_neg (fun e=>AD (congrArg zv e).symm)];exact(hc 0),by rw[xd,if_neg (fun e=>AB (congrArg zv e).symm),xd,if_neg (fun e=>AD (congrArg zv e).symm)];exact(hc 1)⟩,by rw[HA.out];exact vp (vp gP (by omega)) (by omega)⟩
 ·have h1:decide ((1000:Int)<(s.size:Int))=false:=by simp;omega
  have h2:decide (1000<s.size)=false:=by simp;omega
  go_enter_defers func78,ntmps78
  have Y1:=Hp w hA;have Mt:Below A w ((w.alloc (.cells #[.slice none 0 0] 107)).alloc (.cells #[.nilIface] 73)):=by
   rw[←hA];exact((zf _ _).alloc (z8 _) _).alloc (by simp) _
  have zey:((w.alloc (.cells #[.slice none 0 0] 107)).alloc (.cells #[.nilIface] 73)).heap.size=A+1+1:=by simp[hA]
  obtain⟨W0,EI⟩:∃ W0,(w.alloc (.cells #[.slice none 0 0] 107)).alloc (.cells #[.nilIface] 73)=W0:=⟨_,rfl⟩;rw[EI] at Y1 Mt zey;have HW0:=z7 EI;clear EI;obtain⟨I,hI⟩:∃ I,A+1+1=I:=⟨_,rfl⟩;have HI:=z7 hI;have xyf:s.size<=1000:=by omega
  go_wp2_with fail;clear hI;go_loopw [] (fun wr=>∃ k pre,k<=s.size/\wr.heap[I]? = some (.stringIter s k)/\Below A w wr/\kg A (.slice none 0 0) .nilIface wr/\vo s.data.toList=(pre++(vo (s.data.toList.drop k)).1,k+(vo (s.data.toList.drop k)).2)) (fun wr=>s.size - wr.iterPos I)
  case atStart =>
   rw[HW0.out];refine⟨0,[],zj _,?_,Mt.alloc (by omega) _,Y1.below ((zf _ _).alloc (z8 _) _),by simp⟩;rw[←HI.out,←zey];exact World.iter_heap W0 s 0
  case round =>
   obtain⟨k,pre,hk,hit,qI,vP,nH⟩:=hrel;have HP:=z7 nH;have S2:=z7 vP;have HB:=z7 qI;have HIT:=z7 hit;have xyd:I<wr.heap.size:=(Array.getElem?_eq_some_iff.1 hit).1;have hAI:A+1<I:=by have:=HI.out;omega
   by_cases xC:k<s.size
   ·have hn:=Lib.run_next_any_at (P:=prog) wr I s k 0 hit xC;have hd:=Mo s k xC;have ki:Gb (s.data.toList.drop k):=by
     cases hl:s.data.toList.drop k with
     | nil=>have:=congrArg List.length hl;simp at this;omega
     | cons a r=>exact JL a r
    have HOK:=z7 ki;have S3:=Lib.iterAt_heap wr I s k (k+(dL (s.data.toList.drop k)).2) hit;have VY:=Lib.below_iterAt qI (k:=I) (by omega) s (k+(dL (s.data.toList.drop k)).2);have ZD:=vP.keep (w':=wr.iterAt I s (k+(dL (s.data.toList.drop k)).2)) (fun j hj=>Lib.iterAt_other _ _ _ _ _ (by omega));obtain⟨pt,U0⟩:∃ pt,dL (s.data.toList.drop k)=pt:=⟨_,rfl⟩;obtain⟨r,z⟩:=pt;rw[hd,U0] at hn;rw[U0] at S3 VY ZD;dsimp only at hn S3 VY ZD;obtain⟨W1,Ve⟩:∃ W1,wr.iterAt I s (k+z)=W1:=⟨_,rfl⟩;rw[Ve] at hn S3 VY ZD;have xyb:W1.heap.size=wr.heap.size:=by rw[←Ve];exact Lib.iterAt_size _ _ _ _
    have Dh:=z7 U0;have Wa:=z7 (Tryz.utf8_DecodeRuneInString (s.extract k s.size) W1 (Rw HT.out (by rw[HA.out];exact VY)));have hde:Lib.decodeGo (s.extract k s.size)=(r,z):=by
     unfold Lib.decodeGo;rw[if_neg (by rw[zJ];omega),Hn s k xC,U0]
    rw[hde] at Wa;have k1:(k:Int)<=(s.size:Int):=by omega
    have k2:decide ((k:Int)<0)=false:=by simp
    clear hd ki qI vP nH U0 Ve hde hit;rcases HOK.out with⟨h0,Hr⟩|⟨h0,js,Ui⟩
    ·rw[Dh.out] at Hr;obtain⟨rfl,rfl⟩:r=65533/\z=1:=by cases Hr;exact⟨rfl,rfl⟩
     have jQ:=Y0 h0;have Xx:(vo s.data.toList).2=k:=by rw[HP.out,jQ];rfl
     have HCT:=z7 (Hm s k Xx);have HR:=z7 (show uW s.data.toList = .error (2,(vo s.data.toList).1.length) by
      unfold uW;rw[if_neg (by rw[xN];omega),if_pos (by rw[xN,Xx];exact xC)])
     have Ew:=z7 (fun W=>Tryz.utf8_RuneCountInString (s.extract 0 k) W (by rw[zJ];omega));rw[HCT.out] at Ew;obtain⟨cnt,ZX⟩:∃ cnt,(vo s.data.toList).1.length=cnt:=⟨_,rfl⟩;rw[ZX] at HR Ew;clear Hr jQ Xx ZX h0 HCT;go_wp2_with fail;refine Wa.out.mono ?_;rintro e W2 ⟨rfl,xB⟩;have X1:=VY.trans (xB.mono (by omega));have PK:=ZD.below xB;clear Wa;go_wp2_with fail;refine(Ew.out W2).mono ?_;rintro e W3 ⟨rfl,pos,rfl⟩;have Dw:=PK.below ((zf W2.heap.size W2).alloc (z8 _) (.stringIter (s.extract 0 k) pos));have XZ:Below A w (W2.iter (s.extract 0 k) pos):=X1.alloc (by have:=xB.size;omega) _;obtain⟨W3,kJ⟩:∃ W3,W2.iter (s.extract 0 k) pos=W3:=⟨_,rfl⟩;rw[kJ];have Qh:kg A (.slice none 0 0) .nilIface W3:=by rw[←kJ];exact Dw
     rw[kJ] at XZ;clear kJ Dw X1 PK VY ZD S3 hn Ew;go_wp2;have PJ:=Qh.below ((zf W3.heap.size W3).alloc (z8 _) (.cells #[.int .i64 2,.int .i64 cnt] 105));have nL:=Qh.lt;have UP:Below A w (W3.alloc (.cells #[.int .i64 2,.int .i64 cnt] 105)):=XZ.alloc (by omega) _;have hc:=fun i=>xq W3 #[.int .i64 2,.int .i64 cnt] 105 (0,0) i
     obtain⟨W4,V2⟩:∃ W4,W3.alloc (.cells #[.int .i64 2,.int .i64 cnt] 105)=W4:=⟨_,rfl⟩;rw[V2] at PJ UP hc ⊢;clear V2;obtain⟨bf,Jj⟩:∃ bf,W3.heap.size=bf:=⟨_,rfl⟩;rw[Jj] at hc ⊢;clear Jj;refine leaves_cons (f:=109) (args:=#[.pointer (some ⟨A,0,none⟩),.pointer (some ⟨A+1,0,none⟩)]) (by simp) (by simp[go_sem]) ?_;refine(ZF A (A+1) _ _ _ _ _ PJ.c0 PJ.z0 PJ.c1 PJ.z1 (by omega)).mono ?_;rintro e u' KH ⟨rfl,rfl,rfl⟩;have vP:=(PJ.Yw (x := .slice none 0 0)).Cg (x := .iface 101 (.pointer (some ⟨bf,0,none⟩)));have Vw:=vP.c0;have S1:=vP.c1;simp[Leaves,settle,results,results78,go_sem,Vw,S1];have hF:=HR.out;rw[hF];have AD:bf≠A:=fun e=>by have h1:=(hc 0);rw[e,PJ.c0] at h1;cases h1
     have AB:bf≠A+1:=fun e=>by have h1:=(hc 0);rw[e,PJ.c1] at h1;cases h1
     exact⟨⟨bf,rfl,by rw[xd,if_neg (fun e=>AB (congrArg zv e).symm),xd,if_neg (fun e=>AD (congrArg zv e).symm)];exact(hc 0),by rw[xd,if_neg (fun e=>AB (congrArg zv e).symm),xd,if_neg (fun e=>AD (congrArg zv e).symm)];exact(hc 1)⟩,by rw[HA.out];exact vp (vp UP (by omega)) (by omega)⟩
    ·have hz:xr (s.data.toList.drop k)=z:=by rw[h0,Dh.out]
     rw[Dh.out] at Ui;rw[hz] at js;have hle:=(XU (s.data.toList.drop k)).1;rw[hz] at hle;simp only[List.length_drop,xN] at hle;have xw:s.data.toList.drop k≠[]:=by intro e;have:=congrArg List.length e;simp at this;omega
     have vR:=jF xw (by omega);rw[hz,List.drop_drop] at vR;have jN:=z7 (show vo s.data.toList=(pre++[(s.data.toList.drop k).take z]++(vo (s.data.toList.drop (k+z))).1,(k+z)+(vo (s.data.toList.drop (k+z))).2) by
      rw[HP.out,vR];simp[Nat.add_assoc])
     have AE:((r:Int)==65533)=false\/(r=65533/\((z:Int)==1)=false):=by
      by_cases hr:r=65533
      ·right;refine⟨hr,?_⟩;simp;intro Ul;exact Ui ⟨hr,by omega⟩
      ·left;simp;omega
     clear Ui vR xw h0 hz;rcases AE with qD|⟨rfl,jJ⟩;all_goals
      go_wp2_with fail;refine Wa.out.mono ?_;rintro e W2 ⟨rfl,xB⟩;have X1:=VY.trans (xB.mono (by omega));have PK:=ZD.below xB;have zex:W2.heap[I]? = some (.stringIter s (k+z)):=(xB.block I (by omega)).trans S3;clear Wa VY ZD S3 hn xB;go_wp2;go_roundw
      case rel=>exact⟨k+z,_,by omega,zex,X1,PK,jN.out⟩
      case measure =>
       rw[iterPos_of zex,iterPos_of HIT.out];omega
   ·have hn:=Lib.run_next_end_at (P:=prog) wr I s k 0 hit xC;have tu:k=s.size:=by omega
    have hz:s.data.toList.drop k=[]:=List.drop_of_length_le (by rw[xN];omega);have Xx:(vo s.data.toList).2=s.size:=by rw[nH,hz,qT];exact tu
    have UJ:=(gU s s.size 0 (by omega) (by omega) (by rw[zM,Xx];omega)).2 #[];rw[zM] at UJ;have HRT:=z7 (show uW s.data.toList=match ZR (xO s.data.toList) with | .error e => .error e | .ok x => .ok x.1 by
     unfold uW;rw[if_neg (by rw[xN];omega),if_neg (by rw[xN,Xx];omega)])
    obtain⟨rs,bF⟩:∃ rs,xO s.data.toList=rs:=⟨_,rfl⟩;have Jg:rs.length<=1000:=by have:=V8 s.data.toList;rw[xN,bF] at this;omega
    have zxz:=z7 (show ∀ r∈rs,0<=r by rw[←bF];exact AF _);rw[bF] at UJ HRT;have hcv:=run_runes_of_string (P:=prog) wr 9 147 21 s underlying9 underlying147 underlying21 (by rw[UJ];simp;omega);have F:∃ cp W,(convert 9 147 (.string s)).run prog wr = .ok (.slice (some ⟨wr.heap.size,0,none⟩) rs.length cp) W/\Below wr.heap.size wr W/\wr.heap.size<W.heap.size/\rs.length<=cp/\cp<=maxLen/\∀ j (h:j<rs.length),W.cell? ⟨wr.heap.size,j,none⟩=some (.int .i32 rs[j]):=by
     have e2:(Conv.runesFrom s s.size 0 #[]).size=rs.length:=by rw[UJ];simp
     rw[e2] at hcv;refine⟨_,_,hcv,(zf _ _).drew.alloc (z8 _) _,by simp,grownCap_ge _ _ _ _,grownCap_le_maxLen _ _ _ _ (by unfold maxLen;omega),fun j hj=>?_⟩;rw[show wr.heap.size=wr.drew.heap.size from rfl,xq,UJ,Array.getElem?_append_left (by simpa using hj)];simp[hj]
    obtain⟨cp,W,vH,gP,tk,zxy,zxx,gN⟩:=F;have HCE:=z7 gN;have ZD:=vP.below gP;have VY:=qI.trans (gP.mono (by omega));clear hcv UJ gN nH Xx hz bF tu;have zev:=zZ w _ (HNA.out 0 (by omega));have Y2:w.heap.size<=W.heap.size:=by have:=VY.size;omega
    have qd:Below W.heap.size W (W.alloc (.cells #[.slice (some ⟨wr.heap.size,0,none⟩) rs.length cp,.int .i64 0,.int .i64 0] 249)):=(zf _ _).alloc (z8 _) _;have jM:=fun i=>xq W #[.slice (some ⟨wr.heap.size,0,none⟩) rs.length cp,.int .i64 0,.int .i64 0] 249 (0,0) i
    have hsy:vJ W.heap.size rs 0 0 (W.alloc (.cells #[.slice (some ⟨wr.heap.size,0,none⟩) rs.length cp,.int .i64 0,.int .i64 0] 249)) :=
     ⟨⟨wr.heap.size,cp,jM 0,zxy,zxx,tk,fun j hj=>(zE _ _ _ tk).trans (HCE.out j hj)⟩,jM 1,jM 2,by simp,by simp,by omega,by omega,by omega,zxz.out⟩
    have td:=ZD.below qd;have zxv:Below A w _:=VY.trans (qd.mono (by omega));go_wp2_with fail;obtain⟨Y,hY⟩:∃ Y,W.alloc (.cells #[.slice (some ⟨wr.heap.size,0,none⟩) rs.length cp,.int .i64 0,.int .i64 0] 249)=Y:=⟨_,rfl⟩;rw[hY] at hsy td zxv ⊢;have hpY:W.heap.size<Y.heap.size:=by rw[←hY];simp
    obtain⟨p,hp⟩:∃ p,W.heap.size=p:=⟨_,rfl⟩;rw[hp] at hsy hpY Y2 ⊢;have hAp:A+1<p:=by have:=ZD.lt;omega
    have U1:KS p Y:=⟨HNA.out.below (by rw[HA.out];exact zxv),by have hg:0<w.heap.size:=zev;omega⟩;have hM:=PU p rs 5 (z8 _) false 0 Y hsy U1;obtain⟨rm,hrm⟩:∃ rm,fF rs 5 false 0=rm:=⟨_,rfl⟩;have HRM:=z7 (show uW s.data.toList=match rm.then (fun f i=>if xX rs i = -1 then (.ok (f,i):kX Fo) else .error (3,i)) with | .error e => .error e | .ok x => .ok x.1 by rw[HRT.out,←hrm];rfl);rw[hrm] at hM;have HM:=z7 hM;clear hM hrm hY qd jM hsy ZD VY hp vP qI zxy zxx HCE HRT hn vH hit S2 HB HIT HP zev;refine HM.out.mono ?_;rintro e X ⟨hq,hbX⟩;have XQ:=td.but hbX hAp;have zxq:Below A w X:=zxv.trans (hbX.low (by omega) (by omega))
    cases rm with
    | error en =>
     obtain⟨mq,mg⟩:=en;obtain⟨bf,rfl,f1,f2,_,_,_⟩:=hq;have nM:=z7 (show uW s.data.toList = .error (mq,mg) from HRM.out);go_wp2;refine leaves_cons (f:=109) (args:=#[.pointer (some ⟨A,0,none⟩),.pointer (some ⟨A+1,0,none⟩)]) (by simp) (by simp[go_sem]) ?_;refine(ZF A (A+1) _ _ _ _ _ XQ.c0 XQ.z0 XQ.c1 XQ.z1 (by omega)).mono ?_;rintro e u' KH ⟨rfl,rfl,rfl⟩;have vP:=(XQ.Yw (x := .slice none 0 0)).Cg (x := .iface 101 (.pointer (some ⟨bf,0,none⟩)));have Vw:=vP.c0;have S1:=vP.c1;simp[Leaves,settle,results,results78,go_sem,Vw,S1];have hF:=nM.out;rw[hF];have AD:bf≠A:=fun e=>by have h1:=f1;rw[e,XQ.c0] at h1;cases h1
     have AB:bf≠A+1:=fun e=>by have h1:=f1;rw[e,XQ.c1] at h1;cases h1
     exact⟨⟨bf,rfl,by rw[xd,if_neg (fun e=>AB (congrArg zv e).symm),xd,if_neg (fun e=>AD (congrArg zv e).symm)];exact f1,by rw[xd,if_neg (fun e=>AB (congrArg zv e).symm),xd,if_neg (fun e=>AD (congrArg zv e).symm)];exact f2⟩,by rw[HA.out];exact vp (vp zxq (by omega)) (by omega)⟩
    | ok fj =>
     obtain⟨f,j⟩:=fj;obtain⟨⟨a,c,rfl,vs,vL,kO⟩,Jq,hsX⟩:=hq;have qB:=z7 vL;have YG:=z7 kO;have JM:=z7 (show uW s.data.toList=match (if xX rs j = -1 then (.ok (f,j):kX Fo) else .error (3,j)) with | .error e => .error e | .ok x => .ok x.1 from HRM.out);have g0:=XQ.c0;have g1:=XQ.z0;have bR:=z7 (hsX.ykg g0 (by omega) (.slice a f.len c));have Dw:=XQ.Yw (x := .slice a f.len c);have XZ:Below A w (X.setCell ⟨A,0,none⟩ (.slice a f.len c)):=vp zxq (z8 _);have du:vK Y.heap.size X.heap.size X (X.setCell ⟨A,0,none⟩ (.slice a f.len c)):=(vg (z8 _)).put (by omega) 0 _;obtain⟨X4,hX4⟩:∃ X4,X.setCell ⟨A,0,none⟩ (.slice a f.len c)=X4:=⟨_,rfl⟩;rw[hX4] at bR Dw XZ du;have HX4:=z7 hX4;have hYX:=hbX.size;clear hX4 vL kO hsX XQ zxq HRM HM hbX;go_wp2_with fail;rw[HX4.out];refine(jP p rs j 0 X4 bR.out).mono ?_;rintro e X5 ⟨rfl,jw⟩;have M7:=z7 (bR.out.below jw);have hA4:=Dw.lt;have GZ:=Dw.below jw;have UP:=XZ.trans (jw.mono (by omega));have bA:=du.below jw;by_cases he:xX rs j = -1
     ·have nM:=z7 (show uW s.data.toList = .ok f by rw[JM.out,if_pos he]);rw[he];have q0:=GZ.c0;have q1:=GZ.c1;have q2:=GZ.z0;have q3:=GZ.z1;have Vf:=GZ.Yw (x := .slice a f.len c);have GY:=Vf.Cg (x := .nilIface);have Rm:Below A w ((X5.setCell ⟨A,0,none⟩ (.slice a f.len c)).setCell ⟨A+1,0,none⟩ .nilIface):=vp (vp UP (z8 _)) (by omega);have JN:vK Y.heap.size X.heap.size X ((X5.setCell ⟨A,0,none⟩ (.slice a f.len c)).setCell ⟨A+1,0,none⟩ .nilIface):=(bA.put (by omega) 0 _).put (by omega) 0 _;have q4:=Vf.c1;have q5:=Vf.z1;clear JM he HX4;go_wp2;refine leaves_cons (f:=109) (args:=#[.pointer (some ⟨A,0,none⟩),.pointer (some ⟨A+1,0,none⟩)]) (by simp) (by simp[go_sem]) ?_;refine(Ms A (A+1) _).mono ?_;rintro e u' KH ⟨rfl,rfl,rfl⟩;have Vw:=GY.c0;have S1:=GY.c1;simp[Leaves,settle,results,results78,go_sem,Vw,S1];have hF:=nM.out;rw[hF];exact⟨⟨⟨a,c,vs,rfl,qB.out.keep JN (by rw[HA.out];omega) JN.1,xV.keep JN (by rw[HA.out];omega) JN.1 _ _ YG.out⟩,Jq⟩,by rw[HA.out];exact Rm⟩
     ·have nM:=z7 (show uW s.data.toList = .error (3,j) by rw[JM.out,if_neg he]);have he':(xX rs j==-1)=false:=by simpa using he
      have q0:=M7.out.at_;clear JM he HX4;go_wp2_with fail;refine(dU p 3 j X5 M7.out.KO).mono ?_;rintro e X6 ⟨⟨bf,rfl,f1,f2,_,_,_⟩,gC⟩;have GX:=GZ.below gC;have MM:=UP.trans (gC.mono (by have:=GZ.lt;omega));go_wp2;refine leaves_cons (f:=109) (args:=#[.pointer (some ⟨A,0,none⟩),.pointer (some ⟨A+1,0,none⟩)]) (by simp) (by simp[go_sem]) ?_;refine(ZF A (A+1) _ _ _ _ _ GX.c0 GX.z0 GX.c1 GX.z1 (by omega)).mono ?_;rintro e u' KH ⟨rfl,rfl,rfl⟩;have vP:=(GX.Yw (x := .slice none 0 0)).Cg (x := .iface 101 (.pointer (some ⟨bf,0,none⟩)));have Vw:=vP.c0;have S1:=vP.c1;simp[Leaves,settle,results,results78,go_sem,Vw,S1];have hF:=nM.out;rw[hF];have AD:bf≠A:=fun e=>by have h1:=f1;rw[e,GX.c0] at h1;cases h1
      have AB:bf≠A+1:=fun e=>by have h1:=f1;rw[e,GX.c1] at h1;cases h1
      exact⟨⟨bf,rfl,by rw[xd,if_neg (fun e=>AB (congrArg zv e).symm),xd,if_neg (fun e=>AD (congrArg zv e).symm)];exact f1,by rw[xd,if_neg (fun e=>AB (congrArg zv e).symm),xd,if_neg (fun e=>AD (congrArg zv e).symm)];exact f2⟩,by rw[HA.out];exact vp (vp MM (by omega)) (by omega)⟩
inductive Out (σ:Type) where
 | go (b:Bool) (s:σ)
 | WU (c:List PanicEntry) (s:σ)
def Out.then{σ:Type}(x:Out σ)(k:σ->Out σ):Out σ:=match x with | .go true s=>k s | .go false s => .go false s | .WU c s => .WU c s
def vw{σ:Type}(F:σ->Fo->Out σ):Fo->σ->Out σ
 | .nil,s => .go true s
 | .text _ r,s=>vw F r s
 | .hash r,s=>vw F r s
 | .put n a r,s=>(F s (.put n a .nil)).then fun s=>vw F r s
 | .num n a r,s=>(F s (.num n a .nil)).then fun s=>vw F r s
 | .br n a f o c bs r,s=>(F s (.br n a f o c bs .nil)).then fun s=>(vw F bs s).then fun s=>vw F r s
 | .uq _ _ m r,s=>(vw F m s).then fun s=>vw F r s
def AH:Fo->Option (Wd×Nat)
 | .put n a _=>some (n,a)
 | .num n a _=>some (n,a)
 | .br n a _ _ _ _ _=>some (n,a)
 | _=>none
def Fo.wf(N:Nat):Fo->Bool
 | .nil=>true
 | .text _ r=>r.wf N
 | .hash r=>r.wf N
 | .put n _ r=>decide (n.length<=4000001) && r.wf N
 | .num n _ r=>decide (n.length<=4000001) && r.wf N
 | .br n _ f _ _ bs r=>decide (n.length<=4000001) && decide (f<3) && bs.ub && decide (bs.len<=N) && bs.wf N && r.wf N
 | .uq k _ m r=>decide (k.length<=4000001) && m.vD && decide (m.len<=N) && m.wf N && r.wf N
def Fo.wt:Fo->Nat
 | .br _ _ _ _ _ bs _=>2+bs.len
 | _=>1
def Fo.cnt:Fo->Nat
 | .nil=>0
 | .text _ r=>r.cnt
 | .hash r=>r.cnt
 | .put _ _ r=>1+r.cnt
 | .num _ _ r=>1+r.cnt
 | .br _ _ _ _ _ bs r=>2+bs.len+bs.cnt+r.cnt
 | .uq _ _ m r=>m.cnt+r.cnt
def zxk{σ:Type}(I:σ->Nat->World->Prop)(room:Nat)(o:Out σ)(e:Ending)(w':World):Prop :=
 match o with
 | .go b s=>e = .returned (.bool b)/\I s room w'
 | .WU c s=>e = .panicked c/\I s room w'
structure Mh{σ:Type}(lo hi:Nat)(w0:World)(v:Value)(I:σ->Nat->World->Prop)(F:σ->Fo->Out σ):Prop where
 fn:∃ k cap,v = .func (.func k) #[] cap/\(∀ args w,(callFunc k args).run prog w = .ok (.enter k args) w) /\
  ∀ s room W x u n a,I s (room+x.wt) W->xV lo hi w0 [u] x->x.wf 2000000=true->AH x=some (n,a)->Calls prog k (#[u,.agg #[xf n,.int .i64 (a:Nat)]]++cap) W (zxk I room (F s x))
 keep:∀ s b W,I s b W->vK lo hi w0 W
 below:∀ s b W W',I s b W->Below W.heap.size W W'->I s b W'
 less:∀ s b b' W,I s b W->b'<=b->I s b' W
section
variable (b:Nat) (t:Wd) (w:World)
theorem GV:(zx (.iface 172 (.pointer (some ⟨b,0,none⟩))) 112 172 true).run prog w = .ok (.tuple #[.pointer (some ⟨b,0,none⟩),.bool true]) w:=by rfl
theorem U2:(zx (.iface 175 (.pointer (some ⟨b,0,none⟩))) 112 175 true).run prog w = .ok (.tuple #[.pointer (some ⟨b,0,none⟩),.bool true]) w:=by rfl
theorem Um:(zx (.iface 177 (.pointer (some ⟨b,0,none⟩))) 112 177 true).run prog w = .ok (.tuple #[.pointer (some ⟨b,0,none⟩),.bool true]) w:=by rfl
theorem Hs:(zx (.iface 262 (xf t)) 112 172 true).run prog w = .ok (.tuple #[.pointer none,.bool false]) w:=by rfl
theorem Ht:(zx (.iface 262 (xf t)) 112 175 true).run prog w = .ok (.tuple #[.pointer none,.bool false]) w:=by rfl
theorem Mw:(zx (.iface 262 (xf t)) 112 177 true).run prog w = .ok (.tuple #[.pointer none,.bool false]) w:=by rfl
theorem Hh:(zx (.iface 264 (.agg #[])) 112 172 true).run prog w = .ok (.tuple #[.pointer none,.bool false]) w:=by rfl
theorem Hw:(zx (.iface 264 (.agg #[])) 112 175 true).run prog w = .ok (.tuple #[.pointer none,.bool false]) w:=by rfl
theorem N0:(zx (.iface 264 (.agg #[])) 112 177 true).run prog w = .ok (.tuple #[.pointer none,.bool false]) w:=by rfl
theorem GU:(zx (.iface 175 (.pointer (some ⟨b,0,none⟩))) 112 172 true).run prog w = .ok (.tuple #[.pointer none,.bool false]) w:=by rfl
theorem B0:(zx (.iface 177 (.pointer (some ⟨b,0,none⟩))) 112 172 true).run prog w = .ok (.tuple #[.pointer none,.bool false]) w:=by rfl
theorem K4:(zx (.iface 177 (.pointer (some ⟨b,0,none⟩))) 112 175 true).run prog w = .ok (.tuple #[.pointer none,.bool false]) w:=by rfl
theorem N1:(zx (.iface 172 (.pointer (some ⟨b,0,none⟩))) 112 175 true).run prog w = .ok (.tuple #[.pointer none,.bool false]) w:=by rfl
theorem B1:(zx (.iface 172 (.pointer (some ⟨b,0,none⟩))) 112 177 true).run prog w = .ok (.tuple #[.pointer none,.bool false]) w:=by rfl
theorem S4:(zx (.iface 175 (.pointer (some ⟨b,0,none⟩))) 112 177 true).run prog w = .ok (.tuple #[.pointer none,.bool false]) w:=by rfl
end
def qb:Wd:=[111,116,104,101,114]
def Un:List Wd:=[[122,101,114,111],[111,110,101],[116,119,111],[102,101,119],[109,97,110,121],[111,116,104,101,114]]
def Fo.keys:Fo->List Wd
 | .uq k _ _ r=>k::r.keys
 | _=>[]
namespace MkS
def j4:Fo->MkS->List Nat->MkS×List Nat
 | .uq k _ _ r,s,acc=>if k=qb then j4 r s acc else j4 r (s.const k) (acc++[s.num k])
 | _,s,acc=>(s,acc)
def place(ks:List Wd)(k:Wd):Nat:=if k=qb then (ks.filter (· ≠ qb)).length else (ks.filter (· ≠ qb)).idxOf k
def qH:Fo->MkS->List (Wd×Nat)->MkS×List (Wd×Nat)
 | .uq k _ _ r,s,acc=>if k.head? = some 61 then qH r (s.put 7 (xL k.tail) [] [0]) (acc++[(k,s.code.length)]) else qH r s acc
 | _,s,acc=>(s,acc)
def I0(ks:List Wd)(t:Nat)(key:Wd)(s:MkS):MkS :=
 (List.range 6).foldl (fun s c=>if Un.getD c []=key\/key=qb/\Un.getD c [] ∉ ks then s.uv t c else s) s
def ff(n:Wd)(bs:Fo)(s:MkS):MkS×List Nat:=j4 bs (s.const n) [s.num n]
def kV(n:Wd)(bs:Fo)(s:MkS):MkS:=(ff n bs s).1.put 10 0 (ff n bs s).2 (zV (ff n bs s).2.length 0)
def kP(n o:Wd)(bs:Fo)(s:MkS):MkS×List (Wd×Nat):=qH bs ((s.const n).put 4 (xL o) [s.num n] []) []
def qW(n o:Wd)(f:Nat)(bs:Fo)(s:MkS):MkS:=(kP n o bs s).1.put (if f=2 then 9 else 8) 0 [] (zV 6 0)
def bz(n:Wd)(bs:Fo)(s:MkS)(k:Wd)(x:MkS):MkS:=x.uv (ff n bs s).1.code.length (place bs.keys k)
def jD(n o:Wd)(bs:Fo)(s:MkS)(k:Wd)(x:MkS):MkS :=
 match (kP n o bs s).2.lookup k with
 | some i=>x.uv i 0
 | none=>I0 bs.keys (kP n o bs s).1.code.length k x
def qZ:Fo->(Wd->MkS->MkS)->MkS->List Nat->MkS×List Nat
 | .nil,_,s,ls=>(s,ls)
 | .text t r,bg,s,ls=>qZ r bg (s.one 1 t) ls
 | .hash r,bg,s,ls=>qZ r bg (s.put 6 0 [] []) ls
 | .put n _ r,bg,s,ls=>qZ r bg (s.one 2 n) ls
 | .num n _ r,bg,s,ls=>qZ r bg (s.one 3 n) ls
 | .br n _ f o _ bs r,bg,s,ls =>
  if f=0 then
   let y:=qZ bs (bz n bs s) (kV n bs s) []
   qZ r bg (y.2.foldl (fun s i=>s.uv i 0) y.1) ls
  else
   let y:=qZ bs (jD n o bs s) (qW n o f bs s) []
   qZ r bg ((y.2.foldl (fun s i=>s.uv i 0) y.1).put 5 0 [] []) ls
 | .uq k _ m r,bg,s,ls =>
  let s1:=(qZ m (fun _ s=>s) (bg k s) []).1
  qZ r bg (s1.put 11 0 [] [0]) (ls++[s1.code.length])
def dM(m:Fo)(s:MkS):MkS:=(qZ m (fun _ s=>s) s []).1
def start:MkS:=⟨[],[],0⟩
def all(m:Fo):MkS:=(dM m start).put 0 0 [] []
end MkS
def EqW(k:Wd):Prop:=k.tail≠[]/\k.tail.length<=9/\k.tail.all xQ=true
def Fo.Uo:Fo->Prop
 | .nil=>True
 | .text t r=>t.length<=5000000/\r.Uo
 | .hash r=>r.Uo
 | .put n _ r=>n.length<=16/\r.Uo
 | .num n _ r=>n.length<=16/\r.Uo
 | .br n _ f o _ bs r=>n.length<=16/\f<3/\xL o<=999999999/\bs.ub=true/\bs.keys.Nodup/\(∀ k∈bs.keys,k.length<=17/\(f≠0->k.head? = some 61->EqW k))/\bs.Uo/\r.Uo
 | .uq _ _ m r=>m.vD=true/\m.Uo/\r.Uo
def Fo.cw:Fo->Nat
 | .nil=>0
 | .text _ r=>5+r.cw
 | .hash r=>5+r.cw
 | .put _ _ r=>5+r.cw
 | .num _ _ r=>5+r.cw
 | .br _ _ _ _ _ bs r=>40+bs.cw+r.cw
 | .uq _ _ m r=>20+m.cw+r.cw
def Fo.gw:Fo->Nat
 | .uq _ _ m r=>5+m.cw+r.gw
 | _=>0
theorem Fo.YC:∀ f:Fo,f.gw+15*f.keys.length<=f.cw
 | .uq k a m r=>by have:=Fo.YC r;simp only[Fo.gw,Fo.keys,Fo.cw,zL];omega
 | .nil=>zj _
 | .text _ _=>zj _
 | .hash _=>zj _
 | .put _ _ _=>zj _
 | .num _ _ _=>zj _
 | .br _ _ _ _ _ _ _=>zj _
def MkS.le(s s':MkS):Prop:=∀ (i:Nat) (x:jC),s.code[i]? = some x->∃ y,s'.code[i]? = some y/\y.tg.length=x.tg.length
theorem MkS.le_refl(s:MkS):s.le s:=fun _ x h=>⟨x,h,rfl⟩
theorem MkS.le_trans{a b c:MkS}(h:a.le b)(k:b.le c):a.le c:=fun i x hx=>by
 obtain⟨y,h1,h2⟩:=h i x hx;obtain⟨z,h3,h4⟩:=k i y h1;exact⟨z,h3,h4.trans h2⟩
theorem MkS.Up(s:MkS)(t:Wd):s.le (s.const t):=fun i x hx=>⟨x,by rw[(vY s t).2.1];exact hx,rfl⟩
theorem MkS.bn(s:MkS)(op v:Nat)(k tg:List Nat):s.le (s.put op v k tg):=fun i x hx=>⟨x,by simp only[MkS.put];rw[List.getElem?_append_left (List.getElem?_eq_some_iff.1 hx).1];exact hx,rfl⟩
theorem MkS.ZB(s:MkS)(i j:Nat):s.le (s.uv i j):=fun n x hx=>by
 simp only[MkS.uv];rw[List.getElem?_modify];by_cases h:i=n
 ·exact⟨{ x with tg:=x.tg.set j s.pos },by simp[h,hx],by simp⟩
 ·exact⟨x,by simp[h,hx],rfl⟩
theorem MkS.N2(s:MkS)(op:Nat)(t:Wd):s.le (s.one op t):=MkS.le_trans (s.Up t) (MkS.bn _ _ _ _ _)
theorem MkS.GQ{α:Type}(g:MkS->α->MkS)(hg:∀ (s:MkS) (a:α),s.le (g s a)):∀ (l:List α) (s:MkS),s.le (l.foldl g s)
 | [],s=>s.le_refl
 | a::l,s=>MkS.le_trans (hg s a) (MkS.GQ g hg l _)
theorem MkS.Y3{α:Type}(g:MkS->α->MkS)(hg:∀ (s:MkS) (a:α),(g s a).sz=s.sz):∀ (l:List α) (s:MkS),(l.foldl g s).sz=s.sz
 | [],s=>rfl
 | a::l,s=>(MkS.Y3 g hg l _).trans (hg s a)
theorem MkS.AI(ks:List Wd)(t:Nat)(key:Wd)(s:MkS):s.le (MkS.I0 ks t key s)/\(MkS.I0 ks t key s).sz=s.sz:=by
 refine⟨MkS.GQ _ (fun s c=>?_) _ s,MkS.Y3 _ (fun s c=>?_) _ s⟩
 ·split
  ·exact s.ZB _ _
  ·exact s.le_refl
 ·split
  ·exact gO _ _ _
  ·rfl
theorem MkS.Cf(n:Wd)(bs:Fo)(s:MkS)(k:Wd)(x:MkS):x.le (MkS.bz n bs s k x)/\(MkS.bz n bs s k x).sz=x.sz:=⟨x.ZB _ _,gO _ _ _⟩
theorem MkS.Cd(n o:Wd)(bs:Fo)(s:MkS)(k:Wd)(x:MkS):x.le (MkS.jD n o bs s k x)/\(MkS.jD n o bs s k x).sz=x.sz:=by
 unfold MkS.jD;split
 ·exact⟨x.ZB _ _,gO _ _ _⟩
 ·exact MkS.AI _ _ _ _
theorem MkS.Ur:∀ (f:Fo) (s:MkS) (acc:List Nat),s.le (MkS.j4 f s acc).1/\(MkS.j4 f s acc).1.sz<=s.sz+f.keys.length/\(MkS.j4 f s acc).2.length<=acc.length+f.keys.length/\(MkS.j4 f s acc).1.code=s.code/\(MkS.j4 f s acc).1.pos=s.pos
 | .uq k _ _ r,s,acc=>by
  rw[MkS.j4];split
  ·obtain⟨a,b,c,d⟩:=MkS.Ur r s acc;exact⟨a,by simp[Fo.keys];omega,by simp[Fo.keys];omega,d⟩
  ·obtain⟨a,b,c,d,e⟩:=MkS.Ur r (s.const k) (acc++[s.num k]);obtain⟨z1,z2,z3⟩:=vY s k;exact⟨MkS.le_trans (s.Up k) a,by simp[Fo.keys];omega,by simp[Fo.keys] at c ⊢;omega,d.trans z2,e.trans z3⟩
 | .nil,s,acc=>⟨s.le_refl,z8 _,z8 _,rfl,rfl⟩
 | .text _ _,s,acc=>⟨s.le_refl,z8 _,z8 _,rfl,rfl⟩
 | .hash _,s,acc=>⟨s.le_refl,z8 _,z8 _,rfl,rfl⟩
 | .put _ _ _,s,acc=>⟨s.le_refl,z8 _,z8 _,rfl,rfl⟩
 | .num _ _ _,s,acc=>⟨s.le_refl,z8 _,z8 _,rfl,rfl⟩
 | .br _ _ _ _ _ _ _,s,acc=>⟨s.le_refl,z8 _,z8 _,rfl,rfl⟩
theorem MkS.Cb:∀ (f:Fo) (s:MkS) (acc:List (Wd×Nat)),s.le (MkS.qH f s acc).1/\(MkS.qH f s acc).1.sz<=s.sz+8*f.keys.length
 | .uq k _ _ r,s,acc=>by
  rw[MkS.qH];split
  ·obtain⟨a,b⟩:=MkS.Cb r (s.put 7 (xL k.tail) [] [0]) (acc++[(k,s.code.length)]);have:=jt s 7 (xL k.tail) [] [0];have hx:(uG ⟨7,s.pos,xL k.tail,[],[0]⟩).length=7:=by simp[uG,fJ,jx,jy,Xq]
   exact⟨MkS.le_trans (s.bn _ _ _ _) a,by simp[Fo.keys];omega⟩
  ·obtain⟨a,b⟩:=MkS.Cb r s acc;exact⟨a,by simp[Fo.keys];omega⟩
 | .nil,s,acc=>⟨s.le_refl,z8 _⟩
 | .text _ _,s,acc=>⟨s.le_refl,z8 _⟩
 | .hash _,s,acc=>⟨s.le_refl,z8 _⟩
 | .put _ _ _,s,acc=>⟨s.le_refl,z8 _⟩
 | .num _ _ _,s,acc=>⟨s.le_refl,z8 _⟩
 | .br _ _ _ _ _ _ _,s,acc=>⟨s.le_refl,z8 _⟩
theorem PG:∀ (k t:List Nat),(D8 k t).length=4*k.length+2
 | [],t=>by simp[D8,jy]
 | a::k,t=>by simp[D8,jy,PG k t.tail];omega
theorem PF(pos:Nat)(x:Nat)(k:List Nat)(t:List Nat):(uG ⟨10,pos,0,x::k,t⟩).length=7+4*k.length:=by
 simp[uG,fJ,jx,jy,PG];omega
theorem MkS.K5:∀ (f:Fo) (s:MkS) (x:Nat) (acc:List Nat),∃ y,(MkS.j4 f s (x::acc)).2=x::y
 | .uq k _ _ r,s,x,acc=>by
  rw[MkS.j4];split
  ·exact MkS.K5 r s x acc
  ·exact MkS.K5 r (s.const k) x (acc++[s.num k])
 | .nil,s,x,acc=>⟨_,rfl⟩
 | .text _ _,s,x,acc=>⟨_,rfl⟩
 | .hash _,s,x,acc=>⟨_,rfl⟩
 | .put _ _ _,s,x,acc=>⟨_,rfl⟩
 | .num _ _ _,s,x,acc=>⟨_,rfl⟩
 | .br _ _ _ _ _ _ _,s,x,acc=>⟨_,rfl⟩
theorem MkS.CZ(n:Wd)(bs:Fo)(s:MkS):s.le (MkS.kV n bs s)/\(MkS.kV n bs s).sz<=s.sz+9+5*bs.keys.length:=by
 obtain⟨a,b,c,d,e⟩:=MkS.Ur bs (s.const n) [s.num n];obtain⟨y,hy⟩:=MkS.K5 bs (s.const n) (s.num n) [];refine⟨MkS.le_trans (s.Up n) (MkS.le_trans a (MkS.bn _ _ _ _ _)),?_⟩;unfold MkS.kV MkS.ff;rw[jt,hy,PF];rw[hy] at c;have:=(vY s n).1;simp at c;omega
theorem MkS.CY(n o:Wd)(f:Nat)(bs:Fo)(s:MkS):s.le (MkS.qW n o f bs s)/\(MkS.qW n o f bs s).sz<=s.sz+24+8*bs.keys.length:=by
 obtain⟨a,b⟩:=MkS.Cb bs ((s.const n).put 4 (xL o) [s.num n] []) [];refine⟨MkS.le_trans (s.Up n) (MkS.le_trans (MkS.bn _ _ _ _ _) (MkS.le_trans a (MkS.bn _ _ _ _ _))),?_⟩;unfold MkS.qW MkS.kP;have h1:=jt (s.const n) 4 (xL o) [s.num n] [];have h2:(uG ⟨4,(s.const n).pos,xL o,[s.num n],[]⟩).length=7:=by simp[uG,fJ,jx,jy,Xq]
 have h3:∀ p,(uG ⟨if f=2 then 9 else 8,p,0,[],zV 6 0⟩).length=13:=fun p=>by split<;>simp[uG,fJ,jx,jy]
 rw[jt,h3];have:=(vY s n).1;omega
theorem MkS.K6(s:MkS)(op:Nat)(t:Wd)(h:op=1\/op=2\/op=3):(s.one op t).sz<=s.sz+5:=by
 unfold MkS.one;rw[jt];have:=(vY s t).1;have hx:(uG ⟨op,(s.const t).pos,0,[s.num t],[]⟩).length=3:=by rcases h with rfl|rfl|rfl<;>simp[uG,fJ,jx,jy]
 omega
theorem MkS.go_le:∀ (f:Fo) (bg:Wd->MkS->MkS) (s:MkS) (ls:List Nat),(∀ k s,s.le (bg k s)/\(bg k s).sz=s.sz)->s.le (MkS.qZ f bg s ls).1/\(MkS.qZ f bg s ls).1.sz+15*f.keys.length<=s.sz+f.cw
 | .nil,bg,s,ls,hb=>⟨s.le_refl,z8 _⟩
 | .text t r,bg,s,ls,hb=>by
  obtain⟨a,b⟩:=MkS.go_le r bg (s.one 1 t) ls hb;have:=s.K6 1 t (.inl rfl);exact⟨MkS.le_trans (s.N2 _ _) a,by simp only[Fo.keys,Fo.cw,MkS.qZ,zg];omega⟩
 | .hash r,bg,s,ls,hb=>by
  obtain⟨a,b⟩:=MkS.go_le r bg (s.put 6 0 [] []) ls hb;have:=jt s 6 0 [] [];have hx:(uG ⟨6,s.pos,0,[],[]⟩).length=1:=by simp[uG,fJ,jx]
  exact⟨MkS.le_trans (s.bn _ _ _ _) a,by simp only[Fo.keys,Fo.cw,MkS.qZ,zg];omega⟩
 | .put n _ r,bg,s,ls,hb=>by
  obtain⟨a,b⟩:=MkS.go_le r bg (s.one 2 n) ls hb;have:=s.K6 2 n (.inr (.inl rfl));exact⟨MkS.le_trans (s.N2 _ _) a,by simp only[Fo.keys,Fo.cw,MkS.qZ,zg];omega⟩
 | .num n _ r,bg,s,ls,hb=>by
  obtain⟨a,b⟩:=MkS.go_le r bg (s.one 3 n) ls hb;have:=s.K6 3 n (.inr (.inr rfl));exact⟨MkS.le_trans (s.N2 _ _) a,by simp only[Fo.keys,Fo.cw,MkS.qZ,zg];omega⟩
 | .br n _ f o _ bs r,bg,s,ls,hb=>by
  have WV:=fun (l:List Nat) (x:MkS)=>MkS.GQ (fun s i=>MkS.uv s i 0) (fun s i=>s.ZB i 0) l x
  have U3:=fun (l:List Nat) (x:MkS)=>MkS.Y3 (fun s i=>MkS.uv s i 0) (fun s i=>gO s i 0) l x
  rw[MkS.qZ];split
  ·obtain⟨a,b⟩:=MkS.go_le bs (MkS.bz n bs s) (MkS.kV n bs s) [] (fun k x=>MkS.Cf n bs s k x);obtain⟨c,d⟩:=MkS.CZ n bs s;obtain⟨e,g⟩:=MkS.go_le r bg ((MkS.qZ bs (MkS.bz n bs s) (MkS.kV n bs s) []).2.foldl (fun s i=>MkS.uv s i 0) (MkS.qZ bs (MkS.bz n bs s) (MkS.kV n bs s) []).1) ls hb;rw[U3] at g;exact⟨MkS.le_trans c (MkS.le_trans a (MkS.le_trans (WV _ _) e)),by simp only[Fo.keys,Fo.cw,zg];omega⟩
  ·obtain⟨a,b⟩:=MkS.go_le bs (MkS.jD n o bs s) (MkS.qW n o f bs s) [] (fun k x=>MkS.Cd n o bs s k x);obtain⟨c,d⟩:=MkS.CY n o f bs s;obtain⟨e,g⟩:=MkS.go_le r bg (((MkS.qZ bs (MkS.jD n o bs s) (MkS.qW n o f bs s) []).2.foldl (fun s i=>MkS.uv s i 0) (MkS.qZ bs (MkS.jD n o bs s) (MkS.qW n o f bs s) []).1).put 5 0 [] []) ls hb;rw[jt,U3] at g;have hx:∀ p,(uG ⟨5,p,0,[],[]⟩).length=1:=fun p=>by simp[uG,fJ,jx]
   rw[hx] at g;exact⟨MkS.le_trans c (MkS.le_trans a (MkS.le_trans (WV _ _) (MkS.le_trans (MkS.bn _ _ _ _ _) e))),by simp only[Fo.keys,Fo.cw,zg];omega⟩
 | .uq k _ m r,bg,s,ls,hb=>by
  obtain⟨a,b⟩:=MkS.go_le m (fun _ s=>s) (bg k s) [] (fun _ s=>⟨s.le_refl,rfl⟩);obtain⟨c,d⟩:=MkS.go_le r bg ((MkS.qZ m (fun _ s=>s) (bg k s) []).1.put 11 0 [] [0]) (ls++[(MkS.qZ m (fun _ s=>s) (bg k s) []).1.code.length]) hb;rw[jt] at d;have hx:∀ p,(uG ⟨11,p,0,[],[0]⟩).length=3:=fun p=>by simp[uG,fJ,jx,jy]
  rw[hx] at d;have:=(hb k s).2;exact⟨MkS.le_trans (hb k s).1 (MkS.le_trans a (MkS.le_trans (MkS.bn _ _ _ _ _) c)),by simp only[Fo.keys,Fo.cw,MkS.qZ,zL];omega⟩
theorem N3(m:Fo)(s:MkS):s.le (MkS.dM m s)/\(MkS.dM m s).sz<=s.sz+m.cw:=by
 obtain⟨a,b⟩:=MkS.go_le m (fun _ s=>s) s [] (fun _ s=>⟨s.le_refl,rfl⟩);exact⟨a,by unfold MkS.dM;omega⟩
theorem xp{lo hi:Nat}{w0 W:World}(h:vK lo hi w0 W){b j:Nat}{v:Value}(hc:w0.cell? ⟨b,j,none⟩=some v)(h1:lo<=b)(h2:b<hi):W.cell? ⟨b,j,none⟩=some v:=(h.cell (p:=⟨b,j,none⟩) h1 h2).trans hc
def AL{σ:Type}(lo hi:Nat)(w0:World)(v:Value)(I:σ->Nat->World->Prop)(F:σ->Fo->Out σ)(f:Fo):Prop :=
 ∀ s room W a c vs,I s (room+f.cnt) W->Vn lo hi w0 a vs->xV lo hi w0 vs f->Calls prog 49 #[.slice a f.len c,v] W (zxk I room (vw F f s))
theorem S5{σ:Type}{lo hi:Nat}{w0:World}{v:Value}{I:σ->Nat->World->Prop}{F:σ->Fo->Out σ}(hy:Mh lo hi w0 v I F)(f:Fo)(hm:f.vD=true)(hw:f.wf 2000000=true)(hl:f.len<=2000000)
  (ih:∀ m:Fo,zy m<zy f->m.vD=true->m.wf 2000000=true->m.len<=2000000->AL lo hi w0 v I F m):AL lo hi w0 v I F f:=by
 intro s room W a c vs hI vL kO;obtain⟨⟨k,cap,rfl,C5,vE⟩,Kc,CX,tZ⟩:=hy;have VM:=z7 tZ;obtain⟨L,hL⟩:∃ L,f.len=L:=⟨_,rfl⟩;rw[hL];have DX:vs.length=L:=(xV.count f vs kO hm).trans hL;obtain⟨R,hR⟩:∃ R,vw F f s=R:=⟨_,rfl⟩;rw[hR];have HI0:=z7 hI;have qB:=z7 vL;have YG:=z7 kO;have HM:=z7 hm;have HW:=z7 hw;have HR:=z7 hR;have qC:=z7 vE;have XK:=z7 Kc;have yj1:=z7 CX;have nN:=z7 ih;have CV:=z7 DX;have HL:=z7 hL;have hL2:L<=2000000:=by omega
 clear hI vL kO hm hw hR vE Kc CX tZ ih DX hl hL;go_enter func49,ntmps49;go_wp2_with fail;go_loopw [14] (fun iv wr=>∃ i us xs r s1,iv = .int .i64 (i:Nat)/\i<=L/\xV lo hi w0 xs r/\r.vD=true/\r.wf 2000000=true/\us.length=i/\vs=us++xs/\i+r.len=L/\zy r<=zy f/\I s1 (room+r.cnt) wr/\vw F r s1=R) (fun iv _=>L - (intOf iv).toNat)
 case atStart=>exact⟨0,[],vs,f,s,rfl,zj _,YG.out,HM.out,HW.out,rfl,rfl,by have:=HL.out;omega,z8 _,HI0.out,HR.out⟩
 case round =>
  obtain⟨i,us,xs,r,s1,rfl,hiL,fu,tY,EL,VL,tX,jq,qs,Vc,Vg⟩:=hrel;have HN:=z7 fu;have K7:=z7 tY;have Us:=z7 EL;have My:=z7 tX;have CU:=z7 VL;have K8:=z7 Vc;have dY:=z7 Vg;clear fu tY EL tX VL Vc Vg;by_cases xC:i<L
  ·obtain⟨x0,xt,PD⟩:∃ x0 xt,xs=x0::xt:=by
    cases xs with
    | nil=>have h1:=CV.out;rw[My.out] at h1;have:=CU.out;simp at h1;omega
    | cons a b=>exact⟨a,b,rfl⟩
   subst PD;obtain⟨g,o,rfl,Zp,dy,vU⟩:=qB.out i (by have:=CV.out;omega);have Ju:vs[i]'(by have:=CV.out;omega)=x0:=by
    have h1:vs[i]? = some x0:=by rw[My.out,←CU.out];simp
    rw[zG (by have:=CV.out;omega)] at h1;exact zF h1
   rw[Ju] at vU;have qD:=xp (XK.out _ _ wr K8.out) vU Zp dy;have k1:(i:Int)<(L:Int):=by omega
   have k2:decide ((i:Int)<(L:Int))=true:=by simp;omega
   have dQ:=z7 qs;clear vU Ju qs
   cases r with
   | nil =>
    have:=HN.out
    cases this
   | uq k0 a0 m0 r0=>have:=K7.out;cases this
   | text t r =>
    obtain⟨vt,he,fu⟩:=HN.out
    cases he;have e1:=Hs t;have e2:=Ht t;have e3:=Mw t;have QN:=z7 fu;clear fu;have Us:=z7 (show r.wf 2000000=true from Us.out);have K7:=z7 (show r.vD=true from K7.out);have Xv:=z7 (show i+(r.len+1)=L from jq);have VX:=z7 (show vw F r s1=R from dY.out);have dQ:=z7 (show zy r<=zy f by have:=dQ.out;simp at this;omega);go_wp2;go_roundw
    case rel=>exact⟨i+1,us++[(.iface 262 (xf t))],_,r,s1,by simp,by omega,QN.out,K7.out,Us.out,by simp[CU.out],by rw[My.out,zk];rfl,by have:=Xv.out;omega,by have:=dQ.out;omega,K8.out,VX.out⟩
    case measure=>simp only[intOf];omega
   | hash r =>
    obtain⟨vt,he,fu⟩:=HN.out
    cases he;have e1:=Hh;have e2:=Hw;have e3:=N0;have QN:=z7 fu;clear fu;have Us:=z7 (show r.wf 2000000=true from Us.out);have K7:=z7 (show r.vD=true from K7.out);have Xv:=z7 (show i+(r.len+1)=L from jq);have VX:=z7 (show vw F r s1=R from dY.out);have dQ:=z7 (show zy r<=zy f by have:=dQ.out;simp at this;omega);go_wp2;go_roundw
    case rel=>exact⟨i+1,us++[(.iface 264 (.agg #[]))],_,r,s1,by simp,by omega,QN.out,K7.out,Us.out,by simp[CU.out],by rw[My.out,zk];rfl,by have:=Xv.out;omega,by have:=dQ.out;omega,K8.out,VX.out⟩
    case measure=>simp only[intOf];omega
   | put n a r =>
    obtain⟨vt,b0,he,xH,xB,fk,U4,fu⟩:=HN.out
    cases he;have Mx:=xp (XK.out _ _ wr K8.out) fk xH xB;have Wl:=xp (XK.out _ _ wr K8.out) U4 xH xB;have e1:=GV b0;have QN:=z7 fu;have bQ:(decide (n.length<=4000001) && r.wf 2000000)=true:=Us.out;simp only[zY,decide_eq_true_eq] at bQ;have Jf:room+(Fo.put n a r).cnt=(room+r.cnt)+(Fo.put n a .nil).wt:=by simp only[Fo.cnt,Fo.wt];omega
    have AM:=K8.out;rw[Jf] at AM;have WQ:=z7 (qC.out s1 (room+r.cnt) wr (.put n a .nil) (.iface 172 (.pointer (some ⟨b0,0,none⟩))) n a AM ⟨[],b0,rfl,xH,xB,fk,U4,rfl⟩ (by simp[Fo.wf,bQ.1]) rfl);have Us:=z7 bQ.2;clear fu bQ Jf AM;have K7:=z7 (show r.vD=true from K7.out);have Xv:=z7 (show i+(r.len+1)=L from jq);have dQ:=z7 (show zy r<=zy f by have:=dQ.out;simp at this;omega);obtain⟨o1,DY⟩:∃ o1,F s1 (.put n a .nil)=o1:=⟨_,rfl⟩;have Yb:=dY.out;rw[vw,DY] at Yb;have JM:=z7 Yb.symm;rw[DY] at WQ;clear DY Yb dY fk U4;go_wp2_with fail;refine WQ.out.mono ?_;rintro e w2 hq
    cases o1 with
    | WU c s2 =>
     obtain⟨rfl,C6⟩:=hq;have VX:=z7 (show R = .WU c s2 from JM.out);go_wp2;refine⟨rfl,?_⟩;rw[VX.out];exact⟨rfl,VM.out _ _ _ _ C6 (by omega)⟩
    | go b s2 =>
     obtain⟨rfl,C6⟩:=hq;have WK:=z7 C6;clear C6
     cases b with
     | false =>
      have VX:=z7 (show R = .go false s2 from JM.out);go_wp2;go_ret;rw[VX.out];exact⟨rfl,VM.out _ _ _ _ WK.out (by omega)⟩
     | true =>
      have VX:=z7 (show vw F r s2=R from JM.out.symm);go_wp2;go_roundw
      case rel=>exact⟨i+1,us++[(.iface 172 (.pointer (some ⟨b0,0,none⟩)))],_,r,s2,by simp,by omega,QN.out,K7.out,Us.out,by simp[CU.out],by rw[My.out,zk];rfl,by have:=Xv.out;omega,by have:=dQ.out;omega,WK.out,VX.out⟩
      case measure=>simp only[intOf];omega
   | num n a r =>
    obtain⟨vt,b0,he,xH,xB,fk,U4,fu⟩:=HN.out
    cases he;have Mx:=xp (XK.out _ _ wr K8.out) fk xH xB;have Wl:=xp (XK.out _ _ wr K8.out) U4 xH xB;have e1:=GU b0;have e2:=U2 b0;have QN:=z7 fu;have bQ:(decide (n.length<=4000001) && r.wf 2000000)=true:=Us.out;simp only[zY,decide_eq_true_eq] at bQ;have Jf:room+(Fo.num n a r).cnt=(room+r.cnt)+(Fo.num n a .nil).wt:=by simp only[Fo.cnt,Fo.wt];omega
    have AM:=K8.out;rw[Jf] at AM;have WQ:=z7 (qC.out s1 (room+r.cnt) wr (.num n a .nil) (.iface 175 (.pointer (some ⟨b0,0,none⟩))) n a AM ⟨[],b0,rfl,xH,xB,fk,U4,rfl⟩ (by simp[Fo.wf,bQ.1]) rfl);have Us:=z7 bQ.2;clear fu bQ Jf AM;have K7:=z7 (show r.vD=true from K7.out);have Xv:=z7 (show i+(r.len+1)=L from jq);have dQ:=z7 (show zy r<=zy f by have:=dQ.out;simp at this;omega);obtain⟨o1,DY⟩:∃ o1,F s1 (.num n a .nil)=o1:=⟨_,rfl⟩;have Yb:=dY.out;rw[vw,DY] at Yb;have JM:=z7 Yb.symm;rw[DY] at WQ;clear DY Yb dY fk U4;go_wp2_with fail;refine WQ.out.mono ?_;rintro e w2 hq
    cases o1 with
    | WU c s2 =>
     obtain⟨rfl,C6⟩:=hq;have VX:=z7 (show R = .WU c s2 from JM.out);go_wp2;refine⟨rfl,?_⟩;rw[VX.out];exact⟨rfl,VM.out _ _ _ _ C6 (by omega)⟩
    | go b s2 =>
     obtain⟨rfl,C6⟩:=hq;have WK:=z7 C6;clear C6
     cases b with
     | false =>
      have VX:=z7 (show R = .go false s2 from JM.out);go_wp2;go_ret;rw[VX.out];exact⟨rfl,VM.out _ _ _ _ WK.out (by omega)⟩
     | true =>
      have VX:=z7 (show vw F r s2=R from JM.out.symm);go_wp2;go_roundw
      case rel=>exact⟨i+1,us++[(.iface 175 (.pointer (some ⟨b0,0,none⟩)))],_,r,s2,by simp,by omega,QN.out,K7.out,Us.out,by simp[CU.out],by rw[My.out,zk];rfl,by have:=Xv.out;omega,by have:=dQ.out;omega,WK.out,VX.out⟩
      case measure=>simp only[intOf];omega
   | br n a fo of cl bs r =>
    obtain⟨vt,b0,ba,bc,ws,he,xH,xB,fk,U4,jJ,Mv,B2,Mu,K9,UQ,fu⟩:=HN.out
    cases he;have Mx:=xp (XK.out _ _ wr K8.out) fk xH xB;have Wl:=xp (XK.out _ _ wr K8.out) U4 xH xB;have e1:=B0 b0;have e2:=K4 b0;have e3:=Um b0;have QN:=z7 fu;have nO:=z7 UQ;have Mq:=z7 K9;have bQ:(decide (n.length<=4000001) && decide (fo<3) && bs.ub && decide (bs.len<=2000000) && bs.wf 2000000 && r.wf 2000000)=true:=Us.out;simp only[zY,decide_eq_true_eq] at bQ;obtain⟨⟨⟨⟨⟨hnl,KA⟩,Wr⟩,I3⟩,qI⟩,zeq⟩:=bQ;have Jf:room+(Fo.br n a fo of cl bs r).cnt=(room+r.cnt+bs.cnt)+(Fo.br n a fo of cl bs .nil).wt:=by simp only[Fo.cnt,Fo.wt];omega
    have AM:=K8.out;rw[Jf] at AM;have WQ:=z7 (qC.out s1 (room+r.cnt+bs.cnt) wr (.br n a fo of cl bs .nil) (.iface 177 (.pointer (some ⟨b0,0,none⟩))) n a AM ⟨[],b0,ba,bc,ws,rfl,xH,xB,fk,U4,jJ,Mv,B2,Mu,K9,UQ,rfl⟩ (by simp[Fo.wf,hnl,KA,Wr,I3,qI]) rfl);have HC4:=z7 B2;have Us:=z7 zeq;have HBL:=z7 Wr;have I4:=z7 qI;have K7:=z7 (show r.vD=true from K7.out);have Xv:=z7 (show i+(r.len+1)=L from jq);have dQ:=z7 (show zy r<=zy f/\zy bs<zy f by have:=dQ.out;simp at this;omega);obtain⟨o1,DY⟩:∃ o1,F s1 (.br n a fo of cl bs .nil)=o1:=⟨_,rfl⟩;have Yb:=dY.out;rw[vw,DY] at Yb;have JM:=z7 Yb.symm;rw[DY] at WQ;clear DY Yb dY fk U4 jJ Mv B2 Mu K9 UQ fu zeq Wr qI Jf AM;go_wp2_with fail;refine WQ.out.mono ?_;rintro e w2 hq
    cases o1 with
    | WU c s2 =>
     obtain⟨rfl,C6⟩:=hq;have VX:=z7 (show R = .WU c s2 from JM.out);go_wp2;refine⟨rfl,?_⟩;rw[VX.out];exact⟨rfl,VM.out _ _ _ _ C6 (by omega)⟩
    | go b s2 =>
     obtain⟨rfl,C6⟩:=hq;have WK:=z7 C6;clear C6
     cases b with
     | false =>
      have VX:=z7 (show R = .go false s2 from JM.out);go_wp2;go_ret;rw[VX.out];exact⟨rfl,VM.out _ _ _ _ WK.out (by omega)⟩
     | true =>
      have VX:=z7 (show(vw F bs s2).then (fun s=>vw F r s)=R from JM.out.symm);have hh4:=xp (XK.out _ _ w2 WK.out) HC4.out xH xB;clear Mx Wl qD WQ JM K8;go_wp2_with fail;go_loopw [60] (fun iv wq=>∃ i2 us2 xs2 r2 s3,iv = .int .i64 (i2:Nat)/\i2<=bs.len/\xV lo hi w0 xs2 r2/\r2.ub=true/\r2.wf 2000000=true/\us2.length=i2*3/\ws=us2++xs2/\i2+r2.len=bs.len/\zy r2<=zy bs/\I s3 (room+r.cnt+r2.cnt) wq/\(vw F r2 s3).then (fun s=>vw F r s)=R) (fun iv _=>bs.len - (intOf iv).toNat)
      case atStart=>exact⟨0,[],ws,bs,s2,rfl,zj _,nO.out,HBL.out,I4.out,rfl,rfl,by omega,z8 _,WK.out,VX.out⟩
      case round =>
       obtain⟨i2,us2,xs2,r2,s3,rfl,xx3,zej,zeg,zef,zed,zeb,N5,Qw,hi3,Qh⟩:=hrel;have lr:=z7 zej;have U5:=z7 zeg;have zxg:=z7 zef;have I5:=z7 zeb;have DV:=z7 zed;have AN:=z7 hi3;have Ee:=z7 Qh;have yj3:=z7 Qw;have AO:=z7 N5;clear zej zeg zef zeb zed hi3 Qh Qw;by_cases Zg:i2<bs.len
       ·cases r2 with
        | nil=>exfalso;simp[Fo.len] at N5;omega
        | text t r=>have:=U5.out;cases this
        | hash r=>have:=U5.out;cases this
        | put n a r=>have:=U5.out;cases this
        | num n a r=>have:=U5.out;cases this
        | br n a fo of cl bs r=>have:=U5.out;cases this
        | uq k0 a0 m0 r0 =>
         obtain⟨PC,ma,mc,ms,CQ,XJ,AP,Ut⟩:=lr.out;subst CQ;have hwl:ws.length=us2.length+(PC.length+3):=by rw[I5.out];simp
         have UX:∀ j v,[xf k0,.int .i64 (a0:Nat),.slice ma m0.len mc][j]? = some v->∃ (h:i2*3+j<ws.length),ws[i2*3+j]=v:=by
          intro j v hj;have hj3:j<3:=by
           apply Classical.byContradiction;intro hc;rw[List.getElem?_eq_none (by simp;omega)] at hj
           cases hj
          refine⟨by have:=DV.out;omega,?_⟩;have h1:ws[i2*3+j]? = some v:=by
           rw[I5.out,←DV.out,List.getElem?_append_right (by omega),Nat.add_sub_cancel_left,←hj];match j,hj3 with
           | 0,_=>rfl
           | 1,_=>rfl
           | 2,_=>rfl
          rw[zG (by have:=DV.out;omega)] at h1;exact zF h1
         obtain⟨q0,p0⟩:=UX 0 _ rfl;obtain⟨q1,p1⟩:=UX 1 _ rfl;obtain⟨q2,p2⟩:=UX 2 _ rfl;obtain⟨g2,o2,rfl,N6,N7,d0⟩:=Mq.out (i2*3+0) q0;obtain⟨nR,o2',hgg,_,_,d1⟩:=Mq.out (i2*3+1) q1
         cases hgg;obtain⟨nR,o2',hgg,_,_,d2⟩:=Mq.out (i2*3+2) q2
         cases hgg;rw[p0] at d0;rw[p1] at d1;rw[p2] at d2;have c0:=xp (XK.out _ _ wr AN.out) d0 N6 N7;have c1:=xp (XK.out _ _ wr AN.out) d1 N6 N7;have c2:=xp (XK.out _ _ wr AN.out) d2 N6 N7;simp only[Nat.add_zero,←Nat.add_assoc] at c0 c1 c2;have yj5:=z7 XJ;have yj6:=z7 AP;have nS:=z7 Ut;have k3:(i2:Int)<(bs.len:Int):=by omega
         have k4:decide ((i2:Int)<(bs.len:Int))=true:=by simp;omega
         clear XJ AP Ut d0 d1 d2 p0 p1 p2 UX;have AR:(decide (k0.length<=4000001) && m0.vD && decide (m0.len<=2000000) && m0.wf 2000000 && r0.wf 2000000)=true:=zxg.out;simp only[zY,decide_eq_true_eq] at AR;obtain⟨⟨⟨⟨_,V6⟩,jH⟩,KN⟩,KM⟩:=AR;have DU:zy m0<zy f/\zy r0<=zy bs:=by have:=dQ.out;have:=yj3.out;simp at this;omega
         have HEC:=z7 (nN.out m0 DU.1 V6 KN jH s3 (room+r.cnt+r0.cnt) (wr.alloc (.cells #[xf k0,.int .i64 (a0:Nat),.slice ma m0.len mc] 183)) ma mc ms (yj1.out s3 _ wr _ (by have:=AN.out;rw[show room+r.cnt+(Fo.uq k0 a0 m0 r0).cnt=room+r.cnt+r0.cnt+m0.cnt from by simp only[Fo.cnt];omega] at this;exact this) ((zf _ _).alloc (z8 _) _)) yj5.out yj6.out);have HSS:=z7 DU.2;have nT:=z7 KM;have ni:=z7 (show r0.ub=true from U5.out);have nl:=z7 (show i2+(r0.len+1)=bs.len from AO.out);obtain⟨oo,hoo⟩:∃ oo,vw F m0 s3=oo:=⟨_,rfl⟩;have Da:=Ee.out;rw[vw,hoo] at Da;have JM:=z7 Da.symm;rw[hoo] at HEC;clear hoo Da V6 jH KN KM DU;go_wp2_with fail;refine HEC.out.mono ?_;rintro e w3 hq
         cases oo with
         | WU c s4 =>
          obtain⟨rfl,hi4⟩:=hq;have VX:=z7 (show R = .WU c s4 from JM.out);go_wp2;refine⟨rfl,?_⟩;rw[VX.out];exact⟨rfl,VM.out _ _ _ _ hi4 (by omega)⟩
         | go b s4 =>
          obtain⟨rfl,hi4⟩:=hq;have zi0:=z7 hi4;clear hi4
          cases b with
          | false =>
           have VX:=z7 (show R = .go false s4 from JM.out);go_wp2;go_ret;rw[VX.out];exact⟨rfl,VM.out _ _ _ _ zi0.out (by omega)⟩
          | true =>
           have VX:=z7 (show(vw F r0 s4).then (fun s=>vw F r s)=R from JM.out.symm);go_wp2;go_roundw
           case rel=>exact⟨i2+1,us2++[xf k0,.int .i64 (a0:Nat),.slice ma m0.len mc],PC,r0,s4,by simp,by omega,nS.out,ni.out,nT.out,by have:=DV.out;simp;omega,by rw[I5.out,zk];rfl,by have:=nl.out;omega,HSS.out,zi0.out,VX.out⟩
           case measure=>simp only[intOf];omega
       ·have k4:decide ((i2:Int)<(bs.len:Int))=false:=by simp;omega
        have vZ:r2 = .nil:=by
         have:=U5.out
         cases r2<;>simp[Fo.len] at N5<;>first|rfl|omega
        have HRY:=z7 (show vw F r s3=R by rw[←Ee.out,vZ];rfl);have dQ:=z7 dQ.out.1;go_wp2;go_roundw
        case rel=>exact⟨i+1,us++[(.iface 177 (.pointer (some ⟨b0,0,none⟩)))],_,r,s3,by simp,by omega,QN.out,K7.out,Us.out,by simp[CU.out],by rw[My.out,zk];rfl,by have:=Xv.out;omega,by have:=dQ.out;omega,VM.out _ _ _ _ AN.out (by omega),HRY.out⟩
        case measure=>simp only[intOf];omega
  ·have k2:decide ((i:Int)<(L:Int))=false:=by simp;omega
   have vZ:r = .nil:=by
    cases r<;>simp[Fo.len] at jq<;>first|rfl|omega
   have VX:=z7 (show R = .go true s1 by rw[←dY.out,vZ];rfl);go_wp2;go_ret;rw[VX.out];exact⟨rfl,VM.out _ _ _ _ K8.out (by omega)⟩
theorem I6{σ:Type}{lo hi:Nat}{w0:World}{v:Value}{I:σ->Nat->World->Prop}{F:σ->Fo->Out σ}(hy:Mh lo hi w0 v I F):∀ (n:Nat) (f:Fo),zy f<n->f.vD=true->f.wf 2000000=true->f.len<=2000000->AL lo hi w0 v I F f
 | 0,f,h,_,_,_=>absurd h (Nat.not_lt_zero _)
 | n+1,f,h,hm,hw,hl=>S5 hy f hm hw hl fun m h1 h2 h3 h4=>I6 hy n m (by omega) h2 h3 h4
end Go.Proofs.YthpldolmpinnhaaGreatDoor
