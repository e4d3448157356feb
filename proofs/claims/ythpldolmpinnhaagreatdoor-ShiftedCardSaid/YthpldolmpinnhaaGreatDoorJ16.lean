import Derived.Test.YthpldolmpinnhaaGreatDoorJ15
import Derived.Test.YthpldolmpinnhaaGreatDoorShelf
import Derived.Recover
import Derived.WalkSmall
import Derived.Laws.IdiomStrings
namespace Go.Proofs.YthpldolmpinnhaaGreatDoor
open Go Go.RowKit
set_option maxRecDepth 10000
theorem tabs_keep {w W:World} (h:Lib.Utf8Tabs 3 4 w) (hb:Below w.heap.size w W):Lib.Utf8Tabs 3 4 W:=by
 have lt:∀ (a:Addr) (v:Value),w.cell? a=some v->a.block<w.heap.size:=fun a v h=>World.block_lt_of_cell? w a h
 refine ⟨fun c hc=>?_,fun i hi=>⟨?_,?_⟩⟩
 ·rw [hb.cell (lt _ _ (h.1 c hc))];exact h.1 c hc
 ·rw [hb.cell (lt _ _ (h.2 i hi).1)];exact (h.2 i hi).1
 ·rw [hb.cell (lt _ _ (h.2 i hi).2)];exact (h.2 i hi).2
theorem assert_fault (b:Nat) (w:World):(Instr.typeAssert (.iface 101 (.pointer (some ⟨b,0,none⟩))) 20 101 true).run Tryz.prog w = .ok (.tuple #[.pointer (some ⟨b,0,none⟩),.bool true]) w:=by rfl
theorem assert_nilf (w:World):(Instr.typeAssert .nilIface 20 101 true).run Tryz.prog w = .ok (.tuple #[.pointer none,.bool false]) w:=by rfl
theorem parse_idle (A B:Nat) (w:World):CallsD Tryz.prog 109 #[.pointer (some ⟨A,0,none⟩),.pointer (some ⟨B,0,none⟩)] .returning w fun e u' w'=>e = .returned (.tuple #[])/\u' = .returning/\w'=w:=by
 refine callsD_of_wpS Tryz.func109 rfl fun c₀ cs hu=>?_
 have ha:=assert_nilf;apply wpS_seq;apply wpS_region;simp [wpOpsS,go_sem,recoverD,hu,ha,Tryz.ntmps109,Exit.thenS];refine wpS_of_wp ?_;trace_state
 go_wp2
 cases c₀;simp_all [bodyPostS,results,Tryz.results109]
set_option maxHeartbeats 4000000 in
theorem parse_catch (A B b:Nat) (u v:Value) (older:List PanicEntry) (w:World) (hA:w.cell? ⟨A,0,none⟩=some u) (hAz:w.frozen? ⟨A,0,none⟩=false) (hB:w.cell? ⟨B,0,none⟩=some v) (hBz:w.frozen? ⟨B,0,none⟩=false) (hAB:B≠A) :
  CallsD Tryz.prog 109 #[.pointer (some ⟨A,0,none⟩),.pointer (some ⟨B,0,none⟩)] (.panicking ({ v := .iface 101 (.pointer (some ⟨b,0,none⟩)),recovered:=false }::older)) w fun e u' w' =>
   e = .returned (.tuple #[])/\u' = .panicking ({ v := .iface 101 (.pointer (some ⟨b,0,none⟩)),recovered:=true }::older)/\w'=(w.setCell ⟨A,0,none⟩ (.slice none 0 0)).setCell ⟨B,0,none⟩ (.iface 101 (.pointer (some ⟨b,0,none⟩))):=by
 have ha:=assert_fault b;refine callsD_of_wpS Tryz.func109 rfl fun c₀ cs hu=>?_
 apply wpS_seq;apply wpS_region;simp [wpOpsS,go_sem,recoverD,hu,ha,Tryz.ntmps109,Exit.thenS];refine wpS_of_wp ?_;simp only [Array.replicate,List.replicate,List.setIfInBounds_toArray,List.set_cons_zero,List.set_cons_succ,List.append_toArray,List.cons_append,List.nil_append,Act.put];have hB':(w.setCell ⟨A,0,none⟩ (.slice none 0 0)).cell? ⟨B,0,none⟩=some v:=by rw [cellSet,if_neg (fun e=>hAB (congrArg Addr.block e).symm)];exact hB
 trace_state
 go_wp2
 simp [bodyPostS,results,Tryz.results109]
def parseR (l:List UInt8):Except (Nat×Nat) Fo :=
 if 1000<l.length then .error (1,0)
 else if (ptsL l).2<l.length then .error (2,(ptsL l).1.length)
 else match parseL (runesL l) with | .error e => .error e | .ok x => .ok x.1
def ParseQ (r:Except (Nat×Nat) Fo) (w:World) (e:Ending) (w':World):Prop :=
 (match r with
  | .error (n,a)=>∃ b,e = .returned (.tuple #[.slice none 0 0,.iface 101 (.pointer (some ⟨b,0,none⟩))])/\w'.cell? ⟨b,0,none⟩=some (.int .i64 n)/\w'.cell? ⟨b,1,none⟩=some (.int .i64 a)
  | .ok f=>(∃ a c vs,e = .returned (.tuple #[.slice a f.len c,.nilIface])/\RowC w.heap.size w'.heap.size w' a vs/\NodesV w.heap.size w'.heap.size w' vs f)/\f.isMsg=true)/\Below w.heap.size w w'
structure ResAt (A:Nat) (u v:Value) (w:World):Prop where
 c0:w.cell? ⟨A,0,none⟩=some u
 c1:w.cell? ⟨A+1,0,none⟩=some v
 z0:w.frozen? ⟨A,0,none⟩=false
 z1:w.frozen? ⟨A+1,0,none⟩=false
theorem ResAt.keep {A:Nat} {u v:Value} {w w':World} (h:ResAt A u v w) (hb:∀ k,k=A\/k=A+1->w'.heap[k]? = w.heap[k]?):ResAt A u v w' :=
 ⟨(World.cell?_of_block (a:=⟨A,0,none⟩) (hb A (.inl rfl))).trans h.c0,(World.cell?_of_block (a:=⟨A+1,0,none⟩) (hb _ (.inr rfl))).trans h.c1,
  (World.frozen?_of_block (a:=⟨A,0,none⟩) (hb A (.inl rfl))).trans h.z0,(World.frozen?_of_block (a:=⟨A+1,0,none⟩) (hb _ (.inr rfl))).trans h.z1⟩
theorem ResAt.lt {A:Nat} {u v:Value} {w:World} (h:ResAt A u v w):A+1<w.heap.size:=World.block_lt_of_cell? w _ h.c1
theorem ResAt.below {A:Nat} {u v:Value} {w w':World} (h:ResAt A u v w) (hb:Below w.heap.size w w'):ResAt A u v w' :=
 h.keep fun k hk=>hb.block k (by have:=h.lt;omega)
theorem ResAt.but {A p:Nat} {u v:Value} {w w':World} (h:ResAt A u v w) (hb:But p w w') (hp:A+1<p):ResAt A u v w' :=
 h.keep fun k hk=>hb.block k (by have:=h.lt;omega) (by omega)
theorem ResAt.set0 {A:Nat} {u v x:Value} {w:World} (h:ResAt A u v w):ResAt A x v (w.setCell ⟨A,0,none⟩ x) :=
 ⟨by rw [cellSet,if_pos rfl,h.c0];rfl,by rw [cellSet,if_neg (by simp)];exact h.c1,by rw [World.frozen?_setCell];exact h.z0,by rw [World.frozen?_setCell];exact h.z1⟩
theorem ResAt.set1 {A:Nat} {u v x:Value} {w:World} (h:ResAt A u v w):ResAt A u x (w.setCell ⟨A+1,0,none⟩ x) :=
 ⟨by rw [cellSet,if_neg (by simp)];exact h.c0,by rw [cellSet,if_pos rfl,h.c1];rfl,by rw [World.frozen?_setCell];exact h.z0,by rw [World.frozen?_setCell];exact h.z1⟩
theorem SynAt.setA {p A:Nat} {rs:List Int} {i d:Nat} {w:World} {a:Option Addr} {n c:Nat} (h:SynAt p rs i d w) (hA:w.cell? ⟨A,0,none⟩=some (.slice a n c)) (hne:A≠p) (u:Value):SynAt p rs i d (w.setCell ⟨A,0,none⟩ u):=by
 obtain ⟨⟨g,cap,h0,h1,h2,h3,h4⟩,h5,h6,h7,h8,h9,h10,h11,h12⟩:=h;have ne:∀ k:Nat,¬(⟨A,0,none⟩:Addr)=⟨p,k,none⟩:=fun k e=>hne (congrArg Addr.block e)
 refine ⟨⟨g,cap,by rw [cellSet,if_neg (ne 0)];exact h0,h1,h2,h3,fun j hj=>?_⟩,by rw [cellSet,if_neg (ne 1)];exact h5,by rw [cellSet,if_neg (ne 2)];exact h6,by rw [World.frozen?_setCell];exact h7,by rw [World.frozen?_setCell];exact h8,h9,h10,h11,h12⟩;rw [cellSet,if_neg (fun e=>by have:=h4 j hj;rw [←e,hA] at this;cases this)];exact h4 j hj
theorem setc_below {a w:World} {B b:Nat} {x:Value} {j:Nat} (h:Below B a w) (hb:B<=b):Below B a (w.setCell ⟨b,j,none⟩ x) :=
 ⟨h.os,h.tape,h.output,Nat.le_trans h.size (by simp [World.setCell]),fun k hk=>(Below.heap_setCell _ _ _ _ (by show k≠b;omega)).trans (h.block k hk)⟩
theorem rune_pos (l:List UInt8):∀ r∈runesL l,0<=r:=by
 have key:∀ (n:Nat) (l:List UInt8),l.length<=n->∀ r∈runesL l,0<=r:=by
  intro n;induction n with
  | zero =>
   intro l h r hr;have:l=[]:=List.eq_nil_of_length_eq_zero (by omega);subst this;rw [runesL_nil] at hr
   cases hr
  | succ n ih =>
   intro l h r hr;by_cases h0:l=[]\/sizeL l=0
   ·rw [runesL,dif_pos h0] at hr
    cases hr
   ·have h1:l≠[]:=fun e=>h0 (.inl e)
    have h2:sizeL l≠0:=fun e=>h0 (.inr e)
    rw [runesL_step h1 h2] at hr;rcases List.mem_cons.1 hr with q | q
    ·omega
    ·exact ih _ (by have:=List.length_pos_iff.2 h1;simp;omega) r q
 exact key _ l (Nat.le_refl _)
theorem runes_len (l:List UInt8):(runesL l).length<=l.length:=by
 have key:∀ (n:Nat) (l:List UInt8),l.length<=n->(runesL l).length<=l.length:=by
  intro n;induction n with
  | zero =>
   intro l h;have:l=[]:=List.eq_nil_of_length_eq_zero (by omega);subst this;rw [runesL_nil];simp
  | succ n ih =>
   intro l h;by_cases h0:l=[]\/sizeL l=0
   ·rw [runesL,dif_pos h0];simp
   ·have h1:l≠[]:=fun e=>h0 (.inl e)
    have h2:sizeL l≠0:=fun e=>h0 (.inr e)
    rw [runesL_step h1 h2];have:=ih (l.drop (sizeL l)) (by have:=List.length_pos_iff.2 h1;simp;omega);have:=List.length_pos_iff.2 h1;simp at *;omega
 exact key _ l (Nat.le_refl _)
theorem res_made (w:World) {A:Nat} (hA:w.heap.size=A):ResAt A (.slice none 0 0) .nilIface ((w.alloc (.cells #[.slice none 0 0] 107)).alloc (.cells #[.nilIface] 73)):=by
 have h1:(w.alloc (.cells #[.slice none 0 0] 107)).heap.size=A+1:=by simp [hA]
 have hlt:A<(w.alloc (.cells #[.slice none 0 0] 107)).heap.size:=by omega
 refine ⟨?_,?_,?_,?_⟩
 ·rw [World.cell?_alloc_lt _ _ _ hlt,←hA];exact cell_made _ _ _ _ _
 ·rw [←h1];exact cell_made _ _ _ _ _
 ·rw [World.frozen?_of_block (Below.heap_alloc _ _ _ hlt)];subst hA;simp
 ·rw [←h1];simp
set_option maxHeartbeats 8000000 in
theorem syn_parse (s:ByteArray) (w:World) (hs:s.size<=9223372036854775807) (hT:Lib.Utf8Tabs 3 4 w) (hN:NamesAt w) :
  Calls Tryz.prog 78 #[.string s] w (ParseQ (parseR s.data.toList) w):=by
 have hmf:∀ (fn:Fn) (first cap:Array Value) (w:World),(Instr.makeFunc fn first cap).run Tryz.prog w = .ok (.func fn first cap) w:=fun _ _ _ _=>rfl
 have HT:=Lib.hid hT;have HNA:=Lib.hid hN;obtain ⟨A,hA⟩:∃ A,w.heap.size=A:=⟨_,rfl⟩;have HA:=Lib.hid hA;clear hT hN;by_cases h1000:1000<s.size
 ·have h1:decide ((1000:Int)<(s.size:Int))=true:=by simp;omega
  have h2:decide (1000<s.size)=true:=by simp;omega
  have HR:=Lib.hid (show parseR s.data.toList = .error (1,0) by unfold parseR;rw [size_toList,if_pos h1000]);clear h1000;go_enter_defers Tryz.func78,Tryz.ntmps78
  go_wp2
  obtain ⟨W,hW⟩:∃ W,((w.alloc (.cells #[.slice none 0 0] 107)).alloc (.cells #[.nilIface] 73)).alloc (.cells #[.int .i64 1,.int .i64 0] 105)=W:=⟨_,rfl⟩;rw [hW];have hres0:ResAt A (.slice none 0 0) .nilIface W:=by
   rw [←hW];exact (res_made w hA).below ((Below.refl _ _).alloc (Nat.le_refl _) _)
  have hbW:Below A w W:=by
   rw [←hW,←hA];exact ((((Below.refl _ _).alloc (Nat.le_refl _) _).alloc (by simp) _).alloc (by simp;omega) _)
  have hc:=fun i=>cell_made ((w.alloc (.cells #[.slice none 0 0] 107)).alloc (.cells #[.nilIface] 73)) #[.int .i64 1,.int .i64 0] 105 (0,0) i
  rw [hW,show ((w.alloc (.cells #[.slice none 0 0] 107)).alloc (.cells #[.nilIface] 73)).heap.size=A+1+1 by simp [hA]] at hc;clear hW;obtain ⟨bf,hbf⟩:∃ bf,A+1+1=bf:=⟨_,rfl⟩;rw [hbf] at hc ⊢;clear hbf;refine leaves_cons (f:=109) (args:=#[.pointer (some ⟨A,0,none⟩),.pointer (some ⟨A+1,0,none⟩)]) (by simp) (by simp [go_sem]) ?_;refine (parse_catch A (A+1) _ _ _ _ _ hres0.c0 hres0.z0 hres0.c1 hres0.z1 (by omega)).mono ?_;rintro e u' w'' ⟨rfl,rfl,rfl⟩;have hres:=(hres0.set0 (x := .slice none 0 0)).set1 (x := .iface 101 (.pointer (some ⟨bf,0,none⟩)));have hcA:=hres.c0;have hcB:=hres.c1;simp [Leaves,settle,results,Tryz.results78,go_sem,hcA,hcB];have hF:=HR.out;rw [hF];have neA:bf≠A:=fun e=>by have h1:=(hc 0);rw [e,hres0.c0] at h1;cases h1
  have neB:bf≠A+1:=fun e=>by have h1:=(hc 0);rw [e,hres0.c1] at h1;cases h1
  exact ⟨⟨bf,rfl,by rw [cellSet,if_neg (fun e=>neB (congrArg Addr.block e).symm),cellSet,if_neg (fun e=>neA (congrArg Addr.block e).symm)];exact (hc 0),by rw [cellSet,if_neg (fun e=>neB (congrArg Addr.block e).symm),cellSet,if_neg (fun e=>neA (congrArg Addr.block e).symm)];exact (hc 1)⟩,by rw [HA.out];exact setc_below (setc_below hbW (by omega)) (by omega)⟩
 ·have h1:decide ((1000:Int)<(s.size:Int))=false:=by simp;omega
  have h2:decide (1000<s.size)=false:=by simp;omega
  go_enter_defers Tryz.func78,Tryz.ntmps78
  have hres0:=res_made w hA;have hbW0:Below A w ((w.alloc (.cells #[.slice none 0 0] 107)).alloc (.cells #[.nilIface] 73)):=by
   rw [←hA];exact ((Below.refl _ _).alloc (Nat.le_refl _) _).alloc (by simp) _
  have hszW:((w.alloc (.cells #[.slice none 0 0] 107)).alloc (.cells #[.nilIface] 73)).heap.size=A+1+1:=by simp [hA]
  obtain ⟨W0,hW0⟩:∃ W0,(w.alloc (.cells #[.slice none 0 0] 107)).alloc (.cells #[.nilIface] 73)=W0:=⟨_,rfl⟩;rw [hW0] at hres0 hbW0 hszW;have HW0:=Lib.hid hW0;clear hW0;obtain ⟨I,hI⟩:∃ I,A+1+1=I:=⟨_,rfl⟩;have HI:=Lib.hid hI;have h999:s.size<=1000:=by omega
  go_wp2_with fail
  clear hI;go_loopw [] (fun wr=>∃ k pre,k<=s.size/\wr.heap[I]? = some (.stringIter s k)/\Below A w wr/\ResAt A (.slice none 0 0) .nilIface wr/\ptsL s.data.toList=(pre++(ptsL (s.data.toList.drop k)).1,k+(ptsL (s.data.toList.drop k)).2)) (fun wr=>s.size - wr.iterPos I)
  case atStart =>
   rw [HW0.out];refine ⟨0,[],Nat.zero_le _,?_,hbW0.alloc (by omega) _,hres0.below ((Below.refl _ _).alloc (Nat.le_refl _) _),by simp⟩;rw [←HI.out,←hszW];exact World.iter_heap W0 s 0
  case round =>
   obtain ⟨k,pre,hk,hit,hbw,hres,hpts⟩:=hrel;have HP:=Lib.hid hpts;have HRES:=Lib.hid hres;have HB:=Lib.hid hbw;have HIT:=Lib.hid hit;have hIlt:I<wr.heap.size:=(Array.getElem?_eq_some_iff.1 hit).1;have hAI:A+1<I:=by have:=HI.out;omega
   by_cases hlt:k<s.size
   ·have hn:=Lib.run_next_any_at (P:=Tryz.prog) wr I s k 0 hit hlt;have hd:=dec_at s k hlt;have hok:sizeOk (s.data.toList.drop k):=by
     cases hl:s.data.toList.drop k with
     | nil=>have:=congrArg List.length hl;simp at this;omega
     | cons a r=>exact size_ok a r
    have HOK:=Lib.hid hok;have hit2:=Lib.iterAt_heap wr I s k (k+(decN (s.data.toList.drop k)).2) hit;have hbw2:=Lib.below_iterAt hbw (k:=I) (by omega) s (k+(decN (s.data.toList.drop k)).2);have hres2:=hres.keep (w':=wr.iterAt I s (k+(decN (s.data.toList.drop k)).2)) (fun j hj=>Lib.iterAt_other _ _ _ _ _ (by omega));obtain ⟨pt,hpt⟩:∃ pt,decN (s.data.toList.drop k)=pt:=⟨_,rfl⟩;obtain ⟨r,z⟩:=pt;rw [hd,hpt] at hn;rw [hpt] at hit2 hbw2 hres2;dsimp only at hn hit2 hbw2 hres2;obtain ⟨W1,hW1⟩:∃ W1,wr.iterAt I s (k+z)=W1:=⟨_,rfl⟩;rw [hW1] at hn hit2 hbw2 hres2;have hsz1:W1.heap.size=wr.heap.size:=by rw [←hW1];exact Lib.iterAt_size _ _ _ _
    have HPT:=Lib.hid hpt;have HDR:=Lib.hid (Tryz.utf8_DecodeRuneInString (s.extract k s.size) W1 (tabs_keep HT.out (by rw [HA.out];exact hbw2)));have hde:Lib.decodeGo (s.extract k s.size)=(r,z):=by
     unfold Lib.decodeGo;rw [if_neg (by rw [ByteArray.size_extract];omega),dec_extract s k hlt,hpt]
    rw [hde] at HDR;have k1:(k:Int)<=(s.size:Int):=by omega
    have k2:decide ((k:Int)<0)=false:=by simp
    clear hd hok hbw hres hpts hpt hW1 hde hit;rcases HOK.out with ⟨h0,hbad⟩ | ⟨h0,hpos,hgood⟩
    ·rw [HPT.out] at hbad;obtain ⟨rfl,rfl⟩:r=65533/\z=1:=by cases hbad;exact ⟨rfl,rfl⟩
     have hb0:=ptsL_bad h0;have hp2:(ptsL s.data.toList).2=k:=by rw [HP.out,hb0];rfl
     have HCT:=Lib.hid (count_ahead s k hp2);have HR:=Lib.hid (show parseR s.data.toList = .error (2,(ptsL s.data.toList).1.length) by
      unfold parseR;rw [if_neg (by rw [size_toList];omega),if_pos (by rw [size_toList,hp2];exact hlt)])
     have HRC:=Lib.hid (fun W=>Tryz.utf8_RuneCountInString (s.extract 0 k) W (by rw [ByteArray.size_extract];omega));rw [HCT.out] at HRC;obtain ⟨cnt,hcnt⟩:∃ cnt,(ptsL s.data.toList).1.length=cnt:=⟨_,rfl⟩;rw [hcnt] at HR HRC;clear hbad hb0 hp2 hcnt h0 HCT;go_wp2_with fail
     refine HDR.out.mono ?_;rintro e W2 ⟨rfl,hb2⟩;have hbw3:=hbw2.trans (hb2.mono (by omega));have hres3:=hres2.below hb2;clear HDR;go_wp2_with fail
     refine (HRC.out W2).mono ?_;rintro e W3 ⟨rfl,pos,rfl⟩;have hres4:=hres3.below ((Below.refl W2.heap.size W2).alloc (Nat.le_refl _) (.stringIter (s.extract 0 k) pos));have hbw4:Below A w (W2.iter (s.extract 0 k) pos):=hbw3.alloc (by have:=hb2.size;omega) _;obtain ⟨W3,hW3⟩:∃ W3,W2.iter (s.extract 0 k) pos=W3:=⟨_,rfl⟩;rw [hW3];have hr3:ResAt A (.slice none 0 0) .nilIface W3:=by rw [←hW3];exact hres4
     rw [hW3] at hbw4;clear hW3 hres4 hbw3 hres3 hbw2 hres2 hit2 hn HRC;go_wp2
     have hr5:=hr3.below ((Below.refl W3.heap.size W3).alloc (Nat.le_refl _) (.cells #[.int .i64 2,.int .i64 cnt] 105));have hA3:=hr3.lt;have hbw5:Below A w (W3.alloc (.cells #[.int .i64 2,.int .i64 cnt] 105)):=hbw4.alloc (by omega) _;have hc:=fun i=>cell_made W3 #[.int .i64 2,.int .i64 cnt] 105 (0,0) i
     obtain ⟨W4,hW4⟩:∃ W4,W3.alloc (.cells #[.int .i64 2,.int .i64 cnt] 105)=W4:=⟨_,rfl⟩;rw [hW4] at hr5 hbw5 hc ⊢;clear hW4;obtain ⟨bf,hbf⟩:∃ bf,W3.heap.size=bf:=⟨_,rfl⟩;rw [hbf] at hc ⊢;clear hbf;refine leaves_cons (f:=109) (args:=#[.pointer (some ⟨A,0,none⟩),.pointer (some ⟨A+1,0,none⟩)]) (by simp) (by simp [go_sem]) ?_;refine (parse_catch A (A+1) _ _ _ _ _ hr5.c0 hr5.z0 hr5.c1 hr5.z1 (by omega)).mono ?_;rintro e u' w'' ⟨rfl,rfl,rfl⟩;have hres:=(hr5.set0 (x := .slice none 0 0)).set1 (x := .iface 101 (.pointer (some ⟨bf,0,none⟩)));have hcA:=hres.c0;have hcB:=hres.c1;simp [Leaves,settle,results,Tryz.results78,go_sem,hcA,hcB];have hF:=HR.out;rw [hF];have neA:bf≠A:=fun e=>by have h1:=(hc 0);rw [e,hr5.c0] at h1;cases h1
     have neB:bf≠A+1:=fun e=>by have h1:=(hc 0);rw [e,hr5.c1] at h1;cases h1
     exact ⟨⟨bf,rfl,by rw [cellSet,if_neg (fun e=>neB (congrArg Addr.block e).symm),cellSet,if_neg (fun e=>neA (congrArg Addr.block e).symm)];exact (hc 0),by rw [cellSet,if_neg (fun e=>neB (congrArg Addr.block e).symm),cellSet,if_neg (fun e=>neA (congrArg Addr.block e).symm)];exact (hc 1)⟩,by rw [HA.out];exact setc_below (setc_below hbw5 (by omega)) (by omega)⟩
    ·have hz:sizeL (s.data.toList.drop k)=z:=by rw [h0,HPT.out]
     rw [HPT.out] at hgood;rw [hz] at hpos;have hle:=(sizeL_le (s.data.toList.drop k)).1;rw [hz] at hle;simp only [List.length_drop,size_toList] at hle;have hne:s.data.toList.drop k≠[]:=by intro e;have:=congrArg List.length e;simp at this;omega
     have hst:=ptsL_step hne (by omega);rw [hz,List.drop_drop] at hst;have HST:=Lib.hid (show ptsL s.data.toList=(pre++[(s.data.toList.drop k).take z]++(ptsL (s.data.toList.drop (k+z))).1,(k+z)+(ptsL (s.data.toList.drop (k+z))).2) by
      rw [HP.out,hst];simp [Nat.add_assoc])
     have hcase:((r:Int)==65533)=false\/(r=65533/\((z:Int)==1)=false):=by
      by_cases hr:r=65533
      ·right;refine ⟨hr,?_⟩;simp;intro hz1;exact hgood ⟨hr,by omega⟩
      ·left;simp;omega
     clear hgood hst hne h0 hz;rcases hcase with hc1 | ⟨rfl,hc2⟩;all_goals
      go_wp2_with fail
      refine HDR.out.mono ?_;rintro e W2 ⟨rfl,hb2⟩;have hbw3:=hbw2.trans (hb2.mono (by omega));have hres3:=hres2.below hb2;have hit3:W2.heap[I]? = some (.stringIter s (k+z)):=(hb2.block I (by omega)).trans hit2;clear HDR hbw2 hres2 hit2 hn hb2;go_wp2
      go_roundw
      case rel=>exact ⟨k+z,_,by omega,hit3,hbw3,hres3,HST.out⟩
      case measure =>
       rw [iterPos_of hit3,iterPos_of HIT.out];omega
   ·have hn:=Lib.run_next_end_at (P:=Tryz.prog) wr I s k 0 hit hlt;have hks:k=s.size:=by omega
    have hz:s.data.toList.drop k=[]:=List.drop_of_length_le (by rw [size_toList];omega);have hp2:(ptsL s.data.toList).2=s.size:=by rw [hpts,hz,ptsL_nil];exact hks
    have hrf:=(count_pts s s.size 0 (by omega) (by omega) (by rw [List.drop_zero,hp2];omega)).2 #[];rw [List.drop_zero] at hrf;have HRT:=Lib.hid (show parseR s.data.toList=match parseL (runesL s.data.toList) with | .error e => .error e | .ok x => .ok x.1 by
     unfold parseR;rw [if_neg (by rw [size_toList];omega),if_neg (by rw [size_toList,hp2];omega)])
    obtain ⟨rs,hrs⟩:∃ rs,runesL s.data.toList=rs:=⟨_,rfl⟩;have hrl:rs.length<=1000:=by have:=runes_len s.data.toList;rw [size_toList,hrs] at this;omega
    have HPOS:=Lib.hid (show ∀ r∈rs,0<=r by rw [←hrs];exact rune_pos _);rw [hrs] at hrf HRT;have hcv:=run_runes_of_string (P:=Tryz.prog) wr 9 147 21 s Tryz.underlying9 Tryz.underlying147 Tryz.underlying21 (by rw [hrf];simp;omega);have F:∃ cp W,(convert 9 147 (.string s)).run Tryz.prog wr = .ok (.slice (some ⟨wr.heap.size,0,none⟩) rs.length cp) W/\Below wr.heap.size wr W/\wr.heap.size<W.heap.size/\rs.length<=cp/\cp<=maxLen/\∀ j (h:j<rs.length),W.cell? ⟨wr.heap.size,j,none⟩=some (.int .i32 rs[j]):=by
     have e2:(Conv.runesFrom s s.size 0 #[]).size=rs.length:=by rw [hrf];simp
     rw [e2] at hcv;refine ⟨_,_,hcv,(Below.refl _ _).drew.alloc (Nat.le_refl _) _,by simp,grownCap_ge _ _ _ _,grownCap_le_maxLen _ _ _ _ (by unfold maxLen;omega),fun j hj=>?_⟩;rw [show wr.heap.size=wr.drew.heap.size from rfl,cell_made,hrf,Array.getElem?_append_left (by simpa using hj)];simp [hj]
    obtain ⟨cp,W,hrun,hbW,hszW2,hcp1,hcp2,hcells⟩:=F;have HCE:=Lib.hid hcells;have hres2:=hres.below hbW;have hbw2:=hbw.trans (hbW.mono (by omega));clear hcv hrf hcells hpts hp2 hz hrs hks;have hgne:=World.block_lt_of_cell? w _ (HNA.out 0 (by omega));have hwW:w.heap.size<=W.heap.size:=by have:=hbw2.size;omega
    have hal:Below W.heap.size W (W.alloc (.cells #[.slice (some ⟨wr.heap.size,0,none⟩) rs.length cp,.int .i64 0,.int .i64 0] 249)):=(Below.refl _ _).alloc (Nat.le_refl _) _;have hcm:=fun i=>cell_made W #[.slice (some ⟨wr.heap.size,0,none⟩) rs.length cp,.int .i64 0,.int .i64 0] 249 (0,0) i
    have hsy:SynAt W.heap.size rs 0 0 (W.alloc (.cells #[.slice (some ⟨wr.heap.size,0,none⟩) rs.length cp,.int .i64 0,.int .i64 0] 249)) :=
     ⟨⟨wr.heap.size,cp,hcm 0,hcp1,hcp2,hszW2,fun j hj=>(World.cell?_alloc_lt _ _ _ hszW2).trans (HCE.out j hj)⟩,hcm 1,hcm 2,by simp,by simp,by omega,by omega,by omega,HPOS.out⟩
    have hresY:=hres2.below hal;have hbwY:Below A w _:=hbw2.trans (hal.mono (by omega));go_wp2_with fail
    obtain ⟨Y,hY⟩:∃ Y,W.alloc (.cells #[.slice (some ⟨wr.heap.size,0,none⟩) rs.length cp,.int .i64 0,.int .i64 0] 249)=Y:=⟨_,rfl⟩;rw [hY] at hsy hresY hbwY ⊢;have hpY:W.heap.size<Y.heap.size:=by rw [←hY];simp
    obtain ⟨p,hp⟩:∃ p,W.heap.size=p:=⟨_,rfl⟩;rw [hp] at hsy hpY hwW ⊢;have hAp:A+1<p:=by have:=hres2.lt;omega
    have henv:EnvAt p Y:=⟨HNA.out.below (by rw [HA.out];exact hbwY),by have hg:0<w.heap.size:=hgne;omega⟩;have hM:=syn_msg p rs 5 (Nat.le_refl _) false 0 Y hsy henv;obtain ⟨rm,hrm⟩:∃ rm,msgP rs 5 false 0=rm:=⟨_,rfl⟩;have HRM:=Lib.hid (show parseR s.data.toList=match rm.then (fun f i=>if nextL rs i = -1 then (.ok (f,i):PRes Fo) else .error (3,i)) with | .error e => .error e | .ok x => .ok x.1 by rw [HRT.out,←hrm];rfl);rw [hrm] at hM;have HM:=Lib.hid hM;clear hM hrm hY hal hcm hsy hres2 hbw2 hp hres hbw hcp1 hcp2 HCE HRT hn hrun hit HRES HB HIT HP hgne;refine HM.out.mono ?_;rintro e X ⟨hq,hbX⟩;have hresX:=hresY.but hbX hAp;have hbwX:Below A w X:=hbwY.trans (hbX.low (by omega) (by omega))
    cases rm with
    | error en =>
     obtain ⟨en1,en2⟩:=en;obtain ⟨bf,rfl,f1,f2,_,_,_⟩:=hq;have HRE:=Lib.hid (show parseR s.data.toList = .error (en1,en2) from HRM.out);go_wp2
     refine leaves_cons (f:=109) (args:=#[.pointer (some ⟨A,0,none⟩),.pointer (some ⟨A+1,0,none⟩)]) (by simp) (by simp [go_sem]) ?_;refine (parse_catch A (A+1) _ _ _ _ _ hresX.c0 hresX.z0 hresX.c1 hresX.z1 (by omega)).mono ?_;rintro e u' w'' ⟨rfl,rfl,rfl⟩;have hres:=(hresX.set0 (x := .slice none 0 0)).set1 (x := .iface 101 (.pointer (some ⟨bf,0,none⟩)));have hcA:=hres.c0;have hcB:=hres.c1;simp [Leaves,settle,results,Tryz.results78,go_sem,hcA,hcB];have hF:=HRE.out;rw [hF];have neA:bf≠A:=fun e=>by have h1:=f1;rw [e,hresX.c0] at h1;cases h1
     have neB:bf≠A+1:=fun e=>by have h1:=f1;rw [e,hresX.c1] at h1;cases h1
     exact ⟨⟨bf,rfl,by rw [cellSet,if_neg (fun e=>neB (congrArg Addr.block e).symm),cellSet,if_neg (fun e=>neA (congrArg Addr.block e).symm)];exact f1,by rw [cellSet,if_neg (fun e=>neB (congrArg Addr.block e).symm),cellSet,if_neg (fun e=>neA (congrArg Addr.block e).symm)];exact f2⟩,by rw [HA.out];exact setc_below (setc_below hbwX (by omega)) (by omega)⟩
    | ok fj =>
     obtain ⟨f,j⟩:=fj;obtain ⟨⟨a,c,rfl,vs,hrow,hnod⟩,hmsg,hsX⟩:=hq;have HROW:=Lib.hid hrow;have HNOD:=Lib.hid hnod;have HRO:=Lib.hid (show parseR s.data.toList=match (if nextL rs j = -1 then (.ok (f,j):PRes Fo) else .error (3,j)) with | .error e => .error e | .ok x => .ok x.1 from HRM.out);have g0:=hresX.c0;have g1:=hresX.z0;have HS4:=Lib.hid (hsX.setA g0 (by omega) (.slice a f.len c));have hres4:=hresX.set0 (x := .slice a f.len c);have hbw4:Below A w (X.setCell ⟨A,0,none⟩ (.slice a f.len c)):=setc_below hbwX (Nat.le_refl _);have hk4:KeepR Y.heap.size X.heap.size X (X.setCell ⟨A,0,none⟩ (.slice a f.len c)):=(keep_refl (Nat.le_refl _)).put (by omega) 0 _;obtain ⟨X4,hX4⟩:∃ X4,X.setCell ⟨A,0,none⟩ (.slice a f.len c)=X4:=⟨_,rfl⟩;rw [hX4] at HS4 hres4 hbw4 hk4;have HX4:=Lib.hid hX4;have hYX:=hbX.size;clear hX4 hrow hnod hsX hresX hbwX HRM HM hbX;go_wp2_with fail
     rw [HX4.out];refine (syn_next p rs j 0 X4 HS4.out).mono ?_;rintro e X5 ⟨rfl,hb5⟩;have HS5:=Lib.hid (HS4.out.below hb5);have hA4:=hres4.lt;have hres5:=hres4.below hb5;have hbw5:=hbw4.trans (hb5.mono (by omega));have hk5:=hk4.below hb5;by_cases he:nextL rs j = -1
     ·have HRE:=Lib.hid (show parseR s.data.toList = .ok f by rw [HRO.out,if_pos he]);rw [he];have q0:=hres5.c0;have q1:=hres5.c1;have q2:=hres5.z0;have q3:=hres5.z1;have hr6:=hres5.set0 (x := .slice a f.len c);have hr7:=hr6.set1 (x := .nilIface);have hbw7:Below A w ((X5.setCell ⟨A,0,none⟩ (.slice a f.len c)).setCell ⟨A+1,0,none⟩ .nilIface):=setc_below (setc_below hbw5 (Nat.le_refl _)) (by omega);have hk7:KeepR Y.heap.size X.heap.size X ((X5.setCell ⟨A,0,none⟩ (.slice a f.len c)).setCell ⟨A+1,0,none⟩ .nilIface):=(hk5.put (by omega) 0 _).put (by omega) 0 _;have q4:=hr6.c1;have q5:=hr6.z1;clear HRO he HX4;go_wp2
      refine leaves_cons (f:=109) (args:=#[.pointer (some ⟨A,0,none⟩),.pointer (some ⟨A+1,0,none⟩)]) (by simp) (by simp [go_sem]) ?_;refine (parse_idle A (A+1) _).mono ?_;rintro e u' w'' ⟨rfl,rfl,rfl⟩;have hcA:=hr7.c0;have hcB:=hr7.c1;simp [Leaves,settle,results,Tryz.results78,go_sem,hcA,hcB];have hF:=HRE.out;rw [hF];exact ⟨⟨⟨a,c,vs,rfl,HROW.out.keep hk7 (by rw [HA.out];omega) hk7.1,NodesV.keep hk7 (by rw [HA.out];omega) hk7.1 _ _ HNOD.out⟩,hmsg⟩,by rw [HA.out];exact hbw7⟩
     ·have HRE:=Lib.hid (show parseR s.data.toList = .error (3,j) by rw [HRO.out,if_neg he]);have he':(nextL rs j==-1)=false:=by simpa using he
      have q0:=HS5.out.at_;clear HRO he HX4;go_wp2_with fail
      refine (syn_fail p 3 j X5 HS5.out.deepc).mono ?_;rintro e X6 ⟨⟨bf,rfl,f1,f2,_,_,_⟩,hb6⟩;have hres6:=hres5.below hb6;have hbw6:=hbw5.trans (hb6.mono (by have:=hres5.lt;omega));go_wp2
      refine leaves_cons (f:=109) (args:=#[.pointer (some ⟨A,0,none⟩),.pointer (some ⟨A+1,0,none⟩)]) (by simp) (by simp [go_sem]) ?_;refine (parse_catch A (A+1) _ _ _ _ _ hres6.c0 hres6.z0 hres6.c1 hres6.z1 (by omega)).mono ?_;rintro e u' w'' ⟨rfl,rfl,rfl⟩;have hres:=(hres6.set0 (x := .slice none 0 0)).set1 (x := .iface 101 (.pointer (some ⟨bf,0,none⟩)));have hcA:=hres.c0;have hcB:=hres.c1;simp [Leaves,settle,results,Tryz.results78,go_sem,hcA,hcB];have hF:=HRE.out;rw [hF];have neA:bf≠A:=fun e=>by have h1:=f1;rw [e,hres6.c0] at h1;cases h1
      have neB:bf≠A+1:=fun e=>by have h1:=f1;rw [e,hres6.c1] at h1;cases h1
      exact ⟨⟨bf,rfl,by rw [cellSet,if_neg (fun e=>neB (congrArg Addr.block e).symm),cellSet,if_neg (fun e=>neA (congrArg Addr.block e).symm)];exact f1,by rw [cellSet,if_neg (fun e=>neB (congrArg Addr.block e).symm),cellSet,if_neg (fun e=>neA (congrArg Addr.block e).symm)];exact f2⟩,by rw [HA.out];exact setc_below (setc_below hbw6 (by omega)) (by omega)⟩
inductive Out (σ:Type) where
 | go (b:Bool) (s:σ)
 | pan (c:List PanicEntry) (s:σ)
def Out.then {σ:Type} (x:Out σ) (k:σ->Out σ):Out σ:=match x with | .go true s=>k s | .go false s => .go false s | .pan c s => .pan c s
def eachF {σ:Type} (F:σ->Fo->Out σ):Fo->σ->Out σ
 | .nil,s => .go true s
 | .text _ r,s=>eachF F r s
 | .hash r,s=>eachF F r s
 | .put n a r,s=>(F s (.put n a .nil)).then fun s=>eachF F r s
 | .num n a r,s=>(F s (.num n a .nil)).then fun s=>eachF F r s
 | .br n a f o c bs r,s=>(F s (.br n a f o c bs .nil)).then fun s=>(eachF F bs s).then fun s=>eachF F r s
 | .leg _ _ m r,s=>(eachF F m s).then fun s=>eachF F r s
def headF:Fo->Option (Wd×Nat)
 | .put n a _=>some (n,a)
 | .num n a _=>some (n,a)
 | .br n a _ _ _ _ _=>some (n,a)
 | _=>none
def Fo.wf (N:Nat):Fo->Bool
 | .nil=>true
 | .text _ r=>r.wf N
 | .hash r=>r.wf N
 | .put n _ r=>decide (n.length<=4000001) && r.wf N
 | .num n _ r=>decide (n.length<=4000001) && r.wf N
 | .br n _ f _ _ bs r=>decide (n.length<=4000001) && decide (f<3) && bs.isLegs && decide (bs.len<=N) && bs.wf N && r.wf N
 | .leg k _ m r=>decide (k.length<=4000001) && m.isMsg && decide (m.len<=N) && m.wf N && r.wf N
def Fo.wt:Fo->Nat
 | .br _ _ _ _ _ bs _=>2+bs.len
 | _=>1
def Fo.cnt:Fo->Nat
 | .nil=>0
 | .text _ r=>r.cnt
 | .hash r=>r.cnt
 | .put _ _ r=>1+r.cnt
 | .num _ _ r=>1+r.cnt
 | .br _ _ _ _ _ bs r=>2+bs.len+bs.cnt+r.cnt
 | .leg _ _ m r=>m.cnt+r.cnt
def OutQ {σ:Type} (I:σ->Nat->World->Prop) (room:Nat) (o:Out σ) (e:Ending) (w':World):Prop :=
 match o with
 | .go b s=>e = .returned (.bool b)/\I s room w'
 | .pan c s=>e = .panicked c/\I s room w'
structure YieldR {σ:Type} (lo hi:Nat) (w0:World) (v:Value) (I:σ->Nat->World->Prop) (F:σ->Fo->Out σ):Prop where
 fn:∃ k cap,v = .func (.func k) #[] cap/\(∀ args w,(callFunc k args).run Tryz.prog w = .ok (.enter k args) w) /\
  ∀ s room W x u n a,I s (room+x.wt) W->NodesV lo hi w0 [u] x->x.wf 2000000=true->headF x=some (n,a)->Calls Tryz.prog k (#[u,.agg #[strv n,.int .i64 (a:Nat)]]++cap) W (OutQ I room (F s x))
 keep:∀ s b W,I s b W->KeepR lo hi w0 W
 below:∀ s b W W',I s b W->Below W.heap.size W W'->I s b W'
 less:∀ s b b' W,I s b W->b'<=b->I s b' W
section
variable (b:Nat) (t:Wd) (w:World)
theorem as_put_put:(Instr.typeAssert (.iface 172 (.pointer (some ⟨b,0,none⟩))) 112 172 true).run Tryz.prog w = .ok (.tuple #[.pointer (some ⟨b,0,none⟩),.bool true]) w:=by rfl
theorem as_num_num:(Instr.typeAssert (.iface 175 (.pointer (some ⟨b,0,none⟩))) 112 175 true).run Tryz.prog w = .ok (.tuple #[.pointer (some ⟨b,0,none⟩),.bool true]) w:=by rfl
theorem as_br_br:(Instr.typeAssert (.iface 177 (.pointer (some ⟨b,0,none⟩))) 112 177 true).run Tryz.prog w = .ok (.tuple #[.pointer (some ⟨b,0,none⟩),.bool true]) w:=by rfl
theorem as_text_put:(Instr.typeAssert (.iface 262 (strv t)) 112 172 true).run Tryz.prog w = .ok (.tuple #[.pointer none,.bool false]) w:=by rfl
theorem as_text_num:(Instr.typeAssert (.iface 262 (strv t)) 112 175 true).run Tryz.prog w = .ok (.tuple #[.pointer none,.bool false]) w:=by rfl
theorem as_text_br:(Instr.typeAssert (.iface 262 (strv t)) 112 177 true).run Tryz.prog w = .ok (.tuple #[.pointer none,.bool false]) w:=by rfl
theorem as_hash_put:(Instr.typeAssert (.iface 264 (.agg #[])) 112 172 true).run Tryz.prog w = .ok (.tuple #[.pointer none,.bool false]) w:=by rfl
theorem as_hash_num:(Instr.typeAssert (.iface 264 (.agg #[])) 112 175 true).run Tryz.prog w = .ok (.tuple #[.pointer none,.bool false]) w:=by rfl
theorem as_hash_br:(Instr.typeAssert (.iface 264 (.agg #[])) 112 177 true).run Tryz.prog w = .ok (.tuple #[.pointer none,.bool false]) w:=by rfl
theorem as_num_put:(Instr.typeAssert (.iface 175 (.pointer (some ⟨b,0,none⟩))) 112 172 true).run Tryz.prog w = .ok (.tuple #[.pointer none,.bool false]) w:=by rfl
theorem as_br_put:(Instr.typeAssert (.iface 177 (.pointer (some ⟨b,0,none⟩))) 112 172 true).run Tryz.prog w = .ok (.tuple #[.pointer none,.bool false]) w:=by rfl
theorem as_br_num:(Instr.typeAssert (.iface 177 (.pointer (some ⟨b,0,none⟩))) 112 175 true).run Tryz.prog w = .ok (.tuple #[.pointer none,.bool false]) w:=by rfl
theorem as_put_num:(Instr.typeAssert (.iface 172 (.pointer (some ⟨b,0,none⟩))) 112 175 true).run Tryz.prog w = .ok (.tuple #[.pointer none,.bool false]) w:=by rfl
theorem as_put_br:(Instr.typeAssert (.iface 172 (.pointer (some ⟨b,0,none⟩))) 112 177 true).run Tryz.prog w = .ok (.tuple #[.pointer none,.bool false]) w:=by rfl
theorem as_num_br:(Instr.typeAssert (.iface 175 (.pointer (some ⟨b,0,none⟩))) 112 177 true).run Tryz.prog w = .ok (.tuple #[.pointer none,.bool false]) w:=by rfl
end
def othC:Wd:=[111,116,104,101,114]
def catC:List Wd:=[[122,101,114,111],[111,110,101],[116,119,111],[102,101,119],[109,97,110,121],[111,116,104,101,114]]
def Fo.keys:Fo->List Wd
 | .leg k _ _ r=>k::r.keys
 | _=>[]
namespace MkS
def selK:Fo->MkS->List Nat->MkS×List Nat
 | .leg k _ _ r,s,acc=>if k=othC then selK r s acc else selK r (s.const k) (acc++[s.num k])
 | _,s,acc=>(s,acc)
def place (ks:List Wd) (k:Wd):Nat:=if k=othC then (ks.filter (· ≠ othC)).length else (ks.filter (· ≠ othC)).idxOf k
def askS:Fo->MkS->List (Wd×Nat)->MkS×List (Wd×Nat)
 | .leg k _ _ r,s,acc=>if k.head? = some 61 then askS r (s.put 7 (offV k.tail) [] [0]) (acc++[(k,s.code.length)]) else askS r s acc
 | _,s,acc=>(s,acc)
def catS (ks:List Wd) (t:Nat) (key:Wd) (s:MkS):MkS :=
 (List.range 6).foldl (fun s c=>if catC.getD c []=key\/key=othC/\catC.getD c [] ∉ ks then s.leap t c else s) s
def sel1 (n:Wd) (bs:Fo) (s:MkS):MkS×List Nat:=selK bs (s.const n) [s.num n]
def selS (n:Wd) (bs:Fo) (s:MkS):MkS:=(sel1 n bs s).1.put 10 0 (sel1 n bs s).2 (List.replicate (sel1 n bs s).2.length 0)
def plu1 (n o:Wd) (bs:Fo) (s:MkS):MkS×List (Wd×Nat):=askS bs ((s.const n).put 4 (offV o) [s.num n] []) []
def pluS (n o:Wd) (f:Nat) (bs:Fo) (s:MkS):MkS:=(plu1 n o bs s).1.put (if f=2 then 9 else 8) 0 [] (List.replicate 6 0)
def selB (n:Wd) (bs:Fo) (s:MkS) (k:Wd) (x:MkS):MkS:=x.leap (sel1 n bs s).1.code.length (place bs.keys k)
def pluB (n o:Wd) (bs:Fo) (s:MkS) (k:Wd) (x:MkS):MkS :=
 match (plu1 n o bs s).2.lookup k with
 | some i=>x.leap i 0
 | none=>catS bs.keys (plu1 n o bs s).1.code.length k x
def goS:Fo->(Wd->MkS->MkS)->MkS->List Nat->MkS×List Nat
 | .nil,_,s,ls=>(s,ls)
 | .text t r,bg,s,ls=>goS r bg (s.one 1 t) ls
 | .hash r,bg,s,ls=>goS r bg (s.put 6 0 [] []) ls
 | .put n _ r,bg,s,ls=>goS r bg (s.one 2 n) ls
 | .num n _ r,bg,s,ls=>goS r bg (s.one 3 n) ls
 | .br n _ f o _ bs r,bg,s,ls =>
  if f=0 then
   let y:=goS bs (selB n bs s) (selS n bs s) []
   goS r bg (y.2.foldl (fun s i=>s.leap i 0) y.1) ls
  else
   let y:=goS bs (pluB n o bs s) (pluS n o f bs s) []
   goS r bg ((y.2.foldl (fun s i=>s.leap i 0) y.1).put 5 0 [] []) ls
 | .leg k _ m r,bg,s,ls =>
  let s1:=(goS m (fun _ s=>s) (bg k s) []).1
  goS r bg (s1.put 11 0 [] [0]) (ls++[s1.code.length])
def mes (m:Fo) (s:MkS):MkS:=(goS m (fun _ s=>s) s []).1
def start:MkS:=⟨[],[],0⟩
def all (m:Fo):MkS:=(mes m start).put 0 0 [] []
end MkS
def EqW (k:Wd):Prop:=k.tail≠[]/\k.tail.length<=9/\k.tail.all isDig=true
def Fo.cok:Fo->Prop
 | .nil=>True
 | .text t r=>t.length<=5000000/\r.cok
 | .hash r=>r.cok
 | .put n _ r=>n.length<=16/\r.cok
 | .num n _ r=>n.length<=16/\r.cok
 | .br n _ f o _ bs r=>n.length<=16/\f<3/\offV o<=999999999/\bs.isLegs=true/\bs.keys.Nodup/\(∀ k∈bs.keys,k.length<=17/\(f≠0->k.head? = some 61->EqW k))/\bs.cok/\r.cok
 | .leg _ _ m r=>m.isMsg=true/\m.cok/\r.cok
def Fo.cw:Fo->Nat
 | .nil=>0
 | .text _ r=>5+r.cw
 | .hash r=>5+r.cw
 | .put _ _ r=>5+r.cw
 | .num _ _ r=>5+r.cw
 | .br _ _ _ _ _ bs r=>40+bs.cw+r.cw
 | .leg _ _ m r=>20+m.cw+r.cw
def Fo.gw:Fo->Nat
 | .leg _ _ m r=>5+m.cw+r.gw
 | _=>0
theorem Fo.gw_keys:∀ f:Fo,f.gw+15*f.keys.length<=f.cw
 | .leg k a m r=>by have:=Fo.gw_keys r;simp only [Fo.gw,Fo.keys,Fo.cw,List.length_cons];omega
 | .nil=>Nat.zero_le _
 | .text _ _=>Nat.zero_le _
 | .hash _=>Nat.zero_le _
 | .put _ _ _=>Nat.zero_le _
 | .num _ _ _=>Nat.zero_le _
 | .br _ _ _ _ _ _ _=>Nat.zero_le _
def MkS.le (s s':MkS):Prop:=∀ (i:Nat) (x:InL),s.code[i]? = some x->∃ y,s'.code[i]? = some y/\y.tg.length=x.tg.length
theorem MkS.le_refl (s:MkS):s.le s:=fun _ x h=>⟨x,h,rfl⟩
theorem MkS.le_trans {a b c:MkS} (h:a.le b) (k:b.le c):a.le c:=fun i x hx=>by
 obtain ⟨y,h1,h2⟩:=h i x hx;obtain ⟨z,h3,h4⟩:=k i y h1;exact ⟨z,h3,h4.trans h2⟩
theorem MkS.le_const (s:MkS) (t:Wd):s.le (s.const t):=fun i x hx=>⟨x,by rw [(sz_const s t).2.1];exact hx,rfl⟩
theorem MkS.le_put (s:MkS) (op v:Nat) (k tg:List Nat):s.le (s.put op v k tg):=fun i x hx=>⟨x,by simp only [MkS.put];rw [List.getElem?_append_left (List.getElem?_eq_some_iff.1 hx).1];exact hx,rfl⟩
theorem MkS.le_leap (s:MkS) (i j:Nat):s.le (s.leap i j):=fun n x hx=>by
 simp only [MkS.leap];rw [List.getElem?_modify];by_cases h:i=n
 ·exact ⟨{ x with tg:=x.tg.set j s.pos },by simp [h,hx],by simp⟩
 ·exact ⟨x,by simp [h,hx],rfl⟩
theorem MkS.le_one (s:MkS) (op:Nat) (t:Wd):s.le (s.one op t):=MkS.le_trans (s.le_const t) (MkS.le_put _ _ _ _ _)
theorem MkS.le_foldl {α:Type} (g:MkS->α->MkS) (hg:∀ (s:MkS) (a:α),s.le (g s a)):∀ (l:List α) (s:MkS),s.le (l.foldl g s)
 | [],s=>s.le_refl
 | a::l,s=>MkS.le_trans (hg s a) (MkS.le_foldl g hg l _)
theorem MkS.sz_foldl {α:Type} (g:MkS->α->MkS) (hg:∀ (s:MkS) (a:α),(g s a).sz=s.sz):∀ (l:List α) (s:MkS),(l.foldl g s).sz=s.sz
 | [],s=>rfl
 | a::l,s=>(MkS.sz_foldl g hg l _).trans (hg s a)
theorem MkS.cat_le (ks:List Wd) (t:Nat) (key:Wd) (s:MkS):s.le (MkS.catS ks t key s)/\(MkS.catS ks t key s).sz=s.sz:=by
 refine ⟨MkS.le_foldl _ (fun s c=>?_) _ s,MkS.sz_foldl _ (fun s c=>?_) _ s⟩
 ·split
  ·exact s.le_leap _ _
  ·exact s.le_refl
 ·split
  ·exact sz_leap _ _ _
  ·rfl
theorem MkS.selB_le (n:Wd) (bs:Fo) (s:MkS) (k:Wd) (x:MkS):x.le (MkS.selB n bs s k x)/\(MkS.selB n bs s k x).sz=x.sz:=⟨x.le_leap _ _,sz_leap _ _ _⟩
theorem MkS.pluB_le (n o:Wd) (bs:Fo) (s:MkS) (k:Wd) (x:MkS):x.le (MkS.pluB n o bs s k x)/\(MkS.pluB n o bs s k x).sz=x.sz:=by
 unfold MkS.pluB;split
 ·exact ⟨x.le_leap _ _,sz_leap _ _ _⟩
 ·exact MkS.cat_le _ _ _ _
theorem MkS.selK_le:∀ (f:Fo) (s:MkS) (acc:List Nat),s.le (MkS.selK f s acc).1/\(MkS.selK f s acc).1.sz<=s.sz+f.keys.length/\(MkS.selK f s acc).2.length<=acc.length+f.keys.length/\(MkS.selK f s acc).1.code=s.code/\(MkS.selK f s acc).1.pos=s.pos
 | .leg k _ _ r,s,acc=>by
  rw [MkS.selK];split
  ·obtain ⟨a,b,c,d⟩:=MkS.selK_le r s acc;exact ⟨a,by simp [Fo.keys];omega,by simp [Fo.keys];omega,d⟩
  ·obtain ⟨a,b,c,d,e⟩:=MkS.selK_le r (s.const k) (acc++[s.num k]);obtain ⟨z1,z2,z3⟩:=sz_const s k;exact ⟨MkS.le_trans (s.le_const k) a,by simp [Fo.keys];omega,by simp [Fo.keys] at c ⊢;omega,d.trans z2,e.trans z3⟩
 | .nil,s,acc=>⟨s.le_refl,Nat.le_refl _,Nat.le_refl _,rfl,rfl⟩
 | .text _ _,s,acc=>⟨s.le_refl,Nat.le_refl _,Nat.le_refl _,rfl,rfl⟩
 | .hash _,s,acc=>⟨s.le_refl,Nat.le_refl _,Nat.le_refl _,rfl,rfl⟩
 | .put _ _ _,s,acc=>⟨s.le_refl,Nat.le_refl _,Nat.le_refl _,rfl,rfl⟩
 | .num _ _ _,s,acc=>⟨s.le_refl,Nat.le_refl _,Nat.le_refl _,rfl,rfl⟩
 | .br _ _ _ _ _ _ _,s,acc=>⟨s.le_refl,Nat.le_refl _,Nat.le_refl _,rfl,rfl⟩
theorem MkS.askS_le:∀ (f:Fo) (s:MkS) (acc:List (Wd×Nat)),s.le (MkS.askS f s acc).1/\(MkS.askS f s acc).1.sz<=s.sz+8*f.keys.length
 | .leg k _ _ r,s,acc=>by
  rw [MkS.askS];split
  ·obtain ⟨a,b⟩:=MkS.askS_le r (s.put 7 (offV k.tail) [] [0]) (acc++[(k,s.code.length)]);have:=sz_put s 7 (offV k.tail) [] [0];have hx:(insX ⟨7,s.pos,offV k.tail,[],[0]⟩).length=7:=by simp [insX,frmL,insB,twoL,fourL]
   exact ⟨MkS.le_trans (s.le_put _ _ _ _) a,by simp [Fo.keys];omega⟩
  ·obtain ⟨a,b⟩:=MkS.askS_le r s acc;exact ⟨a,by simp [Fo.keys];omega⟩
 | .nil,s,acc=>⟨s.le_refl,Nat.le_refl _⟩
 | .text _ _,s,acc=>⟨s.le_refl,Nat.le_refl _⟩
 | .hash _,s,acc=>⟨s.le_refl,Nat.le_refl _⟩
 | .put _ _ _,s,acc=>⟨s.le_refl,Nat.le_refl _⟩
 | .num _ _ _,s,acc=>⟨s.le_refl,Nat.le_refl _⟩
 | .br _ _ _ _ _ _ _,s,acc=>⟨s.le_refl,Nat.le_refl _⟩
theorem tab_len:∀ (k t:List Nat),(tabB k t).length=4*k.length+2
 | [],t=>by simp [tabB,twoL]
 | a::k,t=>by simp [tabB,twoL,tab_len k t.tail];omega
theorem sel_len (pos:Nat) (x:Nat) (k:List Nat) (t:List Nat):(insX ⟨10,pos,0,x::k,t⟩).length=7+4*k.length:=by
 simp [insX,frmL,insB,twoL,tab_len];omega
theorem MkS.selK_cons:∀ (f:Fo) (s:MkS) (x:Nat) (acc:List Nat),∃ y,(MkS.selK f s (x::acc)).2=x::y
 | .leg k _ _ r,s,x,acc=>by
  rw [MkS.selK];split
  ·exact MkS.selK_cons r s x acc
  ·exact MkS.selK_cons r (s.const k) x (acc++[s.num k])
 | .nil,s,x,acc=>⟨_,rfl⟩
 | .text _ _,s,x,acc=>⟨_,rfl⟩
 | .hash _,s,x,acc=>⟨_,rfl⟩
 | .put _ _ _,s,x,acc=>⟨_,rfl⟩
 | .num _ _ _,s,x,acc=>⟨_,rfl⟩
 | .br _ _ _ _ _ _ _,s,x,acc=>⟨_,rfl⟩
theorem MkS.selS_le (n:Wd) (bs:Fo) (s:MkS):s.le (MkS.selS n bs s)/\(MkS.selS n bs s).sz<=s.sz+9+5*bs.keys.length:=by
 obtain ⟨a,b,c,d,e⟩:=MkS.selK_le bs (s.const n) [s.num n];obtain ⟨y,hy⟩:=MkS.selK_cons bs (s.const n) (s.num n) [];refine ⟨MkS.le_trans (s.le_const n) (MkS.le_trans a (MkS.le_put _ _ _ _ _)),?_⟩;unfold MkS.selS MkS.sel1;rw [sz_put,hy,sel_len];rw [hy] at c;have:=(sz_const s n).1;simp at c;omega
theorem MkS.pluS_le (n o:Wd) (f:Nat) (bs:Fo) (s:MkS):s.le (MkS.pluS n o f bs s)/\(MkS.pluS n o f bs s).sz<=s.sz+24+8*bs.keys.length:=by
 obtain ⟨a,b⟩:=MkS.askS_le bs ((s.const n).put 4 (offV o) [s.num n] []) [];refine ⟨MkS.le_trans (s.le_const n) (MkS.le_trans (MkS.le_put _ _ _ _ _) (MkS.le_trans a (MkS.le_put _ _ _ _ _))),?_⟩;unfold MkS.pluS MkS.plu1;have h1:=sz_put (s.const n) 4 (offV o) [s.num n] [];have h2:(insX ⟨4,(s.const n).pos,offV o,[s.num n],[]⟩).length=7:=by simp [insX,frmL,insB,twoL,fourL]
 have h3:∀ p,(insX ⟨if f=2 then 9 else 8,p,0,[],List.replicate 6 0⟩).length=13:=fun p=>by split<;>simp [insX,frmL,insB,twoL]
 rw [sz_put,h3];have:=(sz_const s n).1;omega
theorem MkS.sz_one (s:MkS) (op:Nat) (t:Wd) (h:op=1\/op=2\/op=3):(s.one op t).sz<=s.sz+5:=by
 unfold MkS.one;rw [sz_put];have:=(sz_const s t).1;have hx:(insX ⟨op,(s.const t).pos,0,[s.num t],[]⟩).length=3:=by rcases h with rfl | rfl | rfl<;>simp [insX,frmL,insB,twoL]
 omega
theorem MkS.go_le:∀ (f:Fo) (bg:Wd->MkS->MkS) (s:MkS) (ls:List Nat),(∀ k s,s.le (bg k s)/\(bg k s).sz=s.sz)->s.le (MkS.goS f bg s ls).1/\(MkS.goS f bg s ls).1.sz+15*f.keys.length<=s.sz+f.cw
 | .nil,bg,s,ls,hb=>⟨s.le_refl,Nat.le_refl _⟩
 | .text t r,bg,s,ls,hb=>by
  obtain ⟨a,b⟩:=MkS.go_le r bg (s.one 1 t) ls hb;have:=s.sz_one 1 t (.inl rfl);exact ⟨MkS.le_trans (s.le_one _ _) a,by simp only [Fo.keys,Fo.cw,MkS.goS,List.length_nil];omega⟩
 | .hash r,bg,s,ls,hb=>by
  obtain ⟨a,b⟩:=MkS.go_le r bg (s.put 6 0 [] []) ls hb;have:=sz_put s 6 0 [] [];have hx:(insX ⟨6,s.pos,0,[],[]⟩).length=1:=by simp [insX,frmL,insB]
  exact ⟨MkS.le_trans (s.le_put _ _ _ _) a,by simp only [Fo.keys,Fo.cw,MkS.goS,List.length_nil];omega⟩
 | .put n _ r,bg,s,ls,hb=>by
  obtain ⟨a,b⟩:=MkS.go_le r bg (s.one 2 n) ls hb;have:=s.sz_one 2 n (.inr (.inl rfl));exact ⟨MkS.le_trans (s.le_one _ _) a,by simp only [Fo.keys,Fo.cw,MkS.goS,List.length_nil];omega⟩
 | .num n _ r,bg,s,ls,hb=>by
  obtain ⟨a,b⟩:=MkS.go_le r bg (s.one 3 n) ls hb;have:=s.sz_one 3 n (.inr (.inr rfl));exact ⟨MkS.le_trans (s.le_one _ _) a,by simp only [Fo.keys,Fo.cw,MkS.goS,List.length_nil];omega⟩
 | .br n _ f o _ bs r,bg,s,ls,hb=>by
  have hfl:=fun (l:List Nat) (x:MkS)=>MkS.le_foldl (fun s i=>MkS.leap s i 0) (fun s i=>s.le_leap i 0) l x
  have hfz:=fun (l:List Nat) (x:MkS)=>MkS.sz_foldl (fun s i=>MkS.leap s i 0) (fun s i=>sz_leap s i 0) l x
  rw [MkS.goS];split
  ·obtain ⟨a,b⟩:=MkS.go_le bs (MkS.selB n bs s) (MkS.selS n bs s) [] (fun k x=>MkS.selB_le n bs s k x);obtain ⟨c,d⟩:=MkS.selS_le n bs s;obtain ⟨e,g⟩:=MkS.go_le r bg ((MkS.goS bs (MkS.selB n bs s) (MkS.selS n bs s) []).2.foldl (fun s i=>MkS.leap s i 0) (MkS.goS bs (MkS.selB n bs s) (MkS.selS n bs s) []).1) ls hb;rw [hfz] at g;exact ⟨MkS.le_trans c (MkS.le_trans a (MkS.le_trans (hfl _ _) e)),by simp only [Fo.keys,Fo.cw,List.length_nil];omega⟩
  ·obtain ⟨a,b⟩:=MkS.go_le bs (MkS.pluB n o bs s) (MkS.pluS n o f bs s) [] (fun k x=>MkS.pluB_le n o bs s k x);obtain ⟨c,d⟩:=MkS.pluS_le n o f bs s;obtain ⟨e,g⟩:=MkS.go_le r bg (((MkS.goS bs (MkS.pluB n o bs s) (MkS.pluS n o f bs s) []).2.foldl (fun s i=>MkS.leap s i 0) (MkS.goS bs (MkS.pluB n o bs s) (MkS.pluS n o f bs s) []).1).put 5 0 [] []) ls hb;rw [sz_put,hfz] at g;have hx:∀ p,(insX ⟨5,p,0,[],[]⟩).length=1:=fun p=>by simp [insX,frmL,insB]
   rw [hx] at g;exact ⟨MkS.le_trans c (MkS.le_trans a (MkS.le_trans (hfl _ _) (MkS.le_trans (MkS.le_put _ _ _ _ _) e))),by simp only [Fo.keys,Fo.cw,List.length_nil];omega⟩
 | .leg k _ m r,bg,s,ls,hb=>by
  obtain ⟨a,b⟩:=MkS.go_le m (fun _ s=>s) (bg k s) [] (fun _ s=>⟨s.le_refl,rfl⟩);obtain ⟨c,d⟩:=MkS.go_le r bg ((MkS.goS m (fun _ s=>s) (bg k s) []).1.put 11 0 [] [0]) (ls++[(MkS.goS m (fun _ s=>s) (bg k s) []).1.code.length]) hb;rw [sz_put] at d;have hx:∀ p,(insX ⟨11,p,0,[],[0]⟩).length=3:=fun p=>by simp [insX,frmL,insB,twoL]
  rw [hx] at d;have:=(hb k s).2;exact ⟨MkS.le_trans (hb k s).1 (MkS.le_trans a (MkS.le_trans (MkS.le_put _ _ _ _ _) c)),by simp only [Fo.keys,Fo.cw,MkS.goS,List.length_cons];omega⟩
theorem mes_le (m:Fo) (s:MkS):s.le (MkS.mes m s)/\(MkS.mes m s).sz<=s.sz+m.cw:=by
 obtain ⟨a,b⟩:=MkS.go_le m (fun _ s=>s) s [] (fun _ s=>⟨s.le_refl,rfl⟩);exact ⟨a,by unfold MkS.mes;omega⟩
theorem keep_cell {lo hi:Nat} {w0 W:World} (h:KeepR lo hi w0 W) {b j:Nat} {v:Value} (hc:w0.cell? ⟨b,j,none⟩=some v) (h1:lo<=b) (h2:b<hi):W.cell? ⟨b,j,none⟩=some v:=(h.cell (p:=⟨b,j,none⟩) h1 h2).trans hc
def EachC {σ:Type} (lo hi:Nat) (w0:World) (v:Value) (I:σ->Nat->World->Prop) (F:σ->Fo->Out σ) (f:Fo):Prop :=
 ∀ s room W a c vs,I s (room+f.cnt) W->RowC lo hi w0 a vs->NodesV lo hi w0 vs f->Calls Tryz.prog 49 #[.slice a f.len c,v] W (OutQ I room (eachF F f s))
set_option maxHeartbeats 8000000 in
theorem each_step {σ:Type} {lo hi:Nat} {w0:World} {v:Value} {I:σ->Nat->World->Prop} {F:σ->Fo->Out σ} (hy:YieldR lo hi w0 v I F) (f:Fo) (hm:f.isMsg=true) (hw:f.wf 2000000=true) (hl:f.len<=2000000)
  (ih:∀ m:Fo,SizeOf.sizeOf m<SizeOf.sizeOf f->m.isMsg=true->m.wf 2000000=true->m.len<=2000000->EachC lo hi w0 v I F m):EachC lo hi w0 v I F f:=by
 intro s room W a c vs hI hrow hnod;obtain ⟨⟨k,cap,rfl,hent,hcall⟩,hkeep,hbel,hless⟩:=hy;have HLESS:=Lib.hid hless;obtain ⟨L,hL⟩:∃ L,f.len=L:=⟨_,rfl⟩;rw [hL];have hvl:vs.length=L:=(NodesV.count f vs hnod hm).trans hL;obtain ⟨R,hR⟩:∃ R,eachF F f s=R:=⟨_,rfl⟩;rw [hR];have HI0:=Lib.hid hI;have HROW:=Lib.hid hrow;have HNOD:=Lib.hid hnod;have HM:=Lib.hid hm;have HW:=Lib.hid hw;have HR:=Lib.hid hR;have HCALL:=Lib.hid hcall;have HKEEP:=Lib.hid hkeep;have HBEL:=Lib.hid hbel;have HIH:=Lib.hid ih;have HVL:=Lib.hid hvl;have HL:=Lib.hid hL;have hL2:L<=2000000:=by omega
 clear hI hrow hnod hm hw hR hcall hkeep hbel hless ih hvl hl hL;go_enter Tryz.func49,Tryz.ntmps49
 go_wp2_with fail
 go_loopw [14] (fun iv wr=>∃ i us xs r s1,iv = .int .i64 (i:Nat)/\i<=L/\NodesV lo hi w0 xs r/\r.isMsg=true/\r.wf 2000000=true/\us.length=i/\vs=us++xs/\i+r.len=L/\SizeOf.sizeOf r<=SizeOf.sizeOf f/\I s1 (room+r.cnt) wr/\eachF F r s1=R) (fun iv _=>L - (intOf iv).toNat)
 case atStart=>exact ⟨0,[],vs,f,s,rfl,Nat.zero_le _,HNOD.out,HM.out,HW.out,rfl,rfl,by have:=HL.out;omega,Nat.le_refl _,HI0.out,HR.out⟩
 case round =>
  obtain ⟨i,us,xs,r,s1,rfl,hiL,hnr,hmr,hwr,hus,hvs,hln,hsz,hi1,hr1⟩:=hrel;have HN:=Lib.hid hnr;have HMR:=Lib.hid hmr;have HWR:=Lib.hid hwr;have HVS:=Lib.hid hvs;have HUS:=Lib.hid hus;have HI1:=Lib.hid hi1;have HR1:=Lib.hid hr1;clear hnr hmr hwr hvs hus hi1 hr1;by_cases hlt:i<L
  ·obtain ⟨x0,xt,hxs⟩:∃ x0 xt,xs=x0::xt:=by
    cases xs with
    | nil=>have h1:=HVL.out;rw [HVS.out] at h1;have:=HUS.out;simp at h1;omega
    | cons a b=>exact ⟨a,b,rfl⟩
   subst hxs;obtain ⟨g,o,rfl,hg1,hg2,hcell⟩:=HROW.out i (by have:=HVL.out;omega);have hx0:vs[i]'(by have:=HVL.out;omega)=x0:=by
    have h1:vs[i]? = some x0:=by rw [HVS.out,←HUS.out];simp
    rw [List.getElem?_eq_getElem (by have:=HVL.out;omega)] at h1;exact Option.some.inj h1
   rw [hx0] at hcell;have hc1:=keep_cell (HKEEP.out _ _ wr HI1.out) hcell hg1 hg2;have k1:(i:Int)<(L:Int):=by omega
   have k2:decide ((i:Int)<(L:Int))=true:=by simp;omega
   have HSZ:=Lib.hid hsz;clear hcell hx0 hsz
   cases r with
   | nil =>
    have:=HN.out
    cases this
   | leg k0 a0 m0 r0=>have:=HMR.out;cases this
   | text t r =>
    obtain ⟨vt,he,hnr⟩:=HN.out
    cases he;have e1:=as_text_put t;have e2:=as_text_num t;have e3:=as_text_br t;have HNR:=Lib.hid hnr;clear hnr;have HWR:=Lib.hid (show r.wf 2000000=true from HWR.out);have HMR:=Lib.hid (show r.isMsg=true from HMR.out);have HLN:=Lib.hid (show i+(r.len+1)=L from hln);have HRX:=Lib.hid (show eachF F r s1=R from HR1.out);have HSZ:=Lib.hid (show SizeOf.sizeOf r<=SizeOf.sizeOf f by have:=HSZ.out;simp at this;omega);go_wp2
    go_roundw
    case rel=>exact ⟨i+1,us++[(.iface 262 (strv t))],_,r,s1,by simp,by omega,HNR.out,HMR.out,HWR.out,by simp [HUS.out],by rw [HVS.out,List.append_assoc];rfl,by have:=HLN.out;omega,by have:=HSZ.out;omega,HI1.out,HRX.out⟩
    case measure=>simp only [intOf];omega
   | hash r =>
    obtain ⟨vt,he,hnr⟩:=HN.out
    cases he;have e1:=as_hash_put;have e2:=as_hash_num;have e3:=as_hash_br;have HNR:=Lib.hid hnr;clear hnr;have HWR:=Lib.hid (show r.wf 2000000=true from HWR.out);have HMR:=Lib.hid (show r.isMsg=true from HMR.out);have HLN:=Lib.hid (show i+(r.len+1)=L from hln);have HRX:=Lib.hid (show eachF F r s1=R from HR1.out);have HSZ:=Lib.hid (show SizeOf.sizeOf r<=SizeOf.sizeOf f by have:=HSZ.out;simp at this;omega);go_wp2
    go_roundw
    case rel=>exact ⟨i+1,us++[(.iface 264 (.agg #[]))],_,r,s1,by simp,by omega,HNR.out,HMR.out,HWR.out,by simp [HUS.out],by rw [HVS.out,List.append_assoc];rfl,by have:=HLN.out;omega,by have:=HSZ.out;omega,HI1.out,HRX.out⟩
    case measure=>simp only [intOf];omega
   | put n a r =>
    obtain ⟨vt,b0,he,hb1,hb2,hc0,hc1',hnr⟩:=HN.out
    cases he;have hh0:=keep_cell (HKEEP.out _ _ wr HI1.out) hc0 hb1 hb2;have hh1:=keep_cell (HKEEP.out _ _ wr HI1.out) hc1' hb1 hb2;have e1:=as_put_put b0;have HNR:=Lib.hid hnr;have hwq:(decide (n.length<=4000001) && r.wf 2000000)=true:=HWR.out;simp only [Bool.and_eq_true,decide_eq_true_eq] at hwq;have hcn:room+(Fo.put n a r).cnt=(room+r.cnt)+(Fo.put n a .nil).wt:=by simp only [Fo.cnt,Fo.wt];omega
    have HIC:=HI1.out;rw [hcn] at HIC;have HCC:=Lib.hid (HCALL.out s1 (room+r.cnt) wr (.put n a .nil) (.iface 172 (.pointer (some ⟨b0,0,none⟩))) n a HIC ⟨[],b0,rfl,hb1,hb2,hc0,hc1',rfl⟩ (by simp [Fo.wf,hwq.1]) rfl);have HWR:=Lib.hid hwq.2;clear hnr hwq hcn HIC;have HMR:=Lib.hid (show r.isMsg=true from HMR.out);have HLN:=Lib.hid (show i+(r.len+1)=L from hln);have HSZ:=Lib.hid (show SizeOf.sizeOf r<=SizeOf.sizeOf f by have:=HSZ.out;simp at this;omega);obtain ⟨o1,ho1⟩:∃ o1,F s1 (.put n a .nil)=o1:=⟨_,rfl⟩;have hr2:=HR1.out;rw [eachF,ho1] at hr2;have HRO:=Lib.hid hr2.symm;rw [ho1] at HCC;clear ho1 hr2 HR1 hc0 hc1';go_wp2_with fail
    refine HCC.out.mono ?_;rintro e w2 hq
    cases o1 with
    | pan c s2 =>
     obtain ⟨rfl,hi2⟩:=hq;have HRX:=Lib.hid (show R = .pan c s2 from HRO.out);go_wp2
     refine ⟨rfl,?_⟩;rw [HRX.out];exact ⟨rfl,HLESS.out _ _ _ _ hi2 (by omega)⟩
    | go b s2 =>
     obtain ⟨rfl,hi2⟩:=hq;have HIX:=Lib.hid hi2;clear hi2
     cases b with
     | false =>
      have HRX:=Lib.hid (show R = .go false s2 from HRO.out);go_wp2
      go_ret
      rw [HRX.out];exact ⟨rfl,HLESS.out _ _ _ _ HIX.out (by omega)⟩
     | true =>
      have HRX:=Lib.hid (show eachF F r s2=R from HRO.out.symm);go_wp2
      go_roundw
      case rel=>exact ⟨i+1,us++[(.iface 172 (.pointer (some ⟨b0,0,none⟩)))],_,r,s2,by simp,by omega,HNR.out,HMR.out,HWR.out,by simp [HUS.out],by rw [HVS.out,List.append_assoc];rfl,by have:=HLN.out;omega,by have:=HSZ.out;omega,HIX.out,HRX.out⟩
      case measure=>simp only [intOf];omega
   | num n a r =>
    obtain ⟨vt,b0,he,hb1,hb2,hc0,hc1',hnr⟩:=HN.out
    cases he;have hh0:=keep_cell (HKEEP.out _ _ wr HI1.out) hc0 hb1 hb2;have hh1:=keep_cell (HKEEP.out _ _ wr HI1.out) hc1' hb1 hb2;have e1:=as_num_put b0;have e2:=as_num_num b0;have HNR:=Lib.hid hnr;have hwq:(decide (n.length<=4000001) && r.wf 2000000)=true:=HWR.out;simp only [Bool.and_eq_true,decide_eq_true_eq] at hwq;have hcn:room+(Fo.num n a r).cnt=(room+r.cnt)+(Fo.num n a .nil).wt:=by simp only [Fo.cnt,Fo.wt];omega
    have HIC:=HI1.out;rw [hcn] at HIC;have HCC:=Lib.hid (HCALL.out s1 (room+r.cnt) wr (.num n a .nil) (.iface 175 (.pointer (some ⟨b0,0,none⟩))) n a HIC ⟨[],b0,rfl,hb1,hb2,hc0,hc1',rfl⟩ (by simp [Fo.wf,hwq.1]) rfl);have HWR:=Lib.hid hwq.2;clear hnr hwq hcn HIC;have HMR:=Lib.hid (show r.isMsg=true from HMR.out);have HLN:=Lib.hid (show i+(r.len+1)=L from hln);have HSZ:=Lib.hid (show SizeOf.sizeOf r<=SizeOf.sizeOf f by have:=HSZ.out;simp at this;omega);obtain ⟨o1,ho1⟩:∃ o1,F s1 (.num n a .nil)=o1:=⟨_,rfl⟩;have hr2:=HR1.out;rw [eachF,ho1] at hr2;have HRO:=Lib.hid hr2.symm;rw [ho1] at HCC;clear ho1 hr2 HR1 hc0 hc1';go_wp2_with fail
    refine HCC.out.mono ?_;rintro e w2 hq
    cases o1 with
    | pan c s2 =>
     obtain ⟨rfl,hi2⟩:=hq;have HRX:=Lib.hid (show R = .pan c s2 from HRO.out);go_wp2
     refine ⟨rfl,?_⟩;rw [HRX.out];exact ⟨rfl,HLESS.out _ _ _ _ hi2 (by omega)⟩
    | go b s2 =>
     obtain ⟨rfl,hi2⟩:=hq;have HIX:=Lib.hid hi2;clear hi2
     cases b with
     | false =>
      have HRX:=Lib.hid (show R = .go false s2 from HRO.out);go_wp2
      go_ret
      rw [HRX.out];exact ⟨rfl,HLESS.out _ _ _ _ HIX.out (by omega)⟩
     | true =>
      have HRX:=Lib.hid (show eachF F r s2=R from HRO.out.symm);go_wp2
      go_roundw
      case rel=>exact ⟨i+1,us++[(.iface 175 (.pointer (some ⟨b0,0,none⟩)))],_,r,s2,by simp,by omega,HNR.out,HMR.out,HWR.out,by simp [HUS.out],by rw [HVS.out,List.append_assoc];rfl,by have:=HLN.out;omega,by have:=HSZ.out;omega,HIX.out,HRX.out⟩
      case measure=>simp only [intOf];omega
   | br n a fo of cl bs r =>
    obtain ⟨vt,b0,ba,bc,ws,he,hb1,hb2,hc0,hc1',hc2,hc3,hc4,hc5,hrw,hbs,hnr⟩:=HN.out
    cases he;have hh0:=keep_cell (HKEEP.out _ _ wr HI1.out) hc0 hb1 hb2;have hh1:=keep_cell (HKEEP.out _ _ wr HI1.out) hc1' hb1 hb2;have e1:=as_br_put b0;have e2:=as_br_num b0;have e3:=as_br_br b0;have HNR:=Lib.hid hnr;have HBS:=Lib.hid hbs;have HRW:=Lib.hid hrw;have hwq:(decide (n.length<=4000001) && decide (fo<3) && bs.isLegs && decide (bs.len<=2000000) && bs.wf 2000000 && r.wf 2000000)=true:=HWR.out;simp only [Bool.and_eq_true,decide_eq_true_eq] at hwq;obtain ⟨⟨⟨⟨⟨hnl,hfo⟩,hbl⟩,hbn⟩,hbw⟩,hrw2⟩:=hwq;have hcn:room+(Fo.br n a fo of cl bs r).cnt=(room+r.cnt+bs.cnt)+(Fo.br n a fo of cl bs .nil).wt:=by simp only [Fo.cnt,Fo.wt];omega
    have HIC:=HI1.out;rw [hcn] at HIC;have HCC:=Lib.hid (HCALL.out s1 (room+r.cnt+bs.cnt) wr (.br n a fo of cl bs .nil) (.iface 177 (.pointer (some ⟨b0,0,none⟩))) n a HIC ⟨[],b0,ba,bc,ws,rfl,hb1,hb2,hc0,hc1',hc2,hc3,hc4,hc5,hrw,hbs,rfl⟩ (by simp [Fo.wf,hnl,hfo,hbl,hbn,hbw]) rfl);have HC4:=Lib.hid hc4;have HWR:=Lib.hid hrw2;have HBL:=Lib.hid hbl;have HBW:=Lib.hid hbw;have HMR:=Lib.hid (show r.isMsg=true from HMR.out);have HLN:=Lib.hid (show i+(r.len+1)=L from hln);have HSZ:=Lib.hid (show SizeOf.sizeOf r<=SizeOf.sizeOf f/\SizeOf.sizeOf bs<SizeOf.sizeOf f by have:=HSZ.out;simp at this;omega);obtain ⟨o1,ho1⟩:∃ o1,F s1 (.br n a fo of cl bs .nil)=o1:=⟨_,rfl⟩;have hr2:=HR1.out;rw [eachF,ho1] at hr2;have HRO:=Lib.hid hr2.symm;rw [ho1] at HCC;clear ho1 hr2 HR1 hc0 hc1' hc2 hc3 hc4 hc5 hrw hbs hnr hrw2 hbl hbw hcn HIC;go_wp2_with fail
    refine HCC.out.mono ?_;rintro e w2 hq
    cases o1 with
    | pan c s2 =>
     obtain ⟨rfl,hi2⟩:=hq;have HRX:=Lib.hid (show R = .pan c s2 from HRO.out);go_wp2
     refine ⟨rfl,?_⟩;rw [HRX.out];exact ⟨rfl,HLESS.out _ _ _ _ hi2 (by omega)⟩
    | go b s2 =>
     obtain ⟨rfl,hi2⟩:=hq;have HIX:=Lib.hid hi2;clear hi2
     cases b with
     | false =>
      have HRX:=Lib.hid (show R = .go false s2 from HRO.out);go_wp2
      go_ret
      rw [HRX.out];exact ⟨rfl,HLESS.out _ _ _ _ HIX.out (by omega)⟩
     | true =>
      have HRX:=Lib.hid (show (eachF F bs s2).then (fun s=>eachF F r s)=R from HRO.out.symm);have hh4:=keep_cell (HKEEP.out _ _ w2 HIX.out) HC4.out hb1 hb2;clear hh0 hh1 hc1 HCC HRO HI1;go_wp2_with fail
      go_loopw [60] (fun iv wq=>∃ i2 us2 xs2 r2 s3,iv = .int .i64 (i2:Nat)/\i2<=bs.len/\NodesV lo hi w0 xs2 r2/\r2.isLegs=true/\r2.wf 2000000=true/\us2.length=i2*3/\ws=us2++xs2/\i2+r2.len=bs.len/\SizeOf.sizeOf r2<=SizeOf.sizeOf bs/\I s3 (room+r.cnt+r2.cnt) wq/\(eachF F r2 s3).then (fun s=>eachF F r s)=R) (fun iv _=>bs.len - (intOf iv).toNat)
      case atStart=>exact ⟨0,[],ws,bs,s2,rfl,Nat.zero_le _,HBS.out,HBL.out,HBW.out,rfl,rfl,by omega,Nat.le_refl _,HIX.out,HRX.out⟩
      case round =>
       obtain ⟨i2,us2,xs2,r2,s3,rfl,hi2L,hnr2,hmr2,hwr2,hus2,hvs2,hln2,hsz2,hi3,hr3⟩:=hrel;have HN2:=Lib.hid hnr2;have HMR2:=Lib.hid hmr2;have HWR2:=Lib.hid hwr2;have HVS2:=Lib.hid hvs2;have HUS2:=Lib.hid hus2;have HI3:=Lib.hid hi3;have HR3:=Lib.hid hr3;have HSZ2:=Lib.hid hsz2;have HLN2:=Lib.hid hln2;clear hnr2 hmr2 hwr2 hvs2 hus2 hi3 hr3 hsz2;by_cases hlt2:i2<bs.len
       ·cases r2 with
        | nil=>exfalso;simp [Fo.len] at hln2;omega
        | text t r=>have:=HMR2.out;cases this
        | hash r=>have:=HMR2.out;cases this
        | put n a r=>have:=HMR2.out;cases this
        | num n a r=>have:=HMR2.out;cases this
        | br n a fo of cl bs r=>have:=HMR2.out;cases this
        | leg k0 a0 m0 r0 =>
         obtain ⟨vt2,ma,mc,ms,he2,hmrow,hmn,hnr3⟩:=HN2.out;subst he2;have hwl:ws.length=us2.length+(vt2.length+3):=by rw [HVS2.out];simp
         have hat:∀ j v,[strv k0,.int .i64 (a0:Nat),.slice ma m0.len mc][j]? = some v->∃ (h:i2*3+j<ws.length),ws[i2*3+j]=v:=by
          intro j v hj;have hj3:j<3:=by
           apply Classical.byContradiction;intro hc;rw [List.getElem?_eq_none (by simp;omega)] at hj
           cases hj
          refine ⟨by have:=HUS2.out;omega,?_⟩;have h1:ws[i2*3+j]? = some v:=by
           rw [HVS2.out,←HUS2.out,List.getElem?_append_right (by omega),Nat.add_sub_cancel_left,←hj];match j,hj3 with
           | 0,_=>rfl
           | 1,_=>rfl
           | 2,_=>rfl
          rw [List.getElem?_eq_getElem (by have:=HUS2.out;omega)] at h1;exact Option.some.inj h1
         obtain ⟨q0,p0⟩:=hat 0 _ rfl;obtain ⟨q1,p1⟩:=hat 1 _ rfl;obtain ⟨q2,p2⟩:=hat 2 _ rfl;obtain ⟨g2,o2,rfl,hg21,hg22,d0⟩:=HRW.out (i2*3+0) q0;obtain ⟨g2',o2',hgg,_,_,d1⟩:=HRW.out (i2*3+1) q1
         cases hgg;obtain ⟨g2',o2',hgg,_,_,d2⟩:=HRW.out (i2*3+2) q2
         cases hgg;rw [p0] at d0;rw [p1] at d1;rw [p2] at d2;have c0:=keep_cell (HKEEP.out _ _ wr HI3.out) d0 hg21 hg22;have c1:=keep_cell (HKEEP.out _ _ wr HI3.out) d1 hg21 hg22;have c2:=keep_cell (HKEEP.out _ _ wr HI3.out) d2 hg21 hg22;simp only [Nat.add_zero,←Nat.add_assoc] at c0 c1 c2;have HMR0:=Lib.hid hmrow;have HMN0:=Lib.hid hmn;have HNR3:=Lib.hid hnr3;have k3:(i2:Int)<(bs.len:Int):=by omega
         have k4:decide ((i2:Int)<(bs.len:Int))=true:=by simp;omega
         clear hmrow hmn hnr3 d0 d1 d2 p0 p1 p2 hat;have hwq2:(decide (k0.length<=4000001) && m0.isMsg && decide (m0.len<=2000000) && m0.wf 2000000 && r0.wf 2000000)=true:=HWR2.out;simp only [Bool.and_eq_true,decide_eq_true_eq] at hwq2;obtain ⟨⟨⟨⟨_,hm1⟩,hm2⟩,hm3⟩,hm4⟩:=hwq2;have hss:SizeOf.sizeOf m0<SizeOf.sizeOf f/\SizeOf.sizeOf r0<=SizeOf.sizeOf bs:=by have:=HSZ.out;have:=HSZ2.out;simp at this;omega
         have HEC:=Lib.hid (HIH.out m0 hss.1 hm1 hm3 hm2 s3 (room+r.cnt+r0.cnt) (wr.alloc (.cells #[strv k0,.int .i64 (a0:Nat),.slice ma m0.len mc] 183)) ma mc ms (HBEL.out s3 _ wr _ (by have:=HI3.out;rw [show room+r.cnt+(Fo.leg k0 a0 m0 r0).cnt=room+r.cnt+r0.cnt+m0.cnt from by simp only [Fo.cnt];omega] at this;exact this) ((Below.refl _ _).alloc (Nat.le_refl _) _)) HMR0.out HMN0.out);have HSS:=Lib.hid hss.2;have HWR3:=Lib.hid hm4;have HMR3:=Lib.hid (show r0.isLegs=true from HMR2.out);have HLN3:=Lib.hid (show i2+(r0.len+1)=bs.len from HLN2.out);obtain ⟨oo,hoo⟩:∃ oo,eachF F m0 s3=oo:=⟨_,rfl⟩;have hr4:=HR3.out;rw [eachF,hoo] at hr4;have HRO:=Lib.hid hr4.symm;rw [hoo] at HEC;clear hoo hr4 hm1 hm2 hm3 hm4 hss;go_wp2_with fail
         refine HEC.out.mono ?_;rintro e w3 hq
         cases oo with
         | pan c s4 =>
          obtain ⟨rfl,hi4⟩:=hq;have HRX:=Lib.hid (show R = .pan c s4 from HRO.out);go_wp2
          refine ⟨rfl,?_⟩;rw [HRX.out];exact ⟨rfl,HLESS.out _ _ _ _ hi4 (by omega)⟩
         | go b s4 =>
          obtain ⟨rfl,hi4⟩:=hq;have HIX4:=Lib.hid hi4;clear hi4
          cases b with
          | false =>
           have HRX:=Lib.hid (show R = .go false s4 from HRO.out);go_wp2
           go_ret
           rw [HRX.out];exact ⟨rfl,HLESS.out _ _ _ _ HIX4.out (by omega)⟩
          | true =>
           have HRX:=Lib.hid (show (eachF F r0 s4).then (fun s=>eachF F r s)=R from HRO.out.symm);go_wp2
           go_roundw
           case rel=>exact ⟨i2+1,us2++[strv k0,.int .i64 (a0:Nat),.slice ma m0.len mc],vt2,r0,s4,by simp,by omega,HNR3.out,HMR3.out,HWR3.out,by have:=HUS2.out;simp;omega,by rw [HVS2.out,List.append_assoc];rfl,by have:=HLN3.out;omega,HSS.out,HIX4.out,HRX.out⟩
           case measure=>simp only [intOf];omega
       ·have k4:decide ((i2:Int)<(bs.len:Int))=false:=by simp;omega
        have hr0:r2 = .nil:=by
         have:=HMR2.out
         cases r2<;>simp [Fo.len] at hln2<;>first | rfl | omega
        have HRY:=Lib.hid (show eachF F r s3=R by rw [←HR3.out,hr0];rfl);have HSZ:=Lib.hid HSZ.out.1;go_wp2
        go_roundw
        case rel=>exact ⟨i+1,us++[(.iface 177 (.pointer (some ⟨b0,0,none⟩)))],_,r,s3,by simp,by omega,HNR.out,HMR.out,HWR.out,by simp [HUS.out],by rw [HVS.out,List.append_assoc];rfl,by have:=HLN.out;omega,by have:=HSZ.out;omega,HLESS.out _ _ _ _ HI3.out (by omega),HRY.out⟩
        case measure=>simp only [intOf];omega
  ·have k2:decide ((i:Int)<(L:Int))=false:=by simp;omega
   have hr0:r = .nil:=by
    cases r<;>simp [Fo.len] at hln<;>first | rfl | omega
   have HRX:=Lib.hid (show R = .go true s1 by rw [←HR1.out,hr0];rfl);go_wp2
   go_ret
   rw [HRX.out];exact ⟨rfl,HLESS.out _ _ _ _ HI1.out (by omega)⟩
theorem each_any {σ:Type} {lo hi:Nat} {w0:World} {v:Value} {I:σ->Nat->World->Prop} {F:σ->Fo->Out σ} (hy:YieldR lo hi w0 v I F):∀ (n:Nat) (f:Fo),SizeOf.sizeOf f<n->f.isMsg=true->f.wf 2000000=true->f.len<=2000000->EachC lo hi w0 v I F f
 | 0,f,h,_,_,_=>absurd h (Nat.not_lt_zero _)
 | n+1,f,h,hm,hw,hl=>each_step hy f hm hw hl fun m h1 h2 h3 h4=>each_any hy n m (by omega) h2 h3 h4
end Go.Proofs.YthpldolmpinnhaaGreatDoor
