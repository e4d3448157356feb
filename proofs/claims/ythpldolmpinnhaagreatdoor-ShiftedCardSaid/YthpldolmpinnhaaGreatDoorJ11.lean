import Derived.Test.YthpldolmpinnhaaGreatDoorJ10
import Derived.Deep.DeepCutAuto
namespace Go.Proofs.YthpldolmpinnhaaGreatDoor
open Go Go.RowKit
set_option maxRecDepth 10000
theorem want_ok {β:Type} {rs:List Int} {r:Int} {i:Nat} {F:Unit->Nat->PRes β} (h:nextL rs i=r):(wantP rs r i).then F=F () (i+1):=by unfold wantP;rw [if_pos h];rfl
theorem want_no {β:Type} {rs:List Int} {r:Int} {i:Nat} {F:Unit->Nat->PRes β} (h:¬nextL rs i=r):(wantP rs r i).then F = .error (3,i):=by unfold wantP;rw [if_neg h];rfl
theorem whole_ok {β:Type} {rs:List Int} {i:Nat} {F:Wd->Nat->PRes β} (h:¬wholeN rs i=0):(wholeP rs i).then F=F (pieceL rs i (wholeN rs i)) (i+wholeN rs i):=by unfold wholeP;rw [if_neg h];rfl
theorem whole_no {β:Type} {rs:List Int} {i:Nat} {F:Wd->Nat->PRes β} (h:wholeN rs i=0):(wholeP rs i).then F = .error (3,i):=by unfold wholeP;rw [if_pos h];rfl
theorem name_ok {β:Type} {rs:List Int} {i:Nat} {F:Wd->Nat->PRes β} (h:¬nameN rs i=0):(nameP rs i).then F=F (pieceL rs i (nameN rs i)) (i+nameN rs i):=by unfold nameP;rw [if_neg h];rfl
theorem name_no {β:Type} {rs:List Int} {i:Nat} {F:Wd->Nat->PRes β} (h:nameN rs i=0):(nameP rs i).then F = .error (3,i):=by unfold nameP;rw [if_pos h];rfl
theorem off_none {rs:List Int} {f i:Nat} (h:¬(f≠0/\offB rs i=true)):offP rs f i = .ok ([48],i):=by unfold offP;rw [if_neg h]
theorem off_some {rs:List Int} {f i:Nat} (h:f≠0/\offB rs i=true):offP rs f i=(wholeP rs (skipL rs (i+7))).then fun o j => .ok (o,skipL rs j):=by unfold offP;rw [if_pos h]
theorem then_assoc {α β γ:Type} (x:PRes α) (f:α->Nat->PRes β) (g:β->Nat->PRes γ):(x.then f).then g=x.then fun a i=>(f a i).then g:=by
 cases x with
 | error e=>rfl
 | ok a=>rfl
def ArgQ (p:Nat) (rs:List Int) (d:Nat) (r:PRes Fo) (w:World) (e:Ending) (w':World):Prop :=
 (match r with
  | .error (n,a)=>FaultE p n a e w'
  | .ok (f,j)=>(∃ v,e = .returned v/\NodesV w.heap.size w'.heap.size w' [v] f)/\f.len=1/\f.isMsg=true/\SynAt p rs j d w')/\But p w w'
theorem formL_lt {m:Wd} {n:Nat} (h:formL m=some n):n<3:=by
 unfold formL at h;split at h
 ·cases h;decide
 split at h
 ·cases h;decide
 split at h
 ·cases h;decide
 ·cases h
structure BrB (B:Nat) (v0 v1 v2 v3 v4 v5:Value) (w:World):Prop where
 c0:w.cell? ⟨B,0,none⟩=some v0
 c1:w.cell? ⟨B,1,none⟩=some v1
 c2:w.cell? ⟨B,2,none⟩=some v2
 c3:w.cell? ⟨B,3,none⟩=some v3
 c4:w.cell? ⟨B,4,none⟩=some v4
 c5:w.cell? ⟨B,5,none⟩=some v5
 z:∀ j,w.frozen? ⟨B,j,none⟩=false
theorem BrB.but {B p:Nat} {v0 v1 v2 v3 v4 v5:Value} {w w':World} (h:BrB B v0 v1 v2 v3 v4 v5 w) (hb:But p w w') (hne:B≠p):BrB B v0 v1 v2 v3 v4 v5 w' :=
 ⟨hb.cell h.c0 hne,hb.cell h.c1 hne,hb.cell h.c2 hne,hb.cell h.c3 hne,hb.cell h.c4 hne,hb.cell h.c5 hne,fun j=>(World.frozen?_of_block (a:=⟨B,j,none⟩) (hb.block B (World.block_lt_of_cell? w _ h.c0) hne)).trans (h.z j)⟩
theorem BrB.set3 {B:Nat} {v0 v1 v2 v3 v4 v5 u:Value} {w:World} (h:BrB B v0 v1 v2 v3 v4 v5 w):BrB B v0 v1 v2 u v4 v5 (w.setCell ⟨B,3,none⟩ u):=by
 refine ⟨?_,?_,?_,?_,?_,?_,fun j=>by rw [World.frozen?_setCell];exact h.z j⟩<;>rw [cellSet];all_goals first | (rw [if_neg (by simp)];first | exact h.c0 | exact h.c1 | exact h.c2 | exact h.c4 | exact h.c5) | (rw [if_pos rfl,h.c3];rfl)
theorem BrB.set4 {B:Nat} {v0 v1 v2 v3 v4 v5 u:Value} {w:World} (h:BrB B v0 v1 v2 v3 v4 v5 w):BrB B v0 v1 v2 v3 u v5 (w.setCell ⟨B,4,none⟩ u):=by
 refine ⟨?_,?_,?_,?_,?_,?_,fun j=>by rw [World.frozen?_setCell];exact h.z j⟩<;>rw [cellSet];all_goals first | (rw [if_neg (by simp)];first | exact h.c0 | exact h.c1 | exact h.c2 | exact h.c3 | exact h.c5) | (rw [if_pos rfl,h.c4];rfl)
theorem BrB.set5 {B:Nat} {v0 v1 v2 v3 v4 v5 u:Value} {w:World} (h:BrB B v0 v1 v2 v3 v4 v5 w):BrB B v0 v1 v2 v3 v4 u (w.setCell ⟨B,5,none⟩ u):=by
 refine ⟨?_,?_,?_,?_,?_,?_,fun j=>by rw [World.frozen?_setCell];exact h.z j⟩<;>rw [cellSet];all_goals first | (rw [if_neg (by simp)];first | exact h.c0 | exact h.c1 | exact h.c2 | exact h.c3 | exact h.c4) | (rw [if_pos rfl,h.c5];rfl)
theorem BrB.lt {B:Nat} {v0 v1 v2 v3 v4 v5:Value} {w:World} (h:BrB B v0 v1 v2 v3 v4 v5 w):B<w.heap.size:=World.block_lt_of_cell? w _ h.c0
theorem BrB.grown {B:Nat} {v0 v1 v2 v3 v4 v5:Value} {w w':World} {row:Option Nat} (h:BrB B v0 v1 v2 v3 v4 v5 w) (hg:w.grownBy w' row) (hne:some B≠row):BrB B v0 v1 v2 v3 v4 v5 w' :=
 ⟨hg.cell h.c0 hne,hg.cell h.c1 hne,hg.cell h.c2 hne,hg.cell h.c3 hne,hg.cell h.c4 hne,hg.cell h.c5 hne,fun j=>(World.frozen?_of_block (a:=⟨B,j,none⟩) (hg.block B h.lt hne)).trans (h.z j)⟩
structure HeadB (B:Nat) (v0 v1:Value) (w:World):Prop where
 c0:w.cell? ⟨B,0,none⟩=some v0
 c1:w.cell? ⟨B,1,none⟩=some v1
 z:∀ j,w.frozen? ⟨B,j,none⟩=false
theorem HeadB.but {B p:Nat} {v0 v1:Value} {w w':World} (h:HeadB B v0 v1 w) (hb:But p w w') (hne:B≠p):HeadB B v0 v1 w' :=
 ⟨hb.cell h.c0 hne,hb.cell h.c1 hne,fun j=>(World.frozen?_of_block (a:=⟨B,j,none⟩) (hb.block B (World.block_lt_of_cell? w _ h.c0) hne)).trans (h.z j)⟩
theorem HeadB.set0 {B:Nat} {v0 v1 u:Value} {w:World} (h:HeadB B v0 v1 w):HeadB B u v1 (w.setCell ⟨B,0,none⟩ u) :=
 ⟨by rw [cellSet,if_pos rfl,h.c0];rfl,by rw [cellSet,if_neg (by simp)];exact h.c1,fun j=>by rw [World.frozen?_setCell];exact h.z j⟩
set_option maxHeartbeats 60000000 in
theorem syn_argument (p:Nat) (rs:List Int) (i d:Nat) (msg:Option MsgP) (w:World) (h:SynAt p rs i d w) (he:EnvAt p w) (hd:msg=none ↔ d=6) (hm:∀ m,msg=some m->MsgC p rs d m) (hup:∀ m,msg=some m->MsgUp m) :
  Calls Tryz.prog 157 #[.pointer (some ⟨p,0,none⟩)] w (ArgQ p rs d (argP rs msg i) w):=by
 have HH:=Lib.hid h;have HENV:=Lib.hid he;have hu:=Lib.hid hup;have HBR:=Lib.hid (fun num j W hs hE=>syn_branch p rs j d num msg W hs hE hd hm);have hplt:=h.lt;have h5:=h.at_;obtain ⟨R,hR⟩:∃ R,argP rs msg i=R:=⟨_,rfl⟩;rw [hR];unfold argP at hR;have HTW:=Lib.hid hR.symm;clear h he hd hm hR hup;go_enter Tryz.func157,Tryz.ntmps157
 go_wp2_with fail
 refine calls_gen ?_;intro W hW;have hbW:Below w.heap.size w W:=by rw [hW];exact (Below.refl _ _).alloc (Nat.le_refl _) _
 have hLB:HeadB w.heap.size (.string ⟨#[]⟩) (.int .i64 i) W:=by
  rw [hW];exact ⟨cell_made _ _ _ _ _,cell_made _ _ _ _ _,fun j=>by go_simp⟩
 clear hW h5;obtain ⟨B,hB⟩:∃ B,w.heap.size=B:=⟨_,rfl⟩;rw [hB] at hLB ⊢;have HB:=Lib.hid hB;have hpB:p<B:=by omega
 have HLW:=Lib.hid hLB;have HSW:=Lib.hid (HH.out.below hbW);have hbW:=But.of (p:=p) hbW;clear hB hLB;refine (syn_want p rs i d 123 W HSW.out (by decide)).mono ?_;rintro e x1 ⟨hq,hxx1⟩;have hbx1:=hbW.trans hxx1;have HLx1:=Lib.hid (HLW.out.but hxx1 (by omega));by_cases hw:nextL rs i=123
 ·rw [if_pos hw] at hq;obtain ⟨rfl,hs⟩:=hq;have ht:=HTW.out;rw [want_ok hw] at ht;have HTx1:=Lib.hid ht;have HSx1:=Lib.hid hs;clear ht hs hw hxx1 HTW HSW;go_wp2_with fail
  refine (syn_space p rs (i+1) d x1 HSx1.out).mono ?_;rintro e x2 ⟨rfl,hs,hxx2⟩;have hbx2:=hbx1.trans hxx2;have HLx2:=Lib.hid (HLx1.out.but hxx2 (by omega));obtain ⟨J1,hJ⟩:∃ J,skipL rs (i+1)=J:=⟨_,rfl⟩;have leJ1:i+1<=J1:=by rw [←hJ];exact skipL_le rs _
  have ht:=HTx1.out;rw [hJ] at ht hs;have HTx2:=Lib.hid ht;have HSx2:=Lib.hid hs;clear ht hs hJ hxx2 HTx1 HSx1;go_wp2_with fail
  refine (syn_name p rs J1 d x2 HSx2.out).mono ?_;rintro e x3 ⟨hq,hxx3⟩;have hbx3:=hbx2.trans hxx3;have HLx3:=Lib.hid (HLx2.out.but hxx3 (by omega));by_cases hn:nameN rs J1=0
  ·rw [if_pos hn] at hq;have ht:=HTx2.out;rw [name_no hn] at ht;have HTx3:=Lib.hid ht;clear ht hn;have HQ:=Lib.hid hq;obtain ⟨bf,rfl,_,_⟩:=hq;go_wp2
   exact ⟨rfl,by rw [HTx3.out];exact HQ.out,hbx3⟩
  ·rw [if_neg hn] at hq;obtain ⟨rfl,hs⟩:=hq;have ht:=HTx2.out;rw [name_ok hn] at ht;obtain ⟨K,hK⟩:∃ K,pieceL rs J1 (nameN rs J1)=K:=⟨_,rfl⟩;obtain ⟨J2,hJ⟩:∃ J,J1+nameN rs J1=J:=⟨_,rfl⟩;rw [hJ,hK] at ht;rw [hJ] at hs;rw [hK];have hlK:K.length<=4000000:=by
    have:=pieceL_len rs J1 (nameN rs J1);have:=HH.out.len;rw [←hK];omega
   have HTx3:=Lib.hid ht;have HSx3:=Lib.hid hs;clear ht hs hK hJ hn hxx3 HTx2 HSx2;have zz:=HLx3.out.z 0;have z0:=HLx3.out.c0;have z1:=HLx3.out.c1;have HSx4:=Lib.hid (HSx3.out.own hpB 0 (strv K));have HLx4:=Lib.hid (HLx3.out.set0 (u:=strv K));have hbx4:But p w (x3.setCell ⟨B,0,none⟩ (strv K)):=hbx3.own (by have:=HB.out;omega) 0 _;have HTx4:=HTx3;obtain ⟨x4,hX⟩:∃ X,x3.setCell ⟨B,0,none⟩ (strv K)=X:=⟨_,rfl⟩;rw [hX] at HSx4 HLx4 hbx4;have HX:=Lib.hid hX;clear hX HTx3;go_wp2_with fail
   rw [HX.out];clear zz z0 z1;refine (syn_space p rs (J2) d x4 HSx4.out).mono ?_;rintro e x5 ⟨rfl,hs,hxx5⟩;have hbx5:=hbx4.trans hxx5;have HLx5:=Lib.hid (HLx4.out.but hxx5 (by omega));obtain ⟨J3,hJ⟩:∃ J,skipL rs (J2)=J:=⟨_,rfl⟩;have leJ3:J2<=J3:=by rw [←hJ];exact skipL_le rs _
   have ht:=HTx4.out;rw [hJ] at ht hs;have HTx5:=Lib.hid ht;have HSx5:=Lib.hid hs;clear ht hs hJ hxx5 HTx4 HSx4;go_wp2_with fail
   refine (syn_take p rs J3 d 44 x5 HSx5.out (by decide)).mono ?_;rintro e x6 ⟨rfl,hs,hx6⟩;have hbx6:=hbx5.trans hx6;have HLx6:=Lib.hid (HLx5.out.but hx6 (by omega));by_cases h44:nextL rs J3=44
   ·rw [if_pos h44] at hs;rw [show (nextL rs J3==44)=true from by rw [h44];rfl];have HSx6:=Lib.hid hs;have ht:=HTx5.out;rw [if_neg (fun e=>e h44)] at ht;have HTx6:=Lib.hid ht;clear ht hs h44 hx6 HTx5 HSx5;go_wp2_with fail
    refine (syn_space p rs (J3+1) d x6 HSx6.out).mono ?_;rintro e x7 ⟨rfl,hs,hxx7⟩;have hbx7:=hbx6.trans hxx7;have HLx7:=Lib.hid (HLx6.out.but hxx7 (by omega));obtain ⟨J4,hJ⟩:∃ J,skipL rs (J3+1)=J:=⟨_,rfl⟩;have leJ4:J3+1<=J4:=by rw [←hJ];exact skipL_le rs _
    have ht:=HTx6.out;rw [hJ] at ht hs;have HTx7:=Lib.hid ht;have HSx7:=Lib.hid hs;clear ht hs hJ hxx7 HTx6 HSx6;have g7:=HSx7.out.at_;go_wp2_with fail
    refine (syn_name p rs J4 d x7 HSx7.out).mono ?_;rintro e x8 ⟨hq,hxx8⟩;have hbx8:=hbx7.trans hxx8;have HLx8:=Lib.hid (HLx7.out.but hxx8 (by omega));by_cases hn:nameN rs J4=0
    ·rw [if_pos hn] at hq;have ht:=HTx7.out;rw [name_no hn] at ht;have HTx8:=Lib.hid ht;clear ht hn;have HQ:=Lib.hid hq;obtain ⟨bf,rfl,_,_⟩:=hq;go_wp2
     exact ⟨rfl,by rw [HTx8.out];exact HQ.out,hbx8⟩
    ·rw [if_neg hn] at hq;obtain ⟨rfl,hs⟩:=hq;have ht:=HTx7.out;rw [name_ok hn] at ht;obtain ⟨K2,hK⟩:∃ K,pieceL rs J4 (nameN rs J4)=K:=⟨_,rfl⟩;obtain ⟨J5,hJ⟩:∃ J,J4+nameN rs J4=J:=⟨_,rfl⟩;rw [hJ,hK] at ht;rw [hJ] at hs;rw [hK];have hlK2:K2.length<=4000000:=by
      have:=pieceL_len rs J4 (nameN rs J4);have:=HH.out.len;rw [←hK];omega
     have HTx8:=Lib.hid ht;have HSx8:=Lib.hid hs;clear ht hs hK hJ hn hxx8 HTx7 HSx7;clear g7;go_wp2_with fail
     refine (syn_space p rs (J5) d x8 HSx8.out).mono ?_;rintro e x9 ⟨rfl,hs,hxx9⟩;have hbx9:=hbx8.trans hxx9;have HLx9:=Lib.hid (HLx8.out.but hxx9 (by omega));obtain ⟨J6,hJ⟩:∃ J,skipL rs (J5)=J:=⟨_,rfl⟩;have leJ6:J5<=J6:=by rw [←hJ];exact skipL_le rs _
     have ht:=HTx8.out;rw [hJ] at ht hs;have HTx9:=Lib.hid ht;have HSx9:=Lib.hid hs;clear ht hs hJ hxx9 HTx8 HSx8;by_cases hk:(K2==[110,117,109,98,101,114])=true
     ·have ht:=HTx9.out;rw [if_pos (show K2=numW from eq_of_beq hk)] at ht;have HT9:=HTx9;clear HTx9;have HTx9:=Lib.hid ht;clear ht HT9;go_wp2_with fail
      clear hk;refine (syn_want p rs J6 d 125 x9 HSx9.out (by decide)).mono ?_;rintro e x10 ⟨hq,hxx10⟩;have hbx10:=hbx9.trans hxx10;have HLx10:=Lib.hid (HLx9.out.but hxx10 (by omega));by_cases hw:nextL rs J6=125
      ·rw [if_pos hw] at hq;obtain ⟨rfl,hs⟩:=hq;have ht:=HTx9.out;rw [want_ok hw] at ht;have HTx10:=Lib.hid ht;have HSx10:=Lib.hid hs;clear ht hs hw hxx10 HTx9 HSx9;have k0:=HLx10.out.c0;have k1:=HLx10.out.c1;have hX:=hbx10.size;go_wp2
       rw [HTx10.out];have hal:=fun o=>(Below.refl x10.heap.size x10).alloc (Nat.le_refl _) o
       refine bodyPost_ret (v := .iface 175 (.pointer (some ⟨x10.heap.size,0,none⟩))) ?_ rfl ?_
       ·simp [results,Tryz.results157,go_sem]
       exact ⟨⟨⟨_,rfl,[],x10.heap.size,rfl,hX,by simp,cell_made _ _ _ _ _,cell_made _ _ _ _ _,rfl⟩,rfl,rfl,HSx10.out.below (hal _)⟩,hbx10.below (hal _)⟩
      ·rw [if_neg hw] at hq;have ht:=HTx9.out;rw [want_no hw] at ht;have HTx10:=Lib.hid ht;clear ht hw;have HQ:=Lib.hid hq;obtain ⟨bf,rfl,_,_⟩:=hq;go_wp2
       exact ⟨rfl,by rw [HTx10.out];exact HQ.out,hbx10⟩
     ·have hk':(K2==[110,117,109,98,101,114])=false:=by simpa using hk
      have ht:=HTx9.out;rw [if_neg (show ¬K2=numW from fun e=>hk (beq_iff_eq.2 e))] at ht;have HTf:=Lib.hid ht;clear ht hk HTx9;go_wp2_with fail
      clear hk';refine (forms_any x9).mono ?_;rintro e x10 ⟨⟨bm,rfl,hF⟩,hx10⟩;have hbx10:=hbx9.below hx10;have HLx10:=Lib.hid (HLx9.out.but (But.of (p:=p) hx10) (by omega));have HSx10:=Lib.hid (HSx9.out.below hx10);have HF:=Lib.hid hF;have hlook:=hF.look K2 (by omega);clear hx10 hF HSx9;obtain ⟨fo,hfo⟩:∃ fo,formL K2=fo:=⟨_,rfl⟩;rw [hfo] at hlook;have ht:=HTf.out;rw [hfo] at ht;have HTg:=Lib.hid ht;clear ht HTf;have HFO:=Lib.hid hfo;clear hfo
      cases fo with
      | none =>
       have HTx10:=Lib.hid (show R = .error (3,J4) from HTg.out);clear HTg;simp only [Option.getD_none,Option.isSome_none] at hlook;go_wp2_with fail
       refine (syn_fail p 3 J4 x10 HSx10.out.deepc).mono ?_;rintro e x11 ⟨hf,hx11⟩;have HF2:=Lib.hid hf;obtain ⟨bf,rfl,_,_⟩:=hf;go_wp2
       exact ⟨rfl,by rw [HTx10.out];exact HF2.out,hbx10.below hx11⟩
      | some form =>
       simp only [Option.getD_some,Option.isSome_some] at hlook;have hf3:form<3:=formL_lt HFO.out;have ht:=HTg.out;have HTY:=Lib.hid ht;clear HTg ht;have k0:=HLx10.out.c0;have k1:=HLx10.out.c1;go_wp2_with fail
       refine calls_gen ?_;intro Y hY;have hbY:Below x10.heap.size x10 Y:=by rw [hY];exact (Below.refl _ _).alloc (Nat.le_refl _) _
       have hLB:BrB x10.heap.size (strv K) (.int .i64 i) (.int .i64 form) (.int .i64 0) (.slice none 0 0) (.int .i64 0) Y:=by
        rw [hY];exact ⟨cell_made _ _ _ _ _,cell_made _ _ _ _ _,cell_made _ _ _ _ _,cell_made _ _ _ _ _,cell_made _ _ _ _ _,cell_made _ _ _ _ _,fun j=>by go_simp⟩
       have hwx:w.heap.size<=x10.heap.size:=hbx10.size;have HSY:=Lib.hid (HSx10.out.below hbY);have hbY:=hbx10.below hbY;obtain ⟨C,hC⟩:∃ C,x10.heap.size=C:=⟨_,rfl⟩;rw [hC] at hLB hwx ⊢;have hwC:=hwx;clear hY k0 k1 hlook HSx10 hC HLx10 HF hwx;have HLY:=Lib.hid hLB;have hpC:p<C:=by omega
       clear hLB;refine (syn_want p rs J6 d 44 Y HSY.out (by decide)).mono ?_;rintro e y1 ⟨hq,hxy1⟩;have hby1:=hbY.trans hxy1;have HLy1:=Lib.hid (HLY.out.but hxy1 (by omega));by_cases hw:nextL rs J6=44
       ·rw [if_pos hw] at hq;obtain ⟨rfl,hs⟩:=hq;have ht:=HTY.out;rw [want_ok hw] at ht;have HTy1:=Lib.hid ht;have HSy1:=Lib.hid hs;clear ht hs hw hxy1 HTY HSY;go_wp2_with fail
        refine (syn_space p rs (J6+1) d y1 HSy1.out).mono ?_;rintro e y2 ⟨rfl,hs,hxy2⟩;have hby2:=hby1.trans hxy2;have HLy2:=Lib.hid (HLy1.out.but hxy2 (by omega));obtain ⟨J7,hJ⟩:∃ J,skipL rs (J6+1)=J:=⟨_,rfl⟩;have leJ7:J6+1<=J7:=by rw [←hJ];exact skipL_le rs _
        have ht:=HTy1.out;rw [hJ] at ht hs;have HTy2:=Lib.hid ht;have HSy2:=Lib.hid hs;clear ht hs hJ hxy2 HTy1 HSy1;obtain ⟨FF,hFF⟩:∃ FF:Wd->Nat->PRes Fo,FF=fun o l=>(legsP rs msg (decide (form≠0)) (rs.length+1) .nil l).then fun bs q=>(wantP rs 125 q).then fun _ z => .ok (.br K i form o q bs .nil,z):=⟨_,rfl⟩
        have HFF:=Lib.hid hFF;have HTF:=Lib.hid (show R=(offP rs form J7).then FF by rw [hFF];exact HTy2.out);clear hFF HTy2;go_upto_region 23 with fail
        go_cut [76] (fun s wc=>∃ b l,s = .bool b/\SynAt p rs l d wc/\But p w wc/\BrB C (strv K) (.int .i64 i) (.int .i64 form) (.int .i64 0) (.slice none 0 0) (.int .i64 0) wc/\J7<=l/\(b=true->R=((wholeP rs (skipL rs l)).then fun o j=>(.ok (o,skipL rs j):PRes Wd)).then FF)/\(b=false->R=FF [48] l))
        case first =>
         by_cases h0:form=0
         ·subst h0;have ht:=HTF.out;rw [off_none (fun e=>e.1 rfl),then_ok] at ht;have HTX:=Lib.hid ht;clear ht HTF;go_wp2_with fail
          go_meet
          case rel=>exact ⟨false,J7,rfl,HSy2.out,hby2,HLy2.out,Nat.le_refl _,(fun e=>by cases e),fun _=>HTX.out⟩
         ·have hf0:((form:Int)==0)=false:=by simp;omega
          have hf1:((form:Int) !=0)=true:=by simp;omega
          have HF0:=Lib.hid h0;clear h0;go_wp2_with fail
          refine (syn_follows p rs J7 d y2 HSy2.out).mono ?_;rintro e y3 ⟨rfl,hs,hx⟩;have hby3:=hby2.trans hx;have HLy3:=Lib.hid (HLy2.out.but hx (by omega));by_cases ho:offB rs J7=true
          ·rw [if_pos ho] at hs;rw [ho];have ht:=HTF.out;rw [off_some ⟨HF0.out,ho⟩] at ht;have HTy3:=Lib.hid ht;have HSy3:=Lib.hid hs;clear ht hs hx ho HTF HSy2;go_wp2_with fail
           go_meet
           case rel=>exact ⟨true,J7+7,rfl,HSy3.out,hby3,HLy3.out,Nat.le_add_right _ _,(fun _=>HTy3.out),(fun e=>by cases e)⟩
          ·rw [if_neg ho] at hs;rw [show offB rs J7=false from by simpa using ho];have ht:=HTF.out;rw [off_none (fun e=>ho e.2),then_ok] at ht;have HTy3:=Lib.hid ht;have HSy3:=Lib.hid hs;clear ht hs hx ho HTF HSy2;go_wp2_with fail
           go_meet
           case rel=>exact ⟨false,J7,rfl,HSy3.out,hby3,HLy3.out,Nat.le_refl _,(fun e=>by cases e),fun _=>HTy3.out⟩
        case rest =>
         obtain ⟨b,l,rfl,hs,hbc,hl,hJl,ht1,ht0⟩:=hcut;have HSc:=Lib.hid hs;have HLc:=Lib.hid hl;have HT1:=Lib.hid ht1;have HT0:=Lib.hid ht0;clear hs hl ht1 ht0 HSy2 HLy2 HTF hby2;go_upto_if 76 with fail
         go_cut [] (fun wc=>∃ l ov O,offV O=ov/\SynAt p rs l d wc/\But p w wc/\BrB C (strv K) (.int .i64 i) (.int .i64 form) (.int .i64 ov) (.slice none 0 0) (.int .i64 0) wc/\J7<=l/\R=FF O l)
         case first =>
          cases b with
          | false =>
           have HTc:=Lib.hid (HT0.out rfl);clear HT0 HT1;go_wp2_with fail
           go_meet
           case rel=>exact ⟨l,0,[48],rfl,HSc.out,hbc,HLc.out,hJl,HTc.out⟩
          | true =>
           have HTc:=Lib.hid (HT1.out rfl);have hbwc:=hbc;have HSwc:=HSc;have HLwc:=HLc;have HTwc:=HTc;clear hbc HSc HLc HTc HT1 HT0;go_wp2_with fail
           refine (syn_space p rs (l) d wc HSwc.out).mono ?_;rintro e y4 ⟨rfl,hs,hxy4⟩;have hby4:=hbwc.trans hxy4;have HLy4:=Lib.hid (HLwc.out.but hxy4 (by omega));obtain ⟨J8,hJ⟩:∃ J,skipL rs (l)=J:=⟨_,rfl⟩;have leJ8:l<=J8:=by rw [←hJ];exact skipL_le rs _
           have ht:=HTwc.out;rw [hJ] at ht hs;have HTy4:=Lib.hid ht;have HSy4:=Lib.hid hs;clear ht hs hJ hxy4 HTwc HSwc;go_wp2_with fail
           refine (syn_whole p rs J8 d y4 HSy4.out).mono ?_;rintro e y5 ⟨hq,hx⟩;have hby5:=hby4.trans hx;have HLy5:=Lib.hid (HLy4.out.but hx (by omega));by_cases hn:wholeN rs J8=0
           ·rw [if_pos hn] at hq;have ht:=HTy4.out;rw [then_assoc,whole_no hn] at ht;have HTy5:=Lib.hid ht;clear ht hn;have HQ:=Lib.hid hq;obtain ⟨bf,rfl,_,_⟩:=hq;go_wp2
            exact ⟨rfl,by rw [HTy5.out];exact HQ.out,hby5⟩
           ·rw [if_neg hn] at hq;obtain ⟨rfl,hs⟩:=hq;have ht:=HTy4.out;rw [then_assoc,whole_ok hn] at ht;simp only [then_ok] at ht;obtain ⟨w1,w2,w3⟩:=whole_piece rs J8 hn;obtain ⟨O,hO⟩:∃ K,pieceL rs J8 (wholeN rs J8)=K:=⟨_,rfl⟩;obtain ⟨J9,hJ⟩:∃ J,J8+wholeN rs J8=J:=⟨_,rfl⟩;have leJ9:J8<=J9:=by omega
            rw [hJ,hO] at ht;rw [hJ] at hs;rw [hO] at w1 w2 w3 ⊢;have HTy5:=Lib.hid ht;have HSy5:=Lib.hid hs;have HAT:=Lib.hid (fun W=>ato_any O W w1 w2 w3);clear ht hs hO hJ hn hx HTy4 HSy4 w1 w2 w3;go_wp2_with fail
            refine (HAT.out y5).mono ?_;rintro e y6 ⟨rfl,hx⟩;have hby6:=hby5.below hx;have HLy6:=Lib.hid (HLy5.out.but (But.of (p:=p) hx) (by omega));have HSy6:=Lib.hid (HSy5.out.below hx);obtain ⟨ov,hov⟩:∃ v,offV O=v:=⟨_,rfl⟩;rw [hov];have HOV:=Lib.hid hov;have q3:=HLy6.out.c3;have z3:=HLy6.out.z 3;have HSy7:=Lib.hid (HSy6.out.own hpC 3 (.int .i64 ov));have HLy7:=Lib.hid (HLy6.out.set3 (u := .int .i64 ov));have hby7:But p w (y6.setCell ⟨C,3,none⟩ (.int .i64 ov)):=hby6.own hwC 3 _;have HTy7:=HTy5;obtain ⟨y7,hX⟩:∃ X,y6.setCell ⟨C,3,none⟩ (.int .i64 ov)=X:=⟨_,rfl⟩;rw [hX] at HSy7 HLy7 hby7;have HX:=Lib.hid hX;clear hX HTy5 hov hx HSy5;go_wp2_with fail
            rw [HX.out];clear q3 z3;refine (syn_space p rs (J9) d y7 HSy7.out).mono ?_;rintro e y8 ⟨rfl,hs,hxy8⟩;have hby8:=hby7.trans hxy8;have HLy8:=Lib.hid (HLy7.out.but hxy8 (by omega));obtain ⟨J10,hJ⟩:∃ J,skipL rs (J9)=J:=⟨_,rfl⟩;have leJ10:J9<=J10:=by rw [←hJ];exact skipL_le rs _
            have ht:=HTy7.out;rw [hJ] at ht hs;have HTy8:=Lib.hid ht;have HSy8:=Lib.hid hs;clear ht hs hJ hxy8 HTy7 HSy7;go_wp2_with fail
            go_meet
            case rel=>exact ⟨J10,ov,O,HOV.out,HSy8.out,hby8,HLy8.out,by omega,HTy8.out⟩
         case rest =>
          obtain ⟨l2,ov,O,hov,hs,hbz,hl,hJl2,ht⟩:=hcut;have HOV:=Lib.hid hov;have HSz:=Lib.hid hs;have HLz:=Lib.hid hl;have HTz:=Lib.hid (show R=(legsP rs msg (decide (form≠0)) (rs.length+1) .nil l2).then fun bs q=>(wantP rs 125 q).then fun _ z => .ok (.br K i form O q bs .nil,z) by rw [ht,HFF.out]);obtain ⟨NB,hNB⟩:∃ b,decide (form≠0)=b:=⟨_,rfl⟩;have HNB:=Lib.hid hNB;have HNBI:=Lib.hid (show ((form:Int) !=0)=NB from by rw [←hNB];by_cases h:form=0<;>simp [h]);clear hov hs hl ht hbc HSc HLc HT1 HT0 HFF hNB;go_wp2_with fail
          obtain ⟨G,hG,hGe⟩:∃ G:Fo->Nat->PRes Fo,R=(legsP rs msg NB (rs.length+1) .nil l2).then G/\∀ bs q,nextL rs q=125->G bs q = .ok (.br K i form O q bs .nil,q+1):=⟨_,(show decide (form≠0)=NB from HNB.out)▸HTz.out,fun bs q h=>want_ok h⟩;have HGE:=Lib.hid hGe;clear hGe;have HG:=Lib.hid hG;have hl1:1<=l2:=by omega
          clear hG HTz;go_loopw [] (fun wr=>∃ acc j n v ws,SynAt p rs j d wr/\But p w wr/\BrB C (strv K) (.int .i64 i) (.int .i64 (form:Nat)) (.int .i64 ov) v (.int .i64 0) wr/\GrowR (C+1) 183 3 v acc ws wr/\acc.isLegs=true/\R=(legsP rs msg NB n acc j).then G/\rs.length+2<=n+j/\acc.len<=j) (fun wr=>rs.length+2 - atOf p wr)
          case atStart=>exact ⟨.nil,l2,rs.length+1,_,[],HSz.out,hbz,HLz.out,GrowR.start _ _ _ _,rfl,HG.out,by omega,Nat.zero_le _⟩
          case round =>
           obtain ⟨acc,j,n,v,ws,hs,hbut,hbr,hgr,hlegs,hR,hfu,hacc0⟩:=hrel;obtain ⟨ga,gc,hv,_⟩:=hgr.row;subst hv;have HSR:=Lib.hid hs;have HBRR:=Lib.hid hbr;have HGR:=Lib.hid hgr;have HRR:=Lib.hid hR;have HLG:=Lib.hid hlegs;have HACC:=Lib.hid (show acc.len<=j/\j<=rs.length+1 from ⟨hacc0,hs.here⟩);have hCC:=hbr.lt;clear hs hbr hgr hR hlegs hacc0;go_wp2_with fail
           refine (syn_next p rs j d wr HSR.out).mono ?_;rintro e w1 ⟨rfl,hb1⟩;have HB1:=Lib.hid (HBRR.out.but (But.of (p:=p) hb1) (by omega));have q4:=HB1.out.c4;have HS1:=Lib.hid (HSR.out.below hb1);have hbk:=hbut.below hb1;by_cases h125:nextL rs j=125
           ·rw [h125];by_cases ha0:acc.len=0
            ·have ha0':((acc.len:Int)==0)=true:=by simp [ha0]
             have HA0:=Lib.hid ha0;clear ha0 h125;obtain ⟨n',hn'⟩:∃ n',n=n'+1:=⟨n - 1,by have:=HS1.out.here;omega⟩;have ht:=HRR.out;rw [hn',legsP,if_neg (fun e=>e.2 HA0.out),then_assoc] at ht;obtain ⟨r,hr⟩:∃ r,legP rs msg NB j=r:=⟨_,rfl⟩;rw [hr] at ht;have HCALL:=Lib.hid (fun W hs hE=>(hr▸HBR.out NB j W hs hE:Calls Tryz.prog 204 #[.pointer (some ⟨p,0,none⟩),.bool NB] W (LegQ p rs d r W)));have HT1:=Lib.hid ht;have HLT:=Lib.hid (fun f q (e:r = .ok (f,q))=>legP_lt hu.out (hr.trans e));have HGR1:=Lib.hid (HGR.out.but (But.of (p:=p) hb1) (by omega));have HENV1:=Lib.hid (HENV.out.but hbk);have hw1:=hb1.size;have hN:=Lib.hid hn';clear ht hr hn';go_wp2_with fail
             refine wp_region_takesK (fun W':World=>W'.cell? ⟨C,4,none⟩=some (.slice ga acc.len gc)) 13 [0,1,2,3,4,5,6,7] 6 (by intro _ _ d _ _ h;cases d<;>exact h) (by kernel_rfl) (by kernel_rfl) HB1.out.c4 ?_;(iterate 8 (first | (refine takes_yes (v:=?_) rfl (by rfl) ?_ ?_;rotate_left;(focus ((intro w' hS';(try dsimp only at hS');go_simp;try (with_reducible rfl));done));(try simp only [Act.put,List.setIfInBounds_toArray,List.set_cons_zero,List.set_cons_succ])) | (refine takes_no rfl (by rfl) ?_;(try simp only [Act.put,List.setIfInBounds_toArray,List.set_cons_zero,List.set_cons_succ]))))
             refine takes_nil ?_;refine wpAnyK_only 8 (by kernel_rfl) rfl (fun K hK=>?_);go_simp
             rw [HNBI.out];refine (HCALL.out w1.drew (HS1.out.below (Below.refl _ _).drew) (HENV1.out.but (But.refl _ _).drew)).mono ?_;rintro e w2 ⟨hq,hx2⟩;have hx2:But p w1 w2:=(But.refl p w1).drew.trans hx2;have hbk2:=hbk.trans hx2
             cases r with
             | error en =>
              obtain ⟨en1,en2⟩:=en;have HQ:=Lib.hid hq;obtain ⟨bf,rfl,_,_⟩:=hq;have HTE:=Lib.hid (show R = .error (en1,en2) from HT1.out);go_wp2
              exact ⟨rfl,by rw [HTE.out];exact HQ.out,hbk2⟩
             | ok fq =>
              obtain ⟨f,q⟩:=fq;obtain ⟨⟨k,pl,m,ma,mc,hf,rfl,hmm,vs,hrow,hnod⟩,hs2⟩:=hq;have HROW:=Lib.hid hrow;have HNOD:=Lib.hid hnod;have HS2:=Lib.hid hs2;have HB2:=Lib.hid (HB1.out.but hx2 (by omega));have HGR2:=Lib.hid (HGR1.out.but hx2 (by omega));have HT2:=Lib.hid (show R=(legsP rs msg NB n' (acc.app f) q).then G from HT1.out);have hjq:=HLT.out f q rfl;have HF:=Lib.hid hf;have HMM:=Lib.hid hmm;have hhere:=hs2.here;have hwx:=hx2.size;have q4':=HB2.out.c4;clear hrow hnod hs2 hx2 hf HLT HT1 hmm HCALL;refine hK.out _ _ HB2.out.c4 (fun _=>?_);clear hK K;refine wpAnyK_only 9 (by kernel_rfl) rfl (fun K hK=>?_);go_simp
              have q43:=(HB2.out.but (But.of (p:=p) ((Below.refl w2.heap.size w2).alloc (Nat.le_refl _) (.cells #[strv k,.int .i64 pl,.slice ma m.len mc] 183))) (by omega)).c4;refine hK.out _ _ q43 (fun _=>?_);clear q43;clear hK K;have hb3:Below w2.heap.size w2 (w2.alloc (.cells #[strv k,.int .i64 pl,.slice ma m.len mc] 183)):=(Below.refl _ _).alloc (Nat.le_refl _) _;have HC3:=Lib.hid (fun i=>cell_made w2 #[strv k,.int .i64 pl,.slice ma m.len mc] 183 (0,0) i);obtain ⟨w3,hw3⟩:∃ w3,w2.alloc (.cells #[strv k,.int .i64 pl,.slice ma m.len mc] 183)=w3:=⟨_,rfl⟩;rw [hw3] at hb3 HC3 ⊢;have HB3:=Lib.hid (HB2.out.but (But.of (p:=p) hb3) (by omega));have HS3:=Lib.hid (HS2.out.below hb3);have HGR3:=Lib.hid (HGR2.out.but (But.of (p:=p) hb3) (by omega));have hbk3:=hbk2.below hb3;have hsz3:=hb3.size;have hacc:acc.len<=2000000:=by
               have:=HACC.out;have:=HH.out.len;omega
              clear hw3;refine wpAnyK_only 10 (by kernel_rfl) rfl (fun K hK=>?_);rw [if_pos (by rfl)];refine op_grow elem_branch _ _ rfl (C+1) w1.heap.size _ acc f ws rfl HGR3.out ⟨w2.heap.size,0,none⟩ 1 1 [strv k,.int .i64 pl,.slice ma m.len mc] rfl rfl ?c1 ?c2 ?c3 (by omega) ?c4 (by rw [HF.out];rfl) (by omega) (by omega) ?c5
              case c1 =>
               intro jj u hu;rw [addr_add0,HC3.out];simpa using hu
              case c2 =>
               intro u hu;simp at hu;rcases hu with rfl | rfl | rfl<;>rfl
              case c3 =>
               rw [HF.out];have hk:KeepR w1.heap.size w2.heap.size w2 w3:=⟨hb3.size,fun k _ hk=>hb3.block k hk⟩;exact ⟨[],ma,mc,vs,rfl,HROW.out.keep hk (Nat.le_refl _) hb3.size,NodesV.keep hk (Nat.le_refl _) hb3.size _ _ HNOD.out,rfl⟩
              case c4 =>
               intro kk hkk;exact (HGR1.out.lt kk hkk).2
              case c5 =>
               intro v' w4 hg4 hgr;have HGR4:=Lib.hid hg4;have HOWN:=Lib.hid (fun kk hkk=>(HGR1.out.lt kk hkk).1);have HB4:=Lib.hid (HB3.out.grown hgr (fun e=>by have:=HOWN.out C e.symm;omega));have HS4:=Lib.hid (HS3.out.grown hgr (fun q hq=>by have:=HOWN.out q hq;omega));have hbk4:=hbk3.grown hgr (fun q hq=>by have:=HOWN.out q hq;omega);have hsz4:=hgr.size;obtain ⟨ga',gc',hv',_⟩:=hg4.row;subst hv';clear hg4 hgr;refine hK.out _ _ HB4.out.c4 (fun _=>?_);clear hK K;have q44:=HB4.out.c4;have z44:=HB4.out.z 4;refine wpAnyK_more [11,12] 1 rfl (by intro _ _ d _ _ h;cases d<;>exact h) (by kernel_rfl) (by kernel_rfl) HB4.out.c4 ?_;(iterate 2 (first | (refine takes_yes (v:=?_) rfl (by rfl) ?_ ?_;rotate_left;(focus ((intro w' hS';(try dsimp only at hS');go_simp;try (with_reducible rfl));done));(try simp only [Act.put,List.setIfInBounds_toArray,List.set_cons_zero,List.set_cons_succ])) | (refine takes_no rfl (by rfl) ?_;(try simp only [Act.put,List.setIfInBounds_toArray,List.set_cons_zero,List.set_cons_succ]))))
               refine takes_nil ?_;refine wpAnyK_last 13 (by kernel_rfl) (by kernel_rfl) rfl (fun K hK=>?_);go_simp
               refine hK.out _ _ ?_;clear hK K;refine wpAnyK_done (by kernel_rfl) ?_ _;go_wp2
               go_roundw
               case rel =>
                refine ⟨acc.app f,q,n',_,_,HS4.out.own hpC 4 _,hbk4.own hwC 4 _,HB4.out.set4,HGR4.out.but (But.set C _ 4 _) (by omega),Fo.isLegs_app _ _ HLG.out (by rw [HF.out];rfl),HT2.out,by have:=hN.out;omega,?_⟩;rw [Fo.len_app,show f.len=1 by rw [HF.out];rfl];have:=HACC.out;omega
               case measure =>
                rw [atOf_syn (HS4.out.own hpC 4 _),atOf_syn HSR.out];omega
            ·have ha0':((acc.len:Int)==0)=false:=by simp [ha0]
             have u1:=HS1.out.at_;have q5:=HB1.out.c5;have z5:=HB1.out.z 5;obtain ⟨n',hn'⟩:∃ n',n=n'+1:=⟨n - 1,by have:=HS1.out.here;omega⟩;have ht:=HRR.out;rw [hn',legsP,if_pos ⟨h125,ha0⟩,then_ok] at ht;have HT1:=Lib.hid ht;have HS2:=Lib.hid (HS1.out.own hpC 5 (.int .i64 j));have HB2:=Lib.hid (HB1.out.set5 (u := .int .i64 j));have hb2:But p w (w1.setCell ⟨C,5,none⟩ (.int .i64 j)):=hbk.own hwC 5 _;have HGR9:=Lib.hid ((HGR.out.but (But.of (p:=p) hb1) (by omega)).but (But.set C w1 5 (.int .i64 j)) (by omega));obtain ⟨y9,hX⟩:∃ X,w1.setCell ⟨C,5,none⟩ (.int .i64 j)=X:=⟨_,rfl⟩;rw [hX] at HS2 HB2 hb2 HGR9;have HX9:=Lib.hid hX;clear hX ht hn';go_wp2_with fail
             rw [HX9.out];refine (syn_want p rs j d 125 y9 HS2.out (by decide)).mono ?_;rintro e y10 ⟨hq,hx⟩;rw [if_pos h125] at hq;obtain ⟨rfl,hs⟩:=hq;have HTZ:=Lib.hid (HT1.out.trans (HGE.out _ _ h125));have HSZ:=Lib.hid hs;have hbz:=hb2.trans hx;have HBZ:=Lib.hid (HB2.out.but hx (by omega));have HGRZ:=Lib.hid (HGR9.out.but hx (by omega));have hCZ:=HBZ.out.lt;clear hs h125;go_wp2
             rw [HTZ.out];refine bodyPost_ret (v := .iface 177 (.pointer (some ⟨C,0,none⟩))) ?_ rfl ?_
             ·simp [results,Tryz.results157,go_sem]
             obtain ⟨ga2,gc2,hv2,hrow2⟩:=HGRZ.out.row
             cases hv2;have hkk:KeepR (C+1) y10.heap.size y10 y10:=keep_refl (Nat.le_refl _);exact ⟨⟨⟨_,rfl,[],C,_,_,ws,rfl,hwC,hCZ,HBZ.out.c0,HBZ.out.c1,HBZ.out.c2,(HOV.out ▸  HBZ.out.c3),HBZ.out.c4,HBZ.out.c5,hrow2.keep hkk (by omega) (Nat.le_refl _),NodesV.keep hkk (by omega) (Nat.le_refl _) _ _ HGRZ.out.nodes,rfl⟩,rfl,rfl,HSZ.out⟩,hbz⟩
           ·have h125':(nextL rs j==125)=false:=by simp [h125]
            have H125:=Lib.hid h125;clear h125;obtain ⟨n',hn'⟩:∃ n',n=n'+1:=⟨n - 1,by have:=HS1.out.here;omega⟩;have ht:=HRR.out;rw [hn',legsP,if_neg (fun e=>H125.out e.1),then_assoc] at ht;obtain ⟨r,hr⟩:∃ r,legP rs msg NB j=r:=⟨_,rfl⟩;rw [hr] at ht;have HCALL:=Lib.hid (fun W hs hE=>(hr▸HBR.out NB j W hs hE:Calls Tryz.prog 204 #[.pointer (some ⟨p,0,none⟩),.bool NB] W (LegQ p rs d r W)));have HT1:=Lib.hid ht;have HLT:=Lib.hid (fun f q (e:r = .ok (f,q))=>legP_lt hu.out (hr.trans e));have HGR1:=Lib.hid (HGR.out.but (But.of (p:=p) hb1) (by omega));have HENV1:=Lib.hid (HENV.out.but hbk);have hw1:=hb1.size;have hN:=Lib.hid hn';clear ht hr hn';go_wp2_with fail
            refine wp_region_takesK (fun W':World=>W'.cell? ⟨C,4,none⟩=some (.slice ga acc.len gc)) 13 [0,1,2,3,4,5,6,7] 6 (by intro _ _ d _ _ h;cases d<;>exact h) (by kernel_rfl) (by kernel_rfl) HB1.out.c4 ?_;(iterate 8 (first | (refine takes_yes (v:=?_) rfl (by rfl) ?_ ?_;rotate_left;(focus ((intro w' hS';(try dsimp only at hS');go_simp;try (with_reducible rfl));done));(try simp only [Act.put,List.setIfInBounds_toArray,List.set_cons_zero,List.set_cons_succ])) | (refine takes_no rfl (by rfl) ?_;(try simp only [Act.put,List.setIfInBounds_toArray,List.set_cons_zero,List.set_cons_succ]))))
            refine takes_nil ?_;refine wpAnyK_only 8 (by kernel_rfl) rfl (fun K hK=>?_);go_simp
            rw [HNBI.out];refine (HCALL.out w1.drew (HS1.out.below (Below.refl _ _).drew) (HENV1.out.but (But.refl _ _).drew)).mono ?_;rintro e w2 ⟨hq,hx2⟩;have hx2:But p w1 w2:=(But.refl p w1).drew.trans hx2;have hbk2:=hbk.trans hx2
            cases r with
            | error en =>
             obtain ⟨en1,en2⟩:=en;have HQ:=Lib.hid hq;obtain ⟨bf,rfl,_,_⟩:=hq;have HTE:=Lib.hid (show R = .error (en1,en2) from HT1.out);go_wp2
             exact ⟨rfl,by rw [HTE.out];exact HQ.out,hbk2⟩
            | ok fq =>
             obtain ⟨f,q⟩:=fq;obtain ⟨⟨k,pl,m,ma,mc,hf,rfl,hmm,vs,hrow,hnod⟩,hs2⟩:=hq;have HROW:=Lib.hid hrow;have HNOD:=Lib.hid hnod;have HS2:=Lib.hid hs2;have HB2:=Lib.hid (HB1.out.but hx2 (by omega));have HGR2:=Lib.hid (HGR1.out.but hx2 (by omega));have HT2:=Lib.hid (show R=(legsP rs msg NB n' (acc.app f) q).then G from HT1.out);have hjq:=HLT.out f q rfl;have HF:=Lib.hid hf;have HMM:=Lib.hid hmm;have hhere:=hs2.here;have hwx:=hx2.size;have q4':=HB2.out.c4;clear hrow hnod hs2 hx2 hf HLT HT1 hmm HCALL;refine hK.out _ _ HB2.out.c4 (fun _=>?_);clear hK K;refine wpAnyK_only 9 (by kernel_rfl) rfl (fun K hK=>?_);go_simp
             have q43:=(HB2.out.but (But.of (p:=p) ((Below.refl w2.heap.size w2).alloc (Nat.le_refl _) (.cells #[strv k,.int .i64 pl,.slice ma m.len mc] 183))) (by omega)).c4;refine hK.out _ _ q43 (fun _=>?_);clear q43;clear hK K;have hb3:Below w2.heap.size w2 (w2.alloc (.cells #[strv k,.int .i64 pl,.slice ma m.len mc] 183)):=(Below.refl _ _).alloc (Nat.le_refl _) _;have HC3:=Lib.hid (fun i=>cell_made w2 #[strv k,.int .i64 pl,.slice ma m.len mc] 183 (0,0) i);obtain ⟨w3,hw3⟩:∃ w3,w2.alloc (.cells #[strv k,.int .i64 pl,.slice ma m.len mc] 183)=w3:=⟨_,rfl⟩;rw [hw3] at hb3 HC3 ⊢;have HB3:=Lib.hid (HB2.out.but (But.of (p:=p) hb3) (by omega));have HS3:=Lib.hid (HS2.out.below hb3);have HGR3:=Lib.hid (HGR2.out.but (But.of (p:=p) hb3) (by omega));have hbk3:=hbk2.below hb3;have hsz3:=hb3.size;have hacc:acc.len<=2000000:=by
              have:=HACC.out;have:=HH.out.len;omega
             clear hw3;refine wpAnyK_only 10 (by kernel_rfl) rfl (fun K hK=>?_);rw [if_pos (by rfl)];refine op_grow elem_branch _ _ rfl (C+1) w1.heap.size _ acc f ws rfl HGR3.out ⟨w2.heap.size,0,none⟩ 1 1 [strv k,.int .i64 pl,.slice ma m.len mc] rfl rfl ?c1 ?c2 ?c3 (by omega) ?c4 (by rw [HF.out];rfl) (by omega) (by omega) ?c5
             case c1 =>
              intro jj u hu;rw [addr_add0,HC3.out];simpa using hu
             case c2 =>
              intro u hu;simp at hu;rcases hu with rfl | rfl | rfl<;>rfl
             case c3 =>
              rw [HF.out];have hk:KeepR w1.heap.size w2.heap.size w2 w3:=⟨hb3.size,fun k _ hk=>hb3.block k hk⟩;exact ⟨[],ma,mc,vs,rfl,HROW.out.keep hk (Nat.le_refl _) hb3.size,NodesV.keep hk (Nat.le_refl _) hb3.size _ _ HNOD.out,rfl⟩
             case c4 =>
              intro kk hkk;exact (HGR1.out.lt kk hkk).2
             case c5 =>
              intro v' w4 hg4 hgr;have HGR4:=Lib.hid hg4;have HOWN:=Lib.hid (fun kk hkk=>(HGR1.out.lt kk hkk).1);have HB4:=Lib.hid (HB3.out.grown hgr (fun e=>by have:=HOWN.out C e.symm;omega));have HS4:=Lib.hid (HS3.out.grown hgr (fun q hq=>by have:=HOWN.out q hq;omega));have hbk4:=hbk3.grown hgr (fun q hq=>by have:=HOWN.out q hq;omega);have hsz4:=hgr.size;obtain ⟨ga',gc',hv',_⟩:=hg4.row;subst hv';clear hg4 hgr;refine hK.out _ _ HB4.out.c4 (fun _=>?_);clear hK K;have q44:=HB4.out.c4;have z44:=HB4.out.z 4;refine wpAnyK_more [11,12] 1 rfl (by intro _ _ d _ _ h;cases d<;>exact h) (by kernel_rfl) (by kernel_rfl) HB4.out.c4 ?_;(iterate 2 (first | (refine takes_yes (v:=?_) rfl (by rfl) ?_ ?_;rotate_left;(focus ((intro w' hS';(try dsimp only at hS');go_simp;try (with_reducible rfl));done));(try simp only [Act.put,List.setIfInBounds_toArray,List.set_cons_zero,List.set_cons_succ])) | (refine takes_no rfl (by rfl) ?_;(try simp only [Act.put,List.setIfInBounds_toArray,List.set_cons_zero,List.set_cons_succ]))))
              refine takes_nil ?_;refine wpAnyK_last 13 (by kernel_rfl) (by kernel_rfl) rfl (fun K hK=>?_);go_simp
              refine hK.out _ _ ?_;clear hK K;refine wpAnyK_done (by kernel_rfl) ?_ _;go_wp2
              go_roundw
              case rel =>
               refine ⟨acc.app f,q,n',_,_,HS4.out.own hpC 4 _,hbk4.own hwC 4 _,HB4.out.set4,HGR4.out.but (But.set C _ 4 _) (by omega),Fo.isLegs_app _ _ HLG.out (by rw [HF.out];rfl),HT2.out,by have:=hN.out;omega,?_⟩;rw [Fo.len_app,show f.len=1 by rw [HF.out];rfl];have:=HACC.out;omega
              case measure =>
               rw [atOf_syn (HS4.out.own hpC 4 _),atOf_syn HSR.out];omega
       ·rw [if_neg hw] at hq;have ht:=HTY.out;rw [want_no hw] at ht;have HTy1:=Lib.hid ht;clear ht hw;have HQ:=Lib.hid hq;obtain ⟨bf,rfl,_,_⟩:=hq;go_wp2
        exact ⟨rfl,by rw [HTy1.out];exact HQ.out,hby1⟩
   ·rw [if_neg h44] at hs;rw [show (nextL rs J3==44)=false from by simp [h44]];have HSx6:=Lib.hid hs;have ht:=HTx5.out;rw [if_pos h44] at ht;have HTx6:=Lib.hid ht;clear ht hs h44 hx6 HTx5 HSx5;go_wp2_with fail
    refine (syn_want p rs J3 d 125 x6 HSx6.out (by decide)).mono ?_;rintro e x7 ⟨hq,hxx7⟩;have hbx7:=hbx6.trans hxx7;have HLx7:=Lib.hid (HLx6.out.but hxx7 (by omega));by_cases hw:nextL rs J3=125
    ·rw [if_pos hw] at hq;obtain ⟨rfl,hs⟩:=hq;have ht:=HTx6.out;rw [want_ok hw] at ht;have HTx7:=Lib.hid ht;have HSx7:=Lib.hid hs;clear ht hs hw hxx7 HTx6 HSx6;have k0:=HLx7.out.c0;have k1:=HLx7.out.c1;have hX:=hbx7.size;go_wp2
     rw [HTx7.out];have hal:=fun o=>(Below.refl x7.heap.size x7).alloc (Nat.le_refl _) o
     refine bodyPost_ret (v := .iface 172 (.pointer (some ⟨x7.heap.size,0,none⟩))) ?_ rfl ?_
     ·simp [results,Tryz.results157,go_sem]
     exact ⟨⟨⟨_,rfl,[],x7.heap.size,rfl,hX,by simp,cell_made _ _ _ _ _,cell_made _ _ _ _ _,rfl⟩,rfl,rfl,HSx7.out.below (hal _)⟩,hbx7.below (hal _)⟩
    ·rw [if_neg hw] at hq;have ht:=HTx6.out;rw [want_no hw] at ht;have HTx7:=Lib.hid ht;clear ht hw;have HQ:=Lib.hid hq;obtain ⟨bf,rfl,_,_⟩:=hq;go_wp2
     exact ⟨rfl,by rw [HTx7.out];exact HQ.out,hbx7⟩
 ·rw [if_neg hw] at hq;have ht:=HTW.out;rw [want_no hw] at ht;have HTx1:=Lib.hid ht;clear ht hw;have HQ:=Lib.hid hq;obtain ⟨bf,rfl,_,_⟩:=hq;go_wp2
  exact ⟨rfl,by rw [HTx1.out];exact HQ.out,hbx1⟩
end Go.Proofs.YthpldolmpinnhaaGreatDoor
