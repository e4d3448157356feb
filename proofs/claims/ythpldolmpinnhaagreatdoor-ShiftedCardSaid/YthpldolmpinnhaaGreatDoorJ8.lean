import Derived.Test.YthpldolmpinnhaaGreatDoorJ7
import Derived.Laws.Cover4
import Derived.Deep.LoopGhost
import Derived.WalkMore
namespace Go.Proofs.YthpldolmpinnhaaGreatDoor
open Go Go.RowKit
set_option maxRecDepth 10000
theorem idx_rune (g cap:Nat) (rs:List Int) (r:Int) (w:World) (hl:rs.length<=1000000) (hc:∀ j (h:j<rs.length),w.cell? ⟨g,j,none⟩=some (.int .i32 rs[j])) :
  Calls Tryz.prog 258 #[.slice (some ⟨g,0,none⟩) rs.length cap,.int .i32 r] w fun e w'=>(∃ k:Int,e = .returned (.int .i64 k)/\decide (0<=k)=rs.contains r)/\w=w':=by
 have HC:=Lib.hid hc;obtain ⟨n,hn⟩:∃ n,rs.length=n:=⟨_,rfl⟩;have HN:=Lib.hid hn;rw [hn] at hl ⊢;clear hc hn;go_enter Tryz.func258,Tryz.ntmps258
 go_wp2
 go_loop [8] (fun i=>∃ k:Nat,k<=n/\i = .int .i64 k/\r ∉ rs.take k) (fun i=>n - (intOf i).toNat)
 case atStart=>exact ⟨0,Nat.zero_le _,rfl,by simp⟩
 case round =>
  obtain ⟨k,hk,rfl,hnot⟩:=hrel;have HNOT:=Lib.hid hnot;clear hnot;by_cases hlt:k<n
  ·have hcell:=HC.out k (by rw [HN.out];exact hlt);obtain ⟨x,hx⟩:∃ x,rs[k]'(by rw [HN.out];exact hlt)=x:=⟨_,rfl⟩;rw [hx] at hcell;have HX:=Lib.hid hx;clear hx;by_cases hq:r=x
   ·have hq2:(r==x)=true:=by simpa using hq
    have HF:=Lib.hid (show r∈rs by rw [hq,←HX.out];exact List.getElem_mem _);clear hq;go_wp2
    go_ret
    exact ⟨⟨k,rfl,by simpa using HF.out⟩,rfl⟩
   ·have hq2:(r==x)=false:=by simpa using hq
    have HF:=Lib.hid (show r ∉ rs.take (k+1) by
     rw [List.take_succ_eq_append_getElem (by rw [HN.out];exact hlt),List.mem_append];rintro (q | q)
     ·exact HNOT.out q
     ·rw [HX.out] at q;exact hq (List.mem_singleton.1 q))
    go_wp2
    go_round
    case rel=>exact ⟨k+1,by omega,by go_num,HF.out⟩
    case measure=>simp [intOf];omega
  ·obtain rfl:k=n:=by omega
   have hnn:=HNOT.out;rw [List.take_of_length_le (by rw [HN.out];exact Nat.le_refl _)] at hnn;have HF:=Lib.hid hnn;clear hnn;go_wp2
   go_ret
   exact ⟨⟨-1,rfl,by simpa using HF.out⟩,rfl⟩
theorem contains_rune (g cap:Nat) (rs:List Int) (r:Int) (w:World) (hl:rs.length<=1000000) (hc:∀ j (h:j<rs.length),w.cell? ⟨g,j,none⟩=some (.int .i32 rs[j])) :
  Calls Tryz.prog 234 #[.slice (some ⟨g,0,none⟩) rs.length cap,.int .i32 r] w fun e w'=>e = .returned (.bool (rs.contains r))/\w=w':=by
 have HI:=Lib.hid (idx_rune g cap rs r w hl hc);clear hc;go_enter Tryz.func234,Tryz.ntmps234
 go_wp2_with fail
 refine HI.out.mono ?_;rintro e w' ⟨⟨k,rfl,hk⟩,rfl⟩;have HK:=Lib.hid hk;clear hk HI;go_wp2
 go_ret
 exact ⟨by rw [←HK.out];rfl,rfl⟩
def blankL (r:Int):Bool:=[32,9,10,13].contains r
def skipL (rs:List Int) (i:Nat):Nat:=i+((rs.drop i).takeWhile blankL).length
theorem skip_yes {rs:List Int} {i:Nat} (h:blankL (nextL rs i)=true):i<rs.length/\skipL rs i=skipL rs (i+1):=by
 have hlt:i<rs.length:=by
  apply Classical.byContradiction;intro hc;unfold nextL at h;rw [List.getD_eq_getElem?_getD,List.getElem?_eq_none (by omega)] at h;revert h
  decide
 refine ⟨hlt,?_⟩;have hn:nextL rs i=rs[i]:=by unfold nextL;rw [List.getD_eq_getElem?_getD,List.getElem?_eq_getElem hlt];rfl
 rw [hn] at h;unfold skipL;rw [List.drop_eq_getElem_cons hlt,List.takeWhile_cons_of_pos h];simp;omega
theorem skip_no {rs:List Int} {i:Nat} (h:blankL (nextL rs i)=false):skipL rs i=i:=by
 unfold skipL;by_cases hlt:i<rs.length
 ·have hn:nextL rs i=rs[i]:=by unfold nextL;rw [List.getD_eq_getElem?_getD,List.getElem?_eq_getElem hlt];rfl
  rw [hn] at h;rw [List.drop_eq_getElem_cons hlt,List.takeWhile_cons_of_neg (by simp [h])];rfl
 ·rw [List.drop_of_length_le (by omega)];rfl
def atOf (p:Nat) (w:World):Nat:=match w.cell? ⟨p,1,none⟩ with | some v=>(intOf v).toNat | none=>0
theorem atOf_syn {p:Nat} {rs:List Int} {i d:Nat} {w:World} (h:SynAt p rs i d w):atOf p w=i:=by
 unfold atOf;rw [h.at_];simp [intOf]
set_option maxHeartbeats 4000000 in
theorem syn_space (p:Nat) (rs:List Int) (i d:Nat) (w:World) (h:SynAt p rs i d w) :
  Calls Tryz.prog 198 #[.pointer (some ⟨p,0,none⟩)] w (StepQ p rs d (.tuple #[]) (skipL rs i) w):=by
 have HH:=Lib.hid h;obtain ⟨R,hR⟩:∃ R,skipL rs i=R:=⟨_,rfl⟩;rw [hR];have HR:=Lib.hid hR;clear h hR;go_enter Tryz.func198,Tryz.ntmps198
 go_wp2_with fail
 go_loopw [] (fun wr=>∃ j,SynAt p rs j d wr/\But p w wr/\skipL rs j=R) (fun wr=>rs.length - atOf p wr)
 case atStart=>exact ⟨i,HH.out,But.refl _ _,HR.out⟩
 case round =>
  obtain ⟨j,hs,hbut,hsk⟩:=hrel;have HS:=Lib.hid hs;have HSK:=Lib.hid hsk;clear hs hsk;go_wp2_with fail
  refine calls_gen ?_;intro W hW;have hb:Below wr.heap.size wr W:=by rw [hW];exact (Below.refl _ _).alloc (Nat.le_refl _) _
  have hc:∀ k (h:k<4),W.cell? ⟨wr.heap.size,k,none⟩=some (.int .i32 ([32,9,10,13][k]'h)):=by
   rw [hW];intro k hk;rw [cell_made];match k,hk with
   | 0,_=>rfl
   | 1,_=>rfl
   | 2,_=>rfl
   | 3,_=>rfl
  clear hW;refine (syn_next p rs j d W (HS.out.below hb)).mono ?_;rintro e w1 ⟨rfl,hb1⟩;have hb01:=hb.trans (hb1.mono hb.size);have hz:wr.heap.size<W.heap.size:=World.block_lt_of_cell? W _ (hc 0 (by decide));have hc1:∀ k (h:k<4),w1.cell? ⟨wr.heap.size,k,none⟩=some (.int .i32 ([32,9,10,13][k]'h)):=fun k hk=>(hb1.cell (p:=⟨wr.heap.size,k,none⟩) hz).trans (hc k hk)
  have hcall:=contains_rune wr.heap.size 4 [32,9,10,13] (nextL rs j) w1 (by decide) hc1;rw [show [32,9,10,13].contains (nextL rs j)=blankL (nextL rs j) from rfl] at hcall;have HCALL:=Lib.hid hcall;have hs1:=HS.out.below hb01;have HS1:=Lib.hid hs1;have h5:=hs1.at_;have h7:=hs1.z1;have hlen:=hs1.len;have hhere:=hs1.here;obtain ⟨bl,hbl⟩:∃ b,blankL (nextL rs j)=b:=⟨_,rfl⟩;rw [hbl] at HCALL;have HBL:=Lib.hid hbl;clear hc hc1 hcall hb hb1 hs1 hbl;go_wp2_with fail
  refine HCALL.out.mono ?_;rintro e w' ⟨rfl,rfl⟩
  cases bl
  ·have HF:=Lib.hid (show j=R by rw [←HSK.out];exact (skip_no HBL.out).symm);go_wp2
   go_end0
   exact ⟨rfl,by rw [←HF.out];exact HS1.out,hbut.below hb01⟩
  ·obtain ⟨hlt,hstep⟩:=skip_yes HBL.out;have HF:=Lib.hid (show skipL rs (j+1)=R by rw [←HSK.out,hstep]);have hmv:=HS1.out.move (j+1) (by omega);have HM:=Lib.hid (show SynAt p rs (j+1) d (w1.setCell ⟨p,1,none⟩ (.int .i64 ((j:Int)+1))) by simpa using hmv);clear hstep hmv;go_wp2
   go_roundw
   case rel=>exact ⟨j+1,HM.out,(hbut.below hb01).setIn 1 _,HF.out⟩
   case measure=>rw [atOf_syn HM.out,atOf_syn HS.out];omega
theorem runesBytes_enc (l:List Int):runesBytes l=⟨(l.flatMap enc).toArray⟩:=by
 unfold runesBytes;have h:∀ (l:List Int) (a:List UInt8),l.foldl (fun r n=>r++Utf8.encode n) (⟨a.toArray⟩:ByteArray)=⟨(a++l.flatMap enc).toArray⟩:=by
  intro l;induction l with
  | nil=>intro a;simp
  | cons c t ih =>
   intro a;rw [List.foldl_cons,append_eq,toList_mk];rw [show (Utf8.encode c).data.toList=enc c from rfl,ih];simp
 have:=h l [];rw [List.nil_append] at this;exact this
def FitsR (p:Nat) (rs:List Int) (i d:Nat) (w:World) (v:Value) (F:Int->Nat->Bool):Prop :=
 ∃ k cap,v = .func (.func k) #[] cap/\(∀ args w,(callFunc k args).run Tryz.prog w = .ok (.enter k args) w) /\
  ∀ W,But p w W->∀ n,(n=0\/i+n<=rs.length)->n<=1000000->SynAt p rs (i+n) d W->Calls Tryz.prog k (#[.int .i32 (nextL rs (i+n)),.int .i64 (n:Nat)]++cap) W fun e W'=>e = .returned (.bool (F (nextL rs (i+n)) n))/\Below W.heap.size W W'
def runGo (F:Int->Nat->Bool) (rs:List Int) (i:Nat):Nat->Nat->Nat
 | 0,n=>n
 | f+1,n=>if F (nextL rs (i+n)) n=true then runGo F rs i f (n+1) else n
def runN (F:Int->Nat->Bool) (rs:List Int) (i:Nat):Nat:=runGo F rs i (rs.length+1) 0
def pieceL (rs:List Int) (i n:Nat):Wd:=((rs.drop i).take n).flatMap enc
def RunQ (p:Nat) (rs:List Int) (i d n:Nat) (w:World) (e:Ending) (w':World):Prop :=
 (if n=0 then FaultE p 3 i e w' else e = .returned (strv (pieceL rs i n))/\SynAt p rs (i+n) d w')/\But p w w'
theorem next_end {rs:List Int} {i:Nat} (h:rs.length<=i):nextL rs i = -1:=by
 unfold nextL;rw [List.getD_eq_getElem?_getD,List.getElem?_eq_none h];rfl
theorem run_step {F:Int->Nat->Bool} {rs:List Int} {i n R f:Nat} (h:runGo F rs i (f+1) n=R):(F (nextL rs (i+n)) n=true->runGo F rs i f (n+1)=R)/\(F (nextL rs (i+n)) n=false->n=R):=by
 rw [runGo] at h;constructor
 ·intro q;rw [if_pos q] at h;exact h
 ·intro q;rw [if_neg (by rw [q];simp)] at h;exact h
set_option maxHeartbeats 4000000 in
theorem syn_run (p:Nat) (rs:List Int) (i d:Nat) (w:World) (v:Value) (F:Int->Nat->Bool) (h:SynAt p rs i d w) (hf:FitsR p rs i d w v F) (hend:∀ n,F (-1) n=false) :
  Calls Tryz.prog 235 #[.pointer (some ⟨p,0,none⟩),v] w (RunQ p rs i d (runN F rs i) w):=by
 obtain ⟨kf,cf,rfl,hent,hcall⟩:=hf;have HH:=Lib.hid h;have HCALL:=Lib.hid hcall;obtain ⟨R,hR⟩:∃ R,runN F rs i=R:=⟨_,rfl⟩;rw [hR];have HR:=Lib.hid hR;have hi0:=h.at_;have hilen:=h.here;have hL0:=h.len;clear h hcall hR;go_enter Tryz.func235,Tryz.ntmps235
 go_wp2_with fail
 clear hi0;go_loopw [] (fun wr=>∃ n,n<=rs.length/\(n=0\/i+n<=rs.length)/\SynAt p rs (i+n) d wr/\But p w wr/\runGo F rs i (rs.length+1 - n) n=R) (fun wr=>rs.length+1 - atOf p wr)
 case atStart=>exact ⟨0,Nat.zero_le _,.inl rfl,HH.out,But.refl _ _,HR.out⟩
 case round =>
  obtain ⟨n,hn,hlast,hs,hbut,hgo⟩:=hrel;have HS:=Lib.hid hs;have hst:=run_step (F:=F) (rs:=rs) (i:=i) (n:=n) (R:=R) (f:=rs.length - n) (by rw [show rs.length - n+1=rs.length+1 - n by omega];exact hgo);have HST:=Lib.hid hst;have h5:=hs.at_;have hS0:wr.drew.cell? ⟨p,1,none⟩=some (.int .i64 ((i+n:Nat):Int)):=h5;have hd1:((i+n:Nat):Int) - (i:Int)=(n:Int):=by omega
  have hd2:IntKind.i64.wrap ((i:Int)+(n:Int) - (i:Int))=(n:Int):=by rw [show (i:Int)+(n:Int) - (i:Int)=(n:Int) by omega];simp [IntKind.wrap,IntKind.signed,IntKind.bits];omega
  clear hs hgo hst;go_wp2_with fail
  refine wp_region_takes (fun W':World=>W'.cell? ⟨p,1,none⟩=some (.int .i64 ((i+n:Nat):Int))) [0,1,3,4,5,6,7,8] 2 (by intro _ _ d _ _ h;cases d<;>exact h) (by kernel_rfl) (by kernel_rfl) hS0 ?_;(iterate 8 (first | (refine takes_yes (v:=?_) rfl (by rfl) ?_ ?_;rotate_left;(focus ((intro w' hS';(try dsimp only at hS');go_simp;try (with_reducible rfl));done));(try simp only [Act.put,List.setIfInBounds_toArray,List.set_cons_zero,List.set_cons_succ])) | (refine takes_no rfl (by rfl) ?_;(try simp only [Act.put,List.setIfInBounds_toArray,List.set_cons_zero,List.set_cons_succ]))))
  refine takes_nil ?_;refine wpAnyH_only 2 (by kernel_rfl) rfl (fun K hK=>?_);go_simp
  refine (syn_next p rs (i+n) d wr.drew (HS.out.below (Below.refl _ _).drew)).mono ?_;rintro e w1 ⟨rfl,hb1⟩;have hb01:Below wr.heap.size wr w1:=(Below.refl _ wr).drew.trans hb1;have HS1:=Lib.hid (HS.out.below hb01);have hS1:w1.cell? ⟨p,1,none⟩=some (.int .i64 ((i+n:Nat):Int)):=HS1.out.at_;refine hK.out _ _ hS1 (fun _=>?_);clear hK K;refine wpAnyH_only 9 (by kernel_rfl) rfl (fun K hK=>?_);go_simp
  refine (HCALL.out w1 (hbut.below hb01) n hlast (by omega) HS1.out).mono ?_;rintro e w2 ⟨rfl,hb2⟩;have hb02:=hb01.trans (hb2.mono hb01.size);have hs2:=HS1.out.below hb2;have HS2:=Lib.hid hs2;have hS2:w2.cell? ⟨p,1,none⟩=some (.int .i64 ((i+n:Nat):Int)):=hs2.at_;have h7:=hs2.z1;refine hK.out _ _ hS2 (fun _=>?_);clear hK K;refine wpAnyH_done (by kernel_rfl) ?_ _;obtain ⟨b,hb⟩:∃ b,F (nextL rs (i+n)) n=b:=⟨_,rfl⟩;rw [hb];rw [hb] at HST;have HB:=Lib.hid hb;clear hs2 hb hS0 hS1 h5 hd1 hd2
  cases b
  ·have HE:=Lib.hid (show n=R from HST.out.2 rfl);by_cases hn0:n=0
   ·subst hn0;have hq:(((i+0:Nat):Int)==(i:Int))=true:=by simp
    go_wp2_with fail
    refine (syn_fail p 3 i w2 HS2.out.deepc).mono ?_;rintro e w3 ⟨hff,hb3⟩;have HFF:=Lib.hid hff;obtain ⟨bf,rfl,_,_⟩:=hff;go_wp2
    exact ⟨rfl,by rw [←HE.out,if_pos rfl];exact HFF.out,(hbut.below hb02).below hb3⟩
   ·have hq:(((i+n:Nat):Int)==(i:Int))=false:=by simp;omega
    obtain ⟨⟨g,cap,c0,hlc,hcm,hgp,hcells⟩,c1,_,_,_,_,_,_⟩:=HS2.out;have hin:i+n<=rs.length:=hlast.resolve_left hn0;obtain ⟨L,hL⟩:∃ L,rs.length=L:=⟨_,rfl⟩;have HLL:=Lib.hid hL;rw [hL] at c0 hlc hin;have hS3:w2.drew.cell? ⟨p,1,none⟩=some (.int .i64 ((i+n:Nat):Int))/\w2.drew.cell? ⟨p,0,none⟩=some (.slice (some ⟨g,0,none⟩) L cap)/\∀ j (h:j<rs.length),w2.drew.cell? ⟨g,j,none⟩=some (.int .i32 rs[j]):=⟨c1,c0,hcells⟩;have k1:i<=i+n:=by omega
    have k2:i+n<=cap:=by omega
    have k3:i<=cap:=by omega
    have k4:(i:Int)<=(i:Int)+(n:Int):=by omega
    have k5:(i:Int)+(n:Int)<=(cap:Int):=by omega
    have k6:((i:Int)+(n:Int)).toNat=i+n:=by omega
    have k7:(0:Int)<=(i:Int)+(n:Int):=by omega
    have k8:i+n - i=n:=by omega
    have k9:(i:Int)+(n:Int) - (i:Int)=(n:Int):=by omega
    clear hL hcells c0 c1 hS2 hb2;go_wp2_with fail
    refine wp_region_takes (fun W':World=>W'.cell? ⟨p,1,none⟩=some (.int .i64 ((i+n:Nat):Int))/\W'.cell? ⟨p,0,none⟩=some (.slice (some ⟨g,0,none⟩) L cap)/\∀ j (h:j<rs.length),W'.cell? ⟨g,j,none⟩=some (.int .i32 rs[j])) [0,1,2,3,4,5,6,7,8,9,10,11] 0 (by intro _ _ d _ _ h;cases d<;>exact h) (by kernel_rfl) (by kernel_rfl) hS3 ?_;(iterate 10 (first | (refine takes_yes (v:=?_) rfl (by rfl) ?_ ?_;rotate_left;(focus ((intro w' hS';(try dsimp only at hS');go_simp;try (with_reducible rfl));done));(try simp only [Act.put,List.setIfInBounds_toArray,List.set_cons_zero,List.set_cons_succ])) | (refine takes_no rfl (by rfl) ?_;(try simp only [Act.put,List.setIfInBounds_toArray,List.set_cons_zero,List.set_cons_succ]))))
    refine takes_yes (v:=strv (pieceL rs i n)) rfl (by rfl) ?_ ?_
    ·intro w' hS';have hcv:=run_convert_runes (P:=Tryz.prog) w' 147 9 21 ⟨g,i,none⟩ n (cap - i) ((rs.drop i).take n) (by simp;have:=HLL.out;omega) Tryz.underlying147 Tryz.underlying21 Tryz.underlying9 (fun j hj=>by
      have hj2:i+j<rs.length:=by simp at hj;omega
      have e:(⟨g,i,none⟩:Addr).add j=⟨g,i+j,none⟩:=by
       unfold Addr.add;split
       ·next h=>subst h;rfl
       ·rfl
      rw [e,hS'.2.2 (i+j) hj2];have hjn:j<n:=by simp at hj;omega
      simp [List.getD_eq_getElem?_getD,List.getElem?_take,List.getElem?_drop,hjn,hj2])
     rw [List.take_of_length_le (by simp;omega),runesBytes_enc] at hcv;go_simp
     rw [if_neg (show ¬cap=i by omega),hcv];rfl
    (try simp only [Act.put,List.setIfInBounds_toArray,List.set_cons_zero,List.set_cons_succ])
    (iterate 1 (first | (refine takes_yes (v:=?_) rfl (by rfl) ?_ ?_;rotate_left;(focus ((intro w' hS';(try dsimp only at hS');go_simp;try (with_reducible rfl));done));(try simp only [Act.put,List.setIfInBounds_toArray,List.set_cons_zero,List.set_cons_succ])) | (refine takes_no rfl (by rfl) ?_;(try simp only [Act.put,List.setIfInBounds_toArray,List.set_cons_zero,List.set_cons_succ]))))
    refine takes_nil ?_;refine wpAnyH_done (by kernel_rfl) ?_ _;go_wp2
    go_ret
    exact ⟨by rw [if_neg (by rw [←HE.out];exact hn0)];exact ⟨by rw [←HE.out];rfl,by rw [←HE.out];exact HS2.out.below (Below.refl _ _).drew⟩,(hbut.below hb02).drew⟩
  ·have hlt:i+n<rs.length:=by
    apply Classical.byContradiction;intro hc;have:=HB.out;rw [next_end (by omega),hend] at this
    cases this
   have HG:=Lib.hid (HST.out.1 rfl);have hmv:=HS2.out.move (i+(n+1)) (by omega);have HM:=Lib.hid (show SynAt p rs (i+(n+1)) d (w2.setCell ⟨p,1,none⟩ (.int .i64 ((i:Int)+(n:Int)+1))) by rw [show (i:Int)+(n:Int)+1=((i+(n+1):Nat):Int) by omega];exact hmv);clear hmv;go_wp2
   go_roundw
   case rel=>exact ⟨n+1,by omega,.inr (by omega),HM.out,(hbut.below hb02).setIn 1 _,by rw [show rs.length+1 - (n+1)=rs.length - n by omega];exact HG.out⟩
   case measure=>rw [atOf_syn HM.out,atOf_syn HS.out];omega
def nameF (r:Int) (n:Nat):Bool:=decide (n<16) && (letterL r || (decide (0<n) && digitL r))
set_option maxHeartbeats 2000000 in
theorem fits_name (r:Int) (n:Nat) (w:World) (hn:n<=1000000):Calls Tryz.prog 236 #[.int .i32 r,.int .i64 (n:Nat)] w fun e w'=>e = .returned (.bool (nameF r n))/\w=w':=by
 obtain ⟨l,hl⟩:∃ b,letterL r=b:=⟨_,rfl⟩;obtain ⟨dg,hdg⟩:∃ b,digitL r=b:=⟨_,rfl⟩;have HL:=Lib.hid (hl▸syn_letter r w);have HD:=Lib.hid (hdg▸syn_digit r w);have HF:=Lib.hid (show nameF r n=(decide (n<16) && (l || (decide (0<n) && dg))) by unfold nameF;rw [hl,hdg]);clear hl hdg;by_cases h1:n<16
 ·have g1:decide (n<16)=true:=decide_eq_true h1;go_enter Tryz.func236,Tryz.ntmps236
  go_wp2_with fail
  refine HL.out.mono ?_;rintro e w' ⟨rfl,rfl⟩
  cases l
  ·by_cases h2:0<n
   ·have g2:decide (0<n)=true:=decide_eq_true h2;go_wp2_with fail
    refine HD.out.mono ?_;rintro e w' ⟨rfl,rfl⟩;go_wp2
    go_ret
    exact ⟨by rw [HF.out,g1,g2];simp,rfl⟩
   ·have g2:decide (0<n)=false:=decide_eq_false h2;go_wp2
    go_ret
    exact ⟨by rw [HF.out,g1,g2];simp,rfl⟩
  ·go_wp2
   go_ret
   exact ⟨by rw [HF.out,g1];simp,rfl⟩
 ·have g1:decide (n<16)=false:=decide_eq_false h1;go_enter Tryz.func236,Tryz.ntmps236
  go_wp2
  go_ret
  exact ⟨by rw [HF.out,g1];simp,rfl⟩
def nameN (rs:List Int) (i:Nat):Nat:=runN nameF rs i
theorem syn_name (p:Nat) (rs:List Int) (i d:Nat) (w:World) (h:SynAt p rs i d w) :
  Calls Tryz.prog 199 #[.pointer (some ⟨p,0,none⟩)] w (RunQ p rs i d (nameN rs i) w):=by
 have hf:FitsR p rs i d w (.func (.func 236) #[] #[]) nameF :=
  ⟨_,_,rfl,fun args w=>by rfl,fun W _ n _ hn _=>(fits_name (nextL rs (i+n)) n W hn).mono fun e w' q=>⟨q.1,q.2▸Below.refl _ _⟩⟩
 have HR:=Lib.hid (syn_run p rs i d w _ nameF h hf (fun n=>by unfold nameF;simp [letterL,digitL]));rw [show runN nameF rs i=nameN rs i from rfl] at HR;obtain ⟨n,hn⟩:∃ n,nameN rs i=n:=⟨_,rfl⟩;rw [hn] at HR ⊢;clear h hf hn;go_enter Tryz.func199,Tryz.ntmps199
 go_wp2_with fail
 refine HR.out.mono ?_;rintro e w1 ⟨hq,hb⟩;by_cases h0:n=0
 ·rw [if_pos h0] at hq;have HQ:=Lib.hid hq;obtain ⟨b,rfl,_,_⟩:=hq;have H0:=Lib.hid h0;clear h0;go_wp2
  exact ⟨rfl,by rw [if_pos H0.out];exact HQ.out,hb⟩
 ·rw [if_neg h0] at hq;obtain ⟨rfl,hs⟩:=hq;have H0:=Lib.hid h0;clear h0;go_wp2
  go_ret
  exact ⟨by rw [if_neg H0.out];exact ⟨rfl,hs⟩,hb⟩
def wholeF (r0:Int) (r:Int) (n:Nat):Bool:=(decide (n<9) && digitL r) && (decide (n=0) || r0 !=48)
set_option maxHeartbeats 4000000 in
theorem fits_whole (p bt bf:Nat) (rs:List Int) (i n d:Nat) (w:World) (hs:SynAt p rs (i+n) d w) (hn:n<=1000000) (hi:n=0\/i+n<=rs.length) (ht:w.cell? ⟨bt,0,none⟩=some (.pointer (some ⟨p,0,none⟩))) (hf:w.cell? ⟨bf,0,none⟩=some (.int .i64 i)) (r:Int) :
  Calls Tryz.prog 238 #[.int .i32 r,.int .i64 (n:Nat),.pointer (some ⟨bt,0,none⟩),.pointer (some ⟨bf,0,none⟩)] w fun e w'=>e = .returned (.bool (wholeF (nextL rs i) r n))/\Below w.heap.size w w':=by
 obtain ⟨dg,hdg⟩:∃ b,digitL r=b:=⟨_,rfl⟩;have HD:=Lib.hid (fun W=>hdg▸syn_digit r W);obtain ⟨r0,hr0⟩:∃ q,nextL rs i=q:=⟨_,rfl⟩;rw [hr0];have HF:=Lib.hid (show wholeF r0 r n=((decide (n<9) && dg) && (decide (n=0) || r0 !=48)) by unfold wholeF;rw [hdg]);obtain ⟨⟨g,cap,c0,hlc,hcm,hgp,hcells⟩,c1,_,_,_,_,_,_⟩:=hs;obtain ⟨L,hL⟩:∃ L,rs.length=L:=⟨_,rfl⟩;rw [hL] at c0 hlc hi;have HC:=Lib.hid (show i<L->w.cell? ⟨g,i,none⟩=some (.int .i32 r0) from fun h=>by
  rw [hcells i (by rw [hL];exact h),←hr0];unfold nextL;rw [List.getD_eq_getElem?_getD,List.getElem?_eq_getElem (by rw [hL];exact h)];rfl)
 clear hdg hr0 hcells hL;by_cases h1:n<9
 ·have g1:decide (n<9)=true:=decide_eq_true h1;have g1i:decide ((n:Int)<9)=true:=by simp;omega
  cases dg
  ·go_enter Tryz.func238,Tryz.ntmps238
   go_wp2_with fail
   refine wp_region_takes (fun W':World=>True) [0,1,2,3] 17 (by intro _ _ d _ _ h;cases d<;>exact h) (by kernel_rfl) (by kernel_rfl) (show True from trivial) ?_;(iterate 4 (first | (refine takes_yes (v:=?_) rfl (by rfl) ?_ ?_;rotate_left;(focus ((intro w' hS';(try dsimp only at hS');go_simp;try (with_reducible rfl));done));(try simp only [Act.put,List.setIfInBounds_toArray,List.set_cons_zero,List.set_cons_succ])) | (refine takes_no rfl (by rfl) ?_;(try simp only [Act.put,List.setIfInBounds_toArray,List.set_cons_zero,List.set_cons_succ]))))
   refine takes_nil ?_;refine wpAnyH_only 4 (by kernel_rfl) rfl (fun K hK=>?_);go_simp
   refine (HD.out _).mono ?_;rintro e w' ⟨rfl,rfl⟩;refine hK.out _ _ trivial (fun _=>?_);clear hK K;refine wpAnyH_more [5,6,7,8,9,10,11,12,13,14,15,16,17,18,19,20] 0 rfl (by intro _ _ d _ _ h;cases d<;>exact h) (by kernel_rfl) (by kernel_rfl) (show True from trivial) ?_;(iterate 16 (first | (refine takes_yes (v:=?_) rfl (by rfl) ?_ ?_;rotate_left;(focus ((intro w' hS';(try dsimp only at hS');go_simp;try (with_reducible rfl));done));(try simp only [Act.put,List.setIfInBounds_toArray,List.set_cons_zero,List.set_cons_succ])) | (refine takes_no rfl (by rfl) ?_;(try simp only [Act.put,List.setIfInBounds_toArray,List.set_cons_zero,List.set_cons_succ]))))
   refine takes_nil ?_;refine wpAnyH_done (by kernel_rfl) ?_ _;go_wp2
   go_ret
   exact ⟨by rw [HF.out,g1];simp,(Below.refl _ _).drew⟩
  ·by_cases h0:n=0
   ·subst h0;go_enter Tryz.func238,Tryz.ntmps238
    go_wp2_with fail
    refine wp_region_takes (fun W':World=>True) [0,1,2,3] 17 (by intro _ _ d _ _ h;cases d<;>exact h) (by kernel_rfl) (by kernel_rfl) (show True from trivial) ?_;(iterate 4 (first | (refine takes_yes (v:=?_) rfl (by rfl) ?_ ?_;rotate_left;(focus ((intro w' hS';(try dsimp only at hS');go_simp;try (with_reducible rfl));done));(try simp only [Act.put,List.setIfInBounds_toArray,List.set_cons_zero,List.set_cons_succ])) | (refine takes_no rfl (by rfl) ?_;(try simp only [Act.put,List.setIfInBounds_toArray,List.set_cons_zero,List.set_cons_succ]))))
    refine takes_nil ?_;refine wpAnyH_only 4 (by kernel_rfl) rfl (fun K hK=>?_);go_simp
    refine (HD.out _).mono ?_;rintro e w' ⟨rfl,rfl⟩;refine hK.out _ _ trivial (fun _=>?_);clear hK K;refine wpAnyH_more [5,6,7,8,9,10,11,12,13,14,15,16,17,18,19,20] 0 rfl (by intro _ _ d _ _ h;cases d<;>exact h) (by kernel_rfl) (by kernel_rfl) (show True from trivial) ?_;(iterate 16 (first | (refine takes_yes (v:=?_) rfl (by rfl) ?_ ?_;rotate_left;(focus ((intro w' hS';(try dsimp only at hS');go_simp;try (with_reducible rfl));done));(try simp only [Act.put,List.setIfInBounds_toArray,List.set_cons_zero,List.set_cons_succ])) | (refine takes_no rfl (by rfl) ?_;(try simp only [Act.put,List.setIfInBounds_toArray,List.set_cons_zero,List.set_cons_succ]))))
    refine takes_nil ?_;refine wpAnyH_done (by kernel_rfl) ?_ _;go_wp2
    go_ret
    exact ⟨by rw [HF.out,g1];simp,(Below.refl _ _).drew⟩
   ·have g2:decide (n=0)=false:=decide_eq_false h0;have g3:(n==0)=false:=by simpa using h0
    have g3i:((n:Int)==0)=false:=by simp;omega
    have hi2:=hi.resolve_left h0;have hiL:i<L:=by omega
    have hcr:=HC.out hiL;have hS0:w.drew.cell? ⟨bt,0,none⟩=some (.pointer (some ⟨p,0,none⟩))/\w.drew.cell? ⟨bf,0,none⟩=some (.int .i64 i)/\w.drew.cell? ⟨p,0,none⟩=some (.slice (some ⟨g,0,none⟩) L cap)/\w.drew.cell? ⟨g,i,none⟩=some (.int .i32 r0):=⟨ht,hf,c0,hcr⟩;go_enter Tryz.func238,Tryz.ntmps238
    go_wp2_with fail
    refine wp_region_takes (fun W':World=>W'.cell? ⟨bt,0,none⟩=some (.pointer (some ⟨p,0,none⟩))/\W'.cell? ⟨bf,0,none⟩=some (.int .i64 i)/\W'.cell? ⟨p,0,none⟩=some (.slice (some ⟨g,0,none⟩) L cap)/\W'.cell? ⟨g,i,none⟩=some (.int .i32 r0)) [0,1,2,3] 17 (by intro _ _ d _ _ h;cases d<;>exact h) (by kernel_rfl) (by kernel_rfl) hS0 ?_;(iterate 4 (first | (refine takes_yes (v:=?_) rfl (by rfl) ?_ ?_;rotate_left;(focus ((intro w' hS';(try dsimp only at hS');go_simp;try (with_reducible rfl));done));(try simp only [Act.put,List.setIfInBounds_toArray,List.set_cons_zero,List.set_cons_succ])) | (refine takes_no rfl (by rfl) ?_;(try simp only [Act.put,List.setIfInBounds_toArray,List.set_cons_zero,List.set_cons_succ]))))
    refine takes_nil ?_;refine wpAnyH_only 4 (by kernel_rfl) rfl (fun K hK=>?_);go_simp
    refine (HD.out _).mono ?_;rintro e w' ⟨rfl,rfl⟩;refine hK.out _ _ hS0 (fun _=>?_);clear hK K;refine wpAnyH_more [5,6,7,8,9,10,11,12,13,14,15,16,17,18,19,20] 0 rfl (by intro _ _ d _ _ h;cases d<;>exact h) (by kernel_rfl) (by kernel_rfl) hS0 ?_;(iterate 16 (first | (refine takes_yes (v:=?_) rfl (by rfl) ?_ ?_;rotate_left;(focus ((intro w' hS';(try dsimp only at hS');go_simp;try (with_reducible rfl));done));(try simp only [Act.put,List.setIfInBounds_toArray,List.set_cons_zero,List.set_cons_succ])) | (refine takes_no rfl (by rfl) ?_;(try simp only [Act.put,List.setIfInBounds_toArray,List.set_cons_zero,List.set_cons_succ]))))
    refine takes_nil ?_;refine wpAnyH_done (by kernel_rfl) ?_ _;go_wp2
    go_ret
    exact ⟨by rw [HF.out,g1,g2];simp,(Below.refl _ _).drew⟩
 ·have g1:decide (n<9)=false:=decide_eq_false h1;have g1i:decide ((n:Int)<9)=false:=by simp;omega
  go_enter Tryz.func238,Tryz.ntmps238
  go_wp2_with fail
  refine wp_region_takes (fun W':World=>True) [0,1,2,3] 17 (by intro _ _ d _ _ h;cases d<;>exact h) (by kernel_rfl) (by kernel_rfl) (show True from trivial) ?_;(iterate 4 (first | (refine takes_yes (v:=?_) rfl (by rfl) ?_ ?_;rotate_left;(focus ((intro w' hS';(try dsimp only at hS');go_simp;try (with_reducible rfl));done));(try simp only [Act.put,List.setIfInBounds_toArray,List.set_cons_zero,List.set_cons_succ])) | (refine takes_no rfl (by rfl) ?_;(try simp only [Act.put,List.setIfInBounds_toArray,List.set_cons_zero,List.set_cons_succ]))))
  refine takes_nil ?_;refine wpAnyH_only 4 (by kernel_rfl) rfl (fun K hK=>?_);rw [if_neg (by exact Bool.false_ne_true)];refine hK.out _ _ trivial (fun _=>?_);clear hK K;refine wpAnyH_more [5,6,7,8,9,10,11,12,13,14,15,16,17,18,19,20] 0 rfl (by intro _ _ d _ _ h;cases d<;>exact h) (by kernel_rfl) (by kernel_rfl) (show True from trivial) ?_;(iterate 16 (first | (refine takes_yes (v:=?_) rfl (by rfl) ?_ ?_;rotate_left;(focus ((intro w' hS';(try dsimp only at hS');go_simp;try (with_reducible rfl));done));(try simp only [Act.put,List.setIfInBounds_toArray,List.set_cons_zero,List.set_cons_succ])) | (refine takes_no rfl (by rfl) ?_;(try simp only [Act.put,List.setIfInBounds_toArray,List.set_cons_zero,List.set_cons_succ]))))
  refine takes_nil ?_;refine wpAnyH_done (by kernel_rfl) ?_ _;go_wp2
  go_ret
  exact ⟨by rw [HF.out,g1];simp,(Below.refl _ _).drew⟩
def wholeN (rs:List Int) (i:Nat):Nat:=runN (wholeF (nextL rs i)) rs i
set_option maxHeartbeats 2000000 in
theorem syn_whole (p:Nat) (rs:List Int) (i d:Nat) (w:World) (h:SynAt p rs i d w) :
  Calls Tryz.prog 203 #[.pointer (some ⟨p,0,none⟩)] w (RunQ p rs i d (wholeN rs i) w):=by
 have HH:=Lib.hid h;have hlt:=h.lt;have h5:=h.at_;obtain ⟨n,hn⟩:∃ n,wholeN rs i=n:=⟨_,rfl⟩;rw [hn];have HN:=Lib.hid hn;clear h hn;go_enter Tryz.func203,Tryz.ntmps203
 go_wp2_with fail
 refine calls_gen ?_;intro W hW;have hb:Below w.heap.size w W:=by rw [hW];exact ((Below.refl _ _).alloc (Nat.le_refl _) _).alloc (by simp) _
 have ht:W.cell? ⟨w.heap.size,0,none⟩=some (.pointer (some ⟨p,0,none⟩)):=by rw [hW];go_simp
 have hf:W.cell? ⟨w.heap.size+1,0,none⟩=some (.int .i64 i):=by rw [hW];go_simp
 clear hW h5;have hfit:FitsR p rs i d W (.func (.func 238) #[] #[.pointer (some ⟨w.heap.size,0,none⟩),.pointer (some ⟨w.heap.size+1,0,none⟩)]) (wholeF (nextL rs i)) :=
  ⟨_,_,rfl,fun args w=>by rfl,fun W' hbut n hi hn hs=>fits_whole p w.heap.size (w.heap.size+1) rs i n d W' hs hn hi (hbut.cell ht (by show w.heap.size≠p;omega)) (hbut.cell hf (by show w.heap.size+1≠p;omega)) (nextL rs (i+n))⟩
 refine (syn_run p rs i d W _ (wholeF (nextL rs i)) (HH.out.below hb) hfit (fun n=>by unfold wholeF;simp [digitL])).mono ?_;rintro e w1 ⟨hq,hb1⟩;rw [show runN (wholeF (nextL rs i)) rs i=n from HN.out] at hq;have hb01:=(But.of (p:=p) hb).trans hb1;by_cases h0:n=0
 ·rw [if_pos h0] at hq;have HQ:=Lib.hid hq;obtain ⟨b,rfl,_,_⟩:=hq;have H0:=Lib.hid h0;clear h0;go_wp2
  exact ⟨rfl,by rw [if_pos H0.out];exact HQ.out,hb01⟩
 ·rw [if_neg h0] at hq;obtain ⟨rfl,hs⟩:=hq;have H0:=Lib.hid h0;clear h0;go_wp2
  go_ret
  exact ⟨by rw [if_neg H0.out];exact ⟨rfl,hs⟩,hb01⟩
end Go.Proofs.YthpldolmpinnhaaGreatDoor
