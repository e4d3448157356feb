import Derived.Test.YthpldolmpinnhaaGreatDoorJ6
import Derived.IntWalk
import Derived.StillTailTactics
namespace Go.Proofs.YthpldolmpinnhaaGreatDoor
open Go Go.RowKit
set_option maxRecDepth 10000
structure SynAt (p:Nat) (rs:List Int) (i d:Nat) (w:World):Prop where
 row:∃ g cap,w.cell? ⟨p,0,none⟩=some (.slice (some ⟨g,0,none⟩) rs.length cap)/\rs.length<=cap/\cap<=maxLen/\g<p/\∀ j (h:j<rs.length),w.cell? ⟨g,j,none⟩=some (.int .i32 rs[j])
 at_:w.cell? ⟨p,1,none⟩=some (.int .i64 i)
 deep:w.cell? ⟨p,2,none⟩=some (.int .i64 d)
 z1:w.frozen? ⟨p,1,none⟩=false
 z2:w.frozen? ⟨p,2,none⟩=false
 len:rs.length<=1000000
 here:i<=rs.length+1
 low:d<=100
 pos:∀ r∈rs,0<=r
theorem SynAt.lt {p:Nat} {rs:List Int} {i d:Nat} {w:World} (h:SynAt p rs i d w):p<w.heap.size:=World.block_lt_of_cell? w _ h.at_
theorem SynAt.below {p:Nat} {rs:List Int} {i d:Nat} {w w':World} (h:SynAt p rs i d w) (hb:Below w.heap.size w w'):SynAt p rs i d w':=by
 have hlt:=h.lt;obtain ⟨⟨g,cap,h0,h1,h2,h3,h4⟩,h5,h6,h7,h8,h9,h10,h11,h12⟩:=h;refine ⟨⟨g,cap,(hb.cell (p:=⟨p,0,none⟩) hlt).trans h0,h1,h2,h3,fun j hj=>?_⟩,(hb.cell (p:=⟨p,1,none⟩) hlt).trans h5,(hb.cell (p:=⟨p,2,none⟩) hlt).trans h6,(hb.frozen (p:=⟨p,1,none⟩) hlt).trans h7,(hb.frozen (p:=⟨p,2,none⟩) hlt).trans h8,h9,h10,h11,h12⟩;rw [hb.cell (World.block_lt_of_cell? w _ (h4 j hj))];exact h4 j hj
theorem SynAt.move {p:Nat} {rs:List Int} {i d:Nat} {w:World} (h:SynAt p rs i d w) (j:Nat) (hj:j<=rs.length+1):SynAt p rs j d (w.setCell ⟨p,1,none⟩ (.int .i64 j)):=by
 obtain ⟨⟨g,cap,h0,h1,h2,h3,h4⟩,h5,h6,h7,h8,h9,h10,h11,h12⟩:=h;refine ⟨⟨g,cap,by rw [cellSet,if_neg (by simp)];exact h0,h1,h2,h3,fun k hk=>by rw [cellSet,if_neg (fun e=>by have:=congrArg Addr.block e;simp at this;omega)];exact h4 k hk⟩,by rw [cellSet,if_pos rfl,h5];rfl,by rw [cellSet,if_neg (by simp)];exact h6,by rw [World.frozen?_setCell];exact h7,by rw [World.frozen?_setCell];exact h8,h9,hj,h11,h12⟩
theorem SynAt.dive {p:Nat} {rs:List Int} {i d:Nat} {w:World} (h:SynAt p rs i d w) (e:Nat) (he:e<=100):SynAt p rs i e (w.setCell ⟨p,2,none⟩ (.int .i64 e)):=by
 obtain ⟨⟨g,cap,h0,h1,h2,h3,h4⟩,h5,h6,h7,h8,h9,h10,h11,h12⟩:=h;refine ⟨⟨g,cap,by rw [cellSet,if_neg (by simp)];exact h0,h1,h2,h3,fun k hk=>by rw [cellSet,if_neg (fun e=>by have:=congrArg Addr.block e;simp at this;omega)];exact h4 k hk⟩,by rw [cellSet,if_neg (by simp)];exact h5,by rw [cellSet,if_pos rfl,h6];rfl,by rw [World.frozen?_setCell];exact h7,by rw [World.frozen?_setCell];exact h8,h9,h10,he,h12⟩
theorem SynAt.grown {p:Nat} {rs:List Int} {i d:Nat} {w w':World} {row:Option Nat} (h:SynAt p rs i d w) (hg:w.grownBy w' row) (hr:∀ q,row=some q->p<q):SynAt p rs i d w':=by
 have hlt:=h.lt;have hp:some p≠row:=fun e=>by have:=hr p e.symm;omega
 obtain ⟨⟨g,cap,h0,h1,h2,h3,h4⟩,h5,h6,h7,h8,h9,h10,h11,h12⟩:=h;have hgn:some g≠row:=fun e=>by have:=hr g e.symm;omega
 have hb:=hg.block p hlt (fun e=>hp (by rw [e]));exact ⟨⟨g,cap,hg.cell h0 hp,h1,h2,h3,fun j hj=>hg.cell (h4 j hj) hgn⟩,hg.cell h5 hp,hg.cell h6 hp,(World.frozen?_of_block (a:=⟨p,1,none⟩) hb).trans h7,(World.frozen?_of_block (a:=⟨p,2,none⟩) hb).trans h8,h9,h10,h11,h12⟩
def nextL (rs:List Int) (i:Nat):Int:=rs.getD i (-1)
set_option maxHeartbeats 2000000 in
theorem syn_next (p:Nat) (rs:List Int) (i d:Nat) (w:World) (h:SynAt p rs i d w) :
  Calls Tryz.prog 112 #[.pointer (some ⟨p,0,none⟩)] w fun e w'=>e = .returned (.int .i32 (nextL rs i))/\Below w.heap.size w w':=by
 obtain ⟨⟨g,cap,h0,h1,h2,h3,h4⟩,h5,h6,h7,h8,h9,h10,h11⟩:=h;have H4:=Lib.hid h4;obtain ⟨n,hn⟩:∃ n,rs.length=n:=⟨_,rfl⟩;rw [hn] at h0 h9 h10;have HN:=Lib.hid hn;have hS0:w.drew.cell? ⟨p,1,none⟩=some (.int .i64 i)/\w.drew.cell? ⟨p,0,none⟩=some (.slice (some ⟨g,0,none⟩) n cap):=⟨h5,h0⟩;clear h1 h4 hn h6 h7 h8 h2;by_cases hlt:i<n
 ·have hc:=H4.out i (by rw [HN.out];exact hlt);have HF:=Lib.hid (show nextL rs i=rs[i]'(by rw [HN.out];exact hlt) by unfold nextL;rw [List.getD_eq_getElem?_getD,List.getElem?_eq_getElem (by rw [HN.out];exact hlt)];rfl);obtain ⟨r,hr⟩:∃ r,rs[i]'(by rw [HN.out];exact hlt)=r:=⟨_,rfl⟩;rw [hr] at hc;have HR:=Lib.hid hr;have hlt2:decide ((i:Int)<(n:Int))=true:=by simp;omega
  have hS1:w.drew.drew.cell? ⟨p,1,none⟩=some (.int .i64 i)/\w.drew.drew.cell? ⟨p,0,none⟩=some (.slice (some ⟨g,0,none⟩) n cap)/\w.drew.drew.cell? ⟨g,i,none⟩=some (.int .i32 r):=⟨h5,h0,hc⟩;clear hr;go_enter Tryz.func112,Tryz.ntmps112
  go_wp2_with fail
  refine wp_region_takes (fun W':World=>W'.cell? ⟨p,1,none⟩=some (.int .i64 i)/\W'.cell? ⟨p,0,none⟩=some (.slice (some ⟨g,0,none⟩) n cap)) [0,1,2,3,4,5,6,7,8,9] 0 (by intro _ _ d _ _ h;cases d<;>exact h) (by kernel_rfl) (by kernel_rfl) hS0 ?_;(iterate 10 (first | (refine takes_yes (v:=?_) rfl (by rfl) ?_ ?_;rotate_left;(focus ((intro w' hS';(try dsimp only at hS');go_simp;try (with_reducible rfl));done));(try simp only [Act.put,List.setIfInBounds_toArray,List.set_cons_zero,List.set_cons_succ])) | (refine takes_no rfl (by rfl) ?_;(try simp only [Act.put,List.setIfInBounds_toArray,List.set_cons_zero,List.set_cons_succ]))))
  refine takes_nil ?_;refine wpAnyH_done (by kernel_rfl) ?_ _;go_wp2_with fail
  refine wp_region_takes (fun W':World=>W'.cell? ⟨p,1,none⟩=some (.int .i64 i)/\W'.cell? ⟨p,0,none⟩=some (.slice (some ⟨g,0,none⟩) n cap)/\W'.cell? ⟨g,i,none⟩=some (.int .i32 r)) [0,1,2,3,4,5,6,7,8,9,10] 0 (by intro _ _ d _ _ h;cases d<;>exact h) (by kernel_rfl) (by kernel_rfl) hS1 ?_;(iterate 11 (first | (refine takes_yes (v:=?_) rfl (by rfl) ?_ ?_;rotate_left;(focus ((intro w' hS';(try dsimp only at hS');go_simp;try (with_reducible rfl));done));(try simp only [Act.put,List.setIfInBounds_toArray,List.set_cons_zero,List.set_cons_succ])) | (refine takes_no rfl (by rfl) ?_;(try simp only [Act.put,List.setIfInBounds_toArray,List.set_cons_zero,List.set_cons_succ]))))
  refine takes_nil ?_;refine wpAnyH_done (by kernel_rfl) ?_ _;go_wp2
  go_ret
  exact ⟨by rw [HF.out,HR.out];rfl,(Below.refl _ _).drew.drew⟩
 ·have HF:=Lib.hid (show nextL rs i = -1 by unfold nextL;rw [List.getD_eq_getElem?_getD,List.getElem?_eq_none (by have:=HN.out;omega)];rfl);have hlt2:decide ((i:Int)<(n:Int))=false:=by simp;omega
  go_enter Tryz.func112,Tryz.ntmps112
  go_wp2_with fail
  refine wp_region_takes (fun W':World=>W'.cell? ⟨p,1,none⟩=some (.int .i64 i)/\W'.cell? ⟨p,0,none⟩=some (.slice (some ⟨g,0,none⟩) n cap)) [0,1,2,3,4,5,6,7,8,9] 0 (by intro _ _ d _ _ h;cases d<;>exact h) (by kernel_rfl) (by kernel_rfl) hS0 ?_;(iterate 10 (first | (refine takes_yes (v:=?_) rfl (by rfl) ?_ ?_;rotate_left;(focus ((intro w' hS';(try dsimp only at hS');go_simp;try (with_reducible rfl));done));(try simp only [Act.put,List.setIfInBounds_toArray,List.set_cons_zero,List.set_cons_succ])) | (refine takes_no rfl (by rfl) ?_;(try simp only [Act.put,List.setIfInBounds_toArray,List.set_cons_zero,List.set_cons_succ]))))
  refine takes_nil ?_;refine wpAnyH_done (by kernel_rfl) ?_ _;go_wp2
  go_ret
  exact ⟨by rw [HF.out];rfl,(Below.refl _ _).drew⟩
def StepQ (p:Nat) (rs:List Int) (d:Nat) (r:Value) (j:Nat) (w:World) (e:Ending) (w':World):Prop:=e = .returned r/\SynAt p rs j d w'/\But p w w'
theorem But.grown {p:Nat} {a w w':World} {row:Option Nat} (h:But p a w) (hg:w.grownBy w' row) (hr:∀ q,row=some q->a.heap.size<=q):But p a w' :=
 ⟨hg.os.trans h.os,hg.tape.trans h.tape,hg.output.trans h.output,Nat.le_trans h.size hg.size,fun k hk hkp=>(hg.block k (Nat.lt_of_lt_of_le hk h.size) (fun e=>by have:=hr k (by rw [e]);omega)).trans (h.block k hk hkp)⟩
theorem But.setIn {p:Nat} {w w':World} (h:But p w w') (j:Nat) (u:Value):But p w (w'.setCell ⟨p,j,none⟩ u):=h.trans (But.set p w' j u)
set_option maxHeartbeats 2000000 in
theorem syn_take (p:Nat) (rs:List Int) (i d:Nat) (r:Int) (w:World) (h:SynAt p rs i d w) (hr:r≠-1) :
  Calls Tryz.prog 200 #[.pointer (some ⟨p,0,none⟩),.int .i32 r] w (StepQ p rs d (.bool (nextL rs i==r)) (if nextL rs i=r then i+1 else i) w):=by
 have HN:=Lib.hid (syn_next p rs i d w h);have HH:=Lib.hid h;obtain ⟨q,hq⟩:∃ q,nextL rs i=q:=⟨_,rfl⟩;have HQ:=Lib.hid hq;rw [hq] at HN ⊢;by_cases hqr:q=r
 ·subst hqr;have hi:i+1<=rs.length+1:=by
   have:i<rs.length:=by
    apply Classical.byContradiction;intro hc;apply hr;rw [←hq];unfold nextL;rw [List.getD_eq_getElem?_getD,List.getElem?_eq_none (by omega)];rfl
   omega
  clear hq h;go_enter Tryz.func200,Tryz.ntmps200
  go_wp2_with fail
  refine HN.out.mono ?_;rintro e w1 ⟨rfl,hb⟩;have hs:=HH.out.below hb;have HS:=Lib.hid hs;have h5:=hs.at_;have h7:=hs.z1;have hlen:=hs.len;clear hs HN;go_wp2
  go_ret
  refine ⟨by simp,?_,(But.of hb).setIn 1 _⟩;have:=HS.out.move (i+1) hi;simpa using this
 ·have hqr2:(q !=r)=true:=by simpa using hqr
  have HE:=Lib.hid (show (q==r)=false by simpa using hqr);have HI:=Lib.hid (show (if q=r then i+1 else i)=i from if_neg hqr);clear hq h;go_enter Tryz.func200,Tryz.ntmps200
  go_wp2_with fail
  refine HN.out.mono ?_;rintro e w1 ⟨rfl,hb⟩;have HS:=Lib.hid (HH.out.below hb);clear HN;go_wp2
  go_ret
  exact ⟨by rw [HE.out];rfl,HS.out,But.of hb⟩
def DeepC (p:Nat) (w:World):Prop:=∃ x,w.cell? ⟨p,2,none⟩=some (.int .i64 x)/\w.frozen? ⟨p,2,none⟩=false
theorem SynAt.deepc {p:Nat} {rs:List Int} {i d:Nat} {w:World} (h:SynAt p rs i d w):DeepC p w:=⟨_,h.deep,h.z2⟩
theorem DeepC.below {p:Nat} {w w':World} (h:DeepC p w) (hb:Below w.heap.size w w'):DeepC p w':=by
 obtain ⟨x,h1,h2⟩:=h;have hlt:p<w.heap.size:=World.block_lt_of_cell? w _ h1;exact ⟨x,(hb.cell (p:=⟨p,2,none⟩) hlt).trans h1,(hb.frozen (p:=⟨p,2,none⟩) hlt).trans h2⟩
def FaultE (p:Nat) (n:Nat) (at_:Nat) (e:Ending) (w':World):Prop:=∃ b,e = .panicked [{ v := .iface 101 (.pointer (some ⟨b,0,none⟩)),recovered:=false }]/\w'.cell? ⟨b,0,none⟩=some (.int .i64 n)/\w'.cell? ⟨b,1,none⟩=some (.int .i64 at_)/\DeepC p w'/\b≠p/\b<w'.heap.size
theorem syn_fail (p:Nat) (n at_:Nat) (w:World) (hd:DeepC p w) :
  Calls Tryz.prog 113 #[.pointer (some ⟨p,0,none⟩),.int .i64 n,.int .i64 at_] w fun e w'=>FaultE p n at_ e w'/\Below w.heap.size w w':=by
 go_enter Tryz.func113,Tryz.ntmps113
 have HD:=Lib.hid hd;clear hd;go_wp2
 have hb:=fun o=>(Below.refl w.heap.size w).alloc (Nat.le_refl _) o
 have hlt:p<w.heap.size:=by
  obtain ⟨x,h1,_⟩:=HD.out;exact World.block_lt_of_cell? w _ h1
 exact ⟨rfl,⟨_,rfl,cell_made _ _ _ _ _,cell_made _ _ _ _ _,HD.out.below (hb _),by omega,by simp⟩,hb _⟩
def specialL (r:Int) (num:Bool):Bool:=r==123 || (r==125 || (r==35 && num))
def letterL (r:Int):Bool:=(decide (97<=r) && decide (r<=122)) || ((decide (65<=r) && decide (r<=90)) || r==95)
def digitL (r:Int):Bool:=decide (48<=r) && decide (r<=57)
theorem syn_special (r:Int) (num:Bool) (w:World):Calls Tryz.prog 188 #[.int .i32 r,.bool num] w fun e w'=>e = .returned (.bool (specialL r num))/\w=w':=by
 go_enter Tryz.func188,Tryz.ntmps188
 go_wp2
 all_goals (go_ret;refine ⟨ret_val ?_,rfl⟩;show Value.bool _=Value.bool _;congr 1;first | (simp [specialL, *];done) | (rw [Bool.eq_iff_iff];simp [specialL, *];done) | (rw [Bool.eq_iff_iff];simp [specialL];omega) | (rw [Bool.eq_iff_iff];simp [specialL,Bool.or_assoc, *];done))
theorem syn_letter (r:Int) (w:World):Calls Tryz.prog 124 #[.int .i32 r] w fun e w'=>e = .returned (.bool (letterL r))/\w=w':=by
 go_enter Tryz.func124,Tryz.ntmps124
 go_wp2
 all_goals (go_ret;refine ⟨ret_val ?_,rfl⟩;show Value.bool _=Value.bool _;congr 1;first | (simp [letterL, *];done) | (rw [Bool.eq_iff_iff];simp [letterL, *];done) | (rw [Bool.eq_iff_iff];simp [letterL];omega) | (rw [Bool.eq_iff_iff];simp [letterL,Bool.or_assoc, *];done))
theorem syn_digit (r:Int) (w:World):Calls Tryz.prog 125 #[.int .i32 r] w fun e w'=>e = .returned (.bool (digitL r))/\w=w':=by
 go_enter Tryz.func125,Tryz.ntmps125
 go_wp2
 all_goals (go_ret;refine ⟨ret_val ?_,rfl⟩;show Value.bool _=Value.bool _;congr 1;first | (simp [digitL, *];done) | (rw [Bool.eq_iff_iff];simp [digitL, *];done) | (rw [Bool.eq_iff_iff];simp [digitL];omega) | (rw [Bool.eq_iff_iff];simp [digitL,Bool.or_assoc, *];done))
def WantQ (p:Nat) (rs:List Int) (i d:Nat) (r:Int) (w:World) (e:Ending) (w':World):Prop :=
 (if nextL rs i=r then e = .returned (.tuple #[])/\SynAt p rs (i+1) d w' else FaultE p 3 i e w')/\But p w w'
set_option maxHeartbeats 2000000 in
theorem syn_want (p:Nat) (rs:List Int) (i d:Nat) (r:Int) (w:World) (h:SynAt p rs i d w) (hr:r≠-1) :
  Calls Tryz.prog 197 #[.pointer (some ⟨p,0,none⟩),.int .i32 r] w (WantQ p rs i d r w):=by
 have HT:=Lib.hid (syn_take p rs i d r w h hr);by_cases hq:nextL rs i=r
 ·have hq2:(nextL rs i==r)=true:=by simpa using hq
  rw [hq2,if_pos hq] at HT;have HQ:=Lib.hid hq;clear h hq hq2;go_enter Tryz.func197,Tryz.ntmps197
  go_wp2_with fail
  refine HT.out.mono ?_;rintro e w1 ⟨rfl,hs,hb⟩;have HS:=Lib.hid hs;clear hs HT;go_wp2
  refine bodyPost_ret (v := .tuple #[]) ?_ rfl ⟨by rw [if_pos HQ.out];exact ⟨rfl,HS.out⟩,hb⟩;simp [results,Tryz.results197,go_sem]
 ·have hq2:(nextL rs i==r)=false:=by simpa using hq
  rw [hq2,if_neg hq] at HT;have HQ:=Lib.hid hq;clear h hq hq2;go_enter Tryz.func197,Tryz.ntmps197
  go_wp2_with fail
  refine HT.out.mono ?_;rintro e w1 ⟨rfl,hs,hb⟩;have h5:=hs.at_;have HDC:=Lib.hid hs.deepc;clear hs HT;go_wp2_with fail
  refine (syn_fail p 3 i w1 HDC.out).mono ?_;rintro e w2 ⟨hf,hb2⟩;have HF:=Lib.hid hf;obtain ⟨b,rfl,_,_⟩:=hf;clear h5;go_wp2
  exact ⟨rfl,by rw [if_neg HQ.out];exact HF.out,hb.below hb2⟩
end Go.Proofs.YthpldolmpinnhaaGreatDoor
namespace Go.Proofs.YthpldolmpinnhaaGreatDoor
open Go Go.RowKit
def enc (r:Int):List UInt8:=(Utf8.encode r).data.toList
theorem enc_length (r:Int):(enc r).length<=4/\(Utf8.encode r).size<=4:=by
 have h:(Utf8.encode r).size<=4:=by
  unfold Utf8.encode;simp only [];generalize (if Utf8.valid r=true then r.toNat else Utf8.runeError)=x;split
  ·exact (by decide:1<=4)
  split
  ·exact (by decide:2<=4)
  split
  ·exact (by decide:3<=4)
  ·exact (by decide:4<=4)
 exact ⟨by simpa [enc] using h,h⟩
end Go.Proofs.YthpldolmpinnhaaGreatDoor
