import Derived.Test.YthpldolmpinnhaaGreatDoorJ8
import Derived.Test.YthpldolmpinnhaaGreatDoorShelf
namespace Go.Proofs.YthpldolmpinnhaaGreatDoor
open Go Go.RowKit
set_option maxRecDepth 10000
set_option maxHeartbeats 4000000 in
theorem equal_rune (g1 o1 c1 g2 c2:Nat) (l1 l2:List Int) (w:World) (hl:l1.length<=1000000) (hl2:l2.length<=1000000) (h1:∀ j (h:j<l1.length),w.cell? ⟨g1,o1+j,none⟩=some (.int .i32 l1[j])) (h2:∀ j (h:j<l2.length),w.cell? ⟨g2,j,none⟩=some (.int .i32 l2[j])) :
  Calls Tryz.prog 237 #[.slice (some ⟨g1,o1,none⟩) l1.length c1,.slice (some ⟨g2,0,none⟩) l2.length c2] w fun e w'=>e = .returned (.bool (decide (l1=l2)))/\Below w.heap.size w w':=by
 have H1:=Lib.hid h1;have H2:=Lib.hid h2;clear h1 h2;obtain ⟨n,hn⟩:∃ n,l1.length=n:=⟨_,rfl⟩;obtain ⟨m,hm⟩:∃ m,l2.length=m:=⟨_,rfl⟩;have HN:=Lib.hid hn;have HM:=Lib.hid hm;rw [hn] at hl ⊢;rw [hm] at hl2 ⊢;obtain ⟨R,hR⟩:∃ b,decide (l1=l2)=b:=⟨_,rfl⟩;rw [hR];have HR:=Lib.hid hR;clear hn hm hR;by_cases hq:n=m
 ·subst hq;go_enter Tryz.func237,Tryz.ntmps237
  go_wp2
  go_loopw [13] (fun i wr=>∃ k:Nat,k<=n/\i = .int .i64 k/\l1.take k=l2.take k/\Below w.heap.size w wr) (fun i _=>n - (intOf i).toNat)
  case atStart=>exact ⟨0,Nat.zero_le _,rfl,rfl,Below.refl _ _⟩
  case round =>
   obtain ⟨k,hk,rfl,htk,hb⟩:=hrel;have HT:=Lib.hid htk;clear htk;by_cases hlt:k<n
   ·have hc1:=H1.out k (by rw [HN.out];exact hlt);have hc2:=H2.out k (by rw [HM.out];exact hlt);obtain ⟨x,hx⟩:∃ x,l1[k]'(by rw [HN.out];exact hlt)=x:=⟨_,rfl⟩;obtain ⟨y,hy⟩:∃ y,l2[k]'(by rw [HM.out];exact hlt)=y:=⟨_,rfl⟩;rw [hx] at hc1;rw [hy] at hc2;have HX:=Lib.hid hx;have HY:=Lib.hid hy;have d1:=(hb.cell (World.block_lt_of_cell? _ _ hc1)).trans hc1;have d2:=(hb.cell (World.block_lt_of_cell? _ _ hc2)).trans hc2;have hS0:wr.drew.cell? ⟨g1,o1+k,none⟩=some (.int .i32 x)/\wr.drew.cell? ⟨g2,k,none⟩=some (.int .i32 y):=⟨d1,d2⟩;clear hx hy hc1 hc2 d1 d2;by_cases hxy:x=y
    ·have hxy2:(x !=y)=false:=by simpa using hxy
     have HF:=Lib.hid (show l1.take (k+1)=l2.take (k+1) by
      rw [List.take_succ_eq_append_getElem (by rw [HN.out];exact hlt),List.take_succ_eq_append_getElem (by rw [HM.out];exact hlt),HT.out,HX.out,HY.out,hxy])
     go_wp2_with fail
     refine wp_region_takes (fun W':World=>W'.cell? ⟨g1,o1+k,none⟩=some (.int .i32 x)/\W'.cell? ⟨g2,k,none⟩=some (.int .i32 y)) [0,1,2,3,4,5,6,7,8] 0 (by intro _ _ d _ _ h;cases d<;>exact h) (by kernel_rfl) (by kernel_rfl) hS0 ?_;(iterate 9 (first | (refine takes_yes (v:=?_) rfl (by rfl) ?_ ?_;rotate_left;(focus ((intro w' hS';(try dsimp only at hS');go_simp;try (with_reducible rfl));done));(try simp only [Act.put,List.setIfInBounds_toArray,List.set_cons_zero,List.set_cons_succ])) | (refine takes_no rfl (by rfl) ?_;(try simp only [Act.put,List.setIfInBounds_toArray,List.set_cons_zero,List.set_cons_succ]))))
     refine takes_nil ?_;refine wpAnyH_done (by kernel_rfl) ?_ _;go_wp2
     go_roundw
     case rel=>exact ⟨k+1,by omega,by go_num,HF.out,hb.drew⟩
     case measure=>simp [intOf];omega
    ·have hxy2:(x !=y)=true:=by simpa using hxy
     have HF:=Lib.hid (show R=false by
      rw [←HR.out,decide_eq_false_iff_not];intro e;subst e;exact hxy (HX.out.symm.trans HY.out))
     go_wp2_with fail
     refine wp_region_takes (fun W':World=>W'.cell? ⟨g1,o1+k,none⟩=some (.int .i32 x)/\W'.cell? ⟨g2,k,none⟩=some (.int .i32 y)) [0,1,2,3,4,5,6,7,8] 0 (by intro _ _ d _ _ h;cases d<;>exact h) (by kernel_rfl) (by kernel_rfl) hS0 ?_;(iterate 9 (first | (refine takes_yes (v:=?_) rfl (by rfl) ?_ ?_;rotate_left;(focus ((intro w' hS';(try dsimp only at hS');go_simp;try (with_reducible rfl));done));(try simp only [Act.put,List.setIfInBounds_toArray,List.set_cons_zero,List.set_cons_succ])) | (refine takes_no rfl (by rfl) ?_;(try simp only [Act.put,List.setIfInBounds_toArray,List.set_cons_zero,List.set_cons_succ]))))
     refine takes_nil ?_;refine wpAnyH_done (by kernel_rfl) ?_ _;go_wp2
     go_ret
     exact ⟨by rw [HF.out];rfl,hb.drew⟩
   ·obtain rfl:k=n:=by omega
    have HF:=Lib.hid (show R=true by
     rw [←HR.out,decide_eq_true_eq];have h:=HT.out;rw [List.take_of_length_le (by rw [HN.out];exact Nat.le_refl _),List.take_of_length_le (by rw [HM.out];exact Nat.le_refl _)] at h;exact h)
    go_wp2
    go_ret
    exact ⟨by rw [HF.out];rfl,hb⟩
 ·have HF:=Lib.hid (show R=false by
   rw [←HR.out,decide_eq_false_iff_not];intro e;subst e;exact hq (HN.out.symm.trans HM.out))
  have hq2:((n:Int) !=(m:Int))=true:=by simp;omega
  go_enter Tryz.func237,Tryz.ntmps237
  go_wp2
  go_ret
  exact ⟨by rw [HF.out];rfl,Below.refl _ _⟩
def offW:List Int:=[111,102,102,115,101,116,58]
def offB (rs:List Int) (i:Nat):Bool:=decide ((rs.drop i).take 7=offW)
theorem runes_off:Conv.runesFrom (⟨#[111,102,102,115,101,116,58]⟩:ByteArray) 7 0 #[]=(offW.map (Value.int .i32)).toArray:=by kernel_rfl
set_option maxHeartbeats 4000000 in
theorem syn_follows (p:Nat) (rs:List Int) (i d:Nat) (w:World) (h:SynAt p rs i d w) :
  Calls Tryz.prog 202 #[.pointer (some ⟨p,0,none⟩),.string ⟨#[111,102,102,115,101,116,58]⟩] w (StepQ p rs d (.bool (offB rs i)) (if offB rs i=true then i+7 else i) w):=by
 have HH:=Lib.hid h;have hcv:=fun W=>run_runes_of_string (P:=Tryz.prog) W 9 147 21 ⟨#[111,102,102,115,101,116,58]⟩ Tryz.underlying9 Tryz.underlying147 Tryz.underlying21 (by rw [show (⟨#[111,102,102,115,101,116,58]⟩:ByteArray).size=7 from rfl,runes_off];decide)
 have F:∃ cp W,(convert 9 147 (.string ⟨#[111,102,102,115,101,116,58]⟩)).run Tryz.prog w = .ok (.slice (some ⟨w.heap.size,0,none⟩) 7 cp) W/\Below w.heap.size w W/\∀ j (h:j<offW.length),W.cell? ⟨w.heap.size,j,none⟩=some (.int .i32 offW[j]):=by
  refine ⟨_,_,hcv w,(Below.refl _ _).drew.alloc (Nat.le_refl _) _,fun j hj=>?_⟩;rw [show w.heap.size=w.drew.heap.size from rfl,cell_made];rw [show (⟨#[111,102,102,115,101,116,58]⟩:ByteArray).size=7 from rfl,runes_off];rw [Array.getElem?_append_left (by simpa using hj)];simp
 obtain ⟨cp,W,hrun,hbW,hcells⟩:=F;obtain ⟨⟨g,cap,c0,hlc,hcm,hgp,hrc⟩,c1,_,_,_,hlen,hhere,_⟩:=h;have hplt:=World.block_lt_of_cell? w _ c1;have HRC:=Lib.hid (fun j (hj:j<rs.length)=>(hbW.cell (World.block_lt_of_cell? _ _ (hrc j hj))).trans (hrc j hj));have HCL:=Lib.hid hcells;obtain ⟨L,hL⟩:∃ L,rs.length=L:=⟨_,rfl⟩;rw [hL] at c0 hlc hlen hhere;have HL:=Lib.hid hL;have hS0:W.drew.cell? ⟨p,1,none⟩=some (.int .i64 i)/\W.drew.cell? ⟨p,0,none⟩=some (.slice (some ⟨g,0,none⟩) L cap):=⟨(hbW.cell (p:=⟨p,1,none⟩) hplt).trans c1,(hbW.cell (p:=⟨p,0,none⟩) hplt).trans c0⟩;obtain ⟨B,hB⟩:∃ B,offB rs i=B:=⟨_,rfl⟩;rw [hB];have HB:=Lib.hid hB;obtain ⟨J,hJ⟩:∃ J,(if B=true then i+7 else i)=J:=⟨_,rfl⟩;rw [hJ];have HJ:=Lib.hid hJ;clear hJ;obtain ⟨N,hN⟩:∃ N,w.heap.size=N:=⟨_,rfl⟩;rw [hN] at hrun HCL;clear hcv hcells hrc hL hB;have hw1:IntKind.i64.wrap ((L:Int) - (i:Int))=(L:Int) - (i:Int):=by simp [IntKind.wrap,IntKind.signed,IntKind.bits];omega
 by_cases hsh:L<i+7
 ·have g1:decide ((L:Int) - (i:Int)<7)=true:=by simp;omega
  have HF:=Lib.hid (show B=false by
   rw [←HB.out];unfold offB;rw [decide_eq_false_iff_not];intro e;have e2:=congrArg List.length e;rw [List.length_take,List.length_drop,HL.out] at e2;have e3:offW.length=7:=rfl;omega)
  go_enter Tryz.func202,Tryz.ntmps202
  go_wp2_with fail
  refine wp_region_takes (fun W':World=>W'.cell? ⟨p,1,none⟩=some (.int .i64 i)/\W'.cell? ⟨p,0,none⟩=some (.slice (some ⟨g,0,none⟩) L cap)) [0,1,2,3,4,5,6,7,8,9,10,11,12,13,14,15,16,17,18,19,20,21,22,23,24,25,26,27,28,29,30] 3 (by intro _ _ d _ _ h;cases d<;>exact h) (by kernel_rfl) (by kernel_rfl) hS0 ?_;(iterate 31 (first | (refine takes_yes (v:=?_) rfl (by rfl) ?_ ?_;rotate_left;(focus ((intro w' hS';(try dsimp only at hS');go_simp;try (with_reducible rfl));done));(try simp only [Act.put,List.setIfInBounds_toArray,List.set_cons_zero,List.set_cons_succ])) | (refine takes_no rfl (by rfl) ?_;(try simp only [Act.put,List.setIfInBounds_toArray,List.set_cons_zero,List.set_cons_succ]))))
  refine takes_nil ?_;refine wpAnyH_only 31 (by kernel_rfl) rfl (fun K hK=>?_);rw [if_neg (by exact Bool.false_ne_true)];refine hK.out _ _ hS0 (fun _=>?_);clear hK K;refine wpAnyH_more [32,33] 0 rfl (by intro _ _ d _ _ h;cases d<;>exact h) (by kernel_rfl) (by kernel_rfl) hS0 ?_;(iterate 2 (first | (refine takes_yes (v:=?_) rfl (by rfl) ?_ ?_;rotate_left;(focus ((intro w' hS';(try dsimp only at hS');go_simp;try (with_reducible rfl));done));(try simp only [Act.put,List.setIfInBounds_toArray,List.set_cons_zero,List.set_cons_succ])) | (refine takes_no rfl (by rfl) ?_;(try simp only [Act.put,List.setIfInBounds_toArray,List.set_cons_zero,List.set_cons_succ]))))
  refine takes_nil ?_;refine wpAnyH_done (by kernel_rfl) ?_ _;go_wp2
  go_ret
  have hJi:J=i:=by rw [←HJ.out,HF.out];rfl
  exact ⟨by rw [HF.out];rfl,by rw [hJi];exact HH.out.below hbW.drew,But.of hbW.drew⟩
 ·have g1:decide ((L:Int) - (i:Int)<7)=false:=by simp;omega
  have g2:IntKind.i64.wrap ((i:Int)+7)=(i:Int)+7:=by simp [IntKind.wrap,IntKind.signed,IntKind.bits];omega
  have k1:i<=i+7:=by omega
  have k2:i+7<=cap:=by omega
  have k3:i<=cap:=by omega
  have k4:(i:Int)<=(i:Int)+7:=by omega
  have k5:(i:Int)+7<=(cap:Int):=by omega
  have k6:((i:Int)+7).toNat=i+7:=by omega
  have k7:(0:Int)<=(i:Int)+7:=by omega
  have k8:i+7 - i=7:=by omega
  have k9:(i:Int)+7 - (i:Int)=7:=by omega
  have k10:¬cap=i:=by omega
  have hsl:((rs.drop i).take 7).length=7:=by rw [List.length_take,List.length_drop,HL.out];omega
  have heq:=equal_rune g i (cap - i) N cp ((rs.drop i).take 7) offW W.drew (by rw [hsl];decide) (by decide) (fun j hj=>by
   have hj2:i+j<rs.length:=by rw [HL.out];rw [hsl] at hj;omega
   have hj3:j<7:=by rw [hsl] at hj;exact hj
   refine (HRC.out (i+j) hj2).trans ?_;simp [List.getElem_take,List.getElem_drop]) HCL.out
  rw [hsl,show offW.length=7 from rfl,show decide ((rs.drop i).take 7=offW)=B from HB.out] at heq;have HEQ:=Lib.hid heq;clear hsl heq;go_enter Tryz.func202,Tryz.ntmps202
  go_wp2_with fail
  refine wp_region_takes (fun W':World=>W'.cell? ⟨p,1,none⟩=some (.int .i64 i)/\W'.cell? ⟨p,0,none⟩=some (.slice (some ⟨g,0,none⟩) L cap)) [0,1,2,3,4,5,6,7,8,9,10,11,12,13,14,15,16,17,18,19,20,21,22,23,24,25,26,27,28,29,30] 3 (by intro _ _ d _ _ h;cases d<;>exact h) (by kernel_rfl) (by kernel_rfl) hS0 ?_;(iterate 31 (first | (refine takes_yes (v:=?_) rfl (by rfl) ?_ ?_;rotate_left;(focus ((intro w' hS';(try dsimp only at hS');go_simp;try (with_reducible rfl));done));(try simp only [Act.put,List.setIfInBounds_toArray,List.set_cons_zero,List.set_cons_succ])) | (refine takes_no rfl (by rfl) ?_;(try simp only [Act.put,List.setIfInBounds_toArray,List.set_cons_zero,List.set_cons_succ]))))
  refine takes_nil ?_;refine wpAnyH_only 31 (by kernel_rfl) rfl (fun K hK=>?_);go_simp
  refine HEQ.out.mono ?_;rintro e w2 ⟨rfl,hb2⟩;have hW2:W.heap.size<=w2.heap.size:=hb2.size;have hbb2:Below w.heap.size w w2:=(hbW.drew).trans (hb2.mono hbW.size);have hs2:=HH.out.below hbb2;have HS2:=Lib.hid hs2;have hS2:w2.cell? ⟨p,1,none⟩=some (.int .i64 i)/\w2.cell? ⟨p,0,none⟩=some (.slice (some ⟨g,0,none⟩) L cap):=⟨(hbb2.cell (p:=⟨p,1,none⟩) hplt).trans c1,(hbb2.cell (p:=⟨p,0,none⟩) hplt).trans c0⟩;have h7:=hs2.z1;refine hK.out _ _ hS2 (fun _=>?_);clear hK K hs2;refine wpAnyH_more [32,33] 0 rfl (by intro _ _ d _ _ h;cases d<;>exact h) (by kernel_rfl) (by kernel_rfl) hS2 ?_;(iterate 2 (first | (refine takes_yes (v:=?_) rfl (by rfl) ?_ ?_;rotate_left;(focus ((intro w' hS';(try dsimp only at hS');go_simp;try (with_reducible rfl));done));(try simp only [Act.put,List.setIfInBounds_toArray,List.set_cons_zero,List.set_cons_succ])) | (refine takes_no rfl (by rfl) ?_;(try simp only [Act.put,List.setIfInBounds_toArray,List.set_cons_zero,List.set_cons_succ]))))
  refine takes_nil ?_;refine wpAnyH_done (by kernel_rfl) ?_ _
  cases B
  ·go_wp2
   go_ret
   have hJi:J=i:=by rw [←HJ.out];rfl
   exact ⟨rfl,by rw [hJi];exact HS2.out,But.of hbb2⟩
  ·have hmv:=HS2.out.move (i+7) (by rw [HL.out];omega);have HMV:=Lib.hid hmv;clear hmv;go_wp2
   go_ret
   have hJi:J=i+7:=by rw [←HJ.out];rfl
   exact ⟨rfl,by rw [hJi];simpa using HMV.out,(But.of hbb2).setIn 1 _⟩
def catsB:List ByteArray:=[⟨#[122,101,114,111]⟩,⟨#[111,110,101]⟩,⟨#[116,119,111]⟩,⟨#[102,101,119]⟩,⟨#[109,97,110,121]⟩,⟨#[111,116,104,101,114]⟩]
def NamesAt (w:World):Prop:=∀ j,j<6->w.cell? ⟨0,j,none⟩=some (.string (catsB.getD j ByteArray.empty))
theorem NamesAt.below {w w':World} (h:NamesAt w) (hb:Below w.heap.size w w'):NamesAt w':=fun j hj=>(hb.cell (World.block_lt_of_cell? w _ (h j hj))).trans (h j hj)
end Go.Proofs.YthpldolmpinnhaaGreatDoor
