import Derived.Test.YthpldolmpinnhaaGreatDoorJG8
import Derived.Test.YthpldolmpinnhaaGreatDoorShelf
set_option maxHeartbeats 64000000
open Go.Lib renaming hid→z7
open Go.World renaming block_lt_of_cell?→z8
open List renaming take_succ_eq_append_getElem→zy,take_of_length_le→zx,length_take→zj,length_drop→zg
open Nat renaming le_refl→zv
open Go.RowKit.Below renaming refl→zu
open Go.IntKind renaming signed→zk,wrap→zf,bits→zZ,i64→zY
open Go.Proofs.Tryz
namespace Go.Proofs.YthpldolmpinnhaaGreatDoor
open Go Go.RowKit
set_option maxRecDepth 10000
theorem Nf(g1 o1 c1 g2 c2:Nat)(l1 l2:List Int)(w:World)(hl:l1.length<=1000000)(Pr:l2.length<=1000000)(h1:∀ j (h:j<l1.length),w.cell? ⟨g1,o1+j,none⟩=some (.int .i32 l1[j]))(h2:∀ j (h:j<l2.length),w.cell? ⟨g2,j,none⟩=some (.int .i32 l2[j])) :
  Calls prog 237 #[.slice (some ⟨g1,o1,none⟩) l1.length c1,.slice (some ⟨g2,0,none⟩) l2.length c2] w fun e w'=>e = .returned (.bool (decide (l1=l2)))/\Below w.heap.size w w':=by
 have H1:=z7 h1;have H2:=z7 h2;clear h1 h2;obtain⟨n,hn⟩:=xX l1.length;obtain⟨m,hm⟩:=xX l2.length;have HN:=z7 hn;have HM:=z7 hm;rw[hn] at hl |-
 rw[hm] at Pr |-
 obtain⟨R,hR⟩:∃ b,decide (l1=l2)=b:=⟨_,rfl⟩;rw[hR];have HR:=z7 hR;clear hn hm hR;by_cases hq:n=m
 .subst hq;go_enter func237,ntmps237;go_wp2;go_loopw [13] (fun i wr=>∃ k:Nat,k<=n/\i = .int .i64 k/\l1.take k=l2.take k/\Below w.heap.size w wr) (fun i _=>n - (intOf i).toNat)
  case atStart=>exact⟨0,Nat.zero_le _,rfl,rfl,zu _ _⟩
  case round =>
   obtain⟨k,hk,rfl,Hx,hb⟩:=hrel;have HT:=z7 Hx;clear Hx;by_cases xB:k<n
   .have qK:=H1.out k (by rw[HN.out];exact xB);have jT:=H2.out k (by rw[HM.out];exact xB);obtain⟨x,hx⟩:=xX (l1[k]'(by rw[HN.out];exact xB));obtain⟨y,hy⟩:=xX (l2[k]'(by rw[HM.out];exact xB));rw[hx] at qK;rw[hy] at jT;have HX:=z7 hx;have HY:=z7 hy;have d1:=(hb.cell (z8 _ _ qK)).trans qK;have d2:=(hb.cell (z8 _ _ jT)).trans jT;have jO:wr.drew.cell? ⟨g1,o1+k,none⟩=some (.int .i32 x)/\wr.drew.cell? ⟨g2,k,none⟩=some (.int .i32 y):=⟨d1,d2⟩;clear hx hy qK jT d1 d2;by_cases hxy:x=y
    .have AL:(x !=y)=false:=by simpa using hxy
     have HF:=z7 (show l1.take (k+1)=l2.take (k+1) by
      rw[zy (by rw[HN.out];exact xB),zy (by rw[HM.out];exact xB),HT.out,HX.out,HY.out,hxy])
     go_wp2_with fail;refine rt (fun W':World=>W'.cell? ⟨g1,o1+k,none⟩=some (.int .i32 x)/\W'.cell? ⟨g2,k,none⟩=some (.int .i32 y)) [0,1,2,3,4,5,6,7,8] 0 jO ?_;(iterate 9 ((first|refine ty ?_|refine tn ?_);try simp only[pl]))
     refine xq ?_;refine b7 ?_ _;go_wp2;go_roundw
     case rel=>exact⟨k+1,by omega,by go_num,HF.out,hb.drew⟩
     case measure=>simp[intOf];omega
    .have AL:(x !=y)=true:=by simpa using hxy
     have HF:=z7 (show R=false by
      rw[<-HR.out,decide_eq_false_iff_not];intro e;subst e;exact hxy (HX.out.symm.trans HY.out))
     go_wp2_with fail;refine rt (fun W':World=>W'.cell? ⟨g1,o1+k,none⟩=some (.int .i32 x)/\W'.cell? ⟨g2,k,none⟩=some (.int .i32 y)) [0,1,2,3,4,5,6,7,8] 0 jO ?_;(iterate 9 ((first|refine ty ?_|refine tn ?_);try simp only[pl]))
     refine xq ?_;refine b7 ?_ _;go_wp2;go_ret;exact⟨by rw[HF.out];rfl,hb.drew⟩
   .obtain rfl:k=n:=by omega
    have HF:=z7 (show R=true by
     rw[<-HR.out,decide_eq_true_eq];have h:=HT.out;rw[zx (by rw[HN.out];exact zv _),zx (by rw[HM.out];exact zv _)] at h;exact h)
    go_wp2;go_ret;exact⟨by rw[HF.out];rfl,hb⟩
 .have HF:=z7 (show R=false by
   rw[<-HR.out,decide_eq_false_iff_not];intro e;subst e;exact hq (HN.out.symm.trans HM.out))
  have kh:((n:Int) !=(m:Int))=true:=by simp;omega
  go_enter func237,ntmps237;go_wp2;go_ret;exact⟨by rw[HF.out];rfl,zu _ _⟩
def Iq:List Int:=[111,102,102,115,101,116,58]
def CI(rs:List Int)(i:Nat):Bool:=decide ((rs.drop i).take 7=Iq)
theorem BK:Conv.runesFrom (⟨#[111,102,102,115,101,116,58]⟩:ByteArray) 7 0 #[]=(Iq.map (Value.int .i32)).toArray:=by kernel_rfl
theorem Ik(p:Nat)(rs:List Int)(i d:Nat)(w:World)(h:vG p rs i d w) :
  Calls prog 202 #[.pointer (some ⟨p,0,none⟩),.string ⟨#[111,102,102,115,101,116,58]⟩] w (Pm p rs d (.bool (CI rs i)) (if CI rs i=true then i+7 else i) w):=by
 have HH:=z7 h;have hcv:=fun W=>run_runes_of_string (P:=prog) W 9 147 21 ⟨#[111,102,102,115,101,116,58]⟩ underlying9 underlying147 underlying21 (by rw[show(⟨#[111,102,102,115,101,116,58]⟩:ByteArray).size=7 from rfl,BK];decide)
 have F:∃ cp W,(convert 9 147 (.string ⟨#[111,102,102,115,101,116,58]⟩)).run prog w = .ok (.slice (some ⟨w.heap.size,0,none⟩) 7 cp) W/\Below w.heap.size w W/\∀ j (h:j<Iq.length),W.cell? ⟨w.heap.size,j,none⟩=some (.int .i32 Iq[j]):=by
  refine⟨_,_,hcv w,(zu _ _).drew.alloc (zv _) _,fun j hj=>?_⟩;rw[show w.heap.size=w.drew.heap.size from rfl,xu];rw[show(⟨#[111,102,102,115,101,116,58]⟩:ByteArray).size=7 from rfl,BK];rw[Array.getElem?_append_left (by simpa using hj)];simp
 obtain⟨cp,W,vH,jB,gO⟩:=F;obtain⟨⟨g,cap,c0,Nk,jS,Jx,hrc⟩,c1,_,_,_,hlen,Ix,_⟩:=h;have Kj:=World.block_lt_of_cell? w _ c1;have Ij:=Lib.hid (fun j (hj:j<rs.length)=>(jB.cell (World.block_lt_of_cell? _ _ (hrc j hj))).trans (hrc j hj));have AM:=Lib.hid gO;obtain⟨L,hL⟩:=xX rs.length;rw[hL] at c0 Nk hlen Ix;have HL:=Lib.hid hL;have jO:W.drew.cell? ⟨p,1,none⟩=some (.int .i64 i)/\W.drew.cell? ⟨p,0,none⟩=some (.slice (some ⟨g,0,none⟩) L cap):=⟨(jB.cell (p:=⟨p,1,none⟩) Kj).trans c1,(jB.cell (p:=⟨p,0,none⟩) Kj).trans c0⟩;obtain⟨B,hB⟩:=xX (CI rs i);rw[hB];have HB:=Lib.hid hB;obtain⟨J,hJ⟩:=xX ((if B=true then i+7 else i));rw[hJ];have HJ:=Lib.hid hJ;clear hJ;obtain⟨N,hN⟩:=xX w.heap.size;rw[hN] at vH AM;clear hcv gO hrc hL hB;have SK:IntKind.i64.wrap ((L:Int) - (i:Int))=(L:Int) - (i:Int):=by simp[IntKind.wrap,IntKind.signed,IntKind.bits];omega
 by_cases A1:L<i+7
 .have g1:decide ((L:Int) - (i:Int)<7)=true:=by simp;omega
  have HF:=z7 (show B=false by
   rw[<-HB.out];unfold CI;rw[decide_eq_false_iff_not];intro e;have e2:=congrArg List.length e;rw[zj,zg,HL.out] at e2;have e3:Iq.length=7:=rfl;omega)
  go_enter func202,ntmps202;go_wp2_with fail;refine rt (fun W':World=>W'.cell? ⟨p,1,none⟩=some (.int .i64 i)/\W'.cell? ⟨p,0,none⟩=some (.slice (some ⟨g,0,none⟩) L cap)) [0,1,2,3,4,5,6,7,8,9,10,11,12,13,14,15,16,17,18,19,20,21,22,23,24,25,26,27,28,29,30] 3 jO ?_;(iterate 31 ((first|refine ty ?_|refine tn ?_);try simp only[pl]))
  refine xq ?_;refine jx 31 (fun K hK=>?_);rw[if_neg (by exact Bool.false_ne_true)];refine hK.out _ _ jO (fun _=>?_);clear hK K;refine VA [32,33] 0 jO ?_;(iterate 2 ((first|refine ty ?_|refine tn ?_);try simp only[pl]))
  refine xq ?_;refine b7 ?_ _;go_wp2;go_ret;have hJi:J=i:=by rw[<-HJ.out,HF.out];rfl
  exact⟨by rw[HF.out];rfl,by rw[hJi];exact HH.out.below jB.drew,xR.of jB.drew⟩
 .have g1:decide ((L:Int) - (i:Int)<7)=false:=by simp;omega
  have g2:IntKind.i64.wrap ((i:Int)+7)=(i:Int)+7:=by simp[IntKind.wrap,IntKind.signed,IntKind.bits];omega
  have k1:i<=i+7:=by omega
  have k2:i+7<=cap:=by omega
  have k3:i<=cap:=by omega
  have k4:(i:Int)<=(i:Int)+7:=by omega
  have k5:(i:Int)+7<=(cap:Int):=by omega
  have k6:((i:Int)+7).toNat=i+7:=by omega
  have k7:(0:Int)<=(i:Int)+7:=by omega
  have k8:i+7 - i=7:=by omega
  have k9:(i:Int)+7 - (i:Int)=7:=by omega
  have k10:¬cap=i:=by omega
  have dW:((rs.drop i).take 7).length=7:=by rw[zj,zg,HL.out];omega
  have heq:=Nf g i (cap - i) N cp ((rs.drop i).take 7) Iq W.drew (by rw[dW];decide) (by decide) (fun j hj=>by
   have Iu:i+j<rs.length:=by rw[HL.out];rw[dW] at hj;omega
   have hj3:j<7:=by rw[dW] at hj;exact hj
   refine(Ij.out (i+j) Iu).trans ?_;simp[List.getElem_take,List.getElem_drop]) AM.out
  rw[dW,show Iq.length=7 from rfl,show decide ((rs.drop i).take 7=Iq)=B from HB.out] at heq;have HEQ:=z7 heq;clear dW heq;go_enter func202,ntmps202;go_wp2_with fail;refine rt (fun W':World=>W'.cell? ⟨p,1,none⟩=some (.int .i64 i)/\W'.cell? ⟨p,0,none⟩=some (.slice (some ⟨g,0,none⟩) L cap)) [0,1,2,3,4,5,6,7,8,9,10,11,12,13,14,15,16,17,18,19,20,21,22,23,24,25,26,27,28,29,30] 3 jO ?_;(iterate 31 ((first|refine ty ?_|refine tn ?_);try simp only[pl]))
  refine xq ?_;refine jx 31 (fun K hK=>?_);go_simp;refine HEQ.out.mono ?_;rintro e w2 ⟨rfl,xJ⟩;have Nd:W.heap.size<=w2.heap.size:=xJ.size;have ZZ:Below w.heap.size w w2:=(jB.drew).trans (xJ.mono jB.size);have qf:=HH.out.below ZZ;have bk:=z7 qf;have Nq:w2.cell? ⟨p,1,none⟩=some (.int .i64 i)/\w2.cell? ⟨p,0,none⟩=some (.slice (some ⟨g,0,none⟩) L cap):=⟨(ZZ.cell (p:=⟨p,1,none⟩) Kj).trans c1,(ZZ.cell (p:=⟨p,0,none⟩) Kj).trans c0⟩;have h7:=qf.z1;refine hK.out _ _ Nq (fun _=>?_);clear hK K qf;refine VA [32,33] 0 Nq ?_;(iterate 2 ((first|refine ty ?_|refine tn ?_);try simp only[pl]))
  refine xq ?_;refine b7 ?_ _
  cases B
  .go_wp2;go_ret;have hJi:J=i:=by rw[<-HJ.out];rfl
   exact⟨rfl,by rw[hJi];exact bk.out,xR.of ZZ⟩
  .have BU:=bk.out.move (i+7) (by rw[HL.out];omega);have HMV:=z7 BU;clear BU;go_wp2;go_ret;have hJi:J=i+7:=by rw[<-HJ.out];rfl
   exact⟨rfl,by rw[hJi];simpa using HMV.out,(xR.of ZZ).Up 1 _⟩
def ZK:List ByteArray:=[⟨#[122,101,114,111]⟩,⟨#[111,110,101]⟩,⟨#[116,119,111]⟩,⟨#[102,101,119]⟩,⟨#[109,97,110,121]⟩,⟨#[111,116,104,101,114]⟩]
def uS(w:World):Prop:=∀ j,j<6->w.cell? ⟨0,j,none⟩=some (.string (ZK.getD j ByteArray.empty))
theorem uS.below{w w':World}(h:uS w)(hb:Below w.heap.size w w'):uS w':=fun j hj=>(hb.cell (z8 w _ (h j hj))).trans (h j hj)
end Go.Proofs.YthpldolmpinnhaaGreatDoor
