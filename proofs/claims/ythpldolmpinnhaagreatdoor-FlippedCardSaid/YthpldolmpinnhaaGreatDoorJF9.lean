import Derived.Test.YthpldolmpinnhaaGreatDoorJF8
import Derived.Test.YthpldolmpinnhaaGreatDoorShelf
set_option maxHeartbeats 64000000
open Go.Lib renaming hid→z7
open Go.World renaming block_lt_of_cell?→z8
open List renaming take_succ_eq_append_getElem→zy,take_of_length_le→zx,length_take→zj,length_drop→zg
open Nat renaming le_refl→zv
open Go.RowKit.Below renaming refl→zu
open Go.IntKind renaming signed→zk,wrap→zf,bits→zZ,i64→zY
open Go.Proofs.Tryz
namespace Go.Proofs.YthpldolmpinnhaaGreatDoor
open Go Go.RowKit
set_option maxRecDepth 10000
theorem Ny(g1 o1 c1 g2 c2:Nat)(l1 l2:List Int)(w:World)(hl:l1.length<=1000000)(PW:l2.length<=1000000)(h1:∀ j (h:j<l1.length),w.cell? ⟨g1,o1+j,none⟩=some (.int .i32 l1[j]))(h2:∀ j (h:j<l2.length),w.cell? ⟨g2,j,none⟩=some (.int .i32 l2[j])) :
  Calls prog 237 #[.slice (some ⟨g1,o1,none⟩) l1.length c1,.slice (some ⟨g2,0,none⟩) l2.length c2] w fun e w'=>e = .returned (.bool (decide (l1=l2)))/\Below w.heap.size w w':=by
 have H1:=z7 h1;have H2:=z7 h2;clear h1 h2;obtain⟨n,hn⟩:=xX l1.length;obtain⟨m,hm⟩:=xX l2.length;have HN:=z7 hn;have HM:=z7 hm;rw[hn] at hl ⊢;rw[hm] at PW ⊢;obtain⟨R,hR⟩:∃ b,decide (l1=l2)=b:=⟨_,rfl⟩;rw[hR];have HR:=z7 hR;clear hn hm hR;by_cases hq:n=m
 ·subst hq;go_enter func237,ntmps237;go_wp2;go_loopw [13] (fun i wr=>∃ k:Nat,k<=n/\i = .int .i64 k/\l1.take k=l2.take k/\Below w.heap.size w wr) (fun i _=>n - (intOf i).toNat)
  case atStart=>exact⟨0,Nat.zero_le _,rfl,rfl,zu _ _⟩
  case round =>
   obtain⟨k,hk,rfl,Km,hb⟩:=hrel;have HT:=z7 Km;clear Km;by_cases xD:k<n
   ·have qX:=H1.out k (by rw[HN.out];exact xD);have jJ:=H2.out k (by rw[HM.out];exact xD);obtain⟨x,hx⟩:=xX (l1[k]'(by rw[HN.out];exact xD));obtain⟨y,hy⟩:=xX (l2[k]'(by rw[HM.out];exact xD));rw[hx] at qX;rw[hy] at jJ;have HX:=z7 hx;have HY:=z7 hy;have d1:=(hb.cell (z8 _ _ qX)).trans qX;have d2:=(hb.cell (z8 _ _ jJ)).trans jJ;have jo:wr.drew.cell? ⟨g1,o1+k,none⟩=some (.int .i32 x)/\wr.drew.cell? ⟨g2,k,none⟩=some (.int .i32 y):=⟨d1,d2⟩;clear hx hy qX jJ d1 d2;by_cases hxy:x=y
    ·have Ab:(x !=y)=false:=by simpa using hxy
     have HF:=z7 (show l1.take (k+1)=l2.take (k+1) by
      rw[zy (by rw[HN.out];exact xD),zy (by rw[HM.out];exact xD),HT.out,HX.out,HY.out,hxy])
     go_wp2_with fail;refine rt (fun W':World=>W'.cell? ⟨g1,o1+k,none⟩=some (.int .i32 x)/\W'.cell? ⟨g2,k,none⟩=some (.int .i32 y)) [0,1,2,3,4,5,6,7,8] 0 jo ?_;(iterate 9 ((first|refine ty ?_|refine tn ?_);try simp only[pl]))
     refine xq ?_;refine bX ?_ _;go_wp2;go_roundw
     case rel=>exact⟨k+1,by omega,by go_num,HF.out,hb.drew⟩
     case measure=>simp[intOf];omega
    ·have Ab:(x !=y)=true:=by simpa using hxy
     have HF:=z7 (show R=false by
      rw[←HR.out,decide_eq_false_iff_not];intro e;subst e;exact hxy (HX.out.symm.trans HY.out))
     go_wp2_with fail;refine rt (fun W':World=>W'.cell? ⟨g1,o1+k,none⟩=some (.int .i32 x)/\W'.cell? ⟨g2,k,none⟩=some (.int .i32 y)) [0,1,2,3,4,5,6,7,8] 0 jo ?_;(iterate 9 ((first|refine ty ?_|refine tn ?_);try simp only[pl]))
     refine xq ?_;refine bX ?_ _;go_wp2;go_ret;exact⟨by rw[HF.out];rfl,hb.drew⟩
   ·obtain rfl:k=n:=by omega
    have HF:=z7 (show R=true by
     rw[←HR.out,decide_eq_true_eq];have h:=HT.out;rw[zx (by rw[HN.out];exact zv _),zx (by rw[HM.out];exact zv _)] at h;exact h)
    go_wp2;go_ret;exact⟨by rw[HF.out];rfl,hb⟩
 ·have HF:=z7 (show R=false by
   rw[←HR.out,decide_eq_false_iff_not];intro e;subst e;exact hq (HN.out.symm.trans HM.out))
  have j9:((n:Int) !=(m:Int))=true:=by simp;omega
  go_enter func237,ntmps237;go_wp2;go_ret;exact⟨by rw[HF.out];rfl,zu _ _⟩
def I8:List Int:=[111,102,102,115,101,116,58]
def CG(rs:List Int)(i:Nat):Bool:=decide ((rs.drop i).take 7=I8)
theorem Bx:Conv.runesFrom (⟨#[111,102,102,115,101,116,58]⟩:ByteArray) 7 0 #[]=(I8.map (Value.int .i32)).toArray:=by kernel_rfl
theorem I9(p:Nat)(rs:List Int)(i d:Nat)(w:World)(h:vK p rs i d w) :
  Calls prog 202 #[.pointer (some ⟨p,0,none⟩),.string ⟨#[111,102,102,115,101,116,58]⟩] w (PO p rs d (.bool (CG rs i)) (if CG rs i=true then i+7 else i) w):=by
 have HH:=z7 h;have hcv:=fun W=>run_runes_of_string (P:=prog) W 9 147 21 ⟨#[111,102,102,115,101,116,58]⟩ underlying9 underlying147 underlying21 (by rw[show(⟨#[111,102,102,115,101,116,58]⟩:ByteArray).size=7 from rfl,Bx];decide)
 have F:∃ cp W,(convert 9 147 (.string ⟨#[111,102,102,115,101,116,58]⟩)).run prog w = .ok (.slice (some ⟨w.heap.size,0,none⟩) 7 cp) W/\Below w.heap.size w W/\∀ j (h:j<I8.length),W.cell? ⟨w.heap.size,j,none⟩=some (.int .i32 I8[j]):=by
  refine⟨_,_,hcv w,(zu _ _).drew.alloc (zv _) _,fun j hj=>?_⟩;rw[show w.heap.size=w.drew.heap.size from rfl,xu];rw[show(⟨#[111,102,102,115,101,116,58]⟩:ByteArray).size=7 from rfl,Bx];rw[Array.getElem?_append_left (by simpa using hj)];simp
 obtain⟨cp,W,vF,jC,gH⟩:=F;obtain⟨⟨g,cap,c0,N9,jy,Kl,hrc⟩,c1,_,_,_,hlen,I6,_⟩:=h;have K8:=World.block_lt_of_cell? w _ c1;have Iz:=Lib.hid (fun j (hj:j<rs.length)=>(jC.cell (World.block_lt_of_cell? _ _ (hrc j hj))).trans (hrc j hj));have AZ:=Lib.hid gH;obtain⟨L,hL⟩:=xX rs.length;rw[hL] at c0 N9 hlen I6;have HL:=Lib.hid hL;have jo:W.drew.cell? ⟨p,1,none⟩=some (.int .i64 i)/\W.drew.cell? ⟨p,0,none⟩=some (.slice (some ⟨g,0,none⟩) L cap):=⟨(jC.cell (p:=⟨p,1,none⟩) K8).trans c1,(jC.cell (p:=⟨p,0,none⟩) K8).trans c0⟩;obtain⟨B,hB⟩:=xX (CG rs i);rw[hB];have HB:=Lib.hid hB;obtain⟨J,hJ⟩:=xX ((if B=true then i+7 else i));rw[hJ];have HJ:=Lib.hid hJ;clear hJ;obtain⟨N,hN⟩:=xX w.heap.size;rw[hN] at vF AZ;clear hcv gH hrc hL hB;have Sg:IntKind.i64.wrap ((L:Int) - (i:Int))=(L:Int) - (i:Int):=by simp[IntKind.wrap,IntKind.signed,IntKind.bits];omega
 by_cases PA:L<i+7
 ·have g1:decide ((L:Int) - (i:Int)<7)=true:=by simp;omega
  have HF:=z7 (show B=false by
   rw[←HB.out];unfold CG;rw[decide_eq_false_iff_not];intro e;have e2:=congrArg List.length e;rw[zj,zg,HL.out] at e2;have e3:I8.length=7:=rfl;omega)
  go_enter func202,ntmps202;go_wp2_with fail;refine rt (fun W':World=>W'.cell? ⟨p,1,none⟩=some (.int .i64 i)/\W'.cell? ⟨p,0,none⟩=some (.slice (some ⟨g,0,none⟩) L cap)) [0,1,2,3,4,5,6,7,8,9,10,11,12,13,14,15,16,17,18,19,20,21,22,23,24,25,26,27,28,29,30] 3 jo ?_;(iterate 31 ((first|refine ty ?_|refine tn ?_);try simp only[pl]))
  refine xq ?_;refine kR 31 (fun K hK=>?_);rw[if_neg (by exact Bool.false_ne_true)];refine hK.out _ _ jo (fun _=>?_);clear hK K;refine Vv [32,33] 0 jo ?_;(iterate 2 ((first|refine ty ?_|refine tn ?_);try simp only[pl]))
  refine xq ?_;refine bX ?_ _;go_wp2;go_ret;have hJi:J=i:=by rw[←HJ.out,HF.out];rfl
  exact⟨by rw[HF.out];rfl,by rw[hJi];exact HH.out.below jC.drew,xP.of jC.drew⟩
 ·have g1:decide ((L:Int) - (i:Int)<7)=false:=by simp;omega
  have g2:IntKind.i64.wrap ((i:Int)+7)=(i:Int)+7:=by simp[IntKind.wrap,IntKind.signed,IntKind.bits];omega
  have k1:i<=i+7:=by omega
  have k2:i+7<=cap:=by omega
  have k3:i<=cap:=by omega
  have k4:(i:Int)<=(i:Int)+7:=by omega
  have k5:(i:Int)+7<=(cap:Int):=by omega
  have k6:((i:Int)+7).toNat=i+7:=by omega
  have k7:(0:Int)<=(i:Int)+7:=by omega
  have k8:i+7 - i=7:=by omega
  have k9:(i:Int)+7 - (i:Int)=7:=by omega
  have k10:¬cap=i:=by omega
  have fU:((rs.drop i).take 7).length=7:=by rw[zj,zg,HL.out];omega
  have heq:=Ny g i (cap - i) N cp ((rs.drop i).take 7) I8 W.drew (by rw[fU];decide) (by decide) (fun j hj=>by
   have H8:i+j<rs.length:=by rw[HL.out];rw[fU] at hj;omega
   have hj3:j<7:=by rw[fU] at hj;exact hj
   refine(Iz.out (i+j) H8).trans ?_;simp[List.getElem_take,List.getElem_drop]) AZ.out
  rw[fU,show I8.length=7 from rfl,show decide ((rs.drop i).take 7=I8)=B from HB.out] at heq;have HEQ:=z7 heq;clear fU heq;go_enter func202,ntmps202;go_wp2_with fail;refine rt (fun W':World=>W'.cell? ⟨p,1,none⟩=some (.int .i64 i)/\W'.cell? ⟨p,0,none⟩=some (.slice (some ⟨g,0,none⟩) L cap)) [0,1,2,3,4,5,6,7,8,9,10,11,12,13,14,15,16,17,18,19,20,21,22,23,24,25,26,27,28,29,30] 3 jo ?_;(iterate 31 ((first|refine ty ?_|refine tn ?_);try simp only[pl]))
  refine xq ?_;refine kR 31 (fun K hK=>?_);go_simp;refine HEQ.out.mono ?_;rintro e w2 ⟨rfl,xF⟩;have Nx:W.heap.size<=w2.heap.size:=xF.size;have Zf:Below w.heap.size w w2:=(jC.drew).trans (xF.mono jC.size);have ue:=HH.out.below Zf;have dv:=z7 ue;have N8:w2.cell? ⟨p,1,none⟩=some (.int .i64 i)/\w2.cell? ⟨p,0,none⟩=some (.slice (some ⟨g,0,none⟩) L cap):=⟨(Zf.cell (p:=⟨p,1,none⟩) K8).trans c1,(Zf.cell (p:=⟨p,0,none⟩) K8).trans c0⟩;have h7:=ue.z1;refine hK.out _ _ N8 (fun _=>?_);clear hK K ue;refine Vv [32,33] 0 N8 ?_;(iterate 2 ((first|refine ty ?_|refine tn ?_);try simp only[pl]))
  refine xq ?_;refine bX ?_ _
  cases B
  ·go_wp2;go_ret;have hJi:J=i:=by rw[←HJ.out];rfl
   exact⟨rfl,by rw[hJi];exact dv.out,xP.of Zf⟩
  ·have Bz:=dv.out.move (i+7) (by rw[HL.out];omega);have HMV:=z7 Bz;clear Bz;go_wp2;go_ret;have hJi:J=i+7:=by rw[←HJ.out];rfl
   exact⟨rfl,by rw[hJi];simpa using HMV.out,(xP.of Zf).Ue 1 _⟩
def ZQ:List ByteArray:=[⟨#[122,101,114,111]⟩,⟨#[111,110,101]⟩,⟨#[116,119,111]⟩,⟨#[102,101,119]⟩,⟨#[109,97,110,121]⟩,⟨#[111,116,104,101,114]⟩]
def qd(w:World):Prop:=∀ j,j<6->w.cell? ⟨0,j,none⟩=some (.string (ZQ.getD j ByteArray.empty))
theorem qd.below{w w':World}(h:qd w)(hb:Below w.heap.size w w'):qd w':=fun j hj=>(hb.cell (z8 w _ (h j hj))).trans (h j hj)
end Go.Proofs.YthpldolmpinnhaaGreatDoor
