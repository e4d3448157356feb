import Derived.Test.YthpldolmpinnhaaGreatDoorJP9
import Derived.OwnWalk
import Derived.Maps.OwnSet
import Derived.Maps.Views
import Derived.Test.YthpldolmpinnhaaGreatDoorShelf
set_option maxHeartbeats 64000000
open Go.Lib renaming hid→z7
open Nat renaming le_refl→z8,le_trans→zy,lt_of_lt_of_le→zF,mul_le_mul_right→zR,lt_succ_self→ze
open Go.WideMaps renaming keyOf_string_mk→zx
open Go.World renaming block_lt_of_cell?→zv,setCell→zU,frozen?_setCell→zN,ownsRow_nil→zS
open List renaming eq_nil_of_length_eq_zero→zu,getD_eq_getElem?_getD→zg,getElem?_eq_getElem→zZ,flatMap_cons→zE,drop_of_length_le→zO,map_toArray→za,length_drop→zc
open Classical renaming byContradiction→zk
open Go.RowKit.Below renaming refl→zj,heap_setCell→zJ
open Go.Maps renaming string_keyed→zf,atKey_put_other→zV,atKey_put_same→zQ,has_put_other→zG,has_put_same→zD
open Bool renaming and_eq_true→zY
open Go.Value renaming int→zX
open Go.WideAt renaming IsKeyLit→zH
open Go.Result renaming andThen→zL,andThen_ok→zP
open Array renaming getElem?_eq_some_iff→zM
open Go.DataW renaming map→zW
open Go.Proofs.Tryz
namespace Go.Proofs.YthpldolmpinnhaaGreatDoor
open Go Go.RowKit
set_option maxRecDepth 10000
def VB:List (List UInt8):=[[122,101,114,111],[111,110,101],[116,119,111],[102,101,119],[109,97,110,121],[111,116,104,101,114]]
theorem Du(x:Wd):Lib.containsS (Xb.take 6) ⟨x.toArray⟩=decide (x∈VB):=by
 have e:Xb.take 6=VB.map (fun l=>(⟨l.toArray⟩:ByteArray)):=rfl;rw[e,Bool.eq_iff_iff,decide_eq_true_eq,Lib.containsS_iff,List.mem_map];constructor
 ·rintro⟨y,hy,h2⟩;have h3:=congrArg (fun b:ByteArray=>b.data.toList) h2;simp at h3;rw[←h3];exact hy
 ·intro h;exact⟨x,h,rfl⟩
theorem C8(x:Wd)(w:World)(h:qP w):Calls prog 239 #[xf x] w fun e w'=>e = .returned (.bool (decide (x∈VB)))/\w=w':=by
 have HC:=z7 (Tryz.slices_Contains_string 0 0 6 6 Xb ⟨x.toArray⟩ w (by decide) (by decide) (fun j hj=>by rw[Nat.zero_add];exact h j hj));rw[Du] at HC;go_enter func239,ntmps239;go_wp2_with fail;refine HC.out.mono ?_;rintro e w' ⟨rfl,rfl⟩;go_wp2;go_ret;exact⟨rfl,rfl⟩
def vX:List Int->List Int×Nat
 | []=>([],0)
 | c::t=>if c=39 then
   match t with
   | []=>([],1)
   | d::u=>if d=39 then (39::(vX u).1,(vX u).2+2) else ([],1)
  else (c::(vX t).1,(vX t).2+1)
def kN(rs:List Int)(num:Bool)(i:Nat):Wd×Nat :=
 if xX rs i≠39 then (enc (xX rs i),i+1)
 else if xX rs (i+1)=39 then (enc 39,i+2)
 else if bO (xX rs (i+1)) num=false then (enc 39,i+1)
 else ((vX (rs.drop (i+1))).1.flatMap enc,i+1+(vX (rs.drop (i+1))).2)
theorem Jw:ZN prog 147 21 (.int .i32 0) 1 4 :=
 ⟨underlying147,info_parts (by kernel_rfl),rfl,by decide,by decide⟩
theorem Re{rs:List Int}{j:Nat}(h:rs.length<=j):vX (rs.drop j)=([],0):=by rw[zO h,vX]
theorem bP{rs:List Int}{j:Nat}(h:j<rs.length):rs.drop j=xX rs j::rs.drop (j+1):=by
 rw[List.drop_eq_getElem_cons h];unfold xX;rw[zg,zZ h];rfl
theorem MH{rs:List Int}{j:Nat}(h:j<rs.length)(hq:xX rs j≠39):vX (rs.drop j)=(xX rs j::(vX (rs.drop (j+1))).1,(vX (rs.drop (j+1))).2+1):=by
 rw[bP h,vX.eq_def];dsimp only;rw[if_neg hq]
theorem Ri{rs:List Int}{j:Nat}(h:j<rs.length)(hq:xX rs j=39)(h2:xX rs (j+1)=39):vX (rs.drop j)=(39::(vX (rs.drop (j+2))).1,(vX (rs.drop (j+2))).2+2):=by
 have xC:j+1<rs.length:=by
  apply zk;intro hc;rw[qw (by omega)] at h2
  cases h2
 rw[bP h,bP xC,vX.eq_def];dsimp only;rw[if_pos hq,if_pos h2]
theorem MI{rs:List Int}{j:Nat}(h:j<rs.length)(hq:xX rs j=39)(h2:xX rs (j+1)≠39):vX (rs.drop j)=([],1):=by
 rw[bP h,vX.eq_def];dsimp only;rw[if_pos hq];by_cases xC:j+1<rs.length
 ·rw[bP xC];dsimp only;rw[if_neg h2]
 ·rw[zO (by omega)]
theorem UO{w w':World}{p base size n:Nat}{e:TypeId}{v:Value}{xs:List Value}(h:w.ownsRow base e size v n xs)(hb:xl p w w')(hp:p<base):w'.ownsRow base e size v n xs :=
 h.kept (row:=some p) ⟨hb.os,hb.tape,hb.output,hb.size,fun i hi hn=>hb.block i hi (fun e=>hn (by rw[e]))⟩ (by
  cases hv:v.ownBlock with
  | none=>exact .inl rfl
  | some g=>exact .inr (fun e=>by have:=(h.lt g hv).1;cases e;omega))
theorem Rl:∀ (n:Nat) (l:List Int),l.length<=n->(vX l).2<=l.length/\(vX l).1.length<=l.length:=by
 intro n;induction n with
 | zero =>
  intro l h;have:l=[]:=zu (by omega);subst this;simp[vX]
 | succ n ih =>
  intro l h
  cases l with
  | nil=>simp[vX]
  | cons c t =>
   rw[vX.eq_def];dsimp only;by_cases hc:c=39
   ·rw[if_pos hc]
    cases t with
    | nil=>simp
    | cons d u =>
     dsimp only;by_cases hd:d=39
     ·rw[if_pos hd];have:=ih u (by simp at h;omega);simp;omega
     ·rw[if_neg hd];simp
   ·rw[if_neg hc];have:=ih t (by simp at h;omega);simp;omega
theorem H6{rs:List Int}{num:Bool}{i:Nat}(h:i<rs.length):i<(kN rs num i).2/\(kN rs num i).2<=rs.length:=by
 unfold kN;split
 ·exact⟨by show i<i+1;omega,by show i+1<=_;omega⟩
 split
 ·next h2 =>
  have:i+1<rs.length:=by
   apply zk;intro hc;rw[qw (by omega)] at h2
   cases h2
  exact⟨by show i<i+2;omega,by show i+2<=_;omega⟩
 split
 ·exact⟨by show i<i+1;omega,by show i+1<=_;omega⟩
 ·have:=(Rl _ (rs.drop (i+1)) (z8 _)).1;rw[zc] at this;exact⟨by show i<i+1+_;omega,by show i+1+_<=_;omega⟩
theorem G0{w:World}{base:Nat}{v:Value}{acc:List Int}(h:w.ownsRow base 21 1 v acc.length (acc.map (zX .i32))) :
  (convert 147 262 v).run prog w = .ok (xf (acc.flatMap enc)) w:=by
 rcases h.2 with⟨hv,hn⟩|⟨g,cap,cur,hv,_⟩
 ·have:acc=[]:=zu hn;subst this;rw[hv,run_convert_runes_nil w _ _ 21 _ _ underlying147 underlying21 underlying262];rfl
 ·subst hv;have hc:=run_convert_runes (P:=prog) w 147 262 21 ⟨g,0,none⟩ acc.length cap acc (z8 _) underlying147 underlying21 underlying262 (fun j hj=>by
   rw[ua,h.cellAt j (by omega)];simp[zg,hj])
  rw[List.take_length,Xf] at hc;exact hc
theorem A1(p:Nat)(rs:List Int)(i d:Nat)(num:Bool)(w:World)(h:vJ p rs i d w)(hi:i<rs.length) :
  Calls prog 158 #[.pointer (some ⟨p,0,none⟩),.bool num] w (P8 p rs d (xf (kN rs num i).1) (kN rs num i).2 w):=by
 have HH:=z7 h;have HN:=z7 (jP p rs i d w h);have hL:=h.len;have Qp:=h.lt;obtain⟨T,hT⟩:∃ T,kN rs num i=T:=⟨_,rfl⟩;rw[hT];have HT:=z7 hT;obtain⟨T1,T2⟩:=T;dsimp only;obtain⟨q,hq⟩:∃ q,xX rs i=q:=⟨_,rfl⟩;rw[hq] at HN;have HQ:=z7 hq;clear h hT hq;go_enter func158,ntmps158;go_wp2_with fail;refine HN.out.mono ?_;rintro e w1 ⟨rfl,xH⟩;have uT:=HH.out.below xH;have h5:=uT.at_;have h7:=uT.z1;have De:=uT.move (i+1) (by omega);have HM:=z7 (show vJ p rs (i+1) d (w1.setCell ⟨p,1,none⟩ (.int .i64 ((i:Int)+1))) by rw[show(i:Int)+1=((i+1:Nat):Int) by omega];exact De);have fg:xl p w (w1.setCell ⟨p,1,none⟩ (.int .i64 ((i:Int)+1))):=(xl.of xH).UM 1 _;obtain⟨W,hW⟩:∃ W,w1.setCell ⟨p,1,none⟩ (.int .i64 ((i:Int)+1))=W:=⟨_,rfl⟩;rw[hW] at HM fg;have HW:=z7 hW;clear uT De xH HN hW;by_cases A2:q=39
 ·have ju:(q !=39)=false:=by rw[A2];rfl
  have mW:=HT.out;unfold kN at mW;rw[if_neg (by rw[HQ.out,A2];simp)] at mW;have Zb:=z7 mW;have Yp:=Xg p rs (i+1) d 39 W HM.out (by decide);clear mW HQ;subst A2;by_cases H7:xX rs (i+1)=39
  ·rw[show(xX rs (i+1)==39)=true by simpa using H7,if_pos H7] at Yp;have HTK:=z7 Yp;have HE:=z7 (show(enc 39,i+2)=(T1,T2) by have h:=Zb.out;rw[if_pos H7] at h;exact h);clear Yp H7;go_wp2_with fail;rw[HW.out];refine HTK.out.mono ?_;rintro e w2 ⟨rfl,qU,xB⟩;have di:=z7 qU;clear qU;go_wp2;go_ret;have he:=HE.out
   cases he;exact⟨rfl,di.out,fg.trans xB⟩
  ·rw[show(xX rs (i+1)==39)=false by simpa using H7,if_neg H7] at Yp;have HTK:=z7 Yp;have Wb:=Zb.out;rw[if_neg H7] at Wb;have ML:=z7 Wb;obtain⟨sp,sK⟩:∃ b,bO (xX rs (i+1)) num=b:=⟨_,rfl⟩;have sJ:=z7 sK;clear Yp Wb sK Zb;go_wp2_with fail;rw[HW.out];refine HTK.out.mono ?_;rintro e w2 ⟨rfl,qU,xB⟩;have di:=z7 qU;have ue:=fg.trans xB;clear qU xB HTK HW HM fg;go_wp2_with fail;refine(jP p rs (i+1) d w2 di.out).mono ?_;rintro e w3 ⟨rfl,uP⟩;have VC:=z7 (di.out.below uP);have dp:=ue.below uP;clear uP ue di;go_wp2_with fail;refine(Er (xX rs (i+1)) num w3).mono ?_;rintro e w' ⟨rfl,rfl⟩;rw[sJ.out]
   cases sp
   ·have HE:=z7 (show(enc 39,i+1)=(T1,T2) by have h:=ML.out;rw[if_pos sJ.out] at h;exact h);go_wp2;go_ret;have he:=HE.out
    cases he;exact⟨rfl,VC.out,dp⟩
   ·have HE:=z7 (show((vX (rs.drop (i+1))).1.flatMap enc,i+1+(vX (rs.drop (i+1))).2)=(T1,T2) by have h:=ML.out;rw[if_neg (by rw[sJ.out];simp)] at h;exact h);clear ML sJ HT H7;go_wp2_with fail;obtain⟨wq,bQ⟩:∃ x,x=w3:=⟨_,rfl⟩;obtain⟨E1,hE1⟩:∃ x,(vX (rs.drop (i+1))).1=x:=⟨_,rfl⟩;obtain⟨E2,hE2⟩:∃ x,i+1+(vX (rs.drop (i+1))).2=x:=⟨_,rfl⟩;have Dm:=z7 hE1;have HE2:=z7 hE2;clear hE1 hE2;go_loopw [5,6] (fun rv tv wr=>∃ (j:Nat) (r:Int) (acc:List Int),j<=rs.length/\rv = .int .i32 r/\vJ p rs j d wr/\xl p w wr/\wr.ownsRow w.heap.size 21 1 tv acc.length (acc.map (zX .i32))/\acc.length<=j/\acc++(vX (rs.drop j)).1=E1/\j+(vX (rs.drop j)).2=E2) (fun _ _ wr=>rs.length - MK p wr)
    case atStart=>exact⟨i+1,39,[],by omega,rfl,VC.out,dp,zS _ _ _ _,by simp,Dm.out,HE2.out⟩
    case round =>
     obtain⟨j,r,acc,hj,rfl,hs,qI,xJ,qd,sG,sF⟩:=hrel;have HS:=z7 hs;have HO:=z7 xJ;have sD:=z7 sG;have C1:=z7 sF;obtain⟨ta,tc,rfl⟩:=xY xJ;clear hs xJ sG sF;go_wp2_with fail;refine(jP p rs j d wr HS.out).mono ?_;rintro e w4 ⟨rfl,uQ⟩;have KE:=HS.out.below uQ;have bR:=z7 KE;have Dq:=z7 (UO HO.out (xl.of (p:=p) uQ) Qp);have XZ:=qI.below uQ;clear KE uQ qI;by_cases Zs:j<rs.length
     ·obtain⟨c,hc⟩:∃ c,xX rs j=c:=⟨_,rfl⟩;rw[hc];have Vm:0<=c:=by
       rw[←hc];unfold xX;rw[zg,zZ Zs];exact bR.out.pos _ (List.getElem_mem Zs)
      have qD:c≠-1:=by omega
      have HC:=z7 hc;clear hc;go_wp2_with fail;refine(jP p rs j d w4 bR.out).mono ?_;rintro e w5 ⟨rfl,jw⟩;rw[HC.out];have EE:=bR.out.below jw;have G6:=z7 (UO Dq.out (xl.of (p:=p) jw) Qp);have UP:=XZ.below jw;have g5:=EE.at_;have g7:=EE.z1;have De:=EE.move (j+1) (by omega);have hM:vJ p rs (j+1) d (w5.setCell ⟨p,1,none⟩ (.int .i64 ((j:Int)+1))):=by rw[show(j:Int)+1=((j+1:Nat):Int) by omega];exact De
      have hO6:=UO G6.out (xl.set p w5 1 (.int .i64 ((j:Int)+1))) Qp;have MM:xl p w (w5.setCell ⟨p,1,none⟩ (.int .i64 ((j:Int)+1))):=UP.UM 1 _;obtain⟨W6,G7⟩:∃ W,w5.setCell ⟨p,1,none⟩ (.int .i64 ((j:Int)+1))=W:=⟨_,rfl⟩;rw[G7] at hM hO6 MM;have HM6:=z7 hM;have sH:=z7 hO6;have HW6:=z7 G7;clear EE De hM hO6 jw UP G7;by_cases MN:c=39
      ·have XY:(c==39)=true:=by rw[MN];rfl
       have EC:=Xg p rs (j+1) d 39 W6 HM6.out (by decide);by_cases dE:xX rs (j+1)=39
       ·rw[show(xX rs (j+1)==39)=true by simpa using dE,if_pos dE] at EC;have A3:=z7 EC;have HQQ:=z7 (Ri Zs (HC.out.trans MN) dE);have MF:j+1<rs.length:=by
         apply zk;intro Pv;rw[qw (by omega)] at dE
         cases dE
        subst MN;clear EC dE;go_wp2_with fail;rw[HW6.out];refine A3.out.mono ?_;rintro e w7 ⟨rfl,hs7,jI⟩;have HS7:=z7 hs7;have sI:=z7 (UO sH.out jI Qp);have Rm:=MM.trans jI;have xzz:w.heap.size<=w7.heap.size:=Rm.size;clear hs7 jI A3;go_wp2_with (first|(at_builtin;refine qG Jw rfl _ _ rfl w.heap.size _ acc.length (acc.map (zX .i32)) rfl (sI.out.alloc _) ⟨w7.heap.size,0,none⟩ 1 1 [.int .i32 39] rfl rfl ?a1 ?a2 ?a3 ?a4 ?_)|fail)
        case a1=>exact cells_one (xq _ _ _ _ _)
        case a2 =>
         intro u hu;simp at hu;subst hu;rfl
        case a3=>have:=HS7.out.len;omega
        case a4=>simp;omega
        intro v8 w8 A4 hg8;have H8:∀ q,(Value.slice ta acc.length tc).ownBlock=some q->w.heap.size<=q:=fun q hq=>(sI.out.lt q hq).1
        have zzf:xl p w w8:=(Rm.below ((zj _ _).alloc (z8 _) _)).grown hg8 H8;have hS8:=(HS7.out.below ((zj _ _).alloc (z8 _) _)).grown hg8 (fun q hq=>by have:=H8 q hq;omega);have HS8:=z7 hS8;have HO8:=z7 (show w8.ownsRow w.heap.size 21 1 v8 (acc++[39]).length ((acc++[39]).map (zX .i32)) by simpa using A4);clear A4 hg8 hS8;go_wp2;go_roundw
        case rel=>exact⟨j+2,39,acc++[39],by omega,rfl,HS8.out,zzf,HO8.out,by simp;omega,by rw[←sD.out,HQQ.out];simp,by rw[←C1.out,HQQ.out];omega⟩
        case measure=>rw[vG HS8.out,vG HS.out];omega
       ·rw[show(xX rs (j+1)==39)=false by simpa using dE,if_neg dE] at EC;have A3:=z7 EC;have mz:=MI Zs (HC.out.trans MN) dE;have UU:=z7 (show acc=E1 by rw[←sD.out,mz];simp);have dI:=z7 (show j+1=E2 by rw[←C1.out,mz]);subst MN;clear EC dE mz;go_wp2_with fail;rw[HW6.out];refine A3.out.mono ?_;rintro e w7 ⟨rfl,hs7,jI⟩;have HS7:=z7 hs7;have sI:=z7 (UO sH.out jI Qp);have Rm:=MM.trans jI;have hcv:=G0 sI.out;clear hs7 jI A3;go_wp2;go_ret;have he:=HE.out;rw[Dm.out,HE2.out] at he
        cases he;exact⟨by rw[UU.out];rfl,by rw[←dI.out];exact HS7.out,Rm⟩
      ·have XY:(c==39)=false:=by simpa using MN
       have HQQ:=z7 (MH Zs (fun e=>MN (HC.out.symm.trans e)));have yux:w.heap.size<=W6.heap.size:=MM.size;have yuv:=HW6.out;subst yuv;go_wp2_with (first|(at_builtin;refine qG Jw rfl _ _ rfl w.heap.size _ acc.length (acc.map (zX .i32)) rfl (sH.out.alloc _) ⟨w5.heap.size,0,none⟩ 1 1 [.int .i32 c] rfl rfl ?a1 ?a2 ?a3 ?a4 ?_)|fail)
       case a1 =>
        have e:(w5.setCell ⟨p,1,none⟩ (.int .i64 ((j:Int)+1))).heap.size=w5.heap.size:=by simp[World.setCell]
        have h:=xq (w5.setCell ⟨p,1,none⟩ (.int .i64 ((j:Int)+1))) #[.int .i32 c] 21 (0,0) 0;rw[e] at h;exact cells_one h
       case a2 =>
        intro u hu;simp at hu;subst hu;rfl
       case a3=>have:=HM6.out.len;omega
       case a4=>exact zy yux (by simp)
       intro v8 w8 A4 hg8;have H8:∀ q,(Value.slice ta acc.length tc).ownBlock=some q->w.heap.size<=q:=fun q hq=>(sH.out.lt q hq).1
       have zzf:xl p w w8:=(MM.below ((zj _ _).alloc (z8 _) _)).grown hg8 H8;have hS8:=(HM6.out.below ((zj _ _).alloc (z8 _) _)).grown hg8 (fun q hq=>by have:=H8 q hq;omega);have HS8:=z7 hS8;have HO8:=z7 (show w8.ownsRow w.heap.size 21 1 v8 (acc++[c]).length ((acc++[c]).map (zX .i32)) by simpa using A4);clear A4 hg8 hS8;go_wp2;go_roundw
       case rel=>exact⟨j+1,c,acc++[c],by omega,rfl,HS8.out,zzf,HO8.out,by simp;omega,by rw[←sD.out,HQQ.out,HC.out];simp,by rw[←C1.out,HQQ.out];omega⟩
       case measure=>rw[vG HS8.out,vG HS.out];omega
     ·have HX:=z7 (Re (rs:=rs) (j:=j) (by omega));have HNE:=z7 (qw (rs:=rs) (i:=j) (by omega));have hcv:=G0 Dq.out;rw[HNE.out];go_wp2;go_ret;have he:=HE.out;rw[Dm.out,HE2.out] at he;have e1:=sD.out;have e2:=C1.out;rw[HX.out] at e1 e2
      cases he;exact⟨by rw[←e1];first|(simp;done)|(simp;rfl),by rw[←e2];exact bR.out,XZ⟩
 ·have ju:(q !=39)=true:=by simpa using A2
  have mW:=HT.out;unfold kN at mW;rw[if_pos (by rw[HQ.out];exact A2)] at mW;have Zb:=z7 mW;clear mW;go_wp2;go_ret;have h:=Zb.out;rw[HQ.out] at h
  cases h;exact⟨rfl,by rw[HW.out];exact HM.out,by rw[HW.out];exact fg⟩
def Rn:Wd:=[115,101,108,101,99,116]
def H9:Wd:=[112,108,117,114,97,108]
def A5:Wd:=[115,101,108,101,99,116,111,114,100,105,110,97,108]
def VE(m:Wd):Option Nat:=if m=Rn then some 0 else if m=H9 then some 1 else if m=A5 then some 2 else none
def C9(w:World)(b:Nat):Prop :=
 ∃ D:DataW Unit,w.ownsMap prog 9 (plainElem prog 178) b 3 D/\∀ m:Wd,Maps.has D (.string m)=(VE m).isSome/\D.atKey (.string m) (.lit (.int .i64 0)) = .lit (.int .i64 (((VE m).getD 0:Nat):Int))
theorem C9.look{w:World}{b:Nat}(h:C9 w b)(m:Wd)(hm:m.length<=5000000) :
  (Instr.lookup 321 (.map (some b)) (xf m) true).run prog w = .ok (.tuple #[.int .i64 (((VE m).getD 0:Nat):Int),.bool (VE m).isSome]) w:=by
 obtain⟨D,h1,h3⟩:=h;obtain⟨v,ps,vH,hv⟩:=h1.look_ok (zf underlying9) underlying321 (z := .int .i64 0) (by first|rfl|simp[go_sem]) (plainElem_int underlying178 (by decide))
  (key:=xf m) (zx (s:=⟨m.toArray⟩) underlying9 (by rw[size_mk];unfold maxLen;omega))
 rw[toList_mk] at vH hv;rw[(h3 m).1] at vH;rw[(h3 m).2] at hv;obtain⟨c,rfl,hc,_⟩:=plainElem_int_inv underlying178 hv;simp only[Prod.mk.injEq,DataW.lit.injEq,Lit.int.injEq] at hc;rw[vH,←hc.1.2]
theorem Ro(w:World):Calls prog 201 #[] w fun e w'=>(∃ b,e = .returned (.map (some b))/\C9 w' b)/\Below w.heap.size w w':=by
 have M4:=@run_makeMap prog;go_enter func201,ntmps201;go_wp2;obtain⟨w1,sM,VH,Zp⟩:=(World.ownsMap_made (H:=Unit) w prog 9 (plainElem prog 178)).update (zf underlying9) underlying321 (by unfold maxLen;omega) (zx (s:=⟨#[115,101,108,101,99,116]⟩) underlying9 (by decide)) (plainElem_int underlying178 (q := .i64) (a:=0) (by decide));rw[sM];simp only[zL];clear sM;go_wp2;obtain⟨w2,sN,KR,dy⟩:=(VH).update (zf underlying9) underlying321 (by unfold maxLen;omega) (zx (s:=⟨#[112,108,117,114,97,108]⟩) underlying9 (by decide)) (plainElem_int underlying178 (q := .i64) (a:=1) (by decide));rw[sN];simp only[zL];clear sN;go_wp2;obtain⟨w3,sO,A6,hg3⟩:=(KR).update (zf underlying9) underlying321 (by unfold maxLen;omega) (zx (s:=⟨#[115,101,108,101,99,116,111,114,100,105,110,97,108]⟩) underlying9 (by decide)) (plainElem_int underlying178 (q := .i64) (a:=2) (by decide));rw[sO];simp only[zL];clear sO;go_wp2;go_ret;have hb:Below w.heap.size w w3:=((((zj _ _).alloc (z8 _) _).grown Zp (by simp) (fun q hq=>by cases hq;exact z8 _)).grown dy (zy (by simp) Zp.size) (fun q hq=>by cases hq;exact z8 _)).grown hg3 (zy (zy (by simp) Zp.size) dy.size) (fun q hq=>by cases hq;exact z8 _);refine⟨⟨_,rfl,_,A6,fun m=>?_⟩,hb⟩;have hm:Maps.IsMap (zW []:DataW Unit):=⟨_,rfl⟩;have k1:zH (.string Rn):=trivial;have k2:zH (.string H9):=trivial;have k3:zH (.string A5):=trivial;show Maps.has ((((zW []:DataW Unit).put (.string Rn) (.lit (.int .i64 0))).put (.string H9) (.lit (.int .i64 1))).put (.string A5) (.lit (.int .i64 2))) (.string m)=_/\((((zW []:DataW Unit).put (.string Rn) (.lit (.int .i64 0))).put (.string H9) (.lit (.int .i64 1))).put (.string A5) (.lit (.int .i64 2))).atKey (.string m) (.lit (.int .i64 0))=_;have h1:=hm.put (.string Rn) (.lit (.int .i64 0));have h2:=h1.put (.string H9) (.lit (.int .i64 1));have ne:∀ {a b:Wd},a≠b->(Lit.string a) ≠ .string b:=fun h e=>h (by cases e;rfl)
 unfold VE;by_cases e3:m=A5
 ·subst e3;rw[zD h2 k3,zQ h2 k3,if_neg (by decide),if_neg (by decide),if_pos rfl];exact⟨rfl,rfl⟩
 ·rw[zG (ne e3),zV (ne e3)];by_cases e2:m=H9
  ·subst e2;rw[zD h1 k2,zQ h1 k2,if_neg (by decide),if_pos rfl];exact⟨rfl,rfl⟩
  ·rw[zG (ne e2),zV (ne e2)];by_cases e1:m=Rn
   ·subst e1;rw[zD hm k1,zQ hm k1,if_pos rfl];exact⟨rfl,rfl⟩
   ·rw[zG (ne e1),zV (ne e1),if_neg e1,if_neg e2,if_neg e3];exact⟨rfl,rfl⟩
inductive Fo where
 | nil:Fo
 | text (t:Wd) (r:Fo):Fo
 | hash (r:Fo):Fo
 | put (name:Wd) (pl:Nat) (r:Fo):Fo
 | num (name:Wd) (pl:Nat) (r:Fo):Fo
 | br (name:Wd) (pl form:Nat) (off:Wd) (close:Nat) (bs r:Fo):Fo
 | uq (key:Wd) (pl:Nat) (msg r:Fo):Fo
namespace Fo
def len:Fo->Nat
 | nil=>0
 | text _ r=>r.len+1
 | hash r=>r.len+1
 | put _ _ r=>r.len+1
 | num _ _ r=>r.len+1
 | br _ _ _ _ _ _ r=>r.len+1
 | uq _ _ _ r=>r.len+1
def app:Fo->Fo->Fo
 | nil,g=>g
 | text t r,g=>text t (r.app g)
 | hash r,g=>hash (r.app g)
 | put n a r,g=>put n a (r.app g)
 | num n a r,g=>num n a (r.app g)
 | br n a f o c b r,g=>br n a f o c b (r.app g)
 | uq k a m r,g=>uq k a m (r.app g)
theorem uK:∀ f g:Fo,(f.app g).len=f.len+g.len
 | nil,g=>by simp[app,len]
 | text t r,g=>by simp[app,len,uK r g];omega
 | hash r,g=>by simp[app,len,uK r g];omega
 | put n a r,g=>by simp[app,len,uK r g];omega
 | num n a r,g=>by simp[app,len,uK r g];omega
 | br n a f o c b r,g=>by simp[app,len,uK r g];omega
 | uq k a m r,g=>by simp[app,len,uK r g];omega
def xR:Fo->Wd->Fo
 | nil,t=>text t nil
 | text s nil,t=>text (s++t) nil
 | text s r,t=>text s (r.xR t)
 | hash r,t=>hash (r.xR t)
 | put n a r,t=>put n a (r.xR t)
 | num n a r,t=>num n a (r.xR t)
 | br n a f o c b r,t=>br n a f o c b (r.xR t)
 | uq k a m r,t=>uq k a m (r.xR t)
def xD:Fo->Option Wd
 | nil=>none
 | text s nil=>some s
 | text _ r=>r.xD
 | hash r=>r.xD
 | put _ _ r=>r.xD
 | num _ _ r=>r.xD
 | br _ _ _ _ _ _ r=>r.xD
 | uq _ _ _ r=>r.xD
def vD:Fo->Bool
 | nil=>true
 | text _ r=>r.vD
 | hash r=>r.vD
 | put _ _ r=>r.vD
 | num _ _ r=>r.vD
 | br _ _ _ _ _ _ r=>r.vD
 | uq _ _ _ _=>false
end Fo
def xL(o:Wd):Nat:=o.foldl (fun v c=>10*v+(c.toNat - 48)) 0
def Vn(lo hi:Nat)(w:World)(a:Option Addr)(vs:List Value):Prop:=∀ j (h:j<vs.length),∃ g o,a=some ⟨g,o,none⟩/\lo<=g/\g<hi/\w.cell? ⟨g,o+j,none⟩=some vs[j]
def xV(lo hi:Nat)(w:World):List Value->Fo->Prop
 | vs,.nil=>vs=[]
 | vs,.text t r=>∃ vt,vs = .iface 262 (xf t)::vt/\xV lo hi w vt r
 | vs,.hash r=>∃ vt,vs = .iface 264 (.agg #[])::vt/\xV lo hi w vt r
 | vs,.put n a r=>∃ vt b,vs = .iface 172 (.pointer (some ⟨b,0,none⟩))::vt/\lo<=b/\b<hi/\w.cell? ⟨b,0,none⟩=some (xf n)/\w.cell? ⟨b,1,none⟩=some (.int .i64 a)/\xV lo hi w vt r
 | vs,.num n a r=>∃ vt b,vs = .iface 175 (.pointer (some ⟨b,0,none⟩))::vt/\lo<=b/\b<hi/\w.cell? ⟨b,0,none⟩=some (xf n)/\w.cell? ⟨b,1,none⟩=some (.int .i64 a)/\xV lo hi w vt r
 | vs,.br n a f o c bs r=>∃ vt b ba bc ws,vs = .iface 177 (.pointer (some ⟨b,0,none⟩))::vt/\lo<=b/\b<hi/\w.cell? ⟨b,0,none⟩=some (xf n)/\w.cell? ⟨b,1,none⟩=some (.int .i64 a) /\
   w.cell? ⟨b,2,none⟩=some (.int .i64 f)/\w.cell? ⟨b,3,none⟩=some (.int .i64 (xL o))/\w.cell? ⟨b,4,none⟩=some (.slice ba bs.len bc)/\w.cell? ⟨b,5,none⟩=some (.int .i64 c) /\
   Vn lo hi w ba ws/\xV lo hi w ws bs/\xV lo hi w vt r
 | vs,.uq k a m r=>∃ vt ma mc ws,vs=xf k :: .int .i64 a :: .slice ma m.len mc::vt/\Vn lo hi w ma ws/\xV lo hi w ws m/\xV lo hi w vt r
theorem Vn.keep{lo hi lo' hi':Nat}{w w':World}{a:Option Addr}{vs:List Value}(h:Vn lo hi w a vs)(hk:vK lo hi w w')(h1:lo'<=lo)(h2:hi<=hi'):Vn lo' hi' w' a vs:=fun j hj=>by
 obtain⟨g,o,e1,e2,e3,e4⟩:=h j hj;exact⟨g,o,e1,by omega,by omega,(hk.cell (p:=⟨g,o+j,none⟩) e2 e3).trans e4⟩
theorem xV.keep{lo hi lo' hi':Nat}{w w':World}(hk:vK lo hi w w')(h1:lo'<=lo)(h2:hi<=hi'):∀ (f:Fo) (vs:List Value),xV lo hi w vs f->xV lo' hi' w' vs f
 | .nil,vs,h=>h
 | .text t r,vs,h=>by
  obtain⟨vt,e,hr⟩:=h;exact⟨vt,e,xV.keep hk h1 h2 r vt hr⟩
 | .hash r,vs,h=>by
  obtain⟨vt,e,hr⟩:=h;exact⟨vt,e,xV.keep hk h1 h2 r vt hr⟩
 | .put n a r,vs,h=>by
  obtain⟨vt,b,e,l1,l2,c0,c1,hr⟩:=h;exact⟨vt,b,e,by omega,by omega,(hk.cell (p:=⟨b,0,none⟩) l1 l2).trans c0,(hk.cell (p:=⟨b,1,none⟩) l1 l2).trans c1,xV.keep hk h1 h2 r vt hr⟩
 | .num n a r,vs,h=>by
  obtain⟨vt,b,e,l1,l2,c0,c1,hr⟩:=h;exact⟨vt,b,e,by omega,by omega,(hk.cell (p:=⟨b,0,none⟩) l1 l2).trans c0,(hk.cell (p:=⟨b,1,none⟩) l1 l2).trans c1,xV.keep hk h1 h2 r vt hr⟩
 | .br n a f o c bs r,vs,h=>by
  obtain⟨vt,b,ba,bc,ws,e,l1,l2,c0,c1,c2,c3,c4,c5,vL,UQ,hr⟩:=h;exact⟨vt,b,ba,bc,ws,e,by omega,by omega,(hk.cell (p:=⟨b,0,none⟩) l1 l2).trans c0,(hk.cell (p:=⟨b,1,none⟩) l1 l2).trans c1,(hk.cell (p:=⟨b,2,none⟩) l1 l2).trans c2,(hk.cell (p:=⟨b,3,none⟩) l1 l2).trans c3,
   (hk.cell (p:=⟨b,4,none⟩) l1 l2).trans c4,(hk.cell (p:=⟨b,5,none⟩) l1 l2).trans c5,vL.keep hk h1 h2,xV.keep hk h1 h2 bs ws UQ,xV.keep hk h1 h2 r vt hr⟩
 | .uq k a m r,vs,h=>by
  obtain⟨vt,ma,mc,ws,e,vL,hm,hr⟩:=h;exact⟨vt,ma,mc,ws,e,vL.keep hk h1 h2,xV.keep hk h1 h2 m ws hm,xV.keep hk h1 h2 r vt hr⟩
theorem xV.app{lo hi:Nat}{w:World}{us:List Value}{g:Fo}(hg:xV lo hi w us g):∀ (f:Fo) (vs:List Value),xV lo hi w vs f->xV lo hi w (vs++us) (f.app g)
 | .nil,vs,h=>by
  have e:vs=[]:=h;subst e;exact hg
 | .text t r,vs,h=>by
  obtain⟨vt,rfl,hr⟩:=h;exact⟨_,rfl,xV.app hg r vt hr⟩
 | .hash r,vs,h=>by
  obtain⟨vt,rfl,hr⟩:=h;exact⟨_,rfl,xV.app hg r vt hr⟩
 | .put n a r,vs,h=>by
  obtain⟨vt,b,rfl,l1,l2,c0,c1,hr⟩:=h;exact⟨_,b,rfl,l1,l2,c0,c1,xV.app hg r vt hr⟩
 | .num n a r,vs,h=>by
  obtain⟨vt,b,rfl,l1,l2,c0,c1,hr⟩:=h;exact⟨_,b,rfl,l1,l2,c0,c1,xV.app hg r vt hr⟩
 | .br n a f o c bs r,vs,h=>by
  obtain⟨vt,b,ba,bc,ws,rfl,l1,l2,c0,c1,c2,c3,c4,c5,vL,UQ,hr⟩:=h;exact⟨_,b,ba,bc,ws,rfl,l1,l2,c0,c1,c2,c3,c4,c5,vL,UQ,xV.app hg r vt hr⟩
 | .uq k a m r,vs,h=>by
  obtain⟨vt,ma,mc,ws,rfl,vL,hm,hr⟩:=h;exact⟨_,ma,mc,ws,rfl,vL,hm,xV.app hg r vt hr⟩
def Fo.ub:Fo->Bool
 | .nil=>true
 | .uq _ _ _ r=>r.ub
 | _=>false
theorem xV.count{lo hi:Nat}{w:World}:∀ (f:Fo) (vs:List Value),xV lo hi w vs f->f.vD=true->vs.length=f.len
 | .nil,vs,h,_=>by
  have e:vs=[]:=h;subst e;rfl
 | .text t r,vs,h,hm=>by
  obtain⟨vt,rfl,hr⟩:=h;simp[Fo.len,xV.count r vt hr hm]
 | .hash r,vs,h,hm=>by
  obtain⟨vt,rfl,hr⟩:=h;simp[Fo.len,xV.count r vt hr hm]
 | .put n a r,vs,h,hm=>by
  obtain⟨vt,b,rfl,l1,l2,c0,c1,hr⟩:=h;simp[Fo.len,xV.count r vt hr hm]
 | .num n a r,vs,h,hm=>by
  obtain⟨vt,b,rfl,l1,l2,c0,c1,hr⟩:=h;simp[Fo.len,xV.count r vt hr hm]
 | .br n a f o c bs r,vs,h,hm=>by
  obtain⟨vt,b,ba,bc,ws,rfl,l1,l2,c0,c1,c2,c3,c4,c5,vL,UQ,hr⟩:=h;simp[Fo.len,xV.count r vt hr hm]
 | .uq k a m r,vs,h,hm=>by cases hm
abbrev kX(α:Type):=Except (Nat×Nat) (α×Nat)
def kX.then{α β:Type}(x:kX α)(k:α->Nat->kX β):kX β:=match x with | .error e => .error e | .ok (a,i)=>k a i
theorem then_ok{α β:Type}(a:α)(i:Nat)(k:α->Nat->kX β):kX.then (.ok (a,i)) k=k a i:=rfl
def vS(rs:List Int)(r:Int)(i:Nat):kX Unit:=if xX rs i=r then .ok ((),i+1) else .error (3,i)
def jS(rs:List Int)(i:Nat):kX Wd:=if qo rs i=0 then .error (3,i) else .ok (qi rs i (qo rs i),i+qo rs i)
def kz(rs:List Int)(i:Nat):kX Wd:=if qv rs i=0 then .error (3,i) else .ok (qi rs i (qv rs i),i+qv rs i)
abbrev ky:=Bool->Nat->kX Fo
def UR(rs:List Int)(num:Bool)(i:Nat):kX Wd :=
 if num=true/\xX rs i=61 then (kz rs (i+1)).then fun k j => .ok (61::k,j)
 else (jS rs i).then fun k j=>if num=true/\k ∉ VB then .error (3,i) else .ok (k,j)
def VI(rs:List Int):Option ky->Bool->Wd->Nat->Nat->Nat->kX Fo
 | none,_,_,_,o,_ => .error (4,o)
 | some m,num,k,i,_,l=>(m num l).then fun f q=>(vS rs 125 q).then fun _ z => .ok (.uq k i f .nil,xP rs z)
def ZZ(rs:List Int)(msg:Option ky)(num:Bool)(i:Nat):kX Fo :=
 (UR rs num i).then fun k j=>(vS rs 123 (xP rs j)).then fun _ l=>VI rs msg num k i (xP rs j) l
def kQ(rs:List Int)(msg:Option ky)(num:Bool):Nat->Fo->Nat->kX Fo
 | 0,_,i => .error (3,i)
 | n+1,acc,i=>if xX rs i=125/\acc.len≠0 then .ok (acc,i) else (ZZ rs msg num i).then fun f j=>kQ rs msg num n (acc.app f) j
def zzd:Wd:=[110,117,109,98,101,114]
def Qr(rs:List Int)(form:Nat)(i:Nat):kX Wd :=
 if form≠0/\Dv rs i=true then (kz rs (xP rs (i+7))).then fun o j => .ok (o,xP rs j) else .ok ([48],i)
def ZY(rs:List Int)(msg:Option ky)(i:Nat):kX Fo :=
 (vS rs 123 i).then fun _ a =>
 (jS rs (xP rs a)).then fun name b =>
 if xX rs (xP rs b)≠44 then (vS rs 125 (xP rs b)).then fun _ z => .ok (.put name i .nil,z)
 else (jS rs (xP rs (xP rs b+1))).then fun w c =>
  if w=zzd then (vS rs 125 (xP rs c)).then fun _ z => .ok (.num name i .nil,z)
  else match VE w with
   | none => .error (3,xP rs (xP rs b+1))
   | some form=>(vS rs 44 (xP rs c)).then fun _ d=>(Qr rs form (xP rs d)).then fun o l =>
    (kQ rs msg (decide (form≠0)) (rs.length+1) .nil l).then fun bs q=>(vS rs 125 q).then fun _ z => .ok (.br name i form o q bs .nil,z)
def uF(rs:List Int)(msg:Option ky)(num:Bool):Nat->Fo->Nat->kX Fo
 | 0,_,i => .error (3,i)
 | n+1,acc,i =>
  if xX rs i = -1\/xX rs i=125 then .ok (acc,i)
  else if xX rs i=123 then (ZY rs msg i).then fun f j=>uF rs msg num n (acc.app f) j
  else if xX rs i=35/\num=true then uF rs msg num n (acc.app (.hash .nil)) (i+1)
  else uF rs msg num n (acc.xR (kN rs num i).1) (kN rs num i).2
def fF(rs:List Int):Nat->ky
 | 0=>fun num i=>uF rs none num (rs.length+1) .nil i
 | n+1=>fun num i=>uF rs (some (fF rs n)) num (rs.length+1) .nil i
def ZR(rs:List Int):kX Fo:=(fF rs 5 false 0).then fun f i=>if xX rs i = -1 then .ok (f,i) else .error (3,i)
structure KS(p:Nat)(w:World):Prop where
 names:qP w
 ne:0≠p
theorem KS.but{p:Nat}{w w':World}(h:KS p w)(hb:xl p w w'):KS p w':=⟨fun j hj=>hb.cell (h.names j hj) h.ne,h.ne⟩
def za1(p:Nat)(rs:List Int)(d:Nat)(r:kX Fo)(w:World)(e:Ending)(w':World):Prop :=
 (match r with
  | .error (n,a)=>Qn p n a e w'
  | .ok (f,j)=>(∃ a c,e = .returned (.slice a f.len c)/\∃ vs,Vn w.heap.size w'.heap.size w' a vs/\xV w.heap.size w'.heap.size w' vs f)/\f.vD=true/\vJ p rs j d w')/\xl p w w'
theorem bS(rs:List Int)(i n:Nat):(qi rs i n).length<=4*rs.length:=by
 have hh:∀ l:List Int,(l.flatMap enc).length<=4*l.length:=by
  intro l;induction l with
  | nil=>simp
  | cons a t ih=>have:=(kD a).1;simp only[zE,List.length_append,List.length_cons];omega
 have h1:=hh ((rs.drop i).take n);have h2:((rs.drop i).take n).length<=rs.length:=by simp;omega
 unfold qi;omega
def mr(p:Nat)(rs:List Int)(d:Nat)(m:ky):Prop:=∀ (num:Bool) (i:Nat) (w:World),vJ p rs i d w->KS p w ->
 Calls prog 111 #[.pointer (some ⟨p,0,none⟩),.bool num] w (za1 p rs d (m num i) w)
def zzb(p:Nat)(rs:List Int)(d:Nat)(r:kX Fo)(w:World)(e:Ending)(w':World):Prop :=
 (match r with
  | .error (n,a)=>Qn p n a e w'
  | .ok (f,j)=>(∃ k pl m ma mc,f = .uq k pl m .nil/\e = .returned (.agg #[xf k,.int .i64 pl,.slice ma m.len mc])/\m.vD=true/\∃ vs,Vn w.heap.size w'.heap.size w' ma vs/\xV w.heap.size w'.heap.size w' vs m)/\vJ p rs j d w')/\xl p w w'
structure G8(B:Nat)(v0 v1 v2:Value)(w:World):Prop where
 c0:w.cell? ⟨B,0,none⟩=some v0
 c1:w.cell? ⟨B,1,none⟩=some v1
 c2:w.cell? ⟨B,2,none⟩=some v2
 z:∀ j,w.frozen? ⟨B,j,none⟩=false
theorem G8.but{B p:Nat}{v0 v1 v2:Value}{w w':World}(h:G8 B v0 v1 v2 w)(hb:xl p w w')(xw:B≠p):G8 B v0 v1 v2 w' :=
 ⟨hb.cell h.c0 xw,hb.cell h.c1 xw,hb.cell h.c2 xw,fun j=>(World.frozen?_of_block (a:=⟨B,j,none⟩) (hb.block B (zv w _ h.c0) xw)).trans (h.z j)⟩
theorem G8.Yw{B:Nat}{v0 v1 v2 u:Value}{w:World}(h:G8 B v0 v1 v2 w):G8 B u v1 v2 (w.setCell ⟨B,0,none⟩ u) :=
 ⟨by rw[xd,if_pos rfl,h.c0];rfl,by rw[xd,if_neg (by simp)];exact h.c1,by rw[xd,if_neg (by simp)];exact h.c2,fun j=>by rw[zN];exact h.z j⟩
theorem G8.zy0{B:Nat}{v0 v1 v2 u:Value}{w:World}(h:G8 B v0 v1 v2 w):G8 B v0 v1 u (w.setCell ⟨B,2,none⟩ u) :=
 ⟨by rw[xd,if_neg (by simp)];exact h.c0,by rw[xd,if_neg (by simp)];exact h.c1,by rw[xd,if_pos rfl,h.c2];rfl,fun j=>by rw[zN];exact h.z j⟩
theorem xl.own{p:Nat}{w w':World}(h:xl p w w'){B:Nat}(hB:w.heap.size<=B)(j:Nat)(u:Value):xl p w (w'.setCell ⟨B,j,none⟩ u) :=
 ⟨h.os,h.tape,h.output,zy h.size (by simp[zU]),fun k hk hp=>(zJ _ _ _ _ (by show k≠B;omega)).trans (h.block k hk hp)⟩
theorem vK.put{lo hi:Nat}{w W:World}(h:vK lo hi w W){B:Nat}(hB:B<lo)(j:Nat)(u:Value):vK lo hi w (W.setCell ⟨B,j,none⟩ u) :=
 ⟨zy h.1 (by simp[zU]),fun k h1 h2=>(zJ _ _ _ _ (by show k≠B;omega)).trans (h.2 k h1 h2)⟩
theorem vK.but{lo hi p:Nat}{w W W':World}(h:vK lo hi w W)(hb:xl p W W')(hp:p<lo):vK lo hi w W' :=
 ⟨zy h.1 hb.size,fun k h1 h2=>(hb.block k (zF h2 h.1) (by omega)).trans (h.2 k h1 h2)⟩
theorem vJ.own{p:Nat}{rs:List Int}{i d:Nat}{w:World}(h:vJ p rs i d w){B:Nat}(hB:p<B)(j:Nat)(u:Value):vJ p rs i d (w.setCell ⟨B,j,none⟩ u) :=
 h.grown (row:=some B) ⟨rfl,rfl,rfl,by simp[zU],fun k _ hk=>zJ _ _ _ _ (fun e=>hk (by rw[e]))⟩ (fun q hq=>by cases hq;exact hB)
theorem MO(p:Nat)(rs:List Int)(i d:Nat)(num:Bool)(msg:Option ky)(w:World)(h:vJ p rs i d w)(he:KS p w)(hd:msg=none ↔ d=6)(hm:∀ m,msg=some m->mr p rs d m) :
  Calls prog 204 #[.pointer (some ⟨p,0,none⟩),.bool num] w (zzb p rs d (ZZ rs msg num i) w):=by
 have HH:=z7 h;have G9:=z7 he;have HD:=z7 hd;have HMC:=z7 hm;have Qp:=h.lt;have h5:=h.at_;obtain⟨R,hR⟩:∃ R,ZZ rs msg num i=R:=⟨_,rfl⟩;rw[hR];have HR:=z7 hR;clear h he hd hm hR
 cases num
 ·go_enter func204,ntmps204;go_wp2_with fail;refine vz ?_;intro W hW;have gP:Below w.heap.size w W:=by rw[hW];exact(zj _ _).alloc (z8 _) _
  have MP:G8 w.heap.size (.string ⟨#[]⟩) (.int .i64 i) (.slice none 0 0) W:=by
   rw[hW];exact⟨xq _ _ _ _ _,xq _ _ _ _ _,xq _ _ _ _ _,fun j=>by go_simp⟩
  clear hW h5;obtain⟨B,hB⟩:∃ B,w.heap.size=B:=⟨_,rfl⟩;rw[hB] at MP ⊢;have HB:=z7 hB;have M5:p<B:=by omega
  have n7:=z7 MP;clear hB MP;obtain⟨Qs,Gz⟩:∃ b,b=false:=⟨_,rfl⟩;refine(UN p rs i d W (HH.out.below gP)).mono ?_;rintro e x0 ⟨hq,Ju⟩;have jQ:=(xl.of (p:=p) gP).trans Ju;have HL0:=z7 (n7.out.but Ju (by omega));by_cases qX:qo rs i=0
  ·rw[if_pos qX] at hq;have Zb:=z7 (show R = .error (3,i) by rw[←HR.out];unfold ZZ UR jS;rw[if_neg (by simp),if_pos qX];rfl);have HQ:=z7 hq;obtain⟨bf,rfl,_,_⟩:=hq;clear qX;go_wp2;exact⟨rfl,by rw[Zb.out];exact HQ.out,jQ⟩
  ·rw[if_neg qX] at hq;obtain⟨rfl,EH⟩:=hq;obtain⟨K,hK⟩:∃ K,qi rs i (qo rs i)=K:=⟨_,rfl⟩;obtain⟨j,hj⟩:∃ j,i+qo rs i=j:=⟨_,rfl⟩;rw[hj] at EH;rw[hK];have HT:=z7 (show R=(vS rs 123 (xP rs j)).then fun _ l=>VI rs msg Qs K i (xP rs j) l by
    rw[←HR.out,Gz];unfold ZZ UR jS;rw[if_neg (by simp),if_neg qX,hK,hj];first|rfl|(simp[then_ok];done))
   have HS0:=z7 EH;have zz:=HL0.out.z 0;have z0:=HL0.out.c0;have z1:=HL0.out.c1;have JE:=z7 (HS0.out.own M5 0 (xf K));have Dk:=z7 (HL0.out.Yw (u:=xf K));have D1:xl p w (x0.setCell ⟨B,0,none⟩ (xf K)):=jQ.own (by have:=HB.out;omega) 0 _;obtain⟨X,hX⟩:∃ X,x0.setCell ⟨B,0,none⟩ (xf K)=X:=⟨_,rfl⟩;rw[hX] at JE Dk D1;have HX:=z7 hX;clear EH qX hK hj hX Ju jQ;go_wp2_with fail;rw[HX.out];have HL:=Dk;have HS:=JE;have ZJ:=D1;clear Dk JE D1;obtain⟨J,hJ⟩:∃ J,xP rs j=J:=⟨_,rfl⟩;rw[hJ] at HT;have HJ:=z7 hJ;clear hJ;refine(qg p rs j d X HS.out).mono ?_;rintro e x1 ⟨rfl,uT,dH⟩;rw[HJ.out] at uT;have xH:=ZJ.trans dH;have gM:=z7 uT;have MR:=z7 (HL.out.but dH (by omega));have g5:=uT.at_;clear uT dH HJ HL HS ZJ;go_wp2_with fail;refine(jf p rs J d 123 x1 gM.out (by decide)).mono ?_;rintro e x2 ⟨hq,q9⟩;have xB:=xH.trans q9;have my:=z7 (MR.out.but q9 (by omega));clear g5;by_cases hw:xX rs J=123
   ·rw[if_pos hw] at hq;obtain⟨rfl,qU⟩:=hq;have di:=z7 qU;have g6:=qU.deep;have Zb:=z7 (show R=VI rs msg Qs K i J (J+1) by rw[HT.out];unfold vS;rw[if_pos hw];rfl);clear qU hw HT
    cases msg with
    | none =>
     have Hz:d=6:=HD.out.1 rfl;subst Hz;go_wp2_with fail;refine(dU p 4 J x2 di.out.KO).mono ?_;rintro e x3 ⟨hf,Hy⟩;have HF:=z7 hf;obtain⟨bf,rfl,_,_⟩:=hf;go_wp2;exact⟨rfl,by rw[Zb.out];exact HF.out,xB.below Hy⟩
    | some m =>
     have Hz:d≠6:=fun e=>by have:=HD.out.2 e;cases this
     have za3:((d:Int)==6)=false:=by simp;omega
     have vE:=HMC.out m rfl Qs (J+1) x2 di.out (G9.out.but xB);obtain⟨r,hr⟩:∃ r,m Qs (J+1)=r:=⟨_,rfl⟩;rw[hr] at vE;rw[Gz] at vE;have qC:=z7 vE;have ML:=z7 (show R=r.then fun f q=>(vS rs 125 q).then fun _ z => .ok (.uq K i f .nil,xP rs z) by rw[Zb.out,←hr];rfl);clear vE hr Zb;go_wp2_with fail;refine qC.out.mono ?_;rintro e x3 ⟨hq,Hy⟩;have uP:=xB.trans Hy;have A7:=z7 (my.out.but Hy (by omega))
     cases r with
     | error en =>
      obtain⟨mq,mg⟩:=en;have HQ:=z7 hq;obtain⟨bf,rfl,_,_⟩:=hq;go_wp2;exact⟨rfl,by rw[ML.out];exact HQ.out,uP⟩
     | ok fq =>
      obtain⟨f,q⟩:=fq;obtain⟨⟨ma,mc,rfl,vs,vL,kO⟩,Jq,M6⟩:=hq;have D2:=z7 (show R=(vS rs 125 q).then fun _ z => .ok (.uq K i f .nil,xP rs z) from ML.out);have qB:=z7 vL;have YG:=z7 kO;have VC:=z7 M6;have z2:=A7.out.z 2;have q2:=A7.out.c2;have JE:=z7 (VC.out.own (B:=B) (by omega) 2 (.slice ma f.len mc));have Dk:=z7 (A7.out.zy0 (u := .slice ma f.len mc));have D1:xl p w (x3.setCell ⟨B,2,none⟩ (.slice ma f.len mc)):=uP.own (by have:=HB.out;omega) 2 _;obtain⟨Y,hY⟩:∃ Y,x3.setCell ⟨B,2,none⟩ (.slice ma f.len mc)=Y:=⟨_,rfl⟩;rw[hY] at JE Dk D1;have HY:=z7 hY;clear vL kO M6 ML qC hY;go_wp2_with fail;rw[HY.out];refine(jf p rs q d 125 Y JE.out (by decide)).mono ?_;rintro e x4 ⟨hq,A8⟩;have uQ:=D1.trans A8;have HL4:=z7 (Dk.out.but A8 (by omega));by_cases hw:xX rs q=125
      ·rw[if_pos hw] at hq;obtain⟨rfl,KE⟩:=hq;have bR:=z7 KE;obtain⟨J2,A9⟩:∃ J2,xP rs (q+1)=J2:=⟨_,rfl⟩;have Az:=z7 (show R = .ok (.uq K i f .nil,J2) by rw[D2.out,←A9];show(vS rs 125 q).then _=_;unfold vS;rw[if_pos hw];rfl);have HJ2:=z7 A9;clear KE hw A9 D2;go_wp2_with fail;refine(qg p rs (q+1) d x4 bR.out).mono ?_;rintro e x5 ⟨rfl,EE,Ay⟩;rw[HJ2.out] at EE;have jw:=uQ.trans Ay;have Jk:=z7 (HL4.out.but Ay (by omega));have M7:=z7 EE;have k0:=Jk.out.c0;have k1:=Jk.out.c1;have k2:=Jk.out.c2;have y0:=Jk.out.z 0;have y1:=Jk.out.z 1;have y2:=Jk.out.z 2;clear EE;have Zg:B<x2.heap.size:=zv _ _ my.out.c0;have Pu:=z7 (((((((vg (lo:=x2.heap.size) (z8 x3.heap.size)).put Zg 2 (.slice ma f.len mc))).but (by rw[HY.out];exact A8) (by omega)).but Ay (by omega)).put Zg 0 (xf K)).put Zg 1 (.int .i64 i) |>.put Zg 2 (.slice ma f.len mc));have HBF:=z7 (((jw.own (B:=B) (by have:=HB.out;omega) 0 (xf K)).own (B:=B) (by have:=HB.out;omega) 1 (.int .i64 i)).own (B:=B) (by have:=HB.out;omega) 2 (.slice ma f.len mc));have HSF:=z7 (((M7.out.own M5 0 (xf K)).own M5 1 (.int .i64 i)).own M5 2 (.slice ma f.len mc));go_wp2;rw[Az.out];refine bodyPost_ret (v := .agg #[xf K,.int .i64 i,.slice ma f.len mc]) ?_ rfl ?_
       ·simp[results,results204,go_sem,k0,k1,k2]
       exact⟨⟨⟨K,i,f,ma,mc,rfl,rfl,Jq,vs,qB.out.keep Pu.out xB.size Pu.out.1,xV.keep Pu.out xB.size Pu.out.1 _ _ YG.out⟩,HSF.out⟩,HBF.out⟩
      ·rw[if_neg hw] at hq;have Az:=z7 (show R = .error (3,q) by rw[D2.out];show(vS rs 125 q).then _=_;unfold vS;rw[if_neg hw];rfl);have HQ:=z7 hq;obtain⟨bf,rfl,_,_⟩:=hq;clear hw D2;go_wp2;exact⟨rfl,by rw[Az.out];exact HQ.out,uQ⟩
   ·rw[if_neg hw] at hq;have Zb:=z7 (show R = .error (3,J) by rw[HT.out];unfold vS;rw[if_neg hw];rfl);have HQ:=z7 hq;obtain⟨bf,rfl,_,_⟩:=hq;clear hw HT;go_wp2;exact⟨rfl,by rw[Zb.out];exact HQ.out,xB⟩
 ·go_enter func204,ntmps204;go_wp2_with fail;refine vz ?_;intro W hW;have gP:Below w.heap.size w W:=by rw[hW];exact(zj _ _).alloc (z8 _) _
  have MP:G8 w.heap.size (.string ⟨#[]⟩) (.int .i64 i) (.slice none 0 0) W:=by
   rw[hW];exact⟨xq _ _ _ _ _,xq _ _ _ _ _,xq _ _ _ _ _,fun j=>by go_simp⟩
  clear hW h5;obtain⟨B,hB⟩:∃ B,w.heap.size=B:=⟨_,rfl⟩;rw[hB] at MP ⊢;have HB:=z7 hB;have M5:p<B:=by omega
  have n7:=z7 MP;clear hB MP;obtain⟨Qs,Gz⟩:∃ b,b=true:=⟨_,rfl⟩;refine(Xg p rs i d 61 W (HH.out.below gP) (by decide)).mono ?_;rintro e x0 ⟨rfl,EH,Ju⟩;have jQ:=(xl.of (p:=p) gP).trans Ju;have HL0:=z7 (n7.out.but Ju (by omega));by_cases Pq:xX rs i=61
  ·rw[if_pos Pq] at EH;rw[show(xX rs i==61)=true from by rw[Pq];rfl];have HS0:=z7 EH;have WZ:=z7 (show R=((kz rs (i+1)).then fun k j=>(.ok (61::k,j):kX Wd)).then fun k j=>(vS rs 123 (xP rs j)).then fun _ l=>VI rs msg true k i (xP rs j) l by
    rw[←HR.out];unfold ZZ UR;rw[if_pos ⟨rfl,Pq⟩])
   clear EH Pq Ju;go_wp2_with fail;refine(Di p rs (i+1) d x0 HS0.out).mono ?_;rintro e x1 ⟨hq,dH⟩;have xH:=jQ.trans dH;have MR:=z7 (HL0.out.but dH (by omega));by_cases qX:qv rs (i+1)=0
   ·rw[if_pos qX] at hq;have Zb:=z7 (show R = .error (3,i+1) by rw[WZ.out];unfold kz;rw[if_pos qX];rfl);have HQ:=z7 hq;obtain⟨bf,rfl,_,_⟩:=hq;clear qX;go_wp2;exact⟨rfl,by rw[Zb.out];exact HQ.out,xH⟩
   ·rw[if_neg qX] at hq;obtain⟨rfl,uT⟩:=hq;obtain⟨K0,hK⟩:∃ K0,qi rs (i+1) (qv rs (i+1))=K0:=⟨_,rfl⟩;obtain⟨K,hK1⟩:∃ K,61::K0=K:=⟨_,rfl⟩;obtain⟨j,hj⟩:∃ j,i+1+qv rs (i+1)=j:=⟨_,rfl⟩;rw[hj] at uT;rw[hK];have HT:=z7 (show R=(vS rs 123 (xP rs j)).then fun _ l=>VI rs msg Qs K i (xP rs j) l by
     rw[WZ.out,Gz];unfold kz;rw[if_neg qX,hK,hj,←hK1];rfl)
    have gM:=z7 uT;have zz:=MR.out.z 0;have z0:=MR.out.c0;have z1:=MR.out.c1;have JE:=z7 (gM.out.own M5 0 (xf K));have Dk:=z7 (MR.out.Yw (u:=xf K));have D1:xl p w (x1.setCell ⟨B,0,none⟩ (xf K)):=xH.own (by have:=HB.out;omega) 0 _;obtain⟨X,hX⟩:∃ X,x1.setCell ⟨B,0,none⟩ (xf K)=X:=⟨_,rfl⟩;rw[hX] at JE Dk D1;rw[←hK1] at hX;have HX:=z7 hX;have hlen:¬9223372036854775807<1+K0.length:=by
     have:=bS rs (i+1) (qv rs (i+1));have:=HH.out.len;rw[hK] at *;omega
    clear uT qX hK hj hX dH xH WZ;go_wp2_with fail;rw[show(⟨#[61]⟩:ByteArray)++⟨K0.toArray⟩=⟨(61::K0).toArray⟩ from ByteArray.ext (by simp)];rw[show Value.string ⟨(61::K0).toArray⟩=xf (61::K0) from rfl,HX.out];have HL:=Dk;have HS:=JE;have ZJ:=D1;clear Dk JE D1;obtain⟨J,hJ⟩:∃ J,xP rs j=J:=⟨_,rfl⟩;rw[hJ] at HT;have HJ:=z7 hJ;clear hJ;refine(qg p rs j d X HS.out).mono ?_;rintro e x1 ⟨rfl,uT,dH⟩;rw[HJ.out] at uT;have xH:=ZJ.trans dH;have gM:=z7 uT;have MR:=z7 (HL.out.but dH (by omega));have g5:=uT.at_;clear uT dH HJ HL HS ZJ;go_wp2_with fail;refine(jf p rs J d 123 x1 gM.out (by decide)).mono ?_;rintro e x2 ⟨hq,q9⟩;have xB:=xH.trans q9;have my:=z7 (MR.out.but q9 (by omega));clear g5;by_cases hw:xX rs J=123
    ·rw[if_pos hw] at hq;obtain⟨rfl,qU⟩:=hq;have di:=z7 qU;have g6:=qU.deep;have Zb:=z7 (show R=VI rs msg Qs K i J (J+1) by rw[HT.out];unfold vS;rw[if_pos hw];rfl);clear qU hw HT
     cases msg with
     | none =>
      have Hz:d=6:=HD.out.1 rfl;subst Hz;go_wp2_with fail;refine(dU p 4 J x2 di.out.KO).mono ?_;rintro e x3 ⟨hf,Hy⟩;have HF:=z7 hf;obtain⟨bf,rfl,_,_⟩:=hf;go_wp2;exact⟨rfl,by rw[Zb.out];exact HF.out,xB.below Hy⟩
     | some m =>
      have Hz:d≠6:=fun e=>by have:=HD.out.2 e;cases this
      have za3:((d:Int)==6)=false:=by simp;omega
      have vE:=HMC.out m rfl Qs (J+1) x2 di.out (G9.out.but xB);obtain⟨r,hr⟩:∃ r,m Qs (J+1)=r:=⟨_,rfl⟩;rw[hr] at vE;rw[Gz] at vE;have qC:=z7 vE;have ML:=z7 (show R=r.then fun f q=>(vS rs 125 q).then fun _ z => .ok (.uq K i f .nil,xP rs z) by rw[Zb.out,←hr];rfl);clear vE hr Zb;go_wp2_with fail;refine qC.out.mono ?_;rintro e x3 ⟨hq,Hy⟩;have uP:=xB.trans Hy;have A7:=z7 (my.out.but Hy (by omega))
      cases r with
      | error en =>
       obtain⟨mq,mg⟩:=en;have HQ:=z7 hq;obtain⟨bf,rfl,_,_⟩:=hq;go_wp2;exact⟨rfl,by rw[ML.out];exact HQ.out,uP⟩
      | ok fq =>
       obtain⟨f,q⟩:=fq;obtain⟨⟨ma,mc,rfl,vs,vL,kO⟩,Jq,M6⟩:=hq;have D2:=z7 (show R=(vS rs 125 q).then fun _ z => .ok (.uq K i f .nil,xP rs z) from ML.out);have qB:=z7 vL;have YG:=z7 kO;have VC:=z7 M6;have z2:=A7.out.z 2;have q2:=A7.out.c2;have JE:=z7 (VC.out.own (B:=B) (by omega) 2 (.slice ma f.len mc));have Dk:=z7 (A7.out.zy0 (u := .slice ma f.len mc));have D1:xl p w (x3.setCell ⟨B,2,none⟩ (.slice ma f.len mc)):=uP.own (by have:=HB.out;omega) 2 _;obtain⟨Y,hY⟩:∃ Y,x3.setCell ⟨B,2,none⟩ (.slice ma f.len mc)=Y:=⟨_,rfl⟩;rw[hY] at JE Dk D1;have HY:=z7 hY;clear vL kO M6 ML qC hY;go_wp2_with fail;rw[HY.out];refine(jf p rs q d 125 Y JE.out (by decide)).mono ?_;rintro e x4 ⟨hq,A8⟩;have uQ:=D1.trans A8;have HL4:=z7 (Dk.out.but A8 (by omega));by_cases hw:xX rs q=125
       ·rw[if_pos hw] at hq;obtain⟨rfl,KE⟩:=hq;have bR:=z7 KE;obtain⟨J2,A9⟩:∃ J2,xP rs (q+1)=J2:=⟨_,rfl⟩;have Az:=z7 (show R = .ok (.uq K i f .nil,J2) by rw[D2.out,←A9];show(vS rs 125 q).then _=_;unfold vS;rw[if_pos hw];rfl);have HJ2:=z7 A9;clear KE hw A9 D2;go_wp2_with fail;refine(qg p rs (q+1) d x4 bR.out).mono ?_;rintro e x5 ⟨rfl,EE,Ay⟩;rw[HJ2.out] at EE;have jw:=uQ.trans Ay;have Jk:=z7 (HL4.out.but Ay (by omega));have M7:=z7 EE;have k0:=Jk.out.c0;have k1:=Jk.out.c1;have k2:=Jk.out.c2;have y0:=Jk.out.z 0;have y1:=Jk.out.z 1;have y2:=Jk.out.z 2;clear EE;have Zg:B<x2.heap.size:=zv _ _ my.out.c0;have Pu:=z7 (((((((vg (lo:=x2.heap.size) (z8 x3.heap.size)).put Zg 2 (.slice ma f.len mc))).but (by rw[HY.out];exact A8) (by omega)).but Ay (by omega)).put Zg 0 (xf K)).put Zg 1 (.int .i64 i) |>.put Zg 2 (.slice ma f.len mc));have HBF:=z7 (((jw.own (B:=B) (by have:=HB.out;omega) 0 (xf K)).own (B:=B) (by have:=HB.out;omega) 1 (.int .i64 i)).own (B:=B) (by have:=HB.out;omega) 2 (.slice ma f.len mc));have HSF:=z7 (((M7.out.own M5 0 (xf K)).own M5 1 (.int .i64 i)).own M5 2 (.slice ma f.len mc));go_wp2;rw[Az.out];refine bodyPost_ret (v := .agg #[xf K,.int .i64 i,.slice ma f.len mc]) ?_ rfl ?_
        ·simp[results,results204,go_sem,k0,k1,k2]
        exact⟨⟨⟨K,i,f,ma,mc,rfl,rfl,Jq,vs,qB.out.keep Pu.out xB.size Pu.out.1,xV.keep Pu.out xB.size Pu.out.1 _ _ YG.out⟩,HSF.out⟩,HBF.out⟩
       ·rw[if_neg hw] at hq;have Az:=z7 (show R = .error (3,q) by rw[D2.out];show(vS rs 125 q).then _=_;unfold vS;rw[if_neg hw];rfl);have HQ:=z7 hq;obtain⟨bf,rfl,_,_⟩:=hq;clear hw D2;go_wp2;exact⟨rfl,by rw[Az.out];exact HQ.out,uQ⟩
    ·rw[if_neg hw] at hq;have Zb:=z7 (show R = .error (3,J) by rw[HT.out];unfold vS;rw[if_neg hw];rfl);have HQ:=z7 hq;obtain⟨bf,rfl,_,_⟩:=hq;clear hw HT;go_wp2;exact⟨rfl,by rw[Zb.out];exact HQ.out,xB⟩
  ·rw[if_neg Pq] at EH;rw[show(xX rs i==61)=false from by simp[Pq]];have HS0:=z7 EH;have WZ:=z7 (show R=((jS rs i).then fun k j=>if k ∉ VB then (.error (3,i):kX Wd) else .ok (k,j)).then fun k j=>(vS rs 123 (xP rs j)).then fun _ l=>VI rs msg true k i (xP rs j) l by
    rw[←HR.out];unfold ZZ UR;rw[if_neg (fun e=>Pq e.2)];simp)
   clear EH Pq Ju;go_wp2_with fail;refine(UN p rs i d x0 HS0.out).mono ?_;rintro e x1 ⟨hq,dH⟩;have xH:=jQ.trans dH;have MR:=z7 (HL0.out.but dH (by omega));by_cases qX:qo rs i=0
   ·rw[if_pos qX] at hq;have Zb:=z7 (show R = .error (3,i) by rw[WZ.out];unfold jS;rw[if_pos qX];rfl);have HQ:=z7 hq;obtain⟨bf,rfl,_,_⟩:=hq;clear qX;go_wp2;exact⟨rfl,by rw[Zb.out];exact HQ.out,xH⟩
   ·rw[if_neg qX] at hq;obtain⟨rfl,uT⟩:=hq;obtain⟨K,hK⟩:∃ K,qi rs i (qo rs i)=K:=⟨_,rfl⟩;obtain⟨j,hj⟩:∃ j,i+qo rs i=j:=⟨_,rfl⟩;rw[hj] at uT;rw[hK];have UK:=z7 (show R=((if K ∉ VB then .error (3,i) else .ok (K,j)):kX Wd).then fun k j=>(vS rs 123 (xP rs j)).then fun _ l=>VI rs msg true k i (xP rs j) l by
     rw[WZ.out];unfold jS;rw[if_neg qX,hK,hj];rfl)
    have gM:=z7 uT;have zz:=MR.out.z 0;have z0:=MR.out.c0;have z1:=MR.out.c1;have JE:=z7 (gM.out.own M5 0 (xf K));have Dk:=z7 (MR.out.Yw (u:=xf K));have D1:xl p w (x1.setCell ⟨B,0,none⟩ (xf K)):=xH.own (by have:=HB.out;omega) 0 _;obtain⟨X,hX⟩:∃ X,x1.setCell ⟨B,0,none⟩ (xf K)=X:=⟨_,rfl⟩;rw[hX] at JE Dk D1;have HX:=z7 hX;clear uT qX hK hj hX dH xH WZ;go_wp2_with fail;rw[HX.out];refine(C8 K X (G9.out.but D1).names).mono ?_;rintro e x2 ⟨rfl,rfl⟩;have u1:=Dk.out.c1;by_cases hc:K∈VB
    ·rw[show decide (K∈VB)=true from by simp[hc]];have HT:=z7 (show R=(vS rs 123 (xP rs j)).then fun _ l=>VI rs msg Qs K i (xP rs j) l by
      rw[UK.out,Gz,if_neg (by simp[hc])];rfl)
     clear hc UK;go_wp2_with fail;have HL:=Dk;have HS:=JE;have ZJ:=D1;clear Dk JE D1;obtain⟨J,hJ⟩:∃ J,xP rs j=J:=⟨_,rfl⟩;rw[hJ] at HT;have HJ:=z7 hJ;clear hJ;refine(qg p rs j d X HS.out).mono ?_;rintro e x1 ⟨rfl,uT,dH⟩;rw[HJ.out] at uT;have xH:=ZJ.trans dH;have gM:=z7 uT;have MR:=z7 (HL.out.but dH (by omega));have g5:=uT.at_;clear uT dH HJ HL HS ZJ;go_wp2_with fail;refine(jf p rs J d 123 x1 gM.out (by decide)).mono ?_;rintro e x2 ⟨hq,q9⟩;have xB:=xH.trans q9;have my:=z7 (MR.out.but q9 (by omega));clear g5;by_cases hw:xX rs J=123
     ·rw[if_pos hw] at hq;obtain⟨rfl,qU⟩:=hq;have di:=z7 qU;have g6:=qU.deep;have Zb:=z7 (show R=VI rs msg Qs K i J (J+1) by rw[HT.out];unfold vS;rw[if_pos hw];rfl);clear qU hw HT
      cases msg with
      | none =>
       have Hz:d=6:=HD.out.1 rfl;subst Hz;go_wp2_with fail;refine(dU p 4 J x2 di.out.KO).mono ?_;rintro e x3 ⟨hf,Hy⟩;have HF:=z7 hf;obtain⟨bf,rfl,_,_⟩:=hf;go_wp2;exact⟨rfl,by rw[Zb.out];exact HF.out,xB.below Hy⟩
      | some m =>
       have Hz:d≠6:=fun e=>by have:=HD.out.2 e;cases this
       have za3:((d:Int)==6)=false:=by simp;omega
       have vE:=HMC.out m rfl Qs (J+1) x2 di.out (G9.out.but xB);obtain⟨r,hr⟩:∃ r,m Qs (J+1)=r:=⟨_,rfl⟩;rw[hr] at vE;rw[Gz] at vE;have qC:=z7 vE;have ML:=z7 (show R=r.then fun f q=>(vS rs 125 q).then fun _ z => .ok (.uq K i f .nil,xP rs z) by rw[Zb.out,←hr];rfl);clear vE hr Zb;go_wp2_with fail;refine qC.out.mono ?_;rintro e x3 ⟨hq,Hy⟩;have uP:=xB.trans Hy;have A7:=z7 (my.out.but Hy (by omega))
       cases r with
       | error en =>
        obtain⟨mq,mg⟩:=en;have HQ:=z7 hq;obtain⟨bf,rfl,_,_⟩:=hq;go_wp2;exact⟨rfl,by rw[ML.out];exact HQ.out,uP⟩
       | ok fq =>
        obtain⟨f,q⟩:=fq;obtain⟨⟨ma,mc,rfl,vs,vL,kO⟩,Jq,M6⟩:=hq;have D2:=z7 (show R=(vS rs 125 q).then fun _ z => .ok (.uq K i f .nil,xP rs z) from ML.out);have qB:=z7 vL;have YG:=z7 kO;have VC:=z7 M6;have z2:=A7.out.z 2;have q2:=A7.out.c2;have JE:=z7 (VC.out.own (B:=B) (by omega) 2 (.slice ma f.len mc));have Dk:=z7 (A7.out.zy0 (u := .slice ma f.len mc));have D1:xl p w (x3.setCell ⟨B,2,none⟩ (.slice ma f.len mc)):=uP.own (by have:=HB.out;omega) 2 _;obtain⟨Y,hY⟩:∃ Y,x3.setCell ⟨B,2,none⟩ (.slice ma f.len mc)=Y:=⟨_,rfl⟩;rw[hY] at JE Dk D1;have HY:=z7 hY;clear vL kO M6 ML qC hY;go_wp2_with fail;rw[HY.out];refine(jf p rs q d 125 Y JE.out (by decide)).mono ?_;rintro e x4 ⟨hq,A8⟩;have uQ:=D1.trans A8;have HL4:=z7 (Dk.out.but A8 (by omega));by_cases hw:xX rs q=125
        ·rw[if_pos hw] at hq;obtain⟨rfl,KE⟩:=hq;have bR:=z7 KE;obtain⟨J2,A9⟩:∃ J2,xP rs (q+1)=J2:=⟨_,rfl⟩;have Az:=z7 (show R = .ok (.uq K i f .nil,J2) by rw[D2.out,←A9];show(vS rs 125 q).then _=_;unfold vS;rw[if_pos hw];rfl);have HJ2:=z7 A9;clear KE hw A9 D2;go_wp2_with fail;refine(qg p rs (q+1) d x4 bR.out).mono ?_;rintro e x5 ⟨rfl,EE,Ay⟩;rw[HJ2.out] at EE;have jw:=uQ.trans Ay;have Jk:=z7 (HL4.out.but Ay (by omega));have M7:=z7 EE;have k0:=Jk.out.c0;have k1:=Jk.out.c1;have k2:=Jk.out.c2;have y0:=Jk.out.z 0;have y1:=Jk.out.z 1;have y2:=Jk.out.z 2;clear EE;have Zg:B<x2.heap.size:=zv _ _ my.out.c0;have Pu:=z7 (((((((vg (lo:=x2.heap.size) (z8 x3.heap.size)).put Zg 2 (.slice ma f.len mc))).but (by rw[HY.out];exact A8) (by omega)).but Ay (by omega)).put Zg 0 (xf K)).put Zg 1 (.int .i64 i) |>.put Zg 2 (.slice ma f.len mc));have HBF:=z7 (((jw.own (B:=B) (by have:=HB.out;omega) 0 (xf K)).own (B:=B) (by have:=HB.out;omega) 1 (.int .i64 i)).own (B:=B) (by have:=HB.out;omega) 2 (.slice ma f.len mc));have HSF:=z7 (((M7.out.own M5 0 (xf K)).own M5 1 (.int .i64 i)).own M5 2 (.slice ma f.len mc));go_wp2;rw[Az.out];refine bodyPost_ret (v := .agg #[xf K,.int .i64 i,.slice ma f.len mc]) ?_ rfl ?_
         ·simp[results,results204,go_sem,k0,k1,k2]
         exact⟨⟨⟨K,i,f,ma,mc,rfl,rfl,Jq,vs,qB.out.keep Pu.out xB.size Pu.out.1,xV.keep Pu.out xB.size Pu.out.1 _ _ YG.out⟩,HSF.out⟩,HBF.out⟩
        ·rw[if_neg hw] at hq;have Az:=z7 (show R = .error (3,q) by rw[D2.out];show(vS rs 125 q).then _=_;unfold vS;rw[if_neg hw];rfl);have HQ:=z7 hq;obtain⟨bf,rfl,_,_⟩:=hq;clear hw D2;go_wp2;exact⟨rfl,by rw[Az.out];exact HQ.out,uQ⟩
     ·rw[if_neg hw] at hq;have Zb:=z7 (show R = .error (3,J) by rw[HT.out];unfold vS;rw[if_neg hw];rfl);have HQ:=z7 hq;obtain⟨bf,rfl,_,_⟩:=hq;clear hw HT;go_wp2;exact⟨rfl,by rw[Zb.out];exact HQ.out,xB⟩
    ·rw[show decide (K∈VB)=false from by simp[hc]];have Zb:=z7 (show R = .error (3,i) by rw[UK.out,if_pos hc];rfl);clear hc UK;go_wp2_with fail;refine(dU p 3 i X JE.out.KO).mono ?_;rintro e x3 ⟨hf,Hy⟩;have HF:=z7 hf;obtain⟨bf,rfl,_,_⟩:=hf;go_wp2;exact⟨rfl,by rw[Zb.out];exact HF.out,D1.below Hy⟩
theorem Hx:∀ (l:List UInt8) (acc:Nat),l.all xQ=true->Lib.decFrom acc l=some (l.foldl (fun v c=>10*v+(c.toNat - 48)) acc)
 | [],_,_=>rfl
 | c::t,acc,h=>by
  simp only[List.all_cons,zY] at h;have hc:=(vM c).1 h.1;rw[Lib.decFrom,Lib.digitVal,if_pos (by omega)];dsimp only;rw[Hx t _ h.2,List.foldl_cons,Nat.mul_comm acc 10]
theorem nz{l:List UInt8}(h:l.all xQ=true)(hn:l≠[]):Lib.atoi l=some (xL l:Int):=by
 cases l with
 | nil=>exact absurd rfl hn
 | cons c t =>
  have hd:=h;simp only[List.all_cons,zY] at hd;have hc:=(vM c).1 hd.1;have h45:(c==45)=false:=by
   rw[beq_eq_false_iff_ne];rintro rfl;exact absurd hc.1 (by decide)
  have h43:(c==43)=false:=by
   rw[beq_eq_false_iff_ne];rintro rfl;exact absurd hc.1 (by decide)
  rw[Lib.atoi,h45,h43];simp only[Bool.false_eq_true,if_false,Lib.decNat];rw[if_neg (by simp),Hx _ 0 h];rfl
theorem Pk(x:Wd)(w:World)(hs:x.length<=9)(hd:x.all xQ=true)(hn:x≠[]) :
  Calls prog 163 #[xf x] w fun e w'=>e = .returned (.tuple #[.int .i64 (xL x),.nilIface])/\Below w.heap.size w w':=by
 refine(Tryz.strconv_Atoi ⟨x.toArray⟩ (xL x) (by simp[ByteArray.size];omega) (nz hd hn) w).mono ?_;rintro e w' ⟨rfl,t,rfl⟩;exact⟨rfl,Lib.bytesWorld_below _ _ _⟩
theorem Rp(r:Int)(h:uY r=true):∃ c,enc r=[c]/\xQ c=true:=by
 simp only[uY,zY,decide_eq_true_eq] at h;have:r=48\/r=49\/r=50\/r=51\/r=52\/r=53\/r=54\/r=55\/r=56\/r=57:=by omega
 rcases this with rfl|rfl|rfl|rfl|rfl|rfl|rfl|rfl|rfl|rfl<;>exact⟨_,rfl,by decide⟩
theorem Gy(F:Int->Nat->Bool)(rs:List Int)(i:Nat):∀ f n R,Xd F rs i f n=R->∀ k,n<=k->k<R->F (xX rs (i+k)) k=true
 | 0,n,R,h,k,h1,h2=>by
  rw[Xd] at h;omega
 | f+1,n,R,h,k,h1,h2=>by
  rw[Xd] at h;by_cases q:F (xX rs (i+n)) n=true
  ·rw[if_pos q] at h;by_cases hk:k=n
   ·rw[hk];exact q
   ·exact Gy F rs i f (n+1) R h k (by omega) h2
  ·rw[if_neg q] at h;omega
theorem Dn{F:Int->Nat->Bool}{rs:List Int}{i k:Nat}(h:k<runN F rs i):F (xX rs (i+k)) k=true:=Gy F rs i _ _ _ rfl k (Nat.zero_le _) h
theorem Pj{rs:List Int}{j:Nat}(h:j<rs.length):xX rs j=rs[j]:=by
 unfold xX;simp[h]
theorem US:∀ (l:List Int),(∀ r∈l,uY r=true)->(l.flatMap enc).length=l.length/\(l.flatMap enc).all xQ=true
 | [],_=>⟨rfl,rfl⟩
 | r::t,h=>by
  obtain⟨c,hc,hd⟩:=Rp r (h r (by simp));obtain⟨h1,h2⟩:=US t (fun q hq=>h q (by simp[hq]));refine⟨by simp[zE,hc,h1],?_⟩;rw[zE,hc];simp[hd];simpa using h2
theorem KT(rs:List Int)(i:Nat)(hn:qv rs i≠0):(qi rs i (qv rs i)).length<=9/\(qi rs i (qv rs i)).all xQ=true/\qi rs i (qv rs i)≠[]:=by
 obtain⟨n,hN⟩:∃ n,qv rs i=n:=⟨_,rfl⟩;have hf:∀ k,k<n->k<9/\uY (xX rs (i+k))=true:=fun k hk=>by
  have:=Dn (F:=fG (xX rs i)) (rs:=rs) (i:=i) (k:=k) (by rw[show runN (fG (xX rs i)) rs i=qv rs i from rfl,hN];exact hk);simp only[fG,zY,decide_eq_true_eq] at this;exact this.1
 rw[hN] at hn ⊢;have h9:n<=9:=by
  have:=(hf (n - 1) (by omega)).1;omega
 have hd:uY (-1)=false:=by decide
 have b7:∀ k,k<n->i+k<rs.length:=fun k hk=>by
  refine Nat.lt_of_not_le (fun hle=>?_);have:=(hf k hk).2;rw[qw hle,hd] at this
  cases this
 have uN:∀ r∈(rs.drop i).take n,uY r=true:=fun r hr=>by
  obtain⟨k,hk,rfl⟩:=List.mem_iff_getElem.1 hr;simp only[List.length_take,zc] at hk;have h1:=(hf k (by omega)).2;rw[Pj (b7 k (by omega))] at h1;simpa using h1
 have hlen:((rs.drop i).take n).length=n:=by
  have:=b7 (n - 1) (by omega);simp;omega
 obtain⟨h1,h2⟩:=US _ uN;unfold qi;refine⟨by omega,h2,fun e=>?_⟩;rw[e] at h1;simp only[List.length_nil] at h1;omega
def yuf(base:Nat)(v:Value)(w W:World):Prop:=w.heap.size<=W.heap.size/\∀ k,base<=k->k<w.heap.size->some k≠v.ownBlock->W.heap[k]? = w.heap[k]?
def kx(base:Nat)(e:TypeId)(size:Nat)(v:Value)(acc:Fo)(ws:List Value)(w:World):Prop :=
 w.ownsRow base e size v acc.len ws/\∀ W,yuf base v w W->xV base W.heap.size W ws acc
theorem kx.start(base:Nat)(e:TypeId)(size:Nat)(w:World):kx base e size (.slice none 0 0) .nil [] w :=
 ⟨⟨by simp[Fo.len],.inl ⟨rfl,rfl⟩⟩,fun _ _=>rfl⟩
theorem kx.but{base p:Nat}{e:TypeId}{size:Nat}{v:Value}{acc:Fo}{ws:List Value}{w w':World}(h:kx base e size v acc ws w)(hb:xl p w w')(hp:p<base):kx base e size v acc ws w':=by
 obtain⟨⟨h1,h2⟩,h3⟩:=h;refine⟨⟨h1,?_⟩,fun W hW=>h3 W ⟨zy hb.size hW.1,fun k k1 k2 k3=>(hW.2 k k1 (zF k2 hb.size) k3).trans (hb.block k k2 (by omega))⟩⟩;rcases h2 with hn|⟨g,cap,cur,hv,hg,hc,rest⟩
 ·exact .inl hn
 ·refine .inr ⟨g,cap,cur,hv,hg,?_,rest⟩;have xC:g<w.heap.size:=(zM.1 hc).1;rw[hb.block g xC (by omega)];exact hc
theorem kx.nodes{base:Nat}{e:TypeId}{size:Nat}{v:Value}{acc:Fo}{ws:List Value}{w:World}(h:kx base e size v acc ws w):xV base w.heap.size w ws acc :=
 h.2 w ⟨z8 _,fun _ _ _ _=>rfl⟩
theorem kx.row{base:Nat}{e:TypeId}{size:Nat}{v:Value}{acc:Fo}{ws:List Value}{w:World}(h:kx base e size v acc ws w):∃ a c,v = .slice a acc.len c/\Vn base w.heap.size w a ws:=by
 obtain⟨⟨h1,h2⟩,_⟩:=h;rcases h2 with⟨hv,hn⟩|⟨g,cap,cur,hv,hg,hc,h3,h4,h5,h6⟩
 ·refine⟨none,0,by rw[hv,hn],fun j hj=>?_⟩;rw[hn] at h1;omega
 ·refine⟨some ⟨g,0,none⟩,cap,hv,fun j hj=>⟨g,0,rfl,hg,(zM.1 hc).1,?_⟩⟩;have hle:acc.len*size<=cap*size:=zR _ h3;have MF:j<cur.size:=by omega
  rw[Nat.zero_add];have e1:ws[j]? = cur[j]? := by
   rw[←h6,List.getElem?_take,if_pos (by omega),Array.getElem?_toList]
  have e2:ws[j]? = some ws[j]:=zZ hj;show w.cell? ⟨g,j,none⟩=some ws[j];rw[←e2,e1];unfold World.cell?;rw[hc];rfl
theorem UT{P:Program}(w:World)(base:Nat)(t ty e:TypeId)(i:TypeInfo)(z:Value)(ht:P.underlying t=some (.slice e))(hi:P.info? e=some i)(hz:i.zero=some z)
  (hzs:z.cells.size=i.size) (qs:0<i.size)
  (v:Value) (n:Nat) (xs:List Value) (xJ:w.ownsRow base e i.size v n xs)
  (a:Addr) (m c:Nat) (news:List Value) (hl:news.length=m*i.size) (dS:∀ j u,news[j]? = some u->w.cell? (a.add j)=some u) (h1:∀ u∈news,u.oneCell'=true)
  (mf:n+m<=maxLen) (XX:(n+m)*i.bytes<=140737488355328) (bL:base<=w.heap.size) :
  ∃ v' w',(Builtin.append_ #[t,t] ty #[v,.slice (some a) m c]).run P w = .ok v' w'/\w'.ownsRow base e i.size v' (n+m) (xs++news)/\w.grownBy w' v.ownBlock /\
   (v'.ownBlock=v.ownBlock\/∀ k,v'.ownBlock=some k->w.heap.size<=k):=by
 obtain⟨v',w',hr,h2,h3,h4⟩:=run_append_own (P:=P) w base t ty e i z i.size i.bytes ht hi hz rfl rfl hzs qs v n xs xJ a m c news hl dS h1 mf XX bL;refine⟨v',w',hr,h2,h3,?_⟩;have fQ:=xJ;rcases xJ.2 with⟨rfl,rfl⟩|⟨g,cap,cur,rfl,Dj,hg,hnc,jM,dT,Yp⟩
 ·have hx:xs=[]:=zu (by simpa using xJ.1);subst hx;obtain⟨v2,w2,Yb,k2,_,_⟩:=run_append_own (P:=P) w w.heap.size t ty e i z i.size i.bytes ht hi hz rfl rfl hzs qs (.slice none 0 0) 0 [] (zS w w.heap.size e i.size) a m c news hl dS h1 mf XX (z8 _);rw[hr] at Yb
  cases Yb;exact .inr fun k hk=>(k2.lt k hk).1
 ·by_cases Gx:n+m<=cap
  ·have MB:n*i.size+news.length<=cur.size:=by rw[hl,dT,←Nat.add_mul];exact zR _ Gx
   have Yb:=run_append_room (P:=P) w t ty e i ht hi g n cap cur hg a m c news hl dS h1 Gx MB;rw[hr] at Yb
   cases Yb;exact .inl rfl
  ·have holds:∀ j u,xs[j]? = some u->w.cell? ((⟨g,0,none⟩:Addr).add j)=some u:=xJ.cells (g:=g) rfl;have Yb:=run_append_grow (P:=P) w t ty e i z ht hi hz ⟨g,0,none⟩ n cap xs xJ.1 holds a m c news hl dS (by omega) (by simp only[maxLen] at mf;omega) (growslice_fits (by simp only[maxLen] at mf;omega) XX);rw[hr] at Yb
   cases Yb;refine .inr fun k hk=>?_
   simp[Value.ownBlock] at hk;omega
theorem kx.grow{base lo m:Nat}{e:TypeId}{size:Nat}{v v':Value}{acc f:Fo}{ws news:List Value}{w w':World}(h:kx base e size v acc ws w)
  (hn:xV lo w.heap.size w news f) (ED:base<=lo) (hv:∀ k,v.ownBlock=some k->k<lo) (hm:f.len=m)
  (h2:w'.ownsRow base e size v' (acc.len+m) (ws++news)) (h3:w.grownBy w' v.ownBlock) (h4:v'.ownBlock=v.ownBlock\/∀ k,v'.ownBlock=some k->w.heap.size<=k) :
  kx base e size v' (acc.app f) (ws++news) w':=by
 refine⟨by rw[Fo.uK,hm];exact h2,fun W hW=>?_⟩;have key:∀ k,base<=k->k<w.heap.size->some k≠v.ownBlock->W.heap[k]? = w.heap[k]? := fun k k1 k2 k3=>by
  have xw:some k≠v'.ownBlock:=by
   rcases h4 with q|q
   ·rw[q];exact k3
   ·intro e;have:=q k e.symm;omega
  exact(hW.2 k k1 (zF k2 h3.size) xw).trans (h3.block k k2 k3)
 have qs:w.heap.size<=W.heap.size:=zy h3.size hW.1;exact xV.app (xV.keep (lo:=lo) (hi:=w.heap.size) ⟨qs,fun k k1 k2=>key k (by omega) k2 (fun e=>by have:=hv k e.symm;omega)⟩ ED qs f news hn) acc ws (h.2 W ⟨qs,key⟩)
theorem Zh{P:Program}{t e:TypeId}{z:Value}{size bytes:Nat}(E:ZN P t e z size bytes){w:World}{ops:Array Oper}{rest:List Oper}{o:Oper}{a:Act}{Q:Exit->Act->World->Prop}
  (Jl:o.guard=none) (s x:Operand) (ho:o.op = .call { callee := .builtin .append,args:=#[s,x],argTypes:=#[t,t] })
  (base lo:Nat) (v:Value) (acc f:Fo) (ws:List Value) (hs:a.eval s=v) (hg:kx base e size v acc ws w)
  (ad:Addr) (m c:Nat) (news:List Value) (hx:a.eval x = .slice (some ad) m c) (hl:news.length=m*size) (dS:∀ j u,news[j]? = some u->w.cell? (ad.add j)=some u) (h1:∀ u∈news,u.oneCell'=true)
  (hn:xV lo w.heap.size w news f) (ED:base<=lo) (hv:∀ k,v.ownBlock=some k->k<lo) (hm:f.len=m)
  (Lt:acc.len+m<=2147483648) (bL:base<=w.heap.size)
  (h:∀ v' w',kx base e size v' (acc.app f) (ws++news) w'->w.grownBy w' v.ownBlock->wpList P ops Q rest (a.put o.dst v') w'):wpList P ops Q (o::rest) a w:=by
 obtain⟨i,hi,hz,rfl,rfl⟩:=E.info;have KE:=E.small;obtain⟨v',w',hr,h2,h3,h4⟩:=UT (P:=P) w base t o.type e i z E.under hi hz E.UF E.pos v acc.len ws hg.1 ad m c news hl dS h1 (by unfold maxLen;omega) (zy (Nat.mul_le_mul Lt KE) (by decide)) bL;refine wpList_plain Jl fun K hK=>?_
 unfold Oper.wp execOp;simp only[ho,resolve,invoke,builtin,Sem.run_bind,Sem.run_pure,zP,za,List.map_cons,List.map_nil,hs,hx,hr];exact hK _ _ (h v' w' (hg.grow hn ED hv hm h2 h3 h4) h3)
theorem KW:ZN prog 179 183 (.agg #[.string ⟨#[]⟩,.int .i64 0,.slice none 0 0]) 3 48 :=
 ⟨underlying179,info_parts (by kernel_rfl),rfl,by decide,by decide⟩
theorem bK:ZN prog 107 112 .nilIface 1 16 :=
 ⟨underlying107,info_parts (by kernel_rfl),rfl,by decide,by decide⟩
theorem Pg{P:Program}{t e:TypeId}{z:Value}{size bytes:Nat}(E:ZN P t e z size bytes){w:World}{o:Oper}{a:Act}{K:Act->World->Prop}{Q:Exit->Act->World->Prop}
  (s x:Operand) (ho:o.op = .call { callee := .builtin .append,args:=#[s,x],argTypes:=#[t,t] })
  (base lo:Nat) (v:Value) (acc f:Fo) (ws:List Value) (hs:a.eval s=v) (hg:kx base e size v acc ws w)
  (ad:Addr) (m c:Nat) (news:List Value) (hx:a.eval x = .slice (some ad) m c) (hl:news.length=m*size) (dS:∀ j u,news[j]? = some u->w.cell? (ad.add j)=some u) (h1:∀ u∈news,u.oneCell'=true)
  (hn:xV lo w.heap.size w news f) (ED:base<=lo) (hv:∀ k,v.ownBlock=some k->k<lo) (hm:f.len=m)
  (Lt:acc.len+m<=2147483648) (bL:base<=w.heap.size)
  (h:∀ v' w',kx base e size v' (acc.app f) (ws++news) w'->w.grownBy w' v.ownBlock->K (a.put o.dst v') w'):Oper.wp P o a w K Q:=by
 obtain⟨i,hi,hz,rfl,rfl⟩:=E.info;have KE:=E.small;obtain⟨v',w',hr,h2,h3,h4⟩:=UT (P:=P) w base t o.type e i z E.under hi hz E.UF E.pos v acc.len ws hg.1 ad m c news hl dS h1 (by unfold maxLen;omega) (zy (Nat.mul_le_mul Lt KE) (by decide)) bL;unfold Oper.wp execOp;simp only[ho,resolve,invoke,builtin,Sem.run_bind,Sem.run_pure,zP,za,List.map_cons,List.map_nil,hs,hx,hr];exact h v' w' (hg.grow hn ED hv hm h2 h3 h4) h3
theorem kx.lt{base:Nat}{e:TypeId}{size:Nat}{v:Value}{acc:Fo}{ws:List Value}{w:World}(h:kx base e size v acc ws w):∀ k,v.ownBlock=some k->base<=k/\k<w.heap.size:=h.1.lt
theorem Fo.bT:∀ f g:Fo,f.ub=true->g.ub=true->(f.app g).ub=true
 | .nil,g,_,h=>h
 | .uq k a m r,g,h,h2=>Fo.bT r g h h2
 | .text t r,g,h,_=>by cases h
 | .hash r,g,h,_=>by cases h
 | .put n a r,g,h,_=>by cases h
 | .num n a r,g,h,_=>by cases h
 | .br n a f o c b r,g,h,_=>by cases h
theorem Fo.ui:∀ f g:Fo,f.vD=true->g.vD=true->(f.app g).vD=true
 | .nil,g,_,h=>h
 | .uq k a m r,g,h,h2=>by cases h
 | .text t r,g,h,h2=>Fo.ui r g h h2
 | .hash r,g,h,h2=>Fo.ui r g h h2
 | .put n a r,g,h,h2=>Fo.ui r g h h2
 | .num n a r,g,h,h2=>Fo.ui r g h h2
 | .br n a f o c b r,g,h,h2=>Fo.ui r g h h2
theorem xc(rs:List Int)(i:Nat):i<=xP rs i:=Nat.le_add_right _ _
def Gv(m:ky):Prop:=∀ num i f j,m num i = .ok (f,j)->i<=j
theorem xZ{α β:Type}{x:kX α}{k:α->Nat->kX β}{b:β}{j:Nat}(h:x.then k = .ok (b,j)):∃ a q,x = .ok (a,q)/\k a q = .ok (b,j):=by
 cases x with
 | error e=>cases h
 | ok a=>exact⟨a.1,a.2,rfl,h⟩
theorem xi{rs:List Int}{r:Int}{i j:Nat}{u:Unit}(h:vS rs r i = .ok (u,j)):xX rs i=r/\j=i+1:=by
 unfold vS at h;split at h
 ·cases h;exact⟨by assumption,rfl⟩
 ·cases h
theorem gX{rs:List Int}{i j:Nat}{x:Wd}(h:jS rs i = .ok (x,j)):i<j:=by
 unfold jS at h;split at h
 ·cases h
 ·cases h;omega
theorem YF{rs:List Int}{i j:Nat}{x:Wd}(h:kz rs i = .ok (x,j)):i<j:=by
 unfold kz at h;split at h
 ·cases h
 ·cases h;omega
theorem Ax{rs:List Int}{num:Bool}{i j:Nat}{x:Wd}(h:UR rs num i = .ok (x,j)):i<j:=by
 unfold UR at h;split at h
 ·obtain⟨a,q,h1,h2⟩:=xZ h
  cases h2;have:=YF h1;omega
 ·obtain⟨a,q,h1,h2⟩:=xZ h;split at h2
  ·cases h2
  ·cases h2;exact gX h1
theorem Cz{rs:List Int}{msg:Option ky}{num:Bool}{i j:Nat}{f:Fo}(hm:∀ m,msg=some m->Gv m)(h:ZZ rs msg num i = .ok (f,j)):i<j:=by
 unfold ZZ at h;obtain⟨k,a,h1,h2⟩:=xZ h;obtain⟨u,b,h3,h4⟩:=xZ h2;have e1:=Ax h1;have e2:=(xi h3).2;have e3:=xc rs a
 cases msg with
 | none=>cases h4
 | some m =>
  obtain⟨g,c,h5,h6⟩:=xZ (show(m num b).then _=_ from h4);obtain⟨u2,z,h7,h8⟩:=xZ h6;have e4:=hm m rfl _ _ _ _ h5;have e5:=(xi h7).2;have e6:=xc rs z
  cases h8;omega
theorem Hv{rs:List Int}{msg:Option ky}{num:Bool}(hm:∀ m,msg=some m->Gv m):∀ (n:Nat) (acc:Fo) (i j:Nat) (f:Fo),kQ rs msg num n acc i = .ok (f,j)->i<=j
 | 0,acc,i,j,f,h=>by cases h
 | n+1,acc,i,j,f,h=>by
  rw[kQ] at h;split at h
  ·cases h;exact z8 _
  ·obtain⟨g,q,h1,h2⟩:=xZ h;have:=Cz hm h1;have:=Hv hm n _ _ _ _ h2;omega
theorem Cy{rs:List Int}{form i j:Nat}{o:Wd}(h:Qr rs form i = .ok (o,j)):i<=j:=by
 unfold Qr at h;split at h
 ·obtain⟨a,q,h1,h2⟩:=xZ h
  cases h2;have:=YF h1;have:=xc rs (i+7);have:=xc rs q;omega
 ·cases h;exact z8 _
theorem Pf{rs:List Int}{msg:Option ky}{i j:Nat}{f:Fo}(hm:∀ m,msg=some m->Gv m)(h:ZY rs msg i = .ok (f,j)):i<j:=by
 unfold ZY at h;obtain⟨u,a,h1,h2⟩:=xZ h;obtain⟨nm,b,h3,h4⟩:=xZ h2;have e1:=(xi h1).2;have e2:=xc rs a;have e3:=gX h3;have e4:=xc rs b;clear h h1 h2 h3;split at h4
 ·obtain⟨u,z,h5,h6⟩:=xZ h4;have:=(xi h5).2
  cases h6;omega
 ·obtain⟨wd,c,h5,h6⟩:=xZ h4;have e5:=gX h5;have e6:=xc rs (xP rs b+1);have e7:=xc rs c;clear h4 h5;split at h6
  ·obtain⟨u,z,h7,h8⟩:=xZ h6;have:=(xi h7).2
   cases h8;omega
  ·split at h6
   ·cases h6
   ·obtain⟨u,d,h7,h8⟩:=xZ h6;obtain⟨o,l,h9,dV⟩:=xZ h8;obtain⟨bs,q,Qm,UL⟩:=xZ dV;obtain⟨u,z,WY,ny⟩:=xZ UL;have:=(xi h7).2;have:=xc rs d;have:=Cy h9;have:=Hv hm _ _ _ _ _ Qm;have:=(xi WY).2
    cases ny;omega
theorem UW(rs:List Int)(num:Bool)(i:Nat):i<(kN rs num i).2:=by
 unfold kN;split
 ·exact ze _
 split
 ·exact Nat.lt_add_of_pos_right (by decide)
 split
 ·exact ze _
 ·show i<i+1+_;omega
theorem XV{rs:List Int}{msg:Option ky}{num:Bool}(hm:∀ m,msg=some m->Gv m):∀ (n:Nat) (acc:Fo) (i j:Nat) (f:Fo),uF rs msg num n acc i = .ok (f,j)->i<=j
 | 0,acc,i,j,f,h=>by cases h
 | n+1,acc,i,j,f,h=>by
  rw[uF] at h;split at h
  ·cases h;exact z8 _
  split at h
  ·obtain⟨g,q,h1,h2⟩:=xZ h;have:=Pf hm h1;have:=XV hm n _ _ _ _ h2;omega
  split at h
  ·have:=XV hm n _ _ _ _ h;omega
  ·have:=XV hm n _ _ _ _ h;have:=UW rs num i;omega
theorem Cx(rs:List Int):∀ n,Gv (fF rs n)
 | 0,num,i,f,j,h=>by
  rw[fF] at h;exact XV (fun m e=>by cases e) _ _ _ _ _ h
 | n+1,num,i,f,j,h=>by
  rw[fF] at h;exact XV (fun m e=>by cases e;exact Cx rs n) _ _ _ _ _ h
end Go.Proofs.YthpldolmpinnhaaGreatDoor
