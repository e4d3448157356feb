import Derived.Test.YthpldolmpinnhaaGreatDoorJK9
import Derived.OwnWalk
import Derived.Maps.OwnSet
import Derived.Maps.Views
import Derived.Test.YthpldolmpinnhaaGreatDoorShelf
set_option maxHeartbeats 64000000
open Go.Lib renaming hid→z7
open Nat renaming le_refl→z8,le_trans→zy,lt_of_lt_of_le→zF,mul_le_mul_right→zP,lt_succ_self→zc
open Go.WideMaps renaming keyOf_string_mk→zx
open Go.World renaming block_lt_of_cell?→zv,setCell→zU,frozen?_setCell→zM,ownsRow_nil→zR
open List renaming eq_nil_of_length_eq_zero→zu,getD_eq_getElem?_getD→zg,getElem?_eq_getElem→zZ,flatMap_cons→zE,drop_of_length_le→zN,map_toArray→zW,length_drop→za
open Classical renaming byContradiction→zk
open Go.RowKit.Below renaming refl→zj,heap_setCell→zJ
open Go.Maps renaming string_keyed→zf,atKey_put_other→zV,atKey_put_same→zQ,has_put_other→zG,has_put_same→zD
open Bool renaming and_eq_true→zY
open Go.Value renaming int→zX
open Go.WideAt renaming IsKeyLit→zH
open Go.Result renaming andThen→zI,andThen_ok→zO
open Array renaming getElem?_eq_some_iff→zL
open Go.DataW renaming map→zS
open Go.Proofs.Tryz
namespace Go.Proofs.YthpldolmpinnhaaGreatDoor
open Go Go.RowKit
set_option maxRecDepth 10000
def Vd:List (List UInt8):=[[122,101,114,111],[111,110,101],[116,119,111],[102,101,119],[109,97,110,121],[111,116,104,101,114]]
theorem Fm(x:Wd):Lib.containsS (Zx.take 6) ⟨x.toArray⟩=decide (x∈Vd):=by
 have e:Zx.take 6=Vd.map (fun l=>(⟨l.toArray⟩:ByteArray)):=rfl;rw[e,Bool.eq_iff_iff,decide_eq_true_eq,Lib.containsS_iff,List.mem_map];constructor
 ·rintro⟨y,hy,h2⟩;have h3:=congrArg (fun b:ByteArray=>b.data.toList) h2;simp at h3;rw[←h3];exact hy
 ·intro h;exact⟨x,h,rfl⟩
theorem Bl(x:Wd)(w:World)(h:ui w):Calls prog 239 #[xk x] w fun e w'=>e = .returned (.bool (decide (x∈Vd)))/\w=w':=by
 have HC:=z7 (Tryz.slices_Contains_string 0 0 6 6 Zx ⟨x.toArray⟩ w (by decide) (by decide) (fun j hj=>by rw[Nat.zero_add];exact h j hj));rw[Fm] at HC;go_enter func239,ntmps239;go_wp2_with fail;refine HC.out.mono ?_;rintro e w' ⟨rfl,rfl⟩;go_wp2;go_ret;exact⟨rfl,rfl⟩
def vZ:List Int->List Int×Nat
 | []=>([],0)
 | c::t=>if c=39 then
   match t with
   | []=>([],1)
   | d::u=>if d=39 then (39::(vZ u).1,(vZ u).2+2) else ([],1)
  else (c::(vZ t).1,(vZ t).2+1)
def ki(rs:List Int)(num:Bool)(i:Nat):Wd×Nat :=
 if xU rs i≠39 then (enc (xU rs i),i+1)
 else if xU rs (i+1)=39 then (enc 39,i+2)
 else if bU (xU rs (i+1)) num=false then (enc 39,i+1)
 else ((vZ (rs.drop (i+1))).1.flatMap enc,i+1+(vZ (rs.drop (i+1))).2)
theorem JW:ZV prog 147 21 (.int .i32 0) 1 4 :=
 ⟨underlying147,info_parts (by kernel_rfl),rfl,by decide,by decide⟩
theorem R4{rs:List Int}{j:Nat}(h:rs.length<=j):vZ (rs.drop j)=([],0):=by rw[zN h,vZ]
theorem bK{rs:List Int}{j:Nat}(h:j<rs.length):rs.drop j=xU rs j::rs.drop (j+1):=by
 rw[List.drop_eq_getElem_cons h];unfold xU;rw[zg,zZ h];rfl
theorem M9{rs:List Int}{j:Nat}(h:j<rs.length)(hq:xU rs j≠39):vZ (rs.drop j)=(xU rs j::(vZ (rs.drop (j+1))).1,(vZ (rs.drop (j+1))).2+1):=by
 rw[bK h,vZ.eq_def];dsimp only;rw[if_neg hq]
theorem R5{rs:List Int}{j:Nat}(h:j<rs.length)(hq:xU rs j=39)(h2:xU rs (j+1)=39):vZ (rs.drop j)=(39::(vZ (rs.drop (j+2))).1,(vZ (rs.drop (j+2))).2+2):=by
 have xC:j+1<rs.length:=by
  apply zk;intro hc;rw[kF (by omega)] at h2
  cases h2
 rw[bK h,bK xC,vZ.eq_def];dsimp only;rw[if_pos hq,if_pos h2]
theorem Mz{rs:List Int}{j:Nat}(h:j<rs.length)(hq:xU rs j=39)(h2:xU rs (j+1)≠39):vZ (rs.drop j)=([],1):=by
 rw[bK h,vZ.eq_def];dsimp only;rw[if_pos hq];by_cases xC:j+1<rs.length
 ·rw[bK xC];dsimp only;rw[if_neg h2]
 ·rw[zN (by omega)]
theorem UQ{w w':World}{p base size n:Nat}{e:TypeId}{v:Value}{xs:List Value}(h:w.ownsRow base e size v n xs)(hb:xS p w w')(hp:p<base):w'.ownsRow base e size v n xs :=
 h.kept (row:=some p) ⟨hb.os,hb.tape,hb.output,hb.size,fun i hi hn=>hb.block i hi (fun e=>hn (by rw[e]))⟩ (by
  cases hv:v.ownBlock with
  | none=>exact .inl rfl
  | some g=>exact .inr (fun e=>by have:=(h.lt g hv).1;cases e;omega))
theorem R6:∀ (n:Nat) (l:List Int),l.length<=n->(vZ l).2<=l.length/\(vZ l).1.length<=l.length:=by
 intro n;induction n with
 | zero =>
  intro l h;have:l=[]:=zu (by omega);subst this;simp[vZ]
 | succ n ih =>
  intro l h
  cases l with
  | nil=>simp[vZ]
  | cons c t =>
   rw[vZ.eq_def];dsimp only;by_cases hc:c=39
   ·rw[if_pos hc]
    cases t with
    | nil=>simp
    | cons d u =>
     dsimp only;by_cases hd:d=39
     ·rw[if_pos hd];have:=ih u (by simp at h;omega);simp;omega
     ·rw[if_neg hd];simp
   ·rw[if_neg hc];have:=ih t (by simp at h;omega);simp;omega
theorem ET{rs:List Int}{num:Bool}{i:Nat}(h:i<rs.length):i<(ki rs num i).2/\(ki rs num i).2<=rs.length:=by
 unfold ki;split
 ·exact⟨by show i<i+1;omega,by show i+1<=_;omega⟩
 split
 ·next h2 =>
  have:i+1<rs.length:=by
   apply zk;intro hc;rw[kF (by omega)] at h2
   cases h2
  exact⟨by show i<i+2;omega,by show i+2<=_;omega⟩
 split
 ·exact⟨by show i<i+1;omega,by show i+1<=_;omega⟩
 ·have:=(R6 _ (rs.drop (i+1)) (z8 _)).1;rw[za] at this;exact⟨by show i<i+1+_;omega,by show i+1+_<=_;omega⟩
theorem JA{w:World}{base:Nat}{v:Value}{acc:List Int}(h:w.ownsRow base 21 1 v acc.length (acc.map (zX .i32))) :
  (convert 147 262 v).run prog w = .ok (xk (acc.flatMap enc)) w:=by
 rcases h.2 with⟨hv,hn⟩|⟨g,cap,cur,hv,_⟩
 ·have:acc=[]:=zu hn;subst this;rw[hv,run_convert_runes_nil w _ _ 21 _ _ underlying147 underlying21 underlying262];rfl
 ·subst hv;have hc:=run_convert_runes (P:=prog) w 147 262 21 ⟨g,0,none⟩ acc.length cap acc (z8 _) underlying147 underlying21 underlying262 (fun j hj=>by
   rw[ur,h.cellAt j (by omega)];simp[zg,hj])
  rw[List.take_length,X0] at hc;exact hc
theorem Wk(p:Nat)(rs:List Int)(i d:Nat)(num:Bool)(w:World)(h:vK p rs i d w)(hi:i<rs.length) :
  Calls prog 158 #[.pointer (some ⟨p,0,none⟩),.bool num] w (OU p rs d (xk (ki rs num i).1) (ki rs num i).2 w):=by
 have HH:=z7 h;have HN:=z7 (jE p rs i d w h);have hL:=h.len;have QN:=h.lt;obtain⟨T,hT⟩:∃ T,ki rs num i=T:=⟨_,rfl⟩;rw[hT];have HT:=z7 hT;obtain⟨T1,T2⟩:=T;dsimp only;obtain⟨q,hq⟩:∃ q,xU rs i=q:=⟨_,rfl⟩;rw[hq] at HN;have HQ:=z7 hq;clear h hT hq;go_enter func158,ntmps158;go_wp2_with fail;refine HN.out.mono ?_;rintro e w1 ⟨rfl,xB⟩;have uF:=HH.out.below xB;have h5:=uF.at_;have h7:=uF.z1;have DB:=uF.move (i+1) (by omega);have HM:=z7 (show vK p rs (i+1) d (w1.setCell ⟨p,1,none⟩ (.int .i64 ((i:Int)+1))) by rw[show(i:Int)+1=((i+1:Nat):Int) by omega];exact DB);have gT:xS p w (w1.setCell ⟨p,1,none⟩ (.int .i64 ((i:Int)+1))):=(xS.of xB).UY 1 _;obtain⟨W,hW⟩:∃ W,w1.setCell ⟨p,1,none⟩ (.int .i64 ((i:Int)+1))=W:=⟨_,rfl⟩;rw[hW] at HM gT;have HW:=z7 hW;clear uF DB xB HN hW;by_cases Wj:q=39
 ·have j4:(q !=39)=false:=by rw[Wj];rfl
  have lU:=HT.out;unfold ki at lU;rw[if_neg (by rw[HQ.out,Wj];simp)] at lU;have Z4:=z7 lU;have YP:=Yw p rs (i+1) d 39 W HM.out (by decide);clear lU HQ;subst Wj;by_cases EW:xU rs (i+1)=39
  ·rw[show(xU rs (i+1)==39)=true by simpa using EW,if_pos EW] at YP;have HTK:=z7 YP;have HE:=z7 (show(enc 39,i+2)=(T1,T2) by have h:=Z4.out;rw[if_pos EW] at h;exact h);clear YP EW;go_wp2_with fail;rw[HW.out];refine HTK.out.mono ?_;rintro e w2 ⟨rfl,uw,xD⟩;have dN:=z7 uw;clear uw;go_wp2;go_ret;have he:=HE.out
   cases he;exact⟨rfl,dN.out,gT.trans xD⟩
  ·rw[show(xU rs (i+1)==39)=false by simpa using EW,if_neg EW] at YP;have HTK:=z7 YP;have TJ:=Z4.out;rw[if_neg EW] at TJ;have My:=z7 TJ;obtain⟨sp,hsp⟩:∃ b,bU (xU rs (i+1)) num=b:=⟨_,rfl⟩;have r8:=z7 hsp;clear YP TJ hsp Z4;go_wp2_with fail;rw[HW.out];refine HTK.out.mono ?_;rintro e w2 ⟨rfl,uw,xD⟩;have dN:=z7 uw;have uN:=gT.trans xD;clear uw xD HTK HW HM gT;go_wp2_with fail;refine(jE p rs (i+1) d w2 dN.out).mono ?_;rintro e w3 ⟨rfl,uD⟩;have UK:=z7 (dN.out.below uD);have dF:=uN.below uD;clear uD uN dN;go_wp2_with fail;refine(EM (xU rs (i+1)) num w3).mono ?_;rintro e w' ⟨rfl,rfl⟩;rw[r8.out]
   cases sp
   ·have HE:=z7 (show(enc 39,i+1)=(T1,T2) by have h:=My.out;rw[if_pos r8.out] at h;exact h);go_wp2;go_ret;have he:=HE.out
    cases he;exact⟨rfl,UK.out,dF⟩
   ·have HE:=z7 (show((vZ (rs.drop (i+1))).1.flatMap enc,i+1+(vZ (rs.drop (i+1))).2)=(T1,T2) by have h:=My.out;rw[if_neg (by rw[r8.out];simp)] at h;exact h);clear My r8 HT EW;go_wp2_with fail;obtain⟨wq,Zv⟩:∃ x,x=w3:=⟨_,rfl⟩;obtain⟨E1,hE1⟩:∃ x,(vZ (rs.drop (i+1))).1=x:=⟨_,rfl⟩;obtain⟨E2,hE2⟩:∃ x,i+1+(vZ (rs.drop (i+1))).2=x:=⟨_,rfl⟩;have DH:=z7 hE1;have tW:=z7 hE2;clear hE1 hE2;go_loopw [5,6] (fun rv tv wr=>∃ (j:Nat) (r:Int) (acc:List Int),j<=rs.length/\rv = .int .i32 r/\vK p rs j d wr/\xS p w wr/\wr.ownsRow w.heap.size 21 1 tv acc.length (acc.map (zX .i32))/\acc.length<=j/\acc++(vZ (rs.drop j)).1=E1/\j+(vZ (rs.drop j)).2=E2) (fun _ _ wr=>rs.length - M0 p wr)
    case atStart=>exact⟨i+1,39,[],by omega,rfl,UK.out,dF,zR _ _ _ _,by simp,DH.out,tW.out⟩
    case round =>
     obtain⟨j,r,acc,hj,rfl,hs,qG,xV,qz,r9,rz⟩:=hrel;have HS:=z7 hs;have HO:=z7 xV;have ry:=z7 r9;have BW:=z7 rz;obtain⟨ta,tc,rfl⟩:=xZ xV;clear hs xV r9 rz;go_wp2_with fail;refine(jE p rs j d wr HS.out).mono ?_;rintro e w4 ⟨rfl,uW⟩;have Kd:=HS.out.below uW;have YR:=z7 Kd;have Fp:=z7 (UQ HO.out (xS.of (p:=p) uW) QN);have X2:=qG.below uW;clear Kd uW qG;by_cases ZL:j<rs.length
     ·obtain⟨c,hc⟩:∃ c,xU rs j=c:=⟨_,rfl⟩;rw[hc];have VE:0<=c:=by
       rw[←hc];unfold xU;rw[zg,zZ ZL];exact YR.out.pos _ (List.getElem_mem ZL)
      have qY:c≠-1:=by omega
      have HC:=z7 hc;clear hc;go_wp2_with fail;refine(jE p rs j d w4 YR.out).mono ?_;rintro e w5 ⟨rfl,kZ⟩;rw[HC.out];have Eu:=YR.out.below kZ;have Ja:=z7 (UQ Fp.out (xS.of (p:=p) kZ) QN);have UJ:=X2.below kZ;have g5:=Eu.at_;have g7:=Eu.z1;have DB:=Eu.move (j+1) (by omega);have hM:vK p rs (j+1) d (w5.setCell ⟨p,1,none⟩ (.int .i64 ((j:Int)+1))):=by rw[show(j:Int)+1=((j+1:Nat):Int) by omega];exact DB
      have hO6:=UQ Ja.out (xS.set p w5 1 (.int .i64 ((j:Int)+1))) QN;have Mx:xS p w (w5.setCell ⟨p,1,none⟩ (.int .i64 ((j:Int)+1))):=UJ.UY 1 _;obtain⟨W6,Jc⟩:∃ W,w5.setCell ⟨p,1,none⟩ (.int .i64 ((j:Int)+1))=W:=⟨_,rfl⟩;rw[Jc] at hM hO6 Mx;have HM6:=z7 hM;have ru:=z7 hO6;have HW6:=z7 Jc;clear Eu DB hM hO6 kZ UJ Jc;by_cases Mv:c=39
      ·have X3:(c==39)=true:=by rw[Mv];rfl
       have TQ:=Yw p rs (j+1) d 39 W6 HM6.out (by decide);by_cases dy:xU rs (j+1)=39
       ·rw[show(xU rs (j+1)==39)=true by simpa using dy,if_pos dy] at TQ;have Wf:=z7 TQ;have HQQ:=z7 (R5 ZL (HC.out.trans Mv) dy);have TU:j+1<rs.length:=by
         apply zk;intro OD;rw[kF (by omega)] at dy
         cases dy
        subst Mv;clear TQ dy;go_wp2_with fail;rw[HW6.out];refine Wf.out.mono ?_;rintro e w7 ⟨rfl,hs7,jQ⟩;have HS7:=z7 hs7;have rq:=z7 (UQ ru.out jQ QN);have R7:=Mx.trans jQ;have yo9:w.heap.size<=w7.heap.size:=R7.size;clear hs7 jQ Wf;go_wp2_with (first|(at_builtin;refine qd JW rfl _ _ rfl w.heap.size _ acc.length (acc.map (zX .i32)) rfl (rq.out.alloc _) ⟨w7.heap.size,0,none⟩ 1 1 [.int .i32 39] rfl rfl ?a1 ?a2 ?a3 ?a4 ?_)|fail)
        case a1=>exact cells_one (xu _ _ _ _ _)
        case a2 =>
         intro u hu;simp at hu;subst hu;rfl
        case a3=>have:=HS7.out.len;omega
        case a4=>simp;omega
        intro v8 w8 Wb th;have EA:∀ q,(Value.slice ta acc.length tc).ownBlock=some q->w.heap.size<=q:=fun q hq=>(rq.out.lt q hq).1
        have wz:xS p w w8:=(R7.below ((zj _ _).alloc (z8 _) _)).grown th EA;have hS8:=(HS7.out.below ((zj _ _).alloc (z8 _) _)).grown th (fun q hq=>by have:=EA q hq;omega);have HS8:=z7 hS8;have HO8:=z7 (show w8.ownsRow w.heap.size 21 1 v8 (acc++[39]).length ((acc++[39]).map (zX .i32)) by simpa using Wb);clear Wb th hS8;go_wp2;go_roundw
        case rel=>exact⟨j+2,39,acc++[39],by omega,rfl,HS8.out,wz,HO8.out,by simp;omega,by rw[←ry.out,HQQ.out];simp,by rw[←BW.out,HQQ.out];omega⟩
        case measure=>rw[vJ HS8.out,vJ HS.out];omega
       ·rw[show(xU rs (j+1)==39)=false by simpa using dy,if_neg dy] at TQ;have Wf:=z7 TQ;have hqq:=Mz ZL (HC.out.trans Mv) dy;have Uz:=z7 (show acc=E1 by rw[←ry.out,hqq];simp);have dY:=z7 (show j+1=E2 by rw[←BW.out,hqq]);subst Mv;clear TQ dy hqq;go_wp2_with fail;rw[HW6.out];refine Wf.out.mono ?_;rintro e w7 ⟨rfl,hs7,jQ⟩;have HS7:=z7 hs7;have rq:=z7 (UQ ru.out jQ QN);have R7:=Mx.trans jQ;have hcv:=JA rq.out;clear hs7 jQ Wf;go_wp2;go_ret;have he:=HE.out;rw[DH.out,tW.out] at he
        cases he;exact⟨by rw[Uz.out];rfl,by rw[←dY.out];exact HS7.out,R7⟩
      ·have X3:(c==39)=false:=by simpa using Mv
       have HQQ:=z7 (M9 ZL (fun e=>Mv (HC.out.symm.trans e)));have yy6:w.heap.size<=W6.heap.size:=Mx.size;have yy7:=HW6.out;subst yy7;go_wp2_with (first|(at_builtin;refine qd JW rfl _ _ rfl w.heap.size _ acc.length (acc.map (zX .i32)) rfl (ru.out.alloc _) ⟨w5.heap.size,0,none⟩ 1 1 [.int .i32 c] rfl rfl ?a1 ?a2 ?a3 ?a4 ?_)|fail)
       case a1 =>
        have e:(w5.setCell ⟨p,1,none⟩ (.int .i64 ((j:Int)+1))).heap.size=w5.heap.size:=by simp[World.setCell]
        have h:=xu (w5.setCell ⟨p,1,none⟩ (.int .i64 ((j:Int)+1))) #[.int .i32 c] 21 (0,0) 0;rw[e] at h;exact cells_one h
       case a2 =>
        intro u hu;simp at hu;subst hu;rfl
       case a3=>have:=HM6.out.len;omega
       case a4=>exact zy yy6 (by simp)
       intro v8 w8 Wb th;have EA:∀ q,(Value.slice ta acc.length tc).ownBlock=some q->w.heap.size<=q:=fun q hq=>(ru.out.lt q hq).1
       have wz:xS p w w8:=(Mx.below ((zj _ _).alloc (z8 _) _)).grown th EA;have hS8:=(HM6.out.below ((zj _ _).alloc (z8 _) _)).grown th (fun q hq=>by have:=EA q hq;omega);have HS8:=z7 hS8;have HO8:=z7 (show w8.ownsRow w.heap.size 21 1 v8 (acc++[c]).length ((acc++[c]).map (zX .i32)) by simpa using Wb);clear Wb th hS8;go_wp2;go_roundw
       case rel=>exact⟨j+1,c,acc++[c],by omega,rfl,HS8.out,wz,HO8.out,by simp;omega,by rw[←ry.out,HQQ.out,HC.out];simp,by rw[←BW.out,HQQ.out];omega⟩
       case measure=>rw[vJ HS8.out,vJ HS.out];omega
     ·have HX:=z7 (R4 (rs:=rs) (j:=j) (by omega));have HNE:=z7 (kF (rs:=rs) (i:=j) (by omega));have hcv:=JA Fp.out;rw[HNE.out];go_wp2;go_ret;have he:=HE.out;rw[DH.out,tW.out] at he;have e1:=ry.out;have e2:=BW.out;rw[HX.out] at e1 e2
      cases he;exact⟨by rw[←e1];first|(simp;done)|(simp;rfl),by rw[←e2];exact YR.out,X2⟩
 ·have j4:(q !=39)=true:=by simpa using Wj
  have lU:=HT.out;unfold ki at lU;rw[if_pos (by rw[HQ.out];exact Wj)] at lU;have Z4:=z7 lU;clear lU;go_wp2;go_ret;have h:=Z4.out;rw[HQ.out] at h
  cases h;exact⟨rfl,by rw[HW.out];exact HM.out,by rw[HW.out];exact gT⟩
def R8:Wd:=[115,101,108,101,99,116]
def R9:Wd:=[112,108,117,114,97,108]
def WZ:Wd:=[115,101,108,101,99,116,111,114,100,105,110,97,108]
def UG(m:Wd):Option Nat:=if m=R8 then some 0 else if m=R9 then some 1 else if m=WZ then some 2 else none
def Bm(w:World)(b:Nat):Prop :=
 ∃ D:DataW Unit,w.ownsMap prog 9 (plainElem prog 178) b 3 D/\∀ m:Wd,Maps.has D (.string m)=(UG m).isSome/\D.atKey (.string m) (.lit (.int .i64 0)) = .lit (.int .i64 (((UG m).getD 0:Nat):Int))
theorem Bm.look{w:World}{b:Nat}(h:Bm w b)(m:Wd)(hm:m.length<=5000000) :
  (Instr.lookup 321 (.map (some b)) (xk m) true).run prog w = .ok (.tuple #[.int .i64 (((UG m).getD 0:Nat):Int),.bool (UG m).isSome]) w:=by
 obtain⟨D,h1,h3⟩:=h;obtain⟨v,ps,vB,hv⟩:=h1.look_ok (zf underlying9) underlying321 (z := .int .i64 0) (by first|rfl|simp[go_sem]) (plainElem_int underlying178 (by decide))
  (key:=xk m) (zx (s:=⟨m.toArray⟩) underlying9 (by rw[size_mk];unfold maxLen;omega))
 rw[toList_mk] at vB hv;rw[(h3 m).1] at vB;rw[(h3 m).2] at hv;obtain⟨c,rfl,hc,_⟩:=plainElem_int_inv underlying178 hv;simp only[Prod.mk.injEq,DataW.lit.injEq,Lit.int.injEq] at hc;rw[vB,←hc.1.2]
theorem Rz(w:World):Calls prog 201 #[] w fun e w'=>(∃ b,e = .returned (.map (some b))/\Bm w' b)/\Below w.heap.size w w':=by
 have LI:=@run_makeMap prog;go_enter func201,ntmps201;go_wp2;obtain⟨w1,rj,Vb,Y9⟩:=(World.ownsMap_made (H:=Unit) w prog 9 (plainElem prog 178)).update (zf underlying9) underlying321 (by unfold maxLen;omega) (zx (s:=⟨#[115,101,108,101,99,116]⟩) underlying9 (by decide)) (plainElem_int underlying178 (q := .i64) (a:=0) (by decide));rw[rj];simp only[zI];clear rj;go_wp2;obtain⟨w2,rf,KJ,dV⟩:=(Vb).update (zf underlying9) underlying321 (by unfold maxLen;omega) (zx (s:=⟨#[112,108,117,114,97,108]⟩) underlying9 (by decide)) (plainElem_int underlying178 (q := .i64) (a:=1) (by decide));rw[rf];simp only[zI];clear rf;go_wp2;obtain⟨w3,rZ,WY,hg3⟩:=(KJ).update (zf underlying9) underlying321 (by unfold maxLen;omega) (zx (s:=⟨#[115,101,108,101,99,116,111,114,100,105,110,97,108]⟩) underlying9 (by decide)) (plainElem_int underlying178 (q := .i64) (a:=2) (by decide));rw[rZ];simp only[zI];clear rZ;go_wp2;go_ret;have hb:Below w.heap.size w w3:=((((zj _ _).alloc (z8 _) _).grown Y9 (by simp) (fun q hq=>by cases hq;exact z8 _)).grown dV (zy (by simp) Y9.size) (fun q hq=>by cases hq;exact z8 _)).grown hg3 (zy (zy (by simp) Y9.size) dV.size) (fun q hq=>by cases hq;exact z8 _);refine⟨⟨_,rfl,_,WY,fun m=>?_⟩,hb⟩;have hm:Maps.IsMap (zS []:DataW Unit):=⟨_,rfl⟩;have k1:zH (.string R8):=trivial;have k2:zH (.string R9):=trivial;have k3:zH (.string WZ):=trivial;show Maps.has ((((zS []:DataW Unit).put (.string R8) (.lit (.int .i64 0))).put (.string R9) (.lit (.int .i64 1))).put (.string WZ) (.lit (.int .i64 2))) (.string m)=_/\((((zS []:DataW Unit).put (.string R8) (.lit (.int .i64 0))).put (.string R9) (.lit (.int .i64 1))).put (.string WZ) (.lit (.int .i64 2))).atKey (.string m) (.lit (.int .i64 0))=_;have h1:=hm.put (.string R8) (.lit (.int .i64 0));have h2:=h1.put (.string R9) (.lit (.int .i64 1));have ne:∀ {a b:Wd},a≠b->(Lit.string a) ≠ .string b:=fun h e=>h (by cases e;rfl)
 unfold UG;by_cases e3:m=WZ
 ·subst e3;rw[zD h2 k3,zQ h2 k3,if_neg (by decide),if_neg (by decide),if_pos rfl];exact⟨rfl,rfl⟩
 ·rw[zG (ne e3),zV (ne e3)];by_cases e2:m=R9
  ·subst e2;rw[zD h1 k2,zQ h1 k2,if_neg (by decide),if_pos rfl];exact⟨rfl,rfl⟩
  ·rw[zG (ne e2),zV (ne e2)];by_cases e1:m=R8
   ·subst e1;rw[zD hm k1,zQ hm k1,if_pos rfl];exact⟨rfl,rfl⟩
   ·rw[zG (ne e1),zV (ne e1),if_neg e1,if_neg e2,if_neg e3];exact⟨rfl,rfl⟩
inductive Fo where
 | nil:Fo
 | text (t:Wd) (r:Fo):Fo
 | hash (r:Fo):Fo
 | put (name:Wd) (pl:Nat) (r:Fo):Fo
 | num (name:Wd) (pl:Nat) (r:Fo):Fo
 | br (name:Wd) (pl form:Nat) (off:Wd) (close:Nat) (bs r:Fo):Fo
 | ug (key:Wd) (pl:Nat) (msg r:Fo):Fo
namespace Fo
def len:Fo->Nat
 | nil=>0
 | text _ r=>r.len+1
 | hash r=>r.len+1
 | put _ _ r=>r.len+1
 | num _ _ r=>r.len+1
 | br _ _ _ _ _ _ r=>r.len+1
 | ug _ _ _ r=>r.len+1
def app:Fo->Fo->Fo
 | nil,g=>g
 | text t r,g=>text t (r.app g)
 | hash r,g=>hash (r.app g)
 | put n a r,g=>put n a (r.app g)
 | num n a r,g=>num n a (r.app g)
 | br n a f o c b r,g=>br n a f o c b (r.app g)
 | ug k a m r,g=>ug k a m (r.app g)
theorem uf:∀ f g:Fo,(f.app g).len=f.len+g.len
 | nil,g=>by simp[app,len]
 | text t r,g=>by simp[app,len,uf r g];omega
 | hash r,g=>by simp[app,len,uf r g];omega
 | put n a r,g=>by simp[app,len,uf r g];omega
 | num n a r,g=>by simp[app,len,uf r g];omega
 | br n a f o c b r,g=>by simp[app,len,uf r g];omega
 | ug k a m r,g=>by simp[app,len,uf r g];omega
def xM:Fo->Wd->Fo
 | nil,t=>text t nil
 | text s nil,t=>text (s++t) nil
 | text s r,t=>text s (r.xM t)
 | hash r,t=>hash (r.xM t)
 | put n a r,t=>put n a (r.xM t)
 | num n a r,t=>num n a (r.xM t)
 | br n a f o c b r,t=>br n a f o c b (r.xM t)
 | ug k a m r,t=>ug k a m (r.xM t)
def xJ:Fo->Option Wd
 | nil=>none
 | text s nil=>some s
 | text _ r=>r.xJ
 | hash r=>r.xJ
 | put _ _ r=>r.xJ
 | num _ _ r=>r.xJ
 | br _ _ _ _ _ _ r=>r.xJ
 | ug _ _ _ r=>r.xJ
def vD:Fo->Bool
 | nil=>true
 | text _ r=>r.vD
 | hash r=>r.vD
 | put _ _ r=>r.vD
 | num _ _ r=>r.vD
 | br _ _ _ _ _ _ r=>r.vD
 | ug _ _ _ _=>false
end Fo
def xH(o:Wd):Nat:=o.foldl (fun v c=>10*v+(c.toNat - 48)) 0
def VH(lo hi:Nat)(w:World)(a:Option Addr)(vs:List Value):Prop:=∀ j (h:j<vs.length),∃ g o,a=some ⟨g,o,none⟩/\lo<=g/\g<hi/\w.cell? ⟨g,o+j,none⟩=some vs[j]
def xY(lo hi:Nat)(w:World):List Value->Fo->Prop
 | vs,.nil=>vs=[]
 | vs,.text t r=>∃ vt,vs = .iface 262 (xk t)::vt/\xY lo hi w vt r
 | vs,.hash r=>∃ vt,vs = .iface 264 (.agg #[])::vt/\xY lo hi w vt r
 | vs,.put n a r=>∃ vt b,vs = .iface 172 (.pointer (some ⟨b,0,none⟩))::vt/\lo<=b/\b<hi/\w.cell? ⟨b,0,none⟩=some (xk n)/\w.cell? ⟨b,1,none⟩=some (.int .i64 a)/\xY lo hi w vt r
 | vs,.num n a r=>∃ vt b,vs = .iface 175 (.pointer (some ⟨b,0,none⟩))::vt/\lo<=b/\b<hi/\w.cell? ⟨b,0,none⟩=some (xk n)/\w.cell? ⟨b,1,none⟩=some (.int .i64 a)/\xY lo hi w vt r
 | vs,.br n a f o c bs r=>∃ vt b ba bc ws,vs = .iface 177 (.pointer (some ⟨b,0,none⟩))::vt/\lo<=b/\b<hi/\w.cell? ⟨b,0,none⟩=some (xk n)/\w.cell? ⟨b,1,none⟩=some (.int .i64 a) /\
   w.cell? ⟨b,2,none⟩=some (.int .i64 f)/\w.cell? ⟨b,3,none⟩=some (.int .i64 (xH o))/\w.cell? ⟨b,4,none⟩=some (.slice ba bs.len bc)/\w.cell? ⟨b,5,none⟩=some (.int .i64 c) /\
   VH lo hi w ba ws/\xY lo hi w ws bs/\xY lo hi w vt r
 | vs,.ug k a m r=>∃ vt ma mc ws,vs=xk k :: .int .i64 a :: .slice ma m.len mc::vt/\VH lo hi w ma ws/\xY lo hi w ws m/\xY lo hi w vt r
theorem VH.keep{lo hi lo' hi':Nat}{w w':World}{a:Option Addr}{vs:List Value}(h:VH lo hi w a vs)(hk:vQ lo hi w w')(h1:lo'<=lo)(h2:hi<=hi'):VH lo' hi' w' a vs:=fun j hj=>by
 obtain⟨g,o,e1,e2,e3,e4⟩:=h j hj;exact⟨g,o,e1,by omega,by omega,(hk.cell (p:=⟨g,o+j,none⟩) e2 e3).trans e4⟩
theorem xY.keep{lo hi lo' hi':Nat}{w w':World}(hk:vQ lo hi w w')(h1:lo'<=lo)(h2:hi<=hi'):∀ (f:Fo) (vs:List Value),xY lo hi w vs f->xY lo' hi' w' vs f
 | .nil,vs,h=>h
 | .text t r,vs,h=>by
  obtain⟨vt,e,hr⟩:=h;exact⟨vt,e,xY.keep hk h1 h2 r vt hr⟩
 | .hash r,vs,h=>by
  obtain⟨vt,e,hr⟩:=h;exact⟨vt,e,xY.keep hk h1 h2 r vt hr⟩
 | .put n a r,vs,h=>by
  obtain⟨vt,b,e,l1,l2,c0,c1,hr⟩:=h;exact⟨vt,b,e,by omega,by omega,(hk.cell (p:=⟨b,0,none⟩) l1 l2).trans c0,(hk.cell (p:=⟨b,1,none⟩) l1 l2).trans c1,xY.keep hk h1 h2 r vt hr⟩
 | .num n a r,vs,h=>by
  obtain⟨vt,b,e,l1,l2,c0,c1,hr⟩:=h;exact⟨vt,b,e,by omega,by omega,(hk.cell (p:=⟨b,0,none⟩) l1 l2).trans c0,(hk.cell (p:=⟨b,1,none⟩) l1 l2).trans c1,xY.keep hk h1 h2 r vt hr⟩
 | .br n a f o c bs r,vs,h=>by
  obtain⟨vt,b,ba,bc,ws,e,l1,l2,c0,c1,c2,c3,c4,c5,vE,Uy,hr⟩:=h;exact⟨vt,b,ba,bc,ws,e,by omega,by omega,(hk.cell (p:=⟨b,0,none⟩) l1 l2).trans c0,(hk.cell (p:=⟨b,1,none⟩) l1 l2).trans c1,(hk.cell (p:=⟨b,2,none⟩) l1 l2).trans c2,(hk.cell (p:=⟨b,3,none⟩) l1 l2).trans c3,
   (hk.cell (p:=⟨b,4,none⟩) l1 l2).trans c4,(hk.cell (p:=⟨b,5,none⟩) l1 l2).trans c5,vE.keep hk h1 h2,xY.keep hk h1 h2 bs ws Uy,xY.keep hk h1 h2 r vt hr⟩
 | .ug k a m r,vs,h=>by
  obtain⟨vt,ma,mc,ws,e,vE,hm,hr⟩:=h;exact⟨vt,ma,mc,ws,e,vE.keep hk h1 h2,xY.keep hk h1 h2 m ws hm,xY.keep hk h1 h2 r vt hr⟩
theorem xY.app{lo hi:Nat}{w:World}{us:List Value}{g:Fo}(hg:xY lo hi w us g):∀ (f:Fo) (vs:List Value),xY lo hi w vs f->xY lo hi w (vs++us) (f.app g)
 | .nil,vs,h=>by
  have e:vs=[]:=h;subst e;exact hg
 | .text t r,vs,h=>by
  obtain⟨vt,rfl,hr⟩:=h;exact⟨_,rfl,xY.app hg r vt hr⟩
 | .hash r,vs,h=>by
  obtain⟨vt,rfl,hr⟩:=h;exact⟨_,rfl,xY.app hg r vt hr⟩
 | .put n a r,vs,h=>by
  obtain⟨vt,b,rfl,l1,l2,c0,c1,hr⟩:=h;exact⟨_,b,rfl,l1,l2,c0,c1,xY.app hg r vt hr⟩
 | .num n a r,vs,h=>by
  obtain⟨vt,b,rfl,l1,l2,c0,c1,hr⟩:=h;exact⟨_,b,rfl,l1,l2,c0,c1,xY.app hg r vt hr⟩
 | .br n a f o c bs r,vs,h=>by
  obtain⟨vt,b,ba,bc,ws,rfl,l1,l2,c0,c1,c2,c3,c4,c5,vE,Uy,hr⟩:=h;exact⟨_,b,ba,bc,ws,rfl,l1,l2,c0,c1,c2,c3,c4,c5,vE,Uy,xY.app hg r vt hr⟩
 | .ug k a m r,vs,h=>by
  obtain⟨vt,ma,mc,ws,rfl,vE,hm,hr⟩:=h;exact⟨_,ma,mc,ws,rfl,vE,hm,xY.app hg r vt hr⟩
def Fo.ux:Fo->Bool
 | .nil=>true
 | .ug _ _ _ r=>r.ux
 | _=>false
theorem xY.count{lo hi:Nat}{w:World}:∀ (f:Fo) (vs:List Value),xY lo hi w vs f->f.vD=true->vs.length=f.len
 | .nil,vs,h,_=>by
  have e:vs=[]:=h;subst e;rfl
 | .text t r,vs,h,hm=>by
  obtain⟨vt,rfl,hr⟩:=h;simp[Fo.len,xY.count r vt hr hm]
 | .hash r,vs,h,hm=>by
  obtain⟨vt,rfl,hr⟩:=h;simp[Fo.len,xY.count r vt hr hm]
 | .put n a r,vs,h,hm=>by
  obtain⟨vt,b,rfl,l1,l2,c0,c1,hr⟩:=h;simp[Fo.len,xY.count r vt hr hm]
 | .num n a r,vs,h,hm=>by
  obtain⟨vt,b,rfl,l1,l2,c0,c1,hr⟩:=h;simp[Fo.len,xY.count r vt hr hm]
 | .br n a f o c bs r,vs,h,hm=>by
  obtain⟨vt,b,ba,bc,ws,rfl,l1,l2,c0,c1,c2,c3,c4,c5,vE,Uy,hr⟩:=h;simp[Fo.len,xY.count r vt hr hm]
 | .ug k a m r,vs,h,hm=>by cases hm
abbrev kz(α:Type):=Except (Nat×Nat) (α×Nat)
def kz.then{α β:Type}(x:kz α)(k:α->Nat->kz β):kz β:=match x with | .error e => .error e | .ok (a,i)=>k a i
theorem then_ok{α β:Type}(a:α)(i:Nat)(k:α->Nat->kz β):kz.then (.ok (a,i)) k=k a i:=rfl
def vR(rs:List Int)(r:Int)(i:Nat):kz Unit:=if xU rs i=r then .ok ((),i+1) else .error (3,i)
def fy(rs:List Int)(i:Nat):kz Wd:=if qi rs i=0 then .error (3,i) else .ok (kb rs i (qi rs i),i+qi rs i)
def jz(rs:List Int)(i:Nat):kz Wd:=if qk rs i=0 then .error (3,i) else .ok (kb rs i (qk rs i),i+qk rs i)
abbrev jK:=Bool->Nat->kz Fo
def Je(rs:List Int)(num:Bool)(i:Nat):kz Wd :=
 if num=true/\xU rs i=61 then (jz rs (i+1)).then fun k j => .ok (61::k,j)
 else (fy rs i).then fun k j=>if num=true/\k ∉ Vd then .error (3,i) else .ok (k,j)
def VZ(rs:List Int):Option jK->Bool->Wd->Nat->Nat->Nat->kz Fo
 | none,_,_,_,o,_ => .error (4,o)
 | some m,num,k,i,_,l=>(m num l).then fun f q=>(vR rs 125 q).then fun _ z => .ok (.ug k i f .nil,xm rs z)
def X7(rs:List Int)(msg:Option jK)(num:Bool)(i:Nat):kz Fo :=
 (Je rs num i).then fun k j=>(vR rs 123 (xm rs j)).then fun _ l=>VZ rs msg num k i (xm rs j) l
def gG(rs:List Int)(msg:Option jK)(num:Bool):Nat->Fo->Nat->kz Fo
 | 0,_,i => .error (3,i)
 | n+1,acc,i=>if xU rs i=125/\acc.len≠0 then .ok (acc,i) else (X7 rs msg num i).then fun f j=>gG rs msg num n (acc.app f) j
def wy:Wd:=[110,117,109,98,101,114]
def Fs(rs:List Int)(form:Nat)(i:Nat):kz Wd :=
 if form≠0/\Bi rs i=true then (jz rs (xm rs (i+7))).then fun o j => .ok (o,xm rs j) else .ok ([48],i)
def YW(rs:List Int)(msg:Option jK)(i:Nat):kz Fo :=
 (vR rs 123 i).then fun _ a =>
 (fy rs (xm rs a)).then fun name b =>
 if xU rs (xm rs b)≠44 then (vR rs 125 (xm rs b)).then fun _ z => .ok (.put name i .nil,z)
 else (fy rs (xm rs (xm rs b+1))).then fun w c =>
  if w=wy then (vR rs 125 (xm rs c)).then fun _ z => .ok (.num name i .nil,z)
  else match UG w with
   | none => .error (3,xm rs (xm rs b+1))
   | some form=>(vR rs 44 (xm rs c)).then fun _ d=>(Fs rs form (xm rs d)).then fun o l =>
    (gG rs msg (decide (form≠0)) (rs.length+1) .nil l).then fun bs q=>(vR rs 125 q).then fun _ z => .ok (.br name i form o q bs .nil,z)
def ql(rs:List Int)(msg:Option jK)(num:Bool):Nat->Fo->Nat->kz Fo
 | 0,_,i => .error (3,i)
 | n+1,acc,i =>
  if xU rs i = -1\/xU rs i=125 then .ok (acc,i)
  else if xU rs i=123 then (YW rs msg i).then fun f j=>ql rs msg num n (acc.app f) j
  else if xU rs i=35/\num=true then ql rs msg num n (acc.app (.hash .nil)) (i+1)
  else ql rs msg num n (acc.xM (ki rs num i).1) (ki rs num i).2
def YA(rs:List Int):Nat->jK
 | 0=>fun num i=>ql rs none num (rs.length+1) .nil i
 | n+1=>fun num i=>ql rs (some (YA rs n)) num (rs.length+1) .nil i
def X8(rs:List Int):kz Fo:=(YA rs 5 false 0).then fun f i=>if xU rs i = -1 then .ok (f,i) else .error (3,i)
structure KG(p:Nat)(w:World):Prop where
 names:ui w
 ne:0≠p
theorem KG.but{p:Nat}{w w':World}(h:KG p w)(hb:xS p w w'):KG p w':=⟨fun j hj=>hb.cell (h.names j hj) h.ne,h.ne⟩
def zgb(p:Nat)(rs:List Int)(d:Nat)(r:kz Fo)(w:World)(e:Ending)(w':World):Prop :=
 (match r with
  | .error (n,a)=>QM p n a e w'
  | .ok (f,j)=>(∃ a c,e = .returned (.slice a f.len c)/\∃ vs,VH w.heap.size w'.heap.size w' a vs/\xY w.heap.size w'.heap.size w' vs f)/\f.vD=true/\vK p rs j d w')/\xS p w w'
theorem bJ(rs:List Int)(i n:Nat):(kb rs i n).length<=4*rs.length:=by
 have hh:∀ l:List Int,(l.flatMap enc).length<=4*l.length:=by
  intro l;induction l with
  | nil=>simp
  | cons a t ih=>have:=(kd a).1;simp only[zE,List.length_append,List.length_cons];omega
 have h1:=hh ((rs.drop i).take n);have h2:((rs.drop i).take n).length<=rs.length:=by simp;omega
 unfold kb;omega
def lQ(p:Nat)(rs:List Int)(d:Nat)(m:jK):Prop:=∀ (num:Bool) (i:Nat) (w:World),vK p rs i d w->KG p w ->
 Calls prog 111 #[.pointer (some ⟨p,0,none⟩),.bool num] w (zgb p rs d (m num i) w)
def wx(p:Nat)(rs:List Int)(d:Nat)(r:kz Fo)(w:World)(e:Ending)(w':World):Prop :=
 (match r with
  | .error (n,a)=>QM p n a e w'
  | .ok (f,j)=>(∃ k pl m ma mc,f = .ug k pl m .nil/\e = .returned (.agg #[xk k,.int .i64 pl,.slice ma m.len mc])/\m.vD=true/\∃ vs,VH w.heap.size w'.heap.size w' ma vs/\xY w.heap.size w'.heap.size w' vs m)/\vK p rs j d w')/\xS p w w'
structure Ji(B:Nat)(v0 v1 v2:Value)(w:World):Prop where
 c0:w.cell? ⟨B,0,none⟩=some v0
 c1:w.cell? ⟨B,1,none⟩=some v1
 c2:w.cell? ⟨B,2,none⟩=some v2
 z:∀ j,w.frozen? ⟨B,j,none⟩=false
theorem Ji.but{B p:Nat}{v0 v1 v2:Value}{w w':World}(h:Ji B v0 v1 v2 w)(hb:xS p w w')(vx:B≠p):Ji B v0 v1 v2 w' :=
 ⟨hb.cell h.c0 vx,hb.cell h.c1 vx,hb.cell h.c2 vx,fun j=>(World.frozen?_of_block (a:=⟨B,j,none⟩) (hb.block B (zv w _ h.c0) vx)).trans (h.z j)⟩
theorem Ji.Ya{B:Nat}{v0 v1 v2 u:Value}{w:World}(h:Ji B v0 v1 v2 w):Ji B u v1 v2 (w.setCell ⟨B,0,none⟩ u) :=
 ⟨by rw[xf,if_pos rfl,h.c0];rfl,by rw[xf,if_neg (by simp)];exact h.c1,by rw[xf,if_neg (by simp)];exact h.c2,fun j=>by rw[zM];exact h.z j⟩
theorem Ji.wu{B:Nat}{v0 v1 v2 u:Value}{w:World}(h:Ji B v0 v1 v2 w):Ji B v0 v1 u (w.setCell ⟨B,2,none⟩ u) :=
 ⟨by rw[xf,if_neg (by simp)];exact h.c0,by rw[xf,if_neg (by simp)];exact h.c1,by rw[xf,if_pos rfl,h.c2];rfl,fun j=>by rw[zM];exact h.z j⟩
theorem xS.own{p:Nat}{w w':World}(h:xS p w w'){B:Nat}(hB:w.heap.size<=B)(j:Nat)(u:Value):xS p w (w'.setCell ⟨B,j,none⟩ u) :=
 ⟨h.os,h.tape,h.output,zy h.size (by simp[zU]),fun k hk hp=>(zJ _ _ _ _ (by show k≠B;omega)).trans (h.block k hk hp)⟩
theorem vQ.put{lo hi:Nat}{w W:World}(h:vQ lo hi w W){B:Nat}(hB:B<lo)(j:Nat)(u:Value):vQ lo hi w (W.setCell ⟨B,j,none⟩ u) :=
 ⟨zy h.1 (by simp[zU]),fun k h1 h2=>(zJ _ _ _ _ (by show k≠B;omega)).trans (h.2 k h1 h2)⟩
theorem vQ.but{lo hi p:Nat}{w W W':World}(h:vQ lo hi w W)(hb:xS p W W')(hp:p<lo):vQ lo hi w W' :=
 ⟨zy h.1 hb.size,fun k h1 h2=>(hb.block k (zF h2 h.1) (by omega)).trans (h.2 k h1 h2)⟩
theorem vK.own{p:Nat}{rs:List Int}{i d:Nat}{w:World}(h:vK p rs i d w){B:Nat}(hB:p<B)(j:Nat)(u:Value):vK p rs i d (w.setCell ⟨B,j,none⟩ u) :=
 h.grown (row:=some B) ⟨rfl,rfl,rfl,by simp[zU],fun k _ hk=>zJ _ _ _ _ (fun e=>hk (by rw[e]))⟩ (fun q hq=>by cases hq;exact hB)
theorem Mu(p:Nat)(rs:List Int)(i d:Nat)(num:Bool)(msg:Option jK)(w:World)(h:vK p rs i d w)(he:KG p w)(hd:msg=none ↔ d=6)(hm:∀ m,msg=some m->lQ p rs d m) :
  Calls prog 204 #[.pointer (some ⟨p,0,none⟩),.bool num] w (wx p rs d (X7 rs msg num i) w):=by
 have HH:=z7 h;have Jl:=z7 he;have HD:=z7 hd;have HMC:=z7 hm;have QN:=h.lt;have h5:=h.at_;obtain⟨R,hR⟩:∃ R,X7 rs msg num i=R:=⟨_,rfl⟩;rw[hR];have HR:=z7 hR;clear h he hd hm hR
 cases num
 ·go_enter func204,ntmps204;go_wp2_with fail;refine vN ?_;intro W hW;have jT:Below w.heap.size w W:=by rw[hW];exact(zj _ _).alloc (z8 _) _
  have Mq:Ji w.heap.size (.string ⟨#[]⟩) (.int .i64 i) (.slice none 0 0) W:=by
   rw[hW];exact⟨xu _ _ _ _ _,xu _ _ _ _ _,xu _ _ _ _ _,fun j=>by go_simp⟩
  clear hW h5;obtain⟨B,hB⟩:∃ B,w.heap.size=B:=⟨_,rfl⟩;rw[hB] at Mq ⊢;have HB:=z7 hB;have LM:p<B:=by omega
  have lJ:=z7 Mq;clear hB Mq;obtain⟨QO,Jm⟩:∃ b,b=false:=⟨_,rfl⟩;refine(UU p rs i d W (HH.out.below jT)).mono ?_;rintro e x0 ⟨hq,Kl⟩;have jg:=(xS.of (p:=p) jT).trans Kl;have wk:=z7 (lJ.out.but Kl (by omega));by_cases q9:qi rs i=0
  ·rw[if_pos q9] at hq;have Z4:=z7 (show R = .error (3,i) by rw[←HR.out];unfold X7 Je fy;rw[if_neg (by simp),if_pos q9];rfl);have HQ:=z7 hq;obtain⟨bf,rfl,_,_⟩:=hq;clear q9;go_wp2;exact⟨rfl,by rw[Z4.out];exact HQ.out,jg⟩
  ·rw[if_neg q9] at hq;obtain⟨rfl,Ek⟩:=hq;obtain⟨K,hK⟩:∃ K,kb rs i (qi rs i)=K:=⟨_,rfl⟩;obtain⟨j,hj⟩:∃ j,i+qi rs i=j:=⟨_,rfl⟩;rw[hj] at Ek;rw[hK];have HT:=z7 (show R=(vR rs 123 (xm rs j)).then fun _ l=>VZ rs msg QO K i (xm rs j) l by
    rw[←HR.out,Jm];unfold X7 Je fy;rw[if_neg (by simp),if_neg q9,hK,hj];first|rfl|(simp[then_ok];done))
   have HS0:=z7 Ek;have zz:=wk.out.z 0;have z0:=wk.out.c0;have z1:=wk.out.c1;have Jb:=z7 (HS0.out.own LM 0 (xk K));have Ft:=z7 (wk.out.Ya (u:=xk K));have FH:xS p w (x0.setCell ⟨B,0,none⟩ (xk K)):=jg.own (by have:=HB.out;omega) 0 _;obtain⟨X,hX⟩:∃ X,x0.setCell ⟨B,0,none⟩ (xk K)=X:=⟨_,rfl⟩;rw[hX] at Jb Ft FH;have HX:=z7 hX;clear Ek q9 hK hj hX Kl jg;go_wp2_with fail;rw[HX.out];have HL:=Ft;have HS:=Jb;have Zy:=FH;clear Ft Jb FH;obtain⟨J,hJ⟩:∃ J,xm rs j=J:=⟨_,rfl⟩;rw[hJ] at HT;have HJ:=z7 hJ;clear hJ;refine(uh p rs j d X HS.out).mono ?_;rintro e x1 ⟨rfl,uF,du⟩;rw[HJ.out] at uF;have xB:=Zy.trans du;have gQ:=z7 uF;have Mk:=z7 (HL.out.but du (by omega));have g5:=uF.at_;clear uF du HJ HL HS Zy;go_wp2_with fail;refine(j9 p rs J d 123 x1 gQ.out (by decide)).mono ?_;rintro e x2 ⟨hq,qb⟩;have xD:=xB.trans qb;have iP:=z7 (Mk.out.but qb (by omega));clear g5;by_cases hw:xU rs J=123
   ·rw[if_pos hw] at hq;obtain⟨rfl,uw⟩:=hq;have dN:=z7 uw;have g6:=uw.deep;have Z4:=z7 (show R=VZ rs msg QO K i J (J+1) by rw[HT.out];unfold vR;rw[if_pos hw];rfl);clear uw hw HT
    cases msg with
    | none =>
     have Ea:d=6:=HD.out.1 rfl;subst Ea;go_wp2_with fail;refine(fR p 4 J x2 dN.out.KQ).mono ?_;rintro e x3 ⟨hf,Ec⟩;have HF:=z7 hf;obtain⟨bf,rfl,_,_⟩:=hf;go_wp2;exact⟨rfl,by rw[Z4.out];exact HF.out,xD.below Ec⟩
    | some m =>
     have Ea:d≠6:=fun e=>by have:=HD.out.2 e;cases this
     have zf1:((d:Int)==6)=false:=by simp;omega
     have vF:=HMC.out m rfl QO (J+1) x2 dN.out (Jl.out.but xD);obtain⟨r,hr⟩:∃ r,m QO (J+1)=r:=⟨_,rfl⟩;rw[hr] at vF;rw[Jm] at vF;have qU:=z7 vF;have My:=z7 (show R=r.then fun f q=>(vR rs 125 q).then fun _ z => .ok (.ug K i f .nil,xm rs z) by rw[Z4.out,←hr];rfl);clear vF hr Z4;go_wp2_with fail;refine qU.out.mono ?_;rintro e x3 ⟨hq,Ec⟩;have uD:=xD.trans Ec;have WX:=z7 (iP.out.but Ec (by omega))
     cases r with
     | error en =>
      obtain⟨iR,iT⟩:=en;have HQ:=z7 hq;obtain⟨bf,rfl,_,_⟩:=hq;go_wp2;exact⟨rfl,by rw[My.out];exact HQ.out,uD⟩
     | ok fq =>
      obtain⟨f,q⟩:=fq;obtain⟨⟨ma,mc,rfl,vs,vE,kD⟩,Km,LN⟩:=hq;have FI:=z7 (show R=(vR rs 125 q).then fun _ z => .ok (.ug K i f .nil,xm rs z) from My.out);have qV:=z7 vE;have Yz:=z7 kD;have UK:=z7 LN;have z2:=WX.out.z 2;have q2:=WX.out.c2;have Jb:=z7 (UK.out.own (B:=B) (by omega) 2 (.slice ma f.len mc));have Ft:=z7 (WX.out.wu (u := .slice ma f.len mc));have FH:xS p w (x3.setCell ⟨B,2,none⟩ (.slice ma f.len mc)):=uD.own (by have:=HB.out;omega) 2 _;obtain⟨Y,hY⟩:∃ Y,x3.setCell ⟨B,2,none⟩ (.slice ma f.len mc)=Y:=⟨_,rfl⟩;rw[hY] at Jb Ft FH;have HY:=z7 hY;clear vE kD LN My qU hY;go_wp2_with fail;rw[HY.out];refine(j9 p rs q d 125 Y Jb.out (by decide)).mono ?_;rintro e x4 ⟨hq,WV⟩;have uW:=FH.trans WV;have HL4:=z7 (Ft.out.but WV (by omega));by_cases hw:xU rs q=125
      ·rw[if_pos hw] at hq;obtain⟨rfl,Kd⟩:=hq;have YR:=z7 Kd;obtain⟨J2,WU⟩:∃ J2,xm rs (q+1)=J2:=⟨_,rfl⟩;have WQ:=z7 (show R = .ok (.ug K i f .nil,J2) by rw[FI.out,←WU];show(vR rs 125 q).then _=_;unfold vR;rw[if_pos hw];rfl);have HJ2:=z7 WU;clear Kd hw WU FI;go_wp2_with fail;refine(uh p rs (q+1) d x4 YR.out).mono ?_;rintro e x5 ⟨rfl,Eu,WK⟩;rw[HJ2.out] at Eu;have kZ:=uW.trans WK;have Kn:=z7 (HL4.out.but WK (by omega));have LO:=z7 Eu;have k0:=Kn.out.c0;have k1:=Kn.out.c1;have k2:=Kn.out.c2;have y0:=Kn.out.z 0;have y1:=Kn.out.z 1;have y2:=Kn.out.z 2;clear Eu;have Z1:B<x2.heap.size:=zv _ _ iP.out.c0;have OB:=z7 (((((((vy (lo:=x2.heap.size) (z8 x3.heap.size)).put Z1 2 (.slice ma f.len mc))).but (by rw[HY.out];exact WV) (by omega)).but WK (by omega)).put Z1 0 (xk K)).put Z1 1 (.int .i64 i) |>.put Z1 2 (.slice ma f.len mc));have HBF:=z7 (((kZ.own (B:=B) (by have:=HB.out;omega) 0 (xk K)).own (B:=B) (by have:=HB.out;omega) 1 (.int .i64 i)).own (B:=B) (by have:=HB.out;omega) 2 (.slice ma f.len mc));have HSF:=z7 (((LO.out.own LM 0 (xk K)).own LM 1 (.int .i64 i)).own LM 2 (.slice ma f.len mc));go_wp2;rw[WQ.out];refine bodyPost_ret (v := .agg #[xk K,.int .i64 i,.slice ma f.len mc]) ?_ rfl ?_
       ·simp[results,results204,go_sem,k0,k1,k2]
       exact⟨⟨⟨K,i,f,ma,mc,rfl,rfl,Km,vs,qV.out.keep OB.out xD.size OB.out.1,xY.keep OB.out xD.size OB.out.1 _ _ Yz.out⟩,HSF.out⟩,HBF.out⟩
      ·rw[if_neg hw] at hq;have WQ:=z7 (show R = .error (3,q) by rw[FI.out];show(vR rs 125 q).then _=_;unfold vR;rw[if_neg hw];rfl);have HQ:=z7 hq;obtain⟨bf,rfl,_,_⟩:=hq;clear hw FI;go_wp2;exact⟨rfl,by rw[WQ.out];exact HQ.out,uW⟩
   ·rw[if_neg hw] at hq;have Z4:=z7 (show R = .error (3,J) by rw[HT.out];unfold vR;rw[if_neg hw];rfl);have HQ:=z7 hq;obtain⟨bf,rfl,_,_⟩:=hq;clear hw HT;go_wp2;exact⟨rfl,by rw[Z4.out];exact HQ.out,xD⟩
 ·go_enter func204,ntmps204;go_wp2_with fail;refine vN ?_;intro W hW;have jT:Below w.heap.size w W:=by rw[hW];exact(zj _ _).alloc (z8 _) _
  have Mq:Ji w.heap.size (.string ⟨#[]⟩) (.int .i64 i) (.slice none 0 0) W:=by
   rw[hW];exact⟨xu _ _ _ _ _,xu _ _ _ _ _,xu _ _ _ _ _,fun j=>by go_simp⟩
  clear hW h5;obtain⟨B,hB⟩:∃ B,w.heap.size=B:=⟨_,rfl⟩;rw[hB] at Mq ⊢;have HB:=z7 hB;have LM:p<B:=by omega
  have lJ:=z7 Mq;clear hB Mq;obtain⟨QO,Jm⟩:∃ b,b=true:=⟨_,rfl⟩;refine(Yw p rs i d 61 W (HH.out.below jT) (by decide)).mono ?_;rintro e x0 ⟨rfl,Ek,Kl⟩;have jg:=(xS.of (p:=p) jT).trans Kl;have wk:=z7 (lJ.out.but Kl (by omega));by_cases OC:xU rs i=61
  ·rw[if_pos OC] at Ek;rw[show(xU rs i==61)=true from by rw[OC];rfl];have HS0:=z7 Ek;have TF:=z7 (show R=((jz rs (i+1)).then fun k j=>(.ok (61::k,j):kz Wd)).then fun k j=>(vR rs 123 (xm rs j)).then fun _ l=>VZ rs msg true k i (xm rs j) l by
    rw[←HR.out];unfold X7 Je;rw[if_pos ⟨rfl,OC⟩])
   clear Ek OC Kl;go_wp2_with fail;refine(DC p rs (i+1) d x0 HS0.out).mono ?_;rintro e x1 ⟨hq,du⟩;have xB:=jg.trans du;have Mk:=z7 (wk.out.but du (by omega));by_cases q9:qk rs (i+1)=0
   ·rw[if_pos q9] at hq;have Z4:=z7 (show R = .error (3,i+1) by rw[TF.out];unfold jz;rw[if_pos q9];rfl);have HQ:=z7 hq;obtain⟨bf,rfl,_,_⟩:=hq;clear q9;go_wp2;exact⟨rfl,by rw[Z4.out];exact HQ.out,xB⟩
   ·rw[if_neg q9] at hq;obtain⟨rfl,uF⟩:=hq;obtain⟨K0,hK⟩:∃ K0,kb rs (i+1) (qk rs (i+1))=K0:=⟨_,rfl⟩;obtain⟨K,hK1⟩:∃ K,61::K0=K:=⟨_,rfl⟩;obtain⟨j,hj⟩:∃ j,i+1+qk rs (i+1)=j:=⟨_,rfl⟩;rw[hj] at uF;rw[hK];have HT:=z7 (show R=(vR rs 123 (xm rs j)).then fun _ l=>VZ rs msg QO K i (xm rs j) l by
     rw[TF.out,Jm];unfold jz;rw[if_neg q9,hK,hj,←hK1];rfl)
    have gQ:=z7 uF;have zz:=Mk.out.z 0;have z0:=Mk.out.c0;have z1:=Mk.out.c1;have Jb:=z7 (gQ.out.own LM 0 (xk K));have Ft:=z7 (Mk.out.Ya (u:=xk K));have FH:xS p w (x1.setCell ⟨B,0,none⟩ (xk K)):=xB.own (by have:=HB.out;omega) 0 _;obtain⟨X,hX⟩:∃ X,x1.setCell ⟨B,0,none⟩ (xk K)=X:=⟨_,rfl⟩;rw[hX] at Jb Ft FH;rw[←hK1] at hX;have HX:=z7 hX;have hlen:¬9223372036854775807<1+K0.length:=by
     have:=bJ rs (i+1) (qk rs (i+1));have:=HH.out.len;rw[hK] at *;omega
    clear uF q9 hK hj hX du xB TF;go_wp2_with fail;rw[show(⟨#[61]⟩:ByteArray)++⟨K0.toArray⟩=⟨(61::K0).toArray⟩ from ByteArray.ext (by simp)];rw[show Value.string ⟨(61::K0).toArray⟩=xk (61::K0) from rfl,HX.out];have HL:=Ft;have HS:=Jb;have Zy:=FH;clear Ft Jb FH;obtain⟨J,hJ⟩:∃ J,xm rs j=J:=⟨_,rfl⟩;rw[hJ] at HT;have HJ:=z7 hJ;clear hJ;refine(uh p rs j d X HS.out).mono ?_;rintro e x1 ⟨rfl,uF,du⟩;rw[HJ.out] at uF;have xB:=Zy.trans du;have gQ:=z7 uF;have Mk:=z7 (HL.out.but du (by omega));have g5:=uF.at_;clear uF du HJ HL HS Zy;go_wp2_with fail;refine(j9 p rs J d 123 x1 gQ.out (by decide)).mono ?_;rintro e x2 ⟨hq,qb⟩;have xD:=xB.trans qb;have iP:=z7 (Mk.out.but qb (by omega));clear g5;by_cases hw:xU rs J=123
    ·rw[if_pos hw] at hq;obtain⟨rfl,uw⟩:=hq;have dN:=z7 uw;have g6:=uw.deep;have Z4:=z7 (show R=VZ rs msg QO K i J (J+1) by rw[HT.out];unfold vR;rw[if_pos hw];rfl);clear uw hw HT
     cases msg with
     | none =>
      have Ea:d=6:=HD.out.1 rfl;subst Ea;go_wp2_with fail;refine(fR p 4 J x2 dN.out.KQ).mono ?_;rintro e x3 ⟨hf,Ec⟩;have HF:=z7 hf;obtain⟨bf,rfl,_,_⟩:=hf;go_wp2;exact⟨rfl,by rw[Z4.out];exact HF.out,xD.below Ec⟩
     | some m =>
      have Ea:d≠6:=fun e=>by have:=HD.out.2 e;cases this
      have zf1:((d:Int)==6)=false:=by simp;omega
      have vF:=HMC.out m rfl QO (J+1) x2 dN.out (Jl.out.but xD);obtain⟨r,hr⟩:∃ r,m QO (J+1)=r:=⟨_,rfl⟩;rw[hr] at vF;rw[Jm] at vF;have qU:=z7 vF;have My:=z7 (show R=r.then fun f q=>(vR rs 125 q).then fun _ z => .ok (.ug K i f .nil,xm rs z) by rw[Z4.out,←hr];rfl);clear vF hr Z4;go_wp2_with fail;refine qU.out.mono ?_;rintro e x3 ⟨hq,Ec⟩;have uD:=xD.trans Ec;have WX:=z7 (iP.out.but Ec (by omega))
      cases r with
      | error en =>
       obtain⟨iR,iT⟩:=en;have HQ:=z7 hq;obtain⟨bf,rfl,_,_⟩:=hq;go_wp2;exact⟨rfl,by rw[My.out];exact HQ.out,uD⟩
      | ok fq =>
       obtain⟨f,q⟩:=fq;obtain⟨⟨ma,mc,rfl,vs,vE,kD⟩,Km,LN⟩:=hq;have FI:=z7 (show R=(vR rs 125 q).then fun _ z => .ok (.ug K i f .nil,xm rs z) from My.out);have qV:=z7 vE;have Yz:=z7 kD;have UK:=z7 LN;have z2:=WX.out.z 2;have q2:=WX.out.c2;have Jb:=z7 (UK.out.own (B:=B) (by omega) 2 (.slice ma f.len mc));have Ft:=z7 (WX.out.wu (u := .slice ma f.len mc));have FH:xS p w (x3.setCell ⟨B,2,none⟩ (.slice ma f.len mc)):=uD.own (by have:=HB.out;omega) 2 _;obtain⟨Y,hY⟩:∃ Y,x3.setCell ⟨B,2,none⟩ (.slice ma f.len mc)=Y:=⟨_,rfl⟩;rw[hY] at Jb Ft FH;have HY:=z7 hY;clear vE kD LN My qU hY;go_wp2_with fail;rw[HY.out];refine(j9 p rs q d 125 Y Jb.out (by decide)).mono ?_;rintro e x4 ⟨hq,WV⟩;have uW:=FH.trans WV;have HL4:=z7 (Ft.out.but WV (by omega));by_cases hw:xU rs q=125
       ·rw[if_pos hw] at hq;obtain⟨rfl,Kd⟩:=hq;have YR:=z7 Kd;obtain⟨J2,WU⟩:∃ J2,xm rs (q+1)=J2:=⟨_,rfl⟩;have WQ:=z7 (show R = .ok (.ug K i f .nil,J2) by rw[FI.out,←WU];show(vR rs 125 q).then _=_;unfold vR;rw[if_pos hw];rfl);have HJ2:=z7 WU;clear Kd hw WU FI;go_wp2_with fail;refine(uh p rs (q+1) d x4 YR.out).mono ?_;rintro e x5 ⟨rfl,Eu,WK⟩;rw[HJ2.out] at Eu;have kZ:=uW.trans WK;have Kn:=z7 (HL4.out.but WK (by omega));have LO:=z7 Eu;have k0:=Kn.out.c0;have k1:=Kn.out.c1;have k2:=Kn.out.c2;have y0:=Kn.out.z 0;have y1:=Kn.out.z 1;have y2:=Kn.out.z 2;clear Eu;have Z1:B<x2.heap.size:=zv _ _ iP.out.c0;have OB:=z7 (((((((vy (lo:=x2.heap.size) (z8 x3.heap.size)).put Z1 2 (.slice ma f.len mc))).but (by rw[HY.out];exact WV) (by omega)).but WK (by omega)).put Z1 0 (xk K)).put Z1 1 (.int .i64 i) |>.put Z1 2 (.slice ma f.len mc));have HBF:=z7 (((kZ.own (B:=B) (by have:=HB.out;omega) 0 (xk K)).own (B:=B) (by have:=HB.out;omega) 1 (.int .i64 i)).own (B:=B) (by have:=HB.out;omega) 2 (.slice ma f.len mc));have HSF:=z7 (((LO.out.own LM 0 (xk K)).own LM 1 (.int .i64 i)).own LM 2 (.slice ma f.len mc));go_wp2;rw[WQ.out];refine bodyPost_ret (v := .agg #[xk K,.int .i64 i,.slice ma f.len mc]) ?_ rfl ?_
        ·simp[results,results204,go_sem,k0,k1,k2]
        exact⟨⟨⟨K,i,f,ma,mc,rfl,rfl,Km,vs,qV.out.keep OB.out xD.size OB.out.1,xY.keep OB.out xD.size OB.out.1 _ _ Yz.out⟩,HSF.out⟩,HBF.out⟩
       ·rw[if_neg hw] at hq;have WQ:=z7 (show R = .error (3,q) by rw[FI.out];show(vR rs 125 q).then _=_;unfold vR;rw[if_neg hw];rfl);have HQ:=z7 hq;obtain⟨bf,rfl,_,_⟩:=hq;clear hw FI;go_wp2;exact⟨rfl,by rw[WQ.out];exact HQ.out,uW⟩
    ·rw[if_neg hw] at hq;have Z4:=z7 (show R = .error (3,J) by rw[HT.out];unfold vR;rw[if_neg hw];rfl);have HQ:=z7 hq;obtain⟨bf,rfl,_,_⟩:=hq;clear hw HT;go_wp2;exact⟨rfl,by rw[Z4.out];exact HQ.out,xD⟩
  ·rw[if_neg OC] at Ek;rw[show(xU rs i==61)=false from by simp[OC]];have HS0:=z7 Ek;have TF:=z7 (show R=((fy rs i).then fun k j=>if k ∉ Vd then (.error (3,i):kz Wd) else .ok (k,j)).then fun k j=>(vR rs 123 (xm rs j)).then fun _ l=>VZ rs msg true k i (xm rs j) l by
    rw[←HR.out];unfold X7 Je;rw[if_neg (fun e=>OC e.2)];simp)
   clear Ek OC Kl;go_wp2_with fail;refine(UU p rs i d x0 HS0.out).mono ?_;rintro e x1 ⟨hq,du⟩;have xB:=jg.trans du;have Mk:=z7 (wk.out.but du (by omega));by_cases q9:qi rs i=0
   ·rw[if_pos q9] at hq;have Z4:=z7 (show R = .error (3,i) by rw[TF.out];unfold fy;rw[if_pos q9];rfl);have HQ:=z7 hq;obtain⟨bf,rfl,_,_⟩:=hq;clear q9;go_wp2;exact⟨rfl,by rw[Z4.out];exact HQ.out,xB⟩
   ·rw[if_neg q9] at hq;obtain⟨rfl,uF⟩:=hq;obtain⟨K,hK⟩:∃ K,kb rs i (qi rs i)=K:=⟨_,rfl⟩;obtain⟨j,hj⟩:∃ j,i+qi rs i=j:=⟨_,rfl⟩;rw[hj] at uF;rw[hK];have Ux:=z7 (show R=((if K ∉ Vd then .error (3,i) else .ok (K,j)):kz Wd).then fun k j=>(vR rs 123 (xm rs j)).then fun _ l=>VZ rs msg true k i (xm rs j) l by
     rw[TF.out];unfold fy;rw[if_neg q9,hK,hj];rfl)
    have gQ:=z7 uF;have zz:=Mk.out.z 0;have z0:=Mk.out.c0;have z1:=Mk.out.c1;have Jb:=z7 (gQ.out.own LM 0 (xk K));have Ft:=z7 (Mk.out.Ya (u:=xk K));have FH:xS p w (x1.setCell ⟨B,0,none⟩ (xk K)):=xB.own (by have:=HB.out;omega) 0 _;obtain⟨X,hX⟩:∃ X,x1.setCell ⟨B,0,none⟩ (xk K)=X:=⟨_,rfl⟩;rw[hX] at Jb Ft FH;have HX:=z7 hX;clear uF q9 hK hj hX du xB TF;go_wp2_with fail;rw[HX.out];refine(Bl K X (Jl.out.but FH).names).mono ?_;rintro e x2 ⟨rfl,rfl⟩;have u1:=Ft.out.c1;by_cases hc:K∈Vd
    ·rw[show decide (K∈Vd)=true from by simp[hc]];have HT:=z7 (show R=(vR rs 123 (xm rs j)).then fun _ l=>VZ rs msg QO K i (xm rs j) l by
      rw[Ux.out,Jm,if_neg (by simp[hc])];rfl)
     clear hc Ux;go_wp2_with fail;have HL:=Ft;have HS:=Jb;have Zy:=FH;clear Ft Jb FH;obtain⟨J,hJ⟩:∃ J,xm rs j=J:=⟨_,rfl⟩;rw[hJ] at HT;have HJ:=z7 hJ;clear hJ;refine(uh p rs j d X HS.out).mono ?_;rintro e x1 ⟨rfl,uF,du⟩;rw[HJ.out] at uF;have xB:=Zy.trans du;have gQ:=z7 uF;have Mk:=z7 (HL.out.but du (by omega));have g5:=uF.at_;clear uF du HJ HL HS Zy;go_wp2_with fail;refine(j9 p rs J d 123 x1 gQ.out (by decide)).mono ?_;rintro e x2 ⟨hq,qb⟩;have xD:=xB.trans qb;have iP:=z7 (Mk.out.but qb (by omega));clear g5;by_cases hw:xU rs J=123
     ·rw[if_pos hw] at hq;obtain⟨rfl,uw⟩:=hq;have dN:=z7 uw;have g6:=uw.deep;have Z4:=z7 (show R=VZ rs msg QO K i J (J+1) by rw[HT.out];unfold vR;rw[if_pos hw];rfl);clear uw hw HT
      cases msg with
      | none =>
       have Ea:d=6:=HD.out.1 rfl;subst Ea;go_wp2_with fail;refine(fR p 4 J x2 dN.out.KQ).mono ?_;rintro e x3 ⟨hf,Ec⟩;have HF:=z7 hf;obtain⟨bf,rfl,_,_⟩:=hf;go_wp2;exact⟨rfl,by rw[Z4.out];exact HF.out,xD.below Ec⟩
      | some m =>
       have Ea:d≠6:=fun e=>by have:=HD.out.2 e;cases this
       have zf1:((d:Int)==6)=false:=by simp;omega
       have vF:=HMC.out m rfl QO (J+1) x2 dN.out (Jl.out.but xD);obtain⟨r,hr⟩:∃ r,m QO (J+1)=r:=⟨_,rfl⟩;rw[hr] at vF;rw[Jm] at vF;have qU:=z7 vF;have My:=z7 (show R=r.then fun f q=>(vR rs 125 q).then fun _ z => .ok (.ug K i f .nil,xm rs z) by rw[Z4.out,←hr];rfl);clear vF hr Z4;go_wp2_with fail;refine qU.out.mono ?_;rintro e x3 ⟨hq,Ec⟩;have uD:=xD.trans Ec;have WX:=z7 (iP.out.but Ec (by omega))
       cases r with
       | error en =>
        obtain⟨iR,iT⟩:=en;have HQ:=z7 hq;obtain⟨bf,rfl,_,_⟩:=hq;go_wp2;exact⟨rfl,by rw[My.out];exact HQ.out,uD⟩
       | ok fq =>
        obtain⟨f,q⟩:=fq;obtain⟨⟨ma,mc,rfl,vs,vE,kD⟩,Km,LN⟩:=hq;have FI:=z7 (show R=(vR rs 125 q).then fun _ z => .ok (.ug K i f .nil,xm rs z) from My.out);have qV:=z7 vE;have Yz:=z7 kD;have UK:=z7 LN;have z2:=WX.out.z 2;have q2:=WX.out.c2;have Jb:=z7 (UK.out.own (B:=B) (by omega) 2 (.slice ma f.len mc));have Ft:=z7 (WX.out.wu (u := .slice ma f.len mc));have FH:xS p w (x3.setCell ⟨B,2,none⟩ (.slice ma f.len mc)):=uD.own (by have:=HB.out;omega) 2 _;obtain⟨Y,hY⟩:∃ Y,x3.setCell ⟨B,2,none⟩ (.slice ma f.len mc)=Y:=⟨_,rfl⟩;rw[hY] at Jb Ft FH;have HY:=z7 hY;clear vE kD LN My qU hY;go_wp2_with fail;rw[HY.out];refine(j9 p rs q d 125 Y Jb.out (by decide)).mono ?_;rintro e x4 ⟨hq,WV⟩;have uW:=FH.trans WV;have HL4:=z7 (Ft.out.but WV (by omega));by_cases hw:xU rs q=125
        ·rw[if_pos hw] at hq;obtain⟨rfl,Kd⟩:=hq;have YR:=z7 Kd;obtain⟨J2,WU⟩:∃ J2,xm rs (q+1)=J2:=⟨_,rfl⟩;have WQ:=z7 (show R = .ok (.ug K i f .nil,J2) by rw[FI.out,←WU];show(vR rs 125 q).then _=_;unfold vR;rw[if_pos hw];rfl);have HJ2:=z7 WU;clear Kd hw WU FI;go_wp2_with fail;refine(uh p rs (q+1) d x4 YR.out).mono ?_;rintro e x5 ⟨rfl,Eu,WK⟩;rw[HJ2.out] at Eu;have kZ:=uW.trans WK;have Kn:=z7 (HL4.out.but WK (by omega));have LO:=z7 Eu;have k0:=Kn.out.c0;have k1:=Kn.out.c1;have k2:=Kn.out.c2;have y0:=Kn.out.z 0;have y1:=Kn.out.z 1;have y2:=Kn.out.z 2;clear Eu;have Z1:B<x2.heap.size:=zv _ _ iP.out.c0;have OB:=z7 (((((((vy (lo:=x2.heap.size) (z8 x3.heap.size)).put Z1 2 (.slice ma f.len mc))).but (by rw[HY.out];exact WV) (by omega)).but WK (by omega)).put Z1 0 (xk K)).put Z1 1 (.int .i64 i) |>.put Z1 2 (.slice ma f.len mc));have HBF:=z7 (((kZ.own (B:=B) (by have:=HB.out;omega) 0 (xk K)).own (B:=B) (by have:=HB.out;omega) 1 (.int .i64 i)).own (B:=B) (by have:=HB.out;omega) 2 (.slice ma f.len mc));have HSF:=z7 (((LO.out.own LM 0 (xk K)).own LM 1 (.int .i64 i)).own LM 2 (.slice ma f.len mc));go_wp2;rw[WQ.out];refine bodyPost_ret (v := .agg #[xk K,.int .i64 i,.slice ma f.len mc]) ?_ rfl ?_
         ·simp[results,results204,go_sem,k0,k1,k2]
         exact⟨⟨⟨K,i,f,ma,mc,rfl,rfl,Km,vs,qV.out.keep OB.out xD.size OB.out.1,xY.keep OB.out xD.size OB.out.1 _ _ Yz.out⟩,HSF.out⟩,HBF.out⟩
        ·rw[if_neg hw] at hq;have WQ:=z7 (show R = .error (3,q) by rw[FI.out];show(vR rs 125 q).then _=_;unfold vR;rw[if_neg hw];rfl);have HQ:=z7 hq;obtain⟨bf,rfl,_,_⟩:=hq;clear hw FI;go_wp2;exact⟨rfl,by rw[WQ.out];exact HQ.out,uW⟩
     ·rw[if_neg hw] at hq;have Z4:=z7 (show R = .error (3,J) by rw[HT.out];unfold vR;rw[if_neg hw];rfl);have HQ:=z7 hq;obtain⟨bf,rfl,_,_⟩:=hq;clear hw HT;go_wp2;exact⟨rfl,by rw[Z4.out];exact HQ.out,xD⟩
    ·rw[show decide (K∈Vd)=false from by simp[hc]];have Z4:=z7 (show R = .error (3,i) by rw[Ux.out,if_pos hc];rfl);clear hc Ux;go_wp2_with fail;refine(fR p 3 i X Jb.out.KQ).mono ?_;rintro e x3 ⟨hf,Ec⟩;have HF:=z7 hf;obtain⟨bf,rfl,_,_⟩:=hf;go_wp2;exact⟨rfl,by rw[Z4.out];exact HF.out,FH.below Ec⟩
theorem Ee:∀ (l:List UInt8) (acc:Nat),l.all xF=true->Lib.decFrom acc l=some (l.foldl (fun v c=>10*v+(c.toNat - 48)) acc)
 | [],_,_=>rfl
 | c::t,acc,h=>by
  simp only[List.all_cons,zY] at h;have hc:=(vw c).1 h.1;rw[Lib.decFrom,Lib.digitVal,if_pos (by omega)];dsimp only;rw[Ee t _ h.2,List.foldl_cons,Nat.mul_comm acc 10]
theorem lG{l:List UInt8}(h:l.all xF=true)(hn:l≠[]):Lib.atoi l=some (xH l:Int):=by
 cases l with
 | nil=>exact absurd rfl hn
 | cons c t =>
  have hd:=h;simp only[List.all_cons,zY] at hd;have hc:=(vw c).1 hd.1;have h45:(c==45)=false:=by
   rw[beq_eq_false_iff_ne];rintro rfl;exact absurd hc.1 (by decide)
  have h43:(c==43)=false:=by
   rw[beq_eq_false_iff_ne];rintro rfl;exact absurd hc.1 (by decide)
  rw[Lib.atoi,h45,h43];simp only[Bool.false_eq_true,if_false,Lib.decNat];rw[if_neg (by simp),Ee _ 0 h];rfl
theorem OE(x:Wd)(w:World)(hs:x.length<=9)(hd:x.all xF=true)(hn:x≠[]) :
  Calls prog 163 #[xk x] w fun e w'=>e = .returned (.tuple #[.int .i64 (xH x),.nilIface])/\Below w.heap.size w w':=by
 refine(Tryz.strconv_Atoi ⟨x.toArray⟩ (xH x) (by simp[ByteArray.size];omega) (lG hd hn) w).mono ?_;rintro e w' ⟨rfl,t,rfl⟩;exact⟨rfl,Lib.bytesWorld_below _ _ _⟩
theorem Ry(r:Int)(h:qK r=true):∃ c,enc r=[c]/\xF c=true:=by
 simp only[qK,zY,decide_eq_true_eq] at h;have:r=48\/r=49\/r=50\/r=51\/r=52\/r=53\/r=54\/r=55\/r=56\/r=57:=by omega
 rcases this with rfl|rfl|rfl|rfl|rfl|rfl|rfl|rfl|rfl|rfl<;>exact⟨_,rfl,by decide⟩
theorem Jn(F:Int->Nat->Bool)(rs:List Int)(i:Nat):∀ f n R,UX F rs i f n=R->∀ k,n<=k->k<R->F (xU rs (i+k)) k=true
 | 0,n,R,h,k,h1,h2=>by
  rw[UX] at h;omega
 | f+1,n,R,h,k,h1,h2=>by
  rw[UX] at h;by_cases q:F (xU rs (i+n)) n=true
  ·rw[if_pos q] at h;by_cases hk:k=n
   ·rw[hk];exact q
   ·exact Jn F rs i f (n+1) R h k (by omega) h2
  ·rw[if_neg q] at h;omega
theorem DI{F:Int->Nat->Bool}{rs:List Int}{i k:Nat}(h:k<runN F rs i):F (xU rs (i+k)) k=true:=Jn F rs i _ _ _ rfl k (Nat.zero_le _) h
theorem OH{rs:List Int}{j:Nat}(h:j<rs.length):xU rs j=rs[j]:=by
 unfold xU;simp[h]
theorem UF:∀ (l:List Int),(∀ r∈l,qK r=true)->(l.flatMap enc).length=l.length/\(l.flatMap enc).all xF=true
 | [],_=>⟨rfl,rfl⟩
 | r::t,h=>by
  obtain⟨c,hc,hd⟩:=Ry r (h r (by simp));obtain⟨h1,h2⟩:=UF t (fun q hq=>h q (by simp[hq]));refine⟨by simp[zE,hc,h1],?_⟩;rw[zE,hc];simp[hd];simpa using h2
theorem KF(rs:List Int)(i:Nat)(hn:qk rs i≠0):(kb rs i (qk rs i)).length<=9/\(kb rs i (qk rs i)).all xF=true/\kb rs i (qk rs i)≠[]:=by
 obtain⟨n,hN⟩:∃ n,qk rs i=n:=⟨_,rfl⟩;have hf:∀ k,k<n->k<9/\qK (xU rs (i+k))=true:=fun k hk=>by
  have:=DI (F:=bQ (xU rs i)) (rs:=rs) (i:=i) (k:=k) (by rw[show runN (bQ (xU rs i)) rs i=qk rs i from rfl,hN];exact hk);simp only[bQ,zY,decide_eq_true_eq] at this;exact this.1
 rw[hN] at hn ⊢;have h9:n<=9:=by
  have:=(hf (n - 1) (by omega)).1;omega
 have hd:qK (-1)=false:=by decide
 have dI:∀ k,k<n->i+k<rs.length:=fun k hk=>by
  refine Nat.lt_of_not_le (fun hle=>?_);have:=(hf k hk).2;rw[kF hle,hd] at this
  cases this
 have qC:∀ r∈(rs.drop i).take n,qK r=true:=fun r hr=>by
  obtain⟨k,hk,rfl⟩:=List.mem_iff_getElem.1 hr;simp only[List.length_take,za] at hk;have h1:=(hf k (by omega)).2;rw[OH (dI k (by omega))] at h1;simpa using h1
 have hlen:((rs.drop i).take n).length=n:=by
  have:=dI (n - 1) (by omega);simp;omega
 obtain⟨h1,h2⟩:=UF _ qC;unfold kb;refine⟨by omega,h2,fun e=>?_⟩;rw[e] at h1;simp only[List.length_nil] at h1;omega
def yyv(base:Nat)(v:Value)(w W:World):Prop:=w.heap.size<=W.heap.size/\∀ k,base<=k->k<w.heap.size->some k≠v.ownBlock->W.heap[k]? = w.heap[k]?
def qm(base:Nat)(e:TypeId)(size:Nat)(v:Value)(acc:Fo)(ws:List Value)(w:World):Prop :=
 w.ownsRow base e size v acc.len ws/\∀ W,yyv base v w W->xY base W.heap.size W ws acc
theorem qm.start(base:Nat)(e:TypeId)(size:Nat)(w:World):qm base e size (.slice none 0 0) .nil [] w :=
 ⟨⟨by simp[Fo.len],.inl ⟨rfl,rfl⟩⟩,fun _ _=>rfl⟩
theorem qm.but{base p:Nat}{e:TypeId}{size:Nat}{v:Value}{acc:Fo}{ws:List Value}{w w':World}(h:qm base e size v acc ws w)(hb:xS p w w')(hp:p<base):qm base e size v acc ws w':=by
 obtain⟨⟨h1,h2⟩,h3⟩:=h;refine⟨⟨h1,?_⟩,fun W hW=>h3 W ⟨zy hb.size hW.1,fun k k1 k2 k3=>(hW.2 k k1 (zF k2 hb.size) k3).trans (hb.block k k2 (by omega))⟩⟩;rcases h2 with hn|⟨g,cap,cur,hv,hg,hc,rest⟩
 ·exact .inl hn
 ·refine .inr ⟨g,cap,cur,hv,hg,?_,rest⟩;have xC:g<w.heap.size:=(zL.1 hc).1;rw[hb.block g xC (by omega)];exact hc
theorem qm.nodes{base:Nat}{e:TypeId}{size:Nat}{v:Value}{acc:Fo}{ws:List Value}{w:World}(h:qm base e size v acc ws w):xY base w.heap.size w ws acc :=
 h.2 w ⟨z8 _,fun _ _ _ _=>rfl⟩
theorem qm.row{base:Nat}{e:TypeId}{size:Nat}{v:Value}{acc:Fo}{ws:List Value}{w:World}(h:qm base e size v acc ws w):∃ a c,v = .slice a acc.len c/\VH base w.heap.size w a ws:=by
 obtain⟨⟨h1,h2⟩,_⟩:=h;rcases h2 with⟨hv,hn⟩|⟨g,cap,cur,hv,hg,hc,h3,h4,h5,h6⟩
 ·refine⟨none,0,by rw[hv,hn],fun j hj=>?_⟩;rw[hn] at h1;omega
 ·refine⟨some ⟨g,0,none⟩,cap,hv,fun j hj=>⟨g,0,rfl,hg,(zL.1 hc).1,?_⟩⟩;have hle:acc.len*size<=cap*size:=zP _ h3;have TU:j<cur.size:=by omega
  rw[Nat.zero_add];have e1:ws[j]? = cur[j]? := by
   rw[←h6,List.getElem?_take,if_pos (by omega),Array.getElem?_toList]
  have e2:ws[j]? = some ws[j]:=zZ hj;show w.cell? ⟨g,j,none⟩=some ws[j];rw[←e2,e1];unfold World.cell?;rw[hc];rfl
theorem UD{P:Program}(w:World)(base:Nat)(t ty e:TypeId)(i:TypeInfo)(z:Value)(ht:P.underlying t=some (.slice e))(hi:P.info? e=some i)(hz:i.zero=some z)
  (hzs:z.cells.size=i.size) (qa:0<i.size)
  (v:Value) (n:Nat) (xs:List Value) (xV:w.ownsRow base e i.size v n xs)
  (a:Addr) (m c:Nat) (news:List Value) (hl:news.length=m*i.size) (dK:∀ j u,news[j]? = some u->w.cell? (a.add j)=some u) (h1:∀ u∈news,u.oneCell'=true)
  (iW:n+m<=maxLen) (X9:(n+m)*i.bytes<=140737488355328) (bY:base<=w.heap.size) :
  ∃ v' w',(Builtin.append_ #[t,t] ty #[v,.slice (some a) m c]).run P w = .ok v' w'/\w'.ownsRow base e i.size v' (n+m) (xs++news)/\w.grownBy w' v.ownBlock /\
   (v'.ownBlock=v.ownBlock\/∀ k,v'.ownBlock=some k->w.heap.size<=k):=by
 obtain⟨v',w',hr,h2,h3,h4⟩:=run_append_own (P:=P) w base t ty e i z i.size i.bytes ht hi hz rfl rfl hzs qa v n xs xV a m c news hl dK h1 iW X9 bY;refine⟨v',w',hr,h2,h3,?_⟩;have fx:=xV;rcases xV.2 with⟨rfl,rfl⟩|⟨g,cap,cur,rfl,Fh,hg,tM,jG,dJ,YP⟩
 ·have hx:xs=[]:=zu (by simpa using xV.1);subst hx;obtain⟨v2,w2,Y0,k2,_,_⟩:=run_append_own (P:=P) w w.heap.size t ty e i z i.size i.bytes ht hi hz rfl rfl hzs qa (.slice none 0 0) 0 [] (zR w w.heap.size e i.size) a m c news hl dK h1 iW X9 (z8 _);rw[hr] at Y0
  cases Y0;exact .inr fun k hk=>(k2.lt k hk).1
 ·by_cases Jo:n+m<=cap
  ·have M6:n*i.size+news.length<=cur.size:=by rw[hl,dJ,←Nat.add_mul];exact zP _ Jo
   have Y0:=run_append_room (P:=P) w t ty e i ht hi g n cap cur hg a m c news hl dK h1 Jo M6;rw[hr] at Y0
   cases Y0;exact .inl rfl
  ·have holds:∀ j u,xs[j]? = some u->w.cell? ((⟨g,0,none⟩:Addr).add j)=some u:=xV.cells (g:=g) rfl;have Y0:=run_append_grow (P:=P) w t ty e i z ht hi hz ⟨g,0,none⟩ n cap xs xV.1 holds a m c news hl dK (by omega) (by simp only[maxLen] at iW;omega) (growslice_fits (by simp only[maxLen] at iW;omega) X9);rw[hr] at Y0
   cases Y0;refine .inr fun k hk=>?_
   simp[Value.ownBlock] at hk;omega
theorem qm.grow{base lo m:Nat}{e:TypeId}{size:Nat}{v v':Value}{acc f:Fo}{ws news:List Value}{w w':World}(h:qm base e size v acc ws w)
  (hn:xY lo w.heap.size w news f) (Ex:base<=lo) (hv:∀ k,v.ownBlock=some k->k<lo) (hm:f.len=m)
  (h2:w'.ownsRow base e size v' (acc.len+m) (ws++news)) (h3:w.grownBy w' v.ownBlock) (h4:v'.ownBlock=v.ownBlock\/∀ k,v'.ownBlock=some k->w.heap.size<=k) :
  qm base e size v' (acc.app f) (ws++news) w':=by
 refine⟨by rw[Fo.uf,hm];exact h2,fun W hW=>?_⟩;have key:∀ k,base<=k->k<w.heap.size->some k≠v.ownBlock->W.heap[k]? = w.heap[k]? := fun k k1 k2 k3=>by
  have vx:some k≠v'.ownBlock:=by
   rcases h4 with q|q
   ·rw[q];exact k3
   ·intro e;have:=q k e.symm;omega
  exact(hW.2 k k1 (zF k2 h3.size) vx).trans (h3.block k k2 k3)
 have qa:w.heap.size<=W.heap.size:=zy h3.size hW.1;exact xY.app (xY.keep (lo:=lo) (hi:=w.heap.size) ⟨qa,fun k k1 k2=>key k (by omega) k2 (fun e=>by have:=hv k e.symm;omega)⟩ Ex qa f news hn) acc ws (h.2 W ⟨qa,key⟩)
theorem ZM{P:Program}{t e:TypeId}{z:Value}{size bytes:Nat}(E:ZV P t e z size bytes){w:World}{ops:Array Oper}{rest:List Oper}{o:Oper}{a:Act}{Q:Exit->Act->World->Prop}
  (FW:o.guard=none) (s x:Operand) (ho:o.op = .call { callee := .builtin .append,args:=#[s,x],argTypes:=#[t,t] })
  (base lo:Nat) (v:Value) (acc f:Fo) (ws:List Value) (hs:a.eval s=v) (hg:qm base e size v acc ws w)
  (ad:Addr) (m c:Nat) (news:List Value) (hx:a.eval x = .slice (some ad) m c) (hl:news.length=m*size) (dK:∀ j u,news[j]? = some u->w.cell? (ad.add j)=some u) (h1:∀ u∈news,u.oneCell'=true)
  (hn:xY lo w.heap.size w news f) (Ex:base<=lo) (hv:∀ k,v.ownBlock=some k->k<lo) (hm:f.len=m)
  (LB:acc.len+m<=2147483648) (bY:base<=w.heap.size)
  (h:∀ v' w',qm base e size v' (acc.app f) (ws++news) w'->w.grownBy w' v.ownBlock->wpList P ops Q rest (a.put o.dst v') w'):wpList P ops Q (o::rest) a w:=by
 obtain⟨i,hi,hz,rfl,rfl⟩:=E.info;have Kd:=E.small;obtain⟨v',w',hr,h2,h3,h4⟩:=UD (P:=P) w base t o.type e i z E.under hi hz E.Uk E.pos v acc.len ws hg.1 ad m c news hl dK h1 (by unfold maxLen;omega) (zy (Nat.mul_le_mul LB Kd) (by decide)) bY;refine wpList_plain FW fun K hK=>?_
 unfold Oper.wp execOp;simp only[ho,resolve,invoke,builtin,Sem.run_bind,Sem.run_pure,zO,zW,List.map_cons,List.map_nil,hs,hx,hr];exact hK _ _ (h v' w' (hg.grow hn Ex hv hm h2 h3 h4) h3)
theorem KD:ZV prog 179 183 (.agg #[.string ⟨#[]⟩,.int .i64 0,.slice none 0 0]) 3 48 :=
 ⟨underlying179,info_parts (by kernel_rfl),rfl,by decide,by decide⟩
theorem dw:ZV prog 107 112 .nilIface 1 16 :=
 ⟨underlying107,info_parts (by kernel_rfl),rfl,by decide,by decide⟩
theorem OI{P:Program}{t e:TypeId}{z:Value}{size bytes:Nat}(E:ZV P t e z size bytes){w:World}{o:Oper}{a:Act}{K:Act->World->Prop}{Q:Exit->Act->World->Prop}
  (s x:Operand) (ho:o.op = .call { callee := .builtin .append,args:=#[s,x],argTypes:=#[t,t] })
  (base lo:Nat) (v:Value) (acc f:Fo) (ws:List Value) (hs:a.eval s=v) (hg:qm base e size v acc ws w)
  (ad:Addr) (m c:Nat) (news:List Value) (hx:a.eval x = .slice (some ad) m c) (hl:news.length=m*size) (dK:∀ j u,news[j]? = some u->w.cell? (ad.add j)=some u) (h1:∀ u∈news,u.oneCell'=true)
  (hn:xY lo w.heap.size w news f) (Ex:base<=lo) (hv:∀ k,v.ownBlock=some k->k<lo) (hm:f.len=m)
  (LB:acc.len+m<=2147483648) (bY:base<=w.heap.size)
  (h:∀ v' w',qm base e size v' (acc.app f) (ws++news) w'->w.grownBy w' v.ownBlock->K (a.put o.dst v') w'):Oper.wp P o a w K Q:=by
 obtain⟨i,hi,hz,rfl,rfl⟩:=E.info;have Kd:=E.small;obtain⟨v',w',hr,h2,h3,h4⟩:=UD (P:=P) w base t o.type e i z E.under hi hz E.Uk E.pos v acc.len ws hg.1 ad m c news hl dK h1 (by unfold maxLen;omega) (zy (Nat.mul_le_mul LB Kd) (by decide)) bY;unfold Oper.wp execOp;simp only[ho,resolve,invoke,builtin,Sem.run_bind,Sem.run_pure,zO,zW,List.map_cons,List.map_nil,hs,hx,hr];exact h v' w' (hg.grow hn Ex hv hm h2 h3 h4) h3
theorem qm.lt{base:Nat}{e:TypeId}{size:Nat}{v:Value}{acc:Fo}{ws:List Value}{w:World}(h:qm base e size v acc ws w):∀ k,v.ownBlock=some k->base<=k/\k<w.heap.size:=h.1.lt
theorem Fo.bG:∀ f g:Fo,f.ux=true->g.ux=true->(f.app g).ux=true
 | .nil,g,_,h=>h
 | .ug k a m r,g,h,h2=>Fo.bG r g h h2
 | .text t r,g,h,_=>by cases h
 | .hash r,g,h,_=>by cases h
 | .put n a r,g,h,_=>by cases h
 | .num n a r,g,h,_=>by cases h
 | .br n a f o c b r,g,h,_=>by cases h
theorem Fo.uO:∀ f g:Fo,f.vD=true->g.vD=true->(f.app g).vD=true
 | .nil,g,_,h=>h
 | .ug k a m r,g,h,h2=>by cases h
 | .text t r,g,h,h2=>Fo.uO r g h h2
 | .hash r,g,h,h2=>Fo.uO r g h h2
 | .put n a r,g,h,h2=>Fo.uO r g h h2
 | .num n a r,g,h,h2=>Fo.uO r g h h2
 | .br n a f o c b r,g,h,h2=>Fo.uO r g h h2
theorem xP(rs:List Int)(i:Nat):i<=xm rs i:=Nat.le_add_right _ _
def Jp(m:jK):Prop:=∀ num i f j,m num i = .ok (f,j)->i<=j
theorem xd{α β:Type}{x:kz α}{k:α->Nat->kz β}{b:β}{j:Nat}(h:x.then k = .ok (b,j)):∃ a q,x = .ok (a,q)/\k a q = .ok (b,j):=by
 cases x with
 | error e=>cases h
 | ok a=>exact⟨a.1,a.2,rfl,h⟩
theorem xR{rs:List Int}{r:Int}{i j:Nat}{u:Unit}(h:vR rs r i = .ok (u,j)):xU rs i=r/\j=i+1:=by
 unfold vR at h;split at h
 ·cases h;exact⟨by assumption,rfl⟩
 ·cases h
theorem gz{rs:List Int}{i j:Nat}{x:Wd}(h:fy rs i = .ok (x,j)):i<j:=by
 unfold fy at h;split at h
 ·cases h
 ·cases h;omega
theorem Yy{rs:List Int}{i j:Nat}{x:Wd}(h:jz rs i = .ok (x,j)):i<j:=by
 unfold jz at h;split at h
 ·cases h
 ·cases h;omega
theorem WJ{rs:List Int}{num:Bool}{i j:Nat}{x:Wd}(h:Je rs num i = .ok (x,j)):i<j:=by
 unfold Je at h;split at h
 ·obtain⟨a,q,h1,h2⟩:=xd h
  cases h2;have:=Yy h1;omega
 ·obtain⟨a,q,h1,h2⟩:=xd h;split at h2
  ·cases h2
  ·cases h2;exact gz h1
theorem Bn{rs:List Int}{msg:Option jK}{num:Bool}{i j:Nat}{f:Fo}(hm:∀ m,msg=some m->Jp m)(h:X7 rs msg num i = .ok (f,j)):i<j:=by
 unfold X7 at h;obtain⟨k,a,h1,h2⟩:=xd h;obtain⟨u,b,h3,h4⟩:=xd h2;have e1:=WJ h1;have e2:=(xR h3).2;have e3:=xP rs a
 cases msg with
 | none=>cases h4
 | some m =>
  obtain⟨g,c,h5,h6⟩:=xd (show(m num b).then _=_ from h4);obtain⟨u2,z,h7,h8⟩:=xd h6;have e4:=hm m rfl _ _ _ _ h5;have e5:=(xR h7).2;have e6:=xP rs z
  cases h8;omega
theorem Ei{rs:List Int}{msg:Option jK}{num:Bool}(hm:∀ m,msg=some m->Jp m):∀ (n:Nat) (acc:Fo) (i j:Nat) (f:Fo),gG rs msg num n acc i = .ok (f,j)->i<=j
 | 0,acc,i,j,f,h=>by cases h
 | n+1,acc,i,j,f,h=>by
  rw[gG] at h;split at h
  ·cases h;exact z8 _
  ·obtain⟨g,q,h1,h2⟩:=xd h;have:=Bn hm h1;have:=Ei hm n _ _ _ _ h2;omega
theorem Bo{rs:List Int}{form i j:Nat}{o:Wd}(h:Fs rs form i = .ok (o,j)):i<=j:=by
 unfold Fs at h;split at h
 ·obtain⟨a,q,h1,h2⟩:=xd h
  cases h2;have:=Yy h1;have:=xP rs (i+7);have:=xP rs q;omega
 ·cases h;exact z8 _
theorem OL{rs:List Int}{msg:Option jK}{i j:Nat}{f:Fo}(hm:∀ m,msg=some m->Jp m)(h:YW rs msg i = .ok (f,j)):i<j:=by
 unfold YW at h;obtain⟨u,a,h1,h2⟩:=xd h;obtain⟨nm,b,h3,h4⟩:=xd h2;have e1:=(xR h1).2;have e2:=xP rs a;have e3:=gz h3;have e4:=xP rs b;clear h h1 h2 h3;split at h4
 ·obtain⟨u,z,h5,h6⟩:=xd h4;have:=(xR h5).2
  cases h6;omega
 ·obtain⟨wd,c,h5,h6⟩:=xd h4;have e5:=gz h5;have e6:=xP rs (xm rs b+1);have e7:=xP rs c;clear h4 h5;split at h6
  ·obtain⟨u,z,h7,h8⟩:=xd h6;have:=(xR h7).2
   cases h8;omega
  ·split at h6
   ·cases h6
   ·obtain⟨u,d,h7,h8⟩:=xd h6;obtain⟨o,l,h9,dM⟩:=xd h8;obtain⟨bs,q,KU,JS⟩:=xd dM;obtain⟨u,z,lF,lD⟩:=xd JS;have:=(xR h7).2;have:=xP rs d;have:=Bo h9;have:=Ei hm _ _ _ _ _ KU;have:=(xR lF).2
    cases lD;omega
theorem UB(rs:List Int)(num:Bool)(i:Nat):i<(ki rs num i).2:=by
 unfold ki;split
 ·exact zc _
 split
 ·exact Nat.lt_add_of_pos_right (by decide)
 split
 ·exact zc _
 ·show i<i+1+_;omega
theorem Xz{rs:List Int}{msg:Option jK}{num:Bool}(hm:∀ m,msg=some m->Jp m):∀ (n:Nat) (acc:Fo) (i j:Nat) (f:Fo),ql rs msg num n acc i = .ok (f,j)->i<=j
 | 0,acc,i,j,f,h=>by cases h
 | n+1,acc,i,j,f,h=>by
  rw[ql] at h;split at h
  ·cases h;exact z8 _
  split at h
  ·obtain⟨g,q,h1,h2⟩:=xd h;have:=OL hm h1;have:=Xz hm n _ _ _ _ h2;omega
  split at h
  ·have:=Xz hm n _ _ _ _ h;omega
  ·have:=Xz hm n _ _ _ _ h;have:=UB rs num i;omega
theorem Bp(rs:List Int):∀ n,Jp (YA rs n)
 | 0,num,i,f,j,h=>by
  rw[YA] at h;exact Xz (fun m e=>by cases e) _ _ _ _ _ h
 | n+1,num,i,f,j,h=>by
  rw[YA] at h;exact Xz (fun m e=>by cases e;exact Bp rs n) _ _ _ _ _ h
end Go.Proofs.YthpldolmpinnhaaGreatDoor
