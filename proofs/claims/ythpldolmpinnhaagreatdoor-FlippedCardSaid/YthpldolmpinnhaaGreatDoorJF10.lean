import Derived.Test.YthpldolmpinnhaaGreatDoorJF9
import Derived.OwnWalk
import Derived.Maps.OwnSet
import Derived.Maps.Views
import Derived.Test.YthpldolmpinnhaaGreatDoorShelf
set_option maxHeartbeats 64000000
open Go.Lib renaming hid→z7
open Nat renaming le_refl→z8,le_trans→zy,lt_of_lt_of_le→zF,mul_le_mul_right→zP,lt_succ_self→zc
open Go.WideMaps renaming keyOf_string_mk→zx
open Go.World renaming block_lt_of_cell?→zv,setCell→zU,frozen?_setCell→zM,ownsRow_nil→zR
open List renaming eq_nil_of_length_eq_zero→zu,getD_eq_getElem?_getD→zg,getElem?_eq_getElem→zZ,flatMap_cons→zE,drop_of_length_le→zN,map_toArray→zW,length_drop→za
open Classical renaming byContradiction→zk
open Go.RowKit.Below renaming refl→zj,heap_setCell→zJ
open Go.Maps renaming string_keyed→zf,atKey_put_other→zV,atKey_put_same→zQ,has_put_other→zG,has_put_same→zD
open Bool renaming and_eq_true→zY
open Go.Value renaming int→zX
open Go.WideAt renaming IsKeyLit→zH
open Go.Result renaming andThen→zI,andThen_ok→zO
open Array renaming getElem?_eq_some_iff→zL
open Go.DataW renaming map→zS
open Go.Proofs.Tryz
namespace Go.Proofs.YthpldolmpinnhaaGreatDoor
open Go Go.RowKit
set_option maxRecDepth 10000
def Ve:List (List UInt8):=[[122,101,114,111],[111,110,101],[116,119,111],[102,101,119],[109,97,110,121],[111,116,104,101,114]]
theorem DC(x:Wd):Lib.containsS (ZQ.take 6) ⟨x.toArray⟩=decide (x∈Ve):=by
 have e:ZQ.take 6=Ve.map (fun l=>(⟨l.toArray⟩:ByteArray)):=rfl;rw[e,Bool.eq_iff_iff,decide_eq_true_eq,Lib.containsS_iff,List.mem_map];constructor
 ·rintro⟨y,hy,h2⟩;have h3:=congrArg (fun b:ByteArray=>b.data.toList) h2;simp at h3;rw[←h3];exact hy
 ·intro h;exact⟨x,h,rfl⟩
theorem CF(x:Wd)(w:World)(h:qd w):Calls prog 239 #[xk x] w fun e w'=>e = .returned (.bool (decide (x∈Ve)))/\w=w':=by
 have HC:=z7 (Tryz.slices_Contains_string 0 0 6 6 ZQ ⟨x.toArray⟩ w (by decide) (by decide) (fun j hj=>by rw[Nat.zero_add];exact h j hj));rw[DC] at HC;go_enter func239,ntmps239;go_wp2_with fail;refine HC.out.mono ?_;rintro e w' ⟨rfl,rfl⟩;go_wp2;go_ret;exact⟨rfl,rfl⟩
def vg:List Int->List Int×Nat
 | []=>([],0)
 | c::t=>if c=39 then
   match t with
   | []=>([],1)
   | d::u=>if d=39 then (39::(vg u).1,(vg u).2+2) else ([],1)
  else (c::(vg t).1,(vg t).2+1)
def j5(rs:List Int)(num:Bool)(i:Nat):Wd×Nat :=
 if xU rs i≠39 then (enc (xU rs i),i+1)
 else if xU rs (i+1)=39 then (enc 39,i+2)
 else if bN (xU rs (i+1)) num=false then (enc 39,i+1)
 else ((vg (rs.drop (i+1))).1.flatMap enc,i+1+(vg (rs.drop (i+1))).2)
theorem Gd:Zq prog 147 21 (.int .i32 0) 1 4 :=
 ⟨underlying147,info_parts (by kernel_rfl),rfl,by decide,by decide⟩
theorem Sf{rs:List Int}{j:Nat}(h:rs.length<=j):vg (rs.drop j)=([],0):=by rw[zN h,vg]
theorem bP{rs:List Int}{j:Nat}(h:j<rs.length):rs.drop j=xU rs j::rs.drop (j+1):=by
 rw[List.drop_eq_getElem_cons h];unfold xU;rw[zg,zZ h];rfl
theorem Nv{rs:List Int}{j:Nat}(h:j<rs.length)(hq:xU rs j≠39):vg (rs.drop j)=(xU rs j::(vg (rs.drop (j+1))).1,(vg (rs.drop (j+1))).2+1):=by
 rw[bP h,vg.eq_def];dsimp only;rw[if_neg hq]
theorem Sd{rs:List Int}{j:Nat}(h:j<rs.length)(hq:xU rs j=39)(h2:xU rs (j+1)=39):vg (rs.drop j)=(39::(vg (rs.drop (j+2))).1,(vg (rs.drop (j+2))).2+2):=by
 have xD:j+1<rs.length:=by
  apply zk;intro hc;rw[kD (by omega)] at h2
  cases h2
 rw[bP h,bP xD,vg.eq_def];dsimp only;rw[if_pos hq,if_pos h2]
theorem Nu{rs:List Int}{j:Nat}(h:j<rs.length)(hq:xU rs j=39)(h2:xU rs (j+1)≠39):vg (rs.drop j)=([],1):=by
 rw[bP h,vg.eq_def];dsimp only;rw[if_pos hq];by_cases xD:j+1<rs.length
 ·rw[bP xD];dsimp only;rw[if_neg h2]
 ·rw[zN (by omega)]
theorem Um{w w':World}{p base size n:Nat}{e:TypeId}{v:Value}{xs:List Value}(h:w.ownsRow base e size v n xs)(hb:xP p w w')(hp:p<base):w'.ownsRow base e size v n xs :=
 h.kept (row:=some p) ⟨hb.os,hb.tape,hb.output,hb.size,fun i hi hn=>hb.block i hi (fun e=>hn (by rw[e]))⟩ (by
  cases hv:v.ownBlock with
  | none=>exact .inl rfl
  | some g=>exact .inr (fun e=>by have:=(h.lt g hv).1;cases e;omega))
theorem Sb:∀ (n:Nat) (l:List Int),l.length<=n->(vg l).2<=l.length/\(vg l).1.length<=l.length:=by
 intro n;induction n with
 | zero =>
  intro l h;have:l=[]:=zu (by omega);subst this;simp[vg]
 | succ n ih =>
  intro l h
  cases l with
  | nil=>simp[vg]
  | cons c t =>
   rw[vg.eq_def];dsimp only;by_cases hc:c=39
   ·rw[if_pos hc]
    cases t with
    | nil=>simp
    | cons d u =>
     dsimp only;by_cases hd:d=39
     ·rw[if_pos hd];have:=ih u (by simp at h;omega);simp;omega
     ·rw[if_neg hd];simp
   ·rw[if_neg hc];have:=ih t (by simp at h;omega);simp;omega
theorem Iy{rs:List Int}{num:Bool}{i:Nat}(h:i<rs.length):i<(j5 rs num i).2/\(j5 rs num i).2<=rs.length:=by
 unfold j5;split
 ·exact⟨by show i<i+1;omega,by show i+1<=_;omega⟩
 split
 ·next h2 =>
  have:i+1<rs.length:=by
   apply zk;intro hc;rw[kD (by omega)] at h2
   cases h2
  exact⟨by show i<i+2;omega,by show i+2<=_;omega⟩
 split
 ·exact⟨by show i<i+1;omega,by show i+1<=_;omega⟩
 ·have:=(Sb _ (rs.drop (i+1)) (z8 _)).1;rw[za] at this;exact⟨by show i<i+1+_;omega,by show i+1+_<=_;omega⟩
theorem Gb{w:World}{base:Nat}{v:Value}{acc:List Int}(h:w.ownsRow base 21 1 v acc.length (acc.map (zX .i32))) :
  (convert 147 262 v).run prog w = .ok (xk (acc.flatMap enc)) w:=by
 rcases h.2 with⟨hv,hn⟩|⟨g,cap,cur,hv,_⟩
 ·have:acc=[]:=zu hn;subst this;rw[hv,run_convert_runes_nil w _ _ 21 _ _ underlying147 underlying21 underlying262];rfl
 ·subst hv;have hc:=run_convert_runes (P:=prog) w 147 262 21 ⟨g,0,none⟩ acc.length cap acc (z8 _) underlying147 underlying21 underlying262 (fun j hj=>by
   rw[vS,h.cellAt j (by omega)];simp[zg,hj])
  rw[List.take_length,XU] at hc;exact hc
theorem AY(p:Nat)(rs:List Int)(i d:Nat)(num:Bool)(w:World)(h:vK p rs i d w)(hi:i<rs.length) :
  Calls prog 158 #[.pointer (some ⟨p,0,none⟩),.bool num] w (PO p rs d (xk (j5 rs num i).1) (j5 rs num i).2 w):=by
 have HH:=z7 h;have HN:=z7 (jL p rs i d w h);have hL:=h.len;have K8:=h.lt;obtain⟨T,hT⟩:=xX (j5 rs num i);rw[hT];have HT:=z7 hT;obtain⟨T1,T2⟩:=T;dsimp only;obtain⟨q,hq⟩:=xX (xU rs i);rw[hq] at HN;have HQ:=z7 hq;clear h hT hq;go_enter func158,ntmps158;go_wp2_with fail;refine HN.out.mono ?_;rintro e w1 ⟨rfl,xB⟩;have uL:=HH.out.below xB;have h5:=uL.at_;have h7:=uL.z1;have Bz:=uL.move (i+1) (by omega);have HM:=z7 (show vK p rs (i+1) d (w1.setCell ⟨p,1,none⟩ (.int .i64 ((i:Int)+1))) by rw[show(i:Int)+1=((i+1:Nat):Int) by omega];exact Bz);have fx:xP p w (w1.setCell ⟨p,1,none⟩ (.int .i64 ((i:Int)+1))):=(xP.of xB).Ue 1 _;obtain⟨W,hW⟩:=xX (w1.setCell ⟨p,1,none⟩ (.int .i64 ((i:Int)+1)));rw[hW] at HM fx;have HW:=z7 hW;clear uL Bz xB HN hW;by_cases AX:q=39
 ·have j9:(q !=39)=false:=by rw[AX];rfl
  have oV:=HT.out;unfold j5 at oV;rw[if_neg (by rw[HQ.out,AX];simp)] at oV;have Zd:=z7 oV;have Yh:=XV p rs (i+1) d 39 W HM.out (by decide);clear oV HQ;subst AX;by_cases Ix:xU rs (i+1)=39
  ·rw[show(xU rs (i+1)==39)=true by simpa using Ix,if_pos Ix] at Yh;have HTK:=z7 Yh;have HE:=z7 (show(enc 39,i+2)=(T1,T2) by have h:=Zd.out;rw[if_pos Ix] at h;exact h);clear Yh Ix;go_wp2_with fail;rw[HW.out];refine HTK.out.mono ?_;rintro e w2 ⟨rfl,ue,xF⟩;have dv:=z7 ue;clear ue;go_wp2;go_ret;have he:=HE.out
   cases he;exact⟨rfl,dv.out,fx.trans xF⟩
  ·rw[show(xU rs (i+1)==39)=false by simpa using Ix,if_neg Ix] at Yh;have HTK:=z7 Yh;have Wc:=Zd.out;rw[if_neg Ix] at Wc;have Nq:=z7 Wc;obtain⟨sp,hsp⟩:∃ b,bN (xU rs (i+1)) num=b:=⟨_,rfl⟩;have tW:=z7 hsp;clear Yh Wc hsp Zd;go_wp2_with fail;rw[HW.out];refine HTK.out.mono ?_;rintro e w2 ⟨rfl,ue,xF⟩;have dv:=z7 ue;have uS:=fx.trans xF;clear ue xF HTK HW HM fx;go_wp2_with fail;refine(jL p rs (i+1) d w2 dv.out).mono ?_;rintro e w3 ⟨rfl,uP⟩;have UO:=z7 (dv.out.below uP);have dR:=uS.below uP;clear uP uS dv;go_wp2_with fail;refine(I5 (xU rs (i+1)) num w3).mono ?_;rintro e w' ⟨rfl,rfl⟩;rw[tW.out]
   cases sp
   ·have HE:=z7 (show(enc 39,i+1)=(T1,T2) by have h:=Nq.out;rw[if_pos tW.out] at h;exact h);go_wp2;go_ret;have he:=HE.out
    cases he;exact⟨rfl,UO.out,dR⟩
   ·have HE:=z7 (show((vg (rs.drop (i+1))).1.flatMap enc,i+1+(vg (rs.drop (i+1))).2)=(T1,T2) by have h:=Nq.out;rw[if_neg (by rw[tW.out];simp)] at h;exact h);clear Nq tW HT Ix;go_wp2_with fail;obtain⟨wq,ZK⟩:∃ x,x=w3:=⟨_,rfl⟩;obtain⟨E1,hE1⟩:∃ x,(vg (rs.drop (i+1))).1=x:=⟨_,rfl⟩;obtain⟨E2,hE2⟩:∃ x,i+1+(vg (rs.drop (i+1))).2=x:=⟨_,rfl⟩;have Bv:=z7 hE1;have HE2:=z7 hE2;clear hE1 hE2;go_loopw [5,6] (fun rv tv wr=>∃ (j:Nat) (r:Int) (acc:List Int),j<=rs.length/\rv = .int .i32 r/\vK p rs j d wr/\xP p w wr/\wr.ownsRow w.heap.size 21 1 tv acc.length (acc.map (zX .i32))/\acc.length<=j/\acc++(vg (rs.drop j)).1=E1/\j+(vg (rs.drop j)).2=E2) (fun _ _ wr=>rs.length - N6 p wr)
    case atStart=>exact⟨i+1,39,[],by omega,rfl,UO.out,dR,zR _ _ _ _,by simp,Bv.out,HE2.out⟩
    case round =>
     obtain⟨j,r,acc,hj,rfl,hs,qG,xV,um,th,wz⟩:=hrel;have HS:=z7 hs;have HO:=z7 xV;have wy:=z7 th;have MT:=z7 wz;obtain⟨ta,tc,rfl⟩:=xd xV;clear hs xV th wz;go_wp2_with fail;refine(jL p rs j d wr HS.out).mono ?_;rintro e w4 ⟨rfl,uN⟩;have QS:=HS.out.below uN;have Yq:=z7 QS;have DE:=z7 (Um HO.out (xP.of (p:=p) uN) K8);have XK:=qG.below uN;clear QS uN qG;by_cases Zm:j<rs.length
     ·obtain⟨c,hc⟩:=xX (xU rs j);rw[hc];have U4:0<=c:=by
       rw[←hc];unfold xU;rw[zg,zZ Zm];exact Yq.out.pos _ (List.getElem_mem Zm)
      have qX:c≠-1:=by omega
      have HC:=z7 hc;clear hc;go_wp2_with fail;refine(jL p rs j d w4 Yq.out).mono ?_;rintro e w5 ⟨rfl,ju⟩;rw[HC.out];have H9:=Yq.out.below ju;have GZ:=z7 (Um DE.out (xP.of (p:=p) ju) K8);have Un:=XK.below ju;have g5:=H9.at_;have g7:=H9.z1;have Bz:=H9.move (j+1) (by omega);have hM:vK p rs (j+1) d (w5.setCell ⟨p,1,none⟩ (.int .i64 ((j:Int)+1))):=by rw[show(j:Int)+1=((j+1:Nat):Int) by omega];exact Bz
      have hO6:=Um GZ.out (xP.set p w5 1 (.int .i64 ((j:Int)+1))) K8;have Nk:xP p w (w5.setCell ⟨p,1,none⟩ (.int .i64 ((j:Int)+1))):=Un.Ue 1 _;obtain⟨W6,GY⟩:∃ W,w5.setCell ⟨p,1,none⟩ (.int .i64 ((j:Int)+1))=W:=⟨_,rfl⟩;rw[GY] at hM hO6 Nk;have HM6:=z7 hM;have wx:=z7 hO6;have HW6:=z7 GY;clear H9 Bz hM hO6 ju Un GY;by_cases Nj:c=39
      ·have XJ:(c==39)=true:=by rw[Nj];rfl
       have Km:=XV p rs (j+1) d 39 W6 HM6.out (by decide);by_cases dC:xU rs (j+1)=39
       ·rw[show(xU rs (j+1)==39)=true by simpa using dC,if_pos dC] at Km;have AV:=z7 Km;have HQQ:=z7 (Sd Zm (HC.out.trans Nj) dC);have H8:j+1<rs.length:=by
         apply zk;intro GX;rw[kD (by omega)] at dC
         cases dC
        subst Nj;clear Km dC;go_wp2_with fail;rw[HW6.out];refine AV.out.mono ?_;rintro e w7 ⟨rfl,hs7,jD⟩;have HS7:=z7 hs7;have wu:=z7 (Um wx.out jD K8);have SZ:=Nk.trans jD;have xv0:w.heap.size<=w7.heap.size:=SZ.size;clear hs7 jD AV;go_wp2_with (first|(at_builtin;refine qj Gd rfl _ _ rfl w.heap.size _ acc.length (acc.map (zX .i32)) rfl (wu.out.alloc _) ⟨w7.heap.size,0,none⟩ 1 1 [.int .i32 39] rfl rfl ?a1 ?a2 ?a3 ?a4 ?_)|fail)
        case a1=>exact cells_one (xu _ _ _ _ _)
        case a2 =>
         intro u hu;simp at hu;subst hu;rfl
        case a3=>have:=HS7.out.len;omega
        case a4=>simp;omega
        intro v8 w8 AU hg8;have Iv:∀ q,(Value.slice ta acc.length tc).ownBlock=some q->w.heap.size<=q:=fun q hq=>(wu.out.lt q hq).1
        have zxu:xP p w w8:=(SZ.below ((zj _ _).alloc (z8 _) _)).grown hg8 Iv;have hS8:=(HS7.out.below ((zj _ _).alloc (z8 _) _)).grown hg8 (fun q hq=>by have:=Iv q hq;omega);have HS8:=z7 hS8;have HO8:=z7 (show w8.ownsRow w.heap.size 21 1 v8 (acc++[39]).length ((acc++[39]).map (zX .i32)) by simpa using AU);clear AU hg8 hS8;go_wp2;go_roundw
        case rel=>exact⟨j+2,39,acc++[39],by omega,rfl,HS8.out,zxu,HO8.out,by simp;omega,by rw[←wy.out,HQQ.out];simp,by rw[←MT.out,HQQ.out];omega⟩
        case measure=>rw[vJ HS8.out,vJ HS.out];omega
       ·rw[show(xU rs (j+1)==39)=false by simpa using dC,if_neg dC] at Km;have AV:=z7 Km;have hqq:=Nu Zm (HC.out.trans Nj) dC;have VD:=z7 (show acc=E1 by rw[←wy.out,hqq];simp);have fy:=z7 (show j+1=E2 by rw[←MT.out,hqq]);subst Nj;clear Km dC hqq;go_wp2_with fail;rw[HW6.out];refine AV.out.mono ?_;rintro e w7 ⟨rfl,hs7,jD⟩;have HS7:=z7 hs7;have wu:=z7 (Um wx.out jD K8);have SZ:=Nk.trans jD;have hcv:=Gb wu.out;clear hs7 jD AV;go_wp2;go_ret;have he:=HE.out;rw[Bv.out,HE2.out] at he
        cases he;exact⟨by rw[VD.out];rfl,by rw[←fy.out];exact HS7.out,SZ⟩
      ·have XJ:(c==39)=false:=by simpa using Nj
       have HQQ:=z7 (Nv Zm (fun e=>Nj (HC.out.symm.trans e)));have ykz:w.heap.size<=W6.heap.size:=Nk.size;have yky:=HW6.out;subst yky;go_wp2_with (first|(at_builtin;refine qj Gd rfl _ _ rfl w.heap.size _ acc.length (acc.map (zX .i32)) rfl (wx.out.alloc _) ⟨w5.heap.size,0,none⟩ 1 1 [.int .i32 c] rfl rfl ?a1 ?a2 ?a3 ?a4 ?_)|fail)
       case a1 =>
        have e:(w5.setCell ⟨p,1,none⟩ (.int .i64 ((j:Int)+1))).heap.size=w5.heap.size:=by simp[World.setCell]
        have h:=xu (w5.setCell ⟨p,1,none⟩ (.int .i64 ((j:Int)+1))) #[.int .i32 c] 21 (0,0) 0;rw[e] at h;exact cells_one h
       case a2 =>
        intro u hu;simp at hu;subst hu;rfl
       case a3=>have:=HM6.out.len;omega
       case a4=>exact zy ykz (by simp)
       intro v8 w8 AU hg8;have Iv:∀ q,(Value.slice ta acc.length tc).ownBlock=some q->w.heap.size<=q:=fun q hq=>(wx.out.lt q hq).1
       have zxu:xP p w w8:=(Nk.below ((zj _ _).alloc (z8 _) _)).grown hg8 Iv;have hS8:=(HM6.out.below ((zj _ _).alloc (z8 _) _)).grown hg8 (fun q hq=>by have:=Iv q hq;omega);have HS8:=z7 hS8;have HO8:=z7 (show w8.ownsRow w.heap.size 21 1 v8 (acc++[c]).length ((acc++[c]).map (zX .i32)) by simpa using AU);clear AU hg8 hS8;go_wp2;go_roundw
       case rel=>exact⟨j+1,c,acc++[c],by omega,rfl,HS8.out,zxu,HO8.out,by simp;omega,by rw[←wy.out,HQQ.out,HC.out];simp,by rw[←MT.out,HQQ.out];omega⟩
       case measure=>rw[vJ HS8.out,vJ HS.out];omega
     ·have HX:=z7 (Sf (rs:=rs) (j:=j) (by omega));have HNE:=z7 (kD (rs:=rs) (i:=j) (by omega));have hcv:=Gb DE.out;rw[HNE.out];go_wp2;go_ret;have he:=HE.out;rw[Bv.out,HE2.out] at he;have e1:=wy.out;have e2:=MT.out;rw[HX.out] at e1 e2
      cases he;exact⟨by rw[←e1];first|(simp;done)|(simp;rfl),by rw[←e2];exact Yq.out,XK⟩
 ·have j9:(q !=39)=true:=by simpa using AX
  have oV:=HT.out;unfold j5 at oV;rw[if_pos (by rw[HQ.out];exact AX)] at oV;have Zd:=z7 oV;clear oV;go_wp2;go_ret;have h:=Zd.out;rw[HQ.out] at h
  cases h;exact⟨rfl,by rw[HW.out];exact HM.out,by rw[HW.out];exact fx⟩
def SY:Wd:=[115,101,108,101,99,116]
def SX:Wd:=[112,108,117,114,97,108]
def AQ:Wd:=[115,101,108,101,99,116,111,114,100,105,110,97,108]
def Uo(m:Wd):Option Nat:=if m=SY then some 0 else if m=SX then some 1 else if m=AQ then some 2 else none
def CD(w:World)(b:Nat):Prop :=
 ∃ D:DataW Unit,w.ownsMap prog 9 (plainElem prog 178) b 3 D/\∀ m:Wd,Maps.has D (.string m)=(Uo m).isSome/\D.atKey (.string m) (.lit (.int .i64 0)) = .lit (.int .i64 (((Uo m).getD 0:Nat):Int))
theorem CD.look{w:World}{b:Nat}(h:CD w b)(m:Wd)(hm:m.length<=5000000) :
  (Instr.lookup 321 (.map (some b)) (xk m) true).run prog w = .ok (.tuple #[.int .i64 (((Uo m).getD 0:Nat):Int),.bool (Uo m).isSome]) w:=by
 obtain⟨D,h1,h3⟩:=h;obtain⟨v,ps,vF,hv⟩:=h1.look_ok (zf underlying9) underlying321 (z := .int .i64 0) (by first|rfl|simp[go_sem]) (plainElem_int underlying178 (by decide))
  (key:=xk m) (zx (s:=⟨m.toArray⟩) underlying9 (by rw[size_mk];unfold maxLen;omega))
 rw[toList_mk] at vF hv;rw[(h3 m).1] at vF;rw[(h3 m).2] at hv;obtain⟨c,rfl,hc,_⟩:=plainElem_int_inv underlying178 hv;simp only[Prod.mk.injEq,DataW.lit.injEq,Lit.int.injEq] at hc;rw[vF,←hc.1.2]
theorem SV(w:World):Calls prog 201 #[] w fun e w'=>(∃ b,e = .returned (.map (some b))/\CD w' b)/\Below w.heap.size w w':=by
 have MA:=@run_makeMap prog;go_enter func201,ntmps201;go_wp2;obtain⟨w1,wk,Vi,Ze⟩:=(World.ownsMap_made (H:=Unit) w prog 9 (plainElem prog 178)).update (zf underlying9) underlying321 (by unfold maxLen;omega) (zx (s:=⟨#[115,101,108,101,99,116]⟩) underlying9 (by decide)) (plainElem_int underlying178 (q := .i64) (a:=0) (by decide));rw[wk];simp only[zI];clear wk;go_wp2;obtain⟨w2,wj,Kn,ft⟩:=(Vi).update (zf underlying9) underlying321 (by unfold maxLen;omega) (zx (s:=⟨#[112,108,117,114,97,108]⟩) underlying9 (by decide)) (plainElem_int underlying178 (q := .i64) (a:=1) (by decide));rw[wj];simp only[zI];clear wj;go_wp2;obtain⟨w3,wg,AK,hg3⟩:=(Kn).update (zf underlying9) underlying321 (by unfold maxLen;omega) (zx (s:=⟨#[115,101,108,101,99,116,111,114,100,105,110,97,108]⟩) underlying9 (by decide)) (plainElem_int underlying178 (q := .i64) (a:=2) (by decide));rw[wg];simp only[zI];clear wg;go_wp2;go_ret;have hb:Below w.heap.size w w3:=((((zj _ _).alloc (z8 _) _).grown Ze (by simp) (fun q hq=>by cases hq;exact z8 _)).grown ft (zy (by simp) Ze.size) (fun q hq=>by cases hq;exact z8 _)).grown hg3 (zy (zy (by simp) Ze.size) ft.size) (fun q hq=>by cases hq;exact z8 _);refine⟨⟨_,rfl,_,AK,fun m=>?_⟩,hb⟩;have hm:Maps.IsMap (zS []:DataW Unit):=⟨_,rfl⟩;have k1:zH (.string SY):=trivial;have k2:zH (.string SX):=trivial;have k3:zH (.string AQ):=trivial;show Maps.has ((((zS []:DataW Unit).put (.string SY) (.lit (.int .i64 0))).put (.string SX) (.lit (.int .i64 1))).put (.string AQ) (.lit (.int .i64 2))) (.string m)=_/\((((zS []:DataW Unit).put (.string SY) (.lit (.int .i64 0))).put (.string SX) (.lit (.int .i64 1))).put (.string AQ) (.lit (.int .i64 2))).atKey (.string m) (.lit (.int .i64 0))=_;have h1:=hm.put (.string SY) (.lit (.int .i64 0));have h2:=h1.put (.string SX) (.lit (.int .i64 1));have ne:∀ {a b:Wd},a≠b->(Lit.string a) ≠ .string b:=fun h e=>h (by cases e;rfl)
 unfold Uo;by_cases e3:m=AQ
 ·subst e3;rw[zD h2 k3,zQ h2 k3,if_neg (by decide),if_neg (by decide),if_pos rfl];exact⟨rfl,rfl⟩
 ·rw[zG (ne e3),zV (ne e3)];by_cases e2:m=SX
  ·subst e2;rw[zD h1 k2,zQ h1 k2,if_neg (by decide),if_pos rfl];exact⟨rfl,rfl⟩
  ·rw[zG (ne e2),zV (ne e2)];by_cases e1:m=SY
   ·subst e1;rw[zD hm k1,zQ hm k1,if_pos rfl];exact⟨rfl,rfl⟩
   ·rw[zG (ne e1),zV (ne e1),if_neg e1,if_neg e2,if_neg e3];exact⟨rfl,rfl⟩
inductive Fo where
 | nil:Fo
 | text (t:Wd) (r:Fo):Fo
 | hash (r:Fo):Fo
 | put (name:Wd) (pl:Nat) (r:Fo):Fo
 | num (name:Wd) (pl:Nat) (r:Fo):Fo
 | br (name:Wd) (pl form:Nat) (off:Wd) (close:Nat) (bs r:Fo):Fo
 | uf (key:Wd) (pl:Nat) (msg r:Fo):Fo
namespace Fo
def len:Fo->Nat
 | nil=>0
 | text _ r=>r.len+1
 | hash r=>r.len+1
 | put _ _ r=>r.len+1
 | num _ _ r=>r.len+1
 | br _ _ _ _ _ _ r=>r.len+1
 | uf _ _ _ r=>r.len+1
def app:Fo->Fo->Fo
 | nil,g=>g
 | text t r,g=>text t (r.app g)
 | hash r,g=>hash (r.app g)
 | put n a r,g=>put n a (r.app g)
 | num n a r,g=>num n a (r.app g)
 | br n a f o c b r,g=>br n a f o c b (r.app g)
 | uf k a m r,g=>uf k a m (r.app g)
theorem ub:∀ f g:Fo,(f.app g).len=f.len+g.len
 | nil,g=>by simp[app,len]
 | text t r,g=>by simp[app,len,ub r g];omega
 | hash r,g=>by simp[app,len,ub r g];omega
 | put n a r,g=>by simp[app,len,ub r g];omega
 | num n a r,g=>by simp[app,len,ub r g];omega
 | br n a f o c b r,g=>by simp[app,len,ub r g];omega
 | uf k a m r,g=>by simp[app,len,ub r g];omega
def xL:Fo->Wd->Fo
 | nil,t=>text t nil
 | text s nil,t=>text (s++t) nil
 | text s r,t=>text s (r.xL t)
 | hash r,t=>hash (r.xL t)
 | put n a r,t=>put n a (r.xL t)
 | num n a r,t=>num n a (r.xL t)
 | br n a f o c b r,t=>br n a f o c b (r.xL t)
 | uf k a m r,t=>uf k a m (r.xL t)
def xG:Fo->Option Wd
 | nil=>none
 | text s nil=>some s
 | text _ r=>r.xG
 | hash r=>r.xG
 | put _ _ r=>r.xG
 | num _ _ r=>r.xG
 | br _ _ _ _ _ _ r=>r.xG
 | uf _ _ _ r=>r.xG
def vG:Fo->Bool
 | nil=>true
 | text _ r=>r.vG
 | hash r=>r.vG
 | put _ _ r=>r.vG
 | num _ _ r=>r.vG
 | br _ _ _ _ _ _ r=>r.vG
 | uf _ _ _ _=>false
end Fo
def xE(o:Wd):Nat:=o.foldl (fun v c=>10*v+(c.toNat - 48)) 0
def U5(lo hi:Nat)(w:World)(a:Option Addr)(vs:List Value):Prop:=∀ j (h:j<vs.length),∃ g o,a=some ⟨g,o,none⟩/\lo<=g/\g<hi/\w.cell? ⟨g,o+j,none⟩=some vs[j]
def xY(lo hi:Nat)(w:World):List Value->Fo->Prop
 | vs,.nil=>vs=[]
 | vs,.text t r=>∃ vt,vs = .iface 262 (xk t)::vt/\xY lo hi w vt r
 | vs,.hash r=>∃ vt,vs = .iface 264 (.agg #[])::vt/\xY lo hi w vt r
 | vs,.put n a r=>∃ vt b,vs = .iface 172 (.pointer (some ⟨b,0,none⟩))::vt/\lo<=b/\b<hi/\w.cell? ⟨b,0,none⟩=some (xk n)/\w.cell? ⟨b,1,none⟩=some (.int .i64 a)/\xY lo hi w vt r
 | vs,.num n a r=>∃ vt b,vs = .iface 175 (.pointer (some ⟨b,0,none⟩))::vt/\lo<=b/\b<hi/\w.cell? ⟨b,0,none⟩=some (xk n)/\w.cell? ⟨b,1,none⟩=some (.int .i64 a)/\xY lo hi w vt r
 | vs,.br n a f o c bs r=>∃ vt b ba bc ws,vs = .iface 177 (.pointer (some ⟨b,0,none⟩))::vt/\lo<=b/\b<hi/\w.cell? ⟨b,0,none⟩=some (xk n)/\w.cell? ⟨b,1,none⟩=some (.int .i64 a) /\
   w.cell? ⟨b,2,none⟩=some (.int .i64 f)/\w.cell? ⟨b,3,none⟩=some (.int .i64 (xE o))/\w.cell? ⟨b,4,none⟩=some (.slice ba bs.len bc)/\w.cell? ⟨b,5,none⟩=some (.int .i64 c) /\
   U5 lo hi w ba ws/\xY lo hi w ws bs/\xY lo hi w vt r
 | vs,.uf k a m r=>∃ vt ma mc ws,vs=xk k :: .int .i64 a :: .slice ma m.len mc::vt/\U5 lo hi w ma ws/\xY lo hi w ws m/\xY lo hi w vt r
theorem U5.keep{lo hi lo' hi':Nat}{w w':World}{a:Option Addr}{vs:List Value}(h:U5 lo hi w a vs)(hk:vQ lo hi w w')(h1:lo'<=lo)(h2:hi<=hi'):U5 lo' hi' w' a vs:=fun j hj=>by
 obtain⟨g,o,e1,e2,e3,e4⟩:=h j hj;exact⟨g,o,e1,by omega,by omega,(hk.cell (p:=⟨g,o+j,none⟩) e2 e3).trans e4⟩
theorem xY.keep{lo hi lo' hi':Nat}{w w':World}(hk:vQ lo hi w w')(h1:lo'<=lo)(h2:hi<=hi'):∀ (f:Fo) (vs:List Value),xY lo hi w vs f->xY lo' hi' w' vs f
 | .nil,vs,h=>h
 | .text t r,vs,h=>by
  obtain⟨vt,e,hr⟩:=h;exact⟨vt,e,xY.keep hk h1 h2 r vt hr⟩
 | .hash r,vs,h=>by
  obtain⟨vt,e,hr⟩:=h;exact⟨vt,e,xY.keep hk h1 h2 r vt hr⟩
 | .put n a r,vs,h=>by
  obtain⟨vt,b,e,l1,l2,c0,c1,hr⟩:=h;exact⟨vt,b,e,by omega,by omega,(hk.cell (p:=⟨b,0,none⟩) l1 l2).trans c0,(hk.cell (p:=⟨b,1,none⟩) l1 l2).trans c1,xY.keep hk h1 h2 r vt hr⟩
 | .num n a r,vs,h=>by
  obtain⟨vt,b,e,l1,l2,c0,c1,hr⟩:=h;exact⟨vt,b,e,by omega,by omega,(hk.cell (p:=⟨b,0,none⟩) l1 l2).trans c0,(hk.cell (p:=⟨b,1,none⟩) l1 l2).trans c1,xY.keep hk h1 h2 r vt hr⟩
 | .br n a f o c bs r,vs,h=>by
  obtain⟨vt,b,ba,bc,ws,e,l1,l2,c0,c1,c2,c3,c4,c5,vD,UP,hr⟩:=h;exact⟨vt,b,ba,bc,ws,e,by omega,by omega,(hk.cell (p:=⟨b,0,none⟩) l1 l2).trans c0,(hk.cell (p:=⟨b,1,none⟩) l1 l2).trans c1,(hk.cell (p:=⟨b,2,none⟩) l1 l2).trans c2,(hk.cell (p:=⟨b,3,none⟩) l1 l2).trans c3,
   (hk.cell (p:=⟨b,4,none⟩) l1 l2).trans c4,(hk.cell (p:=⟨b,5,none⟩) l1 l2).trans c5,vD.keep hk h1 h2,xY.keep hk h1 h2 bs ws UP,xY.keep hk h1 h2 r vt hr⟩
 | .uf k a m r,vs,h=>by
  obtain⟨vt,ma,mc,ws,e,vD,hm,hr⟩:=h;exact⟨vt,ma,mc,ws,e,vD.keep hk h1 h2,xY.keep hk h1 h2 m ws hm,xY.keep hk h1 h2 r vt hr⟩
theorem xY.app{lo hi:Nat}{w:World}{us:List Value}{g:Fo}(hg:xY lo hi w us g):∀ (f:Fo) (vs:List Value),xY lo hi w vs f->xY lo hi w (vs++us) (f.app g)
 | .nil,vs,h=>by
  have e:vs=[]:=h;subst e;exact hg
 | .text t r,vs,h=>by
  obtain⟨vt,rfl,hr⟩:=h;exact⟨_,rfl,xY.app hg r vt hr⟩
 | .hash r,vs,h=>by
  obtain⟨vt,rfl,hr⟩:=h;exact⟨_,rfl,xY.app hg r vt hr⟩
 | .put n a r,vs,h=>by
  obtain⟨vt,b,rfl,l1,l2,c0,c1,hr⟩:=h;exact⟨_,b,rfl,l1,l2,c0,c1,xY.app hg r vt hr⟩
 | .num n a r,vs,h=>by
  obtain⟨vt,b,rfl,l1,l2,c0,c1,hr⟩:=h;exact⟨_,b,rfl,l1,l2,c0,c1,xY.app hg r vt hr⟩
 | .br n a f o c bs r,vs,h=>by
  obtain⟨vt,b,ba,bc,ws,rfl,l1,l2,c0,c1,c2,c3,c4,c5,vD,UP,hr⟩:=h;exact⟨_,b,ba,bc,ws,rfl,l1,l2,c0,c1,c2,c3,c4,c5,vD,UP,xY.app hg r vt hr⟩
 | .uf k a m r,vs,h=>by
  obtain⟨vt,ma,mc,ws,rfl,vD,hm,hr⟩:=h;exact⟨_,ma,mc,ws,rfl,vD,hm,xY.app hg r vt hr⟩
def Fo.uv:Fo->Bool
 | .nil=>true
 | .uf _ _ _ r=>r.uv
 | _=>false
theorem xY.count{lo hi:Nat}{w:World}:∀ (f:Fo) (vs:List Value),xY lo hi w vs f->f.vG=true->vs.length=f.len
 | .nil,vs,h,_=>by
  have e:vs=[]:=h;subst e;rfl
 | .text t r,vs,h,hm=>by
  obtain⟨vt,rfl,hr⟩:=h;simp[Fo.len,xY.count r vt hr hm]
 | .hash r,vs,h,hm=>by
  obtain⟨vt,rfl,hr⟩:=h;simp[Fo.len,xY.count r vt hr hm]
 | .put n a r,vs,h,hm=>by
  obtain⟨vt,b,rfl,l1,l2,c0,c1,hr⟩:=h;simp[Fo.len,xY.count r vt hr hm]
 | .num n a r,vs,h,hm=>by
  obtain⟨vt,b,rfl,l1,l2,c0,c1,hr⟩:=h;simp[Fo.len,xY.count r vt hr hm]
 | .br n a f o c bs r,vs,h,hm=>by
  obtain⟨vt,b,ba,bc,ws,rfl,l1,l2,c0,c1,c2,c3,c4,c5,vD,UP,hr⟩:=h;simp[Fo.len,xY.count r vt hr hm]
 | .uf k a m r,vs,h,hm=>by cases hm
abbrev qK(α:Type):=Except (Nat×Nat) (α×Nat)
def qK.then{α β:Type}(x:qK α)(k:α->Nat->qK β):qK β:=match x with | .error e => .error e | .ok (a,i)=>k a i
theorem then_ok{α β:Type}(a:α)(i:Nat)(k:α->Nat->qK β):qK.then (.ok (a,i)) k=k a i:=rfl
def vN(rs:List Int)(r:Int)(i:Nat):qK Unit:=if xU rs i=r then .ok ((),i+1) else .error (3,i)
def gu(rs:List Int)(i:Nat):qK Wd:=if ql rs i=0 then .error (3,i) else .ok (kb rs i (ql rs i),i+ql rs i)
def kZ(rs:List Int)(i:Nat):qK Wd:=if qu rs i=0 then .error (3,i) else .ok (kb rs i (qu rs i),i+qu rs i)
abbrev kC:=Bool->Nat->qK Fo
def K9(rs:List Int)(num:Bool)(i:Nat):qK Wd :=
 if num=true/\xU rs i=61 then (kZ rs (i+1)).then fun k j => .ok (61::k,j)
 else (gu rs i).then fun k j=>if num=true/\k ∉ Ve then .error (3,i) else .ok (k,j)
def XG(rs:List Int):Option kC->Bool->Wd->Nat->Nat->Nat->qK Fo
 | none,_,_,_,o,_ => .error (4,o)
 | some m,num,k,i,_,l=>(m num l).then fun f q=>(vN rs 125 q).then fun _ z => .ok (.uf k i f .nil,xr rs z)
def X2(rs:List Int)(msg:Option kC)(num:Bool)(i:Nat):qK Fo :=
 (K9 rs num i).then fun k j=>(vN rs 123 (xr rs j)).then fun _ l=>XG rs msg num k i (xr rs j) l
def jN(rs:List Int)(msg:Option kC)(num:Bool):Nat->Fo->Nat->qK Fo
 | 0,_,i => .error (3,i)
 | n+1,acc,i=>if xU rs i=125/\acc.len≠0 then .ok (acc,i) else (X2 rs msg num i).then fun f j=>jN rs msg num n (acc.app f) j
def zxq:Wd:=[110,117,109,98,101,114]
def JU(rs:List Int)(form:Nat)(i:Nat):qK Wd :=
 if form≠0/\CG rs i=true then (kZ rs (xr rs (i+7))).then fun o j => .ok (o,xr rs j) else .ok ([48],i)
def YX(rs:List Int)(msg:Option kC)(i:Nat):qK Fo :=
 (vN rs 123 i).then fun _ a =>
 (gu rs (xr rs a)).then fun name b =>
 if xU rs (xr rs b)≠44 then (vN rs 125 (xr rs b)).then fun _ z => .ok (.put name i .nil,z)
 else (gu rs (xr rs (xr rs b+1))).then fun w c =>
  if w=zxq then (vN rs 125 (xr rs c)).then fun _ z => .ok (.num name i .nil,z)
  else match Uo w with
   | none => .error (3,xr rs (xr rs b+1))
   | some form=>(vN rs 44 (xr rs c)).then fun _ d=>(JU rs form (xr rs d)).then fun o l =>
    (jN rs msg (decide (form≠0)) (rs.length+1) .nil l).then fun bs q=>(vN rs 125 q).then fun _ z => .ok (.br name i form o q bs .nil,z)
def qC(rs:List Int)(msg:Option kC)(num:Bool):Nat->Fo->Nat->qK Fo
 | 0,_,i => .error (3,i)
 | n+1,acc,i =>
  if xU rs i = -1\/xU rs i=125 then .ok (acc,i)
  else if xU rs i=123 then (YX rs msg i).then fun f j=>qC rs msg num n (acc.app f) j
  else if xU rs i=35/\num=true then qC rs msg num n (acc.app (.hash .nil)) (i+1)
  else qC rs msg num n (acc.xL (j5 rs num i).1) (j5 rs num i).2
def YV(rs:List Int):Nat->kC
 | 0=>fun num i=>qC rs none num (rs.length+1) .nil i
 | n+1=>fun num i=>qC rs (some (YV rs n)) num (rs.length+1) .nil i
def YU(rs:List Int):qK Fo:=(YV rs 5 false 0).then fun f i=>if xU rs i = -1 then .ok (f,i) else .error (3,i)
structure Ko(p:Nat)(w:World):Prop where
 names:qd w
 ne:0≠p
theorem Ko.but{p:Nat}{w w':World}(h:Ko p w)(hb:xP p w w'):Ko p w':=⟨fun j hj=>hb.cell (h.names j hj) h.ne,h.ne⟩
def zcx(p:Nat)(rs:List Int)(d:Nat)(r:qK Fo)(w:World)(e:Ending)(w':World):Prop :=
 (match r with
  | .error (n,a)=>K7 p n a e w'
  | .ok (f,j)=>(∃ a c,e = .returned (.slice a f.len c)/\∃ vs,U5 w.heap.size w'.heap.size w' a vs/\xY w.heap.size w'.heap.size w' vs f)/\f.vG=true/\vK p rs j d w')/\xP p w w'
theorem bR(rs:List Int)(i n:Nat):(kb rs i n).length<=4*rs.length:=by
 have hh:∀ l:List Int,(l.flatMap enc).length<=4*l.length:=by
  intro l;induction l with
  | nil=>simp
  | cons a t ih=>have:=(kd a).1;simp only[zE,List.length_append,List.length_cons];omega
 have h1:=hh ((rs.drop i).take n);have h2:((rs.drop i).take n).length<=rs.length:=by simp;omega
 unfold kb;omega
def oU(p:Nat)(rs:List Int)(d:Nat)(m:kC):Prop:=∀ (num:Bool) (i:Nat) (w:World),vK p rs i d w->Ko p w ->
 Calls prog 111 #[.pointer (some ⟨p,0,none⟩),.bool num] w (zcx p rs d (m num i) w)
def zxk(p:Nat)(rs:List Int)(d:Nat)(r:qK Fo)(w:World)(e:Ending)(w':World):Prop :=
 (match r with
  | .error (n,a)=>K7 p n a e w'
  | .ok (f,j)=>(∃ k pl m ma mc,f = .uf k pl m .nil/\e = .returned (.agg #[xk k,.int .i64 pl,.slice ma m.len mc])/\m.vG=true/\∃ vs,U5 w.heap.size w'.heap.size w' ma vs/\xY w.heap.size w'.heap.size w' vs m)/\vK p rs j d w')/\xP p w w'
structure GV(B:Nat)(v0 v1 v2:Value)(w:World):Prop where
 c0:w.cell? ⟨B,0,none⟩=some v0
 c1:w.cell? ⟨B,1,none⟩=some v1
 c2:w.cell? ⟨B,2,none⟩=some v2
 z:∀ j,w.frozen? ⟨B,j,none⟩=false
theorem GV.but{B p:Nat}{v0 v1 v2:Value}{w w':World}(h:GV B v0 v1 v2 w)(hb:xP p w w')(xc:B≠p):GV B v0 v1 v2 w' :=
 ⟨hb.cell h.c0 xc,hb.cell h.c1 xc,hb.cell h.c2 xc,fun j=>(World.frozen?_of_block (a:=⟨B,j,none⟩) (hb.block B (zv w _ h.c0) xc)).trans (h.z j)⟩
theorem GV.X3{B:Nat}{v0 v1 v2 u:Value}{w:World}(h:GV B v0 v1 v2 w):GV B u v1 v2 (w.setCell ⟨B,0,none⟩ u) :=
 ⟨by rw[xg,if_pos rfl,h.c0];rfl,by rw[xg,if_neg (by simp)];exact h.c1,by rw[xg,if_neg (by simp)];exact h.c2,fun j=>by rw[zM];exact h.z j⟩
theorem GV.zxj{B:Nat}{v0 v1 v2 u:Value}{w:World}(h:GV B v0 v1 v2 w):GV B v0 v1 u (w.setCell ⟨B,2,none⟩ u) :=
 ⟨by rw[xg,if_neg (by simp)];exact h.c0,by rw[xg,if_neg (by simp)];exact h.c1,by rw[xg,if_pos rfl,h.c2];rfl,fun j=>by rw[zM];exact h.z j⟩
theorem xP.own{p:Nat}{w w':World}(h:xP p w w'){B:Nat}(hB:w.heap.size<=B)(j:Nat)(u:Value):xP p w (w'.setCell ⟨B,j,none⟩ u) :=
 ⟨h.os,h.tape,h.output,zy h.size (by simp[zU]),fun k hk hp=>(zJ _ _ _ _ (by show k≠B;omega)).trans (h.block k hk hp)⟩
theorem vQ.put{lo hi:Nat}{w W:World}(h:vQ lo hi w W){B:Nat}(hB:B<lo)(j:Nat)(u:Value):vQ lo hi w (W.setCell ⟨B,j,none⟩ u) :=
 ⟨zy h.1 (by simp[zU]),fun k h1 h2=>(zJ _ _ _ _ (by show k≠B;omega)).trans (h.2 k h1 h2)⟩
theorem vQ.but{lo hi p:Nat}{w W W':World}(h:vQ lo hi w W)(hb:xP p W W')(hp:p<lo):vQ lo hi w W' :=
 ⟨zy h.1 hb.size,fun k h1 h2=>(hb.block k (zF h2 h.1) (by omega)).trans (h.2 k h1 h2)⟩
theorem vK.own{p:Nat}{rs:List Int}{i d:Nat}{w:World}(h:vK p rs i d w){B:Nat}(hB:p<B)(j:Nat)(u:Value):vK p rs i d (w.setCell ⟨B,j,none⟩ u) :=
 h.grown (row:=some B) ⟨rfl,rfl,rfl,by simp[zU],fun k _ hk=>zJ _ _ _ _ (fun e=>hk (by rw[e]))⟩ (fun q hq=>by cases hq;exact hB)
theorem Ng(p:Nat)(rs:List Int)(i d:Nat)(num:Bool)(msg:Option kC)(w:World)(h:vK p rs i d w)(he:Ko p w)(hd:msg=none ↔ d=6)(hm:∀ m,msg=some m->oU p rs d m) :
  Calls prog 204 #[.pointer (some ⟨p,0,none⟩),.bool num] w (zxk p rs d (X2 rs msg num i) w):=by
 have HH:=z7 h;have GU:=z7 he;have HD:=z7 hd;have HMC:=z7 hm;have K8:=h.lt;have h5:=h.at_;obtain⟨R,hR⟩:=xX (X2 rs msg num i);rw[hR];have HR:=z7 hR;clear h he hd hm hR
 cases num
 ·go_enter func204,ntmps204;go_wp2_with fail;refine vZ ?_;intro W hW;have jC:Below w.heap.size w W:=by rw[hW];exact(zj _ _).alloc (z8 _) _
  have Nf:GV w.heap.size (.string ⟨#[]⟩) (.int .i64 i) (.slice none 0 0) W:=by
   rw[hW];exact⟨xu _ _ _ _ _,xu _ _ _ _ _,xu _ _ _ _ _,fun j=>by go_simp⟩
  clear hW h5;obtain⟨B,hB⟩:=xX w.heap.size;rw[hB] at Nf ⊢;have HB:=z7 hB;have Ma:p<B:=by omega
  have oQ:=z7 Nf;clear hB Nf;obtain⟨Kz,GQ⟩:∃ b,b=false:=⟨_,rfl⟩;refine(Ul p rs i d W (HH.out.below jC)).mono ?_;rintro e x0 ⟨hq,JQ⟩;have jz:=(xP.of (p:=p) jC).trans JQ;have HL0:=z7 (oQ.out.but JQ (by omega));by_cases q9:ql rs i=0
  ·rw[if_pos q9] at hq;have Zd:=z7 (show R = .error (3,i) by rw[←HR.out];unfold X2 K9 gu;rw[if_neg (by simp),if_pos q9];rfl);have HQ:=z7 hq;obtain⟨bf,rfl,_,_⟩:=hq;clear q9;go_wp2;exact⟨rfl,by rw[Zd.out];exact HQ.out,jz⟩
  ·rw[if_neg q9] at hq;obtain⟨rfl,DH⟩:=hq;obtain⟨K,hK⟩:=xX (kb rs i (ql rs i));obtain⟨j,hj⟩:=xX (i+ql rs i);rw[hj] at DH;rw[hK];have HT:=z7 (show R=(vN rs 123 (xr rs j)).then fun _ l=>XG rs msg Kz K i (xr rs j) l by
    rw[←HR.out,GQ];unfold X2 K9 gu;rw[if_neg (by simp),if_neg q9,hK,hj];first|rfl|(simp[then_ok];done))
   have HS0:=z7 DH;have zz:=HL0.out.z 0;have z0:=HL0.out.c0;have z1:=HL0.out.c1;have Je:=z7 (HS0.out.own Ma 0 (xk K));have DI:=z7 (HL0.out.X3 (u:=xk K));have JK:xP p w (x0.setCell ⟨B,0,none⟩ (xk K)):=jz.own (by have:=HB.out;omega) 0 _;obtain⟨X,hX⟩:=xX (x0.setCell ⟨B,0,none⟩ (xk K));rw[hX] at Je DI JK;have HX:=z7 hX;clear DH q9 hK hj hX JQ jz;go_wp2_with fail;rw[HX.out];have HL:=DI;have HS:=Je;have ZU:=JK;clear DI Je JK;obtain⟨J,hJ⟩:=xX (xr rs j);rw[hJ] at HT;have HJ:=z7 hJ;clear hJ;refine(uw p rs j d X HS.out).mono ?_;rintro e x1 ⟨rfl,uL,dH⟩;rw[HJ.out] at uL;have xB:=ZU.trans dH;have gC:=z7 uL;have Nd:=z7 (HL.out.but dH (by omega));have g5:=uL.at_;clear uL dH HJ HL HS ZU;go_wp2_with fail;refine(jg p rs J d 123 x1 gC.out (by decide)).mono ?_;rintro e x2 ⟨hq,qg⟩;have xF:=xB.trans qg;have nE:=z7 (Nd.out.but qg (by omega));clear g5;by_cases hw:xU rs J=123
   ·rw[if_pos hw] at hq;obtain⟨rfl,ue⟩:=hq;have dv:=z7 ue;have g6:=ue.deep;have Zd:=z7 (show R=XG rs msg Kz K i J (J+1) by rw[HT.out];unfold vN;rw[if_pos hw];rfl);clear ue hw HT
    cases msg with
    | none =>
     have Iu:d=6:=HD.out.1 rfl;subst Iu;go_wp2_with fail;refine(dy p 4 J x2 dv.out.Ki).mono ?_;rintro e x3 ⟨hf,Iq⟩;have HF:=z7 hf;obtain⟨bf,rfl,_,_⟩:=hf;go_wp2;exact⟨rfl,by rw[Zd.out];exact HF.out,xF.below Iq⟩
    | some m =>
     have Iu:d≠6:=fun e=>by have:=HD.out.2 e;cases this
     have zcu:((d:Int)==6)=false:=by simp;omega
     have vY:=HMC.out m rfl Kz (J+1) x2 dv.out (GU.out.but xF);obtain⟨r,hr⟩:=xX (m Kz (J+1));rw[hr] at vY;rw[GQ] at vY;have ur:=z7 vY;have Nq:=z7 (show R=r.then fun f q=>(vN rs 125 q).then fun _ z => .ok (.uf K i f .nil,xr rs z) by rw[Zd.out,←hr];rfl);clear vY hr Zd;go_wp2_with fail;refine ur.out.mono ?_;rintro e x3 ⟨hq,Iq⟩;have uP:=xF.trans Iq;have AJ:=z7 (nE.out.but Iq (by omega))
     cases r with
     | error en =>
      obtain⟨nH,nL⟩:=en;have HQ:=z7 hq;obtain⟨bf,rfl,_,_⟩:=hq;go_wp2;exact⟨rfl,by rw[Nq.out];exact HQ.out,uP⟩
     | ok fq =>
      obtain⟨f,q⟩:=fq;obtain⟨⟨ma,mc,rfl,vs,vD,kE⟩,JG,Mc⟩:=hq;have Dd:=z7 (show R=(vN rs 125 q).then fun _ z => .ok (.uf K i f .nil,xr rs z) from Nq.out);have qV:=z7 vD;have YQ:=z7 kE;have UO:=z7 Mc;have z2:=AJ.out.z 2;have q2:=AJ.out.c2;have Je:=z7 (UO.out.own (B:=B) (by omega) 2 (.slice ma f.len mc));have DI:=z7 (AJ.out.zxj (u := .slice ma f.len mc));have JK:xP p w (x3.setCell ⟨B,2,none⟩ (.slice ma f.len mc)):=uP.own (by have:=HB.out;omega) 2 _;obtain⟨Y,hY⟩:=xX (x3.setCell ⟨B,2,none⟩ (.slice ma f.len mc));rw[hY] at Je DI JK;have HY:=z7 hY;clear vD kE Mc Nq ur hY;go_wp2_with fail;rw[HY.out];refine(jg p rs q d 125 Y Je.out (by decide)).mono ?_;rintro e x4 ⟨hq,AG⟩;have uN:=JK.trans AG;have HL4:=z7 (DI.out.but AG (by omega));by_cases hw:xU rs q=125
      ·rw[if_pos hw] at hq;obtain⟨rfl,QS⟩:=hq;have Yq:=z7 QS;obtain⟨J2,AF⟩:=xX (xr rs (q+1));have AD:=z7 (show R = .ok (.uf K i f .nil,J2) by rw[Dd.out,←AF];show(vN rs 125 q).then _=_;unfold vN;rw[if_pos hw];rfl);have HJ2:=z7 AF;clear QS hw AF Dd;go_wp2_with fail;refine(uw p rs (q+1) d x4 Yq.out).mono ?_;rintro e x5 ⟨rfl,H9,AB⟩;rw[HJ2.out] at H9;have ju:=uN.trans AB;have JF:=z7 (HL4.out.but AB (by omega));have Me:=z7 H9;have k0:=JF.out.c0;have k1:=JF.out.c1;have k2:=JF.out.c2;have y0:=JF.out.z 0;have y1:=JF.out.z 1;have y2:=JF.out.z 2;clear H9;have Zj:B<x2.heap.size:=zv _ _ nE.out.c0;have Pa:=z7 (((((((vx (lo:=x2.heap.size) (z8 x3.heap.size)).put Zj 2 (.slice ma f.len mc))).but (by rw[HY.out];exact AG) (by omega)).but AB (by omega)).put Zj 0 (xk K)).put Zj 1 (.int .i64 i) |>.put Zj 2 (.slice ma f.len mc));have HBF:=z7 (((ju.own (B:=B) (by have:=HB.out;omega) 0 (xk K)).own (B:=B) (by have:=HB.out;omega) 1 (.int .i64 i)).own (B:=B) (by have:=HB.out;omega) 2 (.slice ma f.len mc));have HSF:=z7 (((Me.out.own Ma 0 (xk K)).own Ma 1 (.int .i64 i)).own Ma 2 (.slice ma f.len mc));go_wp2;rw[AD.out];refine bodyPost_ret (v := .agg #[xk K,.int .i64 i,.slice ma f.len mc]) ?_ rfl ?_
       ·simp[results,results204,go_sem,k0,k1,k2]
       exact⟨⟨⟨K,i,f,ma,mc,rfl,rfl,JG,vs,qV.out.keep Pa.out xF.size Pa.out.1,xY.keep Pa.out xF.size Pa.out.1 _ _ YQ.out⟩,HSF.out⟩,HBF.out⟩
      ·rw[if_neg hw] at hq;have AD:=z7 (show R = .error (3,q) by rw[Dd.out];show(vN rs 125 q).then _=_;unfold vN;rw[if_neg hw];rfl);have HQ:=z7 hq;obtain⟨bf,rfl,_,_⟩:=hq;clear hw Dd;go_wp2;exact⟨rfl,by rw[AD.out];exact HQ.out,uN⟩
   ·rw[if_neg hw] at hq;have Zd:=z7 (show R = .error (3,J) by rw[HT.out];unfold vN;rw[if_neg hw];rfl);have HQ:=z7 hq;obtain⟨bf,rfl,_,_⟩:=hq;clear hw HT;go_wp2;exact⟨rfl,by rw[Zd.out];exact HQ.out,xF⟩
 ·go_enter func204,ntmps204;go_wp2_with fail;refine vZ ?_;intro W hW;have jC:Below w.heap.size w W:=by rw[hW];exact(zj _ _).alloc (z8 _) _
  have Nf:GV w.heap.size (.string ⟨#[]⟩) (.int .i64 i) (.slice none 0 0) W:=by
   rw[hW];exact⟨xu _ _ _ _ _,xu _ _ _ _ _,xu _ _ _ _ _,fun j=>by go_simp⟩
  clear hW h5;obtain⟨B,hB⟩:=xX w.heap.size;rw[hB] at Nf ⊢;have HB:=z7 hB;have Ma:p<B:=by omega
  have oQ:=z7 Nf;clear hB Nf;obtain⟨Kz,GQ⟩:∃ b,b=true:=⟨_,rfl⟩;refine(XV p rs i d 61 W (HH.out.below jC) (by decide)).mono ?_;rintro e x0 ⟨rfl,DH,JQ⟩;have jz:=(xP.of (p:=p) jC).trans JQ;have HL0:=z7 (oQ.out.but JQ (by omega));by_cases Pc:xU rs i=61
  ·rw[if_pos Pc] at DH;rw[show(xU rs i==61)=true from by rw[Pc];rfl];have HS0:=z7 DH;have We:=z7 (show R=((kZ rs (i+1)).then fun k j=>(.ok (61::k,j):qK Wd)).then fun k j=>(vN rs 123 (xr rs j)).then fun _ l=>XG rs msg true k i (xr rs j) l by
    rw[←HR.out];unfold X2 K9;rw[if_pos ⟨rfl,Pc⟩])
   clear DH Pc JQ;go_wp2_with fail;refine(By p rs (i+1) d x0 HS0.out).mono ?_;rintro e x1 ⟨hq,dH⟩;have xB:=jz.trans dH;have Nd:=z7 (HL0.out.but dH (by omega));by_cases q9:qu rs (i+1)=0
   ·rw[if_pos q9] at hq;have Zd:=z7 (show R = .error (3,i+1) by rw[We.out];unfold kZ;rw[if_pos q9];rfl);have HQ:=z7 hq;obtain⟨bf,rfl,_,_⟩:=hq;clear q9;go_wp2;exact⟨rfl,by rw[Zd.out];exact HQ.out,xB⟩
   ·rw[if_neg q9] at hq;obtain⟨rfl,uL⟩:=hq;obtain⟨K0,hK⟩:=xX (kb rs (i+1) (qu rs (i+1)));obtain⟨K,hK1⟩:=xX (61::K0);obtain⟨j,hj⟩:=xX (i+1+qu rs (i+1));rw[hj] at uL;rw[hK];have HT:=z7 (show R=(vN rs 123 (xr rs j)).then fun _ l=>XG rs msg Kz K i (xr rs j) l by
     rw[We.out,GQ];unfold kZ;rw[if_neg q9,hK,hj,←hK1];rfl)
    have gC:=z7 uL;have zz:=Nd.out.z 0;have z0:=Nd.out.c0;have z1:=Nd.out.c1;have Je:=z7 (gC.out.own Ma 0 (xk K));have DI:=z7 (Nd.out.X3 (u:=xk K));have JK:xP p w (x1.setCell ⟨B,0,none⟩ (xk K)):=xB.own (by have:=HB.out;omega) 0 _;obtain⟨X,hX⟩:=xX (x1.setCell ⟨B,0,none⟩ (xk K));rw[hX] at Je DI JK;rw[←hK1] at hX;have HX:=z7 hX;have hlen:¬9223372036854775807<1+K0.length:=by
     have:=bR rs (i+1) (qu rs (i+1));have:=HH.out.len;rw[hK] at *;omega
    clear uL q9 hK hj hX dH xB We;go_wp2_with fail;rw[show(⟨#[61]⟩:ByteArray)++⟨K0.toArray⟩=⟨(61::K0).toArray⟩ from ByteArray.ext (by simp)];rw[show Value.string ⟨(61::K0).toArray⟩=xk (61::K0) from rfl,HX.out];have HL:=DI;have HS:=Je;have ZU:=JK;clear DI Je JK;obtain⟨J,hJ⟩:=xX (xr rs j);rw[hJ] at HT;have HJ:=z7 hJ;clear hJ;refine(uw p rs j d X HS.out).mono ?_;rintro e x1 ⟨rfl,uL,dH⟩;rw[HJ.out] at uL;have xB:=ZU.trans dH;have gC:=z7 uL;have Nd:=z7 (HL.out.but dH (by omega));have g5:=uL.at_;clear uL dH HJ HL HS ZU;go_wp2_with fail;refine(jg p rs J d 123 x1 gC.out (by decide)).mono ?_;rintro e x2 ⟨hq,qg⟩;have xF:=xB.trans qg;have nE:=z7 (Nd.out.but qg (by omega));clear g5;by_cases hw:xU rs J=123
    ·rw[if_pos hw] at hq;obtain⟨rfl,ue⟩:=hq;have dv:=z7 ue;have g6:=ue.deep;have Zd:=z7 (show R=XG rs msg Kz K i J (J+1) by rw[HT.out];unfold vN;rw[if_pos hw];rfl);clear ue hw HT
     cases msg with
     | none =>
      have Iu:d=6:=HD.out.1 rfl;subst Iu;go_wp2_with fail;refine(dy p 4 J x2 dv.out.Ki).mono ?_;rintro e x3 ⟨hf,Iq⟩;have HF:=z7 hf;obtain⟨bf,rfl,_,_⟩:=hf;go_wp2;exact⟨rfl,by rw[Zd.out];exact HF.out,xF.below Iq⟩
     | some m =>
      have Iu:d≠6:=fun e=>by have:=HD.out.2 e;cases this
      have zcu:((d:Int)==6)=false:=by simp;omega
      have vY:=HMC.out m rfl Kz (J+1) x2 dv.out (GU.out.but xF);obtain⟨r,hr⟩:=xX (m Kz (J+1));rw[hr] at vY;rw[GQ] at vY;have ur:=z7 vY;have Nq:=z7 (show R=r.then fun f q=>(vN rs 125 q).then fun _ z => .ok (.uf K i f .nil,xr rs z) by rw[Zd.out,←hr];rfl);clear vY hr Zd;go_wp2_with fail;refine ur.out.mono ?_;rintro e x3 ⟨hq,Iq⟩;have uP:=xF.trans Iq;have AJ:=z7 (nE.out.but Iq (by omega))
      cases r with
      | error en =>
       obtain⟨nH,nL⟩:=en;have HQ:=z7 hq;obtain⟨bf,rfl,_,_⟩:=hq;go_wp2;exact⟨rfl,by rw[Nq.out];exact HQ.out,uP⟩
      | ok fq =>
       obtain⟨f,q⟩:=fq;obtain⟨⟨ma,mc,rfl,vs,vD,kE⟩,JG,Mc⟩:=hq;have Dd:=z7 (show R=(vN rs 125 q).then fun _ z => .ok (.uf K i f .nil,xr rs z) from Nq.out);have qV:=z7 vD;have YQ:=z7 kE;have UO:=z7 Mc;have z2:=AJ.out.z 2;have q2:=AJ.out.c2;have Je:=z7 (UO.out.own (B:=B) (by omega) 2 (.slice ma f.len mc));have DI:=z7 (AJ.out.zxj (u := .slice ma f.len mc));have JK:xP p w (x3.setCell ⟨B,2,none⟩ (.slice ma f.len mc)):=uP.own (by have:=HB.out;omega) 2 _;obtain⟨Y,hY⟩:=xX (x3.setCell ⟨B,2,none⟩ (.slice ma f.len mc));rw[hY] at Je DI JK;have HY:=z7 hY;clear vD kE Mc Nq ur hY;go_wp2_with fail;rw[HY.out];refine(jg p rs q d 125 Y Je.out (by decide)).mono ?_;rintro e x4 ⟨hq,AG⟩;have uN:=JK.trans AG;have HL4:=z7 (DI.out.but AG (by omega));by_cases hw:xU rs q=125
       ·rw[if_pos hw] at hq;obtain⟨rfl,QS⟩:=hq;have Yq:=z7 QS;obtain⟨J2,AF⟩:=xX (xr rs (q+1));have AD:=z7 (show R = .ok (.uf K i f .nil,J2) by rw[Dd.out,←AF];show(vN rs 125 q).then _=_;unfold vN;rw[if_pos hw];rfl);have HJ2:=z7 AF;clear QS hw AF Dd;go_wp2_with fail;refine(uw p rs (q+1) d x4 Yq.out).mono ?_;rintro e x5 ⟨rfl,H9,AB⟩;rw[HJ2.out] at H9;have ju:=uN.trans AB;have JF:=z7 (HL4.out.but AB (by omega));have Me:=z7 H9;have k0:=JF.out.c0;have k1:=JF.out.c1;have k2:=JF.out.c2;have y0:=JF.out.z 0;have y1:=JF.out.z 1;have y2:=JF.out.z 2;clear H9;have Zj:B<x2.heap.size:=zv _ _ nE.out.c0;have Pa:=z7 (((((((vx (lo:=x2.heap.size) (z8 x3.heap.size)).put Zj 2 (.slice ma f.len mc))).but (by rw[HY.out];exact AG) (by omega)).but AB (by omega)).put Zj 0 (xk K)).put Zj 1 (.int .i64 i) |>.put Zj 2 (.slice ma f.len mc));have HBF:=z7 (((ju.own (B:=B) (by have:=HB.out;omega) 0 (xk K)).own (B:=B) (by have:=HB.out;omega) 1 (.int .i64 i)).own (B:=B) (by have:=HB.out;omega) 2 (.slice ma f.len mc));have HSF:=z7 (((Me.out.own Ma 0 (xk K)).own Ma 1 (.int .i64 i)).own Ma 2 (.slice ma f.len mc));go_wp2;rw[AD.out];refine bodyPost_ret (v := .agg #[xk K,.int .i64 i,.slice ma f.len mc]) ?_ rfl ?_
        ·simp[results,results204,go_sem,k0,k1,k2]
        exact⟨⟨⟨K,i,f,ma,mc,rfl,rfl,JG,vs,qV.out.keep Pa.out xF.size Pa.out.1,xY.keep Pa.out xF.size Pa.out.1 _ _ YQ.out⟩,HSF.out⟩,HBF.out⟩
       ·rw[if_neg hw] at hq;have AD:=z7 (show R = .error (3,q) by rw[Dd.out];show(vN rs 125 q).then _=_;unfold vN;rw[if_neg hw];rfl);have HQ:=z7 hq;obtain⟨bf,rfl,_,_⟩:=hq;clear hw Dd;go_wp2;exact⟨rfl,by rw[AD.out];exact HQ.out,uN⟩
    ·rw[if_neg hw] at hq;have Zd:=z7 (show R = .error (3,J) by rw[HT.out];unfold vN;rw[if_neg hw];rfl);have HQ:=z7 hq;obtain⟨bf,rfl,_,_⟩:=hq;clear hw HT;go_wp2;exact⟨rfl,by rw[Zd.out];exact HQ.out,xF⟩
  ·rw[if_neg Pc] at DH;rw[show(xU rs i==61)=false from by simp[Pc]];have HS0:=z7 DH;have We:=z7 (show R=((gu rs i).then fun k j=>if k ∉ Ve then (.error (3,i):qK Wd) else .ok (k,j)).then fun k j=>(vN rs 123 (xr rs j)).then fun _ l=>XG rs msg true k i (xr rs j) l by
    rw[←HR.out];unfold X2 K9;rw[if_neg (fun e=>Pc e.2)];simp)
   clear DH Pc JQ;go_wp2_with fail;refine(Ul p rs i d x0 HS0.out).mono ?_;rintro e x1 ⟨hq,dH⟩;have xB:=jz.trans dH;have Nd:=z7 (HL0.out.but dH (by omega));by_cases q9:ql rs i=0
   ·rw[if_pos q9] at hq;have Zd:=z7 (show R = .error (3,i) by rw[We.out];unfold gu;rw[if_pos q9];rfl);have HQ:=z7 hq;obtain⟨bf,rfl,_,_⟩:=hq;clear q9;go_wp2;exact⟨rfl,by rw[Zd.out];exact HQ.out,xB⟩
   ·rw[if_neg q9] at hq;obtain⟨rfl,uL⟩:=hq;obtain⟨K,hK⟩:=xX (kb rs i (ql rs i));obtain⟨j,hj⟩:=xX (i+ql rs i);rw[hj] at uL;rw[hK];have UR:=z7 (show R=((if K ∉ Ve then .error (3,i) else .ok (K,j)):qK Wd).then fun k j=>(vN rs 123 (xr rs j)).then fun _ l=>XG rs msg true k i (xr rs j) l by
     rw[We.out];unfold gu;rw[if_neg q9,hK,hj];rfl)
    have gC:=z7 uL;have zz:=Nd.out.z 0;have z0:=Nd.out.c0;have z1:=Nd.out.c1;have Je:=z7 (gC.out.own Ma 0 (xk K));have DI:=z7 (Nd.out.X3 (u:=xk K));have JK:xP p w (x1.setCell ⟨B,0,none⟩ (xk K)):=xB.own (by have:=HB.out;omega) 0 _;obtain⟨X,hX⟩:=xX (x1.setCell ⟨B,0,none⟩ (xk K));rw[hX] at Je DI JK;have HX:=z7 hX;clear uL q9 hK hj hX dH xB We;go_wp2_with fail;rw[HX.out];refine(CF K X (GU.out.but JK).names).mono ?_;rintro e x2 ⟨rfl,rfl⟩;have u1:=DI.out.c1;by_cases hc:K∈Ve
    ·rw[show decide (K∈Ve)=true from by simp[hc]];have HT:=z7 (show R=(vN rs 123 (xr rs j)).then fun _ l=>XG rs msg Kz K i (xr rs j) l by
      rw[UR.out,GQ,if_neg (by simp[hc])];rfl)
     clear hc UR;go_wp2_with fail;have HL:=DI;have HS:=Je;have ZU:=JK;clear DI Je JK;obtain⟨J,hJ⟩:=xX (xr rs j);rw[hJ] at HT;have HJ:=z7 hJ;clear hJ;refine(uw p rs j d X HS.out).mono ?_;rintro e x1 ⟨rfl,uL,dH⟩;rw[HJ.out] at uL;have xB:=ZU.trans dH;have gC:=z7 uL;have Nd:=z7 (HL.out.but dH (by omega));have g5:=uL.at_;clear uL dH HJ HL HS ZU;go_wp2_with fail;refine(jg p rs J d 123 x1 gC.out (by decide)).mono ?_;rintro e x2 ⟨hq,qg⟩;have xF:=xB.trans qg;have nE:=z7 (Nd.out.but qg (by omega));clear g5;by_cases hw:xU rs J=123
     ·rw[if_pos hw] at hq;obtain⟨rfl,ue⟩:=hq;have dv:=z7 ue;have g6:=ue.deep;have Zd:=z7 (show R=XG rs msg Kz K i J (J+1) by rw[HT.out];unfold vN;rw[if_pos hw];rfl);clear ue hw HT
      cases msg with
      | none =>
       have Iu:d=6:=HD.out.1 rfl;subst Iu;go_wp2_with fail;refine(dy p 4 J x2 dv.out.Ki).mono ?_;rintro e x3 ⟨hf,Iq⟩;have HF:=z7 hf;obtain⟨bf,rfl,_,_⟩:=hf;go_wp2;exact⟨rfl,by rw[Zd.out];exact HF.out,xF.below Iq⟩
      | some m =>
       have Iu:d≠6:=fun e=>by have:=HD.out.2 e;cases this
       have zcu:((d:Int)==6)=false:=by simp;omega
       have vY:=HMC.out m rfl Kz (J+1) x2 dv.out (GU.out.but xF);obtain⟨r,hr⟩:=xX (m Kz (J+1));rw[hr] at vY;rw[GQ] at vY;have ur:=z7 vY;have Nq:=z7 (show R=r.then fun f q=>(vN rs 125 q).then fun _ z => .ok (.uf K i f .nil,xr rs z) by rw[Zd.out,←hr];rfl);clear vY hr Zd;go_wp2_with fail;refine ur.out.mono ?_;rintro e x3 ⟨hq,Iq⟩;have uP:=xF.trans Iq;have AJ:=z7 (nE.out.but Iq (by omega))
       cases r with
       | error en =>
        obtain⟨nH,nL⟩:=en;have HQ:=z7 hq;obtain⟨bf,rfl,_,_⟩:=hq;go_wp2;exact⟨rfl,by rw[Nq.out];exact HQ.out,uP⟩
       | ok fq =>
        obtain⟨f,q⟩:=fq;obtain⟨⟨ma,mc,rfl,vs,vD,kE⟩,JG,Mc⟩:=hq;have Dd:=z7 (show R=(vN rs 125 q).then fun _ z => .ok (.uf K i f .nil,xr rs z) from Nq.out);have qV:=z7 vD;have YQ:=z7 kE;have UO:=z7 Mc;have z2:=AJ.out.z 2;have q2:=AJ.out.c2;have Je:=z7 (UO.out.own (B:=B) (by omega) 2 (.slice ma f.len mc));have DI:=z7 (AJ.out.zxj (u := .slice ma f.len mc));have JK:xP p w (x3.setCell ⟨B,2,none⟩ (.slice ma f.len mc)):=uP.own (by have:=HB.out;omega) 2 _;obtain⟨Y,hY⟩:=xX (x3.setCell ⟨B,2,none⟩ (.slice ma f.len mc));rw[hY] at Je DI JK;have HY:=z7 hY;clear vD kE Mc Nq ur hY;go_wp2_with fail;rw[HY.out];refine(jg p rs q d 125 Y Je.out (by decide)).mono ?_;rintro e x4 ⟨hq,AG⟩;have uN:=JK.trans AG;have HL4:=z7 (DI.out.but AG (by omega));by_cases hw:xU rs q=125
        ·rw[if_pos hw] at hq;obtain⟨rfl,QS⟩:=hq;have Yq:=z7 QS;obtain⟨J2,AF⟩:=xX (xr rs (q+1));have AD:=z7 (show R = .ok (.uf K i f .nil,J2) by rw[Dd.out,←AF];show(vN rs 125 q).then _=_;unfold vN;rw[if_pos hw];rfl);have HJ2:=z7 AF;clear QS hw AF Dd;go_wp2_with fail;refine(uw p rs (q+1) d x4 Yq.out).mono ?_;rintro e x5 ⟨rfl,H9,AB⟩;rw[HJ2.out] at H9;have ju:=uN.trans AB;have JF:=z7 (HL4.out.but AB (by omega));have Me:=z7 H9;have k0:=JF.out.c0;have k1:=JF.out.c1;have k2:=JF.out.c2;have y0:=JF.out.z 0;have y1:=JF.out.z 1;have y2:=JF.out.z 2;clear H9;have Zj:B<x2.heap.size:=zv _ _ nE.out.c0;have Pa:=z7 (((((((vx (lo:=x2.heap.size) (z8 x3.heap.size)).put Zj 2 (.slice ma f.len mc))).but (by rw[HY.out];exact AG) (by omega)).but AB (by omega)).put Zj 0 (xk K)).put Zj 1 (.int .i64 i) |>.put Zj 2 (.slice ma f.len mc));have HBF:=z7 (((ju.own (B:=B) (by have:=HB.out;omega) 0 (xk K)).own (B:=B) (by have:=HB.out;omega) 1 (.int .i64 i)).own (B:=B) (by have:=HB.out;omega) 2 (.slice ma f.len mc));have HSF:=z7 (((Me.out.own Ma 0 (xk K)).own Ma 1 (.int .i64 i)).own Ma 2 (.slice ma f.len mc));go_wp2;rw[AD.out];refine bodyPost_ret (v := .agg #[xk K,.int .i64 i,.slice ma f.len mc]) ?_ rfl ?_
         ·simp[results,results204,go_sem,k0,k1,k2]
         exact⟨⟨⟨K,i,f,ma,mc,rfl,rfl,JG,vs,qV.out.keep Pa.out xF.size Pa.out.1,xY.keep Pa.out xF.size Pa.out.1 _ _ YQ.out⟩,HSF.out⟩,HBF.out⟩
        ·rw[if_neg hw] at hq;have AD:=z7 (show R = .error (3,q) by rw[Dd.out];show(vN rs 125 q).then _=_;unfold vN;rw[if_neg hw];rfl);have HQ:=z7 hq;obtain⟨bf,rfl,_,_⟩:=hq;clear hw Dd;go_wp2;exact⟨rfl,by rw[AD.out];exact HQ.out,uN⟩
     ·rw[if_neg hw] at hq;have Zd:=z7 (show R = .error (3,J) by rw[HT.out];unfold vN;rw[if_neg hw];rfl);have HQ:=z7 hq;obtain⟨bf,rfl,_,_⟩:=hq;clear hw HT;go_wp2;exact⟨rfl,by rw[Zd.out];exact HQ.out,xF⟩
    ·rw[show decide (K∈Ve)=false from by simp[hc]];have Zd:=z7 (show R = .error (3,i) by rw[UR.out,if_pos hc];rfl);clear hc UR;go_wp2_with fail;refine(dy p 3 i X Je.out.Ki).mono ?_;rintro e x3 ⟨hf,Iq⟩;have HF:=z7 hf;obtain⟨bf,rfl,_,_⟩:=hf;go_wp2;exact⟨rfl,by rw[Zd.out];exact HF.out,JK.below Iq⟩
theorem Ik:∀ (l:List UInt8) (acc:Nat),l.all xJ=true->Lib.decFrom acc l=some (l.foldl (fun v c=>10*v+(c.toNat - 48)) acc)
 | [],_,_=>rfl
 | c::t,acc,h=>by
  simp only[List.all_cons,zY] at h;have hc:=(vR c).1 h.1;rw[Lib.decFrom,Lib.digitVal,if_pos (by omega)];dsimp only;rw[Ik t _ h.2,List.foldl_cons,Nat.mul_comm acc 10]
theorem oK{l:List UInt8}(h:l.all xJ=true)(hn:l≠[]):Lib.atoi l=some (xE l:Int):=by
 cases l with
 | nil=>exact absurd rfl hn
 | cons c t =>
  have hd:=h;simp only[List.all_cons,zY] at hd;have hc:=(vR c).1 hd.1;have h45:(c==45)=false:=by
   rw[beq_eq_false_iff_ne];rintro rfl;exact absurd hc.1 (by decide)
  have h43:(c==43)=false:=by
   rw[beq_eq_false_iff_ne];rintro rfl;exact absurd hc.1 (by decide)
  rw[Lib.atoi,h45,h43];simp only[Bool.false_eq_true,if_false,Lib.decNat];rw[if_neg (by simp),Ik _ 0 h];rfl
theorem Pe(x:Wd)(w:World)(hs:x.length<=9)(hd:x.all xJ=true)(hn:x≠[]) :
  Calls prog 163 #[xk x] w fun e w'=>e = .returned (.tuple #[.int .i64 (xE x),.nilIface])/\Below w.heap.size w w':=by
 refine(Tryz.strconv_Atoi ⟨x.toArray⟩ (xE x) (by simp[ByteArray.size];omega) (oK hd hn) w).mono ?_;rintro e w' ⟨rfl,t,rfl⟩;exact⟨rfl,Lib.bytesWorld_below _ _ _⟩
theorem SU(r:Int)(h:qQ r=true):∃ c,enc r=[c]/\xJ c=true:=by
 simp only[qQ,zY,decide_eq_true_eq] at h;have:r=48\/r=49\/r=50\/r=51\/r=52\/r=53\/r=54\/r=55\/r=56\/r=57:=by omega
 rcases this with rfl|rfl|rfl|rfl|rfl|rfl|rfl|rfl|rfl|rfl<;>exact⟨_,rfl,by decide⟩
theorem GK(F:Int->Nat->Bool)(rs:List Int)(i:Nat):∀ f n R,Ui F rs i f n=R->∀ k,n<=k->k<R->F (xU rs (i+k)) k=true
 | 0,n,R,h,k,h1,h2=>by
  rw[Ui] at h;omega
 | f+1,n,R,h,k,h1,h2=>by
  rw[Ui] at h;by_cases q:F (xU rs (i+n)) n=true
  ·rw[if_pos q] at h;by_cases hk:k=n
   ·rw[hk];exact q
   ·exact GK F rs i f (n+1) R h k (by omega) h2
  ·rw[if_neg q] at h;omega
theorem Bu{F:Int->Nat->Bool}{rs:List Int}{i k:Nat}(h:k<runN F rs i):F (xU rs (i+k)) k=true:=GK F rs i _ _ _ rfl k (Nat.zero_le _) h
theorem Pl{rs:List Int}{j:Nat}(h:j<rs.length):xU rs j=rs[j]:=by
 unfold xU;simp[h]
theorem Up:∀ (l:List Int),(∀ r∈l,qQ r=true)->(l.flatMap enc).length=l.length/\(l.flatMap enc).all xJ=true
 | [],_=>⟨rfl,rfl⟩
 | r::t,h=>by
  obtain⟨c,hc,hd⟩:=SU r (h r (by simp));obtain⟨h1,h2⟩:=Up t (fun q hq=>h q (by simp[hq]));refine⟨by simp[zE,hc,h1],?_⟩;rw[zE,hc];simp[hd];simpa using h2
theorem Kp(rs:List Int)(i:Nat)(hn:qu rs i≠0):(kb rs i (qu rs i)).length<=9/\(kb rs i (qu rs i)).all xJ=true/\kb rs i (qu rs i)≠[]:=by
 obtain⟨n,hN⟩:=xX (qu rs i);have hf:∀ k,k<n->k<9/\qQ (xU rs (i+k))=true:=fun k hk=>by
  have:=Bu (F:=bO (xU rs i)) (rs:=rs) (i:=i) (k:=k) (by rw[show runN (bO (xU rs i)) rs i=qu rs i from rfl,hN];exact hk);simp only[bO,zY,decide_eq_true_eq] at this;exact this.1
 rw[hN] at hn ⊢;have h9:n<=9:=by
  have:=(hf (n - 1) (by omega)).1;omega
 have hd:qQ (-1)=false:=by decide
 have dp:∀ k,k<n->i+k<rs.length:=fun k hk=>by
  refine Nat.lt_of_not_le (fun hle=>?_);have:=(hf k hk).2;rw[kD hle,hd] at this
  cases this
 have qY:∀ r∈(rs.drop i).take n,qQ r=true:=fun r hr=>by
  obtain⟨k,hk,rfl⟩:=List.mem_iff_getElem.1 hr;simp only[List.length_take,za] at hk;have h1:=(hf k (by omega)).2;rw[Pl (dp k (by omega))] at h1;simpa using h1
 have hlen:((rs.drop i).take n).length=n:=by
  have:=dp (n - 1) (by omega);simp;omega
 obtain⟨h1,h2⟩:=Up _ qY;unfold kb;refine⟨by omega,h2,fun e=>?_⟩;rw[e] at h1;simp only[List.length_nil] at h1;omega
def ykk(base:Nat)(v:Value)(w W:World):Prop:=w.heap.size<=W.heap.size/\∀ k,base<=k->k<w.heap.size->some k≠v.ownBlock->W.heap[k]? = w.heap[k]?
def qm(base:Nat)(e:TypeId)(size:Nat)(v:Value)(acc:Fo)(ws:List Value)(w:World):Prop :=
 w.ownsRow base e size v acc.len ws/\∀ W,ykk base v w W->xY base W.heap.size W ws acc
theorem qm.start(base:Nat)(e:TypeId)(size:Nat)(w:World):qm base e size (.slice none 0 0) .nil [] w :=
 ⟨⟨by simp[Fo.len],.inl ⟨rfl,rfl⟩⟩,fun _ _=>rfl⟩
theorem qm.but{base p:Nat}{e:TypeId}{size:Nat}{v:Value}{acc:Fo}{ws:List Value}{w w':World}(h:qm base e size v acc ws w)(hb:xP p w w')(hp:p<base):qm base e size v acc ws w':=by
 obtain⟨⟨h1,h2⟩,h3⟩:=h;refine⟨⟨h1,?_⟩,fun W hW=>h3 W ⟨zy hb.size hW.1,fun k k1 k2 k3=>(hW.2 k k1 (zF k2 hb.size) k3).trans (hb.block k k2 (by omega))⟩⟩;rcases h2 with hn|⟨g,cap,cur,hv,hg,hc,rest⟩
 ·exact .inl hn
 ·refine .inr ⟨g,cap,cur,hv,hg,?_,rest⟩;have xD:g<w.heap.size:=(zL.1 hc).1;rw[hb.block g xD (by omega)];exact hc
theorem qm.nodes{base:Nat}{e:TypeId}{size:Nat}{v:Value}{acc:Fo}{ws:List Value}{w:World}(h:qm base e size v acc ws w):xY base w.heap.size w ws acc :=
 h.2 w ⟨z8 _,fun _ _ _ _=>rfl⟩
theorem qm.row{base:Nat}{e:TypeId}{size:Nat}{v:Value}{acc:Fo}{ws:List Value}{w:World}(h:qm base e size v acc ws w):∃ a c,v = .slice a acc.len c/\U5 base w.heap.size w a ws:=by
 obtain⟨⟨h1,h2⟩,_⟩:=h;rcases h2 with⟨hv,hn⟩|⟨g,cap,cur,hv,hg,hc,h3,h4,h5,h6⟩
 ·refine⟨none,0,by rw[hv,hn],fun j hj=>?_⟩;rw[hn] at h1;omega
 ·refine⟨some ⟨g,0,none⟩,cap,hv,fun j hj=>⟨g,0,rfl,hg,(zL.1 hc).1,?_⟩⟩;have hle:acc.len*size<=cap*size:=zP _ h3;have H8:j<cur.size:=by omega
  rw[Nat.zero_add];have e1:ws[j]? = cur[j]? := by
   rw[←h6,List.getElem?_take,if_pos (by omega),Array.getElem?_toList]
  have e2:ws[j]? = some ws[j]:=zZ hj;show w.cell? ⟨g,j,none⟩=some ws[j];rw[←e2,e1];unfold World.cell?;rw[hc];rfl
theorem Ur{P:Program}(w:World)(base:Nat)(t ty e:TypeId)(i:TypeInfo)(z:Value)(ht:P.underlying t=some (.slice e))(hi:P.info? e=some i)(hz:i.zero=some z)
  (hzs:z.cells.size=i.size) (qP:0<i.size)
  (v:Value) (n:Nat) (xs:List Value) (xV:w.ownsRow base e i.size v n xs)
  (a:Addr) (m c:Nat) (news:List Value) (hl:news.length=m*i.size) (dP:∀ j u,news[j]? = some u->w.cell? (a.add j)=some u) (h1:∀ u∈news,u.oneCell'=true)
  (nM:n+m<=maxLen) (XF:(n+m)*i.bytes<=140737488355328) (bH:base<=w.heap.size) :
  ∃ v' w',(Builtin.append_ #[t,t] ty #[v,.slice (some a) m c]).run P w = .ok v' w'/\w'.ownsRow base e i.size v' (n+m) (xs++news)/\w.grownBy w' v.ownBlock /\
   (v'.ownBlock=v.ownBlock\/∀ k,v'.ownBlock=some k->w.heap.size<=k):=by
 obtain⟨v',w',hr,h2,h3,h4⟩:=run_append_own (P:=P) w base t ty e i z i.size i.bytes ht hi hz rfl rfl hzs qP v n xs xV a m c news hl dP h1 nM XF bH;refine⟨v',w',hr,h2,h3,?_⟩;have fQ:=xV;rcases xV.2 with⟨rfl,rfl⟩|⟨g,cap,cur,rfl,DL,hg,oZ,jy,dB,Yh⟩
 ·have hx:xs=[]:=zu (by simpa using xV.1);subst hx;obtain⟨v2,w2,b6,k2,_,_⟩:=run_append_own (P:=P) w w.heap.size t ty e i z i.size i.bytes ht hi hz rfl rfl hzs qP (.slice none 0 0) 0 [] (zR w w.heap.size e i.size) a m c news hl dP h1 nM XF (z8 _);rw[hr] at b6
  cases b6;exact .inr fun k hk=>(k2.lt k hk).1
 ·by_cases GJ:n+m<=cap
  ·have CJ:n*i.size+news.length<=cur.size:=by rw[hl,dB,←Nat.add_mul];exact zP _ GJ
   have b6:=run_append_room (P:=P) w t ty e i ht hi g n cap cur hg a m c news hl dP h1 GJ CJ;rw[hr] at b6
   cases b6;exact .inl rfl
  ·have holds:∀ j u,xs[j]? = some u->w.cell? ((⟨g,0,none⟩:Addr).add j)=some u:=xV.cells (g:=g) rfl;have b6:=run_append_grow (P:=P) w t ty e i z ht hi hz ⟨g,0,none⟩ n cap xs xV.1 holds a m c news hl dP (by omega) (by simp only[maxLen] at nM;omega) (growslice_fits (by simp only[maxLen] at nM;omega) XF);rw[hr] at b6
   cases b6;refine .inr fun k hk=>?_
   simp[Value.ownBlock] at hk;omega
theorem qm.grow{base lo m:Nat}{e:TypeId}{size:Nat}{v v':Value}{acc f:Fo}{ws news:List Value}{w w':World}(h:qm base e size v acc ws w)
  (hn:xY lo w.heap.size w news f) (QT:base<=lo) (hv:∀ k,v.ownBlock=some k->k<lo) (hm:f.len=m)
  (h2:w'.ownsRow base e size v' (acc.len+m) (ws++news)) (h3:w.grownBy w' v.ownBlock) (h4:v'.ownBlock=v.ownBlock\/∀ k,v'.ownBlock=some k->w.heap.size<=k) :
  qm base e size v' (acc.app f) (ws++news) w':=by
 refine⟨by rw[Fo.ub,hm];exact h2,fun W hW=>?_⟩;have key:∀ k,base<=k->k<w.heap.size->some k≠v.ownBlock->W.heap[k]? = w.heap[k]? := fun k k1 k2 k3=>by
  have xc:some k≠v'.ownBlock:=by
   rcases h4 with q|q
   ·rw[q];exact k3
   ·intro e;have:=q k e.symm;omega
  exact(hW.2 k k1 (zF k2 h3.size) xc).trans (h3.block k k2 k3)
 have qP:w.heap.size<=W.heap.size:=zy h3.size hW.1;exact xY.app (xY.keep (lo:=lo) (hi:=w.heap.size) ⟨qP,fun k k1 k2=>key k (by omega) k2 (fun e=>by have:=hv k e.symm;omega)⟩ QT qP f news hn) acc ws (h.2 W ⟨qP,key⟩)
theorem Zn{P:Program}{t e:TypeId}{z:Value}{size bytes:Nat}(E:Zq P t e z size bytes){w:World}{ops:Array Oper}{rest:List Oper}{o:Oper}{a:Act}{Q:Exit->Act->World->Prop}
  (JY:o.guard=none) (s x:Operand) (ho:o.op = .call { callee := .builtin .append,args:=#[s,x],argTypes:=#[t,t] })
  (base lo:Nat) (v:Value) (acc f:Fo) (ws:List Value) (hs:a.eval s=v) (hg:qm base e size v acc ws w)
  (ad:Addr) (m c:Nat) (news:List Value) (hx:a.eval x = .slice (some ad) m c) (hl:news.length=m*size) (dP:∀ j u,news[j]? = some u->w.cell? (ad.add j)=some u) (h1:∀ u∈news,u.oneCell'=true)
  (hn:xY lo w.heap.size w news f) (QT:base<=lo) (hv:∀ k,v.ownBlock=some k->k<lo) (hm:f.len=m)
  (H6:acc.len+m<=2147483648) (bH:base<=w.heap.size)
  (h:∀ v' w',qm base e size v' (acc.app f) (ws++news) w'->w.grownBy w' v.ownBlock->wpList P ops Q rest (a.put o.dst v') w'):wpList P ops Q (o::rest) a w:=by
 obtain⟨i,hi,hz,rfl,rfl⟩:=E.info;have QS:=E.small;obtain⟨v',w',hr,h2,h3,h4⟩:=Ur (P:=P) w base t o.type e i z E.under hi hz E.VT E.pos v acc.len ws hg.1 ad m c news hl dP h1 (by unfold maxLen;omega) (zy (Nat.mul_le_mul H6 QS) (by decide)) bH;refine wpList_plain JY fun K hK=>?_
 unfold Oper.wp execOp;simp only[ho,resolve,invoke,builtin,Sem.run_bind,Sem.run_pure,zO,zW,List.map_cons,List.map_nil,hs,hx,hr];exact hK _ _ (h v' w' (hg.grow hn QT hv hm h2 h3 h4) h3)
theorem Kr:Zq prog 179 183 (.agg #[.string ⟨#[]⟩,.int .i64 0,.slice none 0 0]) 3 48 :=
 ⟨underlying179,info_parts (by kernel_rfl),rfl,by decide,by decide⟩
theorem bU:Zq prog 107 112 .nilIface 1 16 :=
 ⟨underlying107,info_parts (by kernel_rfl),rfl,by decide,by decide⟩
theorem Pm{P:Program}{t e:TypeId}{z:Value}{size bytes:Nat}(E:Zq P t e z size bytes){w:World}{o:Oper}{a:Act}{K:Act->World->Prop}{Q:Exit->Act->World->Prop}
  (s x:Operand) (ho:o.op = .call { callee := .builtin .append,args:=#[s,x],argTypes:=#[t,t] })
  (base lo:Nat) (v:Value) (acc f:Fo) (ws:List Value) (hs:a.eval s=v) (hg:qm base e size v acc ws w)
  (ad:Addr) (m c:Nat) (news:List Value) (hx:a.eval x = .slice (some ad) m c) (hl:news.length=m*size) (dP:∀ j u,news[j]? = some u->w.cell? (ad.add j)=some u) (h1:∀ u∈news,u.oneCell'=true)
  (hn:xY lo w.heap.size w news f) (QT:base<=lo) (hv:∀ k,v.ownBlock=some k->k<lo) (hm:f.len=m)
  (H6:acc.len+m<=2147483648) (bH:base<=w.heap.size)
  (h:∀ v' w',qm base e size v' (acc.app f) (ws++news) w'->w.grownBy w' v.ownBlock->K (a.put o.dst v') w'):Oper.wp P o a w K Q:=by
 obtain⟨i,hi,hz,rfl,rfl⟩:=E.info;have QS:=E.small;obtain⟨v',w',hr,h2,h3,h4⟩:=Ur (P:=P) w base t o.type e i z E.under hi hz E.VT E.pos v acc.len ws hg.1 ad m c news hl dP h1 (by unfold maxLen;omega) (zy (Nat.mul_le_mul H6 QS) (by decide)) bH;unfold Oper.wp execOp;simp only[ho,resolve,invoke,builtin,Sem.run_bind,Sem.run_pure,zO,zW,List.map_cons,List.map_nil,hs,hx,hr];exact h v' w' (hg.grow hn QT hv hm h2 h3 h4) h3
theorem qm.lt{base:Nat}{e:TypeId}{size:Nat}{v:Value}{acc:Fo}{ws:List Value}{w:World}(h:qm base e size v acc ws w):∀ k,v.ownBlock=some k->base<=k/\k<w.heap.size:=h.1.lt
theorem Fo.bS:∀ f g:Fo,f.uv=true->g.uv=true->(f.app g).uv=true
 | .nil,g,_,h=>h
 | .uf k a m r,g,h,h2=>Fo.bS r g h h2
 | .text t r,g,h,_=>by cases h
 | .hash r,g,h,_=>by cases h
 | .put n a r,g,h,_=>by cases h
 | .num n a r,g,h,_=>by cases h
 | .br n a f o c b r,g,h,_=>by cases h
theorem Fo.uT:∀ f g:Fo,f.vG=true->g.vG=true->(f.app g).vG=true
 | .nil,g,_,h=>h
 | .uf k a m r,g,h,h2=>by cases h
 | .text t r,g,h,h2=>Fo.uT r g h h2
 | .hash r,g,h,h2=>Fo.uT r g h h2
 | .put n a r,g,h,h2=>Fo.uT r g h h2
 | .num n a r,g,h,h2=>Fo.uT r g h h2
 | .br n a f o c b r,g,h,h2=>Fo.uT r g h h2
theorem xN(rs:List Int)(i:Nat):i<=xr rs i:=Nat.le_add_right _ _
def GG(m:kC):Prop:=∀ num i f j,m num i = .ok (f,j)->i<=j
theorem xf{α β:Type}{x:qK α}{k:α->Nat->qK β}{b:β}{j:Nat}(h:x.then k = .ok (b,j)):∃ a q,x = .ok (a,q)/\k a q = .ok (b,j):=by
 cases x with
 | error e=>cases h
 | ok a=>exact⟨a.1,a.2,rfl,h⟩
theorem xO{rs:List Int}{r:Int}{i j:Nat}{u:Unit}(h:vN rs r i = .ok (u,j)):xU rs i=r/\j=i+1:=by
 unfold vN at h;split at h
 ·cases h;exact⟨by assumption,rfl⟩
 ·cases h
theorem gq{rs:List Int}{i j:Nat}{x:Wd}(h:gu rs i = .ok (x,j)):i<j:=by
 unfold gu at h;split at h
 ·cases h
 ·cases h;omega
theorem YK{rs:List Int}{i j:Nat}{x:Wd}(h:kZ rs i = .ok (x,j)):i<j:=by
 unfold kZ at h;split at h
 ·cases h
 ·cases h;omega
theorem AE{rs:List Int}{num:Bool}{i j:Nat}{x:Wd}(h:K9 rs num i = .ok (x,j)):i<j:=by
 unfold K9 at h;split at h
 ·obtain⟨a,q,h1,h2⟩:=xf h
  cases h2;have:=YK h1;omega
 ·obtain⟨a,q,h1,h2⟩:=xf h;split at h2
  ·cases h2
  ·cases h2;exact gq h1
theorem CB{rs:List Int}{msg:Option kC}{num:Bool}{i j:Nat}{f:Fo}(hm:∀ m,msg=some m->GG m)(h:X2 rs msg num i = .ok (f,j)):i<j:=by
 unfold X2 at h;obtain⟨k,a,h1,h2⟩:=xf h;obtain⟨u,b,h3,h4⟩:=xf h2;have e1:=AE h1;have e2:=(xO h3).2;have e3:=xN rs a
 cases msg with
 | none=>cases h4
 | some m =>
  obtain⟨g,c,h5,h6⟩:=xf (show(m num b).then _=_ from h4);obtain⟨u2,z,h7,h8⟩:=xf h6;have e4:=hm m rfl _ _ _ _ h5;have e5:=(xO h7).2;have e6:=xN rs z
  cases h8;omega
theorem Ij{rs:List Int}{msg:Option kC}{num:Bool}(hm:∀ m,msg=some m->GG m):∀ (n:Nat) (acc:Fo) (i j:Nat) (f:Fo),jN rs msg num n acc i = .ok (f,j)->i<=j
 | 0,acc,i,j,f,h=>by cases h
 | n+1,acc,i,j,f,h=>by
  rw[jN] at h;split at h
  ·cases h;exact z8 _
  ·obtain⟨g,q,h1,h2⟩:=xf h;have:=CB hm h1;have:=Ij hm n _ _ _ _ h2;omega
theorem CC{rs:List Int}{form i j:Nat}{o:Wd}(h:JU rs form i = .ok (o,j)):i<=j:=by
 unfold JU at h;split at h
 ·obtain⟨a,q,h1,h2⟩:=xf h
  cases h2;have:=YK h1;have:=xN rs (i+7);have:=xN rs q;omega
 ·cases h;exact z8 _
theorem Pn{rs:List Int}{msg:Option kC}{i j:Nat}{f:Fo}(hm:∀ m,msg=some m->GG m)(h:YX rs msg i = .ok (f,j)):i<j:=by
 unfold YX at h;obtain⟨u,a,h1,h2⟩:=xf h;obtain⟨nm,b,h3,h4⟩:=xf h2;have e1:=(xO h1).2;have e2:=xN rs a;have e3:=gq h3;have e4:=xN rs b;clear h h1 h2 h3;split at h4
 ·obtain⟨u,z,h5,h6⟩:=xf h4;have:=(xO h5).2
  cases h6;omega
 ·obtain⟨wd,c,h5,h6⟩:=xf h4;have e5:=gq h5;have e6:=xN rs (xr rs b+1);have e7:=xN rs c;clear h4 h5;split at h6
  ·obtain⟨u,z,h7,h8⟩:=xf h6;have:=(xO h7).2
   cases h8;omega
  ·split at h6
   ·cases h6
   ·obtain⟨u,d,h7,h8⟩:=xf h6;obtain⟨o,l,h9,dw⟩:=xf h8;obtain⟨bs,q,Jc,Gj⟩:=xf dw;obtain⟨u,z,oJ,oG⟩:=xf Gj;have:=(xO h7).2;have:=xN rs d;have:=CC h9;have:=Ij hm _ _ _ _ _ Jc;have:=(xO oJ).2
    cases oG;omega
theorem Us(rs:List Int)(num:Bool)(i:Nat):i<(j5 rs num i).2:=by
 unfold j5;split
 ·exact zc _
 split
 ·exact Nat.lt_add_of_pos_right (by decide)
 split
 ·exact zc _
 ·show i<i+1+_;omega
theorem XD{rs:List Int}{msg:Option kC}{num:Bool}(hm:∀ m,msg=some m->GG m):∀ (n:Nat) (acc:Fo) (i j:Nat) (f:Fo),qC rs msg num n acc i = .ok (f,j)->i<=j
 | 0,acc,i,j,f,h=>by cases h
 | n+1,acc,i,j,f,h=>by
  rw[qC] at h;split at h
  ·cases h;exact z8 _
  split at h
  ·obtain⟨g,q,h1,h2⟩:=xf h;have:=Pn hm h1;have:=XD hm n _ _ _ _ h2;omega
  split at h
  ·have:=XD hm n _ _ _ _ h;omega
  ·have:=XD hm n _ _ _ _ h;have:=Us rs num i;omega
theorem CE(rs:List Int):∀ n,GG (YV rs n)
 | 0,num,i,f,j,h=>by
  rw[YV] at h;exact XD (fun m e=>by cases e) _ _ _ _ _ h
 | n+1,num,i,f,j,h=>by
  rw[YV] at h;exact XD (fun m e=>by cases e;exact CE rs n) _ _ _ _ _ h
end Go.Proofs.YthpldolmpinnhaaGreatDoor
