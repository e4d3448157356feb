import Derived.Test.YthpldolmpinnhaaGreatDoorJG9
import Derived.OwnWalk
import Derived.Maps.OwnSet
import Derived.Maps.Views
import Derived.Test.YthpldolmpinnhaaGreatDoorShelf
set_option maxHeartbeats 64000000
open Go.Lib renaming hid→z7
open Nat renaming le_refl→z8,le_trans→zy,lt_of_lt_of_le→zF,mul_le_mul_right→zP,lt_succ_self→zc
open Go.WideMaps renaming keyOf_string_mk→zx
open Go.World renaming block_lt_of_cell?→zv,setCell→zU,frozen?_setCell→zM,ownsRow_nil→zR
open List renaming eq_nil_of_length_eq_zero→zu,getD_eq_getElem?_getD→zg,getElem?_eq_getElem→zZ,flatMap_cons→zE,drop_of_length_le→zN,map_toArray→zW,length_drop→za
open Classical renaming byContradiction→zk
open Go.RowKit.Below renaming refl→zj,heap_setCell→zJ
open Go.Maps renaming string_keyed→zf,atKey_put_other→zV,atKey_put_same→zQ,has_put_other→zG,has_put_same→zD
open Bool renaming and_eq_true→zY
open Go.Value renaming int→zX
open Go.WideAt renaming IsKeyLit→zH
open Go.Result renaming andThen→zI,andThen_ok→zO
open Array renaming getElem?_eq_some_iff→zL
open Go.DataW renaming map→zS
open Go.Proofs.Tryz
namespace Go.Proofs.YthpldolmpinnhaaGreatDoor
open Go Go.RowKit
set_option maxRecDepth 10000
def Vm:List (List UInt8):=[[122,101,114,111],[111,110,101],[116,119,111],[102,101,119],[109,97,110,121],[111,116,104,101,114]]
theorem De(x:Wd):Lib.containsS (ZK.take 6) ⟨x.toArray⟩=decide (x∈Vm):=by
 have e:ZK.take 6=Vm.map (fun l=>(⟨l.toArray⟩:ByteArray)):=rfl;rw[e,Bool.eq_iff_iff,decide_eq_true_eq,Lib.containsS_iff,List.mem_map];constructor
 .rintro⟨y,hy,h2⟩;have h3:=congrArg (fun b:ByteArray=>b.data.toList) h2;simp at h3;rw[<-h3];exact hy
 .intro h;exact⟨x,h,rfl⟩
theorem CL(x:Wd)(w:World)(h:uS w):Calls prog 239 #[xg x] w fun e w'=>e = .returned (.bool (decide (x∈Vm)))/\w=w':=by
 have HC:=z7 (Tryz.slices_Contains_string 0 0 6 6 ZK ⟨x.toArray⟩ w (by decide) (by decide) (fun j hj=>by rw[Nat.zero_add];exact h j hj));rw[De] at HC;go_enter func239,ntmps239;go_wp2_with fail;refine HC.out.mono ?_;rintro e w' ⟨rfl,rfl⟩;go_wp2;go_ret;exact⟨rfl,rfl⟩
def vX:List Int->List Int×Nat
 | []=>([],0)
 | c::t=>if c=39 then
   match t with
   | []=>([],1)
   | d::u=>if d=39 then (39::(vX u).1,(vX u).2+2) else ([],1)
  else (c::(vX t).1,(vX t).2+1)
def jq(rs:List Int)(num:Bool)(i:Nat):Wd×Nat :=
 if xU rs i≠39 then (enc (xU rs i),i+1)
 else if xU rs (i+1)=39 then (enc 39,i+2)
 else if bT (xU rs (i+1)) num=false then (enc 39,i+1)
 else ((vX (rs.drop (i+1))).1.flatMap enc,i+1+(vX (rs.drop (i+1))).2)
theorem GC:ZS prog 147 21 (.int .i32 0) 1 4 :=
 ⟨underlying147,info_parts (by kernel_rfl),rfl,by decide,by decide⟩
theorem SJ{rs:List Int}{j:Nat}(h:rs.length<=j):vX (rs.drop j)=([],0):=by rw[zN h,vX]
theorem bn{rs:List Int}{j:Nat}(h:j<rs.length):rs.drop j=xU rs j::rs.drop (j+1):=by
 rw[List.drop_eq_getElem_cons h];unfold xU;rw[zg,zZ h];rfl
theorem Nb{rs:List Int}{j:Nat}(h:j<rs.length)(hq:xU rs j≠39):vX (rs.drop j)=(xU rs j::(vX (rs.drop (j+1))).1,(vX (rs.drop (j+1))).2+1):=by
 rw[bn h,vX.eq_def];dsimp only;rw[if_neg hq]
theorem SG{rs:List Int}{j:Nat}(h:j<rs.length)(hq:xU rs j=39)(h2:xU rs (j+1)=39):vX (rs.drop j)=(39::(vX (rs.drop (j+2))).1,(vX (rs.drop (j+2))).2+2):=by
 have xB:j+1<rs.length:=by
  apply zk;intro hc;rw[kM (by omega)] at h2
  cases h2
 rw[bn h,bn xB,vX.eq_def];dsimp only;rw[if_pos hq,if_pos h2]
theorem NY{rs:List Int}{j:Nat}(h:j<rs.length)(hq:xU rs j=39)(h2:xU rs (j+1)≠39):vX (rs.drop j)=([],1):=by
 rw[bn h,vX.eq_def];dsimp only;rw[if_pos hq];by_cases xB:j+1<rs.length
 .rw[bn xB];dsimp only;rw[if_neg h2]
 .rw[zN (by omega)]
theorem Ut{w w':World}{p base size n:Nat}{e:TypeId}{v:Value}{xs:List Value}(h:w.ownsRow base e size v n xs)(hb:xR p w w')(hp:p<base):w'.ownsRow base e size v n xs :=
 h.kept (row:=some p) ⟨hb.os,hb.tape,hb.output,hb.size,fun i hi hn=>hb.block i hi (fun e=>hn (by rw[e]))⟩ (by
  cases hv:v.ownBlock with
  | none=>exact .inl rfl
  | some g=>exact .inr (fun e=>by have:=(h.lt g hv).1;cases e;omega))
theorem SF:∀ (n:Nat) (l:List Int),l.length<=n->(vX l).2<=l.length/\(vX l).1.length<=l.length:=by
 intro n;induction n with
 | zero =>
  intro l h;have:l=[]:=zu (by omega);subst this;simp[vX]
 | succ n ih =>
  intro l h
  cases l with
  | nil=>simp[vX]
  | cons c t =>
   rw[vX.eq_def];dsimp only;by_cases hc:c=39
   .rw[if_pos hc]
    cases t with
    | nil=>simp
    | cons d u =>
     dsimp only;by_cases hd:d=39
     .rw[if_pos hd];have:=ih u (by simp at h;omega);simp;omega
     .rw[if_neg hd];simp
   .rw[if_neg hc];have:=ih t (by simp at h;omega);simp;omega
theorem Ig{rs:List Int}{num:Bool}{i:Nat}(h:i<rs.length):i<(jq rs num i).2/\(jq rs num i).2<=rs.length:=by
 unfold jq;split
 .exact⟨by show i<i+1;omega,by show i+1<=_;omega⟩
 split
 .next h2 =>
  have:i+1<rs.length:=by
   apply zk;intro hc;rw[kM (by omega)] at h2
   cases h2
  exact⟨by show i<i+2;omega,by show i+2<=_;omega⟩
 split
 .exact⟨by show i<i+1;omega,by show i+1<=_;omega⟩
 .have:=(SF _ (rs.drop (i+1)) (z8 _)).1;rw[za] at this;exact⟨by show i<i+1+_;omega,by show i+1+_<=_;omega⟩
theorem GH{w:World}{base:Nat}{v:Value}{acc:List Int}(h:w.ownsRow base 21 1 v acc.length (acc.map (zX .i32))) :
  (convert 147 262 v).run prog w = .ok (xg (acc.flatMap enc)) w:=by
 rcases h.2 with⟨hv,hn⟩|⟨g,cap,cur,hv,_⟩
 .have:acc=[]:=zu hn;subst this;rw[hv,run_convert_runes_nil w _ _ 21 _ _ underlying147 underlying21 underlying262];rfl
 .subst hv;have hc:=run_convert_runes (P:=prog) w 147 262 21 ⟨g,0,none⟩ acc.length cap acc (z8 _) underlying147 underlying21 underlying262 (fun j hj=>by
   rw[uR,h.cellAt j (by omega)];simp[zg,hj])
  rw[List.take_length,XB] at hc;exact hc
theorem AN(p:Nat)(rs:List Int)(i d:Nat)(num:Bool)(w:World)(h:vG p rs i d w)(hi:i<rs.length) :
  Calls prog 158 #[.pointer (some ⟨p,0,none⟩),.bool num] w (Pm p rs d (xg (jq rs num i).1) (jq rs num i).2 w):=by
 have HH:=z7 h;have HN:=z7 (ja p rs i d w h);have hL:=h.len;have Kj:=h.lt;obtain⟨T,hT⟩:=xX (jq rs num i);rw[hT];have HT:=z7 hT;obtain⟨T1,T2⟩:=T;dsimp only;obtain⟨q,hq⟩:=xX (xU rs i);rw[hq] at HN;have HQ:=z7 hq;clear h hT hq;go_enter func158,ntmps158;go_wp2_with fail;refine HN.out.mono ?_;rintro e w1 ⟨rfl,xG⟩;have uH:=HH.out.below xG;have h5:=uH.at_;have h7:=uH.z1;have BU:=uH.move (i+1) (by omega);have HM:=z7 (show vG p rs (i+1) d (w1.setCell ⟨p,1,none⟩ (.int .i64 ((i:Int)+1))) by rw[show(i:Int)+1=((i+1:Nat):Int) by omega];exact BU);have fY:xR p w (w1.setCell ⟨p,1,none⟩ (.int .i64 ((i:Int)+1))):=(xR.of xG).Up 1 _;obtain⟨W,hW⟩:=xX (w1.setCell ⟨p,1,none⟩ (.int .i64 ((i:Int)+1)));rw[hW] at HM fY;have HW:=z7 hW;clear uH BU xG HN hW;by_cases AO:q=39
 .have kh:(q !=39)=false:=by rw[AO];rfl
  have oK:=HT.out;unfold jq at oK;rw[if_neg (by rw[HQ.out,AO];simp)] at oK;have ZY:=z7 oK;have X7:=XD p rs (i+1) d 39 W HM.out (by decide);clear oK HQ;subst AO;by_cases If:xU rs (i+1)=39
  .rw[show(xU rs (i+1)==39)=true by simpa using If,if_pos If] at X7;have HTK:=z7 X7;have HE:=z7 (show(enc 39,i+2)=(T1,T2) by have h:=ZY.out;rw[if_pos If] at h;exact h);clear X7 If;go_wp2_with fail;rw[HW.out];refine HTK.out.mono ?_;rintro e w2 ⟨rfl,qf,xJ⟩;have bk:=z7 qf;clear qf;go_wp2;go_ret;have he:=HE.out
   cases he;exact⟨rfl,bk.out,fY.trans xJ⟩
  .rw[show(xU rs (i+1)==39)=false by simpa using If,if_neg If] at X7;have HTK:=z7 X7;have A2:=ZY.out;rw[if_neg If] at A2;have NV:=z7 A2;obtain⟨sp,hsp⟩:∃ b,bT (xU rs (i+1)) num=b:=⟨_,rfl⟩;have tP:=z7 hsp;clear X7 A2 hsp ZY;go_wp2_with fail;rw[HW.out];refine HTK.out.mono ?_;rintro e w2 ⟨rfl,qf,xJ⟩;have bk:=z7 qf;have uT:=fY.trans xJ;clear qf xJ HTK HW HM fY;go_wp2_with fail;refine(ja p rs (i+1) d w2 bk.out).mono ?_;rintro e w3 ⟨rfl,ub⟩;have Uh:=z7 (bk.out.below ub);have dA:=uT.below ub;clear ub uT bk;go_wp2_with fail;refine(Iy (xU rs (i+1)) num w3).mono ?_;rintro e w' ⟨rfl,rfl⟩;rw[tP.out]
   cases sp
   .have HE:=z7 (show(enc 39,i+1)=(T1,T2) by have h:=NV.out;rw[if_pos tP.out] at h;exact h);go_wp2;go_ret;have he:=HE.out
    cases he;exact⟨rfl,Uh.out,dA⟩
   .have HE:=z7 (show((vX (rs.drop (i+1))).1.flatMap enc,i+1+(vX (rs.drop (i+1))).2)=(T1,T2) by have h:=NV.out;rw[if_neg (by rw[tP.out];simp)] at h;exact h);clear NV tP HT If;go_wp2_with fail;obtain⟨wq,ZJ⟩:∃ x,x=w3:=⟨_,rfl⟩;obtain⟨E1,hE1⟩:∃ x,(vX (rs.drop (i+1))).1=x:=⟨_,rfl⟩;obtain⟨E2,hE2⟩:∃ x,i+1+(vX (rs.drop (i+1))).2=x:=⟨_,rfl⟩;have BJ:=z7 hE1;have HE2:=z7 hE2;clear hE1 hE2;go_loopw [5,6] (fun rv tv wr=>∃ (j:Nat) (r:Int) (acc:List Int),j<=rs.length/\rv = .int .i32 r/\vG p rs j d wr/\xR p w wr/\wr.ownsRow w.heap.size 21 1 tv acc.length (acc.map (zX .i32))/\acc.length<=j/\acc++(vX (rs.drop j)).1=E1/\j+(vX (rs.drop j)).2=E2) (fun _ _ wr=>rs.length - Nu p wr)
    case atStart=>exact⟨i+1,39,[],by omega,rfl,Uh.out,dA,zR _ _ _ _,by simp,BJ.out,HE2.out⟩
    case round =>
     obtain⟨j,r,acc,hj,rfl,hs,qB,xV,uN,tR,tS⟩:=hrel;have HS:=z7 hs;have HO:=z7 xV;have tW:=z7 tR;have MT:=z7 tS;obtain⟨ta,tc,rfl⟩:=xf xV;clear hs xV tR tS;go_wp2_with fail;refine(ja p rs j d wr HS.out).mono ?_;rintro e w4 ⟨rfl,ur⟩;have Ks:=HS.out.below ur;have X8:=z7 Ks;have JM:=z7 (Ut HO.out (xR.of (p:=p) ur) Kj);have XC:=qB.below ur;clear Ks ur qB;by_cases Y1:j<rs.length
     .obtain⟨c,hc⟩:=xX (xU rs j);rw[hc];have U5:0<=c:=by
       rw[<-hc];unfold xU;rw[zg,zZ Y1];exact X8.out.pos _ (List.getElem_mem Y1)
      have qK:c≠-1:=by omega
      have HC:=z7 hc;clear hc;go_wp2_with fail;refine(ja p rs j d w4 X8.out).mono ?_;rintro e w5 ⟨rfl,jW⟩;rw[HC.out];have Hv:=X8.out.below jW;have GI:=z7 (Ut JM.out (xR.of (p:=p) jW) Kj);have Uw:=XC.below jW;have g5:=Hv.at_;have g7:=Hv.z1;have BU:=Hv.move (j+1) (by omega);have hM:vG p rs (j+1) d (w5.setCell ⟨p,1,none⟩ (.int .i64 ((j:Int)+1))):=by rw[show(j:Int)+1=((j+1:Nat):Int) by omega];exact BU
      have hO6:=Ut GI.out (xR.set p w5 1 (.int .i64 ((j:Int)+1))) Kj;have NU:xR p w (w5.setCell ⟨p,1,none⟩ (.int .i64 ((j:Int)+1))):=Uw.Up 1 _;obtain⟨W6,GL⟩:∃ W,w5.setCell ⟨p,1,none⟩ (.int .i64 ((j:Int)+1))=W:=⟨_,rfl⟩;rw[GL] at hM hO6 NU;have HM6:=z7 hM;have th:=z7 hO6;have HW6:=z7 GL;clear Hv BU hM hO6 jW Uw GL;by_cases NQ:c=39
      .have XE:(c==39)=true:=by rw[NQ];rfl
       have Hx:=XD p rs (j+1) d 39 W6 HM6.out (by decide);by_cases dN:xU rs (j+1)=39
       .rw[show(xU rs (j+1)==39)=true by simpa using dN,if_pos dN] at Hx;have AP:=z7 Hx;have HQQ:=z7 (SG Y1 (HC.out.trans NQ) dN);have Iu:j+1<rs.length:=by
         apply zk;intro Ps;rw[kM (by omega)] at dN
         cases dN
        subst NQ;clear Hx dN;go_wp2_with fail;rw[HW6.out];refine AP.out.mono ?_;rintro e w7 ⟨rfl,hs7,jP⟩;have HS7:=z7 hs7;have wz:=z7 (Ut th.out jP Kj);have SD:=NU.trans jP;have xxd:w.heap.size<=w7.heap.size:=SD.size;clear hs7 jP AP;go_wp2_with (first|(at_builtin;refine qX GC rfl _ _ rfl w.heap.size _ acc.length (acc.map (zX .i32)) rfl (wz.out.alloc _) ⟨w7.heap.size,0,none⟩ 1 1 [.int .i32 39] rfl rfl ?a1 ?a2 ?a3 ?a4 ?_)|fail)
        case a1=>exact cells_one (xu _ _ _ _ _)
        case a2 =>
         intro u hu;simp at hu;subst hu;rfl
        case a3=>have:=HS7.out.len;omega
        case a4=>simp;omega
        intro v8 w8 AR hg8;have Ib:∀ q,(Value.slice ta acc.length tc).ownBlock=some q->w.heap.size<=q:=fun q hq=>(wz.out.lt q hq).1
        have zxx:xR p w w8:=(SD.below ((zj _ _).alloc (z8 _) _)).grown hg8 Ib;have hS8:=(HS7.out.below ((zj _ _).alloc (z8 _) _)).grown hg8 (fun q hq=>by have:=Ib q hq;omega);have HS8:=z7 hS8;have HO8:=z7 (show w8.ownsRow w.heap.size 21 1 v8 (acc++[39]).length ((acc++[39]).map (zX .i32)) by simpa using AR);clear AR hg8 hS8;go_wp2;go_roundw
        case rel=>exact⟨j+2,39,acc++[39],by omega,rfl,HS8.out,zxx,HO8.out,by simp;omega,by rw[<-tW.out,HQQ.out];simp,by rw[<-MT.out,HQQ.out];omega⟩
        case measure=>rw[vF HS8.out,vF HS.out];omega
       .rw[show(xU rs (j+1)==39)=false by simpa using dN,if_neg dN] at Hx;have AP:=z7 Hx;have hqq:=NY Y1 (HC.out.trans NQ) dN;have Ve:=z7 (show acc=E1 by rw[<-tW.out,hqq];simp);have fL:=z7 (show j+1=E2 by rw[<-MT.out,hqq]);subst NQ;clear Hx dN hqq;go_wp2_with fail;rw[HW6.out];refine AP.out.mono ?_;rintro e w7 ⟨rfl,hs7,jP⟩;have HS7:=z7 hs7;have wz:=z7 (Ut th.out jP Kj);have SD:=NU.trans jP;have hcv:=GH wz.out;clear hs7 jP AP;go_wp2;go_ret;have he:=HE.out;rw[BJ.out,HE2.out] at he
        cases he;exact⟨by rw[Ve.out];rfl,by rw[<-fL.out];exact HS7.out,SD⟩
      .have XE:(c==39)=false:=by simpa using NQ
       have HQQ:=z7 (Nb Y1 (fun e=>NQ (HC.out.symm.trans e)));have yk7:w.heap.size<=W6.heap.size:=NU.size;have yk8:=HW6.out;subst yk8;go_wp2_with (first|(at_builtin;refine qX GC rfl _ _ rfl w.heap.size _ acc.length (acc.map (zX .i32)) rfl (th.out.alloc _) ⟨w5.heap.size,0,none⟩ 1 1 [.int .i32 c] rfl rfl ?a1 ?a2 ?a3 ?a4 ?_)|fail)
       case a1 =>
        have e:(w5.setCell ⟨p,1,none⟩ (.int .i64 ((j:Int)+1))).heap.size=w5.heap.size:=by simp[World.setCell]
        have h:=xu (w5.setCell ⟨p,1,none⟩ (.int .i64 ((j:Int)+1))) #[.int .i32 c] 21 (0,0) 0;rw[e] at h;exact cells_one h
       case a2 =>
        intro u hu;simp at hu;subst hu;rfl
       case a3=>have:=HM6.out.len;omega
       case a4=>exact zy yk7 (by simp)
       intro v8 w8 AR hg8;have Ib:∀ q,(Value.slice ta acc.length tc).ownBlock=some q->w.heap.size<=q:=fun q hq=>(th.out.lt q hq).1
       have zxx:xR p w w8:=(NU.below ((zj _ _).alloc (z8 _) _)).grown hg8 Ib;have hS8:=(HM6.out.below ((zj _ _).alloc (z8 _) _)).grown hg8 (fun q hq=>by have:=Ib q hq;omega);have HS8:=z7 hS8;have HO8:=z7 (show w8.ownsRow w.heap.size 21 1 v8 (acc++[c]).length ((acc++[c]).map (zX .i32)) by simpa using AR);clear AR hg8 hS8;go_wp2;go_roundw
       case rel=>exact⟨j+1,c,acc++[c],by omega,rfl,HS8.out,zxx,HO8.out,by simp;omega,by rw[<-tW.out,HQQ.out,HC.out];simp,by rw[<-MT.out,HQQ.out];omega⟩
       case measure=>rw[vF HS8.out,vF HS.out];omega
     .have HX:=z7 (SJ (rs:=rs) (j:=j) (by omega));have HNE:=z7 (kM (rs:=rs) (i:=j) (by omega));have hcv:=GH JM.out;rw[HNE.out];go_wp2;go_ret;have he:=HE.out;rw[BJ.out,HE2.out] at he;have e1:=tW.out;have e2:=MT.out;rw[HX.out] at e1 e2
      cases he;exact⟨by rw[<-e1];first|(simp;done)|(simp;rfl),by rw[<-e2];exact X8.out,XC⟩
 .have kh:(q !=39)=true:=by simpa using AO
  have oK:=HT.out;unfold jq at oK;rw[if_pos (by rw[HQ.out];exact AO)] at oK;have ZY:=z7 oK;clear oK;go_wp2;go_ret;have h:=ZY.out;rw[HQ.out] at h
  cases h;exact⟨rfl,by rw[HW.out];exact HM.out,by rw[HW.out];exact fY⟩
def SB:Wd:=[115,101,108,101,99,116]
def SC:Wd:=[112,108,117,114,97,108]
def AS:Wd:=[115,101,108,101,99,116,111,114,100,105,110,97,108]
def Q5(m:Wd):Option Nat:=if m=SB then some 0 else if m=SC then some 1 else if m=AS then some 2 else none
def CM(w:World)(b:Nat):Prop :=
 ∃ D:DataW Unit,w.ownsMap prog 9 (plainElem prog 178) b 3 D/\∀ m:Wd,Maps.has D (.string m)=(Q5 m).isSome/\D.atKey (.string m) (.lit (.int .i64 0)) = .lit (.int .i64 (((Q5 m).getD 0:Nat):Int))
theorem CM.look{w:World}{b:Nat}(h:CM w b)(m:Wd)(hm:m.length<=5000000) :
  (Instr.lookup 321 (.map (some b)) (xg m) true).run prog w = .ok (.tuple #[.int .i64 (((Q5 m).getD 0:Nat):Int),.bool (Q5 m).isSome]) w:=by
 obtain⟨D,h1,h3⟩:=h;obtain⟨v,ps,vH,hv⟩:=h1.look_ok (zf underlying9) underlying321 (z := .int .i64 0) (by first|rfl|simp[go_sem]) (plainElem_int underlying178 (by decide))
  (key:=xg m) (zx (s:=⟨m.toArray⟩) underlying9 (by rw[size_mk];unfold maxLen;omega))
 rw[toList_mk] at vH hv;rw[(h3 m).1] at vH;rw[(h3 m).2] at hv;obtain⟨c,rfl,hc,_⟩:=plainElem_int_inv underlying178 hv;simp only[Prod.mk.injEq,DataW.lit.injEq,Lit.int.injEq] at hc;rw[vH,<-hc.1.2]
theorem SE(w:World):Calls prog 201 #[] w fun e w'=>(∃ b,e = .returned (.map (some b))/\CM w' b)/\Below w.heap.size w w':=by
 have GM:=@run_makeMap prog;go_enter func201,ntmps201;go_wp2;obtain⟨w1,wy,ZG,Zw⟩:=(World.ownsMap_made (H:=Unit) w prog 9 (plainElem prog 178)).update (zf underlying9) underlying321 (by unfold maxLen;omega) (zx (s:=⟨#[115,101,108,101,99,116]⟩) underlying9 (by decide)) (plainElem_int underlying178 (q := .i64) (a:=0) (by decide));rw[wy];simp only[zI];clear wy;go_wp2;obtain⟨w2,wx,Jv,je⟩:=(ZG).update (zf underlying9) underlying321 (by unfold maxLen;omega) (zx (s:=⟨#[112,108,117,114,97,108]⟩) underlying9 (by decide)) (plainElem_int underlying178 (q := .i64) (a:=1) (by decide));rw[wx];simp only[zI];clear wx;go_wp2;obtain⟨w3,wu,AT,hg3⟩:=(Jv).update (zf underlying9) underlying321 (by unfold maxLen;omega) (zx (s:=⟨#[115,101,108,101,99,116,111,114,100,105,110,97,108]⟩) underlying9 (by decide)) (plainElem_int underlying178 (q := .i64) (a:=2) (by decide));rw[wu];simp only[zI];clear wu;go_wp2;go_ret;have hb:Below w.heap.size w w3:=((((zj _ _).alloc (z8 _) _).grown Zw (by simp) (fun q hq=>by cases hq;exact z8 _)).grown je (zy (by simp) Zw.size) (fun q hq=>by cases hq;exact z8 _)).grown hg3 (zy (zy (by simp) Zw.size) je.size) (fun q hq=>by cases hq;exact z8 _);refine⟨⟨_,rfl,_,AT,fun m=>?_⟩,hb⟩;have hm:Maps.IsMap (zS []:DataW Unit):=⟨_,rfl⟩;have k1:zH (.string SB):=trivial;have k2:zH (.string SC):=trivial;have k3:zH (.string AS):=trivial;show Maps.has ((((zS []:DataW Unit).put (.string SB) (.lit (.int .i64 0))).put (.string SC) (.lit (.int .i64 1))).put (.string AS) (.lit (.int .i64 2))) (.string m)=_/\((((zS []:DataW Unit).put (.string SB) (.lit (.int .i64 0))).put (.string SC) (.lit (.int .i64 1))).put (.string AS) (.lit (.int .i64 2))).atKey (.string m) (.lit (.int .i64 0))=_;have h1:=hm.put (.string SB) (.lit (.int .i64 0));have h2:=h1.put (.string SC) (.lit (.int .i64 1));have ne:∀ {a b:Wd},a≠b->(Lit.string a) ≠ .string b:=fun h e=>h (by cases e;rfl)
 unfold Q5;by_cases e3:m=AS
 .subst e3;rw[zD h2 k3,zQ h2 k3,if_neg (by decide),if_neg (by decide),if_pos rfl];exact⟨rfl,rfl⟩
 .rw[zG (ne e3),zV (ne e3)];by_cases e2:m=SC
  .subst e2;rw[zD h1 k2,zQ h1 k2,if_neg (by decide),if_pos rfl];exact⟨rfl,rfl⟩
  .rw[zG (ne e2),zV (ne e2)];by_cases e1:m=SB
   .subst e1;rw[zD hm k1,zQ hm k1,if_pos rfl];exact⟨rfl,rfl⟩
   .rw[zG (ne e1),zV (ne e1),if_neg e1,if_neg e2,if_neg e3];exact⟨rfl,rfl⟩
inductive Fo where
 | nil:Fo
 | text (t:Wd) (r:Fo):Fo
 | hash (r:Fo):Fo
 | put (name:Wd) (pl:Nat) (r:Fo):Fo
 | num (name:Wd) (pl:Nat) (r:Fo):Fo
 | br (name:Wd) (pl form:Nat) (off:Wd) (close:Nat) (bs r:Fo):Fo
 | uz (key:Wd) (pl:Nat) (msg r:Fo):Fo
namespace Fo
def len:Fo->Nat
 | nil=>0
 | text _ r=>r.len+1
 | hash r=>r.len+1
 | put _ _ r=>r.len+1
 | num _ _ r=>r.len+1
 | br _ _ _ _ _ _ r=>r.len+1
 | uz _ _ _ r=>r.len+1
def app:Fo->Fo->Fo
 | nil,g=>g
 | text t r,g=>text t (r.app g)
 | hash r,g=>hash (r.app g)
 | put n a r,g=>put n a (r.app g)
 | num n a r,g=>num n a (r.app g)
 | br n a f o c b r,g=>br n a f o c b (r.app g)
 | uz k a m r,g=>uz k a m (r.app g)
theorem uX:∀ f g:Fo,(f.app g).len=f.len+g.len
 | nil,g=>by simp[app,len]
 | text t r,g=>by simp[app,len,uX r g];omega
 | hash r,g=>by simp[app,len,uX r g];omega
 | put n a r,g=>by simp[app,len,uX r g];omega
 | num n a r,g=>by simp[app,len,uX r g];omega
 | br n a f o c b r,g=>by simp[app,len,uX r g];omega
 | uz k a m r,g=>by simp[app,len,uX r g];omega
def xL:Fo->Wd->Fo
 | nil,t=>text t nil
 | text s nil,t=>text (s++t) nil
 | text s r,t=>text s (r.xL t)
 | hash r,t=>hash (r.xL t)
 | put n a r,t=>put n a (r.xL t)
 | num n a r,t=>num n a (r.xL t)
 | br n a f o c b r,t=>br n a f o c b (r.xL t)
 | uz k a m r,t=>uz k a m (r.xL t)
def xD:Fo->Option Wd
 | nil=>none
 | text s nil=>some s
 | text _ r=>r.xD
 | hash r=>r.xD
 | put _ _ r=>r.xD
 | num _ _ r=>r.xD
 | br _ _ _ _ _ _ r=>r.xD
 | uz _ _ _ r=>r.xD
def vD:Fo->Bool
 | nil=>true
 | text _ r=>r.vD
 | hash r=>r.vD
 | put _ _ r=>r.vD
 | num _ _ r=>r.vD
 | br _ _ _ _ _ _ r=>r.vD
 | uz _ _ _ _=>false
end Fo
def xE(o:Wd):Nat:=o.foldl (fun v c=>10*v+(c.toNat - 48)) 0
def U6(lo hi:Nat)(w:World)(a:Option Addr)(vs:List Value):Prop:=∀ j (h:j<vs.length),∃ g o,a=some ⟨g,o,none⟩/\lo<=g/\g<hi/\w.cell? ⟨g,o+j,none⟩=some vs[j]
def xZ(lo hi:Nat)(w:World):List Value->Fo->Prop
 | vs,.nil=>vs=[]
 | vs,.text t r=>∃ vt,vs = .iface 262 (xg t)::vt/\xZ lo hi w vt r
 | vs,.hash r=>∃ vt,vs = .iface 264 (.agg #[])::vt/\xZ lo hi w vt r
 | vs,.put n a r=>∃ vt b,vs = .iface 172 (.pointer (some ⟨b,0,none⟩))::vt/\lo<=b/\b<hi/\w.cell? ⟨b,0,none⟩=some (xg n)/\w.cell? ⟨b,1,none⟩=some (.int .i64 a)/\xZ lo hi w vt r
 | vs,.num n a r=>∃ vt b,vs = .iface 175 (.pointer (some ⟨b,0,none⟩))::vt/\lo<=b/\b<hi/\w.cell? ⟨b,0,none⟩=some (xg n)/\w.cell? ⟨b,1,none⟩=some (.int .i64 a)/\xZ lo hi w vt r
 | vs,.br n a f o c bs r=>∃ vt b ba bc ws,vs = .iface 177 (.pointer (some ⟨b,0,none⟩))::vt/\lo<=b/\b<hi/\w.cell? ⟨b,0,none⟩=some (xg n)/\w.cell? ⟨b,1,none⟩=some (.int .i64 a) /\
   w.cell? ⟨b,2,none⟩=some (.int .i64 f)/\w.cell? ⟨b,3,none⟩=some (.int .i64 (xE o))/\w.cell? ⟨b,4,none⟩=some (.slice ba bs.len bc)/\w.cell? ⟨b,5,none⟩=some (.int .i64 c) /\
   U6 lo hi w ba ws/\xZ lo hi w ws bs/\xZ lo hi w vt r
 | vs,.uz k a m r=>∃ vt ma mc ws,vs=xg k :: .int .i64 a :: .slice ma m.len mc::vt/\U6 lo hi w ma ws/\xZ lo hi w ws m/\xZ lo hi w vt r
theorem U6.keep{lo hi lo' hi':Nat}{w w':World}{a:Option Addr}{vs:List Value}(h:U6 lo hi w a vs)(hk:xr lo hi w w')(h1:lo'<=lo)(h2:hi<=hi'):U6 lo' hi' w' a vs:=fun j hj=>by
 obtain⟨g,o,e1,e2,e3,e4⟩:=h j hj;exact⟨g,o,e1,by omega,by omega,(hk.cell (p:=⟨g,o+j,none⟩) e2 e3).trans e4⟩
theorem xZ.keep{lo hi lo' hi':Nat}{w w':World}(hk:xr lo hi w w')(h1:lo'<=lo)(h2:hi<=hi'):∀ (f:Fo) (vs:List Value),xZ lo hi w vs f->xZ lo' hi' w' vs f
 | .nil,vs,h=>h
 | .text t r,vs,h=>by
  obtain⟨vt,e,hr⟩:=h;exact⟨vt,e,xZ.keep hk h1 h2 r vt hr⟩
 | .hash r,vs,h=>by
  obtain⟨vt,e,hr⟩:=h;exact⟨vt,e,xZ.keep hk h1 h2 r vt hr⟩
 | .put n a r,vs,h=>by
  obtain⟨vt,b,e,l1,l2,c0,c1,hr⟩:=h;exact⟨vt,b,e,by omega,by omega,(hk.cell (p:=⟨b,0,none⟩) l1 l2).trans c0,(hk.cell (p:=⟨b,1,none⟩) l1 l2).trans c1,xZ.keep hk h1 h2 r vt hr⟩
 | .num n a r,vs,h=>by
  obtain⟨vt,b,e,l1,l2,c0,c1,hr⟩:=h;exact⟨vt,b,e,by omega,by omega,(hk.cell (p:=⟨b,0,none⟩) l1 l2).trans c0,(hk.cell (p:=⟨b,1,none⟩) l1 l2).trans c1,xZ.keep hk h1 h2 r vt hr⟩
 | .br n a f o c bs r,vs,h=>by
  obtain⟨vt,b,ba,bc,ws,e,l1,l2,c0,c1,c2,c3,c4,c5,xi,UR,hr⟩:=h;exact⟨vt,b,ba,bc,ws,e,by omega,by omega,(hk.cell (p:=⟨b,0,none⟩) l1 l2).trans c0,(hk.cell (p:=⟨b,1,none⟩) l1 l2).trans c1,(hk.cell (p:=⟨b,2,none⟩) l1 l2).trans c2,(hk.cell (p:=⟨b,3,none⟩) l1 l2).trans c3,
   (hk.cell (p:=⟨b,4,none⟩) l1 l2).trans c4,(hk.cell (p:=⟨b,5,none⟩) l1 l2).trans c5,xi.keep hk h1 h2,xZ.keep hk h1 h2 bs ws UR,xZ.keep hk h1 h2 r vt hr⟩
 | .uz k a m r,vs,h=>by
  obtain⟨vt,ma,mc,ws,e,xi,hm,hr⟩:=h;exact⟨vt,ma,mc,ws,e,xi.keep hk h1 h2,xZ.keep hk h1 h2 m ws hm,xZ.keep hk h1 h2 r vt hr⟩
theorem xZ.app{lo hi:Nat}{w:World}{us:List Value}{g:Fo}(hg:xZ lo hi w us g):∀ (f:Fo) (vs:List Value),xZ lo hi w vs f->xZ lo hi w (vs++us) (f.app g)
 | .nil,vs,h=>by
  have e:vs=[]:=h;subst e;exact hg
 | .text t r,vs,h=>by
  obtain⟨vt,rfl,hr⟩:=h;exact⟨_,rfl,xZ.app hg r vt hr⟩
 | .hash r,vs,h=>by
  obtain⟨vt,rfl,hr⟩:=h;exact⟨_,rfl,xZ.app hg r vt hr⟩
 | .put n a r,vs,h=>by
  obtain⟨vt,b,rfl,l1,l2,c0,c1,hr⟩:=h;exact⟨_,b,rfl,l1,l2,c0,c1,xZ.app hg r vt hr⟩
 | .num n a r,vs,h=>by
  obtain⟨vt,b,rfl,l1,l2,c0,c1,hr⟩:=h;exact⟨_,b,rfl,l1,l2,c0,c1,xZ.app hg r vt hr⟩
 | .br n a f o c bs r,vs,h=>by
  obtain⟨vt,b,ba,bc,ws,rfl,l1,l2,c0,c1,c2,c3,c4,c5,xi,UR,hr⟩:=h;exact⟨_,b,ba,bc,ws,rfl,l1,l2,c0,c1,c2,c3,c4,c5,xi,UR,xZ.app hg r vt hr⟩
 | .uz k a m r,vs,h=>by
  obtain⟨vt,ma,mc,ws,rfl,xi,hm,hr⟩:=h;exact⟨_,ma,mc,ws,rfl,xi,hm,xZ.app hg r vt hr⟩
def Fo.uk:Fo->Bool
 | .nil=>true
 | .uz _ _ _ r=>r.uk
 | _=>false
theorem xZ.count{lo hi:Nat}{w:World}:∀ (f:Fo) (vs:List Value),xZ lo hi w vs f->f.vD=true->vs.length=f.len
 | .nil,vs,h,_=>by
  have e:vs=[]:=h;subst e;rfl
 | .text t r,vs,h,hm=>by
  obtain⟨vt,rfl,hr⟩:=h;simp[Fo.len,xZ.count r vt hr hm]
 | .hash r,vs,h,hm=>by
  obtain⟨vt,rfl,hr⟩:=h;simp[Fo.len,xZ.count r vt hr hm]
 | .put n a r,vs,h,hm=>by
  obtain⟨vt,b,rfl,l1,l2,c0,c1,hr⟩:=h;simp[Fo.len,xZ.count r vt hr hm]
 | .num n a r,vs,h,hm=>by
  obtain⟨vt,b,rfl,l1,l2,c0,c1,hr⟩:=h;simp[Fo.len,xZ.count r vt hr hm]
 | .br n a f o c bs r,vs,h,hm=>by
  obtain⟨vt,b,ba,bc,ws,rfl,l1,l2,c0,c1,c2,c3,c4,c5,xi,UR,hr⟩:=h;simp[Fo.len,xZ.count r vt hr hm]
 | .uz k a m r,vs,h,hm=>by cases hm
abbrev qF(α:Type):=Except (Nat×Nat) (α×Nat)
def qF.then{α β:Type}(x:qF α)(k:α->Nat->qF β):qF β:=match x with | .error e => .error e | .ok (a,i)=>k a i
theorem then_ok{α β:Type}(a:α)(i:Nat)(k:α->Nat->qF β):qF.then (.ok (a,i)) k=k a i:=rfl
def vR(rs:List Int)(r:Int)(i:Nat):qF Unit:=if xU rs i=r then .ok ((),i+1) else .error (3,i)
def gK(rs:List Int)(i:Nat):qF Wd:=if qe rs i=0 then .error (3,i) else .ok (kQ rs i (qe rs i),i+qe rs i)
def kK(rs:List Int)(i:Nat):qF Wd:=if qd rs i=0 then .error (3,i) else .ok (kQ rs i (qd rs i),i+qd rs i)
abbrev kN:=Bool->Nat->qF Fo
def Kg(rs:List Int)(num:Bool)(i:Nat):qF Wd :=
 if num=true/\xU rs i=61 then (kK rs (i+1)).then fun k j => .ok (61::k,j)
 else (gK rs i).then fun k j=>if num=true/\k ∉ Vm then .error (3,i) else .ok (k,j)
def XH(rs:List Int):Option kN->Bool->Wd->Nat->Nat->Nat->qF Fo
 | none,_,_,_,o,_ => .error (4,o)
 | some m,num,k,i,_,l=>(m num l).then fun f q=>(vR rs 125 q).then fun _ z => .ok (.uz k i f .nil,xh rs z)
def Xv(rs:List Int)(msg:Option kN)(num:Bool)(i:Nat):qF Fo :=
 (Kg rs num i).then fun k j=>(vR rs 123 (xh rs j)).then fun _ l=>XH rs msg num k i (xh rs j) l
def ji(rs:List Int)(msg:Option kN)(num:Bool):Nat->Fo->Nat->qF Fo
 | 0,_,i => .error (3,i)
 | n+1,acc,i=>if xU rs i=125/\acc.len≠0 then .ok (acc,i) else (Xv rs msg num i).then fun f j=>ji rs msg num n (acc.app f) j
def zxv:Wd:=[110,117,109,98,101,114]
def JN(rs:List Int)(form:Nat)(i:Nat):qF Wd :=
 if form≠0/\CI rs i=true then (kK rs (xh rs (i+7))).then fun o j => .ok (o,xh rs j) else .ok ([48],i)
def YI(rs:List Int)(msg:Option kN)(i:Nat):qF Fo :=
 (vR rs 123 i).then fun _ a =>
 (gK rs (xh rs a)).then fun name b =>
 if xU rs (xh rs b)≠44 then (vR rs 125 (xh rs b)).then fun _ z => .ok (.put name i .nil,z)
 else (gK rs (xh rs (xh rs b+1))).then fun w c =>
  if w=zxv then (vR rs 125 (xh rs c)).then fun _ z => .ok (.num name i .nil,z)
  else match Q5 w with
   | none => .error (3,xh rs (xh rs b+1))
   | some form=>(vR rs 44 (xh rs c)).then fun _ d=>(JN rs form (xh rs d)).then fun o l =>
    (ji rs msg (decide (form≠0)) (rs.length+1) .nil l).then fun bs q=>(vR rs 125 q).then fun _ z => .ok (.br name i form o q bs .nil,z)
def qI(rs:List Int)(msg:Option kN)(num:Bool):Nat->Fo->Nat->qF Fo
 | 0,_,i => .error (3,i)
 | n+1,acc,i =>
  if xU rs i = -1\/xU rs i=125 then .ok (acc,i)
  else if xU rs i=123 then (YI rs msg i).then fun f j=>qI rs msg num n (acc.app f) j
  else if xU rs i=35/\num=true then qI rs msg num n (acc.app (.hash .nil)) (i+1)
  else qI rs msg num n (acc.xL (jq rs num i).1) (jq rs num i).2
def YL(rs:List Int):Nat->kN
 | 0=>fun num i=>qI rs none num (rs.length+1) .nil i
 | n+1=>fun num i=>qI rs (some (YL rs n)) num (rs.length+1) .nil i
def YM(rs:List Int):qF Fo:=(YL rs 5 false 0).then fun f i=>if xU rs i = -1 then .ok (f,i) else .error (3,i)
structure Ju(p:Nat)(w:World):Prop where
 names:uS w
 ne:0≠p
theorem Ju.but{p:Nat}{w w':World}(h:Ju p w)(hb:xR p w w'):Ju p w':=⟨fun j hj=>hb.cell (h.names j hj) h.ne,h.ne⟩
def zc9(p:Nat)(rs:List Int)(d:Nat)(r:qF Fo)(w:World)(e:Ending)(w':World):Prop :=
 (match r with
  | .error (n,a)=>Kq p n a e w'
  | .ok (f,j)=>(∃ a c,e = .returned (.slice a f.len c)/\∃ vs,U6 w.heap.size w'.heap.size w' a vs/\xZ w.heap.size w'.heap.size w' vs f)/\f.vD=true/\vG p rs j d w')/\xR p w w'
theorem bp(rs:List Int)(i n:Nat):(kQ rs i n).length<=4*rs.length:=by
 have hh:∀ l:List Int,(l.flatMap enc).length<=4*l.length:=by
  intro l;induction l with
  | nil=>simp
  | cons a t ih=>have:=(kU a).1;simp only[zE,List.length_append,List.length_cons];omega
 have h1:=hh ((rs.drop i).take n);have h2:((rs.drop i).take n).length<=rs.length:=by simp;omega
 unfold kQ;omega
def oJ(p:Nat)(rs:List Int)(d:Nat)(m:kN):Prop:=∀ (num:Bool) (i:Nat) (w:World),vG p rs i d w->Ju p w ->
 Calls prog 111 #[.pointer (some ⟨p,0,none⟩),.bool num] w (zc9 p rs d (m num i) w)
def zxu(p:Nat)(rs:List Int)(d:Nat)(r:qF Fo)(w:World)(e:Ending)(w':World):Prop :=
 (match r with
  | .error (n,a)=>Kq p n a e w'
  | .ok (f,j)=>(∃ k pl m ma mc,f = .uz k pl m .nil/\e = .returned (.agg #[xg k,.int .i64 pl,.slice ma m.len mc])/\m.vD=true/\∃ vs,U6 w.heap.size w'.heap.size w' ma vs/\xZ w.heap.size w'.heap.size w' vs m)/\vG p rs j d w')/\xR p w w'
structure GN(B:Nat)(v0 v1 v2:Value)(w:World):Prop where
 c0:w.cell? ⟨B,0,none⟩=some v0
 c1:w.cell? ⟨B,1,none⟩=some v1
 c2:w.cell? ⟨B,2,none⟩=some v2
 z:∀ j,w.frozen? ⟨B,j,none⟩=false
theorem GN.but{B p:Nat}{v0 v1 v2:Value}{w w':World}(h:GN B v0 v1 v2 w)(hb:xR p w w')(vy:B≠p):GN B v0 v1 v2 w' :=
 ⟨hb.cell h.c0 vy,hb.cell h.c1 vy,hb.cell h.c2 vy,fun j=>(World.frozen?_of_block (a:=⟨B,j,none⟩) (hb.block B (zv w _ h.c0) vy)).trans (h.z j)⟩
theorem GN.Xu{B:Nat}{v0 v1 v2 u:Value}{w:World}(h:GN B v0 v1 v2 w):GN B u v1 v2 (w.setCell ⟨B,0,none⟩ u) :=
 ⟨by rw[xk,if_pos rfl,h.c0];rfl,by rw[xk,if_neg (by simp)];exact h.c1,by rw[xk,if_neg (by simp)];exact h.c2,fun j=>by rw[zM];exact h.z j⟩
theorem GN.zxq{B:Nat}{v0 v1 v2 u:Value}{w:World}(h:GN B v0 v1 v2 w):GN B v0 v1 u (w.setCell ⟨B,2,none⟩ u) :=
 ⟨by rw[xk,if_neg (by simp)];exact h.c0,by rw[xk,if_neg (by simp)];exact h.c1,by rw[xk,if_pos rfl,h.c2];rfl,fun j=>by rw[zM];exact h.z j⟩
theorem xR.own{p:Nat}{w w':World}(h:xR p w w'){B:Nat}(hB:w.heap.size<=B)(j:Nat)(u:Value):xR p w (w'.setCell ⟨B,j,none⟩ u) :=
 ⟨h.os,h.tape,h.output,zy h.size (by simp[zU]),fun k hk hp=>(zJ _ _ _ _ (by show k≠B;omega)).trans (h.block k hk hp)⟩
theorem xr.put{lo hi:Nat}{w W:World}(h:xr lo hi w W){B:Nat}(hB:B<lo)(j:Nat)(u:Value):xr lo hi w (W.setCell ⟨B,j,none⟩ u) :=
 ⟨zy h.1 (by simp[zU]),fun k h1 h2=>(zJ _ _ _ _ (by show k≠B;omega)).trans (h.2 k h1 h2)⟩
theorem xr.but{lo hi p:Nat}{w W W':World}(h:xr lo hi w W)(hb:xR p W W')(hp:p<lo):xr lo hi w W' :=
 ⟨zy h.1 hb.size,fun k h1 h2=>(hb.block k (zF h2 h.1) (by omega)).trans (h.2 k h1 h2)⟩
theorem vG.own{p:Nat}{rs:List Int}{i d:Nat}{w:World}(h:vG p rs i d w){B:Nat}(hB:p<B)(j:Nat)(u:Value):vG p rs i d (w.setCell ⟨B,j,none⟩ u) :=
 h.grown (row:=some B) ⟨rfl,rfl,rfl,by simp[zU],fun k _ hk=>zJ _ _ _ _ (fun e=>hk (by rw[e]))⟩ (fun q hq=>by cases hq;exact hB)
theorem NK(p:Nat)(rs:List Int)(i d:Nat)(num:Bool)(msg:Option kN)(w:World)(h:vG p rs i d w)(he:Ju p w)(hd:msg=none ↔ d=6)(hm:∀ m,msg=some m->oJ p rs d m) :
  Calls prog 204 #[.pointer (some ⟨p,0,none⟩),.bool num] w (zxu p rs d (Xv rs msg num i) w):=by
 have HH:=z7 h;have GO:=z7 he;have HD:=z7 hd;have HMC:=z7 hm;have Kj:=h.lt;have h5:=h.at_;obtain⟨R,hR⟩:=xX (Xv rs msg num i);rw[hR];have HR:=z7 hR;clear h he hd hm hR
 cases num
 .go_enter func204,ntmps204;go_wp2_with fail;refine vB ?_;intro W hW;have jB:Below w.heap.size w W:=by rw[hW];exact(zj _ _).alloc (z8 _) _
  have NJ:GN w.heap.size (.string ⟨#[]⟩) (.int .i64 i) (.slice none 0 0) W:=by
   rw[hW];exact⟨xu _ _ _ _ _,xu _ _ _ _ _,xu _ _ _ _ _,fun j=>by go_simp⟩
  clear hW h5;obtain⟨B,hB⟩:=xX w.heap.size;rw[hB] at NJ |-
  have HB:=z7 hB;have MA:p<B:=by omega
  have oG:=z7 NJ;clear hB NJ;obtain⟨Kf,GR⟩:∃ b,b=false:=⟨_,rfl⟩;refine(Us p rs i d W (HH.out.below jB)).mono ?_;rintro e x0 ⟨hq,JO⟩;have jk:=(xR.of (p:=p) jB).trans JO;have HL0:=z7 (oG.out.but JO (by omega));by_cases qx:qe rs i=0
  .rw[if_pos qx] at hq;have ZY:=z7 (show R = .error (3,i) by rw[<-HR.out];unfold Xv Kg gK;rw[if_neg (by simp),if_pos qx];rfl);have HQ:=z7 hq;obtain⟨bf,rfl,_,_⟩:=hq;clear qx;go_wp2;exact⟨rfl,by rw[ZY.out];exact HQ.out,jk⟩
  .rw[if_neg qx] at hq;obtain⟨rfl,Hu⟩:=hq;obtain⟨K,hK⟩:=xX (kQ rs i (qe rs i));obtain⟨j,hj⟩:=xX (i+qe rs i);rw[hj] at Hu;rw[hK];have HT:=z7 (show R=(vR rs 123 (xh rs j)).then fun _ l=>XH rs msg Kf K i (xh rs j) l by
    rw[<-HR.out,GR];unfold Xv Kg gK;rw[if_neg (by simp),if_neg qx,hK,hj];first|rfl|(simp[then_ok];done))
   have HS0:=z7 Hu;have zz:=HL0.out.z 0;have z0:=HL0.out.c0;have z1:=HL0.out.c1;have G8:=z7 (HS0.out.own MA 0 (xg K));have Di:=z7 (HL0.out.Xu (u:=xg K));have DL:xR p w (x0.setCell ⟨B,0,none⟩ (xg K)):=jk.own (by have:=HB.out;omega) 0 _;obtain⟨X,hX⟩:=xX (x0.setCell ⟨B,0,none⟩ (xg K));rw[hX] at G8 Di DL;have HX:=z7 hX;clear Hu qx hK hj hX JO jk;go_wp2_with fail;rw[HX.out];have HL:=Di;have HS:=G8;have bP:=DL;clear Di G8 DL;obtain⟨J,hJ⟩:=xX (xh rs j);rw[hJ] at HT;have HJ:=z7 hJ;clear hJ;refine(qy p rs j d X HS.out).mono ?_;rintro e x1 ⟨rfl,uH,dM⟩;rw[HJ.out] at uH;have xG:=bP.trans dM;have gN:=z7 uH;have NG:=z7 (HL.out.but dM (by omega));have g5:=uH.at_;clear uH dM HJ HL HS bP;go_wp2_with fail;refine(jY p rs J d 123 x1 gN.out (by decide)).mono ?_;rintro e x2 ⟨hq,qV⟩;have xJ:=xG.trans qV;have nN:=z7 (NG.out.but qV (by omega));clear g5;by_cases hw:xU rs J=123
   .rw[if_pos hw] at hq;obtain⟨rfl,qf⟩:=hq;have bk:=z7 qf;have g6:=qf.deep;have ZY:=z7 (show R=XH rs msg Kf K i J (J+1) by rw[HT.out];unfold vR;rw[if_pos hw];rfl);clear qf hw HT
    cases msg with
    | none =>
     have IZ:d=6:=HD.out.1 rfl;subst IZ;go_wp2_with fail;refine(dK p 4 J x2 bk.out.Jy).mono ?_;rintro e x3 ⟨hf,IY⟩;have HF:=z7 hf;obtain⟨bf,rfl,_,_⟩:=hf;go_wp2;exact⟨rfl,by rw[ZY.out];exact HF.out,xJ.below IY⟩
    | some m =>
     have IZ:d≠6:=fun e=>by have:=HD.out.2 e;cases this
     have zcy:((d:Int)==6)=false:=by simp;omega
     have vu:=HMC.out m rfl Kf (J+1) x2 bk.out (GO.out.but xJ);obtain⟨r,hr⟩:=xX (m Kf (J+1));rw[hr] at vu;rw[GR] at vu;have uw:=z7 vu;have NV:=z7 (show R=r.then fun f q=>(vR rs 125 q).then fun _ z => .ok (.uz K i f .nil,xh rs z) by rw[ZY.out,<-hr];rfl);clear vu hr ZY;go_wp2_with fail;refine uw.out.mono ?_;rintro e x3 ⟨hq,IY⟩;have ub:=xJ.trans IY;have AW:=z7 (nN.out.but IY (by omega))
     cases r with
     | error en =>
      obtain⟨nO,nR⟩:=en;have HQ:=z7 hq;obtain⟨bf,rfl,_,_⟩:=hq;go_wp2;exact⟨rfl,by rw[NV.out];exact HQ.out,ub⟩
     | ok fq =>
      obtain⟨f,q⟩:=fq;obtain⟨⟨ma,mc,rfl,vs,xi,ql⟩,JP,Ma⟩:=hq;have DM:=z7 (show R=(vR rs 125 q).then fun _ z => .ok (.uz K i f .nil,xh rs z) from NV.out);have qb:=z7 xi;have Y2:=z7 ql;have Uh:=z7 Ma;have z2:=AW.out.z 2;have q2:=AW.out.c2;have G8:=z7 (Uh.out.own (B:=B) (by omega) 2 (.slice ma f.len mc));have Di:=z7 (AW.out.zxq (u := .slice ma f.len mc));have DL:xR p w (x3.setCell ⟨B,2,none⟩ (.slice ma f.len mc)):=ub.own (by have:=HB.out;omega) 2 _;obtain⟨Y,hY⟩:=xX (x3.setCell ⟨B,2,none⟩ (.slice ma f.len mc));rw[hY] at G8 Di DL;have HY:=z7 hY;clear xi ql Ma NV uw hY;go_wp2_with fail;rw[HY.out];refine(jY p rs q d 125 Y G8.out (by decide)).mono ?_;rintro e x4 ⟨hq,AA⟩;have ur:=DL.trans AA;have HL4:=z7 (Di.out.but AA (by omega));by_cases hw:xU rs q=125
      .rw[if_pos hw] at hq;obtain⟨rfl,Ks⟩:=hq;have X8:=z7 Ks;obtain⟨J2,Aa⟩:=xX (xh rs (q+1));have Ac:=z7 (show R = .ok (.uz K i f .nil,J2) by rw[DM.out,<-Aa];show(vR rs 125 q).then _=_;unfold vR;rw[if_pos hw];rfl);have HJ2:=z7 Aa;clear Ks hw Aa DM;go_wp2_with fail;refine(qy p rs (q+1) d x4 X8.out).mono ?_;rintro e x5 ⟨rfl,Hv,Ae⟩;rw[HJ2.out] at Hv;have jW:=ur.trans Ae;have JR:=z7 (HL4.out.but Ae (by omega));have Mc:=z7 Hv;have k0:=JR.out.c0;have k1:=JR.out.c1;have k2:=JR.out.c2;have y0:=JR.out.z 0;have y1:=JR.out.z 1;have y2:=JR.out.z 2;clear Hv;have b8:B<x2.heap.size:=zv _ _ nN.out.c0;have Pt:=z7 (((((((xW (lo:=x2.heap.size) (z8 x3.heap.size)).put b8 2 (.slice ma f.len mc))).but (by rw[HY.out];exact AA) (by omega)).but Ae (by omega)).put b8 0 (xg K)).put b8 1 (.int .i64 i) |>.put b8 2 (.slice ma f.len mc));have HBF:=z7 (((jW.own (B:=B) (by have:=HB.out;omega) 0 (xg K)).own (B:=B) (by have:=HB.out;omega) 1 (.int .i64 i)).own (B:=B) (by have:=HB.out;omega) 2 (.slice ma f.len mc));have HSF:=z7 (((Mc.out.own MA 0 (xg K)).own MA 1 (.int .i64 i)).own MA 2 (.slice ma f.len mc));go_wp2;rw[Ac.out];refine bodyPost_ret (v := .agg #[xg K,.int .i64 i,.slice ma f.len mc]) ?_ rfl ?_
       .simp[results,results204,go_sem,k0,k1,k2]
       exact⟨⟨⟨K,i,f,ma,mc,rfl,rfl,JP,vs,qb.out.keep Pt.out xJ.size Pt.out.1,xZ.keep Pt.out xJ.size Pt.out.1 _ _ Y2.out⟩,HSF.out⟩,HBF.out⟩
      .rw[if_neg hw] at hq;have Ac:=z7 (show R = .error (3,q) by rw[DM.out];show(vR rs 125 q).then _=_;unfold vR;rw[if_neg hw];rfl);have HQ:=z7 hq;obtain⟨bf,rfl,_,_⟩:=hq;clear hw DM;go_wp2;exact⟨rfl,by rw[Ac.out];exact HQ.out,ur⟩
   .rw[if_neg hw] at hq;have ZY:=z7 (show R = .error (3,J) by rw[HT.out];unfold vR;rw[if_neg hw];rfl);have HQ:=z7 hq;obtain⟨bf,rfl,_,_⟩:=hq;clear hw HT;go_wp2;exact⟨rfl,by rw[ZY.out];exact HQ.out,xJ⟩
 .go_enter func204,ntmps204;go_wp2_with fail;refine vB ?_;intro W hW;have jB:Below w.heap.size w W:=by rw[hW];exact(zj _ _).alloc (z8 _) _
  have NJ:GN w.heap.size (.string ⟨#[]⟩) (.int .i64 i) (.slice none 0 0) W:=by
   rw[hW];exact⟨xu _ _ _ _ _,xu _ _ _ _ _,xu _ _ _ _ _,fun j=>by go_simp⟩
  clear hW h5;obtain⟨B,hB⟩:=xX w.heap.size;rw[hB] at NJ |-
  have HB:=z7 hB;have MA:p<B:=by omega
  have oG:=z7 NJ;clear hB NJ;obtain⟨Kf,GR⟩:∃ b,b=true:=⟨_,rfl⟩;refine(XD p rs i d 61 W (HH.out.below jB) (by decide)).mono ?_;rintro e x0 ⟨rfl,Hu,JO⟩;have jk:=(xR.of (p:=p) jB).trans JO;have HL0:=z7 (oG.out.but JO (by omega));by_cases Ph:xU rs i=61
  .rw[if_pos Ph] at Hu;rw[show(xU rs i==61)=true from by rw[Ph];rfl];have HS0:=z7 Hu;have A3:=z7 (show R=((kK rs (i+1)).then fun k j=>(.ok (61::k,j):qF Wd)).then fun k j=>(vR rs 123 (xh rs j)).then fun _ l=>XH rs msg true k i (xh rs j) l by
    rw[<-HR.out];unfold Xv Kg;rw[if_pos ⟨rfl,Ph⟩])
   clear Hu Ph JO;go_wp2_with fail;refine(BQ p rs (i+1) d x0 HS0.out).mono ?_;rintro e x1 ⟨hq,dM⟩;have xG:=jk.trans dM;have NG:=z7 (HL0.out.but dM (by omega));by_cases qx:qd rs (i+1)=0
   .rw[if_pos qx] at hq;have ZY:=z7 (show R = .error (3,i+1) by rw[A3.out];unfold kK;rw[if_pos qx];rfl);have HQ:=z7 hq;obtain⟨bf,rfl,_,_⟩:=hq;clear qx;go_wp2;exact⟨rfl,by rw[ZY.out];exact HQ.out,xG⟩
   .rw[if_neg qx] at hq;obtain⟨rfl,uH⟩:=hq;obtain⟨K0,hK⟩:=xX (kQ rs (i+1) (qd rs (i+1)));obtain⟨K,hK1⟩:=xX (61::K0);obtain⟨j,hj⟩:=xX (i+1+qd rs (i+1));rw[hj] at uH;rw[hK];have HT:=z7 (show R=(vR rs 123 (xh rs j)).then fun _ l=>XH rs msg Kf K i (xh rs j) l by
     rw[A3.out,GR];unfold kK;rw[if_neg qx,hK,hj,<-hK1];rfl)
    have gN:=z7 uH;have zz:=NG.out.z 0;have z0:=NG.out.c0;have z1:=NG.out.c1;have G8:=z7 (gN.out.own MA 0 (xg K));have Di:=z7 (NG.out.Xu (u:=xg K));have DL:xR p w (x1.setCell ⟨B,0,none⟩ (xg K)):=xG.own (by have:=HB.out;omega) 0 _;obtain⟨X,hX⟩:=xX (x1.setCell ⟨B,0,none⟩ (xg K));rw[hX] at G8 Di DL;rw[<-hK1] at hX;have HX:=z7 hX;have hlen:¬9223372036854775807<1+K0.length:=by
     have:=bp rs (i+1) (qd rs (i+1));have:=HH.out.len;rw[hK] at *;omega
    clear uH qx hK hj hX dM xG A3;go_wp2_with fail;rw[show(⟨#[61]⟩:ByteArray)++⟨K0.toArray⟩=⟨(61::K0).toArray⟩ from ByteArray.ext (by simp)];rw[show Value.string ⟨(61::K0).toArray⟩=xg (61::K0) from rfl,HX.out];have HL:=Di;have HS:=G8;have bP:=DL;clear Di G8 DL;obtain⟨J,hJ⟩:=xX (xh rs j);rw[hJ] at HT;have HJ:=z7 hJ;clear hJ;refine(qy p rs j d X HS.out).mono ?_;rintro e x1 ⟨rfl,uH,dM⟩;rw[HJ.out] at uH;have xG:=bP.trans dM;have gN:=z7 uH;have NG:=z7 (HL.out.but dM (by omega));have g5:=uH.at_;clear uH dM HJ HL HS bP;go_wp2_with fail;refine(jY p rs J d 123 x1 gN.out (by decide)).mono ?_;rintro e x2 ⟨hq,qV⟩;have xJ:=xG.trans qV;have nN:=z7 (NG.out.but qV (by omega));clear g5;by_cases hw:xU rs J=123
    .rw[if_pos hw] at hq;obtain⟨rfl,qf⟩:=hq;have bk:=z7 qf;have g6:=qf.deep;have ZY:=z7 (show R=XH rs msg Kf K i J (J+1) by rw[HT.out];unfold vR;rw[if_pos hw];rfl);clear qf hw HT
     cases msg with
     | none =>
      have IZ:d=6:=HD.out.1 rfl;subst IZ;go_wp2_with fail;refine(dK p 4 J x2 bk.out.Jy).mono ?_;rintro e x3 ⟨hf,IY⟩;have HF:=z7 hf;obtain⟨bf,rfl,_,_⟩:=hf;go_wp2;exact⟨rfl,by rw[ZY.out];exact HF.out,xJ.below IY⟩
     | some m =>
      have IZ:d≠6:=fun e=>by have:=HD.out.2 e;cases this
      have zcy:((d:Int)==6)=false:=by simp;omega
      have vu:=HMC.out m rfl Kf (J+1) x2 bk.out (GO.out.but xJ);obtain⟨r,hr⟩:=xX (m Kf (J+1));rw[hr] at vu;rw[GR] at vu;have uw:=z7 vu;have NV:=z7 (show R=r.then fun f q=>(vR rs 125 q).then fun _ z => .ok (.uz K i f .nil,xh rs z) by rw[ZY.out,<-hr];rfl);clear vu hr ZY;go_wp2_with fail;refine uw.out.mono ?_;rintro e x3 ⟨hq,IY⟩;have ub:=xJ.trans IY;have AW:=z7 (nN.out.but IY (by omega))
      cases r with
      | error en =>
       obtain⟨nO,nR⟩:=en;have HQ:=z7 hq;obtain⟨bf,rfl,_,_⟩:=hq;go_wp2;exact⟨rfl,by rw[NV.out];exact HQ.out,ub⟩
      | ok fq =>
       obtain⟨f,q⟩:=fq;obtain⟨⟨ma,mc,rfl,vs,xi,ql⟩,JP,Ma⟩:=hq;have DM:=z7 (show R=(vR rs 125 q).then fun _ z => .ok (.uz K i f .nil,xh rs z) from NV.out);have qb:=z7 xi;have Y2:=z7 ql;have Uh:=z7 Ma;have z2:=AW.out.z 2;have q2:=AW.out.c2;have G8:=z7 (Uh.out.own (B:=B) (by omega) 2 (.slice ma f.len mc));have Di:=z7 (AW.out.zxq (u := .slice ma f.len mc));have DL:xR p w (x3.setCell ⟨B,2,none⟩ (.slice ma f.len mc)):=ub.own (by have:=HB.out;omega) 2 _;obtain⟨Y,hY⟩:=xX (x3.setCell ⟨B,2,none⟩ (.slice ma f.len mc));rw[hY] at G8 Di DL;have HY:=z7 hY;clear xi ql Ma NV uw hY;go_wp2_with fail;rw[HY.out];refine(jY p rs q d 125 Y G8.out (by decide)).mono ?_;rintro e x4 ⟨hq,AA⟩;have ur:=DL.trans AA;have HL4:=z7 (Di.out.but AA (by omega));by_cases hw:xU rs q=125
       .rw[if_pos hw] at hq;obtain⟨rfl,Ks⟩:=hq;have X8:=z7 Ks;obtain⟨J2,Aa⟩:=xX (xh rs (q+1));have Ac:=z7 (show R = .ok (.uz K i f .nil,J2) by rw[DM.out,<-Aa];show(vR rs 125 q).then _=_;unfold vR;rw[if_pos hw];rfl);have HJ2:=z7 Aa;clear Ks hw Aa DM;go_wp2_with fail;refine(qy p rs (q+1) d x4 X8.out).mono ?_;rintro e x5 ⟨rfl,Hv,Ae⟩;rw[HJ2.out] at Hv;have jW:=ur.trans Ae;have JR:=z7 (HL4.out.but Ae (by omega));have Mc:=z7 Hv;have k0:=JR.out.c0;have k1:=JR.out.c1;have k2:=JR.out.c2;have y0:=JR.out.z 0;have y1:=JR.out.z 1;have y2:=JR.out.z 2;clear Hv;have b8:B<x2.heap.size:=zv _ _ nN.out.c0;have Pt:=z7 (((((((xW (lo:=x2.heap.size) (z8 x3.heap.size)).put b8 2 (.slice ma f.len mc))).but (by rw[HY.out];exact AA) (by omega)).but Ae (by omega)).put b8 0 (xg K)).put b8 1 (.int .i64 i) |>.put b8 2 (.slice ma f.len mc));have HBF:=z7 (((jW.own (B:=B) (by have:=HB.out;omega) 0 (xg K)).own (B:=B) (by have:=HB.out;omega) 1 (.int .i64 i)).own (B:=B) (by have:=HB.out;omega) 2 (.slice ma f.len mc));have HSF:=z7 (((Mc.out.own MA 0 (xg K)).own MA 1 (.int .i64 i)).own MA 2 (.slice ma f.len mc));go_wp2;rw[Ac.out];refine bodyPost_ret (v := .agg #[xg K,.int .i64 i,.slice ma f.len mc]) ?_ rfl ?_
        .simp[results,results204,go_sem,k0,k1,k2]
        exact⟨⟨⟨K,i,f,ma,mc,rfl,rfl,JP,vs,qb.out.keep Pt.out xJ.size Pt.out.1,xZ.keep Pt.out xJ.size Pt.out.1 _ _ Y2.out⟩,HSF.out⟩,HBF.out⟩
       .rw[if_neg hw] at hq;have Ac:=z7 (show R = .error (3,q) by rw[DM.out];show(vR rs 125 q).then _=_;unfold vR;rw[if_neg hw];rfl);have HQ:=z7 hq;obtain⟨bf,rfl,_,_⟩:=hq;clear hw DM;go_wp2;exact⟨rfl,by rw[Ac.out];exact HQ.out,ur⟩
    .rw[if_neg hw] at hq;have ZY:=z7 (show R = .error (3,J) by rw[HT.out];unfold vR;rw[if_neg hw];rfl);have HQ:=z7 hq;obtain⟨bf,rfl,_,_⟩:=hq;clear hw HT;go_wp2;exact⟨rfl,by rw[ZY.out];exact HQ.out,xJ⟩
  .rw[if_neg Ph] at Hu;rw[show(xU rs i==61)=false from by simp[Ph]];have HS0:=z7 Hu;have A3:=z7 (show R=((gK rs i).then fun k j=>if k ∉ Vm then (.error (3,i):qF Wd) else .ok (k,j)).then fun k j=>(vR rs 123 (xh rs j)).then fun _ l=>XH rs msg true k i (xh rs j) l by
    rw[<-HR.out];unfold Xv Kg;rw[if_neg (fun e=>Ph e.2)];simp)
   clear Hu Ph JO;go_wp2_with fail;refine(Us p rs i d x0 HS0.out).mono ?_;rintro e x1 ⟨hq,dM⟩;have xG:=jk.trans dM;have NG:=z7 (HL0.out.but dM (by omega));by_cases qx:qe rs i=0
   .rw[if_pos qx] at hq;have ZY:=z7 (show R = .error (3,i) by rw[A3.out];unfold gK;rw[if_pos qx];rfl);have HQ:=z7 hq;obtain⟨bf,rfl,_,_⟩:=hq;clear qx;go_wp2;exact⟨rfl,by rw[ZY.out];exact HQ.out,xG⟩
   .rw[if_neg qx] at hq;obtain⟨rfl,uH⟩:=hq;obtain⟨K,hK⟩:=xX (kQ rs i (qe rs i));obtain⟨j,hj⟩:=xX (i+qe rs i);rw[hj] at uH;rw[hK];have US:=z7 (show R=((if K ∉ Vm then .error (3,i) else .ok (K,j)):qF Wd).then fun k j=>(vR rs 123 (xh rs j)).then fun _ l=>XH rs msg true k i (xh rs j) l by
     rw[A3.out];unfold gK;rw[if_neg qx,hK,hj];rfl)
    have gN:=z7 uH;have zz:=NG.out.z 0;have z0:=NG.out.c0;have z1:=NG.out.c1;have G8:=z7 (gN.out.own MA 0 (xg K));have Di:=z7 (NG.out.Xu (u:=xg K));have DL:xR p w (x1.setCell ⟨B,0,none⟩ (xg K)):=xG.own (by have:=HB.out;omega) 0 _;obtain⟨X,hX⟩:=xX (x1.setCell ⟨B,0,none⟩ (xg K));rw[hX] at G8 Di DL;have HX:=z7 hX;clear uH qx hK hj hX dM xG A3;go_wp2_with fail;rw[HX.out];refine(CL K X (GO.out.but DL).names).mono ?_;rintro e x2 ⟨rfl,rfl⟩;have u1:=Di.out.c1;by_cases hc:K∈Vm
    .rw[show decide (K∈Vm)=true from by simp[hc]];have HT:=z7 (show R=(vR rs 123 (xh rs j)).then fun _ l=>XH rs msg Kf K i (xh rs j) l by
      rw[US.out,GR,if_neg (by simp[hc])];rfl)
     clear hc US;go_wp2_with fail;have HL:=Di;have HS:=G8;have bP:=DL;clear Di G8 DL;obtain⟨J,hJ⟩:=xX (xh rs j);rw[hJ] at HT;have HJ:=z7 hJ;clear hJ;refine(qy p rs j d X HS.out).mono ?_;rintro e x1 ⟨rfl,uH,dM⟩;rw[HJ.out] at uH;have xG:=bP.trans dM;have gN:=z7 uH;have NG:=z7 (HL.out.but dM (by omega));have g5:=uH.at_;clear uH dM HJ HL HS bP;go_wp2_with fail;refine(jY p rs J d 123 x1 gN.out (by decide)).mono ?_;rintro e x2 ⟨hq,qV⟩;have xJ:=xG.trans qV;have nN:=z7 (NG.out.but qV (by omega));clear g5;by_cases hw:xU rs J=123
     .rw[if_pos hw] at hq;obtain⟨rfl,qf⟩:=hq;have bk:=z7 qf;have g6:=qf.deep;have ZY:=z7 (show R=XH rs msg Kf K i J (J+1) by rw[HT.out];unfold vR;rw[if_pos hw];rfl);clear qf hw HT
      cases msg with
      | none =>
       have IZ:d=6:=HD.out.1 rfl;subst IZ;go_wp2_with fail;refine(dK p 4 J x2 bk.out.Jy).mono ?_;rintro e x3 ⟨hf,IY⟩;have HF:=z7 hf;obtain⟨bf,rfl,_,_⟩:=hf;go_wp2;exact⟨rfl,by rw[ZY.out];exact HF.out,xJ.below IY⟩
      | some m =>
       have IZ:d≠6:=fun e=>by have:=HD.out.2 e;cases this
       have zcy:((d:Int)==6)=false:=by simp;omega
       have vu:=HMC.out m rfl Kf (J+1) x2 bk.out (GO.out.but xJ);obtain⟨r,hr⟩:=xX (m Kf (J+1));rw[hr] at vu;rw[GR] at vu;have uw:=z7 vu;have NV:=z7 (show R=r.then fun f q=>(vR rs 125 q).then fun _ z => .ok (.uz K i f .nil,xh rs z) by rw[ZY.out,<-hr];rfl);clear vu hr ZY;go_wp2_with fail;refine uw.out.mono ?_;rintro e x3 ⟨hq,IY⟩;have ub:=xJ.trans IY;have AW:=z7 (nN.out.but IY (by omega))
       cases r with
       | error en =>
        obtain⟨nO,nR⟩:=en;have HQ:=z7 hq;obtain⟨bf,rfl,_,_⟩:=hq;go_wp2;exact⟨rfl,by rw[NV.out];exact HQ.out,ub⟩
       | ok fq =>
        obtain⟨f,q⟩:=fq;obtain⟨⟨ma,mc,rfl,vs,xi,ql⟩,JP,Ma⟩:=hq;have DM:=z7 (show R=(vR rs 125 q).then fun _ z => .ok (.uz K i f .nil,xh rs z) from NV.out);have qb:=z7 xi;have Y2:=z7 ql;have Uh:=z7 Ma;have z2:=AW.out.z 2;have q2:=AW.out.c2;have G8:=z7 (Uh.out.own (B:=B) (by omega) 2 (.slice ma f.len mc));have Di:=z7 (AW.out.zxq (u := .slice ma f.len mc));have DL:xR p w (x3.setCell ⟨B,2,none⟩ (.slice ma f.len mc)):=ub.own (by have:=HB.out;omega) 2 _;obtain⟨Y,hY⟩:=xX (x3.setCell ⟨B,2,none⟩ (.slice ma f.len mc));rw[hY] at G8 Di DL;have HY:=z7 hY;clear xi ql Ma NV uw hY;go_wp2_with fail;rw[HY.out];refine(jY p rs q d 125 Y G8.out (by decide)).mono ?_;rintro e x4 ⟨hq,AA⟩;have ur:=DL.trans AA;have HL4:=z7 (Di.out.but AA (by omega));by_cases hw:xU rs q=125
        .rw[if_pos hw] at hq;obtain⟨rfl,Ks⟩:=hq;have X8:=z7 Ks;obtain⟨J2,Aa⟩:=xX (xh rs (q+1));have Ac:=z7 (show R = .ok (.uz K i f .nil,J2) by rw[DM.out,<-Aa];show(vR rs 125 q).then _=_;unfold vR;rw[if_pos hw];rfl);have HJ2:=z7 Aa;clear Ks hw Aa DM;go_wp2_with fail;refine(qy p rs (q+1) d x4 X8.out).mono ?_;rintro e x5 ⟨rfl,Hv,Ae⟩;rw[HJ2.out] at Hv;have jW:=ur.trans Ae;have JR:=z7 (HL4.out.but Ae (by omega));have Mc:=z7 Hv;have k0:=JR.out.c0;have k1:=JR.out.c1;have k2:=JR.out.c2;have y0:=JR.out.z 0;have y1:=JR.out.z 1;have y2:=JR.out.z 2;clear Hv;have b8:B<x2.heap.size:=zv _ _ nN.out.c0;have Pt:=z7 (((((((xW (lo:=x2.heap.size) (z8 x3.heap.size)).put b8 2 (.slice ma f.len mc))).but (by rw[HY.out];exact AA) (by omega)).but Ae (by omega)).put b8 0 (xg K)).put b8 1 (.int .i64 i) |>.put b8 2 (.slice ma f.len mc));have HBF:=z7 (((jW.own (B:=B) (by have:=HB.out;omega) 0 (xg K)).own (B:=B) (by have:=HB.out;omega) 1 (.int .i64 i)).own (B:=B) (by have:=HB.out;omega) 2 (.slice ma f.len mc));have HSF:=z7 (((Mc.out.own MA 0 (xg K)).own MA 1 (.int .i64 i)).own MA 2 (.slice ma f.len mc));go_wp2;rw[Ac.out];refine bodyPost_ret (v := .agg #[xg K,.int .i64 i,.slice ma f.len mc]) ?_ rfl ?_
         .simp[results,results204,go_sem,k0,k1,k2]
         exact⟨⟨⟨K,i,f,ma,mc,rfl,rfl,JP,vs,qb.out.keep Pt.out xJ.size Pt.out.1,xZ.keep Pt.out xJ.size Pt.out.1 _ _ Y2.out⟩,HSF.out⟩,HBF.out⟩
        .rw[if_neg hw] at hq;have Ac:=z7 (show R = .error (3,q) by rw[DM.out];show(vR rs 125 q).then _=_;unfold vR;rw[if_neg hw];rfl);have HQ:=z7 hq;obtain⟨bf,rfl,_,_⟩:=hq;clear hw DM;go_wp2;exact⟨rfl,by rw[Ac.out];exact HQ.out,ur⟩
     .rw[if_neg hw] at hq;have ZY:=z7 (show R = .error (3,J) by rw[HT.out];unfold vR;rw[if_neg hw];rfl);have HQ:=z7 hq;obtain⟨bf,rfl,_,_⟩:=hq;clear hw HT;go_wp2;exact⟨rfl,by rw[ZY.out];exact HQ.out,xJ⟩
    .rw[show decide (K∈Vm)=false from by simp[hc]];have ZY:=z7 (show R = .error (3,i) by rw[US.out,if_pos hc];rfl);clear hc US;go_wp2_with fail;refine(dK p 3 i X G8.out.Jy).mono ?_;rintro e x3 ⟨hf,IY⟩;have HF:=z7 hf;obtain⟨bf,rfl,_,_⟩:=hf;go_wp2;exact⟨rfl,by rw[ZY.out];exact HF.out,DL.below IY⟩
theorem IX:∀ (l:List UInt8) (acc:Nat),l.all xF=true->Lib.decFrom acc l=some (l.foldl (fun v c=>10*v+(c.toNat - 48)) acc)
 | [],_,_=>rfl
 | c::t,acc,h=>by
  simp only[List.all_cons,zY] at h;have hc:=(vW c).1 h.1;rw[Lib.decFrom,Lib.digitVal,if_pos (by omega)];dsimp only;rw[IX t _ h.2,List.foldl_cons,Nat.mul_comm acc 10]
theorem oF{l:List UInt8}(h:l.all xF=true)(hn:l≠[]):Lib.atoi l=some (xE l:Int):=by
 cases l with
 | nil=>exact absurd rfl hn
 | cons c t =>
  have hd:=h;simp only[List.all_cons,zY] at hd;have hc:=(vW c).1 hd.1;have h45:(c==45)=false:=by
   rw[beq_eq_false_iff_ne];rintro rfl;exact absurd hc.1 (by decide)
  have h43:(c==43)=false:=by
   rw[beq_eq_false_iff_ne];rintro rfl;exact absurd hc.1 (by decide)
  rw[Lib.atoi,h45,h43];simp only[Bool.false_eq_true,if_false,Lib.decNat];rw[if_neg (by simp),IX _ 0 h];rfl
theorem Pw(x:Wd)(w:World)(hs:x.length<=9)(hd:x.all xF=true)(hn:x≠[]) :
  Calls prog 163 #[xg x] w fun e w'=>e = .returned (.tuple #[.int .i64 (xE x),.nilIface])/\Below w.heap.size w w':=by
 refine(Tryz.strconv_Atoi ⟨x.toArray⟩ (xE x) (by simp[ByteArray.size];omega) (oF hd hn) w).mono ?_;rintro e w' ⟨rfl,t,rfl⟩;exact⟨rfl,Lib.bytesWorld_below _ _ _⟩
theorem SH(r:Int)(h:qg r=true):∃ c,enc r=[c]/\xF c=true:=by
 simp only[qg,zY,decide_eq_true_eq] at h;have:r=48\/r=49\/r=50\/r=51\/r=52\/r=53\/r=54\/r=55\/r=56\/r=57:=by omega
 rcases this with rfl|rfl|rfl|rfl|rfl|rfl|rfl|rfl|rfl|rfl<;>exact⟨_,rfl,by decide⟩
theorem GA(F:Int->Nat->Bool)(rs:List Int)(i:Nat):∀ f n R,Ur F rs i f n=R->∀ k,n<=k->k<R->F (xU rs (i+k)) k=true
 | 0,n,R,h,k,h1,h2=>by
  rw[Ur] at h;omega
 | f+1,n,R,h,k,h1,h2=>by
  rw[Ur] at h;by_cases q:F (xU rs (i+n)) n=true
  .rw[if_pos q] at h;by_cases hk:k=n
   .rw[hk];exact q
   .exact GA F rs i f (n+1) R h k (by omega) h2
  .rw[if_neg q] at h;omega
theorem Kd{F:Int->Nat->Bool}{rs:List Int}{i k:Nat}(h:k<runN F rs i):F (xU rs (i+k)) k=true:=GA F rs i _ _ _ rfl k (Nat.zero_le _) h
theorem CN{rs:List Int}{j:Nat}(h:j<rs.length):xU rs j=rs[j]:=by
 unfold xU;simp[h]
theorem Q6:∀ (l:List Int),(∀ r∈l,qg r=true)->(l.flatMap enc).length=l.length/\(l.flatMap enc).all xF=true
 | [],_=>⟨rfl,rfl⟩
 | r::t,h=>by
  obtain⟨c,hc,hd⟩:=SH r (h r (by simp));obtain⟨h1,h2⟩:=Q6 t (fun q hq=>h q (by simp[hq]));refine⟨by simp[zE,hc,h1],?_⟩;rw[zE,hc];simp[hd];simpa using h2
theorem Jq(rs:List Int)(i:Nat)(hn:qd rs i≠0):(kQ rs i (qd rs i)).length<=9/\(kQ rs i (qd rs i)).all xF=true/\kQ rs i (qd rs i)≠[]:=by
 obtain⟨n,hN⟩:=xX (qd rs i);have hf:∀ k,k<n->k<9/\qg (xU rs (i+k))=true:=fun k hk=>by
  have:=Kd (F:=bA (xU rs i)) (rs:=rs) (i:=i) (k:=k) (by rw[show runN (bA (xU rs i)) rs i=qd rs i from rfl,hN];exact hk);simp only[bA,zY,decide_eq_true_eq] at this;exact this.1
 rw[hN] at hn |-
 have h9:n<=9:=by
  have:=(hf (n - 1) (by omega)).1;omega
 have hd:qg (-1)=false:=by decide
 have dI:∀ k,k<n->i+k<rs.length:=fun k hk=>by
  refine Nat.lt_of_not_le (fun hle=>?_);have:=(hf k hk).2;rw[kM hle,hd] at this
  cases this
 have qQ:∀ r∈(rs.drop i).take n,qg r=true:=fun r hr=>by
  obtain⟨k,hk,rfl⟩:=List.mem_iff_getElem.1 hr;simp only[List.length_take,za] at hk;have h1:=(hf k (by omega)).2;rw[CN (dI k (by omega))] at h1;simpa using h1
 have hlen:((rs.drop i).take n).length=n:=by
  have:=dI (n - 1) (by omega);simp;omega
 obtain⟨h1,h2⟩:=Q6 _ qQ;unfold kQ;refine⟨by omega,h2,fun e=>?_⟩;rw[e] at h1;simp only[List.length_nil] at h1;omega
def yku(base:Nat)(v:Value)(w W:World):Prop:=w.heap.size<=W.heap.size/\∀ k,base<=k->k<w.heap.size->some k≠v.ownBlock->W.heap[k]? = w.heap[k]?
def qs(base:Nat)(e:TypeId)(size:Nat)(v:Value)(acc:Fo)(ws:List Value)(w:World):Prop :=
 w.ownsRow base e size v acc.len ws/\∀ W,yku base v w W->xZ base W.heap.size W ws acc
theorem qs.start(base:Nat)(e:TypeId)(size:Nat)(w:World):qs base e size (.slice none 0 0) .nil [] w :=
 ⟨⟨by simp[Fo.len],.inl ⟨rfl,rfl⟩⟩,fun _ _=>rfl⟩
theorem qs.but{base p:Nat}{e:TypeId}{size:Nat}{v:Value}{acc:Fo}{ws:List Value}{w w':World}(h:qs base e size v acc ws w)(hb:xR p w w')(hp:p<base):qs base e size v acc ws w':=by
 obtain⟨⟨h1,h2⟩,h3⟩:=h;refine⟨⟨h1,?_⟩,fun W hW=>h3 W ⟨zy hb.size hW.1,fun k k1 k2 k3=>(hW.2 k k1 (zF k2 hb.size) k3).trans (hb.block k k2 (by omega))⟩⟩;rcases h2 with hn|⟨g,cap,cur,hv,hg,hc,rest⟩
 .exact .inl hn
 .refine .inr ⟨g,cap,cur,hv,hg,?_,rest⟩;have xB:g<w.heap.size:=(zL.1 hc).1;rw[hb.block g xB (by omega)];exact hc
theorem qs.nodes{base:Nat}{e:TypeId}{size:Nat}{v:Value}{acc:Fo}{ws:List Value}{w:World}(h:qs base e size v acc ws w):xZ base w.heap.size w ws acc :=
 h.2 w ⟨z8 _,fun _ _ _ _=>rfl⟩
theorem qs.row{base:Nat}{e:TypeId}{size:Nat}{v:Value}{acc:Fo}{ws:List Value}{w:World}(h:qs base e size v acc ws w):∃ a c,v = .slice a acc.len c/\U6 base w.heap.size w a ws:=by
 obtain⟨⟨h1,h2⟩,_⟩:=h;rcases h2 with⟨hv,hn⟩|⟨g,cap,cur,hv,hg,hc,h3,h4,h5,h6⟩
 .refine⟨none,0,by rw[hv,hn],fun j hj=>?_⟩;rw[hn] at h1;omega
 .refine⟨some ⟨g,0,none⟩,cap,hv,fun j hj=>⟨g,0,rfl,hg,(zL.1 hc).1,?_⟩⟩;have hle:acc.len*size<=cap*size:=zP _ h3;have Iu:j<cur.size:=by omega
  rw[Nat.zero_add];have e1:ws[j]? = cur[j]? := by
   rw[<-h6,List.getElem?_take,if_pos (by omega),Array.getElem?_toList]
  have e2:ws[j]? = some ws[j]:=zZ hj;show w.cell? ⟨g,j,none⟩=some ws[j];rw[<-e2,e1];unfold World.cell?;rw[hc];rfl
theorem Q7{P:Program}(w:World)(base:Nat)(t ty e:TypeId)(i:TypeInfo)(z:Value)(ht:P.underlying t=some (.slice e))(hi:P.info? e=some i)(hz:i.zero=some z)
  (hzs:z.cells.size=i.size) (qc:0<i.size)
  (v:Value) (n:Nat) (xs:List Value) (xV:w.ownsRow base e i.size v n xs)
  (a:Addr) (m c:Nat) (news:List Value) (hl:news.length=m*i.size) (dS:∀ j u,news[j]? = some u->w.cell? (a.add j)=some u) (h1:∀ u∈news,u.oneCell'=true)
  (nS:n+m<=maxLen) (XI:(n+m)*i.bytes<=140737488355328) (bM:base<=w.heap.size) :
  ∃ v' w',(Builtin.append_ #[t,t] ty #[v,.slice (some a) m c]).run P w = .ok v' w'/\w'.ownsRow base e i.size v' (n+m) (xs++news)/\w.grownBy w' v.ownBlock /\
   (v'.ownBlock=v.ownBlock\/∀ k,v'.ownBlock=some k->w.heap.size<=k):=by
 obtain⟨v',w',hr,h2,h3,h4⟩:=run_append_own (P:=P) w base t ty e i z i.size i.bytes ht hi hz rfl rfl hzs qc v n xs xV a m c news hl dS h1 nS XI bM;refine⟨v',w',hr,h2,h3,?_⟩;have fE:=xV;rcases xV.2 with⟨rfl,rfl⟩|⟨g,cap,cur,rfl,Dl,hg,hnc,jS,dT,X7⟩
 .have hx:xs=[]:=zu (by simpa using xV.1);subst hx;obtain⟨v2,w2,ZF,k2,_,_⟩:=run_append_own (P:=P) w w.heap.size t ty e i z i.size i.bytes ht hi hz rfl rfl hzs qc (.slice none 0 0) 0 [] (zR w w.heap.size e i.size) a m c news hl dS h1 nS XI (z8 _);rw[hr] at ZF
  cases ZF;exact .inr fun k hk=>(k2.lt k hk).1
 .by_cases Ga:n+m<=cap
  .have Ng:n*i.size+news.length<=cur.size:=by rw[hl,dT,<-Nat.add_mul];exact zP _ Ga
   have ZF:=run_append_room (P:=P) w t ty e i ht hi g n cap cur hg a m c news hl dS h1 Ga Ng;rw[hr] at ZF
   cases ZF;exact .inl rfl
  .have holds:∀ j u,xs[j]? = some u->w.cell? ((⟨g,0,none⟩:Addr).add j)=some u:=xV.cells (g:=g) rfl;have ZF:=run_append_grow (P:=P) w t ty e i z ht hi hz ⟨g,0,none⟩ n cap xs xV.1 holds a m c news hl dS (by omega) (by simp only[maxLen] at nS;omega) (growslice_fits (by simp only[maxLen] at nS;omega) XI);rw[hr] at ZF
   cases ZF;refine .inr fun k hk=>?_
   simp[Value.ownBlock] at hk;omega
theorem qs.grow{base lo m:Nat}{e:TypeId}{size:Nat}{v v':Value}{acc f:Fo}{ws news:List Value}{w w':World}(h:qs base e size v acc ws w)
  (hn:xZ lo w.heap.size w news f) (Hz:base<=lo) (hv:∀ k,v.ownBlock=some k->k<lo) (hm:f.len=m)
  (h2:w'.ownsRow base e size v' (acc.len+m) (ws++news)) (h3:w.grownBy w' v.ownBlock) (h4:v'.ownBlock=v.ownBlock\/∀ k,v'.ownBlock=some k->w.heap.size<=k) :
  qs base e size v' (acc.app f) (ws++news) w':=by
 refine⟨by rw[Fo.uX,hm];exact h2,fun W hW=>?_⟩;have key:∀ k,base<=k->k<w.heap.size->some k≠v.ownBlock->W.heap[k]? = w.heap[k]? := fun k k1 k2 k3=>by
  have vy:some k≠v'.ownBlock:=by
   rcases h4 with q|q
   .rw[q];exact k3
   .intro e;have:=q k e.symm;omega
  exact(hW.2 k k1 (zF k2 h3.size) vy).trans (h3.block k k2 k3)
 have qc:w.heap.size<=W.heap.size:=zy h3.size hW.1;exact xZ.app (xZ.keep (lo:=lo) (hi:=w.heap.size) ⟨qc,fun k k1 k2=>key k (by omega) k2 (fun e=>by have:=hv k e.symm;omega)⟩ Hz qc f news hn) acc ws (h.2 W ⟨qc,key⟩)
theorem Y3{P:Program}{t e:TypeId}{z:Value}{size bytes:Nat}(E:ZS P t e z size bytes){w:World}{ops:Array Oper}{rest:List Oper}{o:Oper}{a:Act}{Q:Exit->Act->World->Prop}
  (GV:o.guard=none) (s x:Operand) (ho:o.op = .call { callee := .builtin .append,args:=#[s,x],argTypes:=#[t,t] })
  (base lo:Nat) (v:Value) (acc f:Fo) (ws:List Value) (hs:a.eval s=v) (hg:qs base e size v acc ws w)
  (ad:Addr) (m c:Nat) (news:List Value) (hx:a.eval x = .slice (some ad) m c) (hl:news.length=m*size) (dS:∀ j u,news[j]? = some u->w.cell? (ad.add j)=some u) (h1:∀ u∈news,u.oneCell'=true)
  (hn:xZ lo w.heap.size w news f) (Hz:base<=lo) (hv:∀ k,v.ownBlock=some k->k<lo) (hm:f.len=m)
  (MS:acc.len+m<=2147483648) (bM:base<=w.heap.size)
  (h:∀ v' w',qs base e size v' (acc.app f) (ws++news) w'->w.grownBy w' v.ownBlock->wpList P ops Q rest (a.put o.dst v') w'):wpList P ops Q (o::rest) a w:=by
 obtain⟨i,hi,hz,rfl,rfl⟩:=E.info;have Ks:=E.small;obtain⟨v',w',hr,h2,h3,h4⟩:=Q7 (P:=P) w base t o.type e i z E.under hi hz E.Ua E.pos v acc.len ws hg.1 ad m c news hl dS h1 (by unfold maxLen;omega) (zy (Nat.mul_le_mul MS Ks) (by decide)) bM;refine wpList_plain GV fun K hK=>?_
 unfold Oper.wp execOp;simp only[ho,resolve,invoke,builtin,Sem.run_bind,Sem.run_pure,zO,zW,List.map_cons,List.map_nil,hs,hx,hr];exact hK _ _ (h v' w' (hg.grow hn Hz hv hm h2 h3 h4) h3)
theorem Jk:ZS prog 179 183 (.agg #[.string ⟨#[]⟩,.int .i64 0,.slice none 0 0]) 3 48 :=
 ⟨underlying179,info_parts (by kernel_rfl),rfl,by decide,by decide⟩
theorem bJ:ZS prog 107 112 .nilIface 1 16 :=
 ⟨underlying107,info_parts (by kernel_rfl),rfl,by decide,by decide⟩
theorem R0{P:Program}{t e:TypeId}{z:Value}{size bytes:Nat}(E:ZS P t e z size bytes){w:World}{o:Oper}{a:Act}{K:Act->World->Prop}{Q:Exit->Act->World->Prop}
  (s x:Operand) (ho:o.op = .call { callee := .builtin .append,args:=#[s,x],argTypes:=#[t,t] })
  (base lo:Nat) (v:Value) (acc f:Fo) (ws:List Value) (hs:a.eval s=v) (hg:qs base e size v acc ws w)
  (ad:Addr) (m c:Nat) (news:List Value) (hx:a.eval x = .slice (some ad) m c) (hl:news.length=m*size) (dS:∀ j u,news[j]? = some u->w.cell? (ad.add j)=some u) (h1:∀ u∈news,u.oneCell'=true)
  (hn:xZ lo w.heap.size w news f) (Hz:base<=lo) (hv:∀ k,v.ownBlock=some k->k<lo) (hm:f.len=m)
  (MS:acc.len+m<=2147483648) (bM:base<=w.heap.size)
  (h:∀ v' w',qs base e size v' (acc.app f) (ws++news) w'->w.grownBy w' v.ownBlock->K (a.put o.dst v') w'):Oper.wp P o a w K Q:=by
 obtain⟨i,hi,hz,rfl,rfl⟩:=E.info;have Ks:=E.small;obtain⟨v',w',hr,h2,h3,h4⟩:=Q7 (P:=P) w base t o.type e i z E.under hi hz E.Ua E.pos v acc.len ws hg.1 ad m c news hl dS h1 (by unfold maxLen;omega) (zy (Nat.mul_le_mul MS Ks) (by decide)) bM;unfold Oper.wp execOp;simp only[ho,resolve,invoke,builtin,Sem.run_bind,Sem.run_pure,zO,zW,List.map_cons,List.map_nil,hs,hx,hr];exact h v' w' (hg.grow hn Hz hv hm h2 h3 h4) h3
theorem qs.lt{base:Nat}{e:TypeId}{size:Nat}{v:Value}{acc:Fo}{ws:List Value}{w:World}(h:qs base e size v acc ws w):∀ k,v.ownBlock=some k->base<=k/\k<w.heap.size:=h.1.lt
theorem Fo.bh:∀ f g:Fo,f.uk=true->g.uk=true->(f.app g).uk=true
 | .nil,g,_,h=>h
 | .uz k a m r,g,h,h2=>Fo.bh r g h h2
 | .text t r,g,h,_=>by cases h
 | .hash r,g,h,_=>by cases h
 | .put n a r,g,h,_=>by cases h
 | .num n a r,g,h,_=>by cases h
 | .br n a f o c b r,g,h,_=>by cases h
theorem Fo.uW:∀ f g:Fo,f.vD=true->g.vD=true->(f.app g).vD=true
 | .nil,g,_,h=>h
 | .uz k a m r,g,h,h2=>by cases h
 | .text t r,g,h,h2=>Fo.uW r g h h2
 | .hash r,g,h,h2=>Fo.uW r g h h2
 | .put n a r,g,h,h2=>Fo.uW r g h h2
 | .num n a r,g,h,h2=>Fo.uW r g h h2
 | .br n a f o c b r,g,h,h2=>Fo.uW r g h h2
theorem xN(rs:List Int)(i:Nat):i<=xh rs i:=Nat.le_add_right _ _
def Gc(m:kN):Prop:=∀ num i f j,m num i = .ok (f,j)->i<=j
theorem xd{α β:Type}{x:qF α}{k:α->Nat->qF β}{b:β}{j:Nat}(h:x.then k = .ok (b,j)):∃ a q,x = .ok (a,q)/\k a q = .ok (b,j):=by
 cases x with
 | error e=>cases h
 | ok a=>exact⟨a.1,a.2,rfl,h⟩
theorem xP{rs:List Int}{r:Int}{i j:Nat}{u:Unit}(h:vR rs r i = .ok (u,j)):xU rs i=r/\j=i+1:=by
 unfold vR at h;split at h
 .cases h;exact⟨by assumption,rfl⟩
 .cases h
theorem gJ{rs:List Int}{i j:Nat}{x:Wd}(h:gK rs i = .ok (x,j)):i<j:=by
 unfold gK at h;split at h
 .cases h
 .cases h;omega
theorem YN{rs:List Int}{i j:Nat}{x:Wd}(h:kK rs i = .ok (x,j)):i<j:=by
 unfold kK at h;split at h
 .cases h
 .cases h;omega
theorem Ai{rs:List Int}{num:Bool}{i j:Nat}{x:Wd}(h:Kg rs num i = .ok (x,j)):i<j:=by
 unfold Kg at h;split at h
 .obtain⟨a,q,h1,h2⟩:=xd h
  cases h2;have:=YN h1;omega
 .obtain⟨a,q,h1,h2⟩:=xd h;split at h2
  .cases h2
  .cases h2;exact gJ h1
theorem CO{rs:List Int}{msg:Option kN}{num:Bool}{i j:Nat}{f:Fo}(hm:∀ m,msg=some m->Gc m)(h:Xv rs msg num i = .ok (f,j)):i<j:=by
 unfold Xv at h;obtain⟨k,a,h1,h2⟩:=xd h;obtain⟨u,b,h3,h4⟩:=xd h2;have e1:=Ai h1;have e2:=(xP h3).2;have e3:=xN rs a
 cases msg with
 | none=>cases h4
 | some m =>
  obtain⟨g,c,h5,h6⟩:=xd (show(m num b).then _=_ from h4);obtain⟨u2,z,h7,h8⟩:=xd h6;have e4:=hm m rfl _ _ _ _ h5;have e5:=(xP h7).2;have e6:=xN rs z
  cases h8;omega
theorem IV{rs:List Int}{msg:Option kN}{num:Bool}(hm:∀ m,msg=some m->Gc m):∀ (n:Nat) (acc:Fo) (i j:Nat) (f:Fo),ji rs msg num n acc i = .ok (f,j)->i<=j
 | 0,acc,i,j,f,h=>by cases h
 | n+1,acc,i,j,f,h=>by
  rw[ji] at h;split at h
  .cases h;exact z8 _
  .obtain⟨g,q,h1,h2⟩:=xd h;have:=CO hm h1;have:=IV hm n _ _ _ _ h2;omega
theorem CP{rs:List Int}{form i j:Nat}{o:Wd}(h:JN rs form i = .ok (o,j)):i<=j:=by
 unfold JN at h;split at h
 .obtain⟨a,q,h1,h2⟩:=xd h
  cases h2;have:=YN h1;have:=xN rs (i+7);have:=xN rs q;omega
 .cases h;exact z8 _
theorem R1{rs:List Int}{msg:Option kN}{i j:Nat}{f:Fo}(hm:∀ m,msg=some m->Gc m)(h:YI rs msg i = .ok (f,j)):i<j:=by
 unfold YI at h;obtain⟨u,a,h1,h2⟩:=xd h;obtain⟨nm,b,h3,h4⟩:=xd h2;have e1:=(xP h1).2;have e2:=xN rs a;have e3:=gJ h3;have e4:=xN rs b;clear h h1 h2 h3;split at h4
 .obtain⟨u,z,h5,h6⟩:=xd h4;have:=(xP h5).2
  cases h6;omega
 .obtain⟨wd,c,h5,h6⟩:=xd h4;have e5:=gJ h5;have e6:=xN rs (xh rs b+1);have e7:=xN rs c;clear h4 h5;split at h6
  .obtain⟨u,z,h7,h8⟩:=xd h6;have:=(xP h7).2
   cases h8;omega
  .split at h6
   .cases h6
   .obtain⟨u,d,h7,h8⟩:=xd h6;obtain⟨o,l,h9,du⟩:=xd h8;obtain⟨bs,q,Qn,Qp⟩:=xd du;obtain⟨u,z,oD,oB⟩:=xd Qp;have:=(xP h7).2;have:=xN rs d;have:=CP h9;have:=IV hm _ _ _ _ _ Qn;have:=(xP oD).2
    cases oB;omega
theorem Q8(rs:List Int)(num:Bool)(i:Nat):i<(jq rs num i).2:=by
 unfold jq;split
 .exact zc _
 split
 .exact Nat.lt_add_of_pos_right (by decide)
 split
 .exact zc _
 .show i<i+1+_;omega
theorem XL{rs:List Int}{msg:Option kN}{num:Bool}(hm:∀ m,msg=some m->Gc m):∀ (n:Nat) (acc:Fo) (i j:Nat) (f:Fo),qI rs msg num n acc i = .ok (f,j)->i<=j
 | 0,acc,i,j,f,h=>by cases h
 | n+1,acc,i,j,f,h=>by
  rw[qI] at h;split at h
  .cases h;exact z8 _
  split at h
  .obtain⟨g,q,h1,h2⟩:=xd h;have:=R1 hm h1;have:=XL hm n _ _ _ _ h2;omega
  split at h
  .have:=XL hm n _ _ _ _ h;omega
  .have:=XL hm n _ _ _ _ h;have:=Q8 rs num i;omega
theorem CR(rs:List Int):∀ n,Gc (YL rs n)
 | 0,num,i,f,j,h=>by
  rw[YL] at h;exact XL (fun m e=>by cases e) _ _ _ _ _ h
 | n+1,num,i,f,j,h=>by
  rw[YL] at h;exact XL (fun m e=>by cases e;exact CR rs n) _ _ _ _ _ h
end Go.Proofs.YthpldolmpinnhaaGreatDoor
