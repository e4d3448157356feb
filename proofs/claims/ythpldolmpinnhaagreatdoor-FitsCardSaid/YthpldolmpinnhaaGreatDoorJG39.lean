import Derived.Test.YthpldolmpinnhaaGreatDoorJG38
import Derived.Deep.LoopGhost
import Derived.WalkMore
import Derived.Defers
import Derived.Recover
import Derived.Maps.Own
import Derived.Maps.Views
set_option maxHeartbeats 64000000
open Go.Lib renaming hid→z7,hasPrefix→zv,trimPrefix→zU,encodeRune→zG,idxFromS→yz
open Nat renaming le_refl→z8,le_trans→zX,zero_le→zV,zero_add→zM,not_lt_zero→yf
open List renaming length_append→zy,length_cons→zu,isPrefixOf→zj,take_succ_eq_append_getElem→zf,length_nil→zY,all_append→zQ,length_drop→zD,mem_append→zN,takeWhile_cons_of_pos→zP,takeWhile_cons_of_neg→zR,getElem?_append_right→zS,mem_of_find?_eq_some→za,getElem_append_right→zc,getElem?_append_left→ze,drop_eq_getElem_cons→zi,mem_cons→zm,getElem_append_left→zn,drop_of_length_le→zh,find?_append→yq,mem_filter→yj
open Go.World renaming block_lt_of_cell?→zx,cell?_alloc_lt→zZ,setCell→zF,cell?_setCell_same→zW,frozen?_of_block→zr,ownsRow_nil→yu
open Go.RowKit.Below renaming refl→zk,heap_setCell→yv,heap_alloc→yk
open Bool renaming and_eq_true→zg
open Go.WideMaps renaming keyOf_string_mk→zJ
open Go.Instr renaming index→zE,makeFunc→yg
open ByteArray renaming getElem_eq_getElem_data→zH,empty→zI
open Go.Maps renaming string_keyed→zL,atKey_put_other→yy
open Option renaming isSome_iff_exists→zO
open Go.Op renaming equalIn→zl
open Go.Lib.laidMet renaming reads→zo
open Option.some renaming inj→zt
open And renaming intro→zw
open Go.DataW renaming trod→yx
open Go.Proofs.Tryz
namespace Go.Proofs.YthpldolmpinnhaaGreatDoor
open Go Go.RowKit
set_option maxRecDepth 10000
theorem WA(s:ByteArray)(w:World)(hs:s.size<=1000000) :
  Calls prog 66 #[.string s,.string ⟨#[64]⟩] w fun e w' =>
   e = .returned (.tuple #[.string ⟨(s.data.toList.take (s.data.toList.idxOf 64)).toArray⟩,.string ⟨(s.data.toList.drop (s.data.toList.idxOf 64+1)).toArray⟩,.bool (decide (s.data.toList.idxOf 64<s.size))])/\∃ n,w'=w.drewN n:=by
 have hL:=fun w=>JX s 64 w hs
 have HL:=z7 hL;clear hL;go_enter func66,ntmps66;go_wp2_with fail;refine(HL.out _).mono ?_;rintro e w' ⟨rfl,n,rfl⟩;go_wp2;go_ret3
 exact⟨rfl,n,rfl⟩
abbrev sH:Ending := .panicked [{ v := .iface 278 (.agg #[]),recovered:=false }]
def yif(r:Option (List Wd))(w:World)(e:Ending)(w':World):Prop :=
 (match r with|none=>e=sH|some ws=>∃ v,e = .returned v/\w'.ownsRow w.heap.size 9 1 v ws.length (ws.map xg))/\Below w.heap.size w w'
def zf8(r:Option (List Wd))(n0:Nat)(w:World)(s sv:Value)(n:Nat)(wr:World):Prop :=
 ∃ (acc:List Wd) (l:List UInt8),s = .string ⟨l.toArray⟩/\wr.ownsRow w.heap.size 9 1 sv acc.length (acc.map xg)/\Below w.heap.size w wr/\l.length<n/\l.length+acc.length<=n0/\jm n acc l=r
theorem YV{l m:List UInt8}(h:zv l m=false):zU l m=l:=by
 unfold zU;simp[h]
theorem V7{c:UInt8}{t m:List UInt8}(hm:m=[33,61]\/m=[46,46]\/m=[61]\/m=[44]\/m=[37])(h:zv (c::t) m=true):Fj (c::t)=some m/\zU (c::t) m=(c::t).drop m.length:=by
 have ht:zU (c::t) m=(c::t).drop m.length:=by unfold zU;rw[if_pos h]
 refine⟨?_,ht⟩;unfold zv at h;rcases hm with rfl|rfl|rfl|rfl|rfl
 .cases t with
  | nil=>simp[zj] at h
  | cons d u =>
   simp[zj] at h;obtain⟨rfl,rfl⟩:=h;rfl
 .cases t with
  | nil=>simp[zj] at h
  | cons d u =>
   simp[zj] at h;obtain⟨rfl,rfl⟩:=h;rfl
 .simp[zj] at h;subst h;rfl
 .simp[zj] at h;subst h;rfl
 .simp[zj] at h;subst h;rfl
theorem Wa{c:UInt8}{t:List UInt8}(h0:zv (c::t) [33,61]=false)(h1:zv (c::t) [46,46]=false)(h2:zv (c::t) [61]=false)(h3:zv (c::t) [44]=false)(h4:zv (c::t) [37]=false):Fj (c::t)=none:=by
 unfold Fj;split
 .rename_i u e;cases e;simp[zv,zj] at h0
 .rename_i u e;cases e;simp[zv,zj] at h1
 .rename_i u e;cases e;simp[zv,zj] at h2
 .rename_i u e;cases e;simp[zv,zj] at h3
 .rename_i u e;cases e;simp[zv,zj] at h4
 .rfl
theorem X0{p:UInt8->Bool}:∀ {t:List UInt8} {m:Nat},m<=t.length->(t.take m).all p=true->(∀ h:m<t.length,p t[m]=false)->t.takeWhile p=t.take m/\t.dropWhile p=t.drop m
 | [],0,_,_,_=>⟨rfl,rfl⟩
 | [],m+1,h,_,_=>absurd h (by simp)
 | c::t,0,_,_,h=>by
  have:=h (by simp);have hc:p c=false:=by simpa using this
  rw[zR (by simp[hc]),List.dropWhile_cons_of_neg (by simp[hc])];exact⟨rfl,rfl⟩
 | c::t,m+1,hm,ha,h=>by
  simp only[List.take_succ_cons,List.all_cons,zg] at ha;have ih:=X0 (t:=t) (m:=m) (by simpa using hm) ha.2 (fun hl=>by have:=h (by simp;omega);simpa using this);rw[zP ha.1,List.dropWhile_cons_of_pos ha.1,ih.1,ih.2];exact⟨rfl,rfl⟩
theorem MY(c:UInt8):xC c<=3:=by
 unfold xC;split
 .decide
 split
 .decide
 split<;>decide
theorem PD(s:ByteArray)(w:World)(hs:s.size<=1000):Calls prog 140 #[.string s] w (yif (OV s.data.toList) w):=by
 obtain⟨r,hr⟩:=xX (OV s.data.toList);rw[hr];have nl:(s.data.toList.take (s.data.toList.idxOf 64)).length<=s.size:=by simp;omega
 unfold OV at hr;rw[xc] at hr;obtain⟨l0,hl⟩:=xX (s.data.toList.take (s.data.toList.idxOf 64));have hC:=WA s w (by omega);rw[hl] at hr nl hC;have HR:=z7 hr;have HC:=z7 hC;have U5:∀ (s p:ByteArray) (W:World),Calls prog 65 #[.string s,.string p] W fun e w'=>e = .returned (.tuple #[.string ⟨(zU s.data.toList p.data.toList).toArray⟩,.bool (zv s.data.toList p.data.toList)])/\W=w':=fun s p W=>(Tryz.strings_CutPrefix s p W).mono fun _ _ h=>⟨h.1,h.2.symm⟩
 have BP:=z7 U5;clear hr hl hC U5;have zo5:∀ W:World,(zE 303 (.agg #[.string ⟨#[33,61]⟩,.string ⟨#[46,46]⟩,.string ⟨#[61]⟩,.string ⟨#[44]⟩,.string ⟨#[37]⟩]) (.int .i64 0)).run prog W = .ok (.string ⟨#[33,61]⟩) W:=fun W=>by kernel_rfl
 have zo6:∀ W:World,(zE 303 (.agg #[.string ⟨#[33,61]⟩,.string ⟨#[46,46]⟩,.string ⟨#[61]⟩,.string ⟨#[44]⟩,.string ⟨#[37]⟩]) (.int .i64 1)).run prog W = .ok (.string ⟨#[46,46]⟩) W:=fun W=>by kernel_rfl
 have zo7:∀ W:World,(zE 303 (.agg #[.string ⟨#[33,61]⟩,.string ⟨#[46,46]⟩,.string ⟨#[61]⟩,.string ⟨#[44]⟩,.string ⟨#[37]⟩]) (.int .i64 2)).run prog W = .ok (.string ⟨#[61]⟩) W:=fun W=>by kernel_rfl
 have yid:∀ W:World,(zE 303 (.agg #[.string ⟨#[33,61]⟩,.string ⟨#[46,46]⟩,.string ⟨#[61]⟩,.string ⟨#[44]⟩,.string ⟨#[37]⟩]) (.int .i64 3)).run prog W = .ok (.string ⟨#[44]⟩) W:=fun W=>by kernel_rfl
 have yib:∀ W:World,(zE 303 (.agg #[.string ⟨#[33,61]⟩,.string ⟨#[46,46]⟩,.string ⟨#[61]⟩,.string ⟨#[44]⟩,.string ⟨#[37]⟩]) (.int .i64 4)).run prog W = .ok (.string ⟨#[37]⟩) W:=fun W=>by kernel_rfl
 go_enter func140,ntmps140;go_wp2_with fail;go_step3
 go_wp2_with fail;refine HC.out.mono ?_;rintro e w1 ⟨rfl,nd,rfl⟩;go_wp2_with fail;go_step3
 go_wp2_with fail;go_loopg [0,2] (s.size+1) (fun n sl sv wr=>zf8 r s.size w sl sv n wr)
 case atStart=>exact⟨[],l0,rfl,yu _ _ _ _,below_drewN (zk _ _) nd,by omega,by simp;omega,HR.out⟩
 case round =>
  obtain⟨acc,l,rfl,xV,hb,kR,BN,jc⟩:=hrel;obtain⟨a,cap,rfl⟩:=xf xV;have HO:=z7 xV;have HG:=z7 jc;obtain⟨n,rfl⟩:∃ n,gk=n+1:=⟨gk - 1,by omega⟩;clear xV jc
  cases l with
  | nil =>
   have hg:r=some acc:=by rw[<-HG.out,jm]
   have HGG:=z7 hg;clear hg;go_wp2;try rw[Exit.noGoto_ret]
   go_ret;rw[HGG.out];exact⟨⟨_,rfl,HO.out⟩,hb⟩
  | cons c t =>
   have qc:=size_mk (c::t);obtain⟨u,hu⟩:∃ u:ByteArray,u=⟨(c::t).toArray⟩:=⟨_,rfl⟩;have hud:u.data.toList=c::t:=by rw[hu]
   rw[<-hu] at qc |-
   have HU:=z7 hu;have MX:=z7 hud;have gx:(0:Int)<(u.size:Int):=by rw[qc];simp
   have dJ:=z7 qc;clear hu hud;have xB:t.length+1<=s.size:=by have h1:=BN;simp at h1;omega
   clear qc;have P0:=BP.out u ⟨#[33,61]⟩;have P1:=BP.out u ⟨#[46,46]⟩;have P2:=BP.out u ⟨#[61]⟩;have P3:=BP.out u ⟨#[44]⟩;have P4:=BP.out u ⟨#[37]⟩;rw[MX.out] at P0;rw[MX.out] at P1;rw[MX.out] at P2;rw[MX.out] at P3;rw[MX.out] at P4
   cases q0:zv (c::t) (⟨#[33,61]⟩:ByteArray).data.toList
   .skip
    rw[q0,YV q0] at P0;have oz:=z7 P0;have Q0:=z7 q0;clear P0 q0
    cases q1:zv (c::t) (⟨#[46,46]⟩:ByteArray).data.toList
    .skip
     rw[q1,YV q1] at P1;have JZ:=z7 P1;have Q1:=z7 q1;clear P1 q1
     cases q2:zv (c::t) (⟨#[61]⟩:ByteArray).data.toList
     .skip
      rw[q2,YV q2] at P2;have FM:=z7 P2;have Q2:=z7 q2;clear P2 q2
      cases q3:zv (c::t) (⟨#[44]⟩:ByteArray).data.toList
      .skip
       rw[q3,YV q3] at P3;have lL:=z7 P3;have Q3:=z7 q3;clear P3 q3
       cases q4:zv (c::t) (⟨#[37]⟩:ByteArray).data.toList
       .skip
        rw[q4,YV q4] at P4;have Mq:=z7 P4;have Q4:=z7 q4;clear P4 q4;have MV:=Wa Q0.out Q1.out Q2.out Q3.out Q4.out;have jc:=HG.out;rw[jm,MV] at jc;have dp:=z7 jc;clear jc MV;go_wp2_with fail;refine wp_loop_rounds 6 ?_;rw[rounds_succ];go_wp2_with fail;refine(oz.out _).mono ?_;rintro e wz0 ⟨rfl,rfl⟩;go_wp2_with fail;rw[rounds_succ];go_wp2_with fail;refine(JZ.out _).mono ?_;rintro e wz1 ⟨rfl,rfl⟩;go_wp2_with fail;rw[rounds_succ];go_wp2_with fail;refine(FM.out _).mono ?_;rintro e wz2 ⟨rfl,rfl⟩;go_wp2_with fail;rw[rounds_succ];go_wp2_with fail;refine(lL.out _).mono ?_;rintro e wz3 ⟨rfl,rfl⟩;go_wp2_with fail;rw[rounds_succ];go_wp2_with fail;refine(Mq.out _).mono ?_;rintro e wz4 ⟨rfl,rfl⟩;go_wp2_with fail;rw[rounds_succ];have Zd:=fun W=>fw c W
        have Au:u[0]'(by omega)=c:=by
         have h1:=HU.out;subst h1;simp[zH]
        go_wp2_with fail;have AM:=z7 Zd;have HG0:=z7 Au;clear Zd Au;have eR:=MY c;have hKc:=(by omega:xC c=0\/xC c=1\/xC c=2\/xC c=3);have KZ:u.size=t.length+1:=dJ.out;have hux:∀ m (h:m<t.length) (h2:m+1<u.size),u[m+1]=t[m]:=fun m h h2=>by
         have h1:=HU.out;subst h1;simp[zH]
        have HUX:=z7 hux;have Jr:=AM.out wr;clear zo5 zo6 zo7 yid yib hux eR KZ gx;rcases hKc with hK|hK|hK|hK
        .skip
         rw[hK] at Jr;refine Jr.mono ?_;rintro e w3 ⟨rfl,rfl⟩;have HK:=z7 hK;clear hK Jr;go_wp2_with fail;go_loop [7] (fun v=>∃ m:Nat,m<=t.length/\v = .int .i64 ((m+1:Nat):Int)/\(t.take m).all (fun d=>xC d==xC c)=true) (fun v=>t.length+1 - (intOf v).toNat)
         case atStart=>exact⟨0,zV _,rfl,rfl⟩
         case round =>
          obtain⟨m,hm,rfl,qQ⟩:=hrel;have Xl:=z7 qQ;clear qQ;by_cases Eh:m<t.length
          .have b1:m+1<u.size:=by have Fu:u.size=t.length+1:=dJ.out;omega
           have hum:=HUX.out m Eh b1;have b2:(m:Int)+1<(u.size:Int):=by omega
           have b3:m+1<=u.size:=by omega
           have jS:=fw t[m] wr;obtain⟨K2,Hc⟩:=xX (xC t[m]);rw[Hc] at jS;have HCM:=z7 jS;have N2:=z7 Hc;clear jS Hc;go_wp2_with fail;refine HCM.out.mono ?_;rintro e w4 ⟨rfl,rfl⟩;by_cases hq:K2=0
           .have hq':((K2:Int)==0)=true:=by rw[hq];rfl
            have KA:(t.take (m+1)).all (fun d=>xC d==xC c)=true:=by
             rw[zf Eh,zQ,Xl.out];simp[N2.out,HK.out,hq]
            have PC:=z7 KA;clear hq KA;go_wp2;exact⟨⟨m+1,by omega,by go_num,PC.out⟩,by simp[intOf];omega⟩
           .have hq':((K2:Int)==0)=false:=by simp;omega
            have vH:=X0 (p:=fun d=>xC d==xC c) hm Xl.out (fun h=>by simp[N2.out,HK.out,hq]);have fQ:=z7 vH;clear vH hq;have vg:r=none:=by rw[<-dp.out,if_pos HK.out]
            have gB:=z7 vg;clear vg;go_wp2;refine⟨rfl,?_,hb⟩;rw[gB.out]
          .have vH:=X0 (p:=fun d=>xC d==xC c) hm Xl.out (fun h=>absurd h Eh);have fQ:=z7 vH;have b2:¬((m:Int)+1<(u.size:Int)):=by have Fu:u.size=t.length+1:=dJ.out;omega
           have b1:¬(m+1<u.size):=by omega
           have b3:m+1<=u.size:=by have Fu:u.size=t.length+1:=dJ.out;omega
           clear vH Eh;have vg:r=none:=by rw[<-dp.out,if_pos HK.out]
           have gB:=z7 vg;clear vg;go_wp2;refine⟨rfl,?_,hb⟩;rw[gB.out]
        .skip
         rw[hK] at Jr;refine Jr.mono ?_;rintro e w3 ⟨rfl,rfl⟩;have HK:=z7 hK;clear hK Jr;go_wp2_with fail;go_loop [7] (fun v=>∃ m:Nat,m<=t.length/\v = .int .i64 ((m+1:Nat):Int)/\(t.take m).all (fun d=>xC d==xC c)=true) (fun v=>t.length+1 - (intOf v).toNat)
         case atStart=>exact⟨0,zV _,rfl,rfl⟩
         case round =>
          obtain⟨m,hm,rfl,qQ⟩:=hrel;have Xl:=z7 qQ;clear qQ;by_cases Eh:m<t.length
          .have b1:m+1<u.size:=by have Fu:u.size=t.length+1:=dJ.out;omega
           have hum:=HUX.out m Eh b1;have b2:(m:Int)+1<(u.size:Int):=by omega
           have b3:m+1<=u.size:=by omega
           have jS:=fw t[m] wr;obtain⟨K2,Hc⟩:=xX (xC t[m]);rw[Hc] at jS;have HCM:=z7 jS;have N2:=z7 Hc;clear jS Hc;go_wp2_with fail;refine HCM.out.mono ?_;rintro e w4 ⟨rfl,rfl⟩;by_cases hq:K2=1
           .have hq':((K2:Int)==1)=true:=by rw[hq];rfl
            have KA:(t.take (m+1)).all (fun d=>xC d==xC c)=true:=by
             rw[zf Eh,zQ,Xl.out];simp[N2.out,HK.out,hq]
            have PC:=z7 KA;clear hq KA;go_wp2;exact⟨⟨m+1,by omega,by go_num,PC.out⟩,by simp[intOf];omega⟩
           .have hq':((K2:Int)==1)=false:=by simp;omega
            have vH:=X0 (p:=fun d=>xC d==xC c) hm Xl.out (fun h=>by simp[N2.out,HK.out,hq]);have fQ:=z7 vH;clear vH hq;have V8:jm n acc (t.drop m)=r:=by
             have h1:=dp.out;rw[if_neg (by rw[HK.out];decide),fQ.out.1,fQ.out.2] at h1;rw[if_pos HK.out] at h1;exact h1
            have VT:=z7 V8;have qV:u.extract (m+1) u.size=⟨(t.drop m).toArray⟩:=by rw[qH,MX.out];rfl
            have dM:u.extract 0 (m+1)=⟨(c::t.take m).toArray⟩:=by rw[qE,MX.out];rfl
            have mV:=z7 dM;have TS:=z7 qV;clear V8 dM qV;go_wp2;rw[TS.out];go_roundg n
            case measure=>omega
            case rel=>exact⟨acc,t.drop m,rfl,HO.out,hb,by simp at kR |-;omega,by simp at BN |-;omega,VT.out⟩
          .have vH:=X0 (p:=fun d=>xC d==xC c) hm Xl.out (fun h=>absurd h Eh);have fQ:=z7 vH;have b2:¬((m:Int)+1<(u.size:Int)):=by have Fu:u.size=t.length+1:=dJ.out;omega
           have b1:¬(m+1<u.size):=by omega
           have b3:m+1<=u.size:=by have Fu:u.size=t.length+1:=dJ.out;omega
           clear vH Eh;have V8:jm n acc (t.drop m)=r:=by
            have h1:=dp.out;rw[if_neg (by rw[HK.out];decide),fQ.out.1,fQ.out.2] at h1;rw[if_pos HK.out] at h1;exact h1
           have VT:=z7 V8;have qV:u.extract (m+1) u.size=⟨(t.drop m).toArray⟩:=by rw[qH,MX.out];rfl
           have dM:u.extract 0 (m+1)=⟨(c::t.take m).toArray⟩:=by rw[qE,MX.out];rfl
           have mV:=z7 dM;have TS:=z7 qV;clear V8 dM qV;go_wp2;rw[TS.out];go_roundg n
           case measure=>omega
           case rel=>exact⟨acc,t.drop m,rfl,HO.out,hb,by simp at kR |-;omega,by simp at BN |-;omega,VT.out⟩
        .skip
         rw[hK] at Jr;refine Jr.mono ?_;rintro e w3 ⟨rfl,rfl⟩;have HK:=z7 hK;clear hK Jr;go_wp2_with fail;go_loop [7] (fun v=>∃ m:Nat,m<=t.length/\v = .int .i64 ((m+1:Nat):Int)/\(t.take m).all (fun d=>xC d==xC c)=true) (fun v=>t.length+1 - (intOf v).toNat)
         case atStart=>exact⟨0,zV _,rfl,rfl⟩
         case round =>
          obtain⟨m,hm,rfl,qQ⟩:=hrel;have Xl:=z7 qQ;clear qQ;by_cases Eh:m<t.length
          .have b1:m+1<u.size:=by have Fu:u.size=t.length+1:=dJ.out;omega
           have hum:=HUX.out m Eh b1;have b2:(m:Int)+1<(u.size:Int):=by omega
           have b3:m+1<=u.size:=by omega
           have jS:=fw t[m] wr;obtain⟨K2,Hc⟩:=xX (xC t[m]);rw[Hc] at jS;have HCM:=z7 jS;have N2:=z7 Hc;clear jS Hc;go_wp2_with fail;refine HCM.out.mono ?_;rintro e w4 ⟨rfl,rfl⟩;by_cases hq:K2=2
           .have hq':((K2:Int)==2)=true:=by rw[hq];rfl
            have KA:(t.take (m+1)).all (fun d=>xC d==xC c)=true:=by
             rw[zf Eh,zQ,Xl.out];simp[N2.out,HK.out,hq]
            have PC:=z7 KA;clear hq KA;go_wp2;exact⟨⟨m+1,by omega,by go_num,PC.out⟩,by simp[intOf];omega⟩
           .have hq':((K2:Int)==2)=false:=by simp;omega
            have vH:=X0 (p:=fun d=>xC d==xC c) hm Xl.out (fun h=>by simp[N2.out,HK.out,hq]);have fQ:=z7 vH;clear vH hq;have V8:jm n (acc++[c::t.take m]) (t.drop m)=r:=by
             have h1:=dp.out;rw[if_neg (by rw[HK.out];decide),fQ.out.1,fQ.out.2] at h1;rw[if_neg (by rw[HK.out];decide)] at h1;exact h1
            have VT:=z7 V8;have qV:u.extract (m+1) u.size=⟨(t.drop m).toArray⟩:=by rw[qH,MX.out];rfl
            have dM:u.extract 0 (m+1)=⟨(c::t.take m).toArray⟩:=by rw[qE,MX.out];rfl
            have mV:=z7 dM;have TS:=z7 qV;clear V8 dM qV;go_wp2_with (at_builtin;refine qX qz rfl _ _ rfl w.heap.size _ _ _ rfl (HO.out.alloc _) ⟨wr.heap.size,0,none⟩ 1 1 [.string (u.extract 0 (m+1))] rfl rfl ?c1x2 ?c2x2 ?c3x2 ?c4x2 ?_);try(case c1x2=>exact cells_one (xu _ _ _ _ _))
            try(case c2x2=>first|rfl|(intro x hx;simp at hx;subst hx;rfl))
            try(case c3x2=>omega)
            try(case c4x2=>have:=hb.size;simp;omega)
            intro QE w5 jo qm;have jW:Below w.heap.size w w5:=(hb.alloc hb.size _).grown qm (by have:=hb.size;simp;omega) (fun q hq=>(HO.out.lt q hq).1);obtain⟨a5,c5,rfl⟩:=xf jo;rw[mV.out] at jo;have GI:=z7 jo;clear jo qm;go_wp2;rw[TS.out];go_roundg n
            case measure=>omega
            case rel=>exact⟨acc++[c::t.take m],t.drop m,rfl,by simpa using GI.out,jW,by simp at kR |-;omega,by simp at BN;simp only[zy,zu,zY,zD];omega,VT.out⟩
          .have vH:=X0 (p:=fun d=>xC d==xC c) hm Xl.out (fun h=>absurd h Eh);have fQ:=z7 vH;have b2:¬((m:Int)+1<(u.size:Int)):=by have Fu:u.size=t.length+1:=dJ.out;omega
           have b1:¬(m+1<u.size):=by omega
           have b3:m+1<=u.size:=by have Fu:u.size=t.length+1:=dJ.out;omega
           clear vH Eh;have V8:jm n (acc++[c::t.take m]) (t.drop m)=r:=by
            have h1:=dp.out;rw[if_neg (by rw[HK.out];decide),fQ.out.1,fQ.out.2] at h1;rw[if_neg (by rw[HK.out];decide)] at h1;exact h1
           have VT:=z7 V8;have qV:u.extract (m+1) u.size=⟨(t.drop m).toArray⟩:=by rw[qH,MX.out];rfl
           have dM:u.extract 0 (m+1)=⟨(c::t.take m).toArray⟩:=by rw[qE,MX.out];rfl
           have mV:=z7 dM;have TS:=z7 qV;clear V8 dM qV;go_wp2_with (at_builtin;refine qX qz rfl _ _ rfl w.heap.size _ _ _ rfl (HO.out.alloc _) ⟨wr.heap.size,0,none⟩ 1 1 [.string (u.extract 0 (m+1))] rfl rfl ?c1x3 ?c2x3 ?c3x3 ?c4x3 ?_);try(case c1x3=>exact cells_one (xu _ _ _ _ _))
           try(case c2x3=>first|rfl|(intro x hx;simp at hx;subst hx;rfl))
           try(case c3x3=>omega)
           try(case c4x3=>have:=hb.size;simp;omega)
           intro QE w5 jo qm;have jW:Below w.heap.size w w5:=(hb.alloc hb.size _).grown qm (by have:=hb.size;simp;omega) (fun q hq=>(HO.out.lt q hq).1);obtain⟨a5,c5,rfl⟩:=xf jo;rw[mV.out] at jo;have GI:=z7 jo;clear jo qm;go_wp2;rw[TS.out];go_roundg n
           case measure=>omega
           case rel=>exact⟨acc++[c::t.take m],t.drop m,rfl,by simpa using GI.out,jW,by simp at kR |-;omega,by simp at BN;simp only[zy,zu,zY,zD];omega,VT.out⟩
        .skip
         rw[hK] at Jr;refine Jr.mono ?_;rintro e w3 ⟨rfl,rfl⟩;have HK:=z7 hK;clear hK Jr;go_wp2_with fail;go_loop [7] (fun v=>∃ m:Nat,m<=t.length/\v = .int .i64 ((m+1:Nat):Int)/\(t.take m).all (fun d=>xC d==xC c)=true) (fun v=>t.length+1 - (intOf v).toNat)
         case atStart=>exact⟨0,zV _,rfl,rfl⟩
         case round =>
          obtain⟨m,hm,rfl,qQ⟩:=hrel;have Xl:=z7 qQ;clear qQ;by_cases Eh:m<t.length
          .have b1:m+1<u.size:=by have Fu:u.size=t.length+1:=dJ.out;omega
           have hum:=HUX.out m Eh b1;have b2:(m:Int)+1<(u.size:Int):=by omega
           have b3:m+1<=u.size:=by omega
           have jS:=fw t[m] wr;obtain⟨K2,Hc⟩:=xX (xC t[m]);rw[Hc] at jS;have HCM:=z7 jS;have N2:=z7 Hc;clear jS Hc;go_wp2_with fail;refine HCM.out.mono ?_;rintro e w4 ⟨rfl,rfl⟩;by_cases hq:K2=3
           .have hq':((K2:Int)==3)=true:=by rw[hq];rfl
            have KA:(t.take (m+1)).all (fun d=>xC d==xC c)=true:=by
             rw[zf Eh,zQ,Xl.out];simp[N2.out,HK.out,hq]
            have PC:=z7 KA;clear hq KA;go_wp2;exact⟨⟨m+1,by omega,by go_num,PC.out⟩,by simp[intOf];omega⟩
           .have hq':((K2:Int)==3)=false:=by simp;omega
            have vH:=X0 (p:=fun d=>xC d==xC c) hm Xl.out (fun h=>by simp[N2.out,HK.out,hq]);have fQ:=z7 vH;clear vH hq;have V8:jm n (acc++[c::t.take m]) (t.drop m)=r:=by
             have h1:=dp.out;rw[if_neg (by rw[HK.out];decide),fQ.out.1,fQ.out.2] at h1;rw[if_neg (by rw[HK.out];decide)] at h1;exact h1
            have VT:=z7 V8;have qV:u.extract (m+1) u.size=⟨(t.drop m).toArray⟩:=by rw[qH,MX.out];rfl
            have dM:u.extract 0 (m+1)=⟨(c::t.take m).toArray⟩:=by rw[qE,MX.out];rfl
            have mV:=z7 dM;have TS:=z7 qV;clear V8 dM qV;go_wp2_with (at_builtin;refine qX qz rfl _ _ rfl w.heap.size _ _ _ rfl (HO.out.alloc _) ⟨wr.heap.size,0,none⟩ 1 1 [.string (u.extract 0 (m+1))] rfl rfl ?c1x4 ?c2x4 ?c3x4 ?c4x4 ?_);try(case c1x4=>exact cells_one (xu _ _ _ _ _))
            try(case c2x4=>first|rfl|(intro x hx;simp at hx;subst hx;rfl))
            try(case c3x4=>omega)
            try(case c4x4=>have:=hb.size;simp;omega)
            intro QE w5 jo qm;have jW:Below w.heap.size w w5:=(hb.alloc hb.size _).grown qm (by have:=hb.size;simp;omega) (fun q hq=>(HO.out.lt q hq).1);obtain⟨a5,c5,rfl⟩:=xf jo;rw[mV.out] at jo;have GI:=z7 jo;clear jo qm;go_wp2;rw[TS.out];go_roundg n
            case measure=>omega
            case rel=>exact⟨acc++[c::t.take m],t.drop m,rfl,by simpa using GI.out,jW,by simp at kR |-;omega,by simp at BN;simp only[zy,zu,zY,zD];omega,VT.out⟩
          .have vH:=X0 (p:=fun d=>xC d==xC c) hm Xl.out (fun h=>absurd h Eh);have fQ:=z7 vH;have b2:¬((m:Int)+1<(u.size:Int)):=by have Fu:u.size=t.length+1:=dJ.out;omega
           have b1:¬(m+1<u.size):=by omega
           have b3:m+1<=u.size:=by have Fu:u.size=t.length+1:=dJ.out;omega
           clear vH Eh;have V8:jm n (acc++[c::t.take m]) (t.drop m)=r:=by
            have h1:=dp.out;rw[if_neg (by rw[HK.out];decide),fQ.out.1,fQ.out.2] at h1;rw[if_neg (by rw[HK.out];decide)] at h1;exact h1
           have VT:=z7 V8;have qV:u.extract (m+1) u.size=⟨(t.drop m).toArray⟩:=by rw[qH,MX.out];rfl
           have dM:u.extract 0 (m+1)=⟨(c::t.take m).toArray⟩:=by rw[qE,MX.out];rfl
           have mV:=z7 dM;have TS:=z7 qV;clear V8 dM qV;go_wp2_with (at_builtin;refine qX qz rfl _ _ rfl w.heap.size _ _ _ rfl (HO.out.alloc _) ⟨wr.heap.size,0,none⟩ 1 1 [.string (u.extract 0 (m+1))] rfl rfl ?c1x5 ?c2x5 ?c3x5 ?c4x5 ?_);try(case c1x5=>exact cells_one (xu _ _ _ _ _))
           try(case c2x5=>first|rfl|(intro x hx;simp at hx;subst hx;rfl))
           try(case c3x5=>omega)
           try(case c4x5=>have:=hb.size;simp;omega)
           intro QE w5 jo qm;have jW:Below w.heap.size w w5:=(hb.alloc hb.size _).grown qm (by have:=hb.size;simp;omega) (fun q hq=>(HO.out.lt q hq).1);obtain⟨a5,c5,rfl⟩:=xf jo;rw[mV.out] at jo;have GI:=z7 jo;clear jo qm;go_wp2;rw[TS.out];go_roundg n
           case measure=>omega
           case rel=>exact⟨acc++[c::t.take m],t.drop m,rfl,by simpa using GI.out,jW,by simp at kR |-;omega,by simp at BN;simp only[zy,zu,zY,zD];omega,VT.out⟩
       .skip
        obtain⟨MV,S8⟩:=V7 (by simp) q4;rw[q4,S8] at P4;have Mq:=Lib.hid P4;have jc:=HG.out;rw[jm,MV] at jc;have dp:=Lib.hid jc;have uo:((c::t).drop ([37]:List UInt8).length).length<=t.length:=by simp
        have Le:=z7 uo;clear q4 MV S8 jc uo P4;go_wp2_with fail;refine wp_loop_rounds 6 ?_;rw[rounds_succ];go_wp2_with fail;refine(oz.out _).mono ?_;rintro e wz0 ⟨rfl,rfl⟩;go_wp2_with fail;rw[rounds_succ];go_wp2_with fail;refine(JZ.out _).mono ?_;rintro e wz1 ⟨rfl,rfl⟩;go_wp2_with fail;rw[rounds_succ];go_wp2_with fail;refine(FM.out _).mono ?_;rintro e wz2 ⟨rfl,rfl⟩;go_wp2_with fail;rw[rounds_succ];go_wp2_with fail;refine(lL.out _).mono ?_;rintro e wz3 ⟨rfl,rfl⟩;go_wp2_with fail;rw[rounds_succ];go_wp2_with fail;refine(Mq.out _).mono ?_;rintro e wz4 ⟨rfl,rfl⟩;go_wp2_with (at_builtin;refine qX qz rfl _ _ rfl w.heap.size _ _ _ rfl (HO.out.alloc _) ⟨wr.heap.size,0,none⟩ 1 1 [xg [37]] rfl rfl ?c1x6 ?c2x6 ?c3x6 ?c4x6 ?_);try(case c1x6=>exact cells_one (xu _ _ _ _ _))
        try(case c2x6=>first|rfl|(intro u hu;simp at hu;subst hu;rfl))
        try(case c3x6=>omega)
        try(case c4x6=>have:=hb.size;simp;omega)
        intro QE w5 jo qm;have jW:Below w.heap.size w w5:=(hb.alloc hb.size _).grown qm (by have:=hb.size;simp;omega) (fun q hq=>(HO.out.lt q hq).1);obtain⟨a5,c5,rfl⟩:=xf jo;have GI:=z7 jo;clear jo qm;go_wp2;go_roundg n
        case measure=>omega
        case rel=>exact⟨acc++[[37]],_,rfl,by simpa using GI.out,jW,by first|(have:=Le.out;simp at kR;omega)|(simp at kR |-;omega)|(simp at kR |-;exact kR),by first|(have:=Le.out;simp at BN;simp only[zy,zu,zY];omega)|(simp at BN |-;omega),by first|exact dp.out|simpa using dp.out⟩
      .skip
       obtain⟨MV,S8⟩:=V7 (by simp) q3;rw[q3,S8] at P3;have lL:=Lib.hid P3;have jc:=HG.out;rw[jm,MV] at jc;have dp:=Lib.hid jc;have uo:((c::t).drop ([44]:List UInt8).length).length<=t.length:=by simp
       have Le:=z7 uo;clear q3 MV S8 jc uo P3 P4;go_wp2_with fail;refine wp_loop_rounds 6 ?_;rw[rounds_succ];go_wp2_with fail;refine(oz.out _).mono ?_;rintro e wz0 ⟨rfl,rfl⟩;go_wp2_with fail;rw[rounds_succ];go_wp2_with fail;refine(JZ.out _).mono ?_;rintro e wz1 ⟨rfl,rfl⟩;go_wp2_with fail;rw[rounds_succ];go_wp2_with fail;refine(FM.out _).mono ?_;rintro e wz2 ⟨rfl,rfl⟩;go_wp2_with fail;rw[rounds_succ];go_wp2_with fail;refine(lL.out _).mono ?_;rintro e wz3 ⟨rfl,rfl⟩;go_wp2_with (at_builtin;refine qX qz rfl _ _ rfl w.heap.size _ _ _ rfl (HO.out.alloc _) ⟨wr.heap.size,0,none⟩ 1 1 [xg [44]] rfl rfl ?c1x7 ?c2x7 ?c3x7 ?c4x7 ?_);try(case c1x7=>exact cells_one (xu _ _ _ _ _))
       try(case c2x7=>first|rfl|(intro u hu;simp at hu;subst hu;rfl))
       try(case c3x7=>omega)
       try(case c4x7=>have:=hb.size;simp;omega)
       intro QE w5 jo qm;have jW:Below w.heap.size w w5:=(hb.alloc hb.size _).grown qm (by have:=hb.size;simp;omega) (fun q hq=>(HO.out.lt q hq).1);obtain⟨a5,c5,rfl⟩:=xf jo;have GI:=z7 jo;clear jo qm;go_wp2;go_roundg n
       case measure=>omega
       case rel=>exact⟨acc++[[44]],_,rfl,by simpa using GI.out,jW,by first|(have:=Le.out;simp at kR;omega)|(simp at kR |-;omega)|(simp at kR |-;exact kR),by first|(have:=Le.out;simp at BN;simp only[zy,zu,zY];omega)|(simp at BN |-;omega),by first|exact dp.out|simpa using dp.out⟩
     .skip
      obtain⟨MV,S8⟩:=V7 (by simp) q2;rw[q2,S8] at P2;have FM:=Lib.hid P2;have jc:=HG.out;rw[jm,MV] at jc;have dp:=Lib.hid jc;have uo:((c::t).drop ([61]:List UInt8).length).length<=t.length:=by simp
      have Le:=z7 uo;clear q2 MV S8 jc uo P2 P3 P4;go_wp2_with fail;refine wp_loop_rounds 6 ?_;rw[rounds_succ];go_wp2_with fail;refine(oz.out _).mono ?_;rintro e wz0 ⟨rfl,rfl⟩;go_wp2_with fail;rw[rounds_succ];go_wp2_with fail;refine(JZ.out _).mono ?_;rintro e wz1 ⟨rfl,rfl⟩;go_wp2_with fail;rw[rounds_succ];go_wp2_with fail;refine(FM.out _).mono ?_;rintro e wz2 ⟨rfl,rfl⟩;go_wp2_with (at_builtin;refine qX qz rfl _ _ rfl w.heap.size _ _ _ rfl (HO.out.alloc _) ⟨wr.heap.size,0,none⟩ 1 1 [xg [61]] rfl rfl ?c1x8 ?c2x8 ?c3x8 ?c4x8 ?_);try(case c1x8=>exact cells_one (xu _ _ _ _ _))
      try(case c2x8=>first|rfl|(intro u hu;simp at hu;subst hu;rfl))
      try(case c3x8=>omega)
      try(case c4x8=>have:=hb.size;simp;omega)
      intro QE w5 jo qm;have jW:Below w.heap.size w w5:=(hb.alloc hb.size _).grown qm (by have:=hb.size;simp;omega) (fun q hq=>(HO.out.lt q hq).1);obtain⟨a5,c5,rfl⟩:=xf jo;have GI:=z7 jo;clear jo qm;go_wp2;go_roundg n
      case measure=>omega
      case rel=>exact⟨acc++[[61]],_,rfl,by simpa using GI.out,jW,by first|(have:=Le.out;simp at kR;omega)|(simp at kR |-;omega)|(simp at kR |-;exact kR),by first|(have:=Le.out;simp at BN;simp only[zy,zu,zY];omega)|(simp at BN |-;omega),by first|exact dp.out|simpa using dp.out⟩
    .skip
     obtain⟨MV,S8⟩:=V7 (by simp) q1;rw[q1,S8] at P1;have JZ:=Lib.hid P1;have jc:=HG.out;rw[jm,MV] at jc;have dp:=Lib.hid jc;have uo:((c::t).drop ([46,46]:List UInt8).length).length<=t.length:=by simp
     have Le:=z7 uo;clear q1 MV S8 jc uo P1 P2 P3 P4;go_wp2_with fail;refine wp_loop_rounds 6 ?_;rw[rounds_succ];go_wp2_with fail;refine(oz.out _).mono ?_;rintro e wz0 ⟨rfl,rfl⟩;go_wp2_with fail;rw[rounds_succ];go_wp2_with fail;refine(JZ.out _).mono ?_;rintro e wz1 ⟨rfl,rfl⟩;go_wp2_with (at_builtin;refine qX qz rfl _ _ rfl w.heap.size _ _ _ rfl (HO.out.alloc _) ⟨wr.heap.size,0,none⟩ 1 1 [xg [46,46]] rfl rfl ?c1x9 ?c2x9 ?c3x9 ?c4x9 ?_);try(case c1x9=>exact cells_one (xu _ _ _ _ _))
     try(case c2x9=>first|rfl|(intro u hu;simp at hu;subst hu;rfl))
     try(case c3x9=>omega)
     try(case c4x9=>have:=hb.size;simp;omega)
     intro QE w5 jo qm;have jW:Below w.heap.size w w5:=(hb.alloc hb.size _).grown qm (by have:=hb.size;simp;omega) (fun q hq=>(HO.out.lt q hq).1);obtain⟨a5,c5,rfl⟩:=xf jo;have GI:=z7 jo;clear jo qm;go_wp2;go_roundg n
     case measure=>omega
     case rel=>exact⟨acc++[[46,46]],_,rfl,by simpa using GI.out,jW,by first|(have:=Le.out;simp at kR;omega)|(simp at kR |-;omega)|(simp at kR |-;exact kR),by first|(have:=Le.out;simp at BN;simp only[zy,zu,zY];omega)|(simp at BN |-;omega),by first|exact dp.out|simpa using dp.out⟩
   .skip
    obtain⟨MV,S8⟩:=V7 (by simp) q0;rw[q0,S8] at P0;have oz:=Lib.hid P0;have jc:=HG.out;rw[jm,MV] at jc;have dp:=Lib.hid jc;have uo:((c::t).drop ([33,61]:List UInt8).length).length<=t.length:=by simp
    have Le:=z7 uo;clear q0 MV S8 jc uo P0 P1 P2 P3 P4;go_wp2_with fail;refine wp_loop_rounds 6 ?_;rw[rounds_succ];go_wp2_with fail;refine(oz.out _).mono ?_;rintro e wz0 ⟨rfl,rfl⟩;go_wp2_with (at_builtin;refine qX qz rfl _ _ rfl w.heap.size _ _ _ rfl (HO.out.alloc _) ⟨wr.heap.size,0,none⟩ 1 1 [xg [33,61]] rfl rfl ?c1x10 ?c2x10 ?c3x10 ?c4x10 ?_);try(case c1x10=>exact cells_one (xu _ _ _ _ _))
    try(case c2x10=>first|rfl|(intro u hu;simp at hu;subst hu;rfl))
    try(case c3x10=>omega)
    try(case c4x10=>have:=hb.size;simp;omega)
    intro QE w5 jo qm;have jW:Below w.heap.size w w5:=(hb.alloc hb.size _).grown qm (by have:=hb.size;simp;omega) (fun q hq=>(HO.out.lt q hq).1);obtain⟨a5,c5,rfl⟩:=xf jo;have GI:=z7 jo;clear jo qm;go_wp2;go_roundg n
    case measure=>omega
    case rel=>exact⟨acc++[[33,61]],_,rfl,by simpa using GI.out,jW,by first|(have:=Le.out;simp at kR;omega)|(simp at kR |-;omega)|(simp at kR |-;exact kR),by first|(have:=Le.out;simp at BN;simp only[zy,zu,zY];omega)|(simp at BN |-;omega),by first|exact dp.out|simpa using dp.out⟩
theorem MU(w:World):(Instr.typeAssert (.iface 278 (.agg #[])) 20 278 true).run prog w = .ok (.tuple #[.agg #[],.bool true]) w:=by kernel_rfl
theorem UI(B:Nat)(w:World):CallsD prog 139 #[.pointer (some ⟨B,0,none⟩)] .returning w fun e u' w'=>e = .returned (.tuple #[])/\u' = .returning/\w'=w:=by
 refine callsD_of_wpS func139 rfl fun c₀ cs hu=>?_
 apply wpS_seq;apply wpS_region;simp[wpOpsS,go_sem,recoverD,hu,ntmps139,Exit.thenS];refine wpS_of_wp ?_;go_wp2
 cases c₀;simp_all [bodyPostS,results,results139]
theorem Df(B:Nat)(u:Value)(uf:List PanicEntry)(w:World)(hc:w.cell? ⟨B,0,none⟩=some u)(hz:w.frozen? ⟨B,0,none⟩=false) :
  CallsD prog 139 #[.pointer (some ⟨B,0,none⟩)] (.panicking ({ v := .iface 278 (.agg #[]),recovered:=false }::uf)) w fun e u' w' =>
   e = .returned (.tuple #[])/\u' = .panicking ({ v := .iface 278 (.agg #[]),recovered:=true }::uf)/\w'=(w.setCell ⟨B,0,none⟩ .nilFunc).alloc (.cells #[] 278):=by
 have ha:=MU;refine callsD_of_wpS func139 rfl fun c₀ cs hu=>?_
 apply wpS_seq;apply wpS_region;simp[wpOpsS,go_sem,recoverD,hu,ntmps139,Exit.thenS];refine wpS_of_wp ?_;simp only[Array.replicate,List.replicate,List.setIfInBounds_toArray,List.set_cons_zero,List.set_cons_succ,List.append_toArray,List.cons_append,List.nil_append,Act.put];have xB:B<w.heap.size:=zx w _ hc;have rH:(w.alloc (.cells #[] 278)).cell? ⟨B,0,none⟩=some u:=(zZ _ _ _ xB).trans hc;have hz':(w.alloc (.cells #[] 278)).frozen? ⟨B,0,none⟩=false:=(zr (yk _ _ _ xB)).trans hz;go_wp2;simp[bodyPostS,results,results139]
theorem sI{l:List UInt8}{g:Wd}(h:Fj l=some g):Em g/\0<g.length:=by
 unfold Fj at h;split at h<;>cases h
 all_goals exact⟨⟨by simp,by simp,.inr (by decide)⟩,by simp⟩
theorem mQ{p:UInt8->Bool}:∀ {t:List UInt8} {d:UInt8},d∈t.takeWhile p->p d=true
 | [],_,h=>by cases h
 | c::t,d,h=>by
  by_cases hc:p c=true
  .rw[zP hc] at h;rcases zm.1 h with q|q
   .rw[q];exact hc
   .exact mQ q
  .rw[zR hc] at h;cases h
theorem Dd{c:UInt8}{t:List UInt8}(h:xC c=2\/xC c=3):Em (c::t.takeWhile (fun d=>xC d==xC c))\/1000<(c::t.takeWhile (fun d=>xC d==xC c)).length:=by
 by_cases hl:(c::t.takeWhile (fun d=>xC d==xC c)).length<=1000
 .left;refine⟨by simp,hl,?_⟩;rcases h with h|h
  .left;rw[List.all_cons,(YY c).1 h,Bool.true_and,List.all_eq_true];intro d hd;have:=mQ hd;rw[h,beq_iff_eq] at this;exact(YY d).1 this
  .right;have:¬xF c=true:=fun e=>by have:=(YY c).2 e;omega
   simpa using this
 .right;omega
theorem Bf(p:UInt8->Bool)(t:List UInt8):(t.takeWhile p).length+(t.dropWhile p).length=t.length:=by
 have:=congrArg List.length (List.takeWhile_append_dropWhile (p:=p) (l:=t));rw[zy] at this;exact this
theorem Db:∀ (n:Nat) (acc:List Wd) (l:List UInt8) (ws:List Wd),jm n acc l=some ws->l.length<=999->(∀ x∈acc,Em x)->(∀ x∈ws,Em x)/\ws.length<=acc.length+l.length
 | n,acc,[],ws,h,_,ha=>by
  rw[jm] at h
  cases h;exact⟨ha,by simp⟩
 | 0,acc,c::t,ws,h,_,_=>by
  rw[jm] at h
  cases h;all_goals (intro hh;cases hh)
 | n+1,acc,c::t,ws,h,hl,ha=>by
  rw[jm] at h;simp only[zu] at hl
  cases hs:Fj (c::t) with
  | some g =>
   rw[hs] at h;dsimp only at h;obtain⟨hg,Au⟩:=sI hs;have ih:=Db n (acc++[g]) ((c::t).drop g.length) ws h (by simp;omega) (fun x hx=>by
    rcases zN.1 hx with q|q
    .exact ha x q
    .simp at q;subst q;exact hg)
   refine⟨ih.1,?_⟩;have:=ih.2;simp at this |-
   omega
  | none =>
   rw[hs] at h;dsimp only at h;by_cases h0:xC c=0
   .rw[if_pos h0] at h;cases h
   .rw[if_neg h0] at h;have hk:=MY c;have hlen:=Bf (fun d=>xC d==xC c) t;have ih:=Db n _ (t.dropWhile (fun d=>xC d==xC c)) ws h (by omega) (fun x hx=>by
     by_cases h1:xC c=1
     .rw[if_pos h1] at hx;exact ha x hx
     .rw[if_neg h1] at hx;rcases zN.1 hx with q|q
      .exact ha x q
      .simp only[zm,List.not_mem_nil,or_false] at q;subst q;rcases Dd (t:=t) (c:=c) (by omega) with w|w
       .exact w
       .simp only[zu] at w;omega)
    refine⟨ih.1,?_⟩;have h2:=ih.2;by_cases h1:xC c=1
    .rw[if_pos h1] at h2;simp;omega
    .rw[if_neg h1] at h2;simp at h2 |-;omega
theorem sM{l:List UInt8}{ws:List Wd}(h:OV l=some ws)(hl:l.length<=200):(∀ x∈ws,Em x)/\ws.length<=200:=by
 unfold OV at h;have:=Db _ _ _ _ h (by simp;omega) (fun x hx=>by cases hx);refine⟨this.1,?_⟩;have h2:=this.2;simp at h2;omega
theorem mJ:zf6 (.func (.func 142) #[] #[]) Z3 :=
 ⟨_,rfl,fun args w=>enters_of func142 (by kernel_rfl) rfl args w,fun Ts a c lo W h1 h2 h3=>M7 Ts a c lo W h1 h2 h3⟩
theorem sN:zf6 (.func (.func 144) #[] #[]) allT :=
 ⟨_,rfl,fun args w=>enters_of func144 (by kernel_rfl) rfl args w,fun Ts a c lo W h1 h2 h3=>sX Ts a c lo W h1 h2 h3⟩
theorem sO(p:Nat)(w:World)(hT:RT p w):zf5 p w (.func (.func 145) #[.pointer (some ⟨p,0,none⟩)] #[]) gj :=
 ⟨_,_,_,rfl,fun args w=>enters_of func145 (by kernel_rfl) rfl args w,fun W ws hb hp hx hl=>Et p ws W hp hx (hT.but hb) hl⟩
theorem mG{of:Dg->Dg}{t u:List Wd}{F:Dg->Dg}(h:Yx of t=some (F,u)):Sub u t:=by
 unfold Yx at h;by_cases hm:Ly (t.headD [])=true
 .rw[if_pos hm] at h
  cases hn:kS t.tail with
  | none=>rw[hn] at h;cases h
  | some q =>
   obtain⟨m,v⟩:=q;rw[hn] at h;dsimp only at h;by_cases h0:m=0
   .rw[if_pos h0] at h;cases h
   .rw[if_neg h0] at h;cases h;exact(YX hn).trans (Sub.tail t)
 .rw[if_neg hm] at h;cases h;exact Sub.refl _
theorem bI{wi nt:Bool}{ws t:List Wd}{i:qT×Bool}(h:((jM wi ws).map fun q=>((q.1,nt),q.2))=some (i,t)):Sub t ws:=by
 cases hl:jM wi ws with
 | none=>rw[hl] at h;cases h
 | some q =>
  obtain⟨T,u⟩:=q;rw[hl] at h
  cases h;exact WR hl
theorem Cj{nt:Bool}{ws t:List Wd}{i:qT×Bool}(h:((kS ws).map fun q=>((gD q.1 q.1 false,nt),q.2))=some (i,t)):Sub t ws:=by
 cases hl:kS ws with
 | none=>rw[hl] at h;cases h
 | some q =>
  obtain⟨T,u⟩:=q;rw[hl] at h
  cases h;exact YX hl
theorem MK{ws t:List Wd}{i:qT×Bool}(h:vp ws=some (i,t)):Sub t ws:=by
 have s1:=Sub.tail ws;have s2:=(Sub.tail ws.tail).trans s1;unfold vp at h;split at h
 .exact(bI h).trans s1
 split at h
 .exact(bI h).trans s1
 split at h
 .split at h
  .exact(Cj h).trans s2
  .exact(Cj h).trans s1
 .dsimp only at h;split at h
  .split at h
   .exact(bI h).trans s2
   .split at h
    .exact(bI h).trans s2
    .cases h
  .split at h
   .exact(bI h).trans s1
   .split at h
    .exact(bI h).trans s1
    .cases h
theorem MJ{ws t:List Wd}{T:qT}(h:gj ws=some (T,t)):Sub t ws:=by
 cases ws with
 | nil=>cases h
 | cons w u =>
  rw[gj] at h
  cases ho:uU w with
  | none=>rw[ho] at h;cases h
  | some of =>
   rw[ho] at h;dsimp only at h
   cases hm:Yx of u with
   | none=>rw[hm] at h;cases h
   | some q =>
    obtain⟨F,v⟩:=q;rw[hm] at h;dsimp only at h
    cases hn:vp v with
    | none=>rw[hn] at h;cases h
    | some q2 =>
     obtain⟨⟨i,nt⟩,x⟩:=q2;rw[hn] at h
     cases h;exact((MK hn).trans (mG hm)).trans ⟨fun y hy=>by simp[hy],by simp⟩
theorem DZ{word:Wd}{P:Parser}(hs:∀ us T t,P us=some (T,t)->Sub t us):∀ {n:Nat} {acc ts:List qT} {ws t:List Wd},fN word P n acc ws=some (ts,t)->Sub t ws
 | 0,_,_,_,_,h=>by cases h
 | n+1,acc,ts,ws,t,h=>by
  rw[fN] at h
  cases hi:P ws with
  | none=>rw[hi] at h;cases h
  | some r =>
   obtain⟨T,u⟩:=r;rw[hi] at h;dsimp only at h;by_cases hc:Yy word u=true
   .rw[if_pos hc] at h;exact((DZ hs h).trans (Sub.tail u)).trans (hs _ _ _ hi)
   .rw[if_neg hc] at h
    cases h;exact hs _ _ _ hi
theorem mF{ws t:List Wd}{T:qT}(h:Lx ws=some (T,t)):Sub t ws:=by
 unfold Lx Ev at h
 cases hg:fN [97,110,100] gj (ws.length+1) [] ws with
 | none=>rw[hg] at h;cases h
 | some r =>
  obtain⟨ts,u⟩:=r;rw[hg] at h
  cases h;exact DZ (fun us T t h=>MJ h) hg
theorem Wc(p pv:Nat)(ws:List Wd)(w:World)(hp:gL w p ws)(hx:∀ x∈ws,Em x)(hT:RT p w)(hl:ws.length<=1000)(hc:w.cell? ⟨pv,0,none⟩=some (.pointer (some ⟨p,0,none⟩))) :
  Calls prog 143 #[.pointer (some ⟨pv,0,none⟩)] w (Yh p (Lx ws) w):=by
 have Nv:∀ (fn:Fn) (first cap:Array Value) (w:World),(yg fn first cap).run prog w = .ok (.func fn first cap) w:=fun _ _ _ _=>rfl
 have hr:=S7 p [97,110,100] allT gj _ _ ws w hp hx hl sN (sO p w hT) (fun us T t h=>MJ h);have HR:=z7 hr;clear hr hp hx hT;go_enter func143,ntmps143;go_wp2_with fail;refine HR.out.mono ?_;rintro e w1 ⟨hq,hb⟩;have Hb:Lx ws=Ev [97,110,100] allT gj ws:=rfl
 cases hn:Ev [97,110,100] allT gj ws with
 | none =>
  rw[hn] at hq;obtain rfl:=hq;have HN:=z7 (Hb.trans hn);clear hn Hb;go_wp2;refine⟨rfl,?_,hb⟩;rw[HN.out]
 | some q =>
  obtain⟨T,t⟩:=q;rw[hn] at hq;obtain⟨⟨v,rfl,ht⟩,hp⟩:=hq;have HN:=z7 (Hb.trans hn);have Dy:=z7 ht;have KE:=z7 hp;clear hn ht hp Hb;go_wp2;go_ret;refine⟨?_,hb⟩;rw[HN.out];exact⟨⟨_,rfl,Dy.out⟩,KE.out⟩
structure S9(w:World):Prop where
 s:∃ t v,w.cell? ⟨7,0,none⟩=some (.iface t v)
 r:∃ t v,w.cell? ⟨8,0,none⟩=some (.iface t v)
theorem S9.below{w w':World}(h:S9 w)(hb:Below w.heap.size w w'):S9 w':=by
 obtain⟨⟨t,v,hs⟩,⟨t2,v2,hr⟩⟩:=h;exact⟨⟨t,v,(hb.cell (zx w _ hs)).trans hs⟩,⟨t2,v2,(hb.cell (zx w _ hr)).trans hr⟩⟩
theorem S9.at{w w':World}{p:Nat}(h:S9 w)(hb:Below w.heap.size w w')(hp:w.heap.size<=p):RT p w':=by
 have h2:=h.below hb;obtain⟨⟨t,v,hs⟩,⟨t2,v2,hr⟩⟩:=h;have l1:=zx w _ hs;have l2:=zx w _ hr;dsimp only at l1 l2;exact⟨h2.s,h2.r,by omega,by omega⟩
def yzy(r:Option qT)(w:World)(e:Ending)(w':World):Prop :=
 (match r with|none=>e = .returned .nilFunc|some T=>∃ v,e = .returned v/\jd w.heap.size w'.heap.size w' v T)/\Below w.heap.size w w'
theorem MG{w:World}{base:Nat}{v:Value}{ws:List Wd}(h:w.ownsRow base 9 1 v ws.length (ws.map xg))(o:Obj):gL ((w.alloc (.cells #[v] 283)).alloc o) w.heap.size ws:=by
 have hb:Below w.heap.size w ((w.alloc (.cells #[v] 283)).alloc o):=((zk _ _).alloc (z8 _) _).alloc (by simp) _;have DW:w.heap.size<(w.alloc (.cells #[v] 283)).heap.size:=by simp
 have hc:((w.alloc (.cells #[v] 283)).alloc o).cell? ⟨w.heap.size,0,none⟩=some v:=by
  rw[zZ _ _ _ DW];exact xu _ _ _ _ _
 have hz:((w.alloc (.cells #[v] 283)).alloc o).frozen? ⟨w.heap.size,0,none⟩=false:=by
  rw[zr (yk _ _ _ DW)];simp
 have hlen:ws.length=ws.length:=rfl;rcases h.2 with⟨hv,h0⟩|⟨g,cap,cur,hv,hg,hh,h1,h2,h3,ht⟩
 .subst hv;have hw:ws=[]:=List.eq_nil_of_length_eq_zero h0;subst hw;exact⟨none,0,hc,hz,z8 _,zV _,fun j hj=>absurd hj (yf j)⟩
 .subst hv;have hgl:g<w.heap.size:=by
   rcases Nat.lt_or_ge g w.heap.size with q|q
   .exact q
   .rw[Array.getElem?_eq_none (by omega)] at hh;cases hh
  refine⟨some ⟨g,0,none⟩,cap,hc,hz,h1,h2,fun j hj=>⟨_,rfl,⟨by show g≠w.heap.size;omega,cur,(0,0),(hb.block g hgl).trans hh⟩,?_⟩⟩;rw[uR,hb.cell (p:=⟨g,j,none⟩) hgl,h.cellAt j (by omega)];simp[hj]
theorem mD(p pv:Nat)(w:World)(hT:RT p w)(hc:xS w pv (.pointer (some ⟨p,0,none⟩)))(vy:pv≠p):zf5 p w (.func (.func 143) #[] #[.pointer (some ⟨pv,0,none⟩)]) Lx :=
 ⟨_,_,_,rfl,fun args w=>enters_of func143 (by kernel_rfl) rfl args w,fun W ws hb hp hx hl=>Wc p pv ws W hp hx (hT.but hb) hl (hc.but hb vy).c⟩
theorem Bd(s:ByteArray)(w:World)(hs:s.size<=9223372036854775807)(hT:S9 w):Calls prog 97 #[.string s] w (yzy (BS s.data.toList) w):=by
 have Nv:∀ (fn:Fn) (first cap:Array Value) (w:World),(yg fn first cap).run prog w = .ok (.func fn first cap) w:=fun _ _ _ _=>rfl
 obtain⟨r,hr⟩:=xX (BS s.data.toList);rw[hr];unfold BS at hr;rw[xc] at hr;by_cases yzx:200<s.size
 .rw[if_pos yzx] at hr;subst hr;have h1:decide ((200:Int)<(s.size:Int))=true:=by simp;omega
  go_enter_defers func97,ntmps97
  go_wp2;refine leaves_cons (f:=139) (args:=#[.pointer (some ⟨w.heap.size,0,none⟩)]) (by simp) (by simp[go_sem]) ?_;refine(UI w.heap.size _).mono ?_;rintro e u' Qm ⟨rfl,rfl,rfl⟩;simp[Leaves,settle,results,results97,go_sem];exact⟨rfl,(zk _ _).alloc (z8 _) _⟩
 .rw[if_neg yzx] at hr;have h1:decide ((200:Int)<(s.size:Int))=false:=by simp;omega
  have Hx:=fun W=>PD s W (by omega)
  have HTK:=z7 Hx;have HR:=z7 hr;have HT:=z7 hT;clear Hx hr hT;go_enter_defers func97,ntmps97
  go_wp2_with fail;have F1:∃ W,W=w.alloc (.cells #[.nilFunc] 214)/\Below w.heap.size w W/\xS W w.heap.size .nilFunc/\W.heap.size=w.heap.size+1:=⟨_,rfl,(zk _ _).alloc (z8 _) _,xS.made _ _ _ (by decide),by simp⟩;obtain⟨W,hW,jB,cB,Wk⟩:=F1;rw[<-hW];clear hW;refine(HTK.out W).mono ?_;rintro e w2 ⟨hq,xJ⟩;have uG:Below w.heap.size w w2:=jB.trans (xJ.mono jB.size);have cB2:xS w2 w.heap.size .nilFunc:=cB.but (p:=w2.heap.size) (xR.of xJ) (by have:=cB.lt;have:=xJ.size;omega)
  cases hn:OV s.data.toList with
  | none =>
   rw[hn] at hq;obtain rfl:=hq;have vg:r=none:=by rw[<-HR.out,hn]
   have gB:=z7 vg;clear hn vg;refine leaves_cons (f:=139) (args:=#[.pointer (some ⟨w.heap.size,0,none⟩)]) (by simp) (by simp[go_sem]) ?_;refine(Df w.heap.size _ [] _ cB2.c cB2.z).mono ?_;rintro e u' Qm ⟨rfl,rfl,rfl⟩;have vQ:((w2.setCell ⟨w.heap.size,0,none⟩ .nilFunc).alloc (.cells #[] 278)).cell? ⟨w.heap.size,0,none⟩=some .nilFunc:=by
    rw[zZ _ _ _ (by simpa[zF] using cB2.lt),zW (h:=cB2.c)]
   simp[Leaves,settle,results,results97,go_sem,vQ];refine⟨?_,(uG.setCell (z8 _) _).alloc (by simpa[zF] using uG.size) _⟩;rw[gB.out]
  | some ws =>
   rw[hn] at hq;obtain⟨v,rfl,xV⟩:=hq;obtain⟨Rq,hlen⟩:=sM hn (by rw[xc];omega);have HN:=z7 hn;obtain⟨a,cap,rfl⟩:=xf xV;have F3:∃ W3,W3=(w2.alloc (.cells #[.slice a ws.length cap] 283)).alloc (.cells #[.pointer (some ⟨w2.heap.size,0,none⟩)] 280)/\Below w2.heap.size w2 W3/\gL W3 w2.heap.size ws/\xS W3 (w2.heap.size+1) (.pointer (some ⟨w2.heap.size,0,none⟩))/\W3.heap.size=w2.heap.size+2:=by
    refine⟨_,rfl,((zk _ _).alloc (z8 _) _).alloc (by simp) _,MG xV _,?_,by simp⟩;have hs:(w2.alloc (.cells #[.slice a ws.length cap] 283)).heap.size=w2.heap.size+1:=by simp
    rw[<-hs];exact xS.made _ _ _ (by decide)
   obtain⟨W3,kg,ub,He,cP3,Ma⟩:=F3;have zav:=cB2.lt;have cB3:xS W3 w.heap.size .nilFunc:=cB2.but (p:=W3.heap.size) (xR.of ub) (by omega);have ZQ:Below w.heap.size w W3:=uG.trans (ub.mono uG.size);have A2:RT w2.heap.size W3:=HT.out.at ZQ uG.size;have xi:=S7 w2.heap.size [111,114] Z3 Lx _ _ ws W3 He Rq (by omega) mJ (mD w2.heap.size (w2.heap.size+1) W3 A2 cP3 (by omega)) (fun us T t h=>mF h);have qb:=z7 xi;have Uh:=z7 Ma;have lL:=z7 He;clear hn xV xi A2 Ma He Rq;go_wp2_with fail;rw[<-kg];clear kg;refine qb.out.mono ?_;rintro e w4 ⟨hq,ur⟩;have hPB:w.heap.size≠w2.heap.size:=by omega
   have sP:=cB3.but ur hPB;have cP4:=cP3.but ur (by omega);have dO:Below w.heap.size w w4:=ZQ.trans (ur.low (by omega) ZQ.size)
   cases hn:Ev [111,114] Z3 Lx ws with
   | none =>
    rw[hn] at hq;obtain rfl:=hq;have vg:r=none:=by rw[<-HR.out,HN.out];show(match pOr ws with|some (T,[])=>some T|_=>none)=none;unfold pOr;rw[hn]
    have gB:=z7 vg;clear hn vg;refine leaves_cons (f:=139) (args:=#[.pointer (some ⟨w.heap.size,0,none⟩)]) (by simp) (by simp[go_sem]) ?_;refine(Df w.heap.size _ [] _ sP.c sP.z).mono ?_;rintro e u' Qm ⟨rfl,rfl,rfl⟩;have vQ:((w4.setCell ⟨w.heap.size,0,none⟩ .nilFunc).alloc (.cells #[] 278)).cell? ⟨w.heap.size,0,none⟩=some .nilFunc:=by
     rw[zZ _ _ _ (by simpa[zF] using sP.lt),zW (h:=sP.c)]
    simp[Leaves,settle,results,results97,go_sem,vQ];refine⟨?_,(dO.setCell (z8 _) _).alloc (by simpa[zF] using dO.size) _⟩;rw[gB.out]
   | some q =>
    obtain⟨T,t⟩:=q;rw[hn] at hq;obtain⟨⟨v,rfl,ht⟩,Gd⟩:=hq;have hpo:pOr ws=some (T,t):=hn;have HPO:=z7 hpo;have Dy:=z7 ht;have xdg:=Gd.lt;obtain⟨kf,bQ,rfl,_⟩:=ht;obtain⟨a4,c4,e1,e2,e3,e4,e5⟩:=Gd;have yB:=sP.c;have yBz:=sP.z;have yP:=cP4.c;have hBt:w.heap.size<w4.heap.size:=sP.lt;clear hn hpo e5
    cases t with
    | nil =>
     have vg:r=some T:=by
      rw[<-HR.out,HN.out];show(match pOr ws with|some (T,[])=>some T|_=>none)=_;rw[HPO.out]
     have gB:=Lib.hid vg;clear vg;go_wp2;refine leaves_cons (f:=139) (args:=#[.pointer (some ⟨w.heap.size,0,none⟩)]) (by simp) (by simp[go_sem]) ?_;refine(UI w.heap.size _).mono ?_;rintro e u' Qm ⟨rfl,rfl,rfl⟩;have cF:=(sP.same (.func (.func kf) #[] bQ)).same (.func (.func kf) #[] bQ);have hbF:Below w.heap.size w ((w4.setCell ⟨w.heap.size,0,none⟩ (.func (.func kf) #[] bQ)).setCell ⟨w.heap.size,0,none⟩ (.func (.func kf) #[] bQ)):=(dO.setCell (Nat.le_refl _) _).setCell (Nat.le_refl _) _;have vQ:=cF.c;simp[Leaves,settle,results,results97,go_sem,vQ];refine⟨?_,hbF⟩;rw[gB.out];have qc:((w4.setCell ⟨w.heap.size,0,none⟩ (.func (.func kf) #[] bQ)).setCell ⟨w.heap.size,0,none⟩ (.func (.func kf) #[] bQ)).heap.size=w4.heap.size:=by simp[World.setCell]
     exact⟨_,rfl,Dy.out.keep ⟨by rw[qc];exact z8 _,fun k k1 k2=>by
      have hk:k≠w.heap.size:=by have:=Uh.out;omega
      rw[yv _ _ _ _ hk,yv _ _ _ _ hk]⟩ (by have:=Uh.out;omega) (by rw[qc];exact z8 _)⟩
    | cons x t' =>
     have vg:r=none:=by
      rw[<-HR.out,HN.out];show(match pOr ws with|some (T,[])=>some T|_=>none)=_;rw[HPO.out]
     have gB:=z7 vg;clear vg;go_wp2;refine leaves_cons (f:=139) (args:=#[.pointer (some ⟨w.heap.size,0,none⟩)]) (by simp) (by simp[go_sem]) ?_;refine(UI w.heap.size _).mono ?_;rintro e u' Qm ⟨rfl,rfl,rfl⟩;have cF:=(sP.same (.func (.func kf) #[] bQ)).same .nilFunc;have hbF:Below w.heap.size w ((w4.setCell ⟨w.heap.size,0,none⟩ (.func (.func kf) #[] bQ)).setCell ⟨w.heap.size,0,none⟩ .nilFunc):=(dO.setCell (z8 _) _).setCell (z8 _) _;have vQ:=cF.c;simp[Leaves,settle,results,results97,go_sem,vQ];refine⟨?_,hbF⟩;rw[gB.out]
def Js(lo hi:Nat)(w:World)(a:Option Addr)(S:List (Nat×qT)):Prop :=
 ∀ j (h:j<S.length),∃ g o v,a=some ⟨g,o,none⟩/\w.cell? ⟨g,o+j*2,none⟩=some (.int .i64 S[j].1)/\w.cell? ⟨g,o+j*2+1,none⟩=some v/\lo<=g/\g<hi/\jd lo hi w v S[j].2
theorem Js.keep{lo hi lo' hi':Nat}{w w':World}{a:Option Addr}{S:List (Nat×qT)}(h:Js lo hi w a S)(hk:xr lo hi w w')(h1:lo'<=lo)(h2:hi<=hi'):Js lo' hi' w' a S:=fun j hj=>by
 obtain⟨g,o,v,e1,e2,e3,e4,e5,e6⟩:=h j hj;exact⟨g,o,v,e1,(hk.cell (p:=⟨g,_,none⟩) e4 e5).trans e2,(hk.cell (p:=⟨g,_,none⟩) e4 e5).trans e3,by omega,by omega,e6.keep hk h1 h2⟩
def Sz(S:List (Nat×qT))(x:Dg):Nat:=match S.find? (fun q=>q.2 x) with|some q=>q.1|none=>5
theorem Ew(S:List (Nat×qT))(a:Option Addr)(c:Nat)(nv:Value)(x:Dg)(lo hi:Nat)(w:World)(hl:S.length<=1000000)(ht:Js lo hi w a S)(Z2:hi<=w.heap.size)(hn:uP w nv x) :
  Calls prog 60 #[.slice a S.length c,nv] w fun e w'=>e = .returned (.int .i64 (Sz S x))/\Below w.heap.size w w':=by
 have HN:=z7 hn;obtain⟨b',g,go,cap,n',k',rfl⟩:=hn.form;have F:∃ W,W=w.alloc (.cells #[.bool b',.slice (some ⟨g,go,none⟩) n' cap,.int .i64 k'] 97)/\Below w.heap.size w W/\W.heap.size=w.heap.size+1/\Ee W w.heap.size (.agg #[.bool b',.slice (some ⟨g,go,none⟩) n' cap,.int .i64 k']) :=
  ⟨_,rfl,(zk _ _).alloc (z8 _) _,by simp,⟨by simp,_,_,_,rfl,by go_simp,by go_simp,by go_simp⟩⟩
 obtain⟨W,hW,jB,hs,lx⟩:=F;have HT:=z7 (ht.keep (vK jB Z2 Z2) (z8 _) (z8 _));have RP:=z7 (HN.out.below jB);have M8:hi<=W.heap.size:=by omega
 clear ht hn;go_enter func60,ntmps60;go_wp2_with fail;rw[<-hW];clear hW;obtain⟨B,hB⟩:∃ B,B=w.heap.size:=⟨_,rfl⟩;rw[<-hB] at lx |-
 have Oj:=z7 hB;clear hB;go_loopw [9] (fun i wr=>∃ k:Nat,k<=S.length/\i = .int .i64 k/\(S.take k).find? (fun q=>q.2 x)=none/\Below W.heap.size W wr) (fun i _=>S.length - (intOf i).toNat)
 case atStart=>exact⟨0,zV _,rfl,rfl,zk _ _⟩
 case round =>
  obtain⟨k,hk,rfl,hz,qB⟩:=hrel;have HZ:=z7 hz;clear hz;have PV:Below w.heap.size w wr:=jB.trans (qB.mono (by omega));by_cases xB:k<S.length
  .obtain⟨ga,o,v,rfl,qK,jT,h1,h2,hT⟩:=HT.out k xB;have hgW:ga<W.heap.size:=by omega
   have Uj:=(qB.cell (p:=⟨ga,o+k*2,none⟩) hgW).trans qK;have zkj:=(qB.cell (p:=⟨ga,o+k*2+1,none⟩) hgW).trans jT;have hkp:=vK (lo:=lo) qB M8 M8;have hTr:=hT.keep hkp (z8 _) (z8 _);have HTR:=z7 hTr;obtain⟨K,cp,rfl,Dc,vu⟩:=hTr;have ZH:Below wr.heap.size wr (wr.alloc (.cells #[.int .i64 S[k].1,.func (.func K) #[] cp] 216)):=(zk _ _).alloc (z8 _) _;have Zd:=vu (wr.alloc (.cells #[.int .i64 S[k].1,.func (.func K) #[] cp] 216)) (vK ZH (zX M8 qB.size) (zX M8 qB.size)) _ x ((RP.out.below qB).below ZH);have HC:=z7 Zd;obtain⟨hBl,bb,ss,kk,e0,c0,c1,c2⟩:=lx.below qB
   cases e0;have d0:∀ o,(wr.alloc o).cell? ⟨B,0,none⟩=_:=fun o=>(zZ _ _ _ hBl).trans c0
   have d1:∀ o,(wr.alloc o).cell? ⟨B,1,none⟩=_:=fun o=>(zZ _ _ _ hBl).trans c1
   have d2:∀ o,(wr.alloc o).cell? ⟨B,2,none⟩=_:=fun o=>(zZ _ _ _ hBl).trans c2
   have yzv:=qB.trans (ZH.mono qB.size);have zy8:=PV.trans (ZH.mono PV.size);have O4:wr.heap.size<(wr.alloc (.cells #[.int .i64 S[k].1,.func (.func K) #[] cp] 216)).heap.size:=by simp
   have a0:(wr.alloc (.cells #[.int .i64 S[k].1,.func (.func K) #[] cp] 216)).cell? ⟨wr.heap.size,0,none⟩=some (.int .i64 S[k].1):=xu _ _ _ _ _;clear qK jT hT vu Zd;go_wp2_with fail;refine HC.out.mono ?_;rintro e w1 ⟨rfl,xG⟩;have Zf:=yzv.trans (xG.mono yzv.size);have Jp:Below w.heap.size w w1:=zy8.trans (xG.mono zy8.size);have a1:=(xG.cell (p:=⟨wr.heap.size,0,none⟩) O4).trans a0
   cases S6:S[k].2 x
   .have Qw:(S.take (k+1)).find? (fun q=>q.2 x)=none:=by
     rw[zf xB,yq,HZ.out];simp[S6]
    have HF:=z7 Qw;clear S6 Qw;go_wp2;go_roundw
    case rel=>exact⟨k+1,by omega,by go_num,HF.out,Zf⟩
    case measure=>simp[intOf];omega
   .have hf:Sz S x=S[k].1:=by
     have h1:S.find? (fun q=>q.2 x)=some S[k]:=by
      have hsp:S=S.take k++S[k]::S.drop (k+1):=by rw[<-zi xB,List.take_append_drop]
      have h2:=congrArg (List.find? (fun q=>q.2 x)) hsp;rw[yq,HZ.out,Option.none_or,List.find?_cons_of_pos (p:=fun q:Nat×qT=>q.2 x) S6] at h2;exact h2
     unfold Sz;rw[h1]
    have HF:=z7 hf;clear S6 hf;go_wp2;go_ret;exact⟨by rw[HF.out];rfl,Jp⟩
  .obtain rfl:k=S.length:=by omega
   have hz:=HZ.out;rw[List.take_length] at hz;have hf:Sz S x=5:=by unfold Sz;rw[hz]
   have HF:=z7 hf;clear hz HZ hf;go_wp2;go_ret;exact⟨by rw[HF.out];rfl,PV⟩
def yzu(mi po gr:Int)(fi ne:Nat)(ds:List Int)(Sc So:List (Nat×qT)):qJ Unit :=
 ⟨fun n=>Zn n.1 (xl (n.2.1++n.2.2)) n.2.2.length mi po gr fi ne ds,fun b d=>Sz (if b then So else Sc) d,fun _ u=>(.no,u)⟩
theorem zfy{w:World}{g:Nat}{mi po gr:Int}{fi ne:Nat}{ds:List Int}{Sc So:List (Nat×qT)}{a a':Option Addr}{c c' lo hi:Nat}(hX:Eb w g mi po gr fi ne ds)(hg:g<w.heap.size)(h32:Av mi/\Av po/\Av gr/\∀ x∈ds,Av x)(TM:fi<=255)(vy:0<fi->0<ne)(FD:ne<=255)
  (g0:w.cell? ⟨g,0,none⟩=some (.slice a Sc.length c)) (g1:w.cell? ⟨g,1,none⟩=some (.slice a' So.length c')) (hl:Sc.length<=1000000/\So.length<=1000000) (hc:Js lo hi w a Sc) (ho:Js lo hi w a' So) (Z2:hi<=w.heap.size)
  (Rj:∀ n:vq,EG n.2->(Zn n.1 (xl (n.2.1++n.2.2)) n.2.2.length mi po gr fi ne ds).length<=5000) (hsr:∀ b d,Sz (if b=true then So else Sc) d<6):zg8 w g (yzu mi po gr fi ne ds Sc So):=by
 refine⟨fun W nv n hf hn=>?_,Rj,⟨_,_,fun W hf=>⟨hf.cell g0 id,hf.cell g1 id⟩,fun W nv d hf hn=>?_,fun W nv d hf hn=>?_⟩,hsr⟩
 .obtain⟨gd,o,cap,rfl,h2,h3,-,⟨c0,h4⟩,h5,h6⟩:=hn;have qc:=hf.size;refine Bl g gd o cap n.2.2.length _ n.1 (xl (n.2.1++n.2.2)) mi po gr fi ne ds W (hX.below (UC hf) hg) (by omega) h5 (zx _ _ h4) (by simp[xl]) (by omega) h2 ?_ ?_ h32 TM vy FD
  .have:=h6.FO;have:=h6.Je;omega
  .exact Tt (by rw[zQ,h6.ig,h6.Tn];rfl)
 .have qc:=hf.size;have h:=Ew Sc a c nv d lo hi W hl.1 (hc.keep (vK (UC hf) Z2 Z2) (z8 _) (z8 _)) (by omega) hn;exact h
 .have qc:=hf.size;have h:=Ew So a' c' nv d lo hi W hl.2 (ho.keep (vK (UC hf) Z2 Z2) (z8 _) (z8 _)) (by omega) hn;exact h
theorem V9(r:Int):(zG r).length<=4:=by
 unfold zG;rw[List.length_map];unfold Lib.encodeRuneZ;repeat' split
 all_goals simp
theorem DY{f:Nat->List UInt8}{c:Nat}(h:∀ i,(f i).length<=c):∀ k,((List.range k).flatMap f).length<=k*c
 | 0=>by simp
 | k+1=>by
  have:=DY h k;have h2:=h k;simp only[List.range_succ,List.flatMap_append,zy,List.flatMap_singleton,Nat.succ_mul];omega
theorem MF(ds l:List Int)(k:Nat):(VP ds l k).length<=4:=by
 unfold VP;first|exact V9 _|(split<;>first|exact V9 _|simp)
theorem PE(neg:Bool)(l:List Int)(sc:Nat)(mi po gr:Int)(fi ne:Nat)(ds:List Int)(h:l.length<=200)(hs:sc<=200):(Zn neg l sc mi po gr fi ne ds).length<=5000:=by
 unfold Zn;have h1:(if neg=true then zG mi else []).length<=4:=by split;exact V9 _;simp
 have h2:(fJ gr fi ne ds (l.take (l.length - sc)) (l.length - sc)).length<=(l.length - sc)*8:=by
  unfold fJ;refine DY (fun i=>?_) _;have:=MF ds (l.take (l.length - sc)) i;rw[zy];have h3:(if (decide (0<i) && ZI gr fi ne ((l.take (l.length - sc)).length - i))=true then zG gr else []).length<=4:=by split;exact V9 _;simp
  omega
 have h3:(qG po ds (l.drop (l.length - sc)) sc).length<=sc*8:=by
  unfold qG;refine DY (fun i=>?_) _;have:=MF ds (l.drop (l.length - sc)) i;rw[zy];have h3:(if (i==0)=true then zG po else []).length<=4:=by split;exact V9 _;simp
  omega
 rw[zy,zy];omega
def Fo.hs:Bool->Fo->Prop
 | _,.nil=>True
 | b,.text _ r=>r.hs b
 | b,.hash r=>b=true/\r.hs b
 | b,.put _ _ r=>r.hs b
 | b,.num _ _ r=>r.hs b
 | b,.br _ _ f _ _ bs r=>bs.hs (decide (f≠0))/\r.hs b
 | b,.uz _ _ m r=>m.hs b/\r.hs b
def Fo.tb:Fo->Nat
 | .nil=>0
 | .text t r=>t.length+r.tb
 | .hash r=>r.tb
 | .put _ _ r=>r.tb
 | .num _ _ r=>r.tb
 | .br _ _ _ _ _ bs r=>bs.tb+r.tb
 | .uz _ _ m r=>m.tb+r.tb
theorem Fo.Qi:∀ f:Fo,f.tb<=5000->f.sh
 | .nil,_=>trivial
 | .text t r,h=>by simp only[Fo.tb] at h;exact⟨by omega,Fo.Qi r (by omega)⟩
 | .hash r,h=>Fo.Qi r h
 | .put _ _ r,h=>Fo.Qi r h
 | .num _ _ r,h=>Fo.Qi r h
 | .br _ _ _ _ _ bs r,h=>by simp only[Fo.tb] at h;exact⟨Fo.Qi bs (by omega),Fo.Qi r (by omega)⟩
 | .uz _ _ m r,h=>by simp only[Fo.tb] at h;exact⟨Fo.Qi m (by omega),Fo.Qi r (by omega)⟩
theorem Fo.dP:∀ f g:Fo,(f.app g).tb=f.tb+g.tb
 | .nil,g=>by simp[Fo.app,Fo.tb]
 | .text t r,g=>by simp only[Fo.app,Fo.tb,Fo.dP r g];omega
 | .hash r,g=>by simp only[Fo.app,Fo.tb,Fo.dP r g]
 | .put _ _ r,g=>by simp only[Fo.app,Fo.tb,Fo.dP r g]
 | .num _ _ r,g=>by simp only[Fo.app,Fo.tb,Fo.dP r g]
 | .br _ _ _ _ _ bs r,g=>by simp only[Fo.app,Fo.tb,Fo.dP r g];omega
 | .uz _ _ m r,g=>by simp only[Fo.app,Fo.tb,Fo.dP r g];omega
theorem Fo.dR(b:Bool):∀ f g:Fo,(f.app g).hs b ↔ f.hs b/\g.hs b
 | .nil,g=>by simp[Fo.app,Fo.hs]
 | .text t r,g=>by simp only[Fo.app,Fo.hs,Fo.dR b r g]
 | .hash r,g=>by simp only[Fo.app,Fo.hs,Fo.dR b r g,and_assoc]
 | .put _ _ r,g=>by simp only[Fo.app,Fo.hs,Fo.dR b r g]
 | .num _ _ r,g=>by simp only[Fo.app,Fo.hs,Fo.dR b r g]
 | .br _ _ _ _ _ bs r,g=>by simp only[Fo.app,Fo.hs,Fo.dR b r g,and_assoc]
 | .uz _ _ m r,g=>by simp only[Fo.app,Fo.hs,Fo.dR b r g,and_assoc]
theorem Fo.PH{b:Bool}{f:Fo}(h:f.hs b)(t:Wd):(f.xL t).hs b/\(f.xL t).tb<=f.tb+t.length:=by
 cases hl:f.xD with
 | none =>
  rw[uZ f t hl];exact⟨(Fo.dR b _ _).2 ⟨h,trivial⟩,by rw[Fo.dP];simp only[Fo.tb];omega⟩
 | some s =>
  obtain⟨pre,h1,h2,h3⟩:=uq f s hl;rw[h1] at h;rw[h3];refine⟨(Fo.dR b _ _).2 ⟨((Fo.dR b _ _).1 h).1,trivial⟩,?_⟩;rw[Fo.dP,show f.tb=(pre.app (.text s .nil)).tb from congrArg _ h1,Fo.dP];simp only[Fo.tb,zy];omega
def MD(m:kN):Prop:=∀ num i f j,m num i = .ok (f,j)->f.hs num/\f.tb+4*i<=4*j
section
variable {rs:List Int}
theorem zfx{msg:Option kN}{num:Bool}{i j:Nat}{f:Fo}(hm:∀ m,msg=some m->MD m)(h:Xv rs msg num i = .ok (f,j)):f.hs num/\f.tb+4*i<=4*j:=by
 unfold Xv at h;obtain⟨k,a,h1,h2⟩:=xd h;obtain⟨u,b,h3,h4⟩:=xd h2;obtain⟨hk,e1⟩:=RB h1;have e2:=(xP h3).2;have e3:=xN rs a
 cases msg with
 | none=>cases h4
 | some m =>
  obtain⟨g,c,h5,h6⟩:=xd (show(m num b).then _=_ from h4);obtain⟨u2,z,h7,h8⟩:=xd h6;obtain⟨hg,ht⟩:=hm m rfl _ _ _ _ h5;have e5:=(xP h7).2;have e6:=xN rs z
  cases h8;refine⟨⟨hg,trivial⟩,?_⟩;simp only[Fo.tb];omega
theorem Sy{msg:Option kN}{num:Bool}(hm:∀ m,msg=some m->MD m):∀ (n:Nat) (acc:Fo) (i j:Nat) (f:Fo),ji rs msg num n acc i = .ok (f,j)->acc.hs num->f.hs num/\f.tb+4*i<=acc.tb+4*j
 | 0,acc,i,j,f,h,_=>by cases h
 | n+1,acc,i,j,f,h,ha=>by
  rw[ji] at h;split at h
  .cases h;exact⟨ha,z8 _⟩
  .obtain⟨g,q,h1,h2⟩:=xd h;obtain⟨g1,g2⟩:=zfx hm h1;obtain⟨k1,k2⟩:=Sy hm n _ _ _ _ h2 ((Fo.dR num _ _).2 ⟨ha,g1⟩);rw[Fo.dP] at k2;exact⟨k1,by omega⟩
theorem zfv{msg:Option kN}{num:Bool}{i j:Nat}{f:Fo}(hm:∀ m,msg=some m->MD m)(h:YI rs msg i = .ok (f,j)):f.hs num/\f.tb+4*i<=4*j:=by
 unfold YI at h;obtain⟨u,a,h1,h2⟩:=xd h;obtain⟨nm,b,h3,h4⟩:=xd h2;have e1:=(xP h1).2;have e2:=xN rs a;obtain⟨⟨hn,-⟩,e3⟩:=FK h3;have e4:=xN rs b;clear h h1 h2 h3;split at h4
 .obtain⟨u,z,h5,h6⟩:=xd h4;have:=(xP h5).2
  cases h6;exact⟨trivial,by simp only[Fo.tb];omega⟩
 .obtain⟨wd,c,h5,h6⟩:=xd h4;have e5:=gJ h5;have e6:=xN rs (xh rs b+1);have e7:=xN rs c;clear h4 h5;split at h6
  .obtain⟨u,z,h7,h8⟩:=xd h6;have:=(xP h7).2
   cases h8;exact⟨trivial,by simp only[Fo.tb];omega⟩
  .split at h6
   .cases h6
   .next form RD =>
    obtain⟨u,d,h7,h8⟩:=xd h6;obtain⟨o,l,h9,du⟩:=xd h8;obtain⟨bs,q,Qn,Qp⟩:=xd du;obtain⟨u,z,oD,oB⟩:=xd Qp;have:=(xP h7).2;have:=xN rs d;obtain⟨ho,_⟩:=RE h9;obtain⟨b1,b2⟩:=Sy hm _ _ _ _ _ Qn trivial;have e9:=(xP oD).2
    cases oB;refine⟨⟨b1,trivial⟩,?_⟩;simp only[Fo.tb] at b2 |-
    omega
theorem DX{msg:Option kN}{num:Bool}(hm:∀ m,msg=some m->MD m):∀ (n:Nat) (acc:Fo) (i j:Nat) (f:Fo),qI rs msg num n acc i = .ok (f,j)->acc.hs num->f.hs num/\f.tb+4*i<=acc.tb+4*j
 | 0,acc,i,j,f,h,_=>by cases h
 | n+1,acc,i,j,f,h,ha=>by
  rw[qI] at h;split at h
  .cases h;exact⟨ha,z8 _⟩
  split at h
  .obtain⟨g,q,h1,h2⟩:=xd h;obtain⟨g1,g2⟩:=zfv (num:=num) hm h1;obtain⟨k1,k2⟩:=DX hm n _ _ _ _ h2 ((Fo.dR num _ _).2 ⟨ha,g1⟩);rw[Fo.dP] at k2;exact⟨k1,by omega⟩
  split at h
  .next hq =>
   obtain⟨k1,k2⟩:=DX hm n _ _ _ _ h ((Fo.dR num _ _).2 ⟨ha,hq.2,trivial⟩);rw[Fo.dP] at k2;simp only[Fo.tb] at k2;exact⟨k1,by omega⟩
  .obtain⟨t1,t2⟩:=Fo.PH ha (jq rs num i).1;obtain⟨k1,k2⟩:=DX hm n _ _ _ _ h t1;have h4:=Bc rs num i;exact⟨k1,by omega⟩
theorem Sv:∀ n,MD (YL rs n)
 | 0,num,i,f,j,h=>by
  rw[YL] at h;simpa[Fo.tb] using DX (fun m e=>by cases e) _ _ _ _ _ h trivial
 | n+1,num,i,f,j,h=>by
  rw[YL] at h;simpa[Fo.tb] using DX (fun m e=>by cases e;exact Sv n) _ _ _ _ _ h trivial
end
theorem sR{l:List UInt8}{f:Fo}(h:uF l = .ok f):f.hs false/\f.sh:=by
 unfold uF at h;split at h
 .cases h
 split at h
 .cases h
 next h1 _ =>
 have ZA:=VZ l;have hr:(xm l).length<=1000:=by omega
 cases hp:YM (xm l) with
 | error e=>rw[hp] at h;cases h
 | ok x =>
  rw[hp] at h
  cases h;unfold YM at hp;obtain⟨g,q,h2,h3⟩:=xd (show _=Except.ok (x.1,x.2) from hp);obtain⟨hf,hm⟩:=Sv 5 _ _ _ _ h2;have he:q<=(xm l).length:=bD _ _ _ _ _ h2 (zV _);split at h3
  .cases h3;exact⟨hf,Fo.Qi _ (by omega)⟩
  .cases h3
def Fo.Hl:Fo->Prop
 | .nil=>True
 | .text _ r=>r.Hl
 | .hash r=>r.Hl
 | .put _ _ r=>r.Hl
 | .num _ _ r=>r.Hl
 | .br _ _ _ _ _ bs r=>qv∈bs.keys/\bs.Hl/\r.Hl
 | .uz _ _ m r=>m.Hl/\r.Hl
theorem zfu(cl:Nat):∀ (f:Fo) (seen:List Wd) (acc:List (Nat×Nat)),QX cl seen acc f=[]->qv∈seen\/qv∈f.keys:=by
 have hn:∀ (f:Fo) (seen:List Wd) (acc:List (Nat×Nat)),(if FZ∈seen then acc else acc++[(6,cl)])=[]->qv∈seen\/qv∈f.keys:=fun f seen acc h=>by
  split at h
  .next hk=>exact .inl hk
  .simp at h
 intro f;induction f with
 | uz k a m r _ ih =>
  intro seen acc h;rw[QX] at h;rcases ih _ _ h with h1|h1
  .rcases zm.1 h1 with h1|h1
   .exact .inr (by rw[Fo.keys,h1];exact List.mem_cons_self)
   .exact .inl h1
  .exact .inr (by rw[Fo.keys];exact List.mem_cons_of_mem _ h1)
 | nil=>intro seen acc h;exact hn .nil seen acc h
 | text _ _ _=>intro seen acc h;exact hn (.text _ _) seen acc h
 | hash _ _=>intro seen acc h;exact hn (.hash _) seen acc h
 | put _ _ _ _=>intro seen acc h;exact hn (.put _ _ _) seen acc h
 | num _ _ _ _=>intro seen acc h;exact hn (.num _ _ _) seen acc h
 | br _ _ _ _ _ _ _ _ _=>intro seen acc h;exact hn (.br _ _ _ _ _ _ _) seen acc h
theorem fu:∀ (f:Fo) (s s':UA),xO fK f s = .go true s'->s'.2=[]->s.2=[]/\f.Hl
 | .nil,s,s',h,e=>by
  cases h;exact⟨e,trivial⟩
 | .text _ r,s,s',h,e=>fu r s s' h e
 | .hash r,s,s',h,e=>fu r s s' h e
 | .put n a r,s,s',h,e=>by
  obtain⟨h1,h2⟩:=fu r (vO s n a 0) s' h e;exact⟨Yu h1,h2⟩
 | .num n a r,s,s',h,e=>by
  obtain⟨h1,h2⟩:=fu r (vO s n a 1) s' h e;exact⟨Yu h1,h2⟩
 | .br n a f o c bs r,s,s',h,e=>by
  obtain⟨s1,h1⟩:∃ s1:UA,((vO s n a (jg (.br n a f o c bs .nil))).1,(vO s n a (jg (.br n a f o c bs .nil))).2++QX c [] [] bs)=s1:=⟨_,rfl⟩;have h2:(xO fK bs s1).then (fun s=>xO fK r s) = .go true s':=by rw[<-h1];exact h
  obtain⟨s2,h3⟩:=kG bs s1;rw[h3] at h2;obtain⟨h4,h5⟩:=fu r s2 s' h2 e;obtain⟨h6,h7⟩:=fu bs s1 s2 h3 h4;rw[<-h1] at h6;obtain⟨h8,h9⟩:=List.append_eq_nil_iff.1 h6;exact⟨Yu h8,(zfu c bs _ _ h9).resolve_left (by simp),h7,h5⟩
 | .uz k a m r,s,s',h,e=>by
  obtain⟨s1,h1⟩:=kG m s;have h2:(xO fK m s).then (fun s=>xO fK r s) = .go true s':=h;rw[h1] at h2;obtain⟨h4,h5⟩:=fu r s1 s' h2 e;obtain⟨h6,h7⟩:=fu m s s1 h1 h4;exact⟨h6,h7,h5⟩
theorem sS{f:Fo}(h:Z7 f=none):f.Hl:=by
 obtain⟨s,hs⟩:=kG f ((fun _=>none),[]);have e:jH f=s.2:=by unfold jH;rw[hs]
 unfold Z7 at h;refine(fu f _ s hs ?_).2;rw[<-e]
 cases hq:jH f with
 | nil=>rfl
 | cons a t=>rw[hq] at h;cases h
theorem Fo.X1{N:Nat}:∀ (b:Bool) (f:Fo),f.wf N=true->f.once->f.Hl->f.hs b->f.C9 b
 | _,.nil,_,_,_,_=>trivial
 | b,.text t r,w,o,t2,h=>Fo.X1 b r w o t2 h
 | b,.hash r,w,o,t2,h=>⟨h.1,Fo.X1 b r w o t2 h.2⟩
 | b,.put _ _ r,w,o,t2,h=>by
  simp only[Fo.wf,zg] at w;exact Fo.X1 b r w.2 o t2 h
 | b,.num _ _ r,w,o,t2,h=>by
  simp only[Fo.wf,zg] at w;exact Fo.X1 b r w.2 o t2 h
 | b,.br _ _ f _ _ bs r,w,o,t2,h=>by
  simp only[Fo.wf,zg] at w;exact⟨w.1.1.1.2,o.1,t2.1,Fo.X1 _ bs w.1.2 o.2.1 t2.2.1 h.1,Fo.X1 b r w.2 o.2.2 t2.2.2 h.2⟩
 | b,.uz _ _ m r,w,o,t2,h=>by
  simp only[Fo.wf,zg] at w;exact⟨w.1.1.1.2,Fo.X1 b m w.1.2 o.1 t2.1 h.1,Fo.X1 b r w.2 o.2 t2.2 h.2⟩
theorem mH{l:List UInt8}{f:Fo}(h:uF l = .ok f)(hc:Z7 f=none):f.vD=true/\f.C9 false/\f.UW/\f.sh/\f.cw<=90000:=by
 have hg:=Xe h;obtain⟨h1,h2⟩:=sR h;obtain⟨h3,h4⟩:=LV h hc;exact⟨hg.msg,Fo.X1 false f hg.wf (Lb hc) (sS hc) h1,h3,h2,by omega⟩
abbrev Hm:=Wd×List UInt8
def jL(w:World)(v:Value)(rs:List Hm):Prop :=
 ∃ a cap,v = .slice a rs.length cap/\∀ j (h:j<rs.length),∃ g o,a=some ⟨g,o,none⟩/\w.cell? ⟨g,o+j*2,none⟩=some (xg rs[j].1)/\w.cell? ⟨g,o+j*2+1,none⟩=some (xg rs[j].2)
theorem jL.below{w w':World}{v:Value}{rs:List Hm}(h:jL w v rs)(hb:Below w.heap.size w w'):jL w' v rs:=by
 obtain⟨a,cap,hv,h⟩:=h;refine⟨a,cap,hv,fun j hj=>?_⟩;obtain⟨g,o,e1,e2,e3⟩:=h j hj;exact⟨g,o,e1,(hb.cell (zx w _ e2)).trans e2,(hb.cell (zx w _ e3)).trans e3⟩
def DV(n:Wd):Int:=Lib.idxOfS ZK ⟨n.toArray⟩
def Zt:List Hm->List Wd->List (Nat×qT)->Option (List (Nat×qT))
 | [],_,acc=>some acc
 |(n,c)::t,seen,acc=>match BS c with
  | none=>none
  | some T=>if DV n<0\/n∈seen then none else Zt t (n::seen) (acc++[((DV n).toNat,T)])
def ZP(rs:List Hm):Option (List (Nat×qT)):=Zt rs [[111,116,104,101,114]] []
theorem mL:ZS prog 135 216 (.agg #[.int .i64 0,.nilFunc]) 2 16 :=
 ⟨underlying135,info_parts (by kernel_rfl),rfl,by decide,by decide⟩
def Zh(lo:Nat)(w:World)(sv:Value)(S:List (Nat×qT)):Prop :=
 ∃ vs:List Value,w.ownsRow lo 216 2 sv S.length vs /\
  ∀ j (h:j<S.length),∃ u l h',vs[j*2]? = some (.int .i64 S[j].1)/\vs[j*2+1]? = some u/\lo<=l/\h'<=w.heap.size/\(∀ g,sv.ownBlock=some g->g<l\/h'<=g)/\jd l h' w u S[j].2
theorem Zh.nil(lo:Nat)(w:World):Zh lo w (.slice none 0 0) []:=⟨[],yu _ _ _ _,fun j h=>absurd h (yf j)⟩
theorem Zh.form{lo:Nat}{w:World}{sv:Value}{S:List (Nat×qT)}(h:Zh lo w sv S):∃ a cap,sv = .slice a S.length cap:=by
 obtain⟨vs,ho,_⟩:=h;exact xf ho
theorem Zh.lt{lo:Nat}{w:World}{sv:Value}{S:List (Nat×qT)}(h:Zh lo w sv S):∀ g,sv.ownBlock=some g->lo<=g/\g<w.heap.size:=by
 obtain⟨vs,ho,_⟩:=h;exact ho.lt
theorem Zh.but{lo b:Nat}{w w':World}{sv:Value}{S:List (Nat×qT)}(h:Zh lo w sv S)(hb:xR b w w')(vy:sv.ownBlock≠some b)
  (hl:b<lo\/w.heap.size<=b):Zh lo w' sv S:=by
 obtain⟨vs,ho,ht⟩:=h;refine⟨vs,ho.kept (row:=some b) ⟨hb.os,hb.tape,hb.output,hb.size,fun i hi hn=>hb.block i hi (fun e=>hn (by rw[e]))⟩ (.inr vy),fun j hj=>?_⟩;obtain⟨u,l,h',e1,e2,e3,e4,e5,e6⟩:=ht j hj;refine⟨u,l,h',e1,e2,e3,zX e4 hb.size,e5,e6.keep ⟨zX e4 hb.size,fun k k1 k2=>hb.block k (by omega) (by omega)⟩ (z8 _) (z8 _)⟩
theorem Zh.below{lo:Nat}{w w':World}{sv:Value}{S:List (Nat×qT)}(h:Zh lo w sv S)(hb:Below w.heap.size w w'):Zh lo w' sv S :=
 h.but (xR.of (p:=w.heap.size) hb) (fun e=>by have:=(h.lt _ e).2;omega) (.inr (z8 _))
theorem Cg{k:TypeId}{R:Value->Option (DataW Unit×List MemPlace)}{b n:Nat}{D:DataW Unit}{w w':World}(h:w.ownsMap prog k R b n D)(hb:Below w.heap.size w w'):w'.ownsMap prog k R b n D :=
 h.kept (row:=none) ⟨hb.os,hb.tape,hb.output,hb.size,fun i hi _=>hb.block i hi⟩ (by simp)
theorem mM(fn:Fn)(first cap:Array Value)(w:World):(binOp .eql 214 (.func fn first cap) .nilFunc).run prog w = .ok (.bool false) w:=by
 have h:∀ d:Nat,(zl (d+1) 214 (.func fn first cap) .nilFunc).run prog w = .ok false w:=fun d=>by
  simp[zl,run_underlying underlying214]
 simp only[binOp];simp[Op.equal,Op.maxDepth,h 9999]
theorem MB(w:World):(binOp .eql 214 .nilFunc .nilFunc).run prog w = .ok (.bool true) w:=by
 have h:∀ d:Nat,(zl (d+1) 214 .nilFunc .nilFunc).run prog w = .ok true w:=fun d=>by
  simp[zl,run_underlying underlying214]
 simp only[binOp];simp[Op.equal,Op.maxDepth,h 9999]
theorem Zh.more{lo l0 h0:Nat}{w w1 w':World}{sv QE:Value}{S:List (Nat×qT)}{q:Nat×qT}{vs:List Value}{u:Value}
  (ht:∀ j (h:j<S.length),∃ u l h',vs[j*2]? = some (.int .i64 S[j].1)/\vs[j*2+1]? = some u/\lo<=l/\h'<=w.heap.size/\(∀ g,sv.ownBlock=some g->g<l\/h'<=g)/\jd l h' w u S[j].2) (Dh:vs.length=S.length*2)
  (hT:jd l0 h0 w u q.2) (nl:lo<=l0) (Mo:h0<=w.heap.size) (Au:∀ g,sv.ownBlock=some g->g<l0\/h0<=g)
  (hb:Below w.heap.size w w1) (uA:w1.grownBy w' sv.ownBlock) (UO:QE.ownBlock=sv.ownBlock\/QE.ownBlock=some w1.heap.size) (ho:w'.ownsRow lo 216 2 QE (S.length+1) (vs++[.int .i64 q.1,u])) :
  Zh lo w' QE (S++[q]):=by
 have Jd:∀ l h',h'<=w.heap.size->(∀ g,sv.ownBlock=some g->g<l\/h'<=g)->xr l h' w w':=by
  intro l h' hh hg;refine⟨zX hh (zX hb.size uA.size),fun k k1 k2=>?_⟩;rw[uA.block k (by have:=hb.size;omega) (fun e=>by rcases hg k e.symm with q|q<;>omega)];exact hb.block k (by omega)
 have lQ:∀ l h',h'<=w.heap.size->(∀ g,sv.ownBlock=some g->g<l\/h'<=g)->∀ g,QE.ownBlock=some g->g<l\/h'<=g:=by
  intro l h' hh hg g e;rcases UO with q|q
  .exact hg g (q▸e)
  .rw[q] at e
   cases e;exact .inr (zX hh hb.size)
 refine⟨vs++[.int .i64 q.1,u],by simpa using ho,fun j hj=>?_⟩;by_cases KY:j<S.length
 .obtain⟨x,l,h',e1,e2,e3,e4,e5,e6⟩:=ht j KY;refine⟨x,l,h',?_,?_,e3,zX e4 (zX hb.size uA.size),lQ l h' e4 e5,?_⟩
  .rw[ze (by omega),zn KY];exact e1
  .rw[ze (by omega)];exact e2
  .rw[zn KY];exact e6.keep (Jd l h' e4 e5) (z8 _) (z8 _)
 .have e:j=S.length:=by simp at hj;omega
  subst e;refine⟨u,l0,h0,?_,?_,nl,zX Mo (zX hb.size uA.size),lQ l0 h0 Mo Au,?_⟩
  .rw[zS (by omega),Dh,zc (by omega)];simp
  .rw[zS (by omega),Dh];simp
  .rw[zc (by omega)];simpa using hT.keep (Jd l0 h0 Mo Au) (z8 _) (z8 _)
theorem Zh.set{lo cap:Nat}{w:World}{a:Option Addr}{S:List (Nat×qT)}(h:Zh lo w (.slice a S.length cap) S):Js lo w.heap.size w a S:=by
 obtain⟨vs,ho,ht⟩:=h;intro j hj;obtain⟨u,l,h',e1,e2,e3,e4,e5,e6⟩:=ht j hj;obtain⟨g,vw,hv,hg,je,hc⟩:=vZ ho (by omega)
 cases hv;refine⟨g,0,u,rfl,?_,?_,hg,je,e6.keep (xW e4) e3 e4⟩
 .rw[zM,hc (j*2) (by omega)];exact e1
 .rw[zM,hc (j*2+1) (by omega)];exact e2
def yl4(r:Option (List (Nat×qT)))(w:World)(e:Ending)(w':World):Prop :=
 (match r with|none=>e = .returned (.tuple #[.slice none 0 0,.bool false])|some S=>∃ a c,e = .returned (.tuple #[.slice a S.length c,.bool true])/\Js w.heap.size w'.heap.size w' a S)/\Below w.heap.size w w'
def Su(D:DataW Unit)(seen:List Wd):Prop:=Maps.IsMap D/\∀ n:Wd,∃ c:Int,D.atKey (.string n) (.lit (.int .i64 0)) = .lit (.int .i64 c)/\(0<c ↔ n∈seen)/\0<=c/\c<=seen.length
def sT(rs:List Hm)(r:Option (List (Nat×qT)))(mb:Nat)(w:World)(sv:Value)(k:Nat)(wr:World):Prop :=
 ∃ (S:List (Nat×qT)) (seen:List Wd) (D:DataW Unit),Zh (mb+1) wr sv S/\wr.ownsMap prog 9 (plainElem prog 3) mb (k+1) D/\Su D seen/\seen.length<=k+1/\Below w.heap.size w wr/\w.heap.size<=mb /\
  S.length<=k/\Zt (rs.drop k) seen S=r
theorem PI:Su ((DataW.map []:DataW Unit).put (.string [111,116,104,101,114]) (.lit (.int .i64 1))) [[111,116,104,101,114]]:=by
 refine⟨⟨_,rfl⟩,fun n=>?_⟩;by_cases h:n=[111,116,104,101,114]
 .subst h;exact⟨1,by kernel_rfl,by simp,by decide,by simp⟩
 .refine⟨0,?_,by simp[h],by decide,by simp⟩;rw[yy (by simpa using h)];rfl
theorem We{D:DataW Unit}{seen:List Wd}{n:Wd}(h:Su D seen){c:Int}(hc:D.atKey (.string n) (.lit (.int .i64 0)) = .lit (.int .i64 c)):Su (D.put (.string n) (.lit (.int .i64 (c+1)))) (n::seen):=by
 obtain⟨⟨es,rfl⟩,h2⟩:=h;refine⟨⟨_,rfl⟩,fun m=>?_⟩;by_cases hm:m=n
 .subst hm;obtain⟨c',e1,e2,e3,e4⟩:=h2 m;rw[hc] at e1
  cases e1;exact⟨c+1,Maps.atKey_put_same ⟨_,rfl⟩ (by trivial) _ _,by simp;omega,by omega,by simp;omega⟩
 .obtain⟨c',e1,e2,e3,e4⟩:=h2 m;refine⟨c',?_,by simp[hm,e2],e3,by simp;omega⟩;rw[yy (by simpa using hm)];exact e1
theorem DU(rs:List Hm)(v:Value)(w:World)(hv:jL w v rs)(hl:rs.length<=1000000)(hz:∀ q∈rs,q.1.length<=1000000/\q.2.length<=1000000)(hT:S9 w)(hN:uS w) :
  Calls prog 59 #[v] w (yl4 (ZP rs) w):=by
 obtain⟨a,cap,rfl,vQ⟩:=hv;obtain⟨r,hr⟩:=xX (ZP rs);rw[hr];have HR:=z7 hr;have HC:=z7 vQ;have HZ:=z7 hz;have HT:=z7 hT;have HN:=z7 hN;have GM:=@run_makeMap prog;clear hr vQ hz hT hN;go_enter func59,ntmps59;go_wp2;obtain⟨w1,vH,ZG,uA⟩:=(World.ownsMap_made (H:=Unit) w prog 9 (plainElem prog 3)).update (zL underlying9) underlying185 (by unfold maxLen;omega) (zJ (s:=⟨#[111,116,104,101,114]⟩) underlying9 (by decide)) (plainElem_int underlying3 (q := .i64) (a:=1) (by decide));rw[vH];simp only[Result.andThen];have hb:Below w.heap.size w w1:=((zk _ _).alloc (z8 _) _).grown uA (by simp) (fun j hj=>by cases hj;exact z8 _);have VH:=z7 ZG;clear vH ZG uA;obtain⟨mb,Hk⟩:∃ mb,mb=w.heap.size:=⟨_,rfl⟩;rw[<-Hk] at VH;go_wp2;rw[<-Hk];have Ok:=z7 Hk;clear Hk;go_loopw [2,13] (fun sv i wr=>∃ k:Nat,k<=rs.length/\i = .int .i64 k/\sT rs r mb w sv k wr) (fun _ i _=>rs.length - (intOf i).toNat)
 case atStart=>exact⟨0,zV _,rfl,[],[[111,116,104,101,114]],_,Zh.nil _ _,VH.out,PI,by simp,hb,by have:=Ok.out;omega,by simp,HR.out⟩
 case round =>
  obtain⟨k,hk,rfl,S,seen,D,xi,yzq,zy9,dW,qB,yzk,hSk,jc⟩:=hrel;have qb:=z7 xi;have yzj:=z7 yzq;have zyz:=z7 zy9;have dp:=z7 jc;obtain⟨sa,sc,rfl⟩:=xi.form;clear xi yzq zy9 jc hb;by_cases xB:k<rs.length
  .obtain⟨g,o,rfl,c1,c2⟩:=HC.out k xB;have d1:=(qB.cell (zx w _ c1)).trans c1;have d2:=(qB.cell (zx w _ c2)).trans c2;clear c1 c2;go_wp2_with fail;have hzk:=HZ.out rs[k] (List.getElem_mem xB);obtain⟨nm,Jc⟩:=xX (rs[k].1);obtain⟨wh,hwh⟩:=xX (rs[k].2);rw[Jc,hwh] at hzk;rw[Jc] at d1 |-
   rw[hwh] at d2 |-
   have F:∃ W,W=wr.alloc (.cells #[xg nm,xg wh] 71)/\Below wr.heap.size wr W/\W.cell? ⟨wr.heap.size,0,none⟩=some (xg nm)/\W.cell? ⟨wr.heap.size,1,none⟩=some (xg wh):=⟨_,rfl,(zk _ _).alloc (z8 _) _,xu _ _ _ _ _,xu _ _ _ _ _⟩;obtain⟨W,hW,jB,b0,b1⟩:=F;rw[<-hW];have kL:Zt (rs.drop k) seen S=match BS wh with
     | none=>none
     | some T=>if DV nm<0\/nm∈seen then none else Zt (rs.drop (k+1)) (nm::seen) (S++[((DV nm).toNat,T)]):=by
    rw[zi xB];have hp:rs[k]=(nm,wh):=by rw[<-Jc,<-hwh]
    rw[hp,Zt]
   rw[dp.out] at kL;have jD:=z7 kL;have Na:Below w.heap.size w W:=qB.trans (jB.mono qB.size);obtain⟨B,hB⟩:∃ B,B=wr.heap.size:=⟨_,rfl⟩;rw[<-hB] at b0 b1 |-
   have Ax:=z7 hB;clear hW kL Jc hwh d1 d2 hB;have jO:W.drew.cell? ⟨B,0,none⟩=some (xg nm):=b0;refine rt (fun W':World=>W'.cell? ⟨B,0,none⟩=some (xg nm)) [0,1,2] 2 jO ?_;(iterate 3 ((first|refine ty ?_|refine tn ?_);try simp only[pl]))
   refine xq ?_;refine jx 3 (fun K hK=>?_);go_simp;have XQ:uS W.drew:=HN.out.below (show Below w.heap.size w W.drew from Na.drew);refine(Tryz.slices_Index_string 0 0 6 6 ZK ⟨nm.toArray⟩ _ (by decide) (by decide) (fun j hj=>by rw[zM];exact XQ j hj)).mono ?_;rintro e w' ⟨rfl,rfl⟩;refine hK.out _ _ jO (fun _=>?_);clear hK K;refine VA [4] 0 jO ?_;(iterate 1 ((first|refine ty ?_|refine tn ?_);try simp only[pl]))
   refine xq ?_;refine b7 ?_ _;have Iw:Lib.idxOfS (ZK.take 6) ⟨nm.toArray⟩=DV nm:=rfl;rw[Iw];obtain⟨ix,yzg⟩:=xX (DV nm);rw[yzg] at jD |-
   have hcnd:=Bd ⟨wh.toArray⟩ W.drew (by rw[size_mk];omega) (HT.out.below Na.drew);rw[toList_mk] at hcnd;have yl5:=z7 hcnd;have b1d:W.drew.cell? ⟨B,1,none⟩=some (xg wh):=b1;clear Iw yzg hcnd XQ;go_wp2_with fail;refine yl5.out.mono ?_;rintro e w3 ⟨hq,ub⟩;have mN:Below W.heap.size W w3:=(zk _ W).drew.trans ub;have Xk:Below w.heap.size w w3:=Na.trans (mN.mono Na.size);have hB:B<W.heap.size:=zx W _ b0;have e0:=(mN.cell (p:=⟨B,0,none⟩) hB).trans b0;have Mj:=z7 ((qb.out.below jB).below mN);have mO:=z7 (Cg (Cg yzj.out jB) mN);obtain⟨c,IJ,UO,Vr⟩:=mO.out.lookup_int (zL underlying9) underlying185 underlying3 (q := .i64) (by first|rfl|simp[go_sem]) (key:=xg nm) (zJ (s:=⟨nm.toArray⟩) underlying9 (by rw[size_mk];unfold maxLen;omega));rw[toList_mk] at UO;obtain⟨c',uH,qf,Ma,Ks⟩:=zyz.out.2 nm;rw[uH] at UO
   cases UO;have hef:=mM;have fT:=MB
   cases hc:BS wh with
   | none =>
    rw[hc] at hq;obtain rfl:=hq;have hrn:r=none:=by rw[jD.out,hc]
    have TU:=z7 hrn;clear hc hrn qf uH;by_cases h1:ix<0
    .have g1:decide (ix<0)=true:=decide_eq_true h1;go_wp2;go_ret2
     refine⟨?_,Xk⟩;rw[TU.out];rfl
    .have g1:decide (ix<0)=false:=decide_eq_false h1;by_cases h2:0<c
     .have g2:decide (0<c)=true:=decide_eq_true h2;go_wp2;go_ret2
      refine⟨?_,Xk⟩;rw[TU.out];rfl
     .have g2:decide (0<c)=false:=decide_eq_false h2;go_wp2;go_ret2
      refine⟨?_,Xk⟩;rw[TU.out];rfl
   | some T =>
    rw[hc] at hq;obtain⟨tv,rfl,A2⟩:=hq;have vM:=jD.out;rw[hc] at vM;dsimp only at vM;have zfq:=z7 vM;have lD:=z7 A2;obtain⟨kf,bQ,rfl,_⟩:=A2;clear hc vM;by_cases h1:ix<0
    .have g1:decide (ix<0)=true:=decide_eq_true h1;have hrn:r=none:=by rw[zfq.out,if_pos (.inl h1)]
     have TU:=z7 hrn;clear hrn qf uH;go_wp2;go_ret2
     refine⟨?_,Xk⟩;rw[TU.out];rfl
    .have g1:decide (ix<0)=false:=decide_eq_false h1;by_cases h2:0<c
     .have g2:decide (0<c)=true:=decide_eq_true h2;have hrn:r=none:=by rw[zfq.out,if_pos (.inr (qf.1 h2))]
      have TU:=z7 hrn;clear hrn qf uH;go_wp2;go_ret2
      refine⟨?_,Xk⟩;rw[TU.out];rfl
     .obtain rfl:c=0:=by omega
      have hns:¬nm∈seen:=fun hm=>h2 (qf.2 hm)
      have hrc:Zt (rs.drop (k+1)) (nm::seen) (S++[(ix.toNat,T)])=r:=by rw[zfq.out,if_neg (fun q=>q.elim h1 hns)]
      have Ij:=z7 hrc;have gN:=z7 uH;obtain⟨iN,hiN⟩:∃ iN:Nat,ix=(iN:Int):=⟨ix.toNat,by omega⟩;subst hiN;rw[Int.toNat_natCast] at Ij;obtain⟨w4,xb0,mP,qt⟩:=mO.out.update (zL underlying9) underlying185 (by unfold maxLen;omega) (key:=xg nm) (zJ (s:=⟨nm.toArray⟩) underlying9 (by rw[size_mk];unfold maxLen;omega)) (plainElem_int underlying3 (q := .i64) (a:=1) (by decide));rw[toList_mk] at mP;have dh:xR mb w3 w4:=⟨qt.os,qt.tape,qt.output,qt.size,fun i hi hn=>qt.block i hi (fun e=>hn (by cases e;rfl))⟩;have xb1:=mO.out.lt;have Mu:Zh (mb+1) w4 (.slice sa S.length sc) S:=Mj.out.but dh (fun e=>by have:=(Mj.out.lt _ e).1;omega) (.inl (Nat.lt_succ_self _));have XC:Below w.heap.size w w4:=Xk.grown qt Xk.size (fun q hq=>by cases hq;exact yzk);have hmW:mb<wr.heap.size:=yzj.out.lt;have yzf:jd W.drew.heap.size w3.heap.size w4 (.func (.func kf) #[] bQ) T:=lD.out.keep ⟨qt.size,fun j j1 j2=>qt.block j j2 (fun e=>by cases e;have:=jB.size;change W.heap.size<=mb at j1;omega)⟩ (z8 _) (z8 _);have yl6:=z7 yzf;have yzd:=z7 mP;obtain⟨vs,VU,lF⟩:=Mu;have JM:=z7 VU;have DM:=z7 lF;have e04:w4.cell? ⟨B,0,none⟩=some (xg nm):=dh.cell e0 (by show B≠mb;have:=Ax.out;omega);clear uH qf hrc yzf mP VU lF hns h1 h2;go_wp2_with (at_builtin;refine Yt mL rfl _ _ rfl (mb+1) _ S.length vs rfl (JM.out.alloc _) ⟨w4.heap.size,0,none⟩ 1 1 [.int .i64 iN,.func (.func kf) #[] bQ] rfl rfl ?k1 ?k2 ?k3 ?k4 ?_)
      case k1 =>
       intro j u hu;rw[uR];match j,hu with
       | 0,hu=>simp at hu;subst hu;exact xu _ _ _ _ _
       | 1,hu=>simp at hu;subst hu;exact xu _ _ _ _ _
      case k2 =>
       intro u hu;simp at hu;rcases hu with rfl|rfl<;>rfl
      case k3=>omega
      case k4=>have:=qt.size;have:=jB.size;have:=mN.size;simp;omega
      intro QE w5 jo qm Dv;have ZH:Below w4.heap.size w4 (w4.alloc (.cells #[.int .i64 iN,.func (.func kf) #[] bQ] 216)):=(zk _ _).alloc (z8 _) _;have V3:Zh (mb+1) w5 QE (S++[(iN,T)]) :=
       Zh.more DM.out (by have:=JM.out.1;omega) yl6.out (by have:=jB.size;show mb+1<=W.heap.size;omega) qt.size (fun q hq => .inl (by have:=(qb.out.lt q hq).2;have:=jB.size;show q<W.heap.size;omega)) ZH qm (by simpa using Dv) jo
      have zyx:=(yzd.out.alloc (.cells #[.int .i64 iN,.func (.func kf) #[] bQ] 216)).kept qm (fun e=>by have:=(qb.out.lt mb e.symm).1;omega);have Uw:Below w.heap.size w w5:=(XC.alloc XC.size _).grown qm (by have:=XC.size;simp;omega) (fun q hq=>by have:=(qb.out.lt q hq).1;omega);obtain⟨a5,c5,rfl⟩:=xf jo;have Du:=z7 V3;have yzb:=z7 zyx;clear V3 zyx jo qm Dv ZH;go_wp2;go_roundw
      case rel=>exact⟨k+1,by omega,by go_num,S++[(iN,T)],nm::seen,_,by simpa using Du.out,yzb.out,We zyz.out gN.out,by simp;omega,Uw,yzk,by simp;omega,Ij.out⟩
      case measure=>simp[intOf];omega
  .obtain rfl:k=rs.length:=by omega
   have jc:=dp.out;rw[zh (z8 _)] at jc;have hr:r=some S:=by rw[<-jc,Zt]
   have jh:=z7 hr;clear jc hr;go_wp2;go_ret2
   refine⟨?_,qB⟩;rw[jh.out];exact⟨sa,sc,rfl,qb.out.set.keep (xW (z8 _)) (by omega) (z8 _)⟩
def Ql:List Hm:=[([111,110,101],[105,32,61,32,49,32,97,110,100,32,118,32,61,32,48])]
def MC:List Hm:=[([111,110,101],[110,32,37,32,49,48,32,61,32,49,32,97,110,100,32,110,32,37,32,49,48,48,32,33,61,32,49,49]),([116,119,111],[110,32,37,32,49,48,32,61,32,50,32,97,110,100,32,110,32,37,32,49,48,48,32,33,61,32,49,50]),([102,101,119],[110,32,37,32,49,48,32,61,32,51,32,97,110,100,32,110,32,37,32,49,48,48,32,33,61,32,49,51])]
theorem Vz(w:World):Calls prog 15 #[] w fun e w'=>(∃ c o,e = .returned (LD c o 45 46 44 3 0 ⟨#[]⟩)/\jL w' c Ql/\jL w' o MC)/\Below w.heap.size w w':=by
 go_enter func15,ntmps15;go_wp2;refine bodyPost_ret (v:=LD (.slice (some ⟨w.heap.size+1,0,none⟩) 1 1) (.slice (some ⟨w.heap.size+1+1+1,0,none⟩) 3 3) 45 46 44 3 0 ⟨#[]⟩) ?_ rfl ⟨⟨_,_,rfl,⟨_,_,rfl,fun j hj=>⟨_,_,rfl,?_,?_⟩⟩,⟨_,_,rfl,fun j hj=>⟨_,_,rfl,?_,?_⟩⟩⟩,?_⟩
 .simp[results,results15,go_sem]
 .obtain rfl:j=0:=by have:j<1:=hj;omega
  go_simp;rfl
 .obtain rfl:j=0:=by have:j<1:=hj;omega
  go_simp;rfl
 .have:j<3:=hj;match j,this with
  | 0,_=>(go_simp;rfl)
  | 1,_=>(go_simp;rfl)
  | 2,_=>(go_simp;rfl)
 .have:j<3:=hj;match j,this with
  | 0,_=>(go_simp;rfl)
  | 1,_=>(go_simp;rfl)
  | 2,_=>(go_simp;rfl)
 ·(repeat(first|(with_reducible exact zk _ _)|(with_reducible refine Below.alloc ?_ ?_ _;rotate_left;focus(first|(simp;done)|(simp;omega)))|(with_reducible refine Below.setCell ?_ ?_ _;rotate_left;focus(first|(simp;done)|(simp;omega)))))
def zfk(S:List (Nat×qT))(W:World)(u:Value):Prop:=∃ a c hi,u = .slice a S.length c/\Js 0 hi W a S/\hi<=W.heap.size
theorem VG(rs:List Hm)(S:List (Nat×qT))(v:Value)(w:World)(hv:jL w v rs)(hl:rs.length<=1000000)(hz:∀ q∈rs,q.1.length<=1000000/\q.2.length<=1000000)(hT:S9 w)(hN:uS w)(hS:ZP rs=some S) :
  jf w v true (zfk S):=by
 intro W hW;refine(DU rs v W (hv.below hW) hl hz (hT.below hW) (hN.below hW)).mono ?_;rintro e w1 ⟨hq,hb⟩;rw[hS] at hq;obtain⟨a,c,he,hr⟩:=hq;refine⟨⟨_,_,_,he,fun W2 hA=>⟨a,c,w1.heap.size,rfl,?_,hA.1⟩⟩,hb⟩;exact hr.keep (lo':=0) (hi':=w1.heap.size) ⟨hA.1,fun k h1 h2=>hA.2 k (.inr ⟨h1,h2⟩)⟩ (zV _) (z8 _)
theorem jL.slice{w:World}{v:Value}{rs:List Hm}(h:jL w v rs):∃ a n k,v = .slice a n k:=by
 obtain⟨a,cap,hv,-⟩:=h;exact⟨a,_,cap,hv⟩
theorem bL:(∀ q∈Ql,q.1.length<=1000000/\q.2.length<=1000000)/\∀ q∈MC,q.1.length<=1000000/\q.2.length<=1000000:=by decide
def Cf:List (Nat×qT):=(ZP Ql).getD []
def Cd:List (Nat×qT):=(ZP MC).getD []
theorem YU:ZP Ql=some Cf/\ZP MC=some Cd:=by
 have h:(ZP Ql).isSome=true/\(ZP MC).isSome=true:=by constructor<;>kernel_rfl
 constructor
 .obtain⟨S,hS⟩:=zO.1 h.1;unfold Cf;rw[hS];rfl
 .obtain⟨S,hS⟩:=zO.1 h.2;unfold Cd;rw[hS];rfl
abbrev si(s:List UInt8):Dg:=(vN s,u9 s)
theorem Cb{l:List UInt8}(h:uB l=true):(vN l).all xF=true/\(u9 l).all xF=true/\0<(vN l).length/\(vN l).length+(u9 l).length<=30:=by
 simp only[uB,QZ,zg,Bool.or_eq_true,decide_eq_true_eq] at h;have hw:=h.1.1.1.1;have hf:=h.1.1.1.2;simp only[vA,zg] at hw;refine⟨hw.1,?_,?_,h.1.1.2⟩
 .rcases hf with hf|hf
  .have hp:¬(VM l).idxOf 46<(VM l).length:=by simpa[Ya] using hf
   have:u9 l=[]:=by unfold u9;exact zh (by omega)
   rw[this];rfl
  .simp only[vA,zg] at hf;exact hf.1
 .have:=hw.2
  cases hl:vN l with
  | nil=>rw[hl] at this;cases this
  | cons a b=>simp
theorem zfj{l:List UInt8}(h:uB l=true):EG (si l):=by
 obtain⟨h1,h2,h3,h4⟩:=Cb h;exact⟨h1,h2,(fun q=>by rw[show vN l=[] from q] at h3;cases h3),by show(vN l).length<=100;omega,by show(u9 l).length<=100;omega⟩
def nmC(k:Nat):Wd:=(ZK.getD k zI).data.toList
def Vy(rs:List Hm)(s:List UInt8):Wd:=match ZP rs with|none=>[]|some S=>if uB s=true then nmC (Sz S (si s)) else []
def Vx(rs:List Hm)(s:List UInt8):Int:=match ZP rs with|none=>9|some _=>if uB s=true then 0 else 10
def zyv(rs:List Hm)(s:List UInt8)(w:World)(e:Ending)(w':World):Prop:=e = .returned (.tuple #[xg (Vy rs s),TE (Vx rs s)])/\Below w.heap.size w w'
theorem mR(x:ByteArray):∀ (zs:List ByteArray) (i:Nat),yz zs x i<(i+zs.length:Nat)
 | [],i=>by simp[yz];omega
 | z::zs,i=>by
  rw[yz];split
  .simp;omega
  .have:=mR x zs (i+1);simp only[zu];omega
theorem mS(n:Wd):DV n<6:=by
 have h:=mR ⟨n.toArray⟩ ZK 0;have e:ZK.length=6:=by decide
 rw[e] at h;exact h
theorem CZ:∀ (rs:List Hm) (seen:List Wd) (acc S:List (Nat×qT)),Zt rs seen acc=some S->(∀ q∈acc,q.1<6)->S.length=acc.length+rs.length/\∀ q∈S,q.1<6
 | [],_,acc,S,h,ha=>by cases h;exact⟨by simp,ha⟩
 |(n,c)::t,seen,acc,S,h,ha=>by
  rw[Zt] at h;split at h
  .cases h
  .split at h
   .cases h
   .next hn =>
    have:=CZ t _ _ S h fun q hq=>by
     rcases zN.1 hq with hq|hq
     .exact ha q hq
     .have:=mS n;simp at hq;subst hq;simp only;omega
    refine⟨?_,this.2⟩;rw[this.1];simp;omega
theorem CY{rs:List Hm}{S:List (Nat×qT)}(h:ZP rs=some S):S.length=rs.length/\∀ q∈S,q.1<6:=by
 have:=CZ rs _ [] S h (by simp);simpa using this
theorem mT{rs:List Hm}{S:List (Nat×qT)}(h:ZP rs=some S)(d:Dg):Sz S d<6:=by
 have hS:=(CY h).2;unfold Sz;split
 .next q hq=>exact hS q (za hq)
 .decide
theorem Js.yy0{lo hi:Nat}{w w':World}{a:Option Addr}{S:List (Nat×qT)}(h:Js lo hi w a S)(hb:Below hi w w')(hh:hi<=w.heap.size):Js lo hi w' a S :=
 h.keep (vK (lo:=lo) hb (z8 _) hh) (z8 _) (z8 _)
theorem mW(rs:List Hm)(v:Value)(s:ByteArray)(w:World)(hv:jL w v rs)(hl:rs.length<=1000000)(hz:∀ q∈rs,q.1.length<=1000000/\q.2.length<=1000000)(hs:s.size<=1000000)(hT:S9 w)(hN:uS w) :
  Calls prog 41 #[v,.string s] w (zyv rs s.data.toList w):=by
 have yy1:=z7 (DU rs v w hv hl hz hT hN);have HN:=z7 hN;obtain⟨va,vn,vc,rfl⟩:∃ a n c,v = .slice a n c:=by obtain⟨a,c,rfl,_⟩:=hv;exact⟨_,_,_,rfl⟩
 have nl:=z7 hl;clear hv hz hT hN hl;go_enter func41,ntmps41;go_wp2_with fail;refine yy1.out.mono ?_;rintro e w1 ⟨hq,xG⟩
 cases hr:ZP rs with
 | none =>
  rw[hr] at hq;subst hq;have HT:=z7 (show Vy rs s.data.toList=[] by unfold Vy;rw[hr]);have HC:=z7 (show Vx rs s.data.toList=9 by unfold Vx;rw[hr]);clear hr;go_wp2;go_ret2
  exact⟨by rw[HT.out,HC.out];rfl,xG⟩
 | some S =>
  rw[hr] at hq;obtain⟨a,c,rfl,Tk⟩:=hq;have yl8:=z7 Tk;have HR:=z7 hr;clear hr Tk;go_wp2_with fail;refine(Yq s _ hs).mono ?_;rintro e w2 ⟨b,pv,k,rfl,⟨pa,pn,pk,rfl⟩,xJ,vE⟩;have uG:=xG.trans (xJ.mono xG.size)
  cases hn:uB s.data.toList
  .have HT:=z7 (show Vy rs s.data.toList=[] by unfold Vy;rw[HR.out];dsimp only;rw[hn];rfl);have HC:=z7 (show Vx rs s.data.toList=10 by unfold Vx;rw[HR.out];dsimp only;rw[hn];rfl);clear hn vE;go_wp2;go_ret2
   exact⟨by rw[HT.out,HC.out];rfl,uG.alloc uG.size _⟩
  .obtain⟨rfl,rfl,xV⟩:=vE hn;have kZ:=zfj hn;obtain⟨d1,d2,Rj,h30⟩:=Cb hn;obtain⟨g,cap,hpv,_,_,_,_⟩:=Ra xV (by omega)
   cases hpv;have JQ:uP w2 (.agg #[.bool (YA s.data.toList),.slice (some ⟨g,0,none⟩) ((vN s.data.toList).length+(u9 s.data.toList).length) pk,.int .i64 (si s.data.toList).2.length]) (si s.data.toList) :=
    VK (d:=vN s.data.toList++u9 s.data.toList) rfl (by simp) xV kZ
   have hlen:=CY HR.out;have hof:Sz S (si s.data.toList)<6:=by
    unfold Sz
    cases hf:S.find? (fun q=>q.2 (si s.data.toList)) with
    | some q=>exact hlen.2 q (za hf)
    | none=>decide
   have HT:=z7 (show Vy rs s.data.toList=nmC (Sz S (si s.data.toList)) by unfold Vy;rw[HR.out];dsimp only;rw[if_pos hn]);have HC:=z7 (show Vx rs s.data.toList=0 by unfold Vx;rw[HR.out];dsimp only;rw[if_pos hn]);obtain⟨ix,Iw⟩:=xX (Sz S (si s.data.toList));have DR:=z7 (show ix<6 by rw[<-Iw];exact hof);have Nr:=z7 Iw;have Wz:=z7 JQ;have Dt:=z7 hlen.1;clear hn vE xV kZ JQ hlen hof Iw d1 d2;go_wp2_with fail;refine vB ?_;intro W hW;have jB:Below w2.heap.size w2 W:=by rw[hW];exact(zk _ _).alloc (z8 _) _
   clear hW;have yy2:Below w1.heap.size w1 W:=xJ.trans (jB.mono xJ.size);have yy3:Below w.heap.size w W:=uG.trans (jB.mono uG.size);refine(Ew S a c _ (si s.data.toList) w.heap.size w1.heap.size W (by rw[Dt.out];exact nl.out) (yl8.out.yy0 yy2 (z8 _)) yy2.size (Wz.out.below jB)).mono ?_;rintro e w3 ⟨rfl,ub⟩;rw[Nr.out];have ZQ:=yy3.trans (ub.mono yy3.size);have Zd:=HN.out.below ZQ ix DR.out;have HE:=z7 (show nmC ix=(ZK.getD ix zI).data.toList from rfl);obtain⟨nm,Jc⟩:=xX (ZK.getD ix zI);rw[Jc] at Zd;have HNM:=z7 Jc;have xb3:=DR.out;clear Jc;go_wp2;go_ret2
   exact⟨by rw[HT.out,HC.out,Nr.out,HE.out,HNM.out];simp[TE,xg],ZQ⟩
structure mr(w:World):Prop where
 rt:S9 w
 names:uS w
 err:QG w
theorem ME(rs:List Hm)(v:Value)(s:ByteArray)(w:World)(hv:jL w v rs)(hl:rs.length<=1000000)(hz:∀ q∈rs,q.1.length<=1000000/\q.2.length<=1000000)(hs:s.size<=1000000)(hP:mr w) :
  Calls prog 27 #[v,.string s] w fun e w'=>e = .returned (.tuple #[xg (Vy rs s.data.toList),.int .i64 (Vx rs s.data.toList)])/\Below w.heap.size w w':=by
 have vu:=mW rs v s w hv hl hz hs hP.rt hP.names;unfold zyv at vu;generalize Vy rs s.data.toList=tx at *;generalize Vx rs s.data.toList=cd at *;have uw:=z7 vu;have HE:=z7 hP.err;clear vu hP hz hv;go_enter func27,ntmps27;go_wp2_with fail;refine uw.out.mono ?_;rintro e w1 ⟨rfl,xG⟩;go_wp2_with fail;refine(OM cd _ (HE.out.below xG)).mono ?_;rintro e w2 ⟨rfl,xJ⟩;have uG:=xG.trans (xJ.mono xG.size);clear xJ xG;go_wp2;go_ret2
 exact⟨rfl,uG⟩
structure Xx(w:World)(c o:Value):Prop where
 c:jL w c Ql
 o:jL w o MC
theorem Xx.below{w w':World}{c o:Value}(h:Xx w c o)(hb:Below w.heap.size w w'):Xx w' c o:=⟨h.c.below hb,h.o.below hb⟩
abbrev sr(c o:Value):Value:=LD c o 45 46 44 3 0 ⟨#[]⟩
def n7:qJ Unit:=yzu 45 46 44 3 3 (xm (VR [])) Cf Cd
theorem CX:vS true true 45 46 44 ((3:Nat):Int) ((0:Nat):Int) []=true:=by simp[vS,kO,fX]
theorem sw{P q g mb:Nat}{f:Fo}{vC vI:Value}{rs:List (Value×Value)}{cv ov:Value}{w:World}(h:Br P q g mb f vC vI rs 45 46 44 3 0 [] cv ov w)(hc:zfk Cf w cv)(ho:zfk Cd w ov):zg8 w g n7:=by
 have hd:∀ x∈xm (VR []),Av x:=fun x hx=>UG _ _ (z8 _) x hx
 obtain⟨a,c,hi,rfl,s1,b1⟩:=hc;obtain⟨a',c',hi',rfl,s2,b2⟩:=ho;have k1:xr 0 hi w w:=⟨b1,fun _ _ _=>rfl⟩;have k2:xr 0 hi' w w:=⟨b2,fun _ _ _=>rfl⟩;refine zfy (lo:=0) (hi:=w.heap.size) (fi:=3) (ne:=3) h.loc h.gl ⟨by decide,by decide,by decide,hd⟩ (by decide) (by decide) (by decide) h.g0 h.g1 ⟨by decide +kernel,by decide +kernel⟩ (s1.keep k1 (z8 _) b1) (s2.keep k2 (z8 _) b2) (z8 _) (fun n hn=>?_) (fun b d=>?_)
 .have h1:=hn.FO;have h2:=hn.Je;exact PE _ _ _ _ _ _ _ _ _ (by simp[xl];omega) (by omega)
 .cases b
  .exact mT YU.1 d
  .exact mT YU.2 d
def yl9(r:Except (Nat×Nat) Fo)(w:World)(e:Ending)(w':World):Prop :=
 Below w.heap.size w w'/\match r with
  | .error (n,a)=>e = .returned (.tuple #[.pointer none,.int .i64 (n:Nat),.int .i64 (a:Nat)])
  | .ok f=>∃ P q g mb vC vI rs,e = .returned (.tuple #[.pointer (some ⟨P,0,none⟩),.int .i64 0,.int .i64 0])/\JD P q g mb f vC vI rs n7 w'
theorem DQ{p:Wd}{w:World}{c o:Value}(hp:p.length<=1000000)(hE:Yp w)(hR:S9 w)(hA:Xx w c o) :
  Calls prog 20 #[xg p,sr c o] w (yl9 (ke p) w):=by
 refine(EU ⟨p.toArray⟩ c o true true 45 46 44 3 0 ⟨#[]⟩ _ _ w (by rw[size_mk];exact hp) (by decide) (by decide) (by decide) (VG Ql Cf c w hA.c (by decide) bL.1 hR hE.names YU.1) (VG MC Cd o w hA.o (by decide) bL.2 hR hE.names YU.2) ⟨hA.c.slice,hA.o.slice⟩ hE).mono ?_;rintro e w1 ⟨xG,vE⟩;rw[if_neg (by rw[CX];decide),show(⟨p.toArray⟩:ByteArray).data.toList=p from rfl] at vE;refine⟨xG,?_⟩
 cases hr:ke p with
 | error x=>obtain⟨n,a⟩:=x;rw[hr] at vE;exact vE
 | ok f =>
  rw[hr] at vE;obtain⟨P,q,g,mb,vC,vI,rs,cv,ov,rfl,hph,UP,kh⟩:=vE;obtain⟨r1,r2⟩:=ZM hr;obtain⟨v1,v2,v3,v4,v5⟩:=mH r1 r2;exact⟨P,q,g,mb,vC,vI,rs,rfl,hph.p0,hph.p1,hph.prog,sw hph (UP w1 (zk _ _)) (kh w1 (zk _ _)),v1,v2,v3,v4,v5⟩
theorem nz{p:Wd}{w:World}{c o:Value}(hp:p.length<=1000000)(hE:Yp w)(hR:S9 w)(hA:Xx w c o){l:List Wd}{a:Option Addr}{n cc:Nat}(ht:Ys w a l)(hn:l.length=n)(hl:∀ t∈l,t.length<=1000000)(qx:n<=1000000) :
  Calls prog 12 #[xg p,sr c o,.slice a n cc] w fun e w'=>(match ke p with
   | .error _=>e = .returned (.tuple #[xg [],.bool false])
   | .ok f=>∃ s k,e = .returned (.tuple #[xg s,.bool (decide (k=0))])/\M5 n7 f (uY l (0,fun _=>none)).1 (uY l (0,fun _=>none)).2 s k)/\Below w.heap.size w w':=by
 obtain⟨r,hr⟩:=xX (ke p);have HC:=z7 (fun (W:World) (hb:Below w.heap.size w W)=>DQ hp (hE.below hb) (hR.below hb) (hA.below hb));rw[hr] at HC |-
 have HT:=z7 hE.tabs.err;have HA:=z7 (zw ht (zw hn (zw hl qx)));have HCO:=z7 (zw hA.c.slice hA.o.slice);clear hE hR hA hp hr ht hn hl qx;go_enter func12,ntmps12;go_wp2_with fail;refine vB ?_;intro W hW;have hb:Below w.heap.size w W:=by rw[hW];exact(zk _ _).alloc (z8 _) _
 clear hW;refine(HC.out W hb).mono ?_;rintro e w1 ⟨xG,vE⟩;have uv:Below w.heap.size w w1:=hb.trans (xG.mono hb.size)
 cases r with
 | error x =>
  obtain⟨n,a⟩:=x;obtain rfl:=vE;have HB:=z7 uv;clear hb xG uv HC;go_wp2;go_ret2
  exact⟨rfl,HB.out⟩
 | ok f =>
  obtain⟨P,q,g,mb,vC,vI,rs,rfl,hM⟩:=vE;have HF:=z7 (JB (c:=cc) hM (HT.out.below uv) (HA.out.1.fr (D8 uv)) HA.out.2.1 HA.out.2.2.1 HA.out.2.2.2);have HB:=z7 uv;clear hb xG uv hM HC;go_wp2_with fail;refine HF.out.mono ?_;rintro e w2 ⟨⟨s,k,rfl,hs⟩,vU⟩;have HS:=z7 hs;have Gm:=z7 (HB.out.trans ((UC vU).mono HB.out.size));clear HF hs vU;by_cases hk:k=0
  .subst hk;go_wp2;go_ret2
   exact⟨⟨s,0,rfl,HS.out⟩,Gm.out⟩
  .have Nx:((k:Int)=0)=False:=by simp;omega
   go_wp2;go_ret2
   exact⟨⟨s,k,by simp[hk],HS.out⟩,Gm.out⟩
structure dU(w:World):Prop where
 cmp:Yp w
 rt:S9 w
theorem dU.below{w w':World}(h:dU w)(hb:Below w.heap.size w w'):dU w':=⟨h.cmp.below hb,h.rt.below hb⟩
theorem dU.cat{w:World}(h:dU w):mr w:=⟨h.rt,h.cmp.names,h.cmp.tabs.err⟩
theorem PL{s:Wd}{w:World}{c o:Value}(hs:s.length<=1000000)(hE:dU w)(hA:Xx w c o) :
  Calls prog 16 #[xg s,sr c o] w fun e w'=>e = .returned (.tuple #[xg (U0 true s 45 46 44 3 0 []),.int .i64 (U1 true s)])/\Below w.heap.size w w':=by
 have h:=LN ⟨s.toArray⟩ c o true true 45 46 44 3 0 ⟨#[]⟩ _ _ w (by rw[size_mk];exact hs) (by decide) (by decide) (by decide) (VG Ql Cf c w hA.c (by decide) bL.1 hE.rt hE.cmp.names YU.1) (VG MC Cd o w hA.o (by decide) bL.2 hE.rt hE.cmp.names YU.2) ⟨hA.c.slice,hA.o.slice⟩ hE.cmp.tabs;rw[show(⟨#[]⟩:ByteArray).data.toList=[] from rfl,CX] at h;exact h
def ny(E:qJ Unit)(p:Wd)(l:List Wd):Option Wd :=
 match ke p with
 | .ok f=>(match kT (Jo E (uY l (0,fun _=>none)).2) f [] (false,([],[])) [] () with | .ok (o,_)=>some o | .error _=>none)
 | .error _=>none
def MH:List Wd->Bool
 | k::d::t::r=>j8 k && (gi t (d==[110]) && MH r)
 | _=>true
theorem Sq:∀ (n:Nat) (l:List Wd),l.length<=n->∀ p:Nat×(Wd->Option (Wd×Bool)),MH l=true->(∀ m x,p.2 m=some x->j8 m=true/\gi x.1 x.2=true)->∀ m x,(uY l p).2 m=some x->j8 m=true/\gi x.1 x.2=true
 | _,[],_,_,_,h=>h
 | _,[_],_,_,_,h=>h
 | _,[_,_],_,_,_,h=>h
 | 0,_::_::_::_,hl,_,_,_=>by simp at hl
 | n+1,k::d::t::r,hl,p,ha,h=>by
  rw[MH,zg,zg] at ha;rw[uY];refine Sq n r (by simp at hl;omega) _ ha.2.2 fun m x hx=>?_
  simp only at hx;split at hx
  .next e =>
   cases hx;subst e;exact⟨ha.1,ha.2.1⟩
  .exact h m x hx
theorem nu{l:List Wd}(h:MH l=true)(hl:l.length<=16):Zp (uY l (0,fun _=>none)).2 (uY l (0,fun _=>none)).1:=by
 refine⟨?_,Sq _ l (z8 _) _ h (fun m x hx=>by cases hx)⟩;have:=UE _ l (z8 _) (0,fun _=>none);simp only at this;omega
theorem Wi{p t:Wd}{l:List Wd}{w:World}{c o:Value}{a:Option Addr}{n cc:Nat}(hs:ny n7 p l=some t)(ha:MH l=true)(hp:p.length<=1000000)(hl:∀ t∈l,t.length<=1000000)(hn:l.length=n)(qx:n<=16)(hE:dU w)(hA:Xx w c o)(ht:Ys w a l) :
  Calls prog 12 #[xg p,sr c o,.slice a n cc] w fun e w'=>e = .returned (.tuple #[xg t,.bool true])/\Below w.heap.size w w':=by
 refine(nz hp hE.cmp hE.rt hA ht hn hl (by omega)).mono ?_;rintro e w' ⟨h,hb⟩;refine⟨?_,hb⟩;unfold ny at hs
 cases hr:ke p with
 | error x=>rw[hr] at hs;cases hs
 | ok f =>
  rw[hr] at hs h;obtain⟨s,k,rfl,hq⟩:=h;dsimp only at hs;rcases hq with⟨-,h2⟩|⟨h2,-⟩
  .split at hs
   .next o1 g1 he =>
    cases hs;rw[he] at h2;obtain⟨rfl,rfl⟩:=h2;rfl
   .cases hs
  .exact absurd (nu ha (by omega)) h2
theorem JH:U0 true [45,49,50,51,52,53,54,55,46,53,48] 45 46 44 3 0 []=[45,49,44,50,51,52,44,53,54,55,46,53,48]/\U1 true [45,49,50,51,52,53,54,55,46,53,48]=0:=by
 constructor<;>kernel_rfl
theorem MI:Vy Ql [49]=[111,110,101]/\Vx Ql [49]=0:=by constructor<;>kernel_rfl
theorem ML:Vy Ql [50]=[111,116,104,101,114]/\Vx Ql [50]=0:=by constructor<;>kernel_rfl
def yy4:Wd:=[123,110,44,32,112,108,117,114,97,108,44,32,111,110,101,32,123,65,125,32,111,116,104,101,114,32,123,66,35,125,125]
theorem Wl:ny n7 yy4 [[110],[110],[49,48,48,48]]=some [66,49,44,48,48,48]:=by kernel_rfl
end Go.Proofs.YthpldolmpinnhaaGreatDoor
namespace Go.Proofs.YthpldolmpinnhaaGreatDoor
open Go.ChangeShapes Go.WideShapes Go.ChangeAt Go.RowKit Go.Lib
set_option maxRecDepth 10000
theorem mem_range:("strconv.ErrRange",Rows.laid_strconv_ErrRange)∈FN:=yj.2 ⟨.tail _ (.tail _ (.tail _ (.tail _ (.tail _ (.head _))))),by kernel_rfl⟩
theorem PM:("strconv.ErrSyntax",Rows.laid_strconv_ErrSyntax)∈FN:=yj.2 ⟨.tail _ (.tail _ (.tail _ (.tail _ (.tail _ (.tail _ (.head _)))))),by kernel_rfl⟩
theorem zfg:prog.globalNamed "strconv.ErrRange" = some 8:=by kernel_rfl
theorem tu:(prog.globals[8]?).map (·.type)=some 73:=by kernel_rfl
theorem tk:prog.globalNamed "strconv.ErrSyntax" = some 7:=by kernel_rfl
theorem nj:(prog.globals[7]?).map (·.type)=some 73:=by kernel_rfl
theorem ng{H:Type}{enc:TypeId×Value->H}{P:Program}{w:World}{base:Nat}{sp:Nat->Bool}{held:Bool}{fuel:Nat}{t:TypeId}{cs:List Value}{n:String}{d:DataW H}{p:List MemPlace}(ht:∃ ms,P.underlying t=some (.interface ms))
  (h:yx enc P w base sp held fuel t cs=some (.iface n d,p)):∃ u v,cs=[.iface u v]:=by
 cases fuel with
 | zero=>simp[yx] at h
 | succ k =>
  unfold yx at h;obtain⟨ms,ht⟩:=ht;rw[ht] at h;split at h<;>simp_all
theorem DK{W:World}{n:String}{g:Nat}{nm:String}{d:DataW Unit}(hg:prog.globalNamed n=some g)(hT:(prog.globals[g]?).map (·.type)=some 73)(h:VarReads prog W n (.iface nm d)) :
  ∃ t v,W.cell? ⟨g,0,none⟩=some (.iface t v):=by
 obtain⟨g',t,cs,fuel,p,hg',MW,Bq,hd⟩:=h;obtain rfl:=zt (hg.symm.trans hg');obtain rfl:=zt (hT.symm.trans MW);obtain⟨u,v,dT⟩:=ng ⟨_,underlying73⟩ hd;refine⟨u,v,?_⟩;rw[World.var?_cell hg Bq 0,<-Array.getElem?_toList,dT];rfl
theorem yy5{W:World}(h:laidMetH prog listed W):S9 W :=
 ⟨DK tk nj (zo (bB h).1 PM),DK zfg tu (zo (bB h).1 mem_range)⟩
theorem td{W:World}(h:laidMetH prog listed W):dU W:=⟨zjz h,yy5 h⟩
end Go.Proofs.YthpldolmpinnhaaGreatDoor
namespace Go.Proofs.YthpldolmpinnhaaGreatDoor
open Go Go.RowKit
set_option maxRecDepth 10000
structure MM(w0 w:World)(B:Nat)(c o:Value):Prop where
 loc:RS w B c o 45 46 44 3 0 ⟨#[]⟩
 eng:Xx w c o
 Hf:Below w0.heap.size w0 w
theorem MM.next{w0 w w':World}{B:Nat}{c o:Value}(h:MM w0 w B c o)(hb:Below w.heap.size w w'):MM w0 w' B c o:=⟨h.loc.below hb (zx _ _ h.loc.1),h.eng.below hb,h.Hf.trans (hb.mono h.Hf.size)⟩
theorem MM.made{w0 w:World}{c o:Value}(hA:Xx w c o)(hb:Below w0.heap.size w0 w):MM w0 (w.alloc (.cells #[c,o,.int .i32 45,.int .i32 46,.int .i32 44,.int .u8 3,.int .u8 0,.string ⟨#[]⟩] 25)) w.heap.size c o:=by
 have jB:Below w.heap.size w (w.alloc (.cells #[c,o,.int .i32 45,.int .i32 46,.int .i32 44,.int .u8 3,.int .u8 0,.string ⟨#[]⟩] 25)):=(zk _ _).alloc (z8 _) _;refine⟨?_,hA.below jB,hb.trans (jB.mono hb.size)⟩;refine⟨?_,?_,?_,?_,?_,?_,?_,?_⟩<;>exact xu _ _ _ _ _
theorem PN(w:World)(hE:dU w):Calls prog 18 #[] w fun e w'=>e = .returned (.bool true)/\Below w.heap.size w w':=by
 have HE:=z7 hE;clear hE;go_enter func18,ntmps18;go_wp2_with fail;refine(Vz w).mono ?_;rintro e w1 ⟨⟨c,o,rfl,hc,ho⟩,xG⟩;obtain⟨ca,cn,ck,rfl⟩:=hc.slice;obtain⟨oa,on,ok,rfl⟩:=ho.slice;have hG:=MM.made (Xx.mk hc ho) xG;go_wp2_with fail;generalize w1.alloc (.cells #[.slice ca cn ck,.slice oa on ok,.int .i32 45,.int .i32 46,.int .i32 44,.int .u8 3,.int .u8 0,.string ⟨#[]⟩] 25)=W at hG |-
 generalize w1.heap.size=B at hG |-
 clear hc ho xG;have HN:=z7 (PL (s:=[45,49,50,51,52,53,54,55,46,53,48]) (by decide) (HE.out.below hG.Hf) hG.eng);rw[JH.1,JH.2] at HN;refine HN.out.mono ?_;rintro e w2 ⟨rfl,xJ⟩;have hG2:=hG.next xJ;obtain⟨l0,-,-,-,-,-,-,-⟩:=hG2.loc;have HC:=z7 (ME Ql (.slice ca cn ck) ⟨#[49]⟩ w2 hG2.eng.c (by decide) bL.1 (by decide) (HE.out.below hG2.Hf).cat);rw[show(⟨#[49]⟩:ByteArray).data.toList=[49] from rfl,MI.1,MI.2] at HC;have HG:=z7 hG2;clear hG hG2 xJ HN;go_wp2_with fail;refine HC.out.mono ?_;rintro e w3 ⟨rfl,ub⟩;have hG3:=HG.out.next ub;obtain⟨l0,-,-,-,-,-,-,-⟩:=hG3.loc;have HC2:=z7 (ME Ql (.slice ca cn ck) ⟨#[50]⟩ w3 hG3.eng.c (by decide) bL.1 (by decide) (HE.out.below hG3.Hf).cat);rw[show(⟨#[50]⟩:ByteArray).data.toList=[50] from rfl,ML.1,ML.2] at HC2;have HG3:=z7 hG3;clear hG3 ub HC HG;go_wp2_with fail;refine HC2.out.mono ?_;rintro e w4 ⟨rfl,ur⟩;have hG4:=HG3.out.next ur;obtain⟨l0,l1,l2,l3,l4,l5,l6,l7⟩:=hG4.loc;have HG4:=z7 hG4;clear hG4 ur HC2 HG3;go_wp2_with fail;have uN:Below w4.heap.size w4 (w4.alloc (.cells #[xg [110],xg [110],xg [49,48,48,48]] 9)):=(zk _ _).alloc (z8 _) _;have ht:Ys (w4.alloc (.cells #[xg [110],xg [110],xg [49,48,48,48]] 9)) (some ⟨w4.heap.size,0,none⟩) [[110],[110],[49,48,48,48]]:=fun _=>⟨_,_,rfl,fun j t ht=>by
  rw[zM,xu];match j,ht with
  | 0,ht=>simpa using ht
  | 1,ht=>simpa using ht
  | 2,ht=>simpa using ht⟩
 have hG5:=HG4.out.next uN;have HS:=z7 (Wi (cc:=3) (n:=3) Wl (by kernel_rfl) (by decide) (by decide) rfl (by decide) (HE.out.below hG5.Hf) hG5.eng ht);have HB:=z7 hG5.Hf;clear uN ht hG5 HG4 l0 l1 l2 l3 l4 l5 l6 l7;refine HS.out.mono ?_;rintro e w5 ⟨rfl,jW⟩;have HB5:=z7 (HB.out.trans (jW.mono HB.out.size));clear jW HS;go_wp2;go_ret;exact⟨by first|rfl|simp,HB5.out⟩
end Go.Proofs.YthpldolmpinnhaaGreatDoor
