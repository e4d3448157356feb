import Derived.Test.YthpldolmpinnhaaGreatDoorJK38
import Derived.Deep.LoopGhost
import Derived.WalkMore
import Derived.Defers
import Derived.Recover
import Derived.Maps.Own
import Derived.Maps.Views
set_option maxHeartbeats 64000000
open Go.Lib renaming hid→z7,hasPrefix→zv,trimPrefix→zU,encodeRune→zG,idxFromS→yy
open Nat renaming le_refl→z8,le_trans→zX,zero_le→zV,zero_add→zw,not_lt_zero→yb
open List renaming length_append→zy,length_cons→zu,isPrefixOf→zk,take_succ_eq_append_getElem→zf,length_nil→zY,all_append→zQ,length_drop→zD,mem_append→zM,takeWhile_cons_of_pos→zO,takeWhile_cons_of_neg→zP,getElem?_append_right→zR,mem_of_find?_eq_some→zW,getElem_append_right→za,getElem?_append_left→zc,drop_eq_getElem_cons→ze,mem_cons→zl,getElem_append_left→zm,drop_of_length_le→zt,take_append_drop→yz,find?_append→yk,mem_filter→yg
open Go.World renaming block_lt_of_cell?→zx,cell?_alloc_lt→zZ,setCell→zF,cell?_setCell_same→zS,frozen?_of_block→zo,ownsRow_nil→yq
open Go.RowKit.Below renaming refl→zj,heap_setCell→yu,heap_alloc→yj
open Bool renaming and_eq_true→zg
open Go.WideMaps renaming keyOf_string_mk→zJ
open Go.Instr renaming index→zE,makeFunc→yf
open ByteArray renaming getElem_eq_getElem_data→zH,empty→zI
open Go.Maps renaming string_keyed→zL,atKey_put_other→yx
open Option renaming isSome_iff_exists→zN
open Go.Op renaming equalIn→zi
open Go.Lib.laidMet renaming reads→zn
open Option.some renaming inj→zr
open And renaming intro→zh
open Go.DataW renaming trod→yv,LaidVars→yd
open Go.Proofs.Tryz
namespace Go.Proofs.YthpldolmpinnhaaGreatDoor
open Go Go.RowKit
set_option maxRecDepth 10000
theorem Tz(s:ByteArray)(w:World)(hs:s.size<=1000000) :
  Calls prog 66 #[.string s,.string ⟨#[64]⟩] w fun e w' =>
   e = .returned (.tuple #[.string ⟨(s.data.toList.take (s.data.toList.idxOf 64)).toArray⟩,.string ⟨(s.data.toList.drop (s.data.toList.idxOf 64+1)).toArray⟩,.bool (decide (s.data.toList.idxOf 64<s.size))])/\∃ n,w'=w.drewN n:=by
 have hL:=fun w=>KM s 64 w hs
 have HL:=z7 hL;clear hL;go_enter func66,ntmps66;go_wp2_with fail;refine(HL.out _).mono ?_;rintro e w' ⟨rfl,n,rfl⟩;go_wp2;go_ret3
 exact⟨rfl,n,rfl⟩
abbrev pX:Ending := .panicked [{ v := .iface 278 (.agg #[]),recovered:=false }]
def yb2(r:Option (List Wd))(w:World)(e:Ending)(w':World):Prop :=
 (match r with|none=>e=pX|some ws=>∃ v,e = .returned v/\w'.ownsRow w.heap.size 9 1 v ws.length (ws.map xk))/\Below w.heap.size w w'
def zqy(r:Option (List Wd))(n0:Nat)(w:World)(s sv:Value)(n:Nat)(wr:World):Prop :=
 ∃ (acc:List Wd) (l:List UInt8),s = .string ⟨l.toArray⟩/\wr.ownsRow w.heap.size 9 1 sv acc.length (acc.map xk)/\Below w.heap.size w wr/\l.length<n/\l.length+acc.length<=n0/\jL n acc l=r
theorem Zh{l m:List UInt8}(h:zv l m=false):zU l m=l:=by
 unfold zU;simp[h]
theorem XR{c:UInt8}{t m:List UInt8}(hm:m=[33,61]\/m=[46,46]\/m=[61]\/m=[44]\/m=[37])(h:zv (c::t) m=true):GZ (c::t)=some m/\zU (c::t) m=(c::t).drop m.length:=by
 have ht:zU (c::t) m=(c::t).drop m.length:=by unfold zU;rw[if_pos h]
 refine⟨?_,ht⟩;unfold zv at h;rcases hm with rfl|rfl|rfl|rfl|rfl
 ·cases t with
  | nil=>simp[zk] at h
  | cons d u =>
   simp[zk] at h;obtain⟨rfl,rfl⟩:=h;rfl
 ·cases t with
  | nil=>simp[zk] at h
  | cons d u =>
   simp[zk] at h;obtain⟨rfl,rfl⟩:=h;rfl
 ·simp[zk] at h;subst h;rfl
 ·simp[zk] at h;subst h;rfl
 ·simp[zk] at h;subst h;rfl
theorem Ty{c:UInt8}{t:List UInt8}(h0:zv (c::t) [33,61]=false)(h1:zv (c::t) [46,46]=false)(h2:zv (c::t) [61]=false)(h3:zv (c::t) [44]=false)(h4:zv (c::t) [37]=false):GZ (c::t)=none:=by
 unfold GZ;split
 ·rename_i u e;cases e;simp[zv,zk] at h0
 ·rename_i u e;cases e;simp[zv,zk] at h1
 ·rename_i u e;cases e;simp[zv,zk] at h2
 ·rename_i u e;cases e;simp[zv,zk] at h3
 ·rename_i u e;cases e;simp[zv,zk] at h4
 ·rfl
theorem YI{p:UInt8->Bool}:∀ {t:List UInt8} {m:Nat},m<=t.length->(t.take m).all p=true->(∀ h:m<t.length,p t[m]=false)->t.takeWhile p=t.take m/\t.dropWhile p=t.drop m
 | [],0,_,_,_=>⟨rfl,rfl⟩
 | [],m+1,h,_,_=>absurd h (by simp)
 | c::t,0,_,_,h=>by
  have:=h (by simp);have hc:p c=false:=by simpa using this
  rw[zP (by simp[hc]),List.dropWhile_cons_of_neg (by simp[hc])];exact⟨rfl,rfl⟩
 | c::t,m+1,hm,ha,h=>by
  simp only[List.take_succ_cons,List.all_cons,zg] at ha;have ih:=YI (t:=t) (m:=m) (by simpa using hm) ha.2 (fun hl=>by have:=h (by simp;omega);simpa using this);rw[zO ha.1,List.dropWhile_cons_of_pos ha.1,ih.1,ih.2];exact⟨rfl,rfl⟩
theorem Lq(c:UInt8):xE c<=3:=by
 unfold xE;split
 ·decide
 split
 ·decide
 split<;>decide
theorem O7(s:ByteArray)(w:World)(hs:s.size<=1000):Calls prog 140 #[.string s] w (yb2 (N6 s.data.toList) w):=by
 obtain⟨r,hr⟩:∃ r,N6 s.data.toList=r:=⟨_,rfl⟩;rw[hr];have il:(s.data.toList.take (s.data.toList.idxOf 64)).length<=s.size:=by simp;omega
 unfold N6 at hr;rw[xi] at hr;obtain⟨l0,hl⟩:∃ l0,s.data.toList.take (s.data.toList.idxOf 64)=l0:=⟨_,rfl⟩;have hC:=Tz s w (by omega);rw[hl] at hr il hC;have HR:=z7 hr;have HC:=z7 hC;have VE:∀ (s p:ByteArray) (W:World),Calls prog 65 #[.string s,.string p] W fun e w'=>e = .returned (.tuple #[.string ⟨(zU s.data.toList p.data.toList).toArray⟩,.bool (zv s.data.toList p.data.toList)])/\W=w':=fun s p W=>(Tryz.strings_CutPrefix s p W).mono fun _ _ h=>⟨h.1,h.2.symm⟩
 have Di:=z7 VE;clear hr hl hC VE;have zeg:∀ W:World,(zE 303 (.agg #[.string ⟨#[33,61]⟩,.string ⟨#[46,46]⟩,.string ⟨#[61]⟩,.string ⟨#[44]⟩,.string ⟨#[37]⟩]) (.int .i64 0)).run prog W = .ok (.string ⟨#[33,61]⟩) W:=fun W=>by kernel_rfl
 have zef:∀ W:World,(zE 303 (.agg #[.string ⟨#[33,61]⟩,.string ⟨#[46,46]⟩,.string ⟨#[61]⟩,.string ⟨#[44]⟩,.string ⟨#[37]⟩]) (.int .i64 1)).run prog W = .ok (.string ⟨#[46,46]⟩) W:=fun W=>by kernel_rfl
 have zed:∀ W:World,(zE 303 (.agg #[.string ⟨#[33,61]⟩,.string ⟨#[46,46]⟩,.string ⟨#[61]⟩,.string ⟨#[44]⟩,.string ⟨#[37]⟩]) (.int .i64 2)).run prog W = .ok (.string ⟨#[61]⟩) W:=fun W=>by kernel_rfl
 have yb3:∀ W:World,(zE 303 (.agg #[.string ⟨#[33,61]⟩,.string ⟨#[46,46]⟩,.string ⟨#[61]⟩,.string ⟨#[44]⟩,.string ⟨#[37]⟩]) (.int .i64 3)).run prog W = .ok (.string ⟨#[44]⟩) W:=fun W=>by kernel_rfl
 have yb4:∀ W:World,(zE 303 (.agg #[.string ⟨#[33,61]⟩,.string ⟨#[46,46]⟩,.string ⟨#[61]⟩,.string ⟨#[44]⟩,.string ⟨#[37]⟩]) (.int .i64 4)).run prog W = .ok (.string ⟨#[37]⟩) W:=fun W=>by kernel_rfl
 go_enter func140,ntmps140;go_wp2_with fail;go_step3
 go_wp2_with fail;refine HC.out.mono ?_;rintro e w1 ⟨rfl,nd,rfl⟩;go_wp2_with fail;go_step3
 go_wp2_with fail;go_loopg [0,2] (s.size+1) (fun n sl sv wr=>zqy r s.size w sl sv n wr)
 case atStart=>exact⟨[],l0,rfl,yq _ _ _ _,below_drewN (zj _ _) nd,by omega,by simp;omega,HR.out⟩
 case round =>
  obtain⟨acc,l,rfl,xV,hb,j5,Dc,jH⟩:=hrel;obtain⟨a,cap,rfl⟩:=xZ xV;have HO:=z7 xV;have HG:=z7 jH;obtain⟨n,rfl⟩:∃ n,gk=n+1:=⟨gk - 1,by omega⟩;clear xV jH
  cases l with
  | nil =>
   have hg:r=some acc:=by rw[←HG.out,jL]
   have HGG:=z7 hg;clear hg;go_wp2;try rw[Exit.noGoto_ret]
   go_ret;rw[HGG.out];exact⟨⟨_,rfl,HO.out⟩,hb⟩
  | cons c t =>
   have qa:=size_mk (c::t);obtain⟨u,hu⟩:∃ u:ByteArray,u=⟨(c::t).toArray⟩:=⟨_,rfl⟩;have hud:u.data.toList=c::t:=by rw[hu]
   rw[←hu] at qa ⊢;have HU:=z7 hu;have Lk:=z7 hud;have je:(0:Int)<(u.size:Int):=by rw[qa];simp
   have fS:=z7 qa;clear hu hud;have xC:t.length+1<=s.size:=by have h1:=Dc;simp at h1;omega
   clear qa;have P0:=Di.out u ⟨#[33,61]⟩;have P1:=Di.out u ⟨#[46,46]⟩;have P2:=Di.out u ⟨#[61]⟩;have P3:=Di.out u ⟨#[44]⟩;have P4:=Di.out u ⟨#[37]⟩;rw[Lk.out] at P0;rw[Lk.out] at P1;rw[Lk.out] at P2;rw[Lk.out] at P3;rw[Lk.out] at P4
   cases q0:zv (c::t) (⟨#[33,61]⟩:ByteArray).data.toList
   ·skip
    rw[q0,Zh q0] at P0;have ly:=z7 P0;have Q0:=z7 q0;clear P0 q0
    cases q1:zv (c::t) (⟨#[46,46]⟩:ByteArray).data.toList
    ·skip
     rw[q1,Zh q1] at P1;have KI:=z7 P1;have Q1:=z7 q1;clear P1 q1
     cases q2:zv (c::t) (⟨#[61]⟩:ByteArray).data.toList
     ·skip
      rw[q2,Zh q2] at P2;have GO:=z7 P2;have Q2:=z7 q2;clear P2 q2
      cases q3:zv (c::t) (⟨#[44]⟩:ByteArray).data.toList
      ·skip
       rw[q3,Zh q3] at P3;have eJ:=z7 P3;have Q3:=z7 q3;clear P3 q3
       cases q4:zv (c::t) (⟨#[37]⟩:ByteArray).data.toList
       ·skip
        rw[q4,Zh q4] at P4;have L6:=z7 P4;have Q4:=z7 q4;clear P4 q4;have Lj:=Ty Q0.out Q1.out Q2.out Q3.out Q4.out;have jH:=HG.out;rw[jL,Lj] at jH;have dP:=z7 jH;clear jH Lj;go_wp2_with fail;refine wp_loop_rounds 6 ?_;rw[rounds_succ];go_wp2_with fail;refine(ly.out _).mono ?_;rintro e wz0 ⟨rfl,rfl⟩;go_wp2_with fail;rw[rounds_succ];go_wp2_with fail;refine(KI.out _).mono ?_;rintro e wz1 ⟨rfl,rfl⟩;go_wp2_with fail;rw[rounds_succ];go_wp2_with fail;refine(GO.out _).mono ?_;rintro e wz2 ⟨rfl,rfl⟩;go_wp2_with fail;rw[rounds_succ];go_wp2_with fail;refine(eJ.out _).mono ?_;rintro e wz3 ⟨rfl,rfl⟩;go_wp2_with fail;rw[rounds_succ];go_wp2_with fail;refine(L6.out _).mono ?_;rintro e wz4 ⟨rfl,rfl⟩;go_wp2_with fail;rw[rounds_succ];have Z0:=fun W=>fF c W
        have aQ:u[0]'(by omega)=c:=by
         have h1:=HU.out;subst h1;simp[zH]
        go_wp2_with fail;have Wq:=z7 Z0;have HG0:=z7 aQ;clear Z0 aQ;have hk3:=Lq c;have hKc:=(by omega:xE c=0\/xE c=1\/xE c=2\/xE c=3);have QR:u.size=t.length+1:=fS.out;have hux:∀ m (h:m<t.length) (h2:m+1<u.size),u[m+1]=t[m]:=fun m h h2=>by
         have h1:=HU.out;subst h1;simp[zH]
        have HUX:=z7 hux;have Jq:=Wq.out wr;clear zeg zef zed yb3 yb4 hux hk3 QR je;rcases hKc with hK|hK|hK|hK
        ·skip
         rw[hK] at Jq;refine Jq.mono ?_;rintro e w3 ⟨rfl,rfl⟩;have HK:=z7 hK;clear hK Jq;go_wp2_with fail;go_loop [7] (fun v=>∃ m:Nat,m<=t.length/\v = .int .i64 ((m+1:Nat):Int)/\(t.take m).all (fun d=>xE d==xE c)=true) (fun v=>t.length+1 - (intOf v).toNat)
         case atStart=>exact⟨0,zV _,rfl,rfl⟩
         case round =>
          obtain⟨m,hm,rfl,qC⟩:=hrel;have XV:=z7 qC;clear qC;by_cases E8:m<t.length
          ·have b1:m+1<u.size:=by have Gf:u.size=t.length+1:=fS.out;omega
           have hum:=HUX.out m E8 b1;have b2:(m:Int)+1<(u.size:Int):=by omega
           have b3:m+1<=u.size:=by omega
           have jG:=fF t[m] wr;obtain⟨K2,EX⟩:∃ K2,xE t[m]=K2:=⟨_,rfl⟩;rw[EX] at jG;have HCM:=z7 jG;have SP:=z7 EX;clear jG EX;go_wp2_with fail;refine HCM.out.mono ?_;rintro e w4 ⟨rfl,rfl⟩;by_cases hq:K2=0
           ·have hq':((K2:Int)==0)=true:=by rw[hq];rfl
            have K8:(t.take (m+1)).all (fun d=>xE d==xE c)=true:=by
             rw[zf E8,zQ,XV.out];simp[SP.out,HK.out,hq]
            have O8:=z7 K8;clear hq K8;go_wp2;exact⟨⟨m+1,by omega,by go_num,O8.out⟩,by simp[intOf];omega⟩
           ·have hq':((K2:Int)==0)=false:=by simp;omega
            have vB:=YI (p:=fun d=>xE d==xE c) hm XV.out (fun h=>by simp[SP.out,HK.out,hq]);have gi:=z7 vB;clear vB hq;have vu:r=none:=by rw[←dP.out,if_pos HK.out]
            have gj:=z7 vu;clear vu;go_wp2;refine⟨rfl,?_,hb⟩;rw[gj.out]
          ·have vB:=YI (p:=fun d=>xE d==xE c) hm XV.out (fun h=>absurd h E8);have gi:=z7 vB;have b2:¬((m:Int)+1<(u.size:Int)):=by have Gf:u.size=t.length+1:=fS.out;omega
           have b1:¬(m+1<u.size):=by omega
           have b3:m+1<=u.size:=by have Gf:u.size=t.length+1:=fS.out;omega
           clear vB E8;have vu:r=none:=by rw[←dP.out,if_pos HK.out]
           have gj:=z7 vu;clear vu;go_wp2;refine⟨rfl,?_,hb⟩;rw[gj.out]
        ·skip
         rw[hK] at Jq;refine Jq.mono ?_;rintro e w3 ⟨rfl,rfl⟩;have HK:=z7 hK;clear hK Jq;go_wp2_with fail;go_loop [7] (fun v=>∃ m:Nat,m<=t.length/\v = .int .i64 ((m+1:Nat):Int)/\(t.take m).all (fun d=>xE d==xE c)=true) (fun v=>t.length+1 - (intOf v).toNat)
         case atStart=>exact⟨0,zV _,rfl,rfl⟩
         case round =>
          obtain⟨m,hm,rfl,qC⟩:=hrel;have XV:=z7 qC;clear qC;by_cases E8:m<t.length
          ·have b1:m+1<u.size:=by have Gf:u.size=t.length+1:=fS.out;omega
           have hum:=HUX.out m E8 b1;have b2:(m:Int)+1<(u.size:Int):=by omega
           have b3:m+1<=u.size:=by omega
           have jG:=fF t[m] wr;obtain⟨K2,EX⟩:∃ K2,xE t[m]=K2:=⟨_,rfl⟩;rw[EX] at jG;have HCM:=z7 jG;have SP:=z7 EX;clear jG EX;go_wp2_with fail;refine HCM.out.mono ?_;rintro e w4 ⟨rfl,rfl⟩;by_cases hq:K2=1
           ·have hq':((K2:Int)==1)=true:=by rw[hq];rfl
            have K8:(t.take (m+1)).all (fun d=>xE d==xE c)=true:=by
             rw[zf E8,zQ,XV.out];simp[SP.out,HK.out,hq]
            have O8:=z7 K8;clear hq K8;go_wp2;exact⟨⟨m+1,by omega,by go_num,O8.out⟩,by simp[intOf];omega⟩
           ·have hq':((K2:Int)==1)=false:=by simp;omega
            have vB:=YI (p:=fun d=>xE d==xE c) hm XV.out (fun h=>by simp[SP.out,HK.out,hq]);have gi:=z7 vB;clear vB hq;have XS:jL n acc (t.drop m)=r:=by
             have h1:=dP.out;rw[if_neg (by rw[HK.out];decide),gi.out.1,gi.out.2] at h1;rw[if_pos HK.out] at h1;exact h1
            have Vq:=z7 XS;have qb:u.extract (m+1) u.size=⟨(t.drop m).toArray⟩:=by rw[qB,Lk.out];rfl
            have du:u.extract 0 (m+1)=⟨(c::t.take m).toArray⟩:=by rw[qD,Lk.out];rfl
            have eS:=z7 du;have eW:=z7 qb;clear XS du qb;go_wp2;rw[eW.out];go_roundg n
            case measure=>omega
            case rel=>exact⟨acc,t.drop m,rfl,HO.out,hb,by simp at j5 ⊢;omega,by simp at Dc ⊢;omega,Vq.out⟩
          ·have vB:=YI (p:=fun d=>xE d==xE c) hm XV.out (fun h=>absurd h E8);have gi:=z7 vB;have b2:¬((m:Int)+1<(u.size:Int)):=by have Gf:u.size=t.length+1:=fS.out;omega
           have b1:¬(m+1<u.size):=by omega
           have b3:m+1<=u.size:=by have Gf:u.size=t.length+1:=fS.out;omega
           clear vB E8;have XS:jL n acc (t.drop m)=r:=by
            have h1:=dP.out;rw[if_neg (by rw[HK.out];decide),gi.out.1,gi.out.2] at h1;rw[if_pos HK.out] at h1;exact h1
           have Vq:=z7 XS;have qb:u.extract (m+1) u.size=⟨(t.drop m).toArray⟩:=by rw[qB,Lk.out];rfl
           have du:u.extract 0 (m+1)=⟨(c::t.take m).toArray⟩:=by rw[qD,Lk.out];rfl
           have eS:=z7 du;have eW:=z7 qb;clear XS du qb;go_wp2;rw[eW.out];go_roundg n
           case measure=>omega
           case rel=>exact⟨acc,t.drop m,rfl,HO.out,hb,by simp at j5 ⊢;omega,by simp at Dc ⊢;omega,Vq.out⟩
        ·skip
         rw[hK] at Jq;refine Jq.mono ?_;rintro e w3 ⟨rfl,rfl⟩;have HK:=z7 hK;clear hK Jq;go_wp2_with fail;go_loop [7] (fun v=>∃ m:Nat,m<=t.length/\v = .int .i64 ((m+1:Nat):Int)/\(t.take m).all (fun d=>xE d==xE c)=true) (fun v=>t.length+1 - (intOf v).toNat)
         case atStart=>exact⟨0,zV _,rfl,rfl⟩
         case round =>
          obtain⟨m,hm,rfl,qC⟩:=hrel;have XV:=z7 qC;clear qC;by_cases E8:m<t.length
          ·have b1:m+1<u.size:=by have Gf:u.size=t.length+1:=fS.out;omega
           have hum:=HUX.out m E8 b1;have b2:(m:Int)+1<(u.size:Int):=by omega
           have b3:m+1<=u.size:=by omega
           have jG:=fF t[m] wr;obtain⟨K2,EX⟩:∃ K2,xE t[m]=K2:=⟨_,rfl⟩;rw[EX] at jG;have HCM:=z7 jG;have SP:=z7 EX;clear jG EX;go_wp2_with fail;refine HCM.out.mono ?_;rintro e w4 ⟨rfl,rfl⟩;by_cases hq:K2=2
           ·have hq':((K2:Int)==2)=true:=by rw[hq];rfl
            have K8:(t.take (m+1)).all (fun d=>xE d==xE c)=true:=by
             rw[zf E8,zQ,XV.out];simp[SP.out,HK.out,hq]
            have O8:=z7 K8;clear hq K8;go_wp2;exact⟨⟨m+1,by omega,by go_num,O8.out⟩,by simp[intOf];omega⟩
           ·have hq':((K2:Int)==2)=false:=by simp;omega
            have vB:=YI (p:=fun d=>xE d==xE c) hm XV.out (fun h=>by simp[SP.out,HK.out,hq]);have gi:=z7 vB;clear vB hq;have XS:jL n (acc++[c::t.take m]) (t.drop m)=r:=by
             have h1:=dP.out;rw[if_neg (by rw[HK.out];decide),gi.out.1,gi.out.2] at h1;rw[if_neg (by rw[HK.out];decide)] at h1;exact h1
            have Vq:=z7 XS;have qb:u.extract (m+1) u.size=⟨(t.drop m).toArray⟩:=by rw[qB,Lk.out];rfl
            have du:u.extract 0 (m+1)=⟨(c::t.take m).toArray⟩:=by rw[qD,Lk.out];rfl
            have eS:=z7 du;have eW:=z7 qb;clear XS du qb;go_wp2_with (at_builtin;refine qd kN rfl _ _ rfl w.heap.size _ _ _ rfl (HO.out.alloc _) ⟨wr.heap.size,0,none⟩ 1 1 [.string (u.extract 0 (m+1))] rfl rfl ?c1x2 ?c2x2 ?c3x2 ?c4x2 ?_);try(case c1x2=>exact cells_one (xu _ _ _ _ _))
            try(case c2x2=>first|rfl|(intro x hx;simp at hx;subst hx;rfl))
            try(case c3x2=>omega)
            try(case c4x2=>have:=hb.size;simp;omega)
            intro Uh w5 jP qc;have kZ:Below w.heap.size w w5:=(hb.alloc hb.size _).grown qc (by have:=hb.size;simp;omega) (fun q hq=>(HO.out.lt q hq).1);obtain⟨a5,c5,rfl⟩:=xZ jP;rw[eS.out] at jP;have Ja:=z7 jP;clear jP qc;go_wp2;rw[eW.out];go_roundg n
            case measure=>omega
            case rel=>exact⟨acc++[c::t.take m],t.drop m,rfl,by simpa using Ja.out,kZ,by simp at j5 ⊢;omega,by simp at Dc;simp only[zy,zu,zY,zD];omega,Vq.out⟩
          ·have vB:=YI (p:=fun d=>xE d==xE c) hm XV.out (fun h=>absurd h E8);have gi:=z7 vB;have b2:¬((m:Int)+1<(u.size:Int)):=by have Gf:u.size=t.length+1:=fS.out;omega
           have b1:¬(m+1<u.size):=by omega
           have b3:m+1<=u.size:=by have Gf:u.size=t.length+1:=fS.out;omega
           clear vB E8;have XS:jL n (acc++[c::t.take m]) (t.drop m)=r:=by
            have h1:=dP.out;rw[if_neg (by rw[HK.out];decide),gi.out.1,gi.out.2] at h1;rw[if_neg (by rw[HK.out];decide)] at h1;exact h1
           have Vq:=z7 XS;have qb:u.extract (m+1) u.size=⟨(t.drop m).toArray⟩:=by rw[qB,Lk.out];rfl
           have du:u.extract 0 (m+1)=⟨(c::t.take m).toArray⟩:=by rw[qD,Lk.out];rfl
           have eS:=z7 du;have eW:=z7 qb;clear XS du qb;go_wp2_with (at_builtin;refine qd kN rfl _ _ rfl w.heap.size _ _ _ rfl (HO.out.alloc _) ⟨wr.heap.size,0,none⟩ 1 1 [.string (u.extract 0 (m+1))] rfl rfl ?c1x3 ?c2x3 ?c3x3 ?c4x3 ?_);try(case c1x3=>exact cells_one (xu _ _ _ _ _))
           try(case c2x3=>first|rfl|(intro x hx;simp at hx;subst hx;rfl))
           try(case c3x3=>omega)
           try(case c4x3=>have:=hb.size;simp;omega)
           intro Uh w5 jP qc;have kZ:Below w.heap.size w w5:=(hb.alloc hb.size _).grown qc (by have:=hb.size;simp;omega) (fun q hq=>(HO.out.lt q hq).1);obtain⟨a5,c5,rfl⟩:=xZ jP;rw[eS.out] at jP;have Ja:=z7 jP;clear jP qc;go_wp2;rw[eW.out];go_roundg n
           case measure=>omega
           case rel=>exact⟨acc++[c::t.take m],t.drop m,rfl,by simpa using Ja.out,kZ,by simp at j5 ⊢;omega,by simp at Dc;simp only[zy,zu,zY,zD];omega,Vq.out⟩
        ·skip
         rw[hK] at Jq;refine Jq.mono ?_;rintro e w3 ⟨rfl,rfl⟩;have HK:=z7 hK;clear hK Jq;go_wp2_with fail;go_loop [7] (fun v=>∃ m:Nat,m<=t.length/\v = .int .i64 ((m+1:Nat):Int)/\(t.take m).all (fun d=>xE d==xE c)=true) (fun v=>t.length+1 - (intOf v).toNat)
         case atStart=>exact⟨0,zV _,rfl,rfl⟩
         case round =>
          obtain⟨m,hm,rfl,qC⟩:=hrel;have XV:=z7 qC;clear qC;by_cases E8:m<t.length
          ·have b1:m+1<u.size:=by have Gf:u.size=t.length+1:=fS.out;omega
           have hum:=HUX.out m E8 b1;have b2:(m:Int)+1<(u.size:Int):=by omega
           have b3:m+1<=u.size:=by omega
           have jG:=fF t[m] wr;obtain⟨K2,EX⟩:∃ K2,xE t[m]=K2:=⟨_,rfl⟩;rw[EX] at jG;have HCM:=z7 jG;have SP:=z7 EX;clear jG EX;go_wp2_with fail;refine HCM.out.mono ?_;rintro e w4 ⟨rfl,rfl⟩;by_cases hq:K2=3
           ·have hq':((K2:Int)==3)=true:=by rw[hq];rfl
            have K8:(t.take (m+1)).all (fun d=>xE d==xE c)=true:=by
             rw[zf E8,zQ,XV.out];simp[SP.out,HK.out,hq]
            have O8:=z7 K8;clear hq K8;go_wp2;exact⟨⟨m+1,by omega,by go_num,O8.out⟩,by simp[intOf];omega⟩
           ·have hq':((K2:Int)==3)=false:=by simp;omega
            have vB:=YI (p:=fun d=>xE d==xE c) hm XV.out (fun h=>by simp[SP.out,HK.out,hq]);have gi:=z7 vB;clear vB hq;have XS:jL n (acc++[c::t.take m]) (t.drop m)=r:=by
             have h1:=dP.out;rw[if_neg (by rw[HK.out];decide),gi.out.1,gi.out.2] at h1;rw[if_neg (by rw[HK.out];decide)] at h1;exact h1
            have Vq:=z7 XS;have qb:u.extract (m+1) u.size=⟨(t.drop m).toArray⟩:=by rw[qB,Lk.out];rfl
            have du:u.extract 0 (m+1)=⟨(c::t.take m).toArray⟩:=by rw[qD,Lk.out];rfl
            have eS:=z7 du;have eW:=z7 qb;clear XS du qb;go_wp2_with (at_builtin;refine qd kN rfl _ _ rfl w.heap.size _ _ _ rfl (HO.out.alloc _) ⟨wr.heap.size,0,none⟩ 1 1 [.string (u.extract 0 (m+1))] rfl rfl ?c1x4 ?c2x4 ?c3x4 ?c4x4 ?_);try(case c1x4=>exact cells_one (xu _ _ _ _ _))
            try(case c2x4=>first|rfl|(intro x hx;simp at hx;subst hx;rfl))
            try(case c3x4=>omega)
            try(case c4x4=>have:=hb.size;simp;omega)
            intro Uh w5 jP qc;have kZ:Below w.heap.size w w5:=(hb.alloc hb.size _).grown qc (by have:=hb.size;simp;omega) (fun q hq=>(HO.out.lt q hq).1);obtain⟨a5,c5,rfl⟩:=xZ jP;rw[eS.out] at jP;have Ja:=z7 jP;clear jP qc;go_wp2;rw[eW.out];go_roundg n
            case measure=>omega
            case rel=>exact⟨acc++[c::t.take m],t.drop m,rfl,by simpa using Ja.out,kZ,by simp at j5 ⊢;omega,by simp at Dc;simp only[zy,zu,zY,zD];omega,Vq.out⟩
          ·have vB:=YI (p:=fun d=>xE d==xE c) hm XV.out (fun h=>absurd h E8);have gi:=z7 vB;have b2:¬((m:Int)+1<(u.size:Int)):=by have Gf:u.size=t.length+1:=fS.out;omega
           have b1:¬(m+1<u.size):=by omega
           have b3:m+1<=u.size:=by have Gf:u.size=t.length+1:=fS.out;omega
           clear vB E8;have XS:jL n (acc++[c::t.take m]) (t.drop m)=r:=by
            have h1:=dP.out;rw[if_neg (by rw[HK.out];decide),gi.out.1,gi.out.2] at h1;rw[if_neg (by rw[HK.out];decide)] at h1;exact h1
           have Vq:=z7 XS;have qb:u.extract (m+1) u.size=⟨(t.drop m).toArray⟩:=by rw[qB,Lk.out];rfl
           have du:u.extract 0 (m+1)=⟨(c::t.take m).toArray⟩:=by rw[qD,Lk.out];rfl
           have eS:=z7 du;have eW:=z7 qb;clear XS du qb;go_wp2_with (at_builtin;refine qd kN rfl _ _ rfl w.heap.size _ _ _ rfl (HO.out.alloc _) ⟨wr.heap.size,0,none⟩ 1 1 [.string (u.extract 0 (m+1))] rfl rfl ?c1x5 ?c2x5 ?c3x5 ?c4x5 ?_);try(case c1x5=>exact cells_one (xu _ _ _ _ _))
           try(case c2x5=>first|rfl|(intro x hx;simp at hx;subst hx;rfl))
           try(case c3x5=>omega)
           try(case c4x5=>have:=hb.size;simp;omega)
           intro Uh w5 jP qc;have kZ:Below w.heap.size w w5:=(hb.alloc hb.size _).grown qc (by have:=hb.size;simp;omega) (fun q hq=>(HO.out.lt q hq).1);obtain⟨a5,c5,rfl⟩:=xZ jP;rw[eS.out] at jP;have Ja:=z7 jP;clear jP qc;go_wp2;rw[eW.out];go_roundg n
           case measure=>omega
           case rel=>exact⟨acc++[c::t.take m],t.drop m,rfl,by simpa using Ja.out,kZ,by simp at j5 ⊢;omega,by simp at Dc;simp only[zy,zu,zY,zD];omega,Vq.out⟩
       ·skip
        obtain⟨Lj,PT⟩:=XR (by simp) q4;rw[q4,PT] at P4;have L6:=Lib.hid P4;have jH:=HG.out;rw[jL,Lj] at jH;have dP:=Lib.hid jH;have uA:((c::t).drop ([37]:List UInt8).length).length<=t.length:=by simp
        have IE:=z7 uA;clear q4 Lj PT jH uA P4;go_wp2_with fail;refine wp_loop_rounds 6 ?_;rw[rounds_succ];go_wp2_with fail;refine(ly.out _).mono ?_;rintro e wz0 ⟨rfl,rfl⟩;go_wp2_with fail;rw[rounds_succ];go_wp2_with fail;refine(KI.out _).mono ?_;rintro e wz1 ⟨rfl,rfl⟩;go_wp2_with fail;rw[rounds_succ];go_wp2_with fail;refine(GO.out _).mono ?_;rintro e wz2 ⟨rfl,rfl⟩;go_wp2_with fail;rw[rounds_succ];go_wp2_with fail;refine(eJ.out _).mono ?_;rintro e wz3 ⟨rfl,rfl⟩;go_wp2_with fail;rw[rounds_succ];go_wp2_with fail;refine(L6.out _).mono ?_;rintro e wz4 ⟨rfl,rfl⟩;go_wp2_with (at_builtin;refine qd kN rfl _ _ rfl w.heap.size _ _ _ rfl (HO.out.alloc _) ⟨wr.heap.size,0,none⟩ 1 1 [xk [37]] rfl rfl ?c1x6 ?c2x6 ?c3x6 ?c4x6 ?_);try(case c1x6=>exact cells_one (xu _ _ _ _ _))
        try(case c2x6=>first|rfl|(intro u hu;simp at hu;subst hu;rfl))
        try(case c3x6=>omega)
        try(case c4x6=>have:=hb.size;simp;omega)
        intro Uh w5 jP qc;have kZ:Below w.heap.size w w5:=(hb.alloc hb.size _).grown qc (by have:=hb.size;simp;omega) (fun q hq=>(HO.out.lt q hq).1);obtain⟨a5,c5,rfl⟩:=xZ jP;have Ja:=z7 jP;clear jP qc;go_wp2;go_roundg n
        case measure=>omega
        case rel=>exact⟨acc++[[37]],_,rfl,by simpa using Ja.out,kZ,by first|(have:=IE.out;simp at j5;omega)|(simp at j5 ⊢;omega)|(simp at j5 ⊢;exact j5),by first|(have:=IE.out;simp at Dc;simp only[zy,zu,zY];omega)|(simp at Dc ⊢;omega),by first|exact dP.out|simpa using dP.out⟩
      ·skip
       obtain⟨Lj,PT⟩:=XR (by simp) q3;rw[q3,PT] at P3;have eJ:=Lib.hid P3;have jH:=HG.out;rw[jL,Lj] at jH;have dP:=Lib.hid jH;have uA:((c::t).drop ([44]:List UInt8).length).length<=t.length:=by simp
       have IE:=z7 uA;clear q3 Lj PT jH uA P3 P4;go_wp2_with fail;refine wp_loop_rounds 6 ?_;rw[rounds_succ];go_wp2_with fail;refine(ly.out _).mono ?_;rintro e wz0 ⟨rfl,rfl⟩;go_wp2_with fail;rw[rounds_succ];go_wp2_with fail;refine(KI.out _).mono ?_;rintro e wz1 ⟨rfl,rfl⟩;go_wp2_with fail;rw[rounds_succ];go_wp2_with fail;refine(GO.out _).mono ?_;rintro e wz2 ⟨rfl,rfl⟩;go_wp2_with fail;rw[rounds_succ];go_wp2_with fail;refine(eJ.out _).mono ?_;rintro e wz3 ⟨rfl,rfl⟩;go_wp2_with (at_builtin;refine qd kN rfl _ _ rfl w.heap.size _ _ _ rfl (HO.out.alloc _) ⟨wr.heap.size,0,none⟩ 1 1 [xk [44]] rfl rfl ?c1x7 ?c2x7 ?c3x7 ?c4x7 ?_);try(case c1x7=>exact cells_one (xu _ _ _ _ _))
       try(case c2x7=>first|rfl|(intro u hu;simp at hu;subst hu;rfl))
       try(case c3x7=>omega)
       try(case c4x7=>have:=hb.size;simp;omega)
       intro Uh w5 jP qc;have kZ:Below w.heap.size w w5:=(hb.alloc hb.size _).grown qc (by have:=hb.size;simp;omega) (fun q hq=>(HO.out.lt q hq).1);obtain⟨a5,c5,rfl⟩:=xZ jP;have Ja:=z7 jP;clear jP qc;go_wp2;go_roundg n
       case measure=>omega
       case rel=>exact⟨acc++[[44]],_,rfl,by simpa using Ja.out,kZ,by first|(have:=IE.out;simp at j5;omega)|(simp at j5 ⊢;omega)|(simp at j5 ⊢;exact j5),by first|(have:=IE.out;simp at Dc;simp only[zy,zu,zY];omega)|(simp at Dc ⊢;omega),by first|exact dP.out|simpa using dP.out⟩
     ·skip
      obtain⟨Lj,PT⟩:=XR (by simp) q2;rw[q2,PT] at P2;have GO:=Lib.hid P2;have jH:=HG.out;rw[jL,Lj] at jH;have dP:=Lib.hid jH;have uA:((c::t).drop ([61]:List UInt8).length).length<=t.length:=by simp
      have IE:=z7 uA;clear q2 Lj PT jH uA P2 P3 P4;go_wp2_with fail;refine wp_loop_rounds 6 ?_;rw[rounds_succ];go_wp2_with fail;refine(ly.out _).mono ?_;rintro e wz0 ⟨rfl,rfl⟩;go_wp2_with fail;rw[rounds_succ];go_wp2_with fail;refine(KI.out _).mono ?_;rintro e wz1 ⟨rfl,rfl⟩;go_wp2_with fail;rw[rounds_succ];go_wp2_with fail;refine(GO.out _).mono ?_;rintro e wz2 ⟨rfl,rfl⟩;go_wp2_with (at_builtin;refine qd kN rfl _ _ rfl w.heap.size _ _ _ rfl (HO.out.alloc _) ⟨wr.heap.size,0,none⟩ 1 1 [xk [61]] rfl rfl ?c1x8 ?c2x8 ?c3x8 ?c4x8 ?_);try(case c1x8=>exact cells_one (xu _ _ _ _ _))
      try(case c2x8=>first|rfl|(intro u hu;simp at hu;subst hu;rfl))
      try(case c3x8=>omega)
      try(case c4x8=>have:=hb.size;simp;omega)
      intro Uh w5 jP qc;have kZ:Below w.heap.size w w5:=(hb.alloc hb.size _).grown qc (by have:=hb.size;simp;omega) (fun q hq=>(HO.out.lt q hq).1);obtain⟨a5,c5,rfl⟩:=xZ jP;have Ja:=z7 jP;clear jP qc;go_wp2;go_roundg n
      case measure=>omega
      case rel=>exact⟨acc++[[61]],_,rfl,by simpa using Ja.out,kZ,by first|(have:=IE.out;simp at j5;omega)|(simp at j5 ⊢;omega)|(simp at j5 ⊢;exact j5),by first|(have:=IE.out;simp at Dc;simp only[zy,zu,zY];omega)|(simp at Dc ⊢;omega),by first|exact dP.out|simpa using dP.out⟩
    ·skip
     obtain⟨Lj,PT⟩:=XR (by simp) q1;rw[q1,PT] at P1;have KI:=Lib.hid P1;have jH:=HG.out;rw[jL,Lj] at jH;have dP:=Lib.hid jH;have uA:((c::t).drop ([46,46]:List UInt8).length).length<=t.length:=by simp
     have IE:=z7 uA;clear q1 Lj PT jH uA P1 P2 P3 P4;go_wp2_with fail;refine wp_loop_rounds 6 ?_;rw[rounds_succ];go_wp2_with fail;refine(ly.out _).mono ?_;rintro e wz0 ⟨rfl,rfl⟩;go_wp2_with fail;rw[rounds_succ];go_wp2_with fail;refine(KI.out _).mono ?_;rintro e wz1 ⟨rfl,rfl⟩;go_wp2_with (at_builtin;refine qd kN rfl _ _ rfl w.heap.size _ _ _ rfl (HO.out.alloc _) ⟨wr.heap.size,0,none⟩ 1 1 [xk [46,46]] rfl rfl ?c1x9 ?c2x9 ?c3x9 ?c4x9 ?_);try(case c1x9=>exact cells_one (xu _ _ _ _ _))
     try(case c2x9=>first|rfl|(intro u hu;simp at hu;subst hu;rfl))
     try(case c3x9=>omega)
     try(case c4x9=>have:=hb.size;simp;omega)
     intro Uh w5 jP qc;have kZ:Below w.heap.size w w5:=(hb.alloc hb.size _).grown qc (by have:=hb.size;simp;omega) (fun q hq=>(HO.out.lt q hq).1);obtain⟨a5,c5,rfl⟩:=xZ jP;have Ja:=z7 jP;clear jP qc;go_wp2;go_roundg n
     case measure=>omega
     case rel=>exact⟨acc++[[46,46]],_,rfl,by simpa using Ja.out,kZ,by first|(have:=IE.out;simp at j5;omega)|(simp at j5 ⊢;omega)|(simp at j5 ⊢;exact j5),by first|(have:=IE.out;simp at Dc;simp only[zy,zu,zY];omega)|(simp at Dc ⊢;omega),by first|exact dP.out|simpa using dP.out⟩
   ·skip
    obtain⟨Lj,PT⟩:=XR (by simp) q0;rw[q0,PT] at P0;have ly:=Lib.hid P0;have jH:=HG.out;rw[jL,Lj] at jH;have dP:=Lib.hid jH;have uA:((c::t).drop ([33,61]:List UInt8).length).length<=t.length:=by simp
    have IE:=z7 uA;clear q0 Lj PT jH uA P0 P1 P2 P3 P4;go_wp2_with fail;refine wp_loop_rounds 6 ?_;rw[rounds_succ];go_wp2_with fail;refine(ly.out _).mono ?_;rintro e wz0 ⟨rfl,rfl⟩;go_wp2_with (at_builtin;refine qd kN rfl _ _ rfl w.heap.size _ _ _ rfl (HO.out.alloc _) ⟨wr.heap.size,0,none⟩ 1 1 [xk [33,61]] rfl rfl ?c1x10 ?c2x10 ?c3x10 ?c4x10 ?_);try(case c1x10=>exact cells_one (xu _ _ _ _ _))
    try(case c2x10=>first|rfl|(intro u hu;simp at hu;subst hu;rfl))
    try(case c3x10=>omega)
    try(case c4x10=>have:=hb.size;simp;omega)
    intro Uh w5 jP qc;have kZ:Below w.heap.size w w5:=(hb.alloc hb.size _).grown qc (by have:=hb.size;simp;omega) (fun q hq=>(HO.out.lt q hq).1);obtain⟨a5,c5,rfl⟩:=xZ jP;have Ja:=z7 jP;clear jP qc;go_wp2;go_roundg n
    case measure=>omega
    case rel=>exact⟨acc++[[33,61]],_,rfl,by simpa using Ja.out,kZ,by first|(have:=IE.out;simp at j5;omega)|(simp at j5 ⊢;omega)|(simp at j5 ⊢;exact j5),by first|(have:=IE.out;simp at Dc;simp only[zy,zu,zY];omega)|(simp at Dc ⊢;omega),by first|exact dP.out|simpa using dP.out⟩
theorem Lg(w:World):(Instr.typeAssert (.iface 278 (.agg #[])) 20 278 true).run prog w = .ok (.tuple #[.agg #[],.bool true]) w:=by kernel_rfl
theorem U3(B:Nat)(w:World):CallsD prog 139 #[.pointer (some ⟨B,0,none⟩)] .returning w fun e u' w'=>e = .returned (.tuple #[])/\u' = .returning/\w'=w:=by
 refine callsD_of_wpS func139 rfl fun c₀ cs hu=>?_
 apply wpS_seq;apply wpS_region;simp[wpOpsS,go_sem,recoverD,hu,ntmps139,Exit.thenS];refine wpS_of_wp ?_;go_wp2
 cases c₀;simp_all [bodyPostS,results,results139]
theorem Fb(B:Nat)(u:Value)(uG:List PanicEntry)(w:World)(hc:w.cell? ⟨B,0,none⟩=some u)(hz:w.frozen? ⟨B,0,none⟩=false) :
  CallsD prog 139 #[.pointer (some ⟨B,0,none⟩)] (.panicking ({ v := .iface 278 (.agg #[]),recovered:=false }::uG)) w fun e u' w' =>
   e = .returned (.tuple #[])/\u' = .panicking ({ v := .iface 278 (.agg #[]),recovered:=true }::uG)/\w'=(w.setCell ⟨B,0,none⟩ .nilFunc).alloc (.cells #[] 278):=by
 have ha:=Lg;refine callsD_of_wpS func139 rfl fun c₀ cs hu=>?_
 apply wpS_seq;apply wpS_region;simp[wpOpsS,go_sem,recoverD,hu,ntmps139,Exit.thenS];refine wpS_of_wp ?_;simp only[Array.replicate,List.replicate,List.setIfInBounds_toArray,List.set_cons_zero,List.set_cons_succ,List.append_toArray,List.cons_append,List.nil_append,Act.put];have xC:B<w.heap.size:=zx w _ hc;have oB:(w.alloc (.cells #[] 278)).cell? ⟨B,0,none⟩=some u:=(zZ _ _ _ xC).trans hc;have hz':(w.alloc (.cells #[] 278)).frozen? ⟨B,0,none⟩=false:=(zo (yj _ _ _ xC)).trans hz;go_wp2;simp[bodyPostS,results,results139]
theorem pV{l:List UInt8}{g:Wd}(h:GZ l=some g):Cr g/\0<g.length:=by
 unfold GZ at h;split at h<;>cases h
 all_goals exact⟨⟨by simp,by simp,.inr (by decide)⟩,by simp⟩
theorem eA{p:UInt8->Bool}:∀ {t:List UInt8} {d:UInt8},d∈t.takeWhile p->p d=true
 | [],_,h=>by cases h
 | c::t,d,h=>by
  by_cases hc:p c=true
  ·rw[zO hc] at h;rcases zl.1 h with q|q
   ·rw[q];exact hc
   ·exact eA q
  ·rw[zP hc] at h;cases h
theorem FZ{c:UInt8}{t:List UInt8}(h:xE c=2\/xE c=3):Cr (c::t.takeWhile (fun d=>xE d==xE c))\/1000<(c::t.takeWhile (fun d=>xE d==xE c)).length:=by
 by_cases hl:(c::t.takeWhile (fun d=>xE d==xE c)).length<=1000
 ·left;refine⟨by simp,hl,?_⟩;rcases h with h|h
  ·left;rw[List.all_cons,(Zs c).1 h,Bool.true_and,List.all_eq_true];intro d hd;have:=eA hd;rw[h,beq_iff_eq] at this;exact(Zs d).1 this
  ·right;have:¬xF c=true:=fun e=>by have:=(Zs c).2 e;omega
   simpa using this
 ·right;omega
theorem DV(p:UInt8->Bool)(t:List UInt8):(t.takeWhile p).length+(t.dropWhile p).length=t.length:=by
 have:=congrArg List.length (List.takeWhile_append_dropWhile (p:=p) (l:=t));rw[zy] at this;exact this
theorem FY:∀ (n:Nat) (acc:List Wd) (l:List UInt8) (ws:List Wd),jL n acc l=some ws->l.length<=999->(∀ x∈acc,Cr x)->(∀ x∈ws,Cr x)/\ws.length<=acc.length+l.length
 | n,acc,[],ws,h,_,ha=>by
  rw[jL] at h
  cases h;exact⟨ha,by simp⟩
 | 0,acc,c::t,ws,h,_,_=>by
  rw[jL] at h
  cases h;all_goals (intro hh;cases hh)
 | n+1,acc,c::t,ws,h,hl,ha=>by
  rw[jL] at h;simp only[zu] at hl
  cases hs:GZ (c::t) with
  | some g =>
   rw[hs] at h;dsimp only at h;obtain⟨hg,aQ⟩:=pV hs;have ih:=FY n (acc++[g]) ((c::t).drop g.length) ws h (by simp;omega) (fun x hx=>by
    rcases zM.1 hx with q|q
    ·exact ha x q
    ·simp at q;subst q;exact hg)
   refine⟨ih.1,?_⟩;have:=ih.2;simp at this ⊢;omega
  | none =>
   rw[hs] at h;dsimp only at h;by_cases h0:xE c=0
   ·rw[if_pos h0] at h;cases h
   ·rw[if_neg h0] at h;have hk:=Lq c;have hlen:=DV (fun d=>xE d==xE c) t;have ih:=FY n _ (t.dropWhile (fun d=>xE d==xE c)) ws h (by omega) (fun x hx=>by
     by_cases h1:xE c=1
     ·rw[if_pos h1] at hx;exact ha x hx
     ·rw[if_neg h1] at hx;rcases zM.1 hx with q|q
      ·exact ha x q
      ·simp only[zl,List.not_mem_nil,or_false] at q;subst q;rcases FZ (t:=t) (c:=c) (by omega) with w|w
       ·exact w
       ·simp only[zu] at w;omega)
    refine⟨ih.1,?_⟩;have h2:=ih.2;by_cases h1:xE c=1
    ·rw[if_pos h1] at h2;simp;omega
    ·rw[if_neg h1] at h2;simp at h2 ⊢;omega
theorem pU{l:List UInt8}{ws:List Wd}(h:N6 l=some ws)(hl:l.length<=200):(∀ x∈ws,Cr x)/\ws.length<=200:=by
 unfold N6 at h;have:=FY _ _ _ _ h (by simp;omega) (fun x hx=>by cases hx);refine⟨this.1,?_⟩;have h2:=this.2;simp at h2;omega
theorem ee:zq9 (.func (.func 142) #[] #[]) bE :=
 ⟨_,rfl,fun args w=>enters_of func142 (by kernel_rfl) rfl args w,fun Ts a c lo W h1 h2 h3=>Ip Ts a c lo W h1 h2 h3⟩
theorem pQ:zq9 (.func (.func 144) #[] #[]) allT :=
 ⟨_,rfl,fun args w=>enters_of func144 (by kernel_rfl) rfl args w,fun Ts a c lo W h1 h2 h3=>pz Ts a c lo W h1 h2 h3⟩
theorem pK(p:Nat)(w:World)(hT:RT p w):zq8 p w (.func (.func 145) #[.pointer (some ⟨p,0,none⟩)] #[]) jm :=
 ⟨_,_,_,rfl,fun args w=>enters_of func145 (by kernel_rfl) rfl args w,fun W ws hb hp hx hl=>E7 p ws W hp hx (hT.but hb) hl⟩
theorem ep{of:Dg->Dg}{t u:List Wd}{F:Dg->Dg}(h:Za of t=some (F,u)):Sub u t:=by
 unfold Za at h;by_cases hm:Hw (t.headD [])=true
 ·rw[if_pos hm] at h
  cases hn:kH t.tail with
  | none=>rw[hn] at h;cases h
  | some q =>
   obtain⟨m,v⟩:=q;rw[hn] at h;dsimp only at h;by_cases h0:m=0
   ·rw[if_pos h0] at h;cases h
   ·rw[if_neg h0] at h;cases h;exact(Zt hn).trans (Sub.tail t)
 ·rw[if_neg hm] at h;cases h;exact Sub.refl _
theorem bZ{wi nt:Bool}{ws t:List Wd}{i:qO×Bool}(h:((jV wi ws).map fun q=>((q.1,nt),q.2))=some (i,t)):Sub t ws:=by
 cases hl:jV wi ws with
 | none=>rw[hl] at h;cases h
 | some q =>
  obtain⟨T,u⟩:=q;rw[hl] at h
  cases h;exact T6 hl
theorem BK{nt:Bool}{ws t:List Wd}{i:qO×Bool}(h:((kH ws).map fun q=>((gu q.1 q.1 false,nt),q.2))=some (i,t)):Sub t ws:=by
 cases hl:kH ws with
 | none=>rw[hl] at h;cases h
 | some q =>
  obtain⟨T,u⟩:=q;rw[hl] at h
  cases h;exact Zt hl
theorem Lf{ws t:List Wd}{i:qO×Bool}(h:vo ws=some (i,t)):Sub t ws:=by
 have s1:=Sub.tail ws;have s2:=(Sub.tail ws.tail).trans s1;unfold vo at h;split at h
 ·exact(bZ h).trans s1
 split at h
 ·exact(bZ h).trans s1
 split at h
 ·split at h
  ·exact(BK h).trans s2
  ·exact(BK h).trans s1
 ·dsimp only at h;split at h
  ·split at h
   ·exact(bZ h).trans s2
   ·split at h
    ·exact(bZ h).trans s2
    ·cases h
  ·split at h
   ·exact(bZ h).trans s1
   ·split at h
    ·exact(bZ h).trans s1
    ·cases h
theorem Ld{ws t:List Wd}{T:qO}(h:jm ws=some (T,t)):Sub t ws:=by
 cases ws with
 | nil=>cases h
 | cons w u =>
  rw[jm] at h
  cases ho:uZ w with
  | none=>rw[ho] at h;cases h
  | some of =>
   rw[ho] at h;dsimp only at h
   cases hm:Za of u with
   | none=>rw[hm] at h;cases h
   | some q =>
    obtain⟨F,v⟩:=q;rw[hm] at h;dsimp only at h
    cases hn:vo v with
    | none=>rw[hn] at h;cases h
    | some q2 =>
     obtain⟨⟨i,nt⟩,x⟩:=q2;rw[hn] at h
     cases h;exact((Lf hn).trans (ep hm)).trans ⟨fun y hy=>by simp[hy],by simp⟩
theorem FX{word:Wd}{P:Parser}(hs:∀ us T t,P us=some (T,t)->Sub t us):∀ {n:Nat} {acc ts:List qO} {ws t:List Wd},fk word P n acc ws=some (ts,t)->Sub t ws
 | 0,_,_,_,_,h=>by cases h
 | n+1,acc,ts,ws,t,h=>by
  rw[fk] at h
  cases hi:P ws with
  | none=>rw[hi] at h;cases h
  | some r =>
   obtain⟨T,u⟩:=r;rw[hi] at h;dsimp only at h;by_cases hc:ZA word u=true
   ·rw[if_pos hc] at h;exact((FX hs h).trans (Sub.tail u)).trans (hs _ _ _ hi)
   ·rw[if_neg hc] at h
    cases h;exact hs _ _ _ hi
theorem eh{ws t:List Wd}{T:qO}(h:I0 ws=some (T,t)):Sub t ws:=by
 unfold I0 Cb at h
 cases hg:fk [97,110,100] jm (ws.length+1) [] ws with
 | none=>rw[hg] at h;cases h
 | some r =>
  obtain⟨ts,u⟩:=r;rw[hg] at h
  cases h;exact FX (fun us T t h=>Ld h) hg
theorem Tx(p pv:Nat)(ws:List Wd)(w:World)(hp:gX w p ws)(hx:∀ x∈ws,Cr x)(hT:RT p w)(hl:ws.length<=1000)(hc:w.cell? ⟨pv,0,none⟩=some (.pointer (some ⟨p,0,none⟩))) :
  Calls prog 143 #[.pointer (some ⟨pv,0,none⟩)] w (YE p (I0 ws) w):=by
 have R0:∀ (fn:Fn) (first cap:Array Value) (w:World),(yf fn first cap).run prog w = .ok (.func fn first cap) w:=fun _ _ _ _=>rfl
 have hr:=PS p [97,110,100] allT jm _ _ ws w hp hx hl pQ (pK p w hT) (fun us T t h=>Ld h);have HR:=z7 hr;clear hr hp hx hT;go_enter func143,ntmps143;go_wp2_with fail;refine HR.out.mono ?_;rintro e w1 ⟨hq,hb⟩;have EZ:I0 ws=Cb [97,110,100] allT jm ws:=rfl
 cases hn:Cb [97,110,100] allT jm ws with
 | none =>
  rw[hn] at hq;obtain rfl:=hq;have HN:=z7 (EZ.trans hn);clear hn EZ;go_wp2;refine⟨rfl,?_,hb⟩;rw[HN.out]
 | some q =>
  obtain⟨T,t⟩:=q;rw[hn] at hq;obtain⟨⟨v,rfl,ht⟩,hp⟩:=hq;have HN:=z7 (EZ.trans hn);have Fv:=z7 ht;have Qn:=z7 hp;clear hn ht hp EZ;go_wp2;go_ret;refine⟨?_,hb⟩;rw[HN.out];exact⟨⟨_,rfl,Fv.out⟩,Qn.out⟩
structure PW(w:World):Prop where
 s:∃ t v,w.cell? ⟨7,0,none⟩=some (.iface t v)
 r:∃ t v,w.cell? ⟨8,0,none⟩=some (.iface t v)
theorem PW.below{w w':World}(h:PW w)(hb:Below w.heap.size w w'):PW w':=by
 obtain⟨⟨t,v,hs⟩,⟨t2,v2,hr⟩⟩:=h;exact⟨⟨t,v,(hb.cell (zx w _ hs)).trans hs⟩,⟨t2,v2,(hb.cell (zx w _ hr)).trans hr⟩⟩
theorem PW.at{w w':World}{p:Nat}(h:PW w)(hb:Below w.heap.size w w')(hp:w.heap.size<=p):RT p w':=by
 have h2:=h.below hb;obtain⟨⟨t,v,hs⟩,⟨t2,v2,hr⟩⟩:=h;have l1:=zx w _ hs;have l2:=zx w _ hr;dsimp only at l1 l2;exact⟨h2.s,h2.r,by omega,by omega⟩
def zn1(r:Option qO)(w:World)(e:Ending)(w':World):Prop :=
 (match r with|none=>e = .returned .nilFunc|some T=>∃ v,e = .returned v/\km w.heap.size w'.heap.size w' v T)/\Below w.heap.size w w'
theorem Lb{w:World}{base:Nat}{v:Value}{ws:List Wd}(h:w.ownsRow base 9 1 v ws.length (ws.map xk))(o:Obj):gX ((w.alloc (.cells #[v] 283)).alloc o) w.heap.size ws:=by
 have hb:Below w.heap.size w ((w.alloc (.cells #[v] 283)).alloc o):=((zj _ _).alloc (z8 _) _).alloc (by simp) _;have Fe:w.heap.size<(w.alloc (.cells #[v] 283)).heap.size:=by simp
 have hc:((w.alloc (.cells #[v] 283)).alloc o).cell? ⟨w.heap.size,0,none⟩=some v:=by
  rw[zZ _ _ _ Fe];exact xu _ _ _ _ _
 have hz:((w.alloc (.cells #[v] 283)).alloc o).frozen? ⟨w.heap.size,0,none⟩=false:=by
  rw[zo (yj _ _ _ Fe)];simp
 have hlen:ws.length=ws.length:=rfl;rcases h.2 with⟨hv,h0⟩|⟨g,cap,cur,hv,hg,hh,h1,h2,h3,ht⟩
 ·subst hv;have hw:ws=[]:=List.eq_nil_of_length_eq_zero h0;subst hw;exact⟨none,0,hc,hz,z8 _,zV _,fun j hj=>absurd hj (yb j)⟩
 ·subst hv;have hgl:g<w.heap.size:=by
   rcases Nat.lt_or_ge g w.heap.size with q|q
   ·exact q
   ·rw[Array.getElem?_eq_none (by omega)] at hh;cases hh
  refine⟨some ⟨g,0,none⟩,cap,hc,hz,h1,h2,fun j hj=>⟨_,rfl,⟨by show g≠w.heap.size;omega,cur,(0,0),(hb.block g hgl).trans hh⟩,?_⟩⟩;rw[ur,hb.cell (p:=⟨g,j,none⟩) hgl,h.cellAt j (by omega)];simp[hj]
theorem iz(p pv:Nat)(w:World)(hT:RT p w)(hc:xW w pv (.pointer (some ⟨p,0,none⟩)))(vx:pv≠p):zq8 p w (.func (.func 143) #[] #[.pointer (some ⟨pv,0,none⟩)]) I0 :=
 ⟨_,_,_,rfl,fun args w=>enters_of func143 (by kernel_rfl) rfl args w,fun W ws hb hp hx hl=>Tx p pv ws W hp hx (hT.but hb) hl (hc.but hb vx).c⟩
theorem DU(s:ByteArray)(w:World)(hs:s.size<=9223372036854775807)(hT:PW w):Calls prog 97 #[.string s] w (zn1 (Dm s.data.toList) w):=by
 have R0:∀ (fn:Fn) (first cap:Array Value) (w:World),(yf fn first cap).run prog w = .ok (.func fn first cap) w:=fun _ _ _ _=>rfl
 obtain⟨r,hr⟩:∃ r,Dm s.data.toList=r:=⟨_,rfl⟩;rw[hr];unfold Dm at hr;rw[xi] at hr;by_cases zn2:200<s.size
 ·rw[if_pos zn2] at hr;subst hr;have h1:decide ((200:Int)<(s.size:Int))=true:=by simp;omega
  go_enter_defers func97,ntmps97
  go_wp2;refine leaves_cons (f:=139) (args:=#[.pointer (some ⟨w.heap.size,0,none⟩)]) (by simp) (by simp[go_sem]) ?_;refine(U3 w.heap.size _).mono ?_;rintro e u' Kb ⟨rfl,rfl,rfl⟩;simp[Leaves,settle,results,results97,go_sem];exact⟨rfl,(zj _ _).alloc (z8 _) _⟩
 ·rw[if_neg zn2] at hr;have h1:decide ((200:Int)<(s.size:Int))=false:=by simp;omega
  have TQ:=fun W=>O7 s W (by omega)
  have HTK:=z7 TQ;have HR:=z7 hr;have HT:=z7 hT;clear TQ hr hT;go_enter_defers func97,ntmps97
  go_wp2_with fail;have F1:∃ W,W=w.alloc (.cells #[.nilFunc] 214)/\Below w.heap.size w W/\xW W w.heap.size .nilFunc/\W.heap.size=w.heap.size+1:=⟨_,rfl,(zj _ _).alloc (z8 _) _,xW.made _ _ _ (by decide),by simp⟩;obtain⟨W,hW,jT,cB,SE⟩:=F1;rw[←hW];clear hW;refine(HTK.out W).mono ?_;rintro e w2 ⟨hq,xD⟩;have qX:Below w.heap.size w w2:=jT.trans (xD.mono jT.size);have cB2:xW w2 w.heap.size .nilFunc:=cB.but (p:=w2.heap.size) (xS.of xD) (by have:=cB.lt;have:=xD.size;omega)
  cases hn:N6 s.data.toList with
  | none =>
   rw[hn] at hq;obtain rfl:=hq;have vu:r=none:=by rw[←HR.out,hn]
   have gj:=z7 vu;clear hn vu;refine leaves_cons (f:=139) (args:=#[.pointer (some ⟨w.heap.size,0,none⟩)]) (by simp) (by simp[go_sem]) ?_;refine(Fb w.heap.size _ [] _ cB2.c cB2.z).mono ?_;rintro e u' Kb ⟨rfl,rfl,rfl⟩;have vX:((w2.setCell ⟨w.heap.size,0,none⟩ .nilFunc).alloc (.cells #[] 278)).cell? ⟨w.heap.size,0,none⟩=some .nilFunc:=by
    rw[zZ _ _ _ (by simpa[zF] using cB2.lt),zS (h:=cB2.c)]
   simp[Leaves,settle,results,results97,go_sem,vX];refine⟨?_,(qX.setCell (z8 _) _).alloc (by simpa[zF] using qX.size) _⟩;rw[gj.out]
  | some ws =>
   rw[hn] at hq;obtain⟨v,rfl,xV⟩:=hq;obtain⟨Oi,hlen⟩:=pU hn (by rw[xi];omega);have HN:=z7 hn;obtain⟨a,cap,rfl⟩:=xZ xV;have F3:∃ W3,W3=(w2.alloc (.cells #[.slice a ws.length cap] 283)).alloc (.cells #[.pointer (some ⟨w2.heap.size,0,none⟩)] 280)/\Below w2.heap.size w2 W3/\gX W3 w2.heap.size ws/\xW W3 (w2.heap.size+1) (.pointer (some ⟨w2.heap.size,0,none⟩))/\W3.heap.size=w2.heap.size+2:=by
    refine⟨_,rfl,((zj _ _).alloc (z8 _) _).alloc (by simp) _,Lb xV _,?_,by simp⟩;have hs:(w2.alloc (.cells #[.slice a ws.length cap] 283)).heap.size=w2.heap.size+1:=by simp
    rw[←hs];exact xW.made _ _ _ (by decide)
   obtain⟨W3,j6,uD,EV,cP3,LN⟩:=F3;have zg3:=cB2.lt;have cB3:xW W3 w.heap.size .nilFunc:=cB2.but (p:=W3.heap.size) (xS.of uD) (by omega);have Z8:Below w.heap.size w W3:=qX.trans (uD.mono qX.size);have TJ:RT w2.heap.size W3:=HT.out.at Z8 qX.size;have vE:=PS w2.heap.size [111,114] bE I0 _ _ ws W3 EV Oi (by omega) ee (iz w2.heap.size (w2.heap.size+1) W3 TJ cP3 (by omega)) (fun us T t h=>eh h);have qV:=z7 vE;have UK:=z7 LN;have eJ:=z7 EV;clear hn xV vE TJ LN EV Oi;go_wp2_with fail;rw[←j6];clear j6;refine qV.out.mono ?_;rintro e w4 ⟨hq,uW⟩;have hPB:w.heap.size≠w2.heap.size:=by omega
   have pJ:=cB3.but uW hPB;have cP4:=cP3.but uW (by omega);have bP:Below w.heap.size w w4:=Z8.trans (uW.low (by omega) Z8.size)
   cases hn:Cb [111,114] bE I0 ws with
   | none =>
    rw[hn] at hq;obtain rfl:=hq;have vu:r=none:=by rw[←HR.out,HN.out];show(match pOr ws with|some (T,[])=>some T|_=>none)=none;unfold pOr;rw[hn]
    have gj:=z7 vu;clear hn vu;refine leaves_cons (f:=139) (args:=#[.pointer (some ⟨w.heap.size,0,none⟩)]) (by simp) (by simp[go_sem]) ?_;refine(Fb w.heap.size _ [] _ pJ.c pJ.z).mono ?_;rintro e u' Kb ⟨rfl,rfl,rfl⟩;have vX:((w4.setCell ⟨w.heap.size,0,none⟩ .nilFunc).alloc (.cells #[] 278)).cell? ⟨w.heap.size,0,none⟩=some .nilFunc:=by
     rw[zZ _ _ _ (by simpa[zF] using pJ.lt),zS (h:=pJ.c)]
    simp[Leaves,settle,results,results97,go_sem,vX];refine⟨?_,(bP.setCell (z8 _) _).alloc (by simpa[zF] using bP.size) _⟩;rw[gj.out]
   | some q =>
    obtain⟨T,t⟩:=q;rw[hn] at hq;obtain⟨⟨v,rfl,ht⟩,JB⟩:=hq;have hpo:pOr ws=some (T,t):=hn;have HPO:=z7 hpo;have Fv:=z7 ht;have xqq:=JB.lt;obtain⟨kf,dp,rfl,_⟩:=ht;obtain⟨a4,c4,e1,e2,e3,e4,e5⟩:=JB;have yB:=pJ.c;have yBz:=pJ.z;have yP:=cP4.c;have hBt:w.heap.size<w4.heap.size:=pJ.lt;clear hn hpo e5
    cases t with
    | nil =>
     have vu:r=some T:=by
      rw[←HR.out,HN.out];show(match pOr ws with|some (T,[])=>some T|_=>none)=_;rw[HPO.out]
     have gj:=Lib.hid vu;clear vu;go_wp2;refine leaves_cons (f:=139) (args:=#[.pointer (some ⟨w.heap.size,0,none⟩)]) (by simp) (by simp[go_sem]) ?_;refine(U3 w.heap.size _).mono ?_;rintro e u' Kb ⟨rfl,rfl,rfl⟩;have cF:=(pJ.same (.func (.func kf) #[] dp)).same (.func (.func kf) #[] dp);have hbF:Below w.heap.size w ((w4.setCell ⟨w.heap.size,0,none⟩ (.func (.func kf) #[] dp)).setCell ⟨w.heap.size,0,none⟩ (.func (.func kf) #[] dp)):=(bP.setCell (Nat.le_refl _) _).setCell (Nat.le_refl _) _;have vX:=cF.c;simp[Leaves,settle,results,results97,go_sem,vX];refine⟨?_,hbF⟩;rw[gj.out];have qa:((w4.setCell ⟨w.heap.size,0,none⟩ (.func (.func kf) #[] dp)).setCell ⟨w.heap.size,0,none⟩ (.func (.func kf) #[] dp)).heap.size=w4.heap.size:=by simp[World.setCell]
     exact⟨_,rfl,Fv.out.keep ⟨by rw[qa];exact z8 _,fun k k1 k2=>by
      have hk:k≠w.heap.size:=by have:=UK.out;omega
      rw[yu _ _ _ _ hk,yu _ _ _ _ hk]⟩ (by have:=UK.out;omega) (by rw[qa];exact z8 _)⟩
    | cons x t' =>
     have vu:r=none:=by
      rw[←HR.out,HN.out];show(match pOr ws with|some (T,[])=>some T|_=>none)=_;rw[HPO.out]
     have gj:=z7 vu;clear vu;go_wp2;refine leaves_cons (f:=139) (args:=#[.pointer (some ⟨w.heap.size,0,none⟩)]) (by simp) (by simp[go_sem]) ?_;refine(U3 w.heap.size _).mono ?_;rintro e u' Kb ⟨rfl,rfl,rfl⟩;have cF:=(pJ.same (.func (.func kf) #[] dp)).same .nilFunc;have hbF:Below w.heap.size w ((w4.setCell ⟨w.heap.size,0,none⟩ (.func (.func kf) #[] dp)).setCell ⟨w.heap.size,0,none⟩ .nilFunc):=(bP.setCell (z8 _) _).setCell (z8 _) _;have vX:=cF.c;simp[Leaves,settle,results,results97,go_sem,vX];refine⟨?_,hbF⟩;rw[gj.out]
def Jk(lo hi:Nat)(w:World)(a:Option Addr)(S:List (Nat×qO)):Prop :=
 ∀ j (h:j<S.length),∃ g o v,a=some ⟨g,o,none⟩/\w.cell? ⟨g,o+j*2,none⟩=some (.int .i64 S[j].1)/\w.cell? ⟨g,o+j*2+1,none⟩=some v/\lo<=g/\g<hi/\km lo hi w v S[j].2
theorem Jk.keep{lo hi lo' hi':Nat}{w w':World}{a:Option Addr}{S:List (Nat×qO)}(h:Jk lo hi w a S)(hk:vQ lo hi w w')(h1:lo'<=lo)(h2:hi<=hi'):Jk lo' hi' w' a S:=fun j hj=>by
 obtain⟨g,o,v,e1,e2,e3,e4,e5,e6⟩:=h j hj;exact⟨g,o,v,e1,(hk.cell (p:=⟨g,_,none⟩) e4 e5).trans e2,(hk.cell (p:=⟨g,_,none⟩) e4 e5).trans e3,by omega,by omega,e6.keep hk h1 h2⟩
def PA(S:List (Nat×qO))(x:Dg):Nat:=match S.find? (fun q=>q.2 x) with|some q=>q.1|none=>5
theorem E9(S:List (Nat×qO))(a:Option Addr)(c:Nat)(nv:Value)(x:Dg)(lo hi:Nat)(w:World)(hl:S.length<=1000000)(ht:Jk lo hi w a S)(Yj:hi<=w.heap.size)(hn:uM w nv x) :
  Calls prog 60 #[.slice a S.length c,nv] w fun e w'=>e = .returned (.int .i64 (PA S x))/\Below w.heap.size w w':=by
 have HN:=z7 hn;obtain⟨b',g,go,cap,n',k',rfl⟩:=hn.form;have F:∃ W,W=w.alloc (.cells #[.bool b',.slice (some ⟨g,go,none⟩) n' cap,.int .i64 k'] 97)/\Below w.heap.size w W/\W.heap.size=w.heap.size+1/\Cn W w.heap.size (.agg #[.bool b',.slice (some ⟨g,go,none⟩) n' cap,.int .i64 k']) :=
  ⟨_,rfl,(zj _ _).alloc (z8 _) _,by simp,⟨by simp,_,_,_,rfl,by go_simp,by go_simp,by go_simp⟩⟩
 obtain⟨W,hW,jT,hs,cR⟩:=F;have HT:=z7 (ht.keep (vV jT Yj Yj) (z8 _) (z8 _));have Pf:=z7 (HN.out.below jT);have Ir:hi<=W.heap.size:=by omega
 clear ht hn;go_enter func60,ntmps60;go_wp2_with fail;rw[←hW];clear hW;obtain⟨B,hB⟩:∃ B,B=w.heap.size:=⟨_,rfl⟩;rw[←hB] at cR ⊢;have Mt:=z7 hB;clear hB;go_loopw [9] (fun i wr=>∃ k:Nat,k<=S.length/\i = .int .i64 k/\(S.take k).find? (fun q=>q.2 x)=none/\Below W.heap.size W wr) (fun i _=>S.length - (intOf i).toNat)
 case atStart=>exact⟨0,zV _,rfl,rfl,zj _ _⟩
 case round =>
  obtain⟨k,hk,rfl,hz,qG⟩:=hrel;have HZ:=z7 hz;clear hz;have O0:Below w.heap.size w wr:=jT.trans (qG.mono (by omega));by_cases xC:k<S.length
  ·obtain⟨ga,o,v,rfl,qY,jD,h1,h2,hT⟩:=HT.out k xC;have hgW:ga<W.heap.size:=by omega
   have Va:=(qG.cell (p:=⟨ga,o+k*2,none⟩) hgW).trans qY;have zxd:=(qG.cell (p:=⟨ga,o+k*2+1,none⟩) hgW).trans jD;have tP:=vV (lo:=lo) qG Ir Ir;have hTr:=hT.keep tP (z8 _) (z8 _);have HTR:=z7 hTr;obtain⟨K,cp,rfl,Bc,vF⟩:=hTr;have Zg:Below wr.heap.size wr (wr.alloc (.cells #[.int .i64 S[k].1,.func (.func K) #[] cp] 216)):=(zj _ _).alloc (z8 _) _;have Z0:=vF (wr.alloc (.cells #[.int .i64 S[k].1,.func (.func K) #[] cp] 216)) (vV Zg (zX Ir qG.size) (zX Ir qG.size)) _ x ((Pf.out.below qG).below Zg);have HC:=z7 Z0;obtain⟨hBl,bb,ss,kk,e0,c0,c1,c2⟩:=cR.below qG
   cases e0;have d0:∀ o,(wr.alloc o).cell? ⟨B,0,none⟩=_:=fun o=>(zZ _ _ _ hBl).trans c0
   have d1:∀ o,(wr.alloc o).cell? ⟨B,1,none⟩=_:=fun o=>(zZ _ _ _ hBl).trans c1
   have d2:∀ o,(wr.alloc o).cell? ⟨B,2,none⟩=_:=fun o=>(zZ _ _ _ hBl).trans c2
   have zn3:=qG.trans (Zg.mono qG.size);have sw:=O0.trans (Zg.mono O0.size);have MW:wr.heap.size<(wr.alloc (.cells #[.int .i64 S[k].1,.func (.func K) #[] cp] 216)).heap.size:=by simp
   have a0:(wr.alloc (.cells #[.int .i64 S[k].1,.func (.func K) #[] cp] 216)).cell? ⟨wr.heap.size,0,none⟩=some (.int .i64 S[k].1):=xu _ _ _ _ _;clear qY jD hT vF Z0;go_wp2_with fail;refine HC.out.mono ?_;rintro e w1 ⟨rfl,xB⟩;have bw:=zn3.trans (xB.mono zn3.size);have Ju:Below w.heap.size w w1:=sw.trans (xB.mono sw.size);have a1:=(xB.cell (p:=⟨wr.heap.size,0,none⟩) MW).trans a0
   cases PR:S[k].2 x
   ·have QQ:(S.take (k+1)).find? (fun q=>q.2 x)=none:=by
     rw[zf xC,yk,HZ.out];simp[PR]
    have HF:=z7 QQ;clear PR QQ;go_wp2;go_roundw
    case rel=>exact⟨k+1,by omega,by go_num,HF.out,bw⟩
    case measure=>simp[intOf];omega
   ·have hf:PA S x=S[k].1:=by
     have h1:S.find? (fun q=>q.2 x)=some S[k]:=by
      have hsp:S=S.take k++S[k]::S.drop (k+1):=by rw[←ze xC,yz]
      have h2:=congrArg (List.find? (fun q=>q.2 x)) hsp;rw[yk,HZ.out,Option.none_or,List.find?_cons_of_pos (p:=fun q:Nat×qO=>q.2 x) PR] at h2;exact h2
     unfold PA;rw[h1]
    have HF:=z7 hf;clear PR hf;go_wp2;go_ret;exact⟨by rw[HF.out];rfl,Ju⟩
  ·obtain rfl:k=S.length:=by omega
   have hz:=HZ.out;rw[List.take_length] at hz;have hf:PA S x=5:=by unfold PA;rw[hz]
   have HF:=z7 hf;clear hz HZ hf;go_wp2;go_ret;exact⟨by rw[HF.out];rfl,O0⟩
def zn4(mi po gr:Int)(fi ne:Nat)(ds:List Int)(Sc So:List (Nat×qO)):qI Unit :=
 ⟨fun n=>YJ n.1 (xl (n.2.1++n.2.2)) n.2.2.length mi po gr fi ne ds,fun b d=>PA (if b then So else Sc) d,fun _ u=>(.no,u)⟩
theorem zqu{w:World}{g:Nat}{mi po gr:Int}{fi ne:Nat}{ds:List Int}{Sc So:List (Nat×qO)}{a a':Option Addr}{c c' lo hi:Nat}(hX:Ib w g mi po gr fi ne ds)(hg:g<w.heap.size)(h32:az mi/\az po/\az gr/\∀ x∈ds,az x)(o7:fi<=255)(vx:0<fi->0<ne)(o8:ne<=255)
  (g0:w.cell? ⟨g,0,none⟩=some (.slice a Sc.length c)) (g1:w.cell? ⟨g,1,none⟩=some (.slice a' So.length c')) (hl:Sc.length<=1000000/\So.length<=1000000) (hc:Jk lo hi w a Sc) (ho:Jk lo hi w a' So) (Yj:hi<=w.heap.size)
  (rE:∀ n:vg,CC n.2->(YJ n.1 (xl (n.2.1++n.2.2)) n.2.2.length mi po gr fi ne ds).length<=5000) (hsr:∀ b d,PA (if b=true then So else Sc) d<6):zuz w g (zn4 mi po gr fi ne ds Sc So):=by
 refine⟨fun W nv n hf hn=>?_,rE,⟨_,_,fun W hf=>⟨hf.cell g0 id,hf.cell g1 id⟩,fun W nv d hf hn=>?_,fun W nv d hf hn=>?_⟩,hsr⟩
 ·obtain⟨gd,o,cap,rfl,h2,h3,-,⟨c0,h4⟩,h5,h6⟩:=hn;have qa:=hf.size;refine S8 g gd o cap n.2.2.length _ n.1 (xl (n.2.1++n.2.2)) mi po gr fi ne ds W (hX.below (U0 hf) hg) (by omega) h5 (zx _ _ h4) (by simp[xl]) (by omega) h2 ?_ ?_ h32 o7 vx o8
  ·have:=h6.GR;have:=h6.J0;omega
  ·exact SU (by rw[zQ,h6.aC,h6.SZ];rfl)
 ·have qa:=hf.size;have h:=E9 Sc a c nv d lo hi W hl.1 (hc.keep (vV (U0 hf) Yj Yj) (z8 _) (z8 _)) (by omega) hn;exact h
 ·have qa:=hf.size;have h:=E9 So a' c' nv d lo hi W hl.2 (ho.keep (vV (U0 hf) Yj Yj) (z8 _) (z8 _)) (by omega) hn;exact h
theorem XT(r:Int):(zG r).length<=4:=by
 unfold zG;rw[List.length_map];unfold Lib.encodeRuneZ;repeat' split
 all_goals simp
theorem FV{f:Nat->List UInt8}{c:Nat}(h:∀ i,(f i).length<=c):∀ k,((List.range k).flatMap f).length<=k*c
 | 0=>by simp
 | k+1=>by
  have:=FV h k;have h2:=h k;simp only[List.range_succ,List.flatMap_append,zy,List.flatMap_singleton,Nat.succ_mul];omega
theorem LZ(ds l:List Int)(k:Nat):(Vv ds l k).length<=4:=by
 unfold Vv;first|exact XT _|(split<;>first|exact XT _|simp)
theorem O9(neg:Bool)(l:List Int)(sc:Nat)(mi po gr:Int)(fi ne:Nat)(ds:List Int)(h:l.length<=200)(hs:sc<=200):(YJ neg l sc mi po gr fi ne ds).length<=5000:=by
 unfold YJ;have h1:(if neg=true then zG mi else []).length<=4:=by split;exact XT _;simp
 have h2:(gm gr fi ne ds (l.take (l.length - sc)) (l.length - sc)).length<=(l.length - sc)*8:=by
  unfold gm;refine FV (fun i=>?_) _;have:=LZ ds (l.take (l.length - sc)) i;rw[zy];have h3:(if (decide (0<i) && Zf gr fi ne ((l.take (l.length - sc)).length - i))=true then zG gr else []).length<=4:=by split;exact XT _;simp
  omega
 have h3:(qQ po ds (l.drop (l.length - sc)) sc).length<=sc*8:=by
  unfold qQ;refine FV (fun i=>?_) _;have:=LZ ds (l.drop (l.length - sc)) i;rw[zy];have h3:(if (i==0)=true then zG po else []).length<=4:=by split;exact XT _;simp
  omega
 rw[zy,zy];omega
def Fo.hs:Bool->Fo->Prop
 | _,.nil=>True
 | b,.text _ r=>r.hs b
 | b,.hash r=>b=true/\r.hs b
 | b,.put _ _ r=>r.hs b
 | b,.num _ _ r=>r.hs b
 | b,.br _ _ f _ _ bs r=>bs.hs (decide (f≠0))/\r.hs b
 | b,.ug _ _ m r=>m.hs b/\r.hs b
def Fo.tb:Fo->Nat
 | .nil=>0
 | .text t r=>t.length+r.tb
 | .hash r=>r.tb
 | .put _ _ r=>r.tb
 | .num _ _ r=>r.tb
 | .br _ _ _ _ _ bs r=>bs.tb+r.tb
 | .ug _ _ m r=>m.tb+r.tb
theorem Fo.Qg:∀ f:Fo,f.tb<=5000->f.sh
 | .nil,_=>trivial
 | .text t r,h=>by simp only[Fo.tb] at h;exact⟨by omega,Fo.Qg r (by omega)⟩
 | .hash r,h=>Fo.Qg r h
 | .put _ _ r,h=>Fo.Qg r h
 | .num _ _ r,h=>Fo.Qg r h
 | .br _ _ _ _ _ bs r,h=>by simp only[Fo.tb] at h;exact⟨Fo.Qg bs (by omega),Fo.Qg r (by omega)⟩
 | .ug _ _ m r,h=>by simp only[Fo.tb] at h;exact⟨Fo.Qg m (by omega),Fo.Qg r (by omega)⟩
theorem Fo.dU:∀ f g:Fo,(f.app g).tb=f.tb+g.tb
 | .nil,g=>by simp[Fo.app,Fo.tb]
 | .text t r,g=>by simp only[Fo.app,Fo.tb,Fo.dU r g];omega
 | .hash r,g=>by simp only[Fo.app,Fo.tb,Fo.dU r g]
 | .put _ _ r,g=>by simp only[Fo.app,Fo.tb,Fo.dU r g]
 | .num _ _ r,g=>by simp only[Fo.app,Fo.tb,Fo.dU r g]
 | .br _ _ _ _ _ bs r,g=>by simp only[Fo.app,Fo.tb,Fo.dU r g];omega
 | .ug _ _ m r,g=>by simp only[Fo.app,Fo.tb,Fo.dU r g];omega
theorem Fo.dQ(b:Bool):∀ f g:Fo,(f.app g).hs b ↔ f.hs b/\g.hs b
 | .nil,g=>by simp[Fo.app,Fo.hs]
 | .text t r,g=>by simp only[Fo.app,Fo.hs,Fo.dQ b r g]
 | .hash r,g=>by simp only[Fo.app,Fo.hs,Fo.dQ b r g,and_assoc]
 | .put _ _ r,g=>by simp only[Fo.app,Fo.hs,Fo.dQ b r g]
 | .num _ _ r,g=>by simp only[Fo.app,Fo.hs,Fo.dQ b r g]
 | .br _ _ _ _ _ bs r,g=>by simp only[Fo.app,Fo.hs,Fo.dQ b r g,and_assoc]
 | .ug _ _ m r,g=>by simp only[Fo.app,Fo.hs,Fo.dQ b r g,and_assoc]
theorem Fo.Oz{b:Bool}{f:Fo}(h:f.hs b)(t:Wd):(f.xM t).hs b/\(f.xM t).tb<=f.tb+t.length:=by
 cases hl:f.xJ with
 | none =>
  rw[uj f t hl];exact⟨(Fo.dQ b _ _).2 ⟨h,trivial⟩,by rw[Fo.dU];simp only[Fo.tb];omega⟩
 | some s =>
  obtain⟨pre,h1,h2,h3⟩:=uy f s hl;rw[h1] at h;rw[h3];refine⟨(Fo.dQ b _ _).2 ⟨((Fo.dQ b _ _).1 h).1,trivial⟩,?_⟩;rw[Fo.dU,show f.tb=(pre.app (.text s .nil)).tb from congrArg _ h1,Fo.dU];simp only[Fo.tb,zy];omega
def LY(m:jK):Prop:=∀ num i f j,m num i = .ok (f,j)->f.hs num/\f.tb+4*i<=4*j
section
variable {rs:List Int}
theorem zqq{msg:Option jK}{num:Bool}{i j:Nat}{f:Fo}(hm:∀ m,msg=some m->LY m)(h:X7 rs msg num i = .ok (f,j)):f.hs num/\f.tb+4*i<=4*j:=by
 unfold X7 at h;obtain⟨k,a,h1,h2⟩:=xd h;obtain⟨u,b,h3,h4⟩:=xd h2;obtain⟨hk,e1⟩:=Py h1;have e2:=(xR h3).2;have e3:=xP rs a
 cases msg with
 | none=>cases h4
 | some m =>
  obtain⟨g,c,h5,h6⟩:=xd (show(m num b).then _=_ from h4);obtain⟨u2,z,h7,h8⟩:=xd h6;obtain⟨hg,ht⟩:=hm m rfl _ _ _ _ h5;have e5:=(xR h7).2;have e6:=xP rs z
  cases h8;refine⟨⟨hg,trivial⟩,?_⟩;simp only[Fo.tb];omega
theorem Pa{msg:Option jK}{num:Bool}(hm:∀ m,msg=some m->LY m):∀ (n:Nat) (acc:Fo) (i j:Nat) (f:Fo),gG rs msg num n acc i = .ok (f,j)->acc.hs num->f.hs num/\f.tb+4*i<=acc.tb+4*j
 | 0,acc,i,j,f,h,_=>by cases h
 | n+1,acc,i,j,f,h,ha=>by
  rw[gG] at h;split at h
  ·cases h;exact⟨ha,z8 _⟩
  ·obtain⟨g,q,h1,h2⟩:=xd h;obtain⟨g1,g2⟩:=zqq hm h1;obtain⟨k1,k2⟩:=Pa hm n _ _ _ _ h2 ((Fo.dQ num _ _).2 ⟨ha,g1⟩);rw[Fo.dU] at k2;exact⟨k1,by omega⟩
theorem zqk{msg:Option jK}{num:Bool}{i j:Nat}{f:Fo}(hm:∀ m,msg=some m->LY m)(h:YW rs msg i = .ok (f,j)):f.hs num/\f.tb+4*i<=4*j:=by
 unfold YW at h;obtain⟨u,a,h1,h2⟩:=xd h;obtain⟨nm,b,h3,h4⟩:=xd h2;have e1:=(xR h1).2;have e2:=xP rs a;obtain⟨hn,e3⟩:=GG h3;have e4:=xP rs b;clear h h1 h2 h3;split at h4
 ·obtain⟨u,z,h5,h6⟩:=xd h4;have:=(xR h5).2
  cases h6;exact⟨trivial,by simp only[Fo.tb];omega⟩
 ·obtain⟨wd,c,h5,h6⟩:=xd h4;have e5:=gz h5;have e6:=xP rs (xm rs b+1);have e7:=xP rs c;clear h4 h5;split at h6
  ·obtain⟨u,z,h7,h8⟩:=xd h6;have:=(xR h7).2
   cases h8;exact⟨trivial,by simp only[Fo.tb];omega⟩
  ·split at h6
   ·cases h6
   ·next form Pz =>
    obtain⟨u,d,h7,h8⟩:=xd h6;obtain⟨o,l,h9,dM⟩:=xd h8;obtain⟨bs,q,KU,JS⟩:=xd dM;obtain⟨u,z,lF,lD⟩:=xd JS;have:=(xR h7).2;have:=xP rs d;obtain⟨ho,_⟩:=Px h9;obtain⟨b1,b2⟩:=Pa hm _ _ _ _ _ KU trivial;have e9:=(xR lF).2
    cases lD;refine⟨⟨b1,trivial⟩,?_⟩;simp only[Fo.tb] at b2 ⊢;omega
theorem FU{msg:Option jK}{num:Bool}(hm:∀ m,msg=some m->LY m):∀ (n:Nat) (acc:Fo) (i j:Nat) (f:Fo),ql rs msg num n acc i = .ok (f,j)->acc.hs num->f.hs num/\f.tb+4*i<=acc.tb+4*j
 | 0,acc,i,j,f,h,_=>by cases h
 | n+1,acc,i,j,f,h,ha=>by
  rw[ql] at h;split at h
  ·cases h;exact⟨ha,z8 _⟩
  split at h
  ·obtain⟨g,q,h1,h2⟩:=xd h;obtain⟨g1,g2⟩:=zqk (num:=num) hm h1;obtain⟨k1,k2⟩:=FU hm n _ _ _ _ h2 ((Fo.dQ num _ _).2 ⟨ha,g1⟩);rw[Fo.dU] at k2;exact⟨k1,by omega⟩
  split at h
  ·next hq =>
   obtain⟨k1,k2⟩:=FU hm n _ _ _ _ h ((Fo.dQ num _ _).2 ⟨ha,hq.2,trivial⟩);rw[Fo.dU] at k2;simp only[Fo.tb] at k2;exact⟨k1,by omega⟩
  ·obtain⟨t1,t2⟩:=Fo.Oz ha (ki rs num i).1;obtain⟨k1,k2⟩:=FU hm n _ _ _ _ h t1;have h4:=Dt rs num i;exact⟨k1,by omega⟩
theorem Pc:∀ n,LY (YA rs n)
 | 0,num,i,f,j,h=>by
  rw[YA] at h;simpa[Fo.tb] using FU (fun m e=>by cases e) _ _ _ _ _ h trivial
 | n+1,num,i,f,j,h=>by
  rw[YA] at h;simpa[Fo.tb] using FU (fun m e=>by cases e;exact Pc n) _ _ _ _ _ h trivial
end
theorem pG{l:List UInt8}{f:Fo}(h:um l = .ok f):f.hs false/\f.sh:=by
 unfold um at h;split at h
 ·cases h
 split at h
 ·cases h
 next h1 _ =>
 have ZQ:=Xo l;have hr:(vv l).length<=1000:=by omega
 cases hp:X8 (vv l) with
 | error e=>rw[hp] at h;cases h
 | ok x =>
  rw[hp] at h
  cases h;unfold X8 at hp;obtain⟨g,q,h2,h3⟩:=xd (show _=Except.ok (x.1,x.2) from hp);obtain⟨hf,hm⟩:=Pc 5 _ _ _ _ h2;have he:q<=(vv l).length:=bz _ _ _ _ _ h2 (zV _);split at h3
  ·cases h3;exact⟨hf,Fo.Qg _ (by omega)⟩
  ·cases h3
def Fo.iy:Fo->Prop
 | .nil=>True
 | .text _ r=>r.iy
 | .hash r=>r.iy
 | .put _ _ r=>r.iy
 | .num _ _ r=>r.iy
 | .br _ _ _ _ _ bs r=>qy∈bs.keys/\bs.iy/\r.iy
 | .ug _ _ m r=>m.iy/\r.iy
theorem zqj(cl:Nat):∀ (f:Fo) (seen:List Wd) (acc:List (Nat×Nat)),Qs cl seen acc f=[]->qy∈seen\/qy∈f.keys:=by
 have hn:∀ (f:Fo) (seen:List Wd) (acc:List (Nat×Nat)),(if Dk∈seen then acc else acc++[(6,cl)])=[]->qy∈seen\/qy∈f.keys:=fun f seen acc h=>by
  split at h
  ·next hk=>exact .inl hk
  ·simp at h
 intro f;induction f with
 | ug k a m r _ ih =>
  intro seen acc h;rw[Qs] at h;rcases ih _ _ h with h1|h1
  ·rcases zl.1 h1 with h1|h1
   ·exact .inr (by rw[Fo.keys,h1];exact List.mem_cons_self)
   ·exact .inl h1
  ·exact .inr (by rw[Fo.keys];exact List.mem_cons_of_mem _ h1)
 | nil=>intro seen acc h;exact hn .nil seen acc h
 | text _ _ _=>intro seen acc h;exact hn (.text _ _) seen acc h
 | hash _ _=>intro seen acc h;exact hn (.hash _) seen acc h
 | put _ _ _ _=>intro seen acc h;exact hn (.put _ _ _) seen acc h
 | num _ _ _ _=>intro seen acc h;exact hn (.num _ _ _) seen acc h
 | br _ _ _ _ _ _ _ _ _=>intro seen acc h;exact hn (.br _ _ _ _ _ _ _) seen acc h
theorem gN:∀ (f:Fo) (s s':KL),ve bM f s = .go true s'->s'.2=[]->s.2=[]/\f.iy
 | .nil,s,s',h,e=>by
  cases h;exact⟨e,trivial⟩
 | .text _ r,s,s',h,e=>gN r s s' h e
 | .hash r,s,s',h,e=>gN r s s' h e
 | .put n a r,s,s',h,e=>by
  obtain⟨h1,h2⟩:=gN r (uY s n a 0) s' h e;exact⟨Ze h1,h2⟩
 | .num n a r,s,s',h,e=>by
  obtain⟨h1,h2⟩:=gN r (uY s n a 1) s' h e;exact⟨Ze h1,h2⟩
 | .br n a f o c bs r,s,s',h,e=>by
  obtain⟨s1,h1⟩:∃ s1:KL,((uY s n a (jO (.br n a f o c bs .nil))).1,(uY s n a (jO (.br n a f o c bs .nil))).2++Qs c [] [] bs)=s1:=⟨_,rfl⟩;have h2:(ve bM bs s1).then (fun s=>ve bM r s) = .go true s':=by rw[←h1];exact h
  obtain⟨s2,h3⟩:=kX bs s1;rw[h3] at h2;obtain⟨h4,h5⟩:=gN r s2 s' h2 e;obtain⟨h6,h7⟩:=gN bs s1 s2 h3 h4;rw[←h1] at h6;obtain⟨h8,h9⟩:=List.append_eq_nil_iff.1 h6;exact⟨Ze h8,(zqj c bs _ _ h9).resolve_left (by simp),h7,h5⟩
 | .ug k a m r,s,s',h,e=>by
  obtain⟨s1,h1⟩:=kX m s;have h2:(ve bM m s).then (fun s=>ve bM r s) = .go true s':=h;rw[h1] at h2;obtain⟨h4,h5⟩:=gN r s1 s' h2 e;obtain⟨h6,h7⟩:=gN m s s1 h1 h4;exact⟨h6,h7,h5⟩
theorem pF{f:Fo}(h:XZ f=none):f.iy:=by
 obtain⟨s,hs⟩:=kX f ((fun _=>none),[]);have e:dR f=s.2:=by unfold dR;rw[hs]
 unfold XZ at h;refine(gN f _ s hs ?_).2;rw[←e]
 cases hq:dR f with
 | nil=>rfl
 | cons a t=>rw[hq] at h;cases h
theorem Fo.YL{N:Nat}:∀ (b:Bool) (f:Fo),f.wf N=true->f.once->f.iy->f.hs b->f.Bf b
 | _,.nil,_,_,_,_=>trivial
 | b,.text t r,w,o,t2,h=>Fo.YL b r w o t2 h
 | b,.hash r,w,o,t2,h=>⟨h.1,Fo.YL b r w o t2 h.2⟩
 | b,.put _ _ r,w,o,t2,h=>by
  simp only[Fo.wf,zg] at w;exact Fo.YL b r w.2 o t2 h
 | b,.num _ _ r,w,o,t2,h=>by
  simp only[Fo.wf,zg] at w;exact Fo.YL b r w.2 o t2 h
 | b,.br _ _ f _ _ bs r,w,o,t2,h=>by
  simp only[Fo.wf,zg] at w;exact⟨w.1.1.1.2,o.1,t2.1,Fo.YL _ bs w.1.2 o.2.1 t2.2.1 h.1,Fo.YL b r w.2 o.2.2 t2.2.2 h.2⟩
 | b,.ug _ _ m r,w,o,t2,h=>by
  simp only[Fo.wf,zg] at w;exact⟨w.1.1.1.2,Fo.YL b m w.1.2 o.1 t2.1 h.1,Fo.YL b r w.2 o.2 t2.2 h.2⟩
theorem iu{l:List UInt8}{f:Fo}(h:um l = .ok f)(hc:XZ f=none):f.vD=true/\f.Bf false/\f.UN/\f.sh/\f.cw<=90000:=by
 have hg:=XY h;obtain⟨h1,h2⟩:=pG h;obtain⟨h3,h4⟩:=Iq h hc;exact⟨hg.msg,Fo.YL false f hg.wf (Ix hc) (pF hc) h1,h3,h2,by omega⟩
abbrev Uq:=Wd×List UInt8
def ud(w:World)(v:Value)(rs:List Uq):Prop :=
 ∃ a cap,v = .slice a rs.length cap/\∀ j (h:j<rs.length),∃ g o,a=some ⟨g,o,none⟩/\w.cell? ⟨g,o+j*2,none⟩=some (xk rs[j].1)/\w.cell? ⟨g,o+j*2+1,none⟩=some (xk rs[j].2)
theorem ud.below{w w':World}{v:Value}{rs:List Uq}(h:ud w v rs)(hb:Below w.heap.size w w'):ud w' v rs:=by
 obtain⟨a,cap,hv,h⟩:=h;refine⟨a,cap,hv,fun j hj=>?_⟩;obtain⟨g,o,e1,e2,e3⟩:=h j hj;exact⟨g,o,e1,(hb.cell (zx w _ e2)).trans e2,(hb.cell (zx w _ e3)).trans e3⟩
def FQ(n:Wd):Int:=Lib.idxOfS Zx ⟨n.toArray⟩
def ZE:List Uq->List Wd->List (Nat×qO)->Option (List (Nat×qO))
 | [],_,acc=>some acc
 |(n,c)::t,seen,acc=>match Dm c with
  | none=>none
  | some T=>if FQ n<0\/n∈seen then none else ZE t (n::seen) (acc++[((FQ n).toNat,T)])
def ZY(rs:List Uq):Option (List (Nat×qO)):=ZE rs [[111,116,104,101,114]] []
theorem iq:ZV prog 135 216 (.agg #[.int .i64 0,.nilFunc]) 2 16 :=
 ⟨underlying135,info_parts (by kernel_rfl),rfl,by decide,by decide⟩
def ZH(lo:Nat)(w:World)(sv:Value)(S:List (Nat×qO)):Prop :=
 ∃ vs:List Value,w.ownsRow lo 216 2 sv S.length vs /\
  ∀ j (h:j<S.length),∃ u l h',vs[j*2]? = some (.int .i64 S[j].1)/\vs[j*2+1]? = some u/\lo<=l/\h'<=w.heap.size/\(∀ g,sv.ownBlock=some g->g<l\/h'<=g)/\km l h' w u S[j].2
theorem ZH.nil(lo:Nat)(w:World):ZH lo w (.slice none 0 0) []:=⟨[],yq _ _ _ _,fun j h=>absurd h (yb j)⟩
theorem ZH.form{lo:Nat}{w:World}{sv:Value}{S:List (Nat×qO)}(h:ZH lo w sv S):∃ a cap,sv = .slice a S.length cap:=by
 obtain⟨vs,ho,_⟩:=h;exact xZ ho
theorem ZH.lt{lo:Nat}{w:World}{sv:Value}{S:List (Nat×qO)}(h:ZH lo w sv S):∀ g,sv.ownBlock=some g->lo<=g/\g<w.heap.size:=by
 obtain⟨vs,ho,_⟩:=h;exact ho.lt
theorem ZH.but{lo b:Nat}{w w':World}{sv:Value}{S:List (Nat×qO)}(h:ZH lo w sv S)(hb:xS b w w')(vx:sv.ownBlock≠some b)
  (hl:b<lo\/w.heap.size<=b):ZH lo w' sv S:=by
 obtain⟨vs,ho,ht⟩:=h;refine⟨vs,ho.kept (row:=some b) ⟨hb.os,hb.tape,hb.output,hb.size,fun i hi hn=>hb.block i hi (fun e=>hn (by rw[e]))⟩ (.inr vx),fun j hj=>?_⟩;obtain⟨u,l,h',e1,e2,e3,e4,e5,e6⟩:=ht j hj;refine⟨u,l,h',e1,e2,e3,zX e4 hb.size,e5,e6.keep ⟨zX e4 hb.size,fun k k1 k2=>hb.block k (by omega) (by omega)⟩ (z8 _) (z8 _)⟩
theorem ZH.below{lo:Nat}{w w':World}{sv:Value}{S:List (Nat×qO)}(h:ZH lo w sv S)(hb:Below w.heap.size w w'):ZH lo w' sv S :=
 h.but (xS.of (p:=w.heap.size) hb) (fun e=>by have:=(h.lt _ e).2;omega) (.inr (z8 _))
theorem BJ{k:TypeId}{R:Value->Option (DataW Unit×List MemPlace)}{b n:Nat}{D:DataW Unit}{w w':World}(h:w.ownsMap prog k R b n D)(hb:Below w.heap.size w w'):w'.ownsMap prog k R b n D :=
 h.kept (row:=none) ⟨hb.os,hb.tape,hb.output,hb.size,fun i hi _=>hb.block i hi⟩ (by simp)
theorem ik(fn:Fn)(first cap:Array Value)(w:World):(binOp .eql 214 (.func fn first cap) .nilFunc).run prog w = .ok (.bool false) w:=by
 have h:∀ d:Nat,(zi (d+1) 214 (.func fn first cap) .nilFunc).run prog w = .ok false w:=fun d=>by
  simp[zi,run_underlying underlying214]
 simp only[binOp];simp[Op.equal,Op.maxDepth,h 9999]
theorem LV(w:World):(binOp .eql 214 .nilFunc .nilFunc).run prog w = .ok (.bool true) w:=by
 have h:∀ d:Nat,(zi (d+1) 214 .nilFunc .nilFunc).run prog w = .ok true w:=fun d=>by
  simp[zi,run_underlying underlying214]
 simp only[binOp];simp[Op.equal,Op.maxDepth,h 9999]
theorem ZH.more{lo l0 h0:Nat}{w w1 w':World}{sv Uh:Value}{S:List (Nat×qO)}{q:Nat×qO}{vs:List Value}{u:Value}
  (ht:∀ j (h:j<S.length),∃ u l h',vs[j*2]? = some (.int .i64 S[j].1)/\vs[j*2+1]? = some u/\lo<=l/\h'<=w.heap.size/\(∀ g,sv.ownBlock=some g->g<l\/h'<=g)/\km l h' w u S[j].2) (D5:vs.length=S.length*2)
  (hT:km l0 h0 w u q.2) (il:lo<=l0) (LA:h0<=w.heap.size) (aQ:∀ g,sv.ownBlock=some g->g<l0\/h0<=g)
  (hb:Below w.heap.size w w1) (uP:w1.grownBy w' sv.ownBlock) (U9:Uh.ownBlock=sv.ownBlock\/Uh.ownBlock=some w1.heap.size) (ho:w'.ownsRow lo 216 2 Uh (S.length+1) (vs++[.int .i64 q.1,u])) :
  ZH lo w' Uh (S++[q]):=by
 have KE:∀ l h',h'<=w.heap.size->(∀ g,sv.ownBlock=some g->g<l\/h'<=g)->vQ l h' w w':=by
  intro l h' hh hg;refine⟨zX hh (zX hb.size uP.size),fun k k1 k2=>?_⟩;rw[uP.block k (by have:=hb.size;omega) (fun e=>by rcases hg k e.symm with q|q<;>omega)];exact hb.block k (by omega)
 have eY:∀ l h',h'<=w.heap.size->(∀ g,sv.ownBlock=some g->g<l\/h'<=g)->∀ g,Uh.ownBlock=some g->g<l\/h'<=g:=by
  intro l h' hh hg g e;rcases U9 with q|q
  ·exact hg g (q▸e)
  ·rw[q] at e
   cases e;exact .inr (zX hh hb.size)
 refine⟨vs++[.int .i64 q.1,u],by simpa using ho,fun j hj=>?_⟩;by_cases QS:j<S.length
 ·obtain⟨x,l,h',e1,e2,e3,e4,e5,e6⟩:=ht j QS;refine⟨x,l,h',?_,?_,e3,zX e4 (zX hb.size uP.size),eY l h' e4 e5,?_⟩
  ·rw[zc (by omega),zm QS];exact e1
  ·rw[zc (by omega)];exact e2
  ·rw[zm QS];exact e6.keep (KE l h' e4 e5) (z8 _) (z8 _)
 ·have e:j=S.length:=by simp at hj;omega
  subst e;refine⟨u,l0,h0,?_,?_,il,zX LA (zX hb.size uP.size),eY l0 h0 LA aQ,?_⟩
  ·rw[zR (by omega),D5,za (by omega)];simp
  ·rw[zR (by omega),D5];simp
  ·rw[za (by omega)];simpa using hT.keep (KE l0 h0 LA aQ) (z8 _) (z8 _)
theorem ZH.set{lo cap:Nat}{w:World}{a:Option Addr}{S:List (Nat×qO)}(h:ZH lo w (.slice a S.length cap) S):Jk lo w.heap.size w a S:=by
 obtain⟨vs,ho,ht⟩:=h;intro j hj;obtain⟨u,l,h',e1,e2,e3,e4,e5,e6⟩:=ht j hj;obtain⟨g,vh,hv,hg,dV,hc⟩:=vU ho (by omega)
 cases hv;refine⟨g,0,u,rfl,?_,?_,hg,dV,e6.keep (vy e4) e3 e4⟩
 ·rw[zw,hc (j*2) (by omega)];exact e1
 ·rw[zw,hc (j*2+1) (by omega)];exact e2
def yb9(r:Option (List (Nat×qO)))(w:World)(e:Ending)(w':World):Prop :=
 (match r with|none=>e = .returned (.tuple #[.slice none 0 0,.bool false])|some S=>∃ a c,e = .returned (.tuple #[.slice a S.length c,.bool true])/\Jk w.heap.size w'.heap.size w' a S)/\Below w.heap.size w w'
def Pe(D:DataW Unit)(seen:List Wd):Prop:=Maps.IsMap D/\∀ n:Wd,∃ c:Int,D.atKey (.string n) (.lit (.int .i64 0)) = .lit (.int .i64 c)/\(0<c ↔ n∈seen)/\0<=c/\c<=seen.length
def pD(rs:List Uq)(r:Option (List (Nat×qO)))(mb:Nat)(w:World)(sv:Value)(k:Nat)(wr:World):Prop :=
 ∃ (S:List (Nat×qO)) (seen:List Wd) (D:DataW Unit),ZH (mb+1) wr sv S/\wr.ownsMap prog 9 (plainElem prog 3) mb (k+1) D/\Pe D seen/\seen.length<=k+1/\Below w.heap.size w wr/\w.heap.size<=mb /\
  S.length<=k/\ZE (rs.drop k) seen S=r
theorem Oy:Pe ((DataW.map []:DataW Unit).put (.string [111,116,104,101,114]) (.lit (.int .i64 1))) [[111,116,104,101,114]]:=by
 refine⟨⟨_,rfl⟩,fun n=>?_⟩;by_cases h:n=[111,116,104,101,114]
 ·subst h;exact⟨1,by kernel_rfl,by simp,by decide,by simp⟩
 ·refine⟨0,?_,by simp[h],by decide,by simp⟩;rw[yx (by simpa using h)];rfl
theorem Tv{D:DataW Unit}{seen:List Wd}{n:Wd}(h:Pe D seen){c:Int}(hc:D.atKey (.string n) (.lit (.int .i64 0)) = .lit (.int .i64 c)):Pe (D.put (.string n) (.lit (.int .i64 (c+1)))) (n::seen):=by
 obtain⟨⟨es,rfl⟩,h2⟩:=h;refine⟨⟨_,rfl⟩,fun m=>?_⟩;by_cases hm:m=n
 ·subst hm;obtain⟨c',e1,e2,e3,e4⟩:=h2 m;rw[hc] at e1
  cases e1;exact⟨c+1,Maps.atKey_put_same ⟨_,rfl⟩ (by trivial) _ _,by simp;omega,by omega,by simp;omega⟩
 ·obtain⟨c',e1,e2,e3,e4⟩:=h2 m;refine⟨c',?_,by simp[hm,e2],e3,by simp;omega⟩;rw[yx (by simpa using hm)];exact e1
theorem FK(rs:List Uq)(v:Value)(w:World)(hv:ud w v rs)(hl:rs.length<=1000000)(hz:∀ q∈rs,q.1.length<=1000000/\q.2.length<=1000000)(hT:PW w)(hN:ui w) :
  Calls prog 59 #[v] w (yb9 (ZY rs) w):=by
 obtain⟨a,cap,rfl,vX⟩:=hv;obtain⟨r,hr⟩:∃ r,ZY rs=r:=⟨_,rfl⟩;rw[hr];have HR:=z7 hr;have HC:=z7 vX;have HZ:=z7 hz;have HT:=z7 hT;have HN:=z7 hN;have LI:=@run_makeMap prog;clear hr vX hz hT hN;go_enter func59,ntmps59;go_wp2;obtain⟨w1,vB,Vb,uP⟩:=(World.ownsMap_made (H:=Unit) w prog 9 (plainElem prog 3)).update (zL underlying9) underlying185 (by unfold maxLen;omega) (zJ (s:=⟨#[111,116,104,101,114]⟩) underlying9 (by decide)) (plainElem_int underlying3 (q := .i64) (a:=1) (by decide));rw[vB];simp only[Result.andThen];have hb:Below w.heap.size w w1:=((zj _ _).alloc (z8 _) _).grown uP (by simp) (fun j hj=>by cases hj;exact z8 _);have V5:=z7 Vb;clear vB Vb uP;obtain⟨mb,Ef⟩:∃ mb,mb=w.heap.size:=⟨_,rfl⟩;rw[←Ef] at V5;go_wp2;rw[←Ef];have Ms:=z7 Ef;clear Ef;go_loopw [2,13] (fun sv i wr=>∃ k:Nat,k<=rs.length/\i = .int .i64 k/\pD rs r mb w sv k wr) (fun _ i _=>rs.length - (intOf i).toNat)
 case atStart=>exact⟨0,zV _,rfl,[],[[111,116,104,101,114]],_,ZH.nil _ _,V5.out,Oy,by simp,hb,by have:=Ms.out;omega,by simp,HR.out⟩
 case round =>
  obtain⟨k,hk,rfl,S,seen,D,vE,zn5,tu,dG,qG,zn6,hSk,jH⟩:=hrel;have qV:=z7 vE;have zn7:=z7 zn5;have tk:=z7 tu;have dP:=z7 jH;obtain⟨sa,sc,rfl⟩:=vE.form;clear vE zn5 tu jH hb;by_cases xC:k<rs.length
  ·obtain⟨g,o,rfl,c1,c2⟩:=HC.out k xC;have d1:=(qG.cell (zx w _ c1)).trans c1;have d2:=(qG.cell (zx w _ c2)).trans c2;clear c1 c2;go_wp2_with fail;have hzk:=HZ.out rs[k] (List.getElem_mem xC);obtain⟨nm,Dn⟩:∃ nm,rs[k].1=nm:=⟨_,rfl⟩;obtain⟨wh,hwh⟩:∃ wh,rs[k].2=wh:=⟨_,rfl⟩;rw[Dn,hwh] at hzk;rw[Dn] at d1 ⊢;rw[hwh] at d2 ⊢;have F:∃ W,W=wr.alloc (.cells #[xk nm,xk wh] 71)/\Below wr.heap.size wr W/\W.cell? ⟨wr.heap.size,0,none⟩=some (xk nm)/\W.cell? ⟨wr.heap.size,1,none⟩=some (xk wh):=⟨_,rfl,(zj _ _).alloc (z8 _) _,xu _ _ _ _ _,xu _ _ _ _ _⟩;obtain⟨W,hW,jT,b0,b1⟩:=F;rw[←hW];have kG:ZE (rs.drop k) seen S=match Dm wh with
     | none=>none
     | some T=>if FQ nm<0\/nm∈seen then none else ZE (rs.drop (k+1)) (nm::seen) (S++[((FQ nm).toNat,T)]):=by
    rw[ze xC];have hp:rs[k]=(nm,wh):=by rw[←Dn,←hwh]
    rw[hp,ZE]
   rw[dP.out] at kG;have jF:=z7 kG;have MD:Below w.heap.size w W:=qG.trans (jT.mono qG.size);obtain⟨B,hB⟩:∃ B,B=wr.heap.size:=⟨_,rfl⟩;rw[←hB] at b0 b1 ⊢;have rr:=z7 hB;clear hW kG Dn hwh d1 d2 hB;have kO:W.drew.cell? ⟨B,0,none⟩=some (xk nm):=b0;refine rt (fun W':World=>W'.cell? ⟨B,0,none⟩=some (xk nm)) [0,1,2] 2 kO ?_;(iterate 3 ((first|refine ty ?_|refine tn ?_);try simp only[pl]))
   refine xq ?_;refine xg 3 (by kernel_rfl) rfl (fun K hK=>?_);go_simp;have Xq:ui W.drew:=HN.out.below (show Below w.heap.size w W.drew from MD.drew);refine(Tryz.slices_Index_string 0 0 6 6 Zx ⟨nm.toArray⟩ _ (by decide) (by decide) (fun j hj=>by rw[zw];exact Xq j hj)).mono ?_;rintro e w' ⟨rfl,rfl⟩;refine hK.out _ _ kO (fun _=>?_);clear hK K;refine xG [4] 0 rfl (by intro _ _ d _ _ h;cases d<;>exact h) (by kernel_rfl) (by kernel_rfl) kO ?_;(iterate 1 ((first|refine ty ?_|refine tn ?_);try simp only[pl]))
   refine xq ?_;refine wpAnyH_done (by kernel_rfl) ?_ _;have Hn:Lib.idxOfS (Zx.take 6) ⟨nm.toArray⟩=FQ nm:=rfl;rw[Hn];obtain⟨ix,zn8⟩:∃ ix,FQ nm=ix:=⟨_,rfl⟩;rw[zn8] at jF ⊢;have hcnd:=DU ⟨wh.toArray⟩ W.drew (by rw[size_mk];omega) (HT.out.below MD.drew);rw[toList_mk] at hcnd;have ybz:=z7 hcnd;have b1d:W.drew.cell? ⟨B,1,none⟩=some (xk wh):=b1;clear Hn zn8 hcnd Xq;go_wp2_with fail;refine ybz.out.mono ?_;rintro e w3 ⟨hq,uD⟩;have ig:Below W.heap.size W w3:=(zj _ W).drew.trans uD;have Ye:Below w.heap.size w w3:=MD.trans (ig.mono MD.size);have hB:B<W.heap.size:=zx W _ b0;have e0:=(ig.cell (p:=⟨B,0,none⟩) hB).trans b0;have L8:=z7 ((qV.out.below jT).below ig);have ib:=z7 (BJ (BJ zn7.out jT) ig);obtain⟨c,Eo,U9,Gq⟩:=ib.out.lookup_int (zL underlying9) underlying185 underlying3 (q := .i64) (by first|rfl|simp[go_sem]) (key:=xk nm) (zJ (s:=⟨nm.toArray⟩) underlying9 (by rw[size_mk];unfold maxLen;omega));rw[toList_mk] at U9;obtain⟨c',uF,uw,LN,Kd⟩:=tk.out.2 nm;rw[uF] at U9
   cases U9;have hef:=ik;have fX:=LV
   cases hc:Dm wh with
   | none =>
    rw[hc] at hq;obtain rfl:=hq;have td:r=none:=by rw[jF.out,hc]
    have AG:=z7 td;clear hc td uw uF;by_cases h1:ix<0
    ·have g1:decide (ix<0)=true:=decide_eq_true h1;go_wp2;go_ret2
     refine⟨?_,Ye⟩;rw[AG.out];rfl
    ·have g1:decide (ix<0)=false:=decide_eq_false h1;by_cases h2:0<c
     ·have g2:decide (0<c)=true:=decide_eq_true h2;go_wp2;go_ret2
      refine⟨?_,Ye⟩;rw[AG.out];rfl
     ·have g2:decide (0<c)=false:=decide_eq_false h2;go_wp2;go_ret2
      refine⟨?_,Ye⟩;rw[AG.out];rfl
   | some T =>
    rw[hc] at hq;obtain⟨tv,rfl,TJ⟩:=hq;have vL:=jF.out;rw[hc] at vL;dsimp only at vL;have zqg:=z7 vL;have HFT:=z7 TJ;obtain⟨kf,dp,rfl,_⟩:=TJ;clear hc vL;by_cases h1:ix<0
    ·have g1:decide (ix<0)=true:=decide_eq_true h1;have td:r=none:=by rw[zqg.out,if_pos (.inl h1)]
     have AG:=z7 td;clear td uw uF;go_wp2;go_ret2
     refine⟨?_,Ye⟩;rw[AG.out];rfl
    ·have g1:decide (ix<0)=false:=decide_eq_false h1;by_cases h2:0<c
     ·have g2:decide (0<c)=true:=decide_eq_true h2;have td:r=none:=by rw[zqg.out,if_pos (.inr (uw.1 h2))]
      have AG:=z7 td;clear td uw uF;go_wp2;go_ret2
      refine⟨?_,Ye⟩;rw[AG.out];rfl
     ·obtain rfl:c=0:=by omega
      have hns:¬nm∈seen:=fun hm=>h2 (uw.2 hm)
      have hrc:ZE (rs.drop (k+1)) (nm::seen) (S++[(ix.toNat,T)])=r:=by rw[zqg.out,if_neg (fun q=>q.elim h1 hns)]
      have ES:=z7 hrc;have gQ:=z7 uF;obtain⟨iN,hiN⟩:∃ iN:Nat,ix=(iN:Int):=⟨ix.toNat,by omega⟩;subst hiN;rw[Int.toNat_natCast] at ES;obtain⟨w4,xqf,iZ,j7⟩:=ib.out.update (zL underlying9) underlying185 (by unfold maxLen;omega) (key:=xk nm) (zJ (s:=⟨nm.toArray⟩) underlying9 (by rw[size_mk];unfold maxLen;omega)) (plainElem_int underlying3 (q := .i64) (a:=1) (by decide));rw[toList_mk] at iZ;have dB:xS mb w3 w4:=⟨j7.os,j7.tape,j7.output,j7.size,fun i hi hn=>j7.block i hi (fun e=>hn (by cases e;rfl))⟩;have xqd:=ib.out.lt;have L5:ZH (mb+1) w4 (.slice sa S.length sc) S:=L8.out.but dB (fun e=>by have:=(L8.out.lt _ e).1;omega) (.inl (Nat.lt_succ_self _));have X2:Below w.heap.size w w4:=Ye.grown j7 Ye.size (fun q hq=>by cases hq;exact zn6);have hmW:mb<wr.heap.size:=zn7.out.lt;have zn9:km W.drew.heap.size w3.heap.size w4 (.func (.func kf) #[] dp) T:=HFT.out.keep ⟨j7.size,fun j j1 j2=>j7.block j j2 (fun e=>by cases e;have:=jT.size;change W.heap.size<=mb at j1;omega)⟩ (z8 _) (z8 _);have yby:=z7 zn9;have znz:=z7 iZ;obtain⟨vs,Uu,eU⟩:=L5;have Fp:=z7 Uu;have FI:=z7 eU;have e04:w4.cell? ⟨B,0,none⟩=some (xk nm):=dB.cell e0 (by show B≠mb;have:=rr.out;omega);clear uF uw hrc zn9 iZ Uu eU hns h1 h2;go_wp2_with (at_builtin;refine YC iq rfl _ _ rfl (mb+1) _ S.length vs rfl (Fp.out.alloc _) ⟨w4.heap.size,0,none⟩ 1 1 [.int .i64 iN,.func (.func kf) #[] dp] rfl rfl ?k1 ?k2 ?k3 ?k4 ?_)
      case k1 =>
       intro j u hu;rw[ur];match j,hu with
       | 0,hu=>simp at hu;subst hu;exact xu _ _ _ _ _
       | 1,hu=>simp at hu;subst hu;exact xu _ _ _ _ _
      case k2 =>
       intro u hu;simp at hu;rcases hu with rfl|rfl<;>rfl
      case k3=>omega
      case k4=>have:=j7.size;have:=jT.size;have:=ig.size;simp;omega
      intro Uh w5 jP qc Fq;have Zg:Below w4.heap.size w4 (w4.alloc (.cells #[.int .i64 iN,.func (.func kf) #[] dp] 216)):=(zj _ _).alloc (z8 _) _;have XM:ZH (mb+1) w5 Uh (S++[(iN,T)]) :=
       ZH.more FI.out (by have:=Fp.out.1;omega) yby.out (by have:=jT.size;show mb+1<=W.heap.size;omega) j7.size (fun q hq => .inl (by have:=(qV.out.lt q hq).2;have:=jT.size;show q<W.heap.size;omega)) Zg qc (by simpa using Fq) jP
      have tZ:=(znz.out.alloc (.cells #[.int .i64 iN,.func (.func kf) #[] dp] 216)).kept qc (fun e=>by have:=(qV.out.lt mb e.symm).1;omega);have UJ:Below w.heap.size w w5:=(X2.alloc X2.size _).grown qc (by have:=X2.size;simp;omega) (fun q hq=>by have:=(qV.out.lt q hq).1;omega);obtain⟨a5,c5,rfl⟩:=xZ jP;have Fk:=z7 XM;have zny:=z7 tZ;clear XM tZ jP qc Fq Zg;go_wp2;go_roundw
      case rel=>exact⟨k+1,by omega,by go_num,S++[(iN,T)],nm::seen,_,by simpa using Fk.out,zny.out,Tv tk.out gQ.out,by simp;omega,UJ,zn6,by simp;omega,ES.out⟩
      case measure=>simp[intOf];omega
  ·obtain rfl:k=rs.length:=by omega
   have jH:=dP.out;rw[zt (z8 _)] at jH;have hr:r=some S:=by rw[←jH,ZE]
   have gV:=z7 hr;clear jH hr;go_wp2;go_ret2
   refine⟨?_,qG⟩;rw[gV.out];exact⟨sa,sc,rfl,qV.out.set.keep (vy (z8 _)) (by omega) (z8 _)⟩
def Ox:List Uq:=[([111,110,101],[105,32,61,32,49,32,97,110,100,32,118,32,61,32,48])]
def Ov:List Uq:=[([111,110,101],[110,32,37,32,49,48,32,61,32,49,32,97,110,100,32,110,32,37,32,49,48,48,32,33,61,32,49,49]),([116,119,111],[110,32,37,32,49,48,32,61,32,50,32,97,110,100,32,110,32,37,32,49,48,48,32,33,61,32,49,50]),([102,101,119],[110,32,37,32,49,48,32,61,32,51,32,97,110,100,32,110,32,37,32,49,48,48,32,33,61,32,49,51])]
theorem LU(w:World):Calls prog 15 #[] w fun e w'=>(∃ c o,e = .returned (Sz c o 45 46 44 3 0 ⟨#[]⟩)/\ud w' c Ox/\ud w' o Ov)/\Below w.heap.size w w':=by
 go_enter func15,ntmps15;go_wp2;refine bodyPost_ret (v:=Sz (.slice (some ⟨w.heap.size+1,0,none⟩) 1 1) (.slice (some ⟨w.heap.size+1+1+1,0,none⟩) 3 3) 45 46 44 3 0 ⟨#[]⟩) ?_ rfl ⟨⟨_,_,rfl,⟨_,_,rfl,fun j hj=>⟨_,_,rfl,?_,?_⟩⟩,⟨_,_,rfl,fun j hj=>⟨_,_,rfl,?_,?_⟩⟩⟩,?_⟩
 ·simp[results,results15,go_sem]
 ·obtain rfl:j=0:=by have:j<1:=hj;omega
  go_simp;rfl
 ·obtain rfl:j=0:=by have:j<1:=hj;omega
  go_simp;rfl
 ·have:j<3:=hj;match j,this with
  | 0,_=>(go_simp;rfl)
  | 1,_=>(go_simp;rfl)
  | 2,_=>(go_simp;rfl)
 ·have:j<3:=hj;match j,this with
  | 0,_=>(go_simp;rfl)
  | 1,_=>(go_simp;rfl)
  | 2,_=>(go_simp;rfl)
 ·(repeat(first|(with_reducible exact zj _ _)|(with_reducible refine Below.alloc ?_ ?_ _;rotate_left;focus(first|(simp;done)|(simp;omega)))|(with_reducible refine Below.setCell ?_ ?_ _;rotate_left;focus(first|(simp;done)|(simp;omega)))))
def zqf(S:List (Nat×qO))(W:World)(u:Value):Prop:=∃ a c hi,u = .slice a S.length c/\Jk 0 hi W a S/\hi<=W.heap.size
theorem BG(rs:List Uq)(S:List (Nat×qO))(v:Value)(w:World)(hv:ud w v rs)(hl:rs.length<=1000000)(hz:∀ q∈rs,q.1.length<=1000000/\q.2.length<=1000000)(hT:PW w)(hN:ui w)(hS:ZY rs=some S) :
  fN w v true (zqf S):=by
 intro W hW;refine(FK rs v W (hv.below hW) hl hz (hT.below hW) (hN.below hW)).mono ?_;rintro e w1 ⟨hq,hb⟩;rw[hS] at hq;obtain⟨a,c,he,hr⟩:=hq;refine⟨⟨_,_,_,he,fun W2 hA=>⟨a,c,w1.heap.size,rfl,?_,hA.1⟩⟩,hb⟩;exact hr.keep (lo':=0) (hi':=w1.heap.size) ⟨hA.1,fun k h1 h2=>hA.2 k (.inr ⟨h1,h2⟩)⟩ (zV _) (z8 _)
theorem ud.slice{w:World}{v:Value}{rs:List Uq}(h:ud w v rs):∃ a n k,v = .slice a n k:=by
 obtain⟨a,cap,hv,-⟩:=h;exact⟨a,_,cap,hv⟩
theorem BF:(∀ q∈Ox,q.1.length<=1000000/\q.2.length<=1000000)/\∀ q∈Ov,q.1.length<=1000000/\q.2.length<=1000000:=by decide
def LQ:List (Nat×qO):=(ZY Ox).getD []
def LK:List (Nat×qO):=(ZY Ov).getD []
theorem Qf:ZY Ox=some LQ/\ZY Ov=some LK:=by
 have h:(ZY Ox).isSome=true/\(ZY Ov).isSome=true:=by constructor<;>kernel_rfl
 constructor
 ·obtain⟨S,hS⟩:=zN.1 h.1;unfold LQ;rw[hS];rfl
 ·obtain⟨S,hS⟩:=zN.1 h.2;unfold LK;rw[hS];rfl
abbrev pB(s:List UInt8):Dg:=(uv s,ua s)
theorem BD{l:List UInt8}(h:qg l=true):(uv l).all xF=true/\(ua l).all xF=true/\0<(uv l).length/\(uv l).length+(ua l).length<=30:=by
 simp only[qg,Uc,zg,Bool.or_eq_true,decide_eq_true_eq] at h;have hw:=h.1.1.1.1;have hf:=h.1.1.1.2;simp only[vO,zg] at hw;refine⟨hw.1,?_,?_,h.1.1.2⟩
 ·rcases hf with hf|hf
  ·have hp:¬(V9 l).idxOf 46<(V9 l).length:=by simpa[Yf] using hf
   have:ua l=[]:=by unfold ua;exact zt (by omega)
   rw[this];rfl
  ·simp only[vO,zg] at hf;exact hf.1
 ·have:=hw.2
  cases hl:uv l with
  | nil=>rw[hl] at this;cases this
  | cons a b=>simp
theorem zqd{l:List UInt8}(h:qg l=true):CC (pB l):=by
 obtain⟨h1,h2,h3,h4⟩:=BD h;exact⟨h1,h2,(fun q=>by rw[show uv l=[] from q] at h3;cases h3),by show(uv l).length<=100;omega,by show(ua l).length<=100;omega⟩
def nmC(k:Nat):Wd:=(Zx.getD k zI).data.toList
def XW(rs:List Uq)(s:List UInt8):Wd:=match ZY rs with|none=>[]|some S=>if qg s=true then nmC (PA S (pB s)) else []
def XA(rs:List Uq)(s:List UInt8):Int:=match ZY rs with|none=>9|some _=>if qg s=true then 0 else 10
def tY(rs:List Uq)(s:List UInt8)(w:World)(e:Ending)(w':World):Prop:=e = .returned (.tuple #[xk (XW rs s),Ap (XA rs s)])/\Below w.heap.size w w'
theorem iY(x:ByteArray):∀ (zs:List ByteArray) (i:Nat),yy zs x i<(i+zs.length:Nat)
 | [],i=>by simp[yy];omega
 | z::zs,i=>by
  rw[yy];split
  ·simp;omega
  ·have:=iY x zs (i+1);simp only[zu];omega
theorem iX(n:Wd):FQ n<6:=by
 have h:=iY ⟨n.toArray⟩ Zx 0;have e:Zx.length=6:=by decide
 rw[e] at h;exact h
theorem BB:∀ (rs:List Uq) (seen:List Wd) (acc S:List (Nat×qO)),ZE rs seen acc=some S->(∀ q∈acc,q.1<6)->S.length=acc.length+rs.length/\∀ q∈S,q.1<6
 | [],_,acc,S,h,ha=>by cases h;exact⟨by simp,ha⟩
 |(n,c)::t,seen,acc,S,h,ha=>by
  rw[ZE] at h;split at h
  ·cases h
  ·split at h
   ·cases h
   ·next hn =>
    have:=BB t _ _ S h fun q hq=>by
     rcases zM.1 hq with hq|hq
     ·exact ha q hq
     ·have:=iX n;simp at hq;subst hq;simp only;omega
    refine⟨?_,this.2⟩;rw[this.1];simp;omega
theorem BC{rs:List Uq}{S:List (Nat×qO)}(h:ZY rs=some S):S.length=rs.length/\∀ q∈S,q.1<6:=by
 have:=BB rs _ [] S h (by simp);simpa using this
theorem iV{rs:List Uq}{S:List (Nat×qO)}(h:ZY rs=some S)(d:Dg):PA S d<6:=by
 have hS:=(BC h).2;unfold PA;split
 ·next q hq=>exact hS q (zW hq)
 ·decide
theorem Jk.znx{lo hi:Nat}{w w':World}{a:Option Addr}{S:List (Nat×qO)}(h:Jk lo hi w a S)(hb:Below hi w w')(hh:hi<=w.heap.size):Jk lo hi w' a S :=
 h.keep (vV (lo:=lo) hb (z8 _) hh) (z8 _) (z8 _)
theorem iU(rs:List Uq)(v:Value)(s:ByteArray)(w:World)(hv:ud w v rs)(hl:rs.length<=1000000)(hz:∀ q∈rs,q.1.length<=1000000/\q.2.length<=1000000)(hs:s.size<=1000000)(hT:PW w)(hN:ui w) :
  Calls prog 41 #[v,.string s] w (tY rs s.data.toList w):=by
 have znv:=z7 (FK rs v w hv hl hz hT hN);have HN:=z7 hN;obtain⟨va,vn,vc,rfl⟩:∃ a n c,v = .slice a n c:=by obtain⟨a,c,rfl,_⟩:=hv;exact⟨_,_,_,rfl⟩
 have il:=z7 hl;clear hv hz hT hN hl;go_enter func41,ntmps41;go_wp2_with fail;refine znv.out.mono ?_;rintro e w1 ⟨hq,xB⟩
 cases hr:ZY rs with
 | none =>
  rw[hr] at hq;subst hq;have HT:=z7 (show XW rs s.data.toList=[] by unfold XW;rw[hr]);have HC:=z7 (show XA rs s.data.toList=9 by unfold XA;rw[hr]);clear hr;go_wp2;go_ret2
  exact⟨by rw[HT.out,HC.out];rfl,xB⟩
 | some S =>
  rw[hr] at hq;obtain⟨a,c,rfl,Re⟩:=hq;have ybv:=z7 Re;have HR:=z7 hr;clear hr Re;go_wp2_with fail;refine(Xh s _ hs).mono ?_;rintro e w2 ⟨b,pv,k,rfl,⟨pa,pn,pk,rfl⟩,xD,vM⟩;have qX:=xB.trans (xD.mono xB.size)
  cases hn:qg s.data.toList
  ·have HT:=z7 (show XW rs s.data.toList=[] by unfold XW;rw[HR.out];dsimp only;rw[hn];rfl);have HC:=z7 (show XA rs s.data.toList=10 by unfold XA;rw[HR.out];dsimp only;rw[hn];rfl);clear hn vM;go_wp2;go_ret2
   exact⟨by rw[HT.out,HC.out];rfl,qX.alloc qX.size _⟩
  ·obtain⟨rfl,rfl,xV⟩:=vM hn;have ku:=zqd hn;obtain⟨d1,d2,rE,h30⟩:=BD hn;obtain⟨g,cap,hpv,_,_,_,_⟩:=oy xV (by omega)
   cases hpv;have KP:uM w2 (.agg #[.bool (Vz s.data.toList),.slice (some ⟨g,0,none⟩) ((uv s.data.toList).length+(ua s.data.toList).length) pk,.int .i64 (pB s.data.toList).2.length]) (pB s.data.toList) :=
    Xw (d:=uv s.data.toList++ua s.data.toList) rfl (by simp) xV ku
   have hlen:=BC HR.out;have hof:PA S (pB s.data.toList)<6:=by
    unfold PA
    cases hf:S.find? (fun q=>q.2 (pB s.data.toList)) with
    | some q=>exact hlen.2 q (zW hf)
    | none=>decide
   have HT:=z7 (show XW rs s.data.toList=nmC (PA S (pB s.data.toList)) by unfold XW;rw[HR.out];dsimp only;rw[if_pos hn]);have HC:=z7 (show XA rs s.data.toList=0 by unfold XA;rw[HR.out];dsimp only;rw[if_pos hn]);obtain⟨ix,Hn⟩:∃ ix,PA S (pB s.data.toList)=ix:=⟨_,rfl⟩;have FT:=z7 (show ix<6 by rw[←Hn];exact hof);have MM:=z7 Hn;have SJ:=z7 KP;have D4:=z7 hlen.1;clear hn vM xV ku KP hlen hof Hn d1 d2;go_wp2_with fail;refine vN ?_;intro W hW;have jT:Below w2.heap.size w2 W:=by rw[hW];exact(zj _ _).alloc (z8 _) _
   clear hW;have znu:Below w1.heap.size w1 W:=xD.trans (jT.mono xD.size);have znq:Below w.heap.size w W:=qX.trans (jT.mono qX.size);refine(E9 S a c _ (pB s.data.toList) w.heap.size w1.heap.size W (by rw[D4.out];exact il.out) (ybv.out.znx znu (z8 _)) znu.size (SJ.out.below jT)).mono ?_;rintro e w3 ⟨rfl,uD⟩;rw[MM.out];have Z8:=znq.trans (uD.mono znq.size);have Z0:=HN.out.below Z8 ix FT.out;have HE:=z7 (show nmC ix=(Zx.getD ix zI).data.toList from rfl);obtain⟨nm,Dn⟩:∃ nm,Zx.getD ix zI=nm:=⟨_,rfl⟩;rw[Dn] at Z0;have HNM:=z7 Dn;have xk0:=FT.out;clear Dn;go_wp2;go_ret2
   exact⟨by rw[HT.out,HC.out,MM.out,HE.out,HNM.out];simp[Ap,xk],Z8⟩
structure iQ(w:World):Prop where
 rt:PW w
 names:ui w
 err:Qh w
theorem iK(rs:List Uq)(v:Value)(s:ByteArray)(w:World)(hv:ud w v rs)(hl:rs.length<=1000000)(hz:∀ q∈rs,q.1.length<=1000000/\q.2.length<=1000000)(hs:s.size<=1000000)(hP:iQ w) :
  Calls prog 27 #[v,.string s] w fun e w'=>e = .returned (.tuple #[xk (XW rs s.data.toList),.int .i64 (XA rs s.data.toList)])/\Below w.heap.size w w':=by
 have vF:=iU rs v s w hv hl hz hs hP.rt hP.names;unfold tY at vF;generalize XW rs s.data.toList=tx at *;generalize XA rs s.data.toList=cd at *;have qU:=z7 vF;have HE:=z7 hP.err;clear vF hP hz hv;go_enter func27,ntmps27;go_wp2_with fail;refine qU.out.mono ?_;rintro e w1 ⟨rfl,xB⟩;go_wp2_with fail;refine(At cd _ (HE.out.below xB)).mono ?_;rintro e w2 ⟨rfl,xD⟩;have qX:=xB.trans (xD.mono xB.size);clear xD xB;go_wp2;go_ret2
 exact⟨rfl,qX⟩
structure FJ(w:World)(c o:Value):Prop where
 c:ud w c Ox
 o:ud w o Ov
theorem FJ.below{w w':World}{c o:Value}(h:FJ w c o)(hb:Below w.heap.size w w'):FJ w' c o:=⟨h.c.below hb,h.o.below hb⟩
abbrev zqb(c o:Value):Value:=Sz c o 45 46 44 3 0 ⟨#[]⟩
def Tu:qI Unit:=zn4 45 46 44 3 3 (vv (K9 [])) LQ LK
theorem Tq:kV true true 45 46 44 ((3:Nat):Int) ((0:Nat):Int) []=true:=by simp[kV,kC,bF]
theorem pC{P q g mb:Nat}{f:Fo}{vC vI:Value}{rs:List (Value×Value)}{cv ov:Value}{w:World}(h:B5 P q g mb f vC vI rs 45 46 44 3 0 [] cv ov w)(hc:zqf LQ w cv)(ho:zqf LK w ov):zuz w g Tu:=by
 have hd:∀ x∈vv (K9 []),az x:=fun x hx=>GN _ _ (z8 _) x hx
 obtain⟨a,c,hi,rfl,s1,b1⟩:=hc;obtain⟨a',c',hi',rfl,s2,b2⟩:=ho;have k1:vQ 0 hi w w:=⟨b1,fun _ _ _=>rfl⟩;have k2:vQ 0 hi' w w:=⟨b2,fun _ _ _=>rfl⟩;refine zqu (lo:=0) (hi:=w.heap.size) (fi:=3) (ne:=3) h.loc h.gl ⟨by decide,by decide,by decide,hd⟩ (by decide) (by decide) (by decide) h.g0 h.g1 ⟨by decide +kernel,by decide +kernel⟩ (s1.keep k1 (z8 _) b1) (s2.keep k2 (z8 _) b2) (z8 _) (fun n hn=>?_) (fun b d=>?_)
 ·have h1:=hn.GR;have h2:=hn.J0;exact O9 _ _ _ _ _ _ _ _ _ (by simp[xl];omega) (by omega)
 ·cases b
  ·exact iV Qf.1 d
  ·exact iV Qf.2 d
def ybu(r:Except (Nat×Nat) Fo)(w:World)(e:Ending)(w':World):Prop :=
 Below w.heap.size w w'/\match r with
  | .error (n,a)=>e = .returned (.tuple #[.pointer none,.int .i64 (n:Nat),.int .i64 (a:Nat)])
  | .ok f=>∃ P q g mb vC vI rs,e = .returned (.tuple #[.pointer (some ⟨P,0,none⟩),.int .i64 0,.int .i64 0])/\KW P q g mb f vC vI rs Tu w'
theorem iJ{p:Wd}{w:World}{c o:Value}(hp:p.length<=1000000)(hE:ZG w)(hR:PW w)(hA:FJ w c o) :
  Calls prog 20 #[xk p,zqb c o] w (ybu (jU p) w):=by
 refine(CF ⟨p.toArray⟩ c o true true 45 46 44 3 0 ⟨#[]⟩ _ _ w (by rw[size_mk];exact hp) (by decide) (by decide) (by decide) (BG Ox LQ c w hA.c (by decide) BF.1 hR hE.names Qf.1) (BG Ov LK o w hA.o (by decide) BF.2 hR hE.names Qf.2) ⟨hA.c.slice,hA.o.slice⟩ hE).mono ?_;rintro e w1 ⟨xB,vM⟩;rw[if_neg (by rw[Tq];decide),show(⟨p.toArray⟩:ByteArray).data.toList=p from rfl] at vM;refine⟨xB,?_⟩
 cases hr:jU p with
 | error x=>obtain⟨n,a⟩:=x;rw[hr] at vM;exact vM
 | ok f =>
  rw[hr] at vM;obtain⟨P,q,g,mb,vC,vI,rs,cv,ov,rfl,hph,QL,j4⟩:=vM;obtain⟨r1,r2⟩:=KN hr;obtain⟨v1,v2,v3,v4,v5⟩:=iu r1 r2;exact⟨P,q,g,mb,vC,vI,rs,rfl,hph.p0,hph.p1,hph.prog,pC hph (QL w1 (zj _ _)) (j4 w1 (zj _ _)),v1,v2,v3,v4,v5⟩
theorem iG{p:Wd}{w:World}{c o:Value}(hp:p.length<=1000000)(hE:ZG w)(hR:PW w)(hA:FJ w c o){l:List Wd}{a:Option Addr}{n cc:Nat}(ht:ZD w a l)(hn:l.length=n)(hl:∀ t∈l,t.length<=1000000)(q9:n<=1000000) :
  Calls prog 12 #[xk p,zqb c o,.slice a n cc] w fun e w'=>(match jU p with
   | .error _=>e = .returned (.tuple #[xk [],.bool false])
   | .ok f=>∃ s k,e = .returned (.tuple #[xk s,.bool (decide (k=0))])/\PN Tu f (ju l (0,fun _=>none)).1 (ju l (0,fun _=>none)).2 s k)/\Below w.heap.size w w':=by
 obtain⟨r,hr⟩:∃ r,jU p=r:=⟨_,rfl⟩;have HC:=z7 (fun (W:World) (hb:Below w.heap.size w W)=>iJ hp (hE.below hb) (hR.below hb) (hA.below hb));rw[hr] at HC ⊢;have HT:=z7 hE.tabs.err;have HA:=z7 (zh ht (zh hn (zh hl q9)));have HCO:=z7 (zh hA.c.slice hA.o.slice);clear hE hR hA hp hr ht hn hl q9;go_enter func12,ntmps12;go_wp2_with fail;refine vN ?_;intro W hW;have hb:Below w.heap.size w W:=by rw[hW];exact(zj _ _).alloc (z8 _) _
 clear hW;refine(HC.out W hb).mono ?_;rintro e w1 ⟨xB,vM⟩;have uH:Below w.heap.size w w1:=hb.trans (xB.mono hb.size)
 cases r with
 | error x =>
  obtain⟨n,a⟩:=x;obtain rfl:=vM;have HB:=z7 uH;clear hb xB uH HC;go_wp2;go_ret2
  exact⟨rfl,HB.out⟩
 | ok f =>
  obtain⟨P,q,g,mb,vC,vI,rs,rfl,hM⟩:=vM;have HF:=z7 (Im (c:=cc) hM (HT.out.below uH) (HA.out.1.fr (XI uH)) HA.out.2.1 HA.out.2.2.1 HA.out.2.2.2);have HB:=z7 uH;clear hb xB uH hM HC;go_wp2_with fail;refine HF.out.mono ?_;rintro e w2 ⟨⟨s,k,rfl,hs⟩,vG⟩;have HS:=z7 hs;have Ko:=z7 (HB.out.trans ((U0 vG).mono HB.out.size));clear HF hs vG;by_cases hk:k=0
  ·subst hk;go_wp2;go_ret2
   exact⟨⟨s,0,rfl,HS.out⟩,Ko.out⟩
  ·have lZ:((k:Int)=0)=False:=by simp;omega
   go_wp2;go_ret2
   exact⟨⟨s,k,by simp[hk],HS.out⟩,Ko.out⟩
structure ZX(w:World):Prop where
 cmp:ZG w
 rt:PW w
theorem ZX.below{w w':World}(h:ZX w)(hb:Below w.heap.size w w'):ZX w':=⟨h.cmp.below hb,h.rt.below hb⟩
theorem ZX.cat{w:World}(h:ZX w):iQ w:=⟨h.rt,h.cmp.names,h.cmp.tabs.err⟩
def Pl(E:qI Unit)(p:Wd)(l:List Wd):Option Wd :=
 match jU p with
 | .ok f=>(match jN (Sn E (ju l (0,fun _=>none)).2) f [] (false,([],[])) [] () with | .ok (o,_)=>some o | .error _=>none)
 | .error _=>none
def FG:List Wd->Bool
 | k::d::t::r=>fG k && (fg t (d==[110]) && FG r)
 | _=>true
theorem Pm:∀ (n:Nat) (l:List Wd),l.length<=n->∀ p:Nat×(Wd->Option (Wd×Bool)),FG l=true->(∀ m x,p.2 m=some x->fG m=true/\fg x.1 x.2=true)->∀ m x,(ju l p).2 m=some x->fG m=true/\fg x.1 x.2=true
 | _,[],_,_,_,h=>h
 | _,[_],_,_,_,h=>h
 | _,[_,_],_,_,_,h=>h
 | 0,_::_::_::_,hl,_,_,_=>by simp at hl
 | n+1,k::d::t::r,hl,p,ha,h=>by
  rw[FG,zg,zg] at ha;rw[ju];refine Pm n r (by simp at hl;omega) _ ha.2.2 fun m x hx=>?_
  simp only at hx;split at hx
  ·next e =>
   cases hx;subst e;exact⟨ha.1,ha.2.1⟩
  ·exact h m x hx
theorem iF{l:List Wd}(h:FG l=true)(hl:l.length<=16):YB (ju l (0,fun _=>none)).2 (ju l (0,fun _=>none)).1:=by
 refine⟨?_,Pm _ l (z8 _) _ h (fun m x hx=>by cases hx)⟩;have:=U1 _ l (z8 _) (0,fun _=>none);simp only at this;omega
theorem Tk{p t:Wd}{l:List Wd}{w:World}{c o:Value}{a:Option Addr}{n cc:Nat}(hs:Pl Tu p l=some t)(ha:FG l=true)(hp:p.length<=1000000)(hl:∀ t∈l,t.length<=1000000)(hn:l.length=n)(q9:n<=16)(hE:ZX w)(hA:FJ w c o)(ht:ZD w a l) :
  Calls prog 12 #[xk p,zqb c o,.slice a n cc] w fun e w'=>e = .returned (.tuple #[xk t,.bool true])/\Below w.heap.size w w':=by
 refine(iG hp hE.cmp hE.rt hA ht hn hl (by omega)).mono ?_;rintro e w' ⟨h,hb⟩;refine⟨?_,hb⟩;unfold Pl at hs
 cases hr:jU p with
 | error x=>rw[hr] at hs;cases hs
 | ok f =>
  rw[hr] at hs h;obtain⟨s,k,rfl,hq⟩:=h;dsimp only at hs;rcases hq with⟨-,h2⟩|⟨h2,-⟩
  ·split at hs
   ·next o1 g1 he =>
    cases hs;rw[he] at h2;obtain⟨rfl,rfl⟩:=h2;rfl
   ·cases hs
  ·exact absurd (iF ha (by omega)) h2
end Go.Proofs.YthpldolmpinnhaaGreatDoor
namespace Go.Proofs.YthpldolmpinnhaaGreatDoor
open Go.ChangeShapes Go.WideShapes Go.ChangeAt Go.RowKit Go.Lib
set_option maxRecDepth 10000
theorem mem_range:("strconv.ErrRange",Rows.laid_strconv_ErrRange)∈VF:=yg.2 ⟨.tail _ (.tail _ (.tail _ (.tail _ (.tail _ (.head _))))),by kernel_rfl⟩
theorem Ou:("strconv.ErrSyntax",Rows.laid_strconv_ErrSyntax)∈VF:=yg.2 ⟨.tail _ (.tail _ (.tail _ (.tail _ (.tail _ (.tail _ (.head _)))))),by kernel_rfl⟩
theorem zk0:prog.globalNamed "strconv.ErrRange" = some 8:=by kernel_rfl
theorem pE:(prog.globals[8]?).map (·.type)=some 73:=by kernel_rfl
theorem pH:prog.globalNamed "strconv.ErrSyntax" = some 7:=by kernel_rfl
theorem iD:(prog.globals[7]?).map (·.type)=some 73:=by kernel_rfl
theorem iB{H:Type}{enc:TypeId×Value->H}{P:Program}{w:World}{base:Nat}{sp:Nat->Bool}{held:Bool}{fuel:Nat}{t:TypeId}{cs:List Value}{n:String}{d:DataW H}{p:List MemPlace}(ht:∃ ms,P.underlying t=some (.interface ms))
  (h:yv enc P w base sp held fuel t cs=some (.iface n d,p)):∃ u v,cs=[.iface u v]:=by
 cases fuel with
 | zero=>simp[yv] at h
 | succ k =>
  unfold yv at h;obtain⟨ms,ht⟩:=ht;rw[ht] at h;split at h<;>simp_all
theorem FD{W:World}{n:String}{g:Nat}{nm:String}{d:DataW Unit}(hg:prog.globalNamed n=some g)(hT:(prog.globals[g]?).map (·.type)=some 73)(h:VarReads prog W n (.iface nm d)) :
  ∃ t v,W.cell? ⟨g,0,none⟩=some (.iface t v):=by
 obtain⟨g',t,cs,fuel,p,hg',LH,Db,hd⟩:=h;obtain rfl:=zr (hg.symm.trans hg');obtain rfl:=zr (hT.symm.trans LH);obtain⟨u,v,dJ⟩:=iB ⟨_,underlying73⟩ hd;refine⟨u,v,?_⟩;rw[World.var?_cell hg Db 0,←Array.getElem?_toList,dJ];rfl
theorem znk{W:World}(h:laidMetH prog listed W):PW W :=
 ⟨FD pH iD (zn (bq h).1 Ou),FD zk0 pE (zn (bq h).1 mem_range)⟩
theorem pI{W:World}(h:laidMetH prog listed W):ZX W:=⟨zvx h,znk h⟩
end Go.Proofs.YthpldolmpinnhaaGreatDoor
namespace Go.Proofs.YthpldolmpinnhaaGreatDoor
open Go.ChangeShapes Go.WideShapes Go.ChangeAt Go.RowKit Go.Lib
theorem BE{P:Program}{w:World}{x:String×DataW Unit}{b:List (String×DataW Unit)}:∀ (a:List (String×DataW Unit)) (ps:List MemPlace),yd P w (a++x::b) ps->∃ ps',yd P w (a++b) ps'/\ps'.Sublist ps
 | [],ps,h=>by
  obtain⟨g,t,cs,fuel,p,q,-,-,-,-,h5,rfl⟩:=h;exact⟨q,h5,List.sublist_append_right _ _⟩
 | y::a,ps,h=>by
  obtain⟨g,t,cs,fuel,p,q,h1,h2,h3,h4,h5,rfl⟩:=h;obtain⟨q',h6,h7⟩:=BE a q h5;exact⟨_,⟨g,t,cs,fuel,p,q',h1,h2,h3,h4,h6,rfl⟩,h7.append_left _⟩
theorem iC{P:Program}{w:World}{x:String×DataW Unit}{a b:List (String×DataW Unit)}(h:laidMet P (a++x::b) w):laidMet P (a++b) w:=by
 obtain⟨ps,h1,h2,h3⟩:=h;obtain⟨ps',h4,h5⟩:=BE a ps h1;exact⟨ps',h4,h5.nodup h2,fun b off hm=>h3 b off (h5.subset hm)⟩
abbrev Qd:List (String×DataW Unit):=Rows.knownRow.laid
theorem znj:(Qd.filter fun x=>x.2.handleName?.isNone)=VF.take 7++("phrases/syntax.words",Rows.laid_phrases_syntax_words)::VF.drop 7:=by rfl
theorem ybq{W:World}(h:laidMetH prog Qd W):laidMetH prog listed W:=by
 have h1:laidMet prog (Qd.filter fun x=>x.2.handleName?.isNone) W/\handlesMet prog [("errors.errorType",Rows.laid_errors_errorType)] W:=h;rw[znj] at h1;have h2:=iC h1.1;rw[yz] at h2;exact(show laidMet prog VF W/\handlesMet prog [("errors.errorType",Rows.laid_errors_errorType)] W from⟨h2,h1.2⟩)
noncomputable def U4(os:Os):World :=
 let N:=(World.settled prog os).heap.size
 let w0:=World.holding prog os ⟨#[.cells #[.string ⟨#[118,97,108,117,101,32,111,117,116,32,111,102,32,114,97,110,103,101]⟩] 385,.cells #[.string ⟨#[105,110,118,97,108,105,100,32,115,121,110,116,97,120]⟩] 385],#[],[]⟩
 let put (h:Array Obj) (g:Nat) (cs:List Value):Array Obj:=h.modify g fun
  | .cells _ t frozen => .cells cs.toArray t frozen
  | o=>o
 let h1:=put w0.heap 1 [.iface 231 (.agg #[uA 73])]
 let h2:=put h1 0 (Ut 3 Rows.laid_phrases_plural_Names)
 let h3:=put h2 3 (Ut 3 Rows.laid_unicode_utf8_first)
 let h4:=put h3 4 (Ut 3 Rows.laid_unicode_utf8_acceptRanges)
 let h5:=put h4 8 [.iface 383 (.pointer (some ⟨N,0,none⟩))]
 let h6:=put h5 7 [.iface 383 (.pointer (some ⟨N+1,0,none⟩))]
 let h7:=put h6 9 (Ut 3 Rows.laid_internal_strconv_uint64pow10)
 let h8:=put h7 10 (Ut 3 Rows.laid_math_bits_deBruijn32tab)
 let h9:=put h8 11 (Ut 3 Rows.laid_math_bits_deBruijn64tab)
 let dM:=put h9 2 (Ut 3 Rows.laid_phrases_code_forms)
 let KU:=put dM 5 (Ut 3 Rows.laid_phrases_syntax_words)
 { w0 with heap:=KU }
set_option maxRecDepth 1000000 in
theorem Tj(os:Os)(args:Array Value):laidMetH prog Qd ((U4 os).forCall (fun _ _=>0) ⟨#[],args,[]⟩).memory :=
 laidMetH_of_parts (laidMet_of_run' 8 (by kernel_rfl) (by kernel_rfl)) (by kernel_rfl)
end Go.Proofs.YthpldolmpinnhaaGreatDoor
