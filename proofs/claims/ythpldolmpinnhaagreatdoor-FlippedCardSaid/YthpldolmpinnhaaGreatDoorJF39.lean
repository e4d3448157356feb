import Derived.Test.YthpldolmpinnhaaGreatDoorJF38
import Derived.Deep.LoopGhost
import Derived.WalkMore
import Derived.Defers
import Derived.Recover
import Derived.Maps.Own
import Derived.Maps.Views
set_option maxHeartbeats 64000000
open Go.Lib renaming hid→z7,hasPrefix→zv,trimPrefix→zU,encodeRune→zG,idxFromS→yy
open Nat renaming le_refl→z8,le_trans→zX,zero_le→zV,zero_add→zM,not_lt_zero→yb
open List renaming length_append→zy,length_cons→zu,isPrefixOf→zj,take_succ_eq_append_getElem→zf,length_nil→zY,all_append→zQ,length_drop→zD,mem_append→zN,takeWhile_cons_of_pos→zP,takeWhile_cons_of_neg→zR,getElem?_append_right→zS,mem_of_find?_eq_some→za,getElem_append_right→zc,getElem?_append_left→ze,drop_eq_getElem_cons→zi,mem_cons→zn,getElem_append_left→zo,drop_of_length_le→zw,find?_append→yj,mem_filter→yf
open Go.World renaming block_lt_of_cell?→zx,cell?_alloc_lt→zZ,setCell→zF,cell?_setCell_same→zW,frozen?_of_block→zt,ownsRow_nil→yk
open Go.RowKit.Below renaming refl→zk,heap_setCell→yq,heap_alloc→yg
open Bool renaming and_eq_true→zg
open Go.WideMaps renaming keyOf_string_mk→zJ
open Go.Instr renaming index→zE,makeFunc→yd
open ByteArray renaming getElem_eq_getElem_data→zH,empty→zI
open Go.Maps renaming string_keyed→zL,atKey_put_other→yx
open Option renaming isSome_iff_exists→zO
open Int renaming tmod_eq_emod_of_nonneg→zl
open Go.Op renaming equalIn→zm
open Go.Lib.laidMet renaming reads→zr
open Option.some renaming inj→zh
open And renaming intro→yz
open Go.IntKind renaming wrap_i64→yv,i64→yZ
open Go.DataW renaming trod→yu
open Go.Proofs.Tryz
namespace Go.Proofs.YthpldolmpinnhaaGreatDoor
open Go Go.RowKit
set_option maxRecDepth 10000
theorem WC(s:ByteArray)(w:World)(hs:s.size<=1000000) :
  Calls prog 66 #[.string s,.string ⟨#[64]⟩] w fun e w' =>
   e = .returned (.tuple #[.string ⟨(s.data.toList.take (s.data.toList.idxOf 64)).toArray⟩,.string ⟨(s.data.toList.drop (s.data.toList.idxOf 64+1)).toArray⟩,.bool (decide (s.data.toList.idxOf 64<s.size))])/\∃ n,w'=w.drewN n:=by
 have hL:=fun w=>J0 s 64 w hs
 have HL:=z7 hL;clear hL;go_enter func66,ntmps66;go_wp2_with fail;refine(HL.out _).mono ?_;rintro e w' ⟨rfl,n,rfl⟩;go_wp2;go_ret3
 exact⟨rfl,n,rfl⟩
abbrev sH:Ending := .panicked [{ v := .iface 278 (.agg #[]),recovered:=false }]
def yl2(r:Option (List Wd))(w:World)(e:Ending)(w':World):Prop :=
 (match r with|none=>e=sH|some ws=>∃ v,e = .returned v/\w'.ownsRow w.heap.size 9 1 v ws.length (ws.map xk))/\Below w.heap.size w w'
def zfv(r:Option (List Wd))(n0:Nat)(w:World)(s sv:Value)(n:Nat)(wr:World):Prop :=
 ∃ (acc:List Wd) (l:List UInt8),s = .string ⟨l.toArray⟩/\wr.ownsRow w.heap.size 9 1 sv acc.length (acc.map xk)/\Below w.heap.size w wr/\l.length<n/\l.length+acc.length<=n0/\jP n acc l=r
theorem Yu{l m:List UInt8}(h:zv l m=false):zU l m=l:=by
 unfold zU;simp[h]
theorem V2{c:UInt8}{t m:List UInt8}(hm:m=[33,61]\/m=[46,46]\/m=[61]\/m=[44]\/m=[37])(h:zv (c::t) m=true):Gr (c::t)=some m/\zU (c::t) m=(c::t).drop m.length:=by
 have ht:zU (c::t) m=(c::t).drop m.length:=by unfold zU;rw[if_pos h]
 refine⟨?_,ht⟩;unfold zv at h;rcases hm with rfl|rfl|rfl|rfl|rfl
 ·cases t with
  | nil=>simp[zj] at h
  | cons d u =>
   simp[zj] at h;obtain⟨rfl,rfl⟩:=h;rfl
 ·cases t with
  | nil=>simp[zj] at h
  | cons d u =>
   simp[zj] at h;obtain⟨rfl,rfl⟩:=h;rfl
 ·simp[zj] at h;subst h;rfl
 ·simp[zj] at h;subst h;rfl
 ·simp[zj] at h;subst h;rfl
theorem WE{c:UInt8}{t:List UInt8}(h0:zv (c::t) [33,61]=false)(h1:zv (c::t) [46,46]=false)(h2:zv (c::t) [61]=false)(h3:zv (c::t) [44]=false)(h4:zv (c::t) [37]=false):Gr (c::t)=none:=by
 unfold Gr;split
 ·rename_i u e;cases e;simp[zv,zj] at h0
 ·rename_i u e;cases e;simp[zv,zj] at h1
 ·rename_i u e;cases e;simp[zv,zj] at h2
 ·rename_i u e;cases e;simp[zv,zj] at h3
 ·rename_i u e;cases e;simp[zv,zj] at h4
 ·rfl
theorem Yn{p:UInt8->Bool}:∀ {t:List UInt8} {m:Nat},m<=t.length->(t.take m).all p=true->(∀ h:m<t.length,p t[m]=false)->t.takeWhile p=t.take m/\t.dropWhile p=t.drop m
 | [],0,_,_,_=>⟨rfl,rfl⟩
 | [],m+1,h,_,_=>absurd h (by simp)
 | c::t,0,_,_,h=>by
  have:=h (by simp);have hc:p c=false:=by simpa using this
  rw[zR (by simp[hc]),List.dropWhile_cons_of_neg (by simp[hc])];exact⟨rfl,rfl⟩
 | c::t,m+1,hm,ha,h=>by
  simp only[List.take_succ_cons,List.all_cons,zg] at ha;have ih:=Yn (t:=t) (m:=m) (by simpa using hm) ha.2 (fun hl=>by have:=h (by simp;omega);simpa using this);rw[zP ha.1,List.dropWhile_cons_of_pos ha.1,ih.1,ih.2];exact⟨rfl,rfl⟩
theorem Mj(c:UInt8):xC c<=3:=by
 unfold xC;split
 ·decide
 split
 ·decide
 split<;>decide
theorem PV(s:ByteArray)(w:World)(hs:s.size<=1000):Calls prog 140 #[.string s] w (yl2 (Ok s.data.toList) w):=by
 obtain⟨r,hr⟩:=xX (Ok s.data.toList);rw[hr];have Ai:(s.data.toList.take (s.data.toList.idxOf 64)).length<=s.size:=by simp;omega
 unfold Ok at hr;rw[xA] at hr;obtain⟨l0,hl⟩:=xX (s.data.toList.take (s.data.toList.idxOf 64));have hC:=WC s w (by omega);rw[hl] at hr Ai hC;have HR:=z7 hr;have HC:=z7 hC;have U4:∀ (s p:ByteArray) (W:World),Calls prog 65 #[.string s,.string p] W fun e w'=>e = .returned (.tuple #[.string ⟨(zU s.data.toList p.data.toList).toArray⟩,.bool (zv s.data.toList p.data.toList)])/\W=w':=fun s p W=>(Tryz.strings_CutPrefix s p W).mono fun _ _ h=>⟨h.1,h.2.symm⟩
 have BK:=z7 U4;clear hr hl hC U4;have zo8:∀ W:World,(zE 303 (.agg #[.string ⟨#[33,61]⟩,.string ⟨#[46,46]⟩,.string ⟨#[61]⟩,.string ⟨#[44]⟩,.string ⟨#[37]⟩]) (.int .i64 0)).run prog W = .ok (.string ⟨#[33,61]⟩) W:=fun W=>by kernel_rfl
 have zo9:∀ W:World,(zE 303 (.agg #[.string ⟨#[33,61]⟩,.string ⟨#[46,46]⟩,.string ⟨#[61]⟩,.string ⟨#[44]⟩,.string ⟨#[37]⟩]) (.int .i64 1)).run prog W = .ok (.string ⟨#[46,46]⟩) W:=fun W=>by kernel_rfl
 have zoz:∀ W:World,(zE 303 (.agg #[.string ⟨#[33,61]⟩,.string ⟨#[46,46]⟩,.string ⟨#[61]⟩,.string ⟨#[44]⟩,.string ⟨#[37]⟩]) (.int .i64 2)).run prog W = .ok (.string ⟨#[61]⟩) W:=fun W=>by kernel_rfl
 have yl3:∀ W:World,(zE 303 (.agg #[.string ⟨#[33,61]⟩,.string ⟨#[46,46]⟩,.string ⟨#[61]⟩,.string ⟨#[44]⟩,.string ⟨#[37]⟩]) (.int .i64 3)).run prog W = .ok (.string ⟨#[44]⟩) W:=fun W=>by kernel_rfl
 have yl4:∀ W:World,(zE 303 (.agg #[.string ⟨#[33,61]⟩,.string ⟨#[46,46]⟩,.string ⟨#[61]⟩,.string ⟨#[44]⟩,.string ⟨#[37]⟩]) (.int .i64 4)).run prog W = .ok (.string ⟨#[37]⟩) W:=fun W=>by kernel_rfl
 go_enter func140,ntmps140;go_wp2_with fail;go_step3
 go_wp2_with fail;refine HC.out.mono ?_;rintro e w1 ⟨rfl,nd,rfl⟩;go_wp2_with fail;go_step3
 go_wp2_with fail;go_loopg [0,2] (s.size+1) (fun n sl sv wr=>zfv r s.size w sl sv n wr)
 case atStart=>exact⟨[],l0,rfl,yk _ _ _ _,below_drewN (zk _ _) nd,by omega,by simp;omega,HR.out⟩
 case round =>
  obtain⟨acc,l,rfl,xV,hb,kS,BU,jM⟩:=hrel;obtain⟨a,cap,rfl⟩:=xd xV;have HO:=z7 xV;have HG:=z7 jM;obtain⟨n,rfl⟩:∃ n,gk=n+1:=⟨gk - 1,by omega⟩;clear xV jM
  cases l with
  | nil =>
   have hg:r=some acc:=by rw[←HG.out,jP]
   have HGG:=z7 hg;clear hg;go_wp2;try rw[Exit.noGoto_ret]
   go_ret;rw[HGG.out];exact⟨⟨_,rfl,HO.out⟩,hb⟩
  | cons c t =>
   have qP:=size_mk (c::t);obtain⟨u,hu⟩:∃ u:ByteArray,u=⟨(c::t).toArray⟩:=⟨_,rfl⟩;have hud:u.data.toList=c::t:=by rw[hu]
   rw[←hu] at qP ⊢;have HU:=z7 hu;have Mg:=z7 hud;have jm:(0:Int)<(u.size:Int):=by rw[qP];simp
   have du:=z7 qP;clear hu hud;have xD:t.length+1<=s.size:=by have h1:=BU;simp at h1;omega
   clear qP;have P0:=BK.out u ⟨#[33,61]⟩;have P1:=BK.out u ⟨#[46,46]⟩;have P2:=BK.out u ⟨#[61]⟩;have P3:=BK.out u ⟨#[44]⟩;have P4:=BK.out u ⟨#[37]⟩;rw[Mg.out] at P0;rw[Mg.out] at P1;rw[Mg.out] at P2;rw[Mg.out] at P3;rw[Mg.out] at P4
   cases q0:zv (c::t) (⟨#[33,61]⟩:ByteArray).data.toList
   ·skip
    rw[q0,Yu q0] at P0;have o6:=z7 P0;have Q0:=z7 q0;clear P0 q0
    cases q1:zv (c::t) (⟨#[46,46]⟩:ByteArray).data.toList
    ·skip
     rw[q1,Yu q1] at P1;have Kw:=z7 P1;have Q1:=z7 q1;clear P1 q1
     cases q2:zv (c::t) (⟨#[61]⟩:ByteArray).data.toList
     ·skip
      rw[q2,Yu q2] at P2;have Ff:=z7 P2;have Q2:=z7 q2;clear P2 q2
      cases q3:zv (c::t) (⟨#[44]⟩:ByteArray).data.toList
      ·skip
       rw[q3,Yu q3] at P3;have lj:=z7 P3;have Q3:=z7 q3;clear P3 q3
       cases q4:zv (c::t) (⟨#[37]⟩:ByteArray).data.toList
       ·skip
        rw[q4,Yu q4] at P4;have M9:=z7 P4;have Q4:=z7 q4;clear P4 q4;have Mf:=WE Q0.out Q1.out Q2.out Q3.out Q4.out;have jM:=HG.out;rw[jP,Mf] at jM;have b8:=z7 jM;clear jM Mf;go_wp2_with fail;refine wp_loop_rounds 6 ?_;rw[rounds_succ];go_wp2_with fail;refine(o6.out _).mono ?_;rintro e wz0 ⟨rfl,rfl⟩;go_wp2_with fail;rw[rounds_succ];go_wp2_with fail;refine(Kw.out _).mono ?_;rintro e wz1 ⟨rfl,rfl⟩;go_wp2_with fail;rw[rounds_succ];go_wp2_with fail;refine(Ff.out _).mono ?_;rintro e wz2 ⟨rfl,rfl⟩;go_wp2_with fail;rw[rounds_succ];go_wp2_with fail;refine(lj.out _).mono ?_;rintro e wz3 ⟨rfl,rfl⟩;go_wp2_with fail;rw[rounds_succ];go_wp2_with fail;refine(M9.out _).mono ?_;rintro e wz4 ⟨rfl,rfl⟩;go_wp2_with fail;rw[rounds_succ];have bV:=fun W=>fS c W
        have A1:u[0]'(by omega)=c:=by
         have h1:=HU.out;subst h1;simp[zH]
        go_wp2_with fail;have AZ:=z7 bV;have HG0:=z7 A1;clear bV A1;have hk3:=Mj c;have hKc:=(by omega:xC c=0\/xC c=1\/xC c=2\/xC c=3);have Kv:u.size=t.length+1:=du.out;have hux:∀ m (h:m<t.length) (h2:m+1<u.size),u[m+1]=t[m]:=fun m h h2=>by
         have h1:=HU.out;subst h1;simp[zH]
        have HUX:=z7 hux;have JP:=AZ.out wr;clear zo8 zo9 zoz yl3 yl4 hux hk3 Kv jm;rcases hKc with hK|hK|hK|hK
        ·skip
         rw[hK] at JP;refine JP.mono ?_;rintro e w3 ⟨rfl,rfl⟩;have HK:=z7 hK;clear hK JP;go_wp2_with fail;go_loop [7] (fun v=>∃ m:Nat,m<=t.length/\v = .int .i64 ((m+1:Nat):Int)/\(t.take m).all (fun d=>xC d==xC c)=true) (fun v=>t.length+1 - (intOf v).toNat)
         case atStart=>exact⟨0,zV _,rfl,rfl⟩
         case round =>
          obtain⟨m,hm,rfl,qY⟩:=hrel;have XW:=z7 qY;clear qY;by_cases Ep:m<t.length
          ·have b1:m+1<u.size:=by have Qn:u.size=t.length+1:=du.out;omega
           have hum:=HUX.out m Ep b1;have b2:(m:Int)+1<(u.size:Int):=by omega
           have b3:m+1<=u.size:=by omega
           have jy:=fS t[m] wr;obtain⟨K2,Hk⟩:=xX (xC t[m]);rw[Hk] at jy;have HCM:=z7 jy;have Th:=z7 Hk;clear jy Hk;go_wp2_with fail;refine HCM.out.mono ?_;rintro e w4 ⟨rfl,rfl⟩;by_cases hq:K2=0
           ·have hq':((K2:Int)==0)=true:=by rw[hq];rfl
            have KC:(t.take (m+1)).all (fun d=>xC d==xC c)=true:=by
             rw[zf Ep,zQ,XW.out];simp[Th.out,HK.out,hq]
            have PU:=z7 KC;clear hq KC;go_wp2;exact⟨⟨m+1,by omega,by go_num,PU.out⟩,by simp[intOf];omega⟩
           ·have hq':((K2:Int)==0)=false:=by simp;omega
            have vF:=Yn (p:=fun d=>xC d==xC c) hm XW.out (fun h=>by simp[Th.out,HK.out,hq]);have fg:=z7 vF;clear vF hq;have vv:r=none:=by rw[←b8.out,if_pos HK.out]
            have gX:=z7 vv;clear vv;go_wp2;refine⟨rfl,?_,hb⟩;rw[gX.out]
          ·have vF:=Yn (p:=fun d=>xC d==xC c) hm XW.out (fun h=>absurd h Ep);have fg:=z7 vF;have b2:¬((m:Int)+1<(u.size:Int)):=by have Qn:u.size=t.length+1:=du.out;omega
           have b1:¬(m+1<u.size):=by omega
           have b3:m+1<=u.size:=by have Qn:u.size=t.length+1:=du.out;omega
           clear vF Ep;have vv:r=none:=by rw[←b8.out,if_pos HK.out]
           have gX:=z7 vv;clear vv;go_wp2;refine⟨rfl,?_,hb⟩;rw[gX.out]
        ·skip
         rw[hK] at JP;refine JP.mono ?_;rintro e w3 ⟨rfl,rfl⟩;have HK:=z7 hK;clear hK JP;go_wp2_with fail;go_loop [7] (fun v=>∃ m:Nat,m<=t.length/\v = .int .i64 ((m+1:Nat):Int)/\(t.take m).all (fun d=>xC d==xC c)=true) (fun v=>t.length+1 - (intOf v).toNat)
         case atStart=>exact⟨0,zV _,rfl,rfl⟩
         case round =>
          obtain⟨m,hm,rfl,qY⟩:=hrel;have XW:=z7 qY;clear qY;by_cases Ep:m<t.length
          ·have b1:m+1<u.size:=by have Qn:u.size=t.length+1:=du.out;omega
           have hum:=HUX.out m Ep b1;have b2:(m:Int)+1<(u.size:Int):=by omega
           have b3:m+1<=u.size:=by omega
           have jy:=fS t[m] wr;obtain⟨K2,Hk⟩:=xX (xC t[m]);rw[Hk] at jy;have HCM:=z7 jy;have Th:=z7 Hk;clear jy Hk;go_wp2_with fail;refine HCM.out.mono ?_;rintro e w4 ⟨rfl,rfl⟩;by_cases hq:K2=1
           ·have hq':((K2:Int)==1)=true:=by rw[hq];rfl
            have KC:(t.take (m+1)).all (fun d=>xC d==xC c)=true:=by
             rw[zf Ep,zQ,XW.out];simp[Th.out,HK.out,hq]
            have PU:=z7 KC;clear hq KC;go_wp2;exact⟨⟨m+1,by omega,by go_num,PU.out⟩,by simp[intOf];omega⟩
           ·have hq':((K2:Int)==1)=false:=by simp;omega
            have vF:=Yn (p:=fun d=>xC d==xC c) hm XW.out (fun h=>by simp[Th.out,HK.out,hq]);have fg:=z7 vF;clear vF hq;have V3:jP n acc (t.drop m)=r:=by
             have h1:=b8.out;rw[if_neg (by rw[HK.out];decide),fg.out.1,fg.out.2] at h1;rw[if_pos HK.out] at h1;exact h1
            have VS:=z7 V3;have qg:u.extract (m+1) u.size=⟨(t.drop m).toArray⟩:=by rw[qB,Mg.out];rfl
            have dH:u.extract 0 (m+1)=⟨(c::t.take m).toArray⟩:=by rw[qD,Mg.out];rfl
            have lH:=z7 dH;have TJ:=z7 qg;clear V3 dH qg;go_wp2;rw[TJ.out];go_roundg n
            case measure=>omega
            case rel=>exact⟨acc,t.drop m,rfl,HO.out,hb,by simp at kS ⊢;omega,by simp at BU ⊢;omega,VS.out⟩
          ·have vF:=Yn (p:=fun d=>xC d==xC c) hm XW.out (fun h=>absurd h Ep);have fg:=z7 vF;have b2:¬((m:Int)+1<(u.size:Int)):=by have Qn:u.size=t.length+1:=du.out;omega
           have b1:¬(m+1<u.size):=by omega
           have b3:m+1<=u.size:=by have Qn:u.size=t.length+1:=du.out;omega
           clear vF Ep;have V3:jP n acc (t.drop m)=r:=by
            have h1:=b8.out;rw[if_neg (by rw[HK.out];decide),fg.out.1,fg.out.2] at h1;rw[if_pos HK.out] at h1;exact h1
           have VS:=z7 V3;have qg:u.extract (m+1) u.size=⟨(t.drop m).toArray⟩:=by rw[qB,Mg.out];rfl
           have dH:u.extract 0 (m+1)=⟨(c::t.take m).toArray⟩:=by rw[qD,Mg.out];rfl
           have lH:=z7 dH;have TJ:=z7 qg;clear V3 dH qg;go_wp2;rw[TJ.out];go_roundg n
           case measure=>omega
           case rel=>exact⟨acc,t.drop m,rfl,HO.out,hb,by simp at kS ⊢;omega,by simp at BU ⊢;omega,VS.out⟩
        ·skip
         rw[hK] at JP;refine JP.mono ?_;rintro e w3 ⟨rfl,rfl⟩;have HK:=z7 hK;clear hK JP;go_wp2_with fail;go_loop [7] (fun v=>∃ m:Nat,m<=t.length/\v = .int .i64 ((m+1:Nat):Int)/\(t.take m).all (fun d=>xC d==xC c)=true) (fun v=>t.length+1 - (intOf v).toNat)
         case atStart=>exact⟨0,zV _,rfl,rfl⟩
         case round =>
          obtain⟨m,hm,rfl,qY⟩:=hrel;have XW:=z7 qY;clear qY;by_cases Ep:m<t.length
          ·have b1:m+1<u.size:=by have Qn:u.size=t.length+1:=du.out;omega
           have hum:=HUX.out m Ep b1;have b2:(m:Int)+1<(u.size:Int):=by omega
           have b3:m+1<=u.size:=by omega
           have jy:=fS t[m] wr;obtain⟨K2,Hk⟩:=xX (xC t[m]);rw[Hk] at jy;have HCM:=z7 jy;have Th:=z7 Hk;clear jy Hk;go_wp2_with fail;refine HCM.out.mono ?_;rintro e w4 ⟨rfl,rfl⟩;by_cases hq:K2=2
           ·have hq':((K2:Int)==2)=true:=by rw[hq];rfl
            have KC:(t.take (m+1)).all (fun d=>xC d==xC c)=true:=by
             rw[zf Ep,zQ,XW.out];simp[Th.out,HK.out,hq]
            have PU:=z7 KC;clear hq KC;go_wp2;exact⟨⟨m+1,by omega,by go_num,PU.out⟩,by simp[intOf];omega⟩
           ·have hq':((K2:Int)==2)=false:=by simp;omega
            have vF:=Yn (p:=fun d=>xC d==xC c) hm XW.out (fun h=>by simp[Th.out,HK.out,hq]);have fg:=z7 vF;clear vF hq;have V3:jP n (acc++[c::t.take m]) (t.drop m)=r:=by
             have h1:=b8.out;rw[if_neg (by rw[HK.out];decide),fg.out.1,fg.out.2] at h1;rw[if_neg (by rw[HK.out];decide)] at h1;exact h1
            have VS:=z7 V3;have qg:u.extract (m+1) u.size=⟨(t.drop m).toArray⟩:=by rw[qB,Mg.out];rfl
            have dH:u.extract 0 (m+1)=⟨(c::t.take m).toArray⟩:=by rw[qD,Mg.out];rfl
            have lH:=z7 dH;have TJ:=z7 qg;clear V3 dH qg;go_wp2_with (at_builtin;refine qj kP rfl _ _ rfl w.heap.size _ _ _ rfl (HO.out.alloc _) ⟨wr.heap.size,0,none⟩ 1 1 [.string (u.extract 0 (m+1))] rfl rfl ?c1x2 ?c2x2 ?c3x2 ?c4x2 ?_);try(case c1x2=>exact cells_one (xu _ _ _ _ _))
            try(case c2x2=>first|rfl|(intro x hx;simp at hx;subst hx;rfl))
            try(case c3x2=>omega)
            try(case c4x2=>have:=hb.size;simp;omega)
            intro QQ w5 jW qc;have ju:Below w.heap.size w w5:=(hb.alloc hb.size _).grown qc (by have:=hb.size;simp;omega) (fun q hq=>(HO.out.lt q hq).1);obtain⟨a5,c5,rfl⟩:=xd jW;rw[lH.out] at jW;have GZ:=z7 jW;clear jW qc;go_wp2;rw[TJ.out];go_roundg n
            case measure=>omega
            case rel=>exact⟨acc++[c::t.take m],t.drop m,rfl,by simpa using GZ.out,ju,by simp at kS ⊢;omega,by simp at BU;simp only[zy,zu,zY,zD];omega,VS.out⟩
          ·have vF:=Yn (p:=fun d=>xC d==xC c) hm XW.out (fun h=>absurd h Ep);have fg:=z7 vF;have b2:¬((m:Int)+1<(u.size:Int)):=by have Qn:u.size=t.length+1:=du.out;omega
           have b1:¬(m+1<u.size):=by omega
           have b3:m+1<=u.size:=by have Qn:u.size=t.length+1:=du.out;omega
           clear vF Ep;have V3:jP n (acc++[c::t.take m]) (t.drop m)=r:=by
            have h1:=b8.out;rw[if_neg (by rw[HK.out];decide),fg.out.1,fg.out.2] at h1;rw[if_neg (by rw[HK.out];decide)] at h1;exact h1
           have VS:=z7 V3;have qg:u.extract (m+1) u.size=⟨(t.drop m).toArray⟩:=by rw[qB,Mg.out];rfl
           have dH:u.extract 0 (m+1)=⟨(c::t.take m).toArray⟩:=by rw[qD,Mg.out];rfl
           have lH:=z7 dH;have TJ:=z7 qg;clear V3 dH qg;go_wp2_with (at_builtin;refine qj kP rfl _ _ rfl w.heap.size _ _ _ rfl (HO.out.alloc _) ⟨wr.heap.size,0,none⟩ 1 1 [.string (u.extract 0 (m+1))] rfl rfl ?c1x3 ?c2x3 ?c3x3 ?c4x3 ?_);try(case c1x3=>exact cells_one (xu _ _ _ _ _))
           try(case c2x3=>first|rfl|(intro x hx;simp at hx;subst hx;rfl))
           try(case c3x3=>omega)
           try(case c4x3=>have:=hb.size;simp;omega)
           intro QQ w5 jW qc;have ju:Below w.heap.size w w5:=(hb.alloc hb.size _).grown qc (by have:=hb.size;simp;omega) (fun q hq=>(HO.out.lt q hq).1);obtain⟨a5,c5,rfl⟩:=xd jW;rw[lH.out] at jW;have GZ:=z7 jW;clear jW qc;go_wp2;rw[TJ.out];go_roundg n
           case measure=>omega
           case rel=>exact⟨acc++[c::t.take m],t.drop m,rfl,by simpa using GZ.out,ju,by simp at kS ⊢;omega,by simp at BU;simp only[zy,zu,zY,zD];omega,VS.out⟩
        ·skip
         rw[hK] at JP;refine JP.mono ?_;rintro e w3 ⟨rfl,rfl⟩;have HK:=z7 hK;clear hK JP;go_wp2_with fail;go_loop [7] (fun v=>∃ m:Nat,m<=t.length/\v = .int .i64 ((m+1:Nat):Int)/\(t.take m).all (fun d=>xC d==xC c)=true) (fun v=>t.length+1 - (intOf v).toNat)
         case atStart=>exact⟨0,zV _,rfl,rfl⟩
         case round =>
          obtain⟨m,hm,rfl,qY⟩:=hrel;have XW:=z7 qY;clear qY;by_cases Ep:m<t.length
          ·have b1:m+1<u.size:=by have Qn:u.size=t.length+1:=du.out;omega
           have hum:=HUX.out m Ep b1;have b2:(m:Int)+1<(u.size:Int):=by omega
           have b3:m+1<=u.size:=by omega
           have jy:=fS t[m] wr;obtain⟨K2,Hk⟩:=xX (xC t[m]);rw[Hk] at jy;have HCM:=z7 jy;have Th:=z7 Hk;clear jy Hk;go_wp2_with fail;refine HCM.out.mono ?_;rintro e w4 ⟨rfl,rfl⟩;by_cases hq:K2=3
           ·have hq':((K2:Int)==3)=true:=by rw[hq];rfl
            have KC:(t.take (m+1)).all (fun d=>xC d==xC c)=true:=by
             rw[zf Ep,zQ,XW.out];simp[Th.out,HK.out,hq]
            have PU:=z7 KC;clear hq KC;go_wp2;exact⟨⟨m+1,by omega,by go_num,PU.out⟩,by simp[intOf];omega⟩
           ·have hq':((K2:Int)==3)=false:=by simp;omega
            have vF:=Yn (p:=fun d=>xC d==xC c) hm XW.out (fun h=>by simp[Th.out,HK.out,hq]);have fg:=z7 vF;clear vF hq;have V3:jP n (acc++[c::t.take m]) (t.drop m)=r:=by
             have h1:=b8.out;rw[if_neg (by rw[HK.out];decide),fg.out.1,fg.out.2] at h1;rw[if_neg (by rw[HK.out];decide)] at h1;exact h1
            have VS:=z7 V3;have qg:u.extract (m+1) u.size=⟨(t.drop m).toArray⟩:=by rw[qB,Mg.out];rfl
            have dH:u.extract 0 (m+1)=⟨(c::t.take m).toArray⟩:=by rw[qD,Mg.out];rfl
            have lH:=z7 dH;have TJ:=z7 qg;clear V3 dH qg;go_wp2_with (at_builtin;refine qj kP rfl _ _ rfl w.heap.size _ _ _ rfl (HO.out.alloc _) ⟨wr.heap.size,0,none⟩ 1 1 [.string (u.extract 0 (m+1))] rfl rfl ?c1x4 ?c2x4 ?c3x4 ?c4x4 ?_);try(case c1x4=>exact cells_one (xu _ _ _ _ _))
            try(case c2x4=>first|rfl|(intro x hx;simp at hx;subst hx;rfl))
            try(case c3x4=>omega)
            try(case c4x4=>have:=hb.size;simp;omega)
            intro QQ w5 jW qc;have ju:Below w.heap.size w w5:=(hb.alloc hb.size _).grown qc (by have:=hb.size;simp;omega) (fun q hq=>(HO.out.lt q hq).1);obtain⟨a5,c5,rfl⟩:=xd jW;rw[lH.out] at jW;have GZ:=z7 jW;clear jW qc;go_wp2;rw[TJ.out];go_roundg n
            case measure=>omega
            case rel=>exact⟨acc++[c::t.take m],t.drop m,rfl,by simpa using GZ.out,ju,by simp at kS ⊢;omega,by simp at BU;simp only[zy,zu,zY,zD];omega,VS.out⟩
          ·have vF:=Yn (p:=fun d=>xC d==xC c) hm XW.out (fun h=>absurd h Ep);have fg:=z7 vF;have b2:¬((m:Int)+1<(u.size:Int)):=by have Qn:u.size=t.length+1:=du.out;omega
           have b1:¬(m+1<u.size):=by omega
           have b3:m+1<=u.size:=by have Qn:u.size=t.length+1:=du.out;omega
           clear vF Ep;have V3:jP n (acc++[c::t.take m]) (t.drop m)=r:=by
            have h1:=b8.out;rw[if_neg (by rw[HK.out];decide),fg.out.1,fg.out.2] at h1;rw[if_neg (by rw[HK.out];decide)] at h1;exact h1
           have VS:=z7 V3;have qg:u.extract (m+1) u.size=⟨(t.drop m).toArray⟩:=by rw[qB,Mg.out];rfl
           have dH:u.extract 0 (m+1)=⟨(c::t.take m).toArray⟩:=by rw[qD,Mg.out];rfl
           have lH:=z7 dH;have TJ:=z7 qg;clear V3 dH qg;go_wp2_with (at_builtin;refine qj kP rfl _ _ rfl w.heap.size _ _ _ rfl (HO.out.alloc _) ⟨wr.heap.size,0,none⟩ 1 1 [.string (u.extract 0 (m+1))] rfl rfl ?c1x5 ?c2x5 ?c3x5 ?c4x5 ?_);try(case c1x5=>exact cells_one (xu _ _ _ _ _))
           try(case c2x5=>first|rfl|(intro x hx;simp at hx;subst hx;rfl))
           try(case c3x5=>omega)
           try(case c4x5=>have:=hb.size;simp;omega)
           intro QQ w5 jW qc;have ju:Below w.heap.size w w5:=(hb.alloc hb.size _).grown qc (by have:=hb.size;simp;omega) (fun q hq=>(HO.out.lt q hq).1);obtain⟨a5,c5,rfl⟩:=xd jW;rw[lH.out] at jW;have GZ:=z7 jW;clear jW qc;go_wp2;rw[TJ.out];go_roundg n
           case measure=>omega
           case rel=>exact⟨acc++[c::t.take m],t.drop m,rfl,by simpa using GZ.out,ju,by simp at kS ⊢;omega,by simp at BU;simp only[zy,zu,zY,zD];omega,VS.out⟩
       ·skip
        obtain⟨Mf,Rs⟩:=V2 (by simp) q4;rw[q4,Rs] at P4;have M9:=Lib.hid P4;have jM:=HG.out;rw[jP,Mf] at jM;have b8:=Lib.hid jM;have uO:((c::t).drop ([37]:List UInt8).length).length<=t.length:=by simp
        have LP:=z7 uO;clear q4 Mf Rs jM uO P4;go_wp2_with fail;refine wp_loop_rounds 6 ?_;rw[rounds_succ];go_wp2_with fail;refine(o6.out _).mono ?_;rintro e wz0 ⟨rfl,rfl⟩;go_wp2_with fail;rw[rounds_succ];go_wp2_with fail;refine(Kw.out _).mono ?_;rintro e wz1 ⟨rfl,rfl⟩;go_wp2_with fail;rw[rounds_succ];go_wp2_with fail;refine(Ff.out _).mono ?_;rintro e wz2 ⟨rfl,rfl⟩;go_wp2_with fail;rw[rounds_succ];go_wp2_with fail;refine(lj.out _).mono ?_;rintro e wz3 ⟨rfl,rfl⟩;go_wp2_with fail;rw[rounds_succ];go_wp2_with fail;refine(M9.out _).mono ?_;rintro e wz4 ⟨rfl,rfl⟩;go_wp2_with (at_builtin;refine qj kP rfl _ _ rfl w.heap.size _ _ _ rfl (HO.out.alloc _) ⟨wr.heap.size,0,none⟩ 1 1 [xk [37]] rfl rfl ?c1x6 ?c2x6 ?c3x6 ?c4x6 ?_);try(case c1x6=>exact cells_one (xu _ _ _ _ _))
        try(case c2x6=>first|rfl|(intro u hu;simp at hu;subst hu;rfl))
        try(case c3x6=>omega)
        try(case c4x6=>have:=hb.size;simp;omega)
        intro QQ w5 jW qc;have ju:Below w.heap.size w w5:=(hb.alloc hb.size _).grown qc (by have:=hb.size;simp;omega) (fun q hq=>(HO.out.lt q hq).1);obtain⟨a5,c5,rfl⟩:=xd jW;have GZ:=z7 jW;clear jW qc;go_wp2;go_roundg n
        case measure=>omega
        case rel=>exact⟨acc++[[37]],_,rfl,by simpa using GZ.out,ju,by first|(have:=LP.out;simp at kS;omega)|(simp at kS ⊢;omega)|(simp at kS ⊢;exact kS),by first|(have:=LP.out;simp at BU;simp only[zy,zu,zY];omega)|(simp at BU ⊢;omega),by first|exact b8.out|simpa using b8.out⟩
      ·skip
       obtain⟨Mf,Rs⟩:=V2 (by simp) q3;rw[q3,Rs] at P3;have lj:=Lib.hid P3;have jM:=HG.out;rw[jP,Mf] at jM;have b8:=Lib.hid jM;have uO:((c::t).drop ([44]:List UInt8).length).length<=t.length:=by simp
       have LP:=z7 uO;clear q3 Mf Rs jM uO P3 P4;go_wp2_with fail;refine wp_loop_rounds 6 ?_;rw[rounds_succ];go_wp2_with fail;refine(o6.out _).mono ?_;rintro e wz0 ⟨rfl,rfl⟩;go_wp2_with fail;rw[rounds_succ];go_wp2_with fail;refine(Kw.out _).mono ?_;rintro e wz1 ⟨rfl,rfl⟩;go_wp2_with fail;rw[rounds_succ];go_wp2_with fail;refine(Ff.out _).mono ?_;rintro e wz2 ⟨rfl,rfl⟩;go_wp2_with fail;rw[rounds_succ];go_wp2_with fail;refine(lj.out _).mono ?_;rintro e wz3 ⟨rfl,rfl⟩;go_wp2_with (at_builtin;refine qj kP rfl _ _ rfl w.heap.size _ _ _ rfl (HO.out.alloc _) ⟨wr.heap.size,0,none⟩ 1 1 [xk [44]] rfl rfl ?c1x7 ?c2x7 ?c3x7 ?c4x7 ?_);try(case c1x7=>exact cells_one (xu _ _ _ _ _))
       try(case c2x7=>first|rfl|(intro u hu;simp at hu;subst hu;rfl))
       try(case c3x7=>omega)
       try(case c4x7=>have:=hb.size;simp;omega)
       intro QQ w5 jW qc;have ju:Below w.heap.size w w5:=(hb.alloc hb.size _).grown qc (by have:=hb.size;simp;omega) (fun q hq=>(HO.out.lt q hq).1);obtain⟨a5,c5,rfl⟩:=xd jW;have GZ:=z7 jW;clear jW qc;go_wp2;go_roundg n
       case measure=>omega
       case rel=>exact⟨acc++[[44]],_,rfl,by simpa using GZ.out,ju,by first|(have:=LP.out;simp at kS;omega)|(simp at kS ⊢;omega)|(simp at kS ⊢;exact kS),by first|(have:=LP.out;simp at BU;simp only[zy,zu,zY];omega)|(simp at BU ⊢;omega),by first|exact b8.out|simpa using b8.out⟩
     ·skip
      obtain⟨Mf,Rs⟩:=V2 (by simp) q2;rw[q2,Rs] at P2;have Ff:=Lib.hid P2;have jM:=HG.out;rw[jP,Mf] at jM;have b8:=Lib.hid jM;have uO:((c::t).drop ([61]:List UInt8).length).length<=t.length:=by simp
      have LP:=z7 uO;clear q2 Mf Rs jM uO P2 P3 P4;go_wp2_with fail;refine wp_loop_rounds 6 ?_;rw[rounds_succ];go_wp2_with fail;refine(o6.out _).mono ?_;rintro e wz0 ⟨rfl,rfl⟩;go_wp2_with fail;rw[rounds_succ];go_wp2_with fail;refine(Kw.out _).mono ?_;rintro e wz1 ⟨rfl,rfl⟩;go_wp2_with fail;rw[rounds_succ];go_wp2_with fail;refine(Ff.out _).mono ?_;rintro e wz2 ⟨rfl,rfl⟩;go_wp2_with (at_builtin;refine qj kP rfl _ _ rfl w.heap.size _ _ _ rfl (HO.out.alloc _) ⟨wr.heap.size,0,none⟩ 1 1 [xk [61]] rfl rfl ?c1x8 ?c2x8 ?c3x8 ?c4x8 ?_);try(case c1x8=>exact cells_one (xu _ _ _ _ _))
      try(case c2x8=>first|rfl|(intro u hu;simp at hu;subst hu;rfl))
      try(case c3x8=>omega)
      try(case c4x8=>have:=hb.size;simp;omega)
      intro QQ w5 jW qc;have ju:Below w.heap.size w w5:=(hb.alloc hb.size _).grown qc (by have:=hb.size;simp;omega) (fun q hq=>(HO.out.lt q hq).1);obtain⟨a5,c5,rfl⟩:=xd jW;have GZ:=z7 jW;clear jW qc;go_wp2;go_roundg n
      case measure=>omega
      case rel=>exact⟨acc++[[61]],_,rfl,by simpa using GZ.out,ju,by first|(have:=LP.out;simp at kS;omega)|(simp at kS ⊢;omega)|(simp at kS ⊢;exact kS),by first|(have:=LP.out;simp at BU;simp only[zy,zu,zY];omega)|(simp at BU ⊢;omega),by first|exact b8.out|simpa using b8.out⟩
    ·skip
     obtain⟨Mf,Rs⟩:=V2 (by simp) q1;rw[q1,Rs] at P1;have Kw:=Lib.hid P1;have jM:=HG.out;rw[jP,Mf] at jM;have b8:=Lib.hid jM;have uO:((c::t).drop ([46,46]:List UInt8).length).length<=t.length:=by simp
     have LP:=z7 uO;clear q1 Mf Rs jM uO P1 P2 P3 P4;go_wp2_with fail;refine wp_loop_rounds 6 ?_;rw[rounds_succ];go_wp2_with fail;refine(o6.out _).mono ?_;rintro e wz0 ⟨rfl,rfl⟩;go_wp2_with fail;rw[rounds_succ];go_wp2_with fail;refine(Kw.out _).mono ?_;rintro e wz1 ⟨rfl,rfl⟩;go_wp2_with (at_builtin;refine qj kP rfl _ _ rfl w.heap.size _ _ _ rfl (HO.out.alloc _) ⟨wr.heap.size,0,none⟩ 1 1 [xk [46,46]] rfl rfl ?c1x9 ?c2x9 ?c3x9 ?c4x9 ?_);try(case c1x9=>exact cells_one (xu _ _ _ _ _))
     try(case c2x9=>first|rfl|(intro u hu;simp at hu;subst hu;rfl))
     try(case c3x9=>omega)
     try(case c4x9=>have:=hb.size;simp;omega)
     intro QQ w5 jW qc;have ju:Below w.heap.size w w5:=(hb.alloc hb.size _).grown qc (by have:=hb.size;simp;omega) (fun q hq=>(HO.out.lt q hq).1);obtain⟨a5,c5,rfl⟩:=xd jW;have GZ:=z7 jW;clear jW qc;go_wp2;go_roundg n
     case measure=>omega
     case rel=>exact⟨acc++[[46,46]],_,rfl,by simpa using GZ.out,ju,by first|(have:=LP.out;simp at kS;omega)|(simp at kS ⊢;omega)|(simp at kS ⊢;exact kS),by first|(have:=LP.out;simp at BU;simp only[zy,zu,zY];omega)|(simp at BU ⊢;omega),by first|exact b8.out|simpa using b8.out⟩
   ·skip
    obtain⟨Mf,Rs⟩:=V2 (by simp) q0;rw[q0,Rs] at P0;have o6:=Lib.hid P0;have jM:=HG.out;rw[jP,Mf] at jM;have b8:=Lib.hid jM;have uO:((c::t).drop ([33,61]:List UInt8).length).length<=t.length:=by simp
    have LP:=z7 uO;clear q0 Mf Rs jM uO P0 P1 P2 P3 P4;go_wp2_with fail;refine wp_loop_rounds 6 ?_;rw[rounds_succ];go_wp2_with fail;refine(o6.out _).mono ?_;rintro e wz0 ⟨rfl,rfl⟩;go_wp2_with (at_builtin;refine qj kP rfl _ _ rfl w.heap.size _ _ _ rfl (HO.out.alloc _) ⟨wr.heap.size,0,none⟩ 1 1 [xk [33,61]] rfl rfl ?c1x10 ?c2x10 ?c3x10 ?c4x10 ?_);try(case c1x10=>exact cells_one (xu _ _ _ _ _))
    try(case c2x10=>first|rfl|(intro u hu;simp at hu;subst hu;rfl))
    try(case c3x10=>omega)
    try(case c4x10=>have:=hb.size;simp;omega)
    intro QQ w5 jW qc;have ju:Below w.heap.size w w5:=(hb.alloc hb.size _).grown qc (by have:=hb.size;simp;omega) (fun q hq=>(HO.out.lt q hq).1);obtain⟨a5,c5,rfl⟩:=xd jW;have GZ:=z7 jW;clear jW qc;go_wp2;go_roundg n
    case measure=>omega
    case rel=>exact⟨acc++[[33,61]],_,rfl,by simpa using GZ.out,ju,by first|(have:=LP.out;simp at kS;omega)|(simp at kS ⊢;omega)|(simp at kS ⊢;exact kS),by first|(have:=LP.out;simp at BU;simp only[zy,zu,zY];omega)|(simp at BU ⊢;omega),by first|exact b8.out|simpa using b8.out⟩
theorem Md(w:World):(Instr.typeAssert (.iface 278 (.agg #[])) 20 278 true).run prog w = .ok (.tuple #[.agg #[],.bool true]) w:=by kernel_rfl
theorem UI(B:Nat)(w:World):CallsD prog 139 #[.pointer (some ⟨B,0,none⟩)] .returning w fun e u' w'=>e = .returned (.tuple #[])/\u' = .returning/\w'=w:=by
 refine callsD_of_wpS func139 rfl fun c₀ cs hu=>?_
 apply wpS_seq;apply wpS_region;simp[wpOpsS,go_sem,recoverD,hu,ntmps139,Exit.thenS];refine wpS_of_wp ?_;go_wp2
 cases c₀;simp_all [bodyPostS,results,results139]
theorem D0(B:Nat)(u:Value)(uE:List PanicEntry)(w:World)(hc:w.cell? ⟨B,0,none⟩=some u)(hz:w.frozen? ⟨B,0,none⟩=false) :
  CallsD prog 139 #[.pointer (some ⟨B,0,none⟩)] (.panicking ({ v := .iface 278 (.agg #[]),recovered:=false }::uE)) w fun e u' w' =>
   e = .returned (.tuple #[])/\u' = .panicking ({ v := .iface 278 (.agg #[]),recovered:=true }::uE)/\w'=(w.setCell ⟨B,0,none⟩ .nilFunc).alloc (.cells #[] 278):=by
 have ha:=Md;refine callsD_of_wpS func139 rfl fun c₀ cs hu=>?_
 apply wpS_seq;apply wpS_region;simp[wpOpsS,go_sem,recoverD,hu,ntmps139,Exit.thenS];refine wpS_of_wp ?_;simp only[Array.replicate,List.replicate,List.setIfInBounds_toArray,List.set_cons_zero,List.set_cons_succ,List.append_toArray,List.cons_append,List.nil_append,Act.put];have xD:B<w.heap.size:=zx w _ hc;have ep:(w.alloc (.cells #[] 278)).cell? ⟨B,0,none⟩=some u:=(zZ _ _ _ xD).trans hc;have hz':(w.alloc (.cells #[] 278)).frozen? ⟨B,0,none⟩=false:=(zt (yg _ _ _ xD)).trans hz;go_wp2;simp[bodyPostS,results,results139]
theorem sI{l:List UInt8}{g:Wd}(h:Gr l=some g):Ec g/\0<g.length:=by
 unfold Gr at h;split at h<;>cases h
 all_goals exact⟨⟨by simp,by simp,.inr (by decide)⟩,by simp⟩
theorem lM{p:UInt8->Bool}:∀ {t:List UInt8} {d:UInt8},d∈t.takeWhile p->p d=true
 | [],_,h=>by cases h
 | c::t,d,h=>by
  by_cases hc:p c=true
  ·rw[zP hc] at h;rcases zn.1 h with q|q
   ·rw[q];exact hc
   ·exact lM q
  ·rw[zR hc] at h;cases h
theorem D1{c:UInt8}{t:List UInt8}(h:xC c=2\/xC c=3):Ec (c::t.takeWhile (fun d=>xC d==xC c))\/1000<(c::t.takeWhile (fun d=>xC d==xC c)).length:=by
 by_cases hl:(c::t.takeWhile (fun d=>xC d==xC c)).length<=1000
 ·left;refine⟨by simp,hl,?_⟩;rcases h with h|h
  ·left;rw[List.all_cons,(Yx c).1 h,Bool.true_and,List.all_eq_true];intro d hd;have:=lM hd;rw[h,beq_iff_eq] at this;exact(Yx d).1 this
  ·right;have:¬xJ c=true:=fun e=>by have:=(Yx c).2 e;omega
   simpa using this
 ·right;omega
theorem B3(p:UInt8->Bool)(t:List UInt8):(t.takeWhile p).length+(t.dropWhile p).length=t.length:=by
 have:=congrArg List.length (List.takeWhile_append_dropWhile (p:=p) (l:=t));rw[zy] at this;exact this
theorem D2:∀ (n:Nat) (acc:List Wd) (l:List UInt8) (ws:List Wd),jP n acc l=some ws->l.length<=999->(∀ x∈acc,Ec x)->(∀ x∈ws,Ec x)/\ws.length<=acc.length+l.length
 | n,acc,[],ws,h,_,ha=>by
  rw[jP] at h
  cases h;exact⟨ha,by simp⟩
 | 0,acc,c::t,ws,h,_,_=>by
  rw[jP] at h
  cases h;all_goals (intro hh;cases hh)
 | n+1,acc,c::t,ws,h,hl,ha=>by
  rw[jP] at h;simp only[zu] at hl
  cases hs:Gr (c::t) with
  | some g =>
   rw[hs] at h;dsimp only at h;obtain⟨hg,A1⟩:=sI hs;have ih:=D2 n (acc++[g]) ((c::t).drop g.length) ws h (by simp;omega) (fun x hx=>by
    rcases zN.1 hx with q|q
    ·exact ha x q
    ·simp at q;subst q;exact hg)
   refine⟨ih.1,?_⟩;have:=ih.2;simp at this ⊢;omega
  | none =>
   rw[hs] at h;dsimp only at h;by_cases h0:xC c=0
   ·rw[if_pos h0] at h;cases h
   ·rw[if_neg h0] at h;have hk:=Mj c;have hlen:=B3 (fun d=>xC d==xC c) t;have ih:=D2 n _ (t.dropWhile (fun d=>xC d==xC c)) ws h (by omega) (fun x hx=>by
     by_cases h1:xC c=1
     ·rw[if_pos h1] at hx;exact ha x hx
     ·rw[if_neg h1] at hx;rcases zN.1 hx with q|q
      ·exact ha x q
      ·simp only[zn,List.not_mem_nil,or_false] at q;subst q;rcases D1 (t:=t) (c:=c) (by omega) with w|w
       ·exact w
       ·simp only[zu] at w;omega)
    refine⟨ih.1,?_⟩;have h2:=ih.2;by_cases h1:xC c=1
    ·rw[if_pos h1] at h2;simp;omega
    ·rw[if_neg h1] at h2;simp at h2 ⊢;omega
theorem sM{l:List UInt8}{ws:List Wd}(h:Ok l=some ws)(hl:l.length<=200):(∀ x∈ws,Ec x)/\ws.length<=200:=by
 unfold Ok at h;have:=D2 _ _ _ _ h (by simp;omega) (fun x hx=>by cases hx);refine⟨this.1,?_⟩;have h2:=this.2;simp at h2;omega
theorem lN:zfy (.func (.func 142) #[] #[]) bn :=
 ⟨_,rfl,fun args w=>enters_of func142 (by kernel_rfl) rfl args w,fun Ts a c lo W h1 h2 h3=>Lt Ts a c lo W h1 h2 h3⟩
theorem sN:zfy (.func (.func 144) #[] #[]) allT :=
 ⟨_,rfl,fun args w=>enters_of func144 (by kernel_rfl) rfl args w,fun Ts a c lo W h1 h2 h3=>sY Ts a c lo W h1 h2 h3⟩
theorem sO(p:Nat)(w:World)(hT:RT p w):zfz p w (.func (.func 145) #[.pointer (some ⟨p,0,none⟩)] #[]) js :=
 ⟨_,_,_,rfl,fun args w=>enters_of func145 (by kernel_rfl) rfl args w,fun W ws hb hp hx hl=>Eo p ws W hp hx (hT.but hb) hl⟩
theorem lS{of:Dg->Dg}{t u:List Wd}{F:Dg->Dg}(h:Y1 of t=some (F,u)):Sub u t:=by
 unfold Y1 at h;by_cases hm:Iw (t.headD [])=true
 ·rw[if_pos hm] at h
  cases hn:kL t.tail with
  | none=>rw[hn] at h;cases h
  | some q =>
   obtain⟨m,v⟩:=q;rw[hn] at h;dsimp only at h;by_cases h0:m=0
   ·rw[if_pos h0] at h;cases h
   ·rw[if_neg h0] at h;cases h;exact(Yv hn).trans (Sub.tail t)
 ·rw[if_neg hm] at h;cases h;exact Sub.refl _
theorem bC{wi nt:Bool}{ws t:List Wd}{i:qR×Bool}(h:((jG wi ws).map fun q=>((q.1,nt),q.2))=some (i,t)):Sub t ws:=by
 cases hl:jG wi ws with
 | none=>rw[hl] at h;cases h
 | some q =>
  obtain⟨T,u⟩:=q;rw[hl] at h
  cases h;exact WJ hl
theorem C6{nt:Bool}{ws t:List Wd}{i:qR×Bool}(h:((kL ws).map fun q=>((gZ q.1 q.1 false,nt),q.2))=some (i,t)):Sub t ws:=by
 cases hl:kL ws with
 | none=>rw[hl] at h;cases h
 | some q =>
  obtain⟨T,u⟩:=q;rw[hl] at h
  cases h;exact Yv hl
theorem Mb{ws t:List Wd}{i:qR×Bool}(h:vr ws=some (i,t)):Sub t ws:=by
 have s1:=Sub.tail ws;have s2:=(Sub.tail ws.tail).trans s1;unfold vr at h;split at h
 ·exact(bC h).trans s1
 split at h
 ·exact(bC h).trans s1
 split at h
 ·split at h
  ·exact(C6 h).trans s2
  ·exact(C6 h).trans s1
 ·dsimp only at h;split at h
  ·split at h
   ·exact(bC h).trans s2
   ·split at h
    ·exact(bC h).trans s2
    ·cases h
  ·split at h
   ·exact(bC h).trans s1
   ·split at h
    ·exact(bC h).trans s1
    ·cases h
theorem MZ{ws t:List Wd}{T:qR}(h:js ws=some (T,t)):Sub t ws:=by
 cases ws with
 | nil=>cases h
 | cons w u =>
  rw[js] at h
  cases ho:uV w with
  | none=>rw[ho] at h;cases h
  | some of =>
   rw[ho] at h;dsimp only at h
   cases hm:Y1 of u with
   | none=>rw[hm] at h;cases h
   | some q =>
    obtain⟨F,v⟩:=q;rw[hm] at h;dsimp only at h
    cases hn:vr v with
    | none=>rw[hn] at h;cases h
    | some q2 =>
     obtain⟨⟨i,nt⟩,x⟩:=q2;rw[hn] at h
     cases h;exact((Mb hn).trans (lS hm)).trans ⟨fun y hy=>by simp[hy],by simp⟩
theorem D3{word:Wd}{P:Parser}(hs:∀ us T t,P us=some (T,t)->Sub t us):∀ {n:Nat} {acc ts:List qR} {ws t:List Wd},fJ word P n acc ws=some (ts,t)->Sub t ws
 | 0,_,_,_,_,h=>by cases h
 | n+1,acc,ts,ws,t,h=>by
  rw[fJ] at h
  cases hi:P ws with
  | none=>rw[hi] at h;cases h
  | some r =>
   obtain⟨T,u⟩:=r;rw[hi] at h;dsimp only at h;by_cases hc:Y0 word u=true
   ·rw[if_pos hc] at h;exact((D3 hs h).trans (Sub.tail u)).trans (hs _ _ _ hi)
   ·rw[if_neg hc] at h
    cases h;exact hs _ _ _ hi
theorem lW{ws t:List Wd}{T:qR}(h:L0 ws=some (T,t)):Sub t ws:=by
 unfold L0 E8 at h
 cases hg:fJ [97,110,100] js (ws.length+1) [] ws with
 | none=>rw[hg] at h;cases h
 | some r =>
  obtain⟨ts,u⟩:=r;rw[hg] at h
  cases h;exact D3 (fun us T t h=>MZ h) hg
theorem WH(p pv:Nat)(ws:List Wd)(w:World)(hp:gJ w p ws)(hx:∀ x∈ws,Ec x)(hT:RT p w)(hl:ws.length<=1000)(hc:w.cell? ⟨pv,0,none⟩=some (.pointer (some ⟨p,0,none⟩))) :
  Calls prog 143 #[.pointer (some ⟨pv,0,none⟩)] w (Yl p (L0 ws) w):=by
 have Sk:∀ (fn:Fn) (first cap:Array Value) (w:World),(yd fn first cap).run prog w = .ok (.func fn first cap) w:=fun _ _ _ _=>rfl
 have hr:=Rr p [97,110,100] allT js _ _ ws w hp hx hl sN (sO p w hT) (fun us T t h=>MZ h);have HR:=z7 hr;clear hr hp hx hT;go_enter func143,ntmps143;go_wp2_with fail;refine HR.out.mono ?_;rintro e w1 ⟨hq,hb⟩;have Hu:L0 ws=E8 [97,110,100] allT js ws:=rfl
 cases hn:E8 [97,110,100] allT js ws with
 | none =>
  rw[hn] at hq;obtain rfl:=hq;have HN:=z7 (Hu.trans hn);clear hn Hu;go_wp2;refine⟨rfl,?_,hb⟩;rw[HN.out]
 | some q =>
  obtain⟨T,t⟩:=q;rw[hn] at hq;obtain⟨⟨v,rfl,ht⟩,hp⟩:=hq;have HN:=z7 (Hu.trans hn);have Fl:=z7 ht;have KZ:=z7 hp;clear hn ht hp Hu;go_wp2;go_ret;refine⟨?_,hb⟩;rw[HN.out];exact⟨⟨_,rfl,Fl.out⟩,KZ.out⟩
structure Rt(w:World):Prop where
 s:∃ t v,w.cell? ⟨7,0,none⟩=some (.iface t v)
 r:∃ t v,w.cell? ⟨8,0,none⟩=some (.iface t v)
theorem Rt.below{w w':World}(h:Rt w)(hb:Below w.heap.size w w'):Rt w':=by
 obtain⟨⟨t,v,hs⟩,⟨t2,v2,hr⟩⟩:=h;exact⟨⟨t,v,(hb.cell (zx w _ hs)).trans hs⟩,⟨t2,v2,(hb.cell (zx w _ hr)).trans hr⟩⟩
theorem Rt.at{w w':World}{p:Nat}(h:Rt w)(hb:Below w.heap.size w w')(hp:w.heap.size<=p):RT p w':=by
 have h2:=h.below hb;obtain⟨⟨t,v,hs⟩,⟨t2,v2,hr⟩⟩:=h;have l1:=zx w _ hs;have l2:=zx w _ hr;dsimp only at l1 l2;exact⟨h2.s,h2.r,by omega,by omega⟩
def yzg(r:Option qR)(w:World)(e:Ending)(w':World):Prop :=
 (match r with|none=>e = .returned .nilFunc|some T=>∃ v,e = .returned v/\j6 w.heap.size w'.heap.size w' v T)/\Below w.heap.size w w'
theorem MY{w:World}{base:Nat}{v:Value}{ws:List Wd}(h:w.ownsRow base 9 1 v ws.length (ws.map xk))(o:Obj):gJ ((w.alloc (.cells #[v] 283)).alloc o) w.heap.size ws:=by
 have hb:Below w.heap.size w ((w.alloc (.cells #[v] 283)).alloc o):=((zk _ _).alloc (z8 _) _).alloc (by simp) _;have DD:w.heap.size<(w.alloc (.cells #[v] 283)).heap.size:=by simp
 have hc:((w.alloc (.cells #[v] 283)).alloc o).cell? ⟨w.heap.size,0,none⟩=some v:=by
  rw[zZ _ _ _ DD];exact xu _ _ _ _ _
 have hz:((w.alloc (.cells #[v] 283)).alloc o).frozen? ⟨w.heap.size,0,none⟩=false:=by
  rw[zt (yg _ _ _ DD)];simp
 have hlen:ws.length=ws.length:=rfl;rcases h.2 with⟨hv,h0⟩|⟨g,cap,cur,hv,hg,hh,h1,h2,h3,ht⟩
 ·subst hv;have hw:ws=[]:=List.eq_nil_of_length_eq_zero h0;subst hw;exact⟨none,0,hc,hz,z8 _,zV _,fun j hj=>absurd hj (yb j)⟩
 ·subst hv;have hgl:g<w.heap.size:=by
   rcases Nat.lt_or_ge g w.heap.size with q|q
   ·exact q
   ·rw[Array.getElem?_eq_none (by omega)] at hh;cases hh
  refine⟨some ⟨g,0,none⟩,cap,hc,hz,h1,h2,fun j hj=>⟨_,rfl,⟨by show g≠w.heap.size;omega,cur,(0,0),(hb.block g hgl).trans hh⟩,?_⟩⟩;rw[vS,hb.cell (p:=⟨g,j,none⟩) hgl,h.cellAt j (by omega)];simp[hj]
theorem lr(p pv:Nat)(w:World)(hT:RT p w)(hc:xR w pv (.pointer (some ⟨p,0,none⟩)))(xc:pv≠p):zfz p w (.func (.func 143) #[] #[.pointer (some ⟨pv,0,none⟩)]) L0 :=
 ⟨_,_,_,rfl,fun args w=>enters_of func143 (by kernel_rfl) rfl args w,fun W ws hb hp hx hl=>WH p pv ws W hp hx (hT.but hb) hl (hc.but hb xc).c⟩
theorem B4(s:ByteArray)(w:World)(hs:s.size<=9223372036854775807)(hT:Rt w):Calls prog 97 #[.string s] w (yzg (BG s.data.toList) w):=by
 have Sk:∀ (fn:Fn) (first cap:Array Value) (w:World),(yd fn first cap).run prog w = .ok (.func fn first cap) w:=fun _ _ _ _=>rfl
 obtain⟨r,hr⟩:=xX (BG s.data.toList);rw[hr];unfold BG at hr;rw[xA] at hr;by_cases yzf:200<s.size
 ·rw[if_pos yzf] at hr;subst hr;have h1:decide ((200:Int)<(s.size:Int))=true:=by simp;omega
  go_enter_defers func97,ntmps97
  go_wp2;refine leaves_cons (f:=139) (args:=#[.pointer (some ⟨w.heap.size,0,none⟩)]) (by simp) (by simp[go_sem]) ?_;refine(UI w.heap.size _).mono ?_;rintro e u' Vx ⟨rfl,rfl,rfl⟩;simp[Leaves,settle,results,results97,go_sem];exact⟨rfl,(zk _ _).alloc (z8 _) _⟩
 ·rw[if_neg yzf] at hr;have h1:decide ((200:Int)<(s.size:Int))=false:=by simp;omega
  have Km:=fun W=>PV s W (by omega)
  have HTK:=z7 Km;have HR:=z7 hr;have HT:=z7 hT;clear Km hr hT;go_enter_defers func97,ntmps97
  go_wp2_with fail;have F1:∃ W,W=w.alloc (.cells #[.nilFunc] 214)/\Below w.heap.size w W/\xR W w.heap.size .nilFunc/\W.heap.size=w.heap.size+1:=⟨_,rfl,(zk _ _).alloc (z8 _) _,xR.made _ _ _ (by decide),by simp⟩;obtain⟨W,hW,jC,cB,Tl⟩:=F1;rw[←hW];clear hW;refine(HTK.out W).mono ?_;rintro e w2 ⟨hq,xF⟩;have uK:Below w.heap.size w w2:=jC.trans (xF.mono jC.size);have cB2:xR w2 w.heap.size .nilFunc:=cB.but (p:=w2.heap.size) (xP.of xF) (by have:=cB.lt;have:=xF.size;omega)
  cases hn:Ok s.data.toList with
  | none =>
   rw[hn] at hq;obtain rfl:=hq;have vv:r=none:=by rw[←HR.out,hn]
   have gX:=z7 vv;clear hn vv;refine leaves_cons (f:=139) (args:=#[.pointer (some ⟨w.heap.size,0,none⟩)]) (by simp) (by simp[go_sem]) ?_;refine(D0 w.heap.size _ [] _ cB2.c cB2.z).mono ?_;rintro e u' Vx ⟨rfl,rfl,rfl⟩;have xi:((w2.setCell ⟨w.heap.size,0,none⟩ .nilFunc).alloc (.cells #[] 278)).cell? ⟨w.heap.size,0,none⟩=some .nilFunc:=by
    rw[zZ _ _ _ (by simpa[zF] using cB2.lt),zW (h:=cB2.c)]
   simp[Leaves,settle,results,results97,go_sem,xi];refine⟨?_,(uK.setCell (z8 _) _).alloc (by simpa[zF] using uK.size) _⟩;rw[gX.out]
  | some ws =>
   rw[hn] at hq;obtain⟨v,rfl,xV⟩:=hq;obtain⟨R4,hlen⟩:=sM hn (by rw[xA];omega);have HN:=z7 hn;obtain⟨a,cap,rfl⟩:=xd xV;have F3:∃ W3,W3=(w2.alloc (.cells #[.slice a ws.length cap] 283)).alloc (.cells #[.pointer (some ⟨w2.heap.size,0,none⟩)] 280)/\Below w2.heap.size w2 W3/\gJ W3 w2.heap.size ws/\xR W3 (w2.heap.size+1) (.pointer (some ⟨w2.heap.size,0,none⟩))/\W3.heap.size=w2.heap.size+2:=by
    refine⟨_,rfl,((zk _ _).alloc (z8 _) _).alloc (by simp) _,MY xV _,?_,by simp⟩;have hs:(w2.alloc (.cells #[.slice a ws.length cap] 283)).heap.size=w2.heap.size+1:=by simp
    rw[←hs];exact xR.made _ _ _ (by decide)
   obtain⟨W3,kT,uP,Hg,cP3,Mc⟩:=F3;have zaj:=cB2.lt;have cB3:xR W3 w.heap.size .nilFunc:=cB2.but (p:=W3.heap.size) (xP.of uP) (by omega);have ZV:Below w.heap.size w W3:=uK.trans (uP.mono uK.size);have Wc:RT w2.heap.size W3:=HT.out.at ZV uK.size;have vD:=Rr w2.heap.size [111,114] bn L0 _ _ ws W3 Hg R4 (by omega) lN (lr w2.heap.size (w2.heap.size+1) W3 Wc cP3 (by omega)) (fun us T t h=>lW h);have qV:=z7 vD;have UO:=z7 Mc;have lj:=z7 Hg;clear hn xV vD Wc Mc Hg R4;go_wp2_with fail;rw[←kT];clear kT;refine qV.out.mono ?_;rintro e w4 ⟨hq,uN⟩;have hPB:w.heap.size≠w2.heap.size:=by omega
   have sP:=cB3.but uN hPB;have cP4:=cP3.but uN (by omega);have dM:Below w.heap.size w w4:=ZV.trans (uN.low (by omega) ZV.size)
   cases hn:E8 [111,114] bn L0 ws with
   | none =>
    rw[hn] at hq;obtain rfl:=hq;have vv:r=none:=by rw[←HR.out,HN.out];show(match pOr ws with|some (T,[])=>some T|_=>none)=none;unfold pOr;rw[hn]
    have gX:=z7 vv;clear hn vv;refine leaves_cons (f:=139) (args:=#[.pointer (some ⟨w.heap.size,0,none⟩)]) (by simp) (by simp[go_sem]) ?_;refine(D0 w.heap.size _ [] _ sP.c sP.z).mono ?_;rintro e u' Vx ⟨rfl,rfl,rfl⟩;have xi:((w4.setCell ⟨w.heap.size,0,none⟩ .nilFunc).alloc (.cells #[] 278)).cell? ⟨w.heap.size,0,none⟩=some .nilFunc:=by
     rw[zZ _ _ _ (by simpa[zF] using sP.lt),zW (h:=sP.c)]
    simp[Leaves,settle,results,results97,go_sem,xi];refine⟨?_,(dM.setCell (z8 _) _).alloc (by simpa[zF] using dM.size) _⟩;rw[gX.out]
   | some q =>
    obtain⟨T,t⟩:=q;rw[hn] at hq;obtain⟨⟨v,rfl,ht⟩,G0⟩:=hq;have hpo:pOr ws=some (T,t):=hn;have HPO:=z7 hpo;have Fl:=z7 ht;have xdg:=G0.lt;obtain⟨kf,bZ,rfl,_⟩:=ht;obtain⟨a4,c4,e1,e2,e3,e4,e5⟩:=G0;have yB:=sP.c;have yBz:=sP.z;have yP:=cP4.c;have hBt:w.heap.size<w4.heap.size:=sP.lt;clear hn hpo e5
    cases t with
    | nil =>
     have vv:r=some T:=by
      rw[←HR.out,HN.out];show(match pOr ws with|some (T,[])=>some T|_=>none)=_;rw[HPO.out]
     have gX:=Lib.hid vv;clear vv;go_wp2;refine leaves_cons (f:=139) (args:=#[.pointer (some ⟨w.heap.size,0,none⟩)]) (by simp) (by simp[go_sem]) ?_;refine(UI w.heap.size _).mono ?_;rintro e u' Vx ⟨rfl,rfl,rfl⟩;have cF:=(sP.same (.func (.func kf) #[] bZ)).same (.func (.func kf) #[] bZ);have hbF:Below w.heap.size w ((w4.setCell ⟨w.heap.size,0,none⟩ (.func (.func kf) #[] bZ)).setCell ⟨w.heap.size,0,none⟩ (.func (.func kf) #[] bZ)):=(dM.setCell (Nat.le_refl _) _).setCell (Nat.le_refl _) _;have xi:=cF.c;simp[Leaves,settle,results,results97,go_sem,xi];refine⟨?_,hbF⟩;rw[gX.out];have qP:((w4.setCell ⟨w.heap.size,0,none⟩ (.func (.func kf) #[] bZ)).setCell ⟨w.heap.size,0,none⟩ (.func (.func kf) #[] bZ)).heap.size=w4.heap.size:=by simp[World.setCell]
     exact⟨_,rfl,Fl.out.keep ⟨by rw[qP];exact z8 _,fun k k1 k2=>by
      have hk:k≠w.heap.size:=by have:=UO.out;omega
      rw[yq _ _ _ _ hk,yq _ _ _ _ hk]⟩ (by have:=UO.out;omega) (by rw[qP];exact z8 _)⟩
    | cons x t' =>
     have vv:r=none:=by
      rw[←HR.out,HN.out];show(match pOr ws with|some (T,[])=>some T|_=>none)=_;rw[HPO.out]
     have gX:=z7 vv;clear vv;go_wp2;refine leaves_cons (f:=139) (args:=#[.pointer (some ⟨w.heap.size,0,none⟩)]) (by simp) (by simp[go_sem]) ?_;refine(UI w.heap.size _).mono ?_;rintro e u' Vx ⟨rfl,rfl,rfl⟩;have cF:=(sP.same (.func (.func kf) #[] bZ)).same .nilFunc;have hbF:Below w.heap.size w ((w4.setCell ⟨w.heap.size,0,none⟩ (.func (.func kf) #[] bZ)).setCell ⟨w.heap.size,0,none⟩ .nilFunc):=(dM.setCell (z8 _) _).setCell (z8 _) _;have xi:=cF.c;simp[Leaves,settle,results,results97,go_sem,xi];refine⟨?_,hbF⟩;rw[gX.out]
def JR(lo hi:Nat)(w:World)(a:Option Addr)(S:List (Nat×qR)):Prop :=
 ∀ j (h:j<S.length),∃ g o v,a=some ⟨g,o,none⟩/\w.cell? ⟨g,o+j*2,none⟩=some (.int .i64 S[j].1)/\w.cell? ⟨g,o+j*2+1,none⟩=some v/\lo<=g/\g<hi/\j6 lo hi w v S[j].2
theorem JR.keep{lo hi lo' hi':Nat}{w w':World}{a:Option Addr}{S:List (Nat×qR)}(h:JR lo hi w a S)(hk:vQ lo hi w w')(h1:lo'<=lo)(h2:hi<=hi'):JR lo' hi' w' a S:=fun j hj=>by
 obtain⟨g,o,v,e1,e2,e3,e4,e5,e6⟩:=h j hj;exact⟨g,o,v,e1,(hk.cell (p:=⟨g,_,none⟩) e4 e5).trans e2,(hk.cell (p:=⟨g,_,none⟩) e4 e5).trans e3,by omega,by omega,e6.keep hk h1 h2⟩
def Rh(S:List (Nat×qR))(x:Dg):Nat:=match S.find? (fun q=>q.2 x) with|some q=>q.1|none=>5
theorem Er(S:List (Nat×qR))(a:Option Addr)(c:Nat)(nv:Value)(x:Dg)(lo hi:Nat)(w:World)(hl:S.length<=1000000)(ht:JR lo hi w a S)(Zi:hi<=w.heap.size)(hn:uR w nv x) :
  Calls prog 60 #[.slice a S.length c,nv] w fun e w'=>e = .returned (.int .i64 (Rh S x))/\Below w.heap.size w w':=by
 have HN:=z7 hn;obtain⟨b',g,go,cap,n',k',rfl⟩:=hn.form;have F:∃ W,W=w.alloc (.cells #[.bool b',.slice (some ⟨g,go,none⟩) n' cap,.int .i64 k'] 97)/\Below w.heap.size w W/\W.heap.size=w.heap.size+1/\EW W w.heap.size (.agg #[.bool b',.slice (some ⟨g,go,none⟩) n' cap,.int .i64 k']) :=
  ⟨_,rfl,(zk _ _).alloc (z8 _) _,by simp,⟨by simp,_,_,_,rfl,by go_simp,by go_simp,by go_simp⟩⟩
 obtain⟨W,hW,jC,hs,iP⟩:=F;have HT:=z7 (ht.keep (vU jC Zi Zi) (z8 _) (z8 _));have LU:=z7 (HN.out.below jC);have Lh:hi<=W.heap.size:=by omega
 clear ht hn;go_enter func60,ntmps60;go_wp2_with fail;rw[←hW];clear hW;obtain⟨B,hB⟩:∃ B,B=w.heap.size:=⟨_,rfl⟩;rw[←hB] at iP ⊢;have O8:=z7 hB;clear hB;go_loopw [9] (fun i wr=>∃ k:Nat,k<=S.length/\i = .int .i64 k/\(S.take k).find? (fun q=>q.2 x)=none/\Below W.heap.size W wr) (fun i _=>S.length - (intOf i).toNat)
 case atStart=>exact⟨0,zV _,rfl,rfl,zk _ _⟩
 case round =>
  obtain⟨k,hk,rfl,hz,qG⟩:=hrel;have HZ:=z7 hz;clear hz;have Pg:Below w.heap.size w wr:=jC.trans (qG.mono (by omega));by_cases xD:k<S.length
  ·obtain⟨ga,o,v,rfl,qX,jJ,h1,h2,hT⟩:=HT.out k xD;have hgW:ga<W.heap.size:=by omega
   have Uj:=(qG.cell (p:=⟨ga,o+k*2,none⟩) hgW).trans qX;have zj1:=(qG.cell (p:=⟨ga,o+k*2+1,none⟩) hgW).trans jJ;have hkp:=vU (lo:=lo) qG Lh Lh;have hTr:=hT.keep hkp (z8 _) (z8 _);have HTR:=z7 hTr;obtain⟨K,cp,rfl,CQ,vY⟩:=hTr;have ZB:Below wr.heap.size wr (wr.alloc (.cells #[.int .i64 S[k].1,.func (.func K) #[] cp] 216)):=(zk _ _).alloc (z8 _) _;have bV:=vY (wr.alloc (.cells #[.int .i64 S[k].1,.func (.func K) #[] cp] 216)) (vU ZB (zX Lh qG.size) (zX Lh qG.size)) _ x ((LU.out.below qG).below ZB);have HC:=z7 bV;obtain⟨hBl,bb,ss,kk,e0,c0,c1,c2⟩:=iP.below qG
   cases e0;have d0:∀ o,(wr.alloc o).cell? ⟨B,0,none⟩=_:=fun o=>(zZ _ _ _ hBl).trans c0
   have d1:∀ o,(wr.alloc o).cell? ⟨B,1,none⟩=_:=fun o=>(zZ _ _ _ hBl).trans c1
   have d2:∀ o,(wr.alloc o).cell? ⟨B,2,none⟩=_:=fun o=>(zZ _ _ _ hBl).trans c2
   have yzd:=qG.trans (ZB.mono qG.size);have zyx:=Pg.trans (ZB.mono Pg.size);have Nr:wr.heap.size<(wr.alloc (.cells #[.int .i64 S[k].1,.func (.func K) #[] cp] 216)).heap.size:=by simp
   have a0:(wr.alloc (.cells #[.int .i64 S[k].1,.func (.func K) #[] cp] 216)).cell? ⟨wr.heap.size,0,none⟩=some (.int .i64 S[k].1):=xu _ _ _ _ _;clear qX jJ hT vY bV;go_wp2_with fail;refine HC.out.mono ?_;rintro e w1 ⟨rfl,xB⟩;have Zv:=yzd.trans (xB.mono yzd.size);have JO:Below w.heap.size w w1:=zyx.trans (xB.mono zyx.size);have a1:=(xB.cell (p:=⟨wr.heap.size,0,none⟩) Nr).trans a0
   cases Rp:S[k].2 x
   ·have Uf:(S.take (k+1)).find? (fun q=>q.2 x)=none:=by
     rw[zf xD,yj,HZ.out];simp[Rp]
    have HF:=z7 Uf;clear Rp Uf;go_wp2;go_roundw
    case rel=>exact⟨k+1,by omega,by go_num,HF.out,Zv⟩
    case measure=>simp[intOf];omega
   ·have hf:Rh S x=S[k].1:=by
     have h1:S.find? (fun q=>q.2 x)=some S[k]:=by
      have hsp:S=S.take k++S[k]::S.drop (k+1):=by rw[←zi xD,List.take_append_drop]
      have h2:=congrArg (List.find? (fun q=>q.2 x)) hsp;rw[yj,HZ.out,Option.none_or,List.find?_cons_of_pos (p:=fun q:Nat×qR=>q.2 x) Rp] at h2;exact h2
     unfold Rh;rw[h1]
    have HF:=z7 hf;clear Rp hf;go_wp2;go_ret;exact⟨by rw[HF.out];rfl,JO⟩
  ·obtain rfl:k=S.length:=by omega
   have hz:=HZ.out;rw[List.take_length] at hz;have hf:Rh S x=5:=by unfold Rh;rw[hz]
   have HF:=z7 hf;clear hz HZ hf;go_wp2;go_ret;exact⟨by rw[HF.out];rfl,Pg⟩
def yzb(mi po gr:Int)(fi ne:Nat)(ds:List Int)(Sc So:List (Nat×qR)):qL Unit :=
 ⟨fun n=>ZR n.1 (xW (n.2.1++n.2.2)) n.2.2.length mi po gr fi ne ds,fun b d=>Rh (if b then So else Sc) d,fun _ u=>(.no,u)⟩
theorem zfk{w:World}{g:Nat}{mi po gr:Int}{fi ne:Nat}{ds:List Int}{Sc So:List (Nat×qR)}{a a':Option Addr}{c c' lo hi:Nat}(hX:Ek w g mi po gr fi ne ds)(hg:g<w.heap.size)(h32:Ww mi/\Ww po/\Ww gr/\∀ x∈ds,Ww x)(LV:fi<=255)(xc:0<fi->0<ne)(rq:ne<=255)
  (g0:w.cell? ⟨g,0,none⟩=some (.slice a Sc.length c)) (g1:w.cell? ⟨g,1,none⟩=some (.slice a' So.length c')) (hl:Sc.length<=1000000/\So.length<=1000000) (hc:JR lo hi w a Sc) (ho:JR lo hi w a' So) (Zi:hi<=w.heap.size)
  (wH:∀ n:vq,EV n.2->(ZR n.1 (xW (n.2.1++n.2.2)) n.2.2.length mi po gr fi ne ds).length<=5000) (hsr:∀ b d,Rh (if b=true then So else Sc) d<6):zgx w g (yzb mi po gr fi ne ds Sc So):=by
 refine⟨fun W nv n hf hn=>?_,wH,⟨_,_,fun W hf=>⟨hf.cell g0 id,hf.cell g1 id⟩,fun W nv d hf hn=>?_,fun W nv d hf hn=>?_⟩,hsr⟩
 ·obtain⟨gd,o,cap,rfl,h2,h3,-,⟨c0,h4⟩,h5,h6⟩:=hn;have qP:=hf.size;refine BL g gd o cap n.2.2.length _ n.1 (xW (n.2.1++n.2.2)) mi po gr fi ne ds W (hX.below (UC hf) hg) (by omega) h5 (zx _ _ h4) (by simp[xW]) (by omega) h2 ?_ ?_ h32 LV xc rq
  ·have:=h6.FZ;have:=h6.JI;omega
  ·exact TR (by rw[zQ,h6.eN,h6.TM];rfl)
 ·have qP:=hf.size;have h:=Er Sc a c nv d lo hi W hl.1 (hc.keep (vU (UC hf) Zi Zi) (z8 _) (z8 _)) (by omega) hn;exact h
 ·have qP:=hf.size;have h:=Er So a' c' nv d lo hi W hl.2 (ho.keep (vU (UC hf) Zi Zi) (z8 _) (z8 _)) (by omega) hn;exact h
theorem V4(r:Int):(zG r).length<=4:=by
 unfold zG;rw[List.length_map];unfold Lib.encodeRuneZ;repeat' split
 all_goals simp
theorem D4{f:Nat->List UInt8}{c:Nat}(h:∀ i,(f i).length<=c):∀ k,((List.range k).flatMap f).length<=k*c
 | 0=>by simp
 | k+1=>by
  have:=D4 h k;have h2:=h k;simp only[List.range_succ,List.flatMap_append,zy,List.flatMap_singleton,Nat.succ_mul];omega
theorem MX(ds l:List Int)(k:Nat):(VO ds l k).length<=4:=by
 unfold VO;first|exact V4 _|(split<;>first|exact V4 _|simp)
theorem PQ(neg:Bool)(l:List Int)(sc:Nat)(mi po gr:Int)(fi ne:Nat)(ds:List Int)(h:l.length<=200)(hs:sc<=200):(ZR neg l sc mi po gr fi ne ds).length<=5000:=by
 unfold ZR;have h1:(if neg=true then zG mi else []).length<=4:=by split;exact V4 _;simp
 have h2:(ff gr fi ne ds (l.take (l.length - sc)) (l.length - sc)).length<=(l.length - sc)*8:=by
  unfold ff;refine D4 (fun i=>?_) _;have:=MX ds (l.take (l.length - sc)) i;rw[zy];have h3:(if (decide (0<i) && ZC gr fi ne ((l.take (l.length - sc)).length - i))=true then zG gr else []).length<=4:=by split;exact V4 _;simp
  omega
 have h3:(qU po ds (l.drop (l.length - sc)) sc).length<=sc*8:=by
  unfold qU;refine D4 (fun i=>?_) _;have:=MX ds (l.drop (l.length - sc)) i;rw[zy];have h3:(if (i==0)=true then zG po else []).length<=4:=by split;exact V4 _;simp
  omega
 rw[zy,zy];omega
def Fo.hs:Bool->Fo->Prop
 | _,.nil=>True
 | b,.text _ r=>r.hs b
 | b,.hash r=>b=true/\r.hs b
 | b,.put _ _ r=>r.hs b
 | b,.num _ _ r=>r.hs b
 | b,.br _ _ f _ _ bs r=>bs.hs (decide (f≠0))/\r.hs b
 | b,.uf _ _ m r=>m.hs b/\r.hs b
def Fo.tb:Fo->Nat
 | .nil=>0
 | .text t r=>t.length+r.tb
 | .hash r=>r.tb
 | .put _ _ r=>r.tb
 | .num _ _ r=>r.tb
 | .br _ _ _ _ _ bs r=>bs.tb+r.tb
 | .uf _ _ m r=>m.tb+r.tb
theorem Fo.QP:∀ f:Fo,f.tb<=5000->f.sh
 | .nil,_=>trivial
 | .text t r,h=>by simp only[Fo.tb] at h;exact⟨by omega,Fo.QP r (by omega)⟩
 | .hash r,h=>Fo.QP r h
 | .put _ _ r,h=>Fo.QP r h
 | .num _ _ r,h=>Fo.QP r h
 | .br _ _ _ _ _ bs r,h=>by simp only[Fo.tb] at h;exact⟨Fo.QP bs (by omega),Fo.QP r (by omega)⟩
 | .uf _ _ m r,h=>by simp only[Fo.tb] at h;exact⟨Fo.QP m (by omega),Fo.QP r (by omega)⟩
theorem Fo.dN:∀ f g:Fo,(f.app g).tb=f.tb+g.tb
 | .nil,g=>by simp[Fo.app,Fo.tb]
 | .text t r,g=>by simp only[Fo.app,Fo.tb,Fo.dN r g];omega
 | .hash r,g=>by simp only[Fo.app,Fo.tb,Fo.dN r g]
 | .put _ _ r,g=>by simp only[Fo.app,Fo.tb,Fo.dN r g]
 | .num _ _ r,g=>by simp only[Fo.app,Fo.tb,Fo.dN r g]
 | .br _ _ _ _ _ bs r,g=>by simp only[Fo.app,Fo.tb,Fo.dN r g];omega
 | .uf _ _ m r,g=>by simp only[Fo.app,Fo.tb,Fo.dN r g];omega
theorem Fo.dO(b:Bool):∀ f g:Fo,(f.app g).hs b ↔ f.hs b/\g.hs b
 | .nil,g=>by simp[Fo.app,Fo.hs]
 | .text t r,g=>by simp only[Fo.app,Fo.hs,Fo.dO b r g]
 | .hash r,g=>by simp only[Fo.app,Fo.hs,Fo.dO b r g,and_assoc]
 | .put _ _ r,g=>by simp only[Fo.app,Fo.hs,Fo.dO b r g]
 | .num _ _ r,g=>by simp only[Fo.app,Fo.hs,Fo.dO b r g]
 | .br _ _ _ _ _ bs r,g=>by simp only[Fo.app,Fo.hs,Fo.dO b r g,and_assoc]
 | .uf _ _ m r,g=>by simp only[Fo.app,Fo.hs,Fo.dO b r g,and_assoc]
theorem Fo.PK{b:Bool}{f:Fo}(h:f.hs b)(t:Wd):(f.xL t).hs b/\(f.xL t).tb<=f.tb+t.length:=by
 cases hl:f.xG with
 | none =>
  rw[ug f t hl];exact⟨(Fo.dO b _ _).2 ⟨h,trivial⟩,by rw[Fo.dN];simp only[Fo.tb];omega⟩
 | some s =>
  obtain⟨pre,h1,h2,h3⟩:=ux f s hl;rw[h1] at h;rw[h3];refine⟨(Fo.dO b _ _).2 ⟨((Fo.dO b _ _).1 h).1,trivial⟩,?_⟩;rw[Fo.dN,show f.tb=(pre.app (.text s .nil)).tb from congrArg _ h1,Fo.dN];simp only[Fo.tb,zy];omega
def MV(m:kC):Prop:=∀ num i f j,m num i = .ok (f,j)->f.hs num/\f.tb+4*i<=4*j
section
variable {rs:List Int}
theorem zfj{msg:Option kC}{num:Bool}{i j:Nat}{f:Fo}(hm:∀ m,msg=some m->MV m)(h:X2 rs msg num i = .ok (f,j)):f.hs num/\f.tb+4*i<=4*j:=by
 unfold X2 at h;obtain⟨k,a,h1,h2⟩:=xf h;obtain⟨u,b,h3,h4⟩:=xf h2;obtain⟨hk,e1⟩:=Rf h1;have e2:=(xO h3).2;have e3:=xN rs a
 cases msg with
 | none=>cases h4
 | some m =>
  obtain⟨g,c,h5,h6⟩:=xf (show(m num b).then _=_ from h4);obtain⟨u2,z,h7,h8⟩:=xf h6;obtain⟨hg,ht⟩:=hm m rfl _ _ _ _ h5;have e5:=(xO h7).2;have e6:=xN rs z
  cases h8;refine⟨⟨hg,trivial⟩,?_⟩;simp only[Fo.tb];omega
theorem Rw{msg:Option kC}{num:Bool}(hm:∀ m,msg=some m->MV m):∀ (n:Nat) (acc:Fo) (i j:Nat) (f:Fo),jN rs msg num n acc i = .ok (f,j)->acc.hs num->f.hs num/\f.tb+4*i<=acc.tb+4*j
 | 0,acc,i,j,f,h,_=>by cases h
 | n+1,acc,i,j,f,h,ha=>by
  rw[jN] at h;split at h
  ·cases h;exact⟨ha,z8 _⟩
  ·obtain⟨g,q,h1,h2⟩:=xf h;obtain⟨g1,g2⟩:=zfj hm h1;obtain⟨k1,k2⟩:=Rw hm n _ _ _ _ h2 ((Fo.dO num _ _).2 ⟨ha,g1⟩);rw[Fo.dN] at k2;exact⟨k1,by omega⟩
theorem zfg{msg:Option kC}{num:Bool}{i j:Nat}{f:Fo}(hm:∀ m,msg=some m->MV m)(h:YX rs msg i = .ok (f,j)):f.hs num/\f.tb+4*i<=4*j:=by
 unfold YX at h;obtain⟨u,a,h1,h2⟩:=xf h;obtain⟨nm,b,h3,h4⟩:=xf h2;have e1:=(xO h1).2;have e2:=xN rs a;obtain⟨hn,e3⟩:=F8 h3;have e4:=xN rs b;clear h h1 h2 h3;split at h4
 ·obtain⟨u,z,h5,h6⟩:=xf h4;have:=(xO h5).2
  cases h6;exact⟨trivial,by simp only[Fo.tb];omega⟩
 ·obtain⟨wd,c,h5,h6⟩:=xf h4;have e5:=gq h5;have e6:=xN rs (xr rs b+1);have e7:=xN rs c;clear h4 h5;split at h6
  ·obtain⟨u,z,h7,h8⟩:=xf h6;have:=(xO h7).2
   cases h8;exact⟨trivial,by simp only[Fo.tb];omega⟩
  ·split at h6
   ·cases h6
   ·next form Rj =>
    obtain⟨u,d,h7,h8⟩:=xf h6;obtain⟨o,l,h9,dw⟩:=xf h8;obtain⟨bs,q,Jc,Gj⟩:=xf dw;obtain⟨u,z,oJ,oG⟩:=xf Gj;have:=(xO h7).2;have:=xN rs d;obtain⟨ho,_⟩:=Rb h9;obtain⟨b1,b2⟩:=Rw hm _ _ _ _ _ Jc trivial;have e9:=(xO oJ).2
    cases oG;refine⟨⟨b1,trivial⟩,?_⟩;simp only[Fo.tb] at b2 ⊢;omega
theorem D5{msg:Option kC}{num:Bool}(hm:∀ m,msg=some m->MV m):∀ (n:Nat) (acc:Fo) (i j:Nat) (f:Fo),qC rs msg num n acc i = .ok (f,j)->acc.hs num->f.hs num/\f.tb+4*i<=acc.tb+4*j
 | 0,acc,i,j,f,h,_=>by cases h
 | n+1,acc,i,j,f,h,ha=>by
  rw[qC] at h;split at h
  ·cases h;exact⟨ha,z8 _⟩
  split at h
  ·obtain⟨g,q,h1,h2⟩:=xf h;obtain⟨g1,g2⟩:=zfg (num:=num) hm h1;obtain⟨k1,k2⟩:=D5 hm n _ _ _ _ h2 ((Fo.dO num _ _).2 ⟨ha,g1⟩);rw[Fo.dN] at k2;exact⟨k1,by omega⟩
  split at h
  ·next hq =>
   obtain⟨k1,k2⟩:=D5 hm n _ _ _ _ h ((Fo.dO num _ _).2 ⟨ha,hq.2,trivial⟩);rw[Fo.dN] at k2;simp only[Fo.tb] at k2;exact⟨k1,by omega⟩
  ·obtain⟨t1,t2⟩:=Fo.PK ha (j5 rs num i).1;obtain⟨k1,k2⟩:=D5 hm n _ _ _ _ h t1;have h4:=BE rs num i;exact⟨k1,by omega⟩
theorem S0:∀ n,MV (YV rs n)
 | 0,num,i,f,j,h=>by
  rw[YV] at h;simpa[Fo.tb] using D5 (fun m e=>by cases e) _ _ _ _ _ h trivial
 | n+1,num,i,f,j,h=>by
  rw[YV] at h;simpa[Fo.tb] using D5 (fun m e=>by cases e;exact S0 n) _ _ _ _ _ h trivial
end
theorem sR{l:List UInt8}{f:Fo}(h:uJ l = .ok f):f.hs false/\f.sh:=by
 unfold uJ at h;split at h
 ·cases h
 split at h
 ·cases h
 next h1 _ =>
 have ZM:=Vd l;have hr:(xm l).length<=1000:=by omega
 cases hp:YU (xm l) with
 | error e=>rw[hp] at h;cases h
 | ok x =>
  rw[hp] at h
  cases h;unfold YU at hp;obtain⟨g,q,h2,h3⟩:=xf (show _=Except.ok (x.1,x.2) from hp);obtain⟨hf,hm⟩:=S0 5 _ _ _ _ h2;have he:q<=(xm l).length:=bJ _ _ _ _ _ h2 (zV _);split at h3
  ·cases h3;exact⟨hf,Fo.QP _ (by omega)⟩
  ·cases h3
def Fo.Hf:Fo->Prop
 | .nil=>True
 | .text _ r=>r.Hf
 | .hash r=>r.Hf
 | .put _ _ r=>r.Hf
 | .num _ _ r=>r.Hf
 | .br _ _ _ _ _ bs r=>qz∈bs.keys/\bs.Hf/\r.Hf
 | .uf _ _ m r=>m.Hf/\r.Hf
theorem zff(cl:Nat):∀ (f:Fo) (seen:List Wd) (acc:List (Nat×Nat)),Qp cl seen acc f=[]->qz∈seen\/qz∈f.keys:=by
 have hn:∀ (f:Fo) (seen:List Wd) (acc:List (Nat×Nat)),(if Gh∈seen then acc else acc++[(6,cl)])=[]->qz∈seen\/qz∈f.keys:=fun f seen acc h=>by
  split at h
  ·next hk=>exact .inl hk
  ·simp at h
 intro f;induction f with
 | uf k a m r _ ih =>
  intro seen acc h;rw[Qp] at h;rcases ih _ _ h with h1|h1
  ·rcases zn.1 h1 with h1|h1
   ·exact .inr (by rw[Fo.keys,h1];exact List.mem_cons_self)
   ·exact .inl h1
  ·exact .inr (by rw[Fo.keys];exact List.mem_cons_of_mem _ h1)
 | nil=>intro seen acc h;exact hn .nil seen acc h
 | text _ _ _=>intro seen acc h;exact hn (.text _ _) seen acc h
 | hash _ _=>intro seen acc h;exact hn (.hash _) seen acc h
 | put _ _ _ _=>intro seen acc h;exact hn (.put _ _ _) seen acc h
 | num _ _ _ _=>intro seen acc h;exact hn (.num _ _ _) seen acc h
 | br _ _ _ _ _ _ _ _ _=>intro seen acc h;exact hn (.br _ _ _ _ _ _ _) seen acc h
theorem gi:∀ (f:Fo) (s s':Qr),vP dL f s = .go true s'->s'.2=[]->s.2=[]/\f.Hf
 | .nil,s,s',h,e=>by
  cases h;exact⟨e,trivial⟩
 | .text _ r,s,s',h,e=>gi r s s' h e
 | .hash r,s,s',h,e=>gi r s s' h e
 | .put n a r,s,s',h,e=>by
  obtain⟨h1,h2⟩:=gi r (uj s n a 0) s' h e;exact⟨Y3 h1,h2⟩
 | .num n a r,s,s',h,e=>by
  obtain⟨h1,h2⟩:=gi r (uj s n a 1) s' h e;exact⟨Y3 h1,h2⟩
 | .br n a f o c bs r,s,s',h,e=>by
  obtain⟨s1,h1⟩:∃ s1:Qr,((uj s n a (jT (.br n a f o c bs .nil))).1,(uj s n a (jT (.br n a f o c bs .nil))).2++Qp c [] [] bs)=s1:=⟨_,rfl⟩;have h2:(vP dL bs s1).then (fun s=>vP dL r s) = .go true s':=by rw[←h1];exact h
  obtain⟨s2,h3⟩:=kX bs s1;rw[h3] at h2;obtain⟨h4,h5⟩:=gi r s2 s' h2 e;obtain⟨h6,h7⟩:=gi bs s1 s2 h3 h4;rw[←h1] at h6;obtain⟨h8,h9⟩:=List.append_eq_nil_iff.1 h6;exact⟨Y3 h8,(zff c bs _ _ h9).resolve_left (by simp),h7,h5⟩
 | .uf k a m r,s,s',h,e=>by
  obtain⟨s1,h1⟩:=kX m s;have h2:(vP dL m s).then (fun s=>vP dL r s) = .go true s':=h;rw[h1] at h2;obtain⟨h4,h5⟩:=gi r s1 s' h2 e;obtain⟨h6,h7⟩:=gi m s s1 h1 h4;exact⟨h6,h7,h5⟩
theorem sS{f:Fo}(h:ZP f=none):f.Hf:=by
 obtain⟨s,hs⟩:=kX f ((fun _=>none),[]);have e:je f=s.2:=by unfold je;rw[hs]
 unfold ZP at h;refine(gi f _ s hs ?_).2;rw[←e]
 cases hq:je f with
 | nil=>rfl
 | cons a t=>rw[hq] at h;cases h
theorem Fo.Yo{N:Nat}:∀ (b:Bool) (f:Fo),f.wf N=true->f.once->f.Hf->f.hs b->f.Bs b
 | _,.nil,_,_,_,_=>trivial
 | b,.text t r,w,o,t2,h=>Fo.Yo b r w o t2 h
 | b,.hash r,w,o,t2,h=>⟨h.1,Fo.Yo b r w o t2 h.2⟩
 | b,.put _ _ r,w,o,t2,h=>by
  simp only[Fo.wf,zg] at w;exact Fo.Yo b r w.2 o t2 h
 | b,.num _ _ r,w,o,t2,h=>by
  simp only[Fo.wf,zg] at w;exact Fo.Yo b r w.2 o t2 h
 | b,.br _ _ f _ _ bs r,w,o,t2,h=>by
  simp only[Fo.wf,zg] at w;exact⟨w.1.1.1.2,o.1,t2.1,Fo.Yo _ bs w.1.2 o.2.1 t2.2.1 h.1,Fo.Yo b r w.2 o.2.2 t2.2.2 h.2⟩
 | b,.uf _ _ m r,w,o,t2,h=>by
  simp only[Fo.wf,zg] at w;exact⟨w.1.1.1.2,Fo.Yo b m w.1.2 o.1 t2.1 h.1,Fo.Yo b r w.2 o.2 t2.2 h.2⟩
theorem lh{l:List UInt8}{f:Fo}(h:uJ l = .ok f)(hc:ZP f=none):f.vG=true/\f.Bs false/\f.YF/\f.sh/\f.cw<=90000:=by
 have hg:=XS h;obtain⟨h1,h2⟩:=sR h;obtain⟨h3,h4⟩:=Lg h hc;exact⟨hg.msg,Fo.Yo false f hg.wf (Lq hc) (sS hc) h1,h3,h2,by omega⟩
abbrev Hd:=Wd×List UInt8
def jK(w:World)(v:Value)(rs:List Hd):Prop :=
 ∃ a cap,v = .slice a rs.length cap/\∀ j (h:j<rs.length),∃ g o,a=some ⟨g,o,none⟩/\w.cell? ⟨g,o+j*2,none⟩=some (xk rs[j].1)/\w.cell? ⟨g,o+j*2+1,none⟩=some (xk rs[j].2)
theorem jK.below{w w':World}{v:Value}{rs:List Hd}(h:jK w v rs)(hb:Below w.heap.size w w'):jK w' v rs:=by
 obtain⟨a,cap,hv,h⟩:=h;refine⟨a,cap,hv,fun j hj=>?_⟩;obtain⟨g,o,e1,e2,e3⟩:=h j hj;exact⟨g,o,e1,(hb.cell (zx w _ e2)).trans e2,(hb.cell (zx w _ e3)).trans e3⟩
def D6(n:Wd):Int:=Lib.idxOfS ZQ ⟨n.toArray⟩
def ZA:List Hd->List Wd->List (Nat×qR)->Option (List (Nat×qR))
 | [],_,acc=>some acc
 |(n,c)::t,seen,acc=>match BG c with
  | none=>none
  | some T=>if D6 n<0\/n∈seen then none else ZA t (n::seen) (acc++[((D6 n).toNat,T)])
def ZL(rs:List Hd):Option (List (Nat×qR)):=ZA rs [[111,116,104,101,114]] []
theorem mz:Zq prog 135 216 (.agg #[.int .i64 0,.nilFunc]) 2 16 :=
 ⟨underlying135,info_parts (by kernel_rfl),rfl,by decide,by decide⟩
def Za(lo:Nat)(w:World)(sv:Value)(S:List (Nat×qR)):Prop :=
 ∃ vs:List Value,w.ownsRow lo 216 2 sv S.length vs /\
  ∀ j (h:j<S.length),∃ u l h',vs[j*2]? = some (.int .i64 S[j].1)/\vs[j*2+1]? = some u/\lo<=l/\h'<=w.heap.size/\(∀ g,sv.ownBlock=some g->g<l\/h'<=g)/\j6 l h' w u S[j].2
theorem Za.nil(lo:Nat)(w:World):Za lo w (.slice none 0 0) []:=⟨[],yk _ _ _ _,fun j h=>absurd h (yb j)⟩
theorem Za.form{lo:Nat}{w:World}{sv:Value}{S:List (Nat×qR)}(h:Za lo w sv S):∃ a cap,sv = .slice a S.length cap:=by
 obtain⟨vs,ho,_⟩:=h;exact xd ho
theorem Za.lt{lo:Nat}{w:World}{sv:Value}{S:List (Nat×qR)}(h:Za lo w sv S):∀ g,sv.ownBlock=some g->lo<=g/\g<w.heap.size:=by
 obtain⟨vs,ho,_⟩:=h;exact ho.lt
theorem Za.but{lo b:Nat}{w w':World}{sv:Value}{S:List (Nat×qR)}(h:Za lo w sv S)(hb:xP b w w')(xc:sv.ownBlock≠some b)
  (hl:b<lo\/w.heap.size<=b):Za lo w' sv S:=by
 obtain⟨vs,ho,ht⟩:=h;refine⟨vs,ho.kept (row:=some b) ⟨hb.os,hb.tape,hb.output,hb.size,fun i hi hn=>hb.block i hi (fun e=>hn (by rw[e]))⟩ (.inr xc),fun j hj=>?_⟩;obtain⟨u,l,h',e1,e2,e3,e4,e5,e6⟩:=ht j hj;refine⟨u,l,h',e1,e2,e3,zX e4 hb.size,e5,e6.keep ⟨zX e4 hb.size,fun k k1 k2=>hb.block k (by omega) (by omega)⟩ (z8 _) (z8 _)⟩
theorem Za.below{lo:Nat}{w w':World}{sv:Value}{S:List (Nat×qR)}(h:Za lo w sv S)(hb:Below w.heap.size w w'):Za lo w' sv S :=
 h.but (xP.of (p:=w.heap.size) hb) (fun e=>by have:=(h.lt _ e).2;omega) (.inr (z8 _))
theorem C7{k:TypeId}{R:Value->Option (DataW Unit×List MemPlace)}{b n:Nat}{D:DataW Unit}{w w':World}(h:w.ownsMap prog k R b n D)(hb:Below w.heap.size w w'):w'.ownsMap prog k R b n D :=
 h.kept (row:=none) ⟨hb.os,hb.tape,hb.output,hb.size,fun i hi _=>hb.block i hi⟩ (by simp)
theorem my(fn:Fn)(first cap:Array Value)(w:World):(binOp .eql 214 (.func fn first cap) .nilFunc).run prog w = .ok (.bool false) w:=by
 have h:∀ d:Nat,(zm (d+1) 214 (.func fn first cap) .nilFunc).run prog w = .ok false w:=fun d=>by
  simp[zm,run_underlying underlying214]
 simp only[binOp];simp[Op.equal,Op.maxDepth,h 9999]
theorem MU(w:World):(binOp .eql 214 .nilFunc .nilFunc).run prog w = .ok (.bool true) w:=by
 have h:∀ d:Nat,(zm (d+1) 214 .nilFunc .nilFunc).run prog w = .ok true w:=fun d=>by
  simp[zm,run_underlying underlying214]
 simp only[binOp];simp[Op.equal,Op.maxDepth,h 9999]
theorem Za.more{lo l0 h0:Nat}{w w1 w':World}{sv QQ:Value}{S:List (Nat×qR)}{q:Nat×qR}{vs:List Value}{u:Value}
  (ht:∀ j (h:j<S.length),∃ u l h',vs[j*2]? = some (.int .i64 S[j].1)/\vs[j*2+1]? = some u/\lo<=l/\h'<=w.heap.size/\(∀ g,sv.ownBlock=some g->g<l\/h'<=g)/\j6 l h' w u S[j].2) (DW:vs.length=S.length*2)
  (hT:j6 l0 h0 w u q.2) (Ai:lo<=l0) (Mn:h0<=w.heap.size) (A1:∀ g,sv.ownBlock=some g->g<l0\/h0<=g)
  (hb:Below w.heap.size w w1) (uW:w1.grownBy w' sv.ownBlock) (VG:QQ.ownBlock=sv.ownBlock\/QQ.ownBlock=some w1.heap.size) (ho:w'.ownsRow lo 216 2 QQ (S.length+1) (vs++[.int .i64 q.1,u])) :
  Za lo w' QQ (S++[q]):=by
 have Kt:∀ l h',h'<=w.heap.size->(∀ g,sv.ownBlock=some g->g<l\/h'<=g)->vQ l h' w w':=by
  intro l h' hh hg;refine⟨zX hh (zX hb.size uW.size),fun k k1 k2=>?_⟩;rw[uW.block k (by have:=hb.size;omega) (fun e=>by rcases hg k e.symm with q|q<;>omega)];exact hb.block k (by omega)
 have M6:∀ l h',h'<=w.heap.size->(∀ g,sv.ownBlock=some g->g<l\/h'<=g)->∀ g,QQ.ownBlock=some g->g<l\/h'<=g:=by
  intro l h' hh hg g e;rcases VG with q|q
  ·exact hg g (q▸e)
  ·rw[q] at e
   cases e;exact .inr (zX hh hb.size)
 refine⟨vs++[.int .i64 q.1,u],by simpa using ho,fun j hj=>?_⟩;by_cases Qi:j<S.length
 ·obtain⟨x,l,h',e1,e2,e3,e4,e5,e6⟩:=ht j Qi;refine⟨x,l,h',?_,?_,e3,zX e4 (zX hb.size uW.size),M6 l h' e4 e5,?_⟩
  ·rw[ze (by omega),zo Qi];exact e1
  ·rw[ze (by omega)];exact e2
  ·rw[zo Qi];exact e6.keep (Kt l h' e4 e5) (z8 _) (z8 _)
 ·have e:j=S.length:=by simp at hj;omega
  subst e;refine⟨u,l0,h0,?_,?_,Ai,zX Mn (zX hb.size uW.size),M6 l0 h0 Mn A1,?_⟩
  ·rw[zS (by omega),DW,zc (by omega)];simp
  ·rw[zS (by omega),DW];simp
  ·rw[zc (by omega)];simpa using hT.keep (Kt l0 h0 Mn A1) (z8 _) (z8 _)
theorem Za.set{lo cap:Nat}{w:World}{a:Option Addr}{S:List (Nat×qR)}(h:Za lo w (.slice a S.length cap) S):JR lo w.heap.size w a S:=by
 obtain⟨vs,ho,ht⟩:=h;intro j hj;obtain⟨u,l,h',e1,e2,e3,e4,e5,e6⟩:=ht j hj;obtain⟨g,ve,hv,hg,ft,hc⟩:=xl ho (by omega)
 cases hv;refine⟨g,0,u,rfl,?_,?_,hg,ft,e6.keep (vx e4) e3 e4⟩
 ·rw[zM,hc (j*2) (by omega)];exact e1
 ·rw[zM,hc (j*2+1) (by omega)];exact e2
def yl9(r:Option (List (Nat×qR)))(w:World)(e:Ending)(w':World):Prop :=
 (match r with|none=>e = .returned (.tuple #[.slice none 0 0,.bool false])|some S=>∃ a c,e = .returned (.tuple #[.slice a S.length c,.bool true])/\JR w.heap.size w'.heap.size w' a S)/\Below w.heap.size w w'
def S1(D:DataW Unit)(seen:List Wd):Prop:=Maps.IsMap D/\∀ n:Wd,∃ c:Int,D.atKey (.string n) (.lit (.int .i64 0)) = .lit (.int .i64 c)/\(0<c ↔ n∈seen)/\0<=c/\c<=seen.length
def sT(rs:List Hd)(r:Option (List (Nat×qR)))(mb:Nat)(w:World)(sv:Value)(k:Nat)(wr:World):Prop :=
 ∃ (S:List (Nat×qR)) (seen:List Wd) (D:DataW Unit),Za (mb+1) wr sv S/\wr.ownsMap prog 9 (plainElem prog 3) mb (k+1) D/\S1 D seen/\seen.length<=k+1/\Below w.heap.size w wr/\w.heap.size<=mb /\
  S.length<=k/\ZA (rs.drop k) seen S=r
theorem PJ:S1 ((DataW.map []:DataW Unit).put (.string [111,116,104,101,114]) (.lit (.int .i64 1))) [[111,116,104,101,114]]:=by
 refine⟨⟨_,rfl⟩,fun n=>?_⟩;by_cases h:n=[111,116,104,101,114]
 ·subst h;exact⟨1,by kernel_rfl,by simp,by decide,by simp⟩
 ·refine⟨0,?_,by simp[h],by decide,by simp⟩;rw[yx (by simpa using h)];rfl
theorem WI{D:DataW Unit}{seen:List Wd}{n:Wd}(h:S1 D seen){c:Int}(hc:D.atKey (.string n) (.lit (.int .i64 0)) = .lit (.int .i64 c)):S1 (D.put (.string n) (.lit (.int .i64 (c+1)))) (n::seen):=by
 obtain⟨⟨es,rfl⟩,h2⟩:=h;refine⟨⟨_,rfl⟩,fun m=>?_⟩;by_cases hm:m=n
 ·subst hm;obtain⟨c',e1,e2,e3,e4⟩:=h2 m;rw[hc] at e1
  cases e1;exact⟨c+1,Maps.atKey_put_same ⟨_,rfl⟩ (by trivial) _ _,by simp;omega,by omega,by simp;omega⟩
 ·obtain⟨c',e1,e2,e3,e4⟩:=h2 m;refine⟨c',?_,by simp[hm,e2],e3,by simp;omega⟩;rw[yx (by simpa using hm)];exact e1
theorem D7(rs:List Hd)(v:Value)(w:World)(hv:jK w v rs)(hl:rs.length<=1000000)(hz:∀ q∈rs,q.1.length<=1000000/\q.2.length<=1000000)(hT:Rt w)(hN:qd w) :
  Calls prog 59 #[v] w (yl9 (ZL rs) w):=by
 obtain⟨a,cap,rfl,xi⟩:=hv;obtain⟨r,hr⟩:=xX (ZL rs);rw[hr];have HR:=z7 hr;have HC:=z7 xi;have HZ:=z7 hz;have HT:=z7 hT;have HN:=z7 hN;have MA:=@run_makeMap prog;clear hr xi hz hT hN;go_enter func59,ntmps59;go_wp2;obtain⟨w1,vF,Vi,uW⟩:=(World.ownsMap_made (H:=Unit) w prog 9 (plainElem prog 3)).update (zL underlying9) underlying185 (by unfold maxLen;omega) (zJ (s:=⟨#[111,116,104,101,114]⟩) underlying9 (by decide)) (plainElem_int underlying3 (q := .i64) (a:=1) (by decide));rw[vF];simp only[Result.andThen];have hb:Below w.heap.size w w1:=((zk _ _).alloc (z8 _) _).grown uW (by simp) (fun j hj=>by cases hj;exact z8 _);have VB:=z7 Vi;clear vF Vi uW;obtain⟨mb,Hy⟩:∃ mb,mb=w.heap.size:=⟨_,rfl⟩;rw[←Hy] at VB;go_wp2;rw[←Hy];have O7:=z7 Hy;clear Hy;go_loopw [2,13] (fun sv i wr=>∃ k:Nat,k<=rs.length/\i = .int .i64 k/\sT rs r mb w sv k wr) (fun _ i _=>rs.length - (intOf i).toNat)
 case atStart=>exact⟨0,zV _,rfl,[],[[111,116,104,101,114]],_,Za.nil _ _,VB.out,PJ,by simp,hb,by have:=O7.out;omega,by simp,HR.out⟩
 case round =>
  obtain⟨k,hk,rfl,S,seen,D,vD,yy0,zyv,fU,qG,yy1,hSk,jM⟩:=hrel;have qV:=z7 vD;have yy2:=z7 yy0;have zyu:=z7 zyv;have b8:=z7 jM;obtain⟨sa,sc,rfl⟩:=vD.form;clear vD yy0 zyv jM hb;by_cases xD:k<rs.length
  ·obtain⟨g,o,rfl,c1,c2⟩:=HC.out k xD;have d1:=(qG.cell (zx w _ c1)).trans c1;have d2:=(qG.cell (zx w _ c2)).trans c2;clear c1 c2;go_wp2_with fail;have hzk:=HZ.out rs[k] (List.getElem_mem xD);obtain⟨nm,BF⟩:=xX (rs[k].1);obtain⟨wh,hwh⟩:=xX (rs[k].2);rw[BF,hwh] at hzk;rw[BF] at d1 ⊢;rw[hwh] at d2 ⊢;have F:∃ W,W=wr.alloc (.cells #[xk nm,xk wh] 71)/\Below wr.heap.size wr W/\W.cell? ⟨wr.heap.size,0,none⟩=some (xk nm)/\W.cell? ⟨wr.heap.size,1,none⟩=some (xk wh):=⟨_,rfl,(zk _ _).alloc (z8 _) _,xu _ _ _ _ _,xu _ _ _ _ _⟩;obtain⟨W,hW,jC,b0,b1⟩:=F;rw[←hW];have kF:ZA (rs.drop k) seen S=match BG wh with
     | none=>none
     | some T=>if D6 nm<0\/nm∈seen then none else ZA (rs.drop (k+1)) (nm::seen) (S++[((D6 nm).toNat,T)]):=by
    rw[zi xD];have hp:rs[k]=(nm,wh):=by rw[←BF,←hwh]
    rw[hp,ZA]
   rw[b8.out] at kF;have jX:=z7 kF;have NN:Below w.heap.size w W:=qG.trans (jC.mono qG.size);obtain⟨B,hB⟩:∃ B,B=wr.heap.size:=⟨_,rfl⟩;rw[←hB] at b0 b1 ⊢;have HBB:=z7 hB;clear hW kF BF hwh d1 d2 hB;have jo:W.drew.cell? ⟨B,0,none⟩=some (xk nm):=b0;refine rt (fun W':World=>W'.cell? ⟨B,0,none⟩=some (xk nm)) [0,1,2] 2 jo ?_;(iterate 3 ((first|refine ty ?_|refine tn ?_);try simp only[pl]))
   refine xq ?_;refine kR 3 (fun K hK=>?_);go_simp;have XI:qd W.drew:=HN.out.below (show Below w.heap.size w W.drew from NN.drew);refine(Tryz.slices_Index_string 0 0 6 6 ZQ ⟨nm.toArray⟩ _ (by decide) (by decide) (fun j hj=>by rw[zM];exact XI j hj)).mono ?_;rintro e w' ⟨rfl,rfl⟩;refine hK.out _ _ jo (fun _=>?_);clear hK K;refine Vv [4] 0 jo ?_;(iterate 1 ((first|refine ty ?_|refine tn ?_);try simp only[pl]))
   refine xq ?_;refine bX ?_ _;have Im:Lib.idxOfS (ZQ.take 6) ⟨nm.toArray⟩=D6 nm:=rfl;rw[Im];obtain⟨ix,yy3⟩:=xX (D6 nm);rw[yy3] at jX ⊢;have hcnd:=B4 ⟨wh.toArray⟩ W.drew (by rw[size_mk];omega) (HT.out.below NN.drew);rw[toList_mk] at hcnd;have ylz:=z7 hcnd;have b1d:W.drew.cell? ⟨B,1,none⟩=some (xk wh):=b1;clear Im yy3 hcnd XI;go_wp2_with fail;refine ylz.out.mono ?_;rintro e w3 ⟨hq,uP⟩;have mq:Below W.heap.size W w3:=(zk _ W).drew.trans uP;have X8:Below w.heap.size w w3:=NN.trans (mq.mono NN.size);have hB:B<W.heap.size:=zx W _ b0;have e0:=(mq.cell (p:=⟨B,0,none⟩) hB).trans b0;have My:=z7 ((qV.out.below jC).below mq);have mg:=z7 (C7 (C7 yy2.out jC) mq);obtain⟨c,IZ,VG,Jp⟩:=mg.out.lookup_int (zL underlying9) underlying185 underlying3 (q := .i64) (by first|rfl|simp[go_sem]) (key:=xk nm) (zJ (s:=⟨nm.toArray⟩) underlying9 (by rw[size_mk];unfold maxLen;omega));rw[toList_mk] at VG;obtain⟨c',uL,ue,Mc,QS⟩:=zyu.out.2 nm;rw[uL] at VG
   cases VG;have hef:=my;have fL:=MU
   cases hc:BG wh with
   | none =>
    rw[hc] at hq;obtain rfl:=hq;have hrn:r=none:=by rw[jX.out,hc]
    have ai:=z7 hrn;clear hc hrn ue uL;by_cases h1:ix<0
    ·have g1:decide (ix<0)=true:=decide_eq_true h1;go_wp2;go_ret2
     refine⟨?_,X8⟩;rw[ai.out];rfl
    ·have g1:decide (ix<0)=false:=decide_eq_false h1;by_cases h2:0<c
     ·have g2:decide (0<c)=true:=decide_eq_true h2;go_wp2;go_ret2
      refine⟨?_,X8⟩;rw[ai.out];rfl
     ·have g2:decide (0<c)=false:=decide_eq_false h2;go_wp2;go_ret2
      refine⟨?_,X8⟩;rw[ai.out];rfl
   | some T =>
    rw[hc] at hq;obtain⟨tv,rfl,Wc⟩:=hq;have vH:=jX.out;rw[hc] at vH;dsimp only at vH;have zfd:=z7 vH;have HFT:=z7 Wc;obtain⟨kf,bZ,rfl,_⟩:=Wc;clear hc vH;by_cases h1:ix<0
    ·have g1:decide (ix<0)=true:=decide_eq_true h1;have hrn:r=none:=by rw[zfd.out,if_pos (.inl h1)]
     have ai:=z7 hrn;clear hrn ue uL;go_wp2;go_ret2
     refine⟨?_,X8⟩;rw[ai.out];rfl
    ·have g1:decide (ix<0)=false:=decide_eq_false h1;by_cases h2:0<c
     ·have g2:decide (0<c)=true:=decide_eq_true h2;have hrn:r=none:=by rw[zfd.out,if_pos (.inr (ue.1 h2))]
      have ai:=z7 hrn;clear hrn ue uL;go_wp2;go_ret2
      refine⟨?_,X8⟩;rw[ai.out];rfl
     ·obtain rfl:c=0:=by omega
      have hns:¬nm∈seen:=fun hm=>h2 (ue.2 hm)
      have hrc:ZA (rs.drop (k+1)) (nm::seen) (S++[(ix.toNat,T)])=r:=by rw[zfd.out,if_neg (fun q=>q.elim h1 hns)]
      have Iz:=z7 hrc;have gC:=z7 uL;obtain⟨iN,hiN⟩:∃ iN:Nat,ix=(iN:Int):=⟨ix.toNat,by omega⟩;subst hiN;rw[Int.toNat_natCast] at Iz;obtain⟨w4,xb0,mf,jq⟩:=mg.out.update (zL underlying9) underlying185 (by unfold maxLen;omega) (key:=xk nm) (zJ (s:=⟨nm.toArray⟩) underlying9 (by rw[size_mk];unfold maxLen;omega)) (plainElem_int underlying3 (q := .i64) (a:=1) (by decide));rw[toList_mk] at mf;have dT:xP mb w3 w4:=⟨jq.os,jq.tape,jq.output,jq.size,fun i hi hn=>jq.block i hi (fun e=>hn (by cases e;rfl))⟩;have xb1:=mg.out.lt;have M8:Za (mb+1) w4 (.slice sa S.length sc) S:=My.out.but dT (fun e=>by have:=(My.out.lt _ e).1;omega) (.inl (Nat.lt_succ_self _));have XK:Below w.heap.size w w4:=X8.grown jq X8.size (fun q hq=>by cases hq;exact yy1);have hmW:mb<wr.heap.size:=yy2.out.lt;have yy4:j6 W.drew.heap.size w3.heap.size w4 (.func (.func kf) #[] bZ) T:=HFT.out.keep ⟨jq.size,fun j j1 j2=>jq.block j j2 (fun e=>by cases e;have:=jC.size;change W.heap.size<=mb at j1;omega)⟩ (z8 _) (z8 _);have yly:=z7 yy4;have yy5:=z7 mf;obtain⟨vs,UT,ly⟩:=M8;have DE:=z7 UT;have Dd:=z7 ly;have e04:w4.cell? ⟨B,0,none⟩=some (xk nm):=dT.cell e0 (by show B≠mb;have:=HBB.out;omega);clear uL ue hrc yy4 mf UT ly hns h1 h2;go_wp2_with (at_builtin;refine Yi mz rfl _ _ rfl (mb+1) _ S.length vs rfl (DE.out.alloc _) ⟨w4.heap.size,0,none⟩ 1 1 [.int .i64 iN,.func (.func kf) #[] bZ] rfl rfl ?k1 ?k2 ?k3 ?k4 ?_)
      case k1 =>
       intro j u hu;rw[vS];match j,hu with
       | 0,hu=>simp at hu;subst hu;exact xu _ _ _ _ _
       | 1,hu=>simp at hu;subst hu;exact xu _ _ _ _ _
      case k2 =>
       intro u hu;simp at hu;rcases hu with rfl|rfl<;>rfl
      case k3=>omega
      case k4=>have:=jq.size;have:=jC.size;have:=mq.size;simp;omega
      intro QQ w5 jW qc Fp;have ZB:Below w4.heap.size w4 (w4.alloc (.cells #[.int .i64 iN,.func (.func kf) #[] bZ] 216)):=(zk _ _).alloc (z8 _) _;have Xh:Za (mb+1) w5 QQ (S++[(iN,T)]) :=
       Za.more Dd.out (by have:=DE.out.1;omega) yly.out (by have:=jC.size;show mb+1<=W.heap.size;omega) jq.size (fun q hq => .inl (by have:=(qV.out.lt q hq).2;have:=jC.size;show q<W.heap.size;omega)) ZB qc (by simpa using Fp) jW
      have zyk:=(yy5.out.alloc (.cells #[.int .i64 iN,.func (.func kf) #[] bZ] 216)).kept qc (fun e=>by have:=(qV.out.lt mb e.symm).1;omega);have Un:Below w.heap.size w w5:=(XK.alloc XK.size _).grown qc (by have:=XK.size;simp;omega) (fun q hq=>by have:=(qV.out.lt q hq).1;omega);obtain⟨a5,c5,rfl⟩:=xd jW;have Fs:=z7 Xh;have yy6:=z7 zyk;clear Xh zyk jW qc Fp ZB;go_wp2;go_roundw
      case rel=>exact⟨k+1,by omega,by go_num,S++[(iN,T)],nm::seen,_,by simpa using Fs.out,yy6.out,WI zyu.out gC.out,by simp;omega,Un,yy1,by simp;omega,Iz.out⟩
      case measure=>simp[intOf];omega
  ·obtain rfl:k=rs.length:=by omega
   have jM:=b8.out;rw[zw (z8 _)] at jM;have hr:r=some S:=by rw[←jM,ZA]
   have gG:=z7 hr;clear jM hr;go_wp2;go_ret2
   refine⟨?_,qG⟩;rw[gG.out];exact⟨sa,sc,rfl,qV.out.set.keep (vx (z8 _)) (by omega) (z8 _)⟩
def UL:List Hd:=[([111,110,101],[105,32,61,32,49,32,97,110,100,32,118,32,61,32,48])]
def Es:List Hd:=[([111,110,101],[110,32,37,32,49,48,32,61,32,49,32,97,110,100,32,110,32,37,32,49,48,48,32,33,61,32,49,49]),([116,119,111],[110,32,37,32,49,48,32,61,32,50,32,97,110,100,32,110,32,37,32,49,48,48,32,33,61,32,49,50]),([102,101,119],[110,32,37,32,49,48,32,61,32,51,32,97,110,100,32,110,32,37,32,49,48,48,32,33,61,32,49,51])]
theorem Jd(w:World):Calls prog 15 #[] w fun e w'=>(∃ c o,e = .returned (Dh c o 45 46 44 3 0 ⟨#[]⟩)/\jK w' c UL/\jK w' o Es)/\Below w.heap.size w w':=by
 go_enter func15,ntmps15;go_wp2;refine bodyPost_ret (v:=Dh (.slice (some ⟨w.heap.size+1,0,none⟩) 1 1) (.slice (some ⟨w.heap.size+1+1+1,0,none⟩) 3 3) 45 46 44 3 0 ⟨#[]⟩) ?_ rfl ⟨⟨_,_,rfl,⟨_,_,rfl,fun j hj=>⟨_,_,rfl,?_,?_⟩⟩,⟨_,_,rfl,fun j hj=>⟨_,_,rfl,?_,?_⟩⟩⟩,?_⟩
 ·simp[results,results15,go_sem]
 ·obtain rfl:j=0:=by have:j<1:=hj;omega
  go_simp;rfl
 ·obtain rfl:j=0:=by have:j<1:=hj;omega
  go_simp;rfl
 ·have:j<3:=hj;match j,this with
  | 0,_=>(go_simp;rfl)
  | 1,_=>(go_simp;rfl)
  | 2,_=>(go_simp;rfl)
 ·have:j<3:=hj;match j,this with
  | 0,_=>(go_simp;rfl)
  | 1,_=>(go_simp;rfl)
  | 2,_=>(go_simp;rfl)
 ·(repeat(first|(with_reducible exact zk _ _)|(with_reducible refine Below.alloc ?_ ?_ _;rotate_left;focus(first|(simp;done)|(simp;omega)))|(with_reducible refine Below.setCell ?_ ?_ _;rotate_left;focus(first|(simp;done)|(simp;omega)))))
def zfb(S:List (Nat×qR))(W:World)(u:Value):Prop:=∃ a c hi,u = .slice a S.length c/\JR 0 hi W a S/\hi<=W.heap.size
theorem bE(rs:List Hd)(S:List (Nat×qR))(v:Value)(w:World)(hv:jK w v rs)(hl:rs.length<=1000000)(hz:∀ q∈rs,q.1.length<=1000000/\q.2.length<=1000000)(hT:Rt w)(hN:qd w)(hS:ZL rs=some S) :
  qZ w v true (zfb S):=by
 intro W hW;refine(D7 rs v W (hv.below hW) hl hz (hT.below hW) (hN.below hW)).mono ?_;rintro e w1 ⟨hq,hb⟩;rw[hS] at hq;obtain⟨a,c,he,hr⟩:=hq;refine⟨⟨_,_,_,he,fun W2 hA=>⟨a,c,w1.heap.size,rfl,?_,hA.1⟩⟩,hb⟩;exact hr.keep (lo':=0) (hi':=w1.heap.size) ⟨hA.1,fun k h1 h2=>hA.2 k (.inr ⟨h1,h2⟩)⟩ (zV _) (z8 _)
theorem jK.slice{w:World}{v:Value}{rs:List Hd}(h:jK w v rs):∃ a n k,v = .slice a n k:=by
 obtain⟨a,cap,hv,-⟩:=h;exact⟨a,_,cap,hv⟩
theorem gK:(∀ q∈UL,q.1.length<=1000000/\q.2.length<=1000000)/\∀ q∈Es,q.1.length<=1000000/\q.2.length<=1000000:=by decide
def D8:List (Nat×qR):=(ZL UL).getD []
def D9:List (Nat×qR):=(ZL Es).getD []
theorem dD:ZL UL=some D8/\ZL Es=some D9:=by
 have h:(ZL UL).isSome=true/\(ZL Es).isSome=true:=by constructor<;>kernel_rfl
 constructor
 ·obtain⟨S,hS⟩:=zO.1 h.1;unfold D8;rw[hS];rfl
 ·obtain⟨S,hS⟩:=zO.1 h.2;unfold D9;rw[hS];rfl
abbrev si(s:List UInt8):Dg:=(vL s,u9 s)
theorem C8{l:List UInt8}(h:uD l=true):(vL l).all xJ=true/\(u9 l).all xJ=true/\0<(vL l).length/\(vL l).length+(u9 l).length<=30:=by
 simp only[uD,Qj,zg,Bool.or_eq_true,decide_eq_true_eq] at h;have hw:=h.1.1.1.1;have hf:=h.1.1.1.2;simp only[vW,zg] at hw;refine⟨hw.1,?_,?_,h.1.1.2⟩
 ·rcases hf with hf|hf
  ·have hp:¬(VL l).idxOf 46<(VL l).length:=by simpa[YI] using hf
   have:u9 l=[]:=by unfold u9;exact zw (by omega)
   rw[this];rfl
  ·simp only[vW,zg] at hf;exact hf.1
 ·have:=hw.2
  cases hl:vL l with
  | nil=>rw[hl] at this;cases this
  | cons a b=>simp
theorem zd0{l:List UInt8}(h:uD l=true):EV (si l):=by
 obtain⟨h1,h2,h3,h4⟩:=C8 h;exact⟨h1,h2,(fun q=>by rw[show vL l=[] from q] at h3;cases h3),by show(vL l).length<=100;omega,by show(u9 l).length<=100;omega⟩
def nmC(k:Nat):Wd:=(ZQ.getD k zI).data.toList
def V5(rs:List Hd)(s:List UInt8):Wd:=match ZL rs with|none=>[]|some S=>if uD s=true then nmC (Rh S (si s)) else []
def V6(rs:List Hd)(s:List UInt8):Int:=match ZL rs with|none=>9|some _=>if uD s=true then 0 else 10
def zyj(rs:List Hd)(s:List UInt8)(w:World)(e:Ending)(w':World):Prop:=e = .returned (.tuple #[xk (V5 rs s),OJ (V6 rs s)])/\Below w.heap.size w w'
theorem mZ(x:ByteArray):∀ (zs:List ByteArray) (i:Nat),yy zs x i<(i+zs.length:Nat)
 | [],i=>by simp[yy];omega
 | z::zs,i=>by
  rw[yy];split
  ·simp;omega
  ·have:=mZ x zs (i+1);simp only[zu];omega
theorem mY(n:Wd):D6 n<6:=by
 have h:=mZ ⟨n.toArray⟩ ZQ 0;have e:ZQ.length=6:=by decide
 rw[e] at h;exact h
theorem C9:∀ (rs:List Hd) (seen:List Wd) (acc S:List (Nat×qR)),ZA rs seen acc=some S->(∀ q∈acc,q.1<6)->S.length=acc.length+rs.length/\∀ q∈S,q.1<6
 | [],_,acc,S,h,ha=>by cases h;exact⟨by simp,ha⟩
 |(n,c)::t,seen,acc,S,h,ha=>by
  rw[ZA] at h;split at h
  ·cases h
  ·split at h
   ·cases h
   ·next hn =>
    have:=C9 t _ _ S h fun q hq=>by
     rcases zN.1 hq with hq|hq
     ·exact ha q hq
     ·have:=mY n;simp at hq;subst hq;simp only;omega
    refine⟨?_,this.2⟩;rw[this.1];simp;omega
theorem Cz{rs:List Hd}{S:List (Nat×qR)}(h:ZL rs=some S):S.length=rs.length/\∀ q∈S,q.1<6:=by
 have:=C9 rs _ [] S h (by simp);simpa using this
theorem mX{rs:List Hd}{S:List (Nat×qR)}(h:ZL rs=some S)(d:Dg):Rh S d<6:=by
 have hS:=(Cz h).2;unfold Rh;split
 ·next q hq=>exact hS q (za hq)
 ·decide
theorem JR.yy7{lo hi:Nat}{w w':World}{a:Option Addr}{S:List (Nat×qR)}(h:JR lo hi w a S)(hb:Below hi w w')(hh:hi<=w.heap.size):JR lo hi w' a S :=
 h.keep (vU (lo:=lo) hb (z8 _) hh) (z8 _) (z8 _)
theorem mV(rs:List Hd)(v:Value)(s:ByteArray)(w:World)(hv:jK w v rs)(hl:rs.length<=1000000)(hz:∀ q∈rs,q.1.length<=1000000/\q.2.length<=1000000)(hs:s.size<=1000000)(hT:Rt w)(hN:qd w) :
  Calls prog 41 #[v,.string s] w (zyj rs s.data.toList w):=by
 have yy8:=z7 (D7 rs v w hv hl hz hT hN);have HN:=z7 hN;obtain⟨va,vn,vc,rfl⟩:∃ a n c,v = .slice a n c:=by obtain⟨a,c,rfl,_⟩:=hv;exact⟨_,_,_,rfl⟩
 have Ai:=z7 hl;clear hv hz hT hN hl;go_enter func41,ntmps41;go_wp2_with fail;refine yy8.out.mono ?_;rintro e w1 ⟨hq,xB⟩
 cases hr:ZL rs with
 | none =>
  rw[hr] at hq;subst hq;have HT:=z7 (show V5 rs s.data.toList=[] by unfold V5;rw[hr]);have HC:=z7 (show V6 rs s.data.toList=9 by unfold V6;rw[hr]);clear hr;go_wp2;go_ret2
  exact⟨by rw[HT.out,HC.out];rfl,xB⟩
 | some S =>
  rw[hr] at hq;obtain⟨a,c,rfl,T4⟩:=hq;have ylv:=z7 T4;have HR:=z7 hr;clear hr T4;go_wp2_with fail;refine(Y4 s _ hs).mono ?_;rintro e w2 ⟨b,pv,k,rfl,⟨pa,pn,pk,rfl⟩,xF,vV⟩;have uK:=xB.trans (xF.mono xB.size)
  cases hn:uD s.data.toList
  ·have HT:=z7 (show V5 rs s.data.toList=[] by unfold V5;rw[HR.out];dsimp only;rw[hn];rfl);have HC:=z7 (show V6 rs s.data.toList=10 by unfold V6;rw[HR.out];dsimp only;rw[hn];rfl);clear hn vV;go_wp2;go_ret2
   exact⟨by rw[HT.out,HC.out];rfl,uK.alloc uK.size _⟩
  ·obtain⟨rfl,rfl,xV⟩:=vV hn;have ku:=zd0 hn;obtain⟨d1,d2,wH,h30⟩:=C8 hn;obtain⟨g,cap,hpv,_,_,_,_⟩:=RF xV (by omega)
   cases hpv;have Jv:uR w2 (.agg #[.bool (YH s.data.toList),.slice (some ⟨g,0,none⟩) ((vL s.data.toList).length+(u9 s.data.toList).length) pk,.int .i64 (si s.data.toList).2.length]) (si s.data.toList) :=
    VU (d:=vL s.data.toList++u9 s.data.toList) rfl (by simp) xV ku
   have hlen:=Cz HR.out;have hof:Rh S (si s.data.toList)<6:=by
    unfold Rh
    cases hf:S.find? (fun q=>q.2 (si s.data.toList)) with
    | some q=>exact hlen.2 q (za hf)
    | none=>decide
   have HT:=z7 (show V5 rs s.data.toList=nmC (Rh S (si s.data.toList)) by unfold V5;rw[HR.out];dsimp only;rw[if_pos hn]);have HC:=z7 (show V6 rs s.data.toList=0 by unfold V6;rw[HR.out];dsimp only;rw[if_pos hn]);obtain⟨ix,Im⟩:=xX (Rh S (si s.data.toList));have DQ:=z7 (show ix<6 by rw[←Im];exact hof);have NA:=z7 Im;have TW:=z7 Jv;have DT:=z7 hlen.1;clear hn vV xV ku Jv hlen hof Im d1 d2;go_wp2_with fail;refine vZ ?_;intro W hW;have jC:Below w2.heap.size w2 W:=by rw[hW];exact(zk _ _).alloc (z8 _) _
   clear hW;have yy9:Below w1.heap.size w1 W:=xF.trans (jC.mono xF.size);have yyz:Below w.heap.size w W:=uK.trans (jC.mono uK.size);refine(Er S a c _ (si s.data.toList) w.heap.size w1.heap.size W (by rw[DT.out];exact Ai.out) (ylv.out.yy7 yy9 (z8 _)) yy9.size (TW.out.below jC)).mono ?_;rintro e w3 ⟨rfl,uP⟩;rw[NA.out];have ZV:=yyz.trans (uP.mono yyz.size);have bV:=HN.out.below ZV ix DQ.out;have HE:=z7 (show nmC ix=(ZQ.getD ix zI).data.toList from rfl);obtain⟨nm,BF⟩:=xX (ZQ.getD ix zI);rw[BF] at bV;have HNM:=z7 BF;have xb3:=DQ.out;clear BF;go_wp2;go_ret2
   exact⟨by rw[HT.out,HC.out,NA.out,HE.out,HNM.out];simp[OJ,xk],ZV⟩
structure mU(w:World):Prop where
 rt:Rt w
 names:qd w
 err:KQ w
theorem MK(rs:List Hd)(v:Value)(s:ByteArray)(w:World)(hv:jK w v rs)(hl:rs.length<=1000000)(hz:∀ q∈rs,q.1.length<=1000000/\q.2.length<=1000000)(hs:s.size<=1000000)(hP:mU w) :
  Calls prog 27 #[v,.string s] w fun e w'=>e = .returned (.tuple #[xk (V5 rs s.data.toList),.int .i64 (V6 rs s.data.toList)])/\Below w.heap.size w w':=by
 have vY:=mV rs v s w hv hl hz hs hP.rt hP.names;unfold zyj at vY;generalize V5 rs s.data.toList=tx at *;generalize V6 rs s.data.toList=cd at *;have ur:=z7 vY;have HE:=z7 hP.err;clear vY hP hz hv;go_enter func27,ntmps27;go_wp2_with fail;refine ur.out.mono ?_;rintro e w1 ⟨rfl,xB⟩;go_wp2_with fail;refine(Ev cd _ (HE.out.below xB)).mono ?_;rintro e w2 ⟨rfl,xF⟩;have uK:=xB.trans (xF.mono xB.size);clear xF xB;go_wp2;go_ret2
 exact⟨rfl,uK⟩
structure X1(w:World)(c o:Value):Prop where
 c:jK w c UL
 o:jK w o Es
theorem X1.below{w w':World}{c o:Value}(h:X1 w c o)(hb:Below w.heap.size w w'):X1 w' c o:=⟨h.c.below hb,h.o.below hb⟩
abbrev mQ(c o:Value):Value:=Dh c o 45 46 44 3 0 ⟨#[]⟩
def mJ:qL Unit:=yzb 45 46 44 3 3 (xm (VP [])) D8 D9
theorem KS:vM true true 45 46 44 ((3:Nat):Int) ((0:Nat):Int) []=true:=by simp[vM,kH,fu]
theorem sr{P q g mb:Nat}{f:Fo}{vC vI:Value}{rs:List (Value×Value)}{cv ov:Value}{w:World}(h:BS P q g mb f vC vI rs 45 46 44 3 0 [] cv ov w)(hc:zfb D8 w cv)(ho:zfb D9 w ov):zgx w g mJ:=by
 have hd:∀ x∈xm (VP []),Ww x:=fun x hx=>UG _ _ (z8 _) x hx
 obtain⟨a,c,hi,rfl,s1,b1⟩:=hc;obtain⟨a',c',hi',rfl,s2,b2⟩:=ho;have k1:vQ 0 hi w w:=⟨b1,fun _ _ _=>rfl⟩;have k2:vQ 0 hi' w w:=⟨b2,fun _ _ _=>rfl⟩;refine zfk (lo:=0) (hi:=w.heap.size) (fi:=3) (ne:=3) h.loc h.gl ⟨by decide,by decide,by decide,hd⟩ (by decide) (by decide) (by decide) h.g0 h.g1 ⟨by decide +kernel,by decide +kernel⟩ (s1.keep k1 (z8 _) b1) (s2.keep k2 (z8 _) b2) (z8 _) (fun n hn=>?_) (fun b d=>?_)
 ·have h1:=hn.FZ;have h2:=hn.JI;exact PQ _ _ _ _ _ _ _ _ _ (by simp[xW];omega) (by omega)
 ·cases b
  ·exact mX dD.1 d
  ·exact mX dD.2 d
def ylu(r:Except (Nat×Nat) Fo)(w:World)(e:Ending)(w':World):Prop :=
 Below w.heap.size w w'/\match r with
  | .error (n,a)=>e = .returned (.tuple #[.pointer none,.int .i64 (n:Nat),.int .i64 (a:Nat)])
  | .ok f=>∃ P q g mb vC vI rs,e = .returned (.tuple #[.pointer (some ⟨P,0,none⟩),.int .i64 0,.int .i64 0])/\Jj P q g mb f vC vI rs mJ w'
theorem MJ{p:Wd}{w:World}{c o:Value}(hp:p.length<=1000000)(hE:Ya w)(hR:Rt w)(hA:X1 w c o) :
  Calls prog 20 #[xk p,mQ c o] w (ylu (jF p) w):=by
 refine(EZ ⟨p.toArray⟩ c o true true 45 46 44 3 0 ⟨#[]⟩ _ _ w (by rw[size_mk];exact hp) (by decide) (by decide) (by decide) (bE UL D8 c w hA.c (by decide) gK.1 hR hE.names dD.1) (bE Es D9 o w hA.o (by decide) gK.2 hR hE.names dD.2) ⟨hA.c.slice,hA.o.slice⟩ hE).mono ?_;rintro e w1 ⟨xB,vV⟩;rw[if_neg (by rw[KS];decide),show(⟨p.toArray⟩:ByteArray).data.toList=p from rfl] at vV;refine⟨xB,?_⟩
 cases hr:jF p with
 | error x=>obtain⟨n,a⟩:=x;rw[hr] at vV;exact vV
 | ok f =>
  rw[hr] at vV;obtain⟨P,q,g,mb,vC,vI,rs,cv,ov,rfl,hph,K6,j9⟩:=vV;obtain⟨r1,r2⟩:=Jz hr;obtain⟨v1,v2,v3,v4,v5⟩:=lh r1 r2;exact⟨P,q,g,mb,vC,vI,rs,rfl,hph.p0,hph.p1,hph.prog,sr hph (K6 w1 (zk _ _)) (j9 w1 (zk _ _)),v1,v2,v3,v4,v5⟩
theorem mG{p:Wd}{w:World}{c o:Value}(hp:p.length<=1000000)(hE:Ya w)(hR:Rt w)(hA:X1 w c o){l:List Wd}{a:Option Addr}{n cc:Nat}(ht:Xs w a l)(hn:l.length=n)(hl:∀ t∈l,t.length<=1000000)(q9:n<=1000000) :
  Calls prog 12 #[xk p,mQ c o,.slice a n cc] w fun e w'=>(match jF p with
   | .error _=>e = .returned (.tuple #[xk [],.bool false])
   | .ok f=>∃ s k,e = .returned (.tuple #[xk s,.bool (decide (k=0))])/\Rn mJ f (jd l (0,fun _=>none)).1 (jd l (0,fun _=>none)).2 s k)/\Below w.heap.size w w':=by
 obtain⟨r,hr⟩:=xX (jF p);have HC:=z7 (fun (W:World) (hb:Below w.heap.size w W)=>MJ hp (hE.below hb) (hR.below hb) (hA.below hb));rw[hr] at HC ⊢;have HT:=z7 hE.tabs.err;have HA:=z7 (yz ht (yz hn (yz hl q9)));have eD:=z7 (yz hA.c.slice hA.o.slice);clear hE hR hA hp hr ht hn hl q9;go_enter func12,ntmps12;go_wp2_with fail;refine vZ ?_;intro W hW;have hb:Below w.heap.size w W:=by rw[hW];exact(zk _ _).alloc (z8 _) _
 clear hW;refine(HC.out W hb).mono ?_;rintro e w1 ⟨xB,vV⟩;have vO:Below w.heap.size w w1:=hb.trans (xB.mono hb.size)
 cases r with
 | error x =>
  obtain⟨n,a⟩:=x;obtain rfl:=vV;have HB:=z7 vO;clear hb xB vO HC;go_wp2;go_ret2
  exact⟨rfl,HB.out⟩
 | ok f =>
  obtain⟨P,q,g,mb,vC,vI,rs,rfl,hM⟩:=vV;have HF:=z7 (Lr (c:=cc) hM (HT.out.below vO) (HA.out.1.fr (Fc vO)) HA.out.2.1 HA.out.2.2.1 HA.out.2.2.2);have HB:=z7 vO;clear hb xB vO hM HC;go_wp2_with fail;refine HF.out.mono ?_;rintro e w2 ⟨⟨s,k,rfl,hs⟩,vu⟩;have HS:=z7 hs;have Ky:=z7 (HB.out.trans ((UC vu).mono HB.out.size));clear HF hs vu;by_cases hk:k=0
  ·subst hk;go_wp2;go_ret2
   exact⟨⟨s,0,rfl,HS.out⟩,Ky.out⟩
  ·have CX:((k:Int)=0)=False:=by simp;omega
   go_wp2;go_ret2
   exact⟨⟨s,k,by simp[hk],HS.out⟩,Ky.out⟩
structure gm(w:World):Prop where
 cmp:Ya w
 rt:Rt w
theorem gm.below{w w':World}(h:gm w)(hb:Below w.heap.size w w'):gm w':=⟨h.cmp.below hb,h.rt.below hb⟩
theorem gm.cat{w:World}(h:gm w):mU w:=⟨h.rt,h.cmp.names,h.cmp.tabs.err⟩
theorem PG{s:Wd}{w:World}{c o:Value}(hs:s.length<=1000000)(hE:gm w)(hA:X1 w c o) :
  Calls prog 16 #[xk s,mQ c o] w fun e w'=>e = .returned (.tuple #[xk (U0 true s 45 46 44 3 0 []),.int .i64 (U1 true s)])/\Below w.heap.size w w':=by
 have h:=LF ⟨s.toArray⟩ c o true true 45 46 44 3 0 ⟨#[]⟩ _ _ w (by rw[size_mk];exact hs) (by decide) (by decide) (by decide) (bE UL D8 c w hA.c (by decide) gK.1 hE.rt hE.cmp.names dD.1) (bE Es D9 o w hA.o (by decide) gK.2 hE.rt hE.cmp.names dD.2) ⟨hA.c.slice,hA.o.slice⟩ hE.cmp.tabs;rw[show(⟨#[]⟩:ByteArray).data.toList=[] from rfl,KS] at h;exact h
def mF(E:qL Unit)(p:Wd)(l:List Wd):Option Wd :=
 match jF p with
 | .ok f=>(match jS (Wf E (jd l (0,fun _=>none)).2) f [] (false,([],[])) [] () with | .ok (o,_)=>some o | .error _=>none)
 | .error _=>none
def MG:List Wd->Bool
 | k::d::t::r=>fR k && (fG t (d==[110]) && MG r)
 | _=>true
theorem S2:∀ (n:Nat) (l:List Wd),l.length<=n->∀ p:Nat×(Wd->Option (Wd×Bool)),MG l=true->(∀ m x,p.2 m=some x->fR m=true/\fG x.1 x.2=true)->∀ m x,(jd l p).2 m=some x->fR m=true/\fG x.1 x.2=true
 | _,[],_,_,_,h=>h
 | _,[_],_,_,_,h=>h
 | _,[_,_],_,_,_,h=>h
 | 0,_::_::_::_,hl,_,_,_=>by simp at hl
 | n+1,k::d::t::r,hl,p,ha,h=>by
  rw[MG,zg,zg] at ha;rw[jd];refine S2 n r (by simp at hl;omega) _ ha.2.2 fun m x hx=>?_
  simp only at hx;split at hx
  ·next e =>
   cases hx;subst e;exact⟨ha.1,ha.2.1⟩
  ·exact h m x hx
theorem mD{l:List Wd}(h:MG l=true)(hl:l.length<=16):Ye (jd l (0,fun _=>none)).2 (jd l (0,fun _=>none)).1:=by
 refine⟨?_,S2 _ l (z8 _) _ h (fun m x hx=>by cases hx)⟩;have:=UE _ l (z8 _) (0,fun _=>none);simp only at this;omega
theorem WL{p t:Wd}{l:List Wd}{w:World}{c o:Value}{a:Option Addr}{n cc:Nat}(hs:mF mJ p l=some t)(ha:MG l=true)(hp:p.length<=1000000)(hl:∀ t∈l,t.length<=1000000)(hn:l.length=n)(q9:n<=16)(hE:gm w)(hA:X1 w c o)(ht:Xs w a l) :
  Calls prog 12 #[xk p,mQ c o,.slice a n cc] w fun e w'=>e = .returned (.tuple #[xk t,.bool true])/\Below w.heap.size w w':=by
 refine(mG hp hE.cmp hE.rt hA ht hn hl (by omega)).mono ?_;rintro e w' ⟨h,hb⟩;refine⟨?_,hb⟩;unfold mF at hs
 cases hr:jF p with
 | error x=>rw[hr] at hs;cases hs
 | ok f =>
  rw[hr] at hs h;obtain⟨s,k,rfl,hq⟩:=h;dsimp only at hs;rcases hq with⟨-,h2⟩|⟨h2,-⟩
  ·split at hs
   ·next o1 g1 he =>
    cases hs;rw[he] at h2;obtain⟨rfl,rfl⟩:=h2;rfl
   ·cases hs
  ·exact absurd (mD ha (by omega)) h2
theorem Jb:U0 true [45,49,50,51,52,53,54,55,46,53,48] 45 46 44 3 0 []=[45,49,44,50,51,52,44,53,54,55,46,53,48]/\U1 true [45,49,50,51,52,53,54,55,46,53,48]=0:=by
 constructor<;>kernel_rfl
theorem MF:V5 UL [49]=[111,110,101]/\V6 UL [49]=0:=by constructor<;>kernel_rfl
theorem MD:V5 UL [50]=[111,116,104,101,114]/\V6 UL [50]=0:=by constructor<;>kernel_rfl
def yyy:Wd:=[123,110,44,32,112,108,117,114,97,108,44,32,111,110,101,32,123,65,125,32,111,116,104,101,114,32,123,66,35,125,125]
theorem WM:mF mJ yyy [[110],[110],[49,48,48,48]]=some [66,49,44,48,48,48]:=by kernel_rfl
end Go.Proofs.YthpldolmpinnhaaGreatDoor
namespace Go.Proofs.YthpldolmpinnhaaGreatDoor
open Go.ChangeShapes Go.WideShapes Go.ChangeAt Go.RowKit Go.Lib
set_option maxRecDepth 10000
theorem mem_range:("strconv.ErrRange",Rows.laid_strconv_ErrRange)∈Fb:=yf.2 ⟨.tail _ (.tail _ (.tail _ (.tail _ (.tail _ (.head _))))),by kernel_rfl⟩
theorem PF:("strconv.ErrSyntax",Rows.laid_strconv_ErrSyntax)∈Fb:=yf.2 ⟨.tail _ (.tail _ (.tail _ (.tail _ (.tail _ (.tail _ (.head _)))))),by kernel_rfl⟩
theorem zd1:prog.globalNamed "strconv.ErrRange" = some 8:=by kernel_rfl
theorem sw:(prog.globals[8]?).map (·.type)=some 73:=by kernel_rfl
theorem tu:prog.globalNamed "strconv.ErrSyntax" = some 7:=by kernel_rfl
theorem mH:(prog.globals[7]?).map (·.type)=some 73:=by kernel_rfl
theorem mL{H:Type}{enc:TypeId×Value->H}{P:Program}{w:World}{base:Nat}{sp:Nat->Bool}{held:Bool}{fuel:Nat}{t:TypeId}{cs:List Value}{n:String}{d:DataW H}{p:List MemPlace}(ht:∃ ms,P.underlying t=some (.interface ms))
  (h:yu enc P w base sp held fuel t cs=some (.iface n d,p)):∃ u v,cs=[.iface u v]:=by
 cases fuel with
 | zero=>simp[yu] at h
 | succ k =>
  unfold yu at h;obtain⟨ms,ht⟩:=ht;rw[ht] at h;split at h<;>simp_all
theorem Dz{W:World}{n:String}{g:Nat}{nm:String}{d:DataW Unit}(hg:prog.globalNamed n=some g)(hT:(prog.globals[g]?).map (·.type)=some 73)(h:VarReads prog W n (.iface nm d)) :
  ∃ t v,W.cell? ⟨g,0,none⟩=some (.iface t v):=by
 obtain⟨g',t,cs,fuel,p,hg',MW,Dw,hd⟩:=h;obtain rfl:=zh (hg.symm.trans hg');obtain rfl:=zh (hT.symm.trans MW);obtain⟨u,v,dB⟩:=mL ⟨_,underlying73⟩ hd;refine⟨u,v,?_⟩;rw[World.var?_cell hg Dw 0,←Array.getElem?_toList,dB];rfl
theorem yyx{W:World}(h:laidMetH prog listed W):Rt W :=
 ⟨Dz tu mH (zr (bG h).1 PF),Dz zd1 sw (zr (bG h).1 mem_range)⟩
theorem td{W:World}(h:laidMetH prog listed W):gm W:=⟨zjk h,yyx h⟩
end Go.Proofs.YthpldolmpinnhaaGreatDoor
namespace Go.Proofs.YthpldolmpinnhaaGreatDoor
open Go Go.RowKit
set_option maxRecDepth 10000
structure PD(w0 w:World)(B:Nat)(c o:Value):Prop where
 loc:RG w B c o 45 46 44 3 0 ⟨#[]⟩
 eng:X1 w c o
 L8:Below w0.heap.size w0 w
theorem PD.next{w0 w w':World}{B:Nat}{c o:Value}(h:PD w0 w B c o)(hb:Below w.heap.size w w'):PD w0 w' B c o:=⟨h.loc.below hb (zx _ _ h.loc.1),h.eng.below hb,h.L8.trans (hb.mono h.L8.size)⟩
theorem PD.made{w0 w:World}{c o:Value}(hA:X1 w c o)(hb:Below w0.heap.size w0 w):PD w0 (w.alloc (.cells #[c,o,.int .i32 45,.int .i32 46,.int .i32 44,.int .u8 3,.int .u8 0,.string ⟨#[]⟩] 25)) w.heap.size c o:=by
 have jC:Below w.heap.size w (w.alloc (.cells #[c,o,.int .i32 45,.int .i32 46,.int .i32 44,.int .u8 3,.int .u8 0,.string ⟨#[]⟩] 25)):=(zk _ _).alloc (z8 _) _;refine⟨?_,hA.below jC,hb.trans (jC.mono hb.size)⟩;refine⟨?_,?_,?_,?_,?_,?_,?_,?_⟩<;>exact xu _ _ _ _ _
theorem PC(w:World)(hE:gm w):Calls prog 18 #[] w fun e w'=>e = .returned (.bool true)/\Below w.heap.size w w':=by
 have HE:=z7 hE;clear hE;go_enter func18,ntmps18;go_wp2_with fail;refine(Jd w).mono ?_;rintro e w1 ⟨⟨c,o,rfl,hc,ho⟩,xB⟩;obtain⟨ca,cn,ck,rfl⟩:=hc.slice;obtain⟨oa,on,ok,rfl⟩:=ho.slice;have hG:=PD.made (X1.mk hc ho) xB;go_wp2_with fail;generalize w1.alloc (.cells #[.slice ca cn ck,.slice oa on ok,.int .i32 45,.int .i32 46,.int .i32 44,.int .u8 3,.int .u8 0,.string ⟨#[]⟩] 25)=W at hG ⊢;generalize w1.heap.size=B at hG ⊢;clear hc ho xB;have HN:=z7 (PG (s:=[45,49,50,51,52,53,54,55,46,53,48]) (by decide) (HE.out.below hG.L8) hG.eng);rw[Jb.1,Jb.2] at HN;refine HN.out.mono ?_;rintro e w2 ⟨rfl,xF⟩;have Rz:=hG.next xF;obtain⟨l0,-,-,-,-,-,-,-⟩:=Rz.loc;have HC:=z7 (MK UL (.slice ca cn ck) ⟨#[49]⟩ w2 Rz.eng.c (by decide) gK.1 (by decide) (HE.out.below Rz.L8).cat);rw[show(⟨#[49]⟩:ByteArray).data.toList=[49] from rfl,MF.1,MF.2] at HC;have HG:=z7 Rz;clear hG Rz xF HN;go_wp2_with fail;refine HC.out.mono ?_;rintro e w3 ⟨rfl,uP⟩;have hG3:=HG.out.next uP;obtain⟨l0,-,-,-,-,-,-,-⟩:=hG3.loc;have HC2:=z7 (MK UL (.slice ca cn ck) ⟨#[50]⟩ w3 hG3.eng.c (by decide) gK.1 (by decide) (HE.out.below hG3.L8).cat);rw[show(⟨#[50]⟩:ByteArray).data.toList=[50] from rfl,MD.1,MD.2] at HC2;have HG3:=z7 hG3;clear hG3 uP HC HG;go_wp2_with fail;refine HC2.out.mono ?_;rintro e w4 ⟨rfl,uN⟩;have oz:=HG3.out.next uN;obtain⟨l0,l1,l2,l3,l4,l5,l6,l7⟩:=oz.loc;have HG4:=z7 oz;clear oz uN HC2 HG3;go_wp2_with fail;have um:Below w4.heap.size w4 (w4.alloc (.cells #[xk [110],xk [110],xk [49,48,48,48]] 9)):=(zk _ _).alloc (z8 _) _;have ht:Xs (w4.alloc (.cells #[xk [110],xk [110],xk [49,48,48,48]] 9)) (some ⟨w4.heap.size,0,none⟩) [[110],[110],[49,48,48,48]]:=fun _=>⟨_,_,rfl,fun j t ht=>by
  rw[zM,xu];match j,ht with
  | 0,ht=>simpa using ht
  | 1,ht=>simpa using ht
  | 2,ht=>simpa using ht⟩
 have hG5:=HG4.out.next um;have HS:=z7 (WL (cc:=3) (n:=3) WM (by kernel_rfl) (by decide) (by decide) rfl (by decide) (HE.out.below hG5.L8) hG5.eng ht);have HB:=z7 hG5.L8;clear um ht hG5 HG4 l0 l1 l2 l3 l4 l5 l6 l7;refine HS.out.mono ?_;rintro e w5 ⟨rfl,ju⟩;have HB5:=z7 (HB.out.trans (ju.mono HB.out.size));clear ju HS;go_wp2;go_ret;exact⟨by first|rfl|simp,HB5.out⟩
def UM(c:Int)(n:Nat):Nat:=(if c<0 then -(c+1) else c).toNat % n
theorem Cy(c:Int)(n:Nat)(w:World)(h1 : -9223372036854775808<=c)(h2:c<=9223372036854775807)(hn:0<n)(dC:n<=4000000000):Calls prog 13 #[.int .i64 c,.int .i64 (n:Nat)] w fun e w'=>e = .returned (.int .i64 (UM c n:Nat))/\w=w':=by
 have n0:((n:Int)=0)=False:=by simp;omega
 by_cases h:c<0
 ·have hw:yZ.wrap (c+1)=c+1:=by rw[yv];omega
  have DU:yZ.wrap (-(c+1)) = -(c+1):=by rw[yv];omega
  have hr:Int.tmod (-(c+1)) (n:Int)=(UM c n:Nat):=by
   unfold UM;rw[if_pos h,zl (by omega)];have : -(c+1)=((-(c+1)).toNat:Int):=by omega
   rw[this];simp
  clear h1 h2;go_enter func13,ntmps13;go_wp2;go_ret;exact⟨rfl,rfl⟩
 ·have hr:Int.tmod c (n:Int)=(UM c n:Nat):=by
   unfold UM;rw[if_neg h,zl (by omega)];have:c=(c.toNat:Int):=by omega
   rw[this];simp
  clear h1 h2;go_enter func13,ntmps13;go_wp2;go_ret;exact⟨rfl,rfl⟩
end Go.Proofs.YthpldolmpinnhaaGreatDoor
