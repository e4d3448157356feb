import Derived.Test.YthpldolmpinnhaaGreatDoorJF36
import Derived.Laws.RangeAny
import Derived.Test.YthpldolmpinnhaaGreatDoorShelf
set_option maxHeartbeats 64000000
open Go.Lib renaming hid→z7
open Go.World renaming block_lt_of_cell?→z8,cell?_setCell_other→zy,frozen?_of_block→zv,cell?_setCell_same→zk,cell?_alloc_some→zY,cell?_of_block→zG,setCell→za,iterPos_iter→zl
open Nat renaming le_refl→zx,le_trans→zJ,zero_le→zF,le_add_right→zN,lt_of_lt_of_le→zt
open And renaming intro→zu
open Go.Value renaming ownBlock→zj,slice→zE
open List renaming getElem?_eq_some_iff→zg,take_succ_eq_append_getElem→zf,getElem?_eq_getElem→zZ,drop_eq_getElem_cons→zU,take_length→zI,getElem_mem→zL,eq_nil_of_length_eq_zero→zO,setIfInBounds_toArray→zS,mem_of_getElem?→zi,length_pos_iff→zm,set_cons_zero→zo,set_cons_succ→zr,any_eq_true→zh,any_append→yz
open Go.RowKit.Below renaming refl→zX,heap_setCell→zQ
open Option.some renaming inj→zV
open Go.Instr renaming makeFunc→zD
open Go.IntKind renaming wrap_i64→zH,i64→zM
open Go.World.ownsRow renaming drew→zP
open ByteArray renaming mk→zR
open Bool renaming false_and→zW,true_and→zc,and_eq_false_iff→ze,and_eq_true→zw
open Go.AllReadyH renaming cons→zn
open Go.Proofs.Tryz
namespace Go.Proofs.YthpldolmpinnhaaGreatDoor
open Go Go.RowKit
set_option maxRecDepth 10000
def Py:Nat->Wd->Bool
 | _,[]=>true
 | i,c::t=>(jY (c.toNat:Int) ||(!decide (i=0) && qQ (c.toNat:Int))) && Py (i+1) t
def fR(s:Wd):Bool:=Py 0 s && (decide (0<s.length) && decide (s.length<=16))
theorem G7{r:Nat}(h:128<=r):jY (r:Int)=false/\qQ (r:Int)=false:=by
 constructor
 ·simp only[jY,Bool.or_eq_false_iff,ze,decide_eq_false_iff_not,beq_eq_false_iff_ne,ne_eq];omega
 ·simp only[qQ,ze,decide_eq_false_iff_not];omega
theorem Wb(t:Wd)(w:World)(ht:t.length<=5000000):Calls Tryz.prog 83 #[xk t] w fun e w'=>e = .returned (.bool (fR t))/\Fr xH xH w w':=by
 obtain⟨s,hs⟩:=xX (zR t.toArray);have qP:s.size=t.length:=by rw[←hs,size_mk]
 have VG:∀ (k:Nat) (h:k<s.size),∃ c,t[k]? = some c/\s[k]'h=c:=by
  intro k h;subst hs;exact⟨_,zZ (by rw[size_mk] at h;exact h),by rfl⟩
 obtain⟨n,hn⟩:=xX t.length;have Qa:=z7 VG;have du:=z7 qP;have HN:=z7 hn;have HT:=z7 ht;rw[show xk t = .string s from congrArg Value.string hs];have kS:s.size=n:=qP.trans hn;have HL:=z7 kS;clear hs qP hn ht kS VG;go_enter func83,ntmps83;go_wp2_with fail;go_loopw [] (fun wr=>∃ pos,wr=w.iter s pos/\pos<=n/\Py 0 t=Py pos (t.drop pos)) (fun wr=>n - wr.iterPos w.heap.size)
 case atStart=>exact⟨0,rfl,zF _,rfl⟩
 case round =>
  obtain⟨pos,rfl,hp,hg⟩:=hrel;have HG:=z7 hg;clear hg;by_cases xD:pos<s.size
  ·obtain⟨c,hc,hsc⟩:=Qa.out pos xD;have zy3:t.drop pos=c::t.drop (pos+1):=by
    obtain⟨h1,h2⟩:=zg.1 hc;rw[zU h1,h2]
   have ft:=HG.out;rw[zy3,Py] at ft;have HG2:=z7 ft;clear zy3 ft;by_cases ha:c.toNat<128
   ·have Eg:=fun ty=>run_next_ascii (P:=Tryz.prog) w s pos ty xD (by rw[hsc];exact ha)
    rw[hsc] at Eg;obtain⟨l,hl⟩:∃ b,jY (c.toNat:Int)=b:=⟨_,rfl⟩;obtain⟨dg,PS⟩:∃ b,qQ (c.toNat:Int)=b:=⟨_,rfl⟩;obtain⟨r,hr⟩:∃ r:Int,(c.toNat:Int)=r:=⟨_,rfl⟩;rw[hr] at Eg hl PS;have Ml:=fun W=>z7 (hl▸U3 r W)
    have HDG:=fun W=>z7 (PS▸Vf r W)
    have HX:=z7 (show Py 0 t=((l ||(!decide (pos=0) && dg)) && Py (pos+1) (t.drop (pos+1))) by have:=HG2.out;rw[hr,hl,PS] at this;exact this);have aQ:=z7 (show pos+1<=n by have:=HL.out;omega);clear hl PS hr hsc hc ha xD;have HB:l=false->(pos=0\/dg=false)->fR t=false:=fun h1 h2=>by
     unfold fR;rw[HX.out,h1];rcases h2 with h2|h2<;>simp[h2]
    have HB:=z7 HB;go_wp2_with fail;refine(Ml _).out.mono ?_;rintro e w' ⟨rfl,rfl⟩
    cases l with
    | true =>
     go_wp2;go_roundw
     case measure=>simp only[zl];have:=aQ.out;omega
     case rel=>exact⟨pos+1,rfl,aQ.out,by rw[HX.out];simp⟩
    | false =>
     by_cases h0:pos=0
     ·subst h0;go_wp2;go_ret;exact⟨by rw[HB.out (by simp) (by simp)];rfl,(Fr.refl xH w).alloc _⟩
     ·have g0:((pos:Int)=0)=False:=by simp;omega
      go_wp2_with fail;refine(HDG _).out.mono ?_;rintro e w' ⟨rfl,rfl⟩
      cases dg with
      | false =>
       go_wp2;go_ret;exact⟨by rw[HB.out (by simp) (by simp)];rfl,(Fr.refl xH w).alloc _⟩
      | true =>
       go_wp2;go_roundw
       case measure=>simp only[zl];have:=aQ.out;omega
       case rel=>exact⟨pos+1,rfl,aQ.out,by rw[HX.out];simp[h0]⟩
   ·have Eg:=fun ty=>run_next_any (P:=Tryz.prog) w s pos ty xD
    obtain⟨h1,-⟩:=decode_high s pos xD (by rw[hsc];omega);obtain⟨r,hr⟩:=xX ((Utf8.decode s pos).1);obtain⟨z,hz⟩:=xX ((Utf8.decode s pos).2);rw[hr,hz] at Eg;rw[hr] at h1;have Ml:=fun W=>z7 ((G7 h1).1▸U3 r W)
    have HDG:=fun W=>z7 ((G7 h1).2▸Vf r W)
    have HB:=z7 (show fR t=false by
     unfold fR;rw[HG2.out,(G7 (r:=c.toNat) (by omega)).1,(G7 (r:=c.toNat) (by omega)).2];simp)
    clear hr hz hsc hc ha xD h1;go_wp2_with fail;refine(Ml _).out.mono ?_;rintro e w' ⟨rfl,rfl⟩;by_cases h0:pos=0
    ·subst h0;go_wp2;go_ret;exact⟨by rw[HB.out];rfl,(Fr.refl xH w).alloc _⟩
    ·have g0:((pos:Int)=0)=False:=by simp;omega
     go_wp2_with fail;refine(HDG _).out.mono ?_;rintro e w' ⟨rfl,rfl⟩;go_wp2;go_ret;exact⟨by rw[HB.out];rfl,(Fr.refl xH w).alloc _⟩
  ·have Eg:=fun ty=>run_next_end (P:=Tryz.prog) w s pos ty xD
   have HB:=z7 (show fR t=(decide (0<n) && decide (n<=16)) by
    unfold fR;rw[HG.out,List.drop_eq_nil_of_le (by have:=HL.out;have:=HN.out;omega),HN.out];rfl)
   clear xD hp;have e:=HL.out;subst e;by_cases h0:0<s.size
   ·have g0:(0:Int)<(s.size:Int):=by omega
    by_cases h1:s.size<=16
    ·have g1:(s.size:Int)<=16:=by omega
     go_wp2;go_ret;exact⟨by rw[HB.out];simp[h0,h1],(Fr.refl xH w).alloc _⟩
    ·have g1:¬(s.size:Int)<=16:=by omega
     go_wp2;go_ret;exact⟨by rw[HB.out];simp[h0,h1],(Fr.refl xH w).alloc _⟩
   ·have g0:¬(0:Int)<(s.size:Int):=by omega
    go_wp2;go_ret;exact⟨by rw[HB.out];simp[h0],(Fr.refl xH w).alloc _⟩
theorem G8(p:Value)(ty ty':TypeId)(w:World):(Instr.next p false ty).run Tryz.prog w=(Instr.next p false ty').run Tryz.prog w:=rfl
theorem kO{row:Option Nat}{w w':World}(hg:w.grownBy w' row):Fr (fun k=>row=some k) (fun k=>row=some k) w w' :=
 ⟨hg.os,hg.tape,hg.output,hg.size,fun k hk hn=>hg.block k hk (fun e=>hn e.symm),fun _ q => .inl q⟩
def Ye(f:Wd->Option (Wd×Bool))(z:Nat):Prop:=z<=16/\∀ m x,f m=some x->fR m=true/\fG x.1 x.2=true
def zrk(b n z:Nat)(f:Wd->Option (Wd×Bool))(w:World)(e:Ending)(w':World):Prop :=
 ((Ye f z/\∃ c,e = .returned (.tuple #[iM c,.bool true])/\sx b c n z f () w'/\w.heap.size<=c)\/(¬Ye f z/\e = .returned (.tuple #[.nilFunc,.bool false])))/\Fr xH xH w w'
theorem iO{b n z:Nat}{f:Wd->Option (Wd×Bool)}{w:World}(h:gz w b n z f)(hl:∀ m x,f m=some x->m.length<=5000000/\x.1.length<=1000000)(Qn:z<=1000000000) :
  Calls Tryz.prog 52 #[.map (some b)] w (zrk b n z f w):=by
 have Sk:∀ (fn:Fn) (first cap:Array Value) (w:World),(zD fn first cap).run Tryz.prog w = .ok (.func fn first cap) w:=fun _ _ _ _=>rfl
 have xD:=h.lt;obtain⟨W,hW⟩:=xX (w.alloc (.cells #[.map (some b)] 82));have uy:Fr xH xH w W:=by rw[←hW];exact(Fr.refl xH w).alloc _
 have hmW:gz W b n z f:=h.fr uy id;have hcW:W.cell? ⟨w.heap.size,0,none⟩=some (.map (some b)):=by rw[←hW];exact xu w #[.map (some b)] _ (0,0) 0
 have Tl:W.heap.size=w.heap.size+1:=by rw[←hW];simp
 have kS:=hmW.len 3;obtain⟨w2,wL,hR,ft,ue⟩:=hmW.range;obtain⟨c,hc⟩:=xX w.heap.size;rw[hc] at hcW Tl;rw[Tl] at wL hR;have vu:Fr xH xH w w2:=uy.over (kO ft) (fun q hq=>by cases hq);have c2:=(kO ft).cell hcW (fun q=>by cases q);have fy:=z7 vu;have VD:=z7 uy;have HMA:=z7 h;have HR:=z7 hR;have HC:=z7 hc;have HL:=z7 hl;have Ml:=z7 xD;have HC2:=z7 c2;clear hmW uy ft ue vu hR hl xD Tl h c2;by_cases hz:z<=16
 ·have g1:¬(16:Int)<(z:Int):=by omega
  have HZ:=z7 hz;clear hz Qn;go_enter func52,ntmps52;go_wp2_with fail;go_loopw [] (fun wr=>∃ left cnt,FW wr b (c+1) n f left cnt/\Fr xH xH w wr/\wr.cell? ⟨c,0,none⟩=some (.map (some b))/\∀ m x,f m=some x->left m=false->fR m=true/\fG x.1 x.2=true) (fun wr=>wr.rangeLeft b (c+1))
  case atStart=>exact⟨_,_,HR.out,fy.out,HC2.out,fun m x hm hl=>by simp[hm] at hl⟩
  case round =>
   obtain⟨left,cnt,LK,hf,PT,ku⟩:=hrel;have ET:=z7 (zu LK (zu hf ku));rcases LK.next 0 with⟨-,CZ,Eg⟩|⟨m,x,w',Wj,hlm,Uz,Eg,Mh,N9,Yt,qP,fL⟩
   ·have Eg:=fun ty=>(G8 (.pointer (some ⟨c+1,0,none⟩)) ty 0 wr).trans Eg
    have HNO:=z7 CZ;clear LK hf ku CZ;go_wp2;go_ret2
    have LK:=ET.out.1;refine⟨.inl ⟨⟨HZ.out,fun m x hm=>ET.out.2.2 m x hm (HNO.out m)⟩,c,rfl,⟨?_,PT,fun m x hm=>(HL.out m x hm).2⟩,by rw[HC.out];exact zx _⟩,ET.out.2.1⟩;exact HMA.out.fr ET.out.2.1 id
   ·have Eg:=fun ty=>(G8 (.pointer (some ⟨c+1,0,none⟩)) ty 0 wr).trans Eg
    obtain⟨t,num⟩:=x;obtain⟨l1,l2⟩:=HL.out m _ Uz;obtain⟨d,hd⟩:=xX w'.heap.size;obtain⟨V,hV⟩:=xX (w'.alloc (.cells #[xk t,.bool num] 86));have d0:V.cell? ⟨d,0,none⟩=some (xk t):=by rw[←hV,←hd];exact xu w' #[xk t,.bool num] _ (0,0) 0
    have d1:V.cell? ⟨d,1,none⟩=some (.bool num):=by rw[←hV,←hd];exact xu w' #[xk t,.bool num] _ (0,0) 1
    have fV:Fr xH xH w' V:=by rw[←hV];exact(Fr.refl xH w').alloc _
    have Xq:Fr xH xH w w':=hf.over (kO Yt) (fun q hq => .inr (by cases hq;have:=HC.out;omega));have Hj:w'.cell? ⟨c,0,none⟩=some (.map (some b)):=(kO Yt).cell PT (fun q=>by cases q);obtain⟨nm,BF⟩:∃ q,fR m=q:=⟨_,rfl⟩;obtain⟨vd,hvd⟩:∃ q,fG t num=q:=⟨_,rfl⟩;have HNM:=fun W=>z7 (BF▸Wb m W l1)
    have Ci:=fun W=>z7 (hvd▸Bn t num W l2)
    have HB:=z7 (zu Mh (zu N9 (zu fV (zu Xq Hj))));have HM:=z7 (zu Uz (zu BF hvd));have HD:=z7 (zu d0 d1);clear LK hf ku Mh N9 fV Xq Hj Yt qP hlm Uz BF hvd l1 l2 d0 d1;go_wp2_with fail;refine(HNM _).out.mono ?_;rintro e w3 ⟨rfl,jx⟩;have e0:=jx.cell HD.out.1 id;have e1:=jx.cell HD.out.2 id;have XY:=z7 jx;clear jx
    cases nm with
    | false =>
     go_wp2;go_ret2
     refine⟨.inr ⟨fun q=>?_,rfl⟩,HB.out.2.2.2.1.trans (HB.out.2.2.1.trans XY.out)⟩;have:=(q.2 m _ HM.out.1).1;rw[HM.out.2.1] at this
     cases this
    | true =>
     go_wp2_with fail;refine(Ci _).out.mono ?_;rintro e w4 ⟨rfl,hb⟩;have YY:Fr xH xH w3 w4:=⟨hb.os,hb.tape,hb.output,hb.size,fun k hk _=>hb.block k hk,fun _ q => .inl q⟩;have N5:=z7 (HB.out.2.2.1.trans (XY.out.trans YY));clear hb YY
     cases vd with
     | false =>
      go_wp2;go_ret2
      refine⟨.inr ⟨fun q=>?_,rfl⟩,HB.out.2.2.2.1.trans N5.out⟩;have:=(q.2 m _ HM.out.1).2;rw[HM.out.2.2] at this
      cases this
     | true =>
      go_wp2;go_roundw
      case measure =>
       rw[(HB.out.1.fr N5.out id id).left_eq,ET.out.1.left_eq];exact HB.out.2.1
      case rel =>
       refine⟨_,_,HB.out.1.fr N5.out id id,HB.out.2.2.2.1.trans N5.out,N5.out.cell HB.out.2.2.2.2 id,fun m' x' Ws hl'=>?_⟩;by_cases he:m'=m
       ·subst he;have:=HM.out.1;rw[Ws] at this
        cases this;exact⟨HM.out.2.1,HM.out.2.2⟩
       ·exact ET.out.2.2 m' x' Ws (by simpa[he] using hl')
 ·have g1:(16:Int)<(z:Int):=by omega
  have HZ:=z7 hz;clear hz Qn;go_enter func52,ntmps52;go_wp2;go_ret2
  exact⟨.inr ⟨fun q=>by have:=q.1;have:=HZ.out;omega,rfl⟩,VD.out⟩
def jd:List Wd->Nat×(Wd->Option (Wd×Bool))->Nat×(Wd->Option (Wd×Bool))
 | k::d::t::r,p=>jd r (if (p.2 k).isSome then p.1 else p.1+1,fun m=>if k=m then some (t,d==[110]) else p.2 m)
 | _,p=>p
theorem Px{l:List Wd}(h:l.length<3)(p:Nat×(Wd->Option (Wd×Bool))):jd l p=p:=by
 match l,h with
 | [],_=>rfl
 | [_],_=>rfl
 | [_,_],_=>rfl
 | _::_::_::_,h=>simp at h;omega
def Xs(w:World)(a:Option Addr)(l:List Wd):Prop:=l≠[]->∃ g o,a=some ⟨g,o,none⟩/\∀ j t,l[j]? = some t->w.cell? ⟨g,o+j,none⟩=some (xk t)
theorem Xs.fr{w w':World}{a:Option Addr}{l:List Wd}(h:Xs w a l)(hf:Fr xH xH w w'):Xs w' a l:=fun xc=>by
 obtain⟨g,o,ha,hc⟩:=h xc;exact⟨g,o,ha,fun j t ht=>hf.cell (hc j t ht) id⟩
theorem Lo{l:List Wd}{a:Option Addr}{n c:Nat}{w:World}(h:Xs w a l)(hn:l.length=n)(hl:∀ t∈l,t.length<=1000000)(q9:n<=1000000) :
  Calls Tryz.prog 34 #[.slice a n c] w fun e w'=>e = .returned (.map (some w.heap.size))/\(∃ N,N<=2000000/\gz w' w.heap.size N (jd l (0,fun _=>none)).1 (jd l (0,fun _=>none)).2)/\Fr xH xH w w':=by
 have MA:=@run_makeMap Tryz.prog;obtain⟨b,hb⟩:=xX w.heap.size;have h0:=gz.made w;have f0:Fr xH xH w (w.alloc (.map #[] 0)):=(Fr.refl xH w).alloc _;rw[hb] at h0;have H0:=z7 (zu h0 f0);have HH:=z7 h;have HN:=z7 (zu hn q9);have HL:=z7 hl;have HB:=z7 hb;clear h hn hl q9 h0 f0;go_enter func34,ntmps34;go_wp2;go_loopw [4] (fun i wr=>∃ k N z f,i = .int .i64 (k:Nat)/\k<=n+3/\N<=k/\gz wr b N z f/\jd l (0,fun _=>none)=jd (l.drop k) (z,f)/\Fr xH xH w wr) (fun i _=>n+3 - (intOf i).toNat)
 case atStart=>exact⟨0,0,0,_,rfl,zF _,zx _,H0.out.1,rfl,H0.out.2⟩
 case round =>
  obtain⟨k,N,z,f,rfl,hk,hNk,hm,hv,hf⟩:=hrel;by_cases xD:k+2<n
  ·obtain⟨g,o,rfl,hc⟩:=HH.out (fun e=>by have:=HN.out.1;rw[e] at this;simp at this;omega);obtain⟨t0,g0⟩:∃ t,l[k]? = some t:=⟨_,zZ (by have:=HN.out.1;omega)⟩;obtain⟨t1,g1⟩:∃ t,l[k+1]? = some t:=⟨_,zZ (by have:=HN.out.1;omega)⟩;obtain⟨t2,g2⟩:∃ t,l[k+2]? = some t:=⟨_,zZ (by have:=HN.out.1;omega)⟩;have c0:=hf.cell (hc k t0 g0) id;have c1:=hf.cell (hc (k+1) t1 g1) id;have c2:=hf.cell (hc (k+2) t2 g2) id;have hd:l.drop k=t0::t1::t2::l.drop (k+3):=by
    obtain⟨h1,e1⟩:=zg.1 g0;obtain⟨h2,e2⟩:=zg.1 g1;obtain⟨h3,e3⟩:=zg.1 g2;rw[zU h1,e1,zU h2,e2,zU h3,e3]
   have l0:=HL.out t0 (zi g0);have l2:=HL.out t2 (zi g2);obtain⟨B,hB⟩:=xX ((t1==[110]));obtain⟨w2,XZ,jI,ft⟩:=(hm.keep (w':=wr.drew) rfl).put t0 (by omega) (t2,B) (by show t2.length<=_;omega) (by have:=HN.out.2;omega);rw[hd,jd,hB] at hv;have vu:Fr xH xH w w2:=(hf.drew).over (kO ft) (fun q hq=>by cases hq;exact .inr (by rw[HB.out];exact zx _));have DL:b≠g:=fun e=>by
    have:=z8 w _ (hc k t0 g0);rw[←e,HB.out] at this;exact Nat.lt_irrefl _ this
   have e0:=(kO ft).cell (w:=wr.drew) c0 (fun e=>DL (zV e));have e1:=(kO ft).cell (w:=wr.drew) c1 (fun e=>DL (zV e));have e2:=(kO ft).cell (w:=wr.drew) c2 (fun e=>DL (zV e));have HQ:=z7 (zu jI (zu hv vu));clear hc g0 g1 g2 hd l0 l2 hm hv hf jI ft vu DL;have k1:(k:Int)+2<(n:Int):=by omega
   have k0:k<n:=by omega
   have k01:k+1<n:=by omega
   have k2:(k:Int)+1<(n:Int):=by omega
   have Zk:n<=1000000:=HN.out.2;have DU:zM.wrap ((k:Int)+2)=(k:Int)+2:=by rw[zH];omega
   have Sg:zM.wrap ((k:Int)+1)=(k:Int)+1:=by rw[zH];omega
   have hw3:zM.wrap ((k:Int)+3)=(k:Int)+3:=by rw[zH];omega
   have Ml:=z7 xD;have q2:(0:Int)<=(k:Int)+2:=by omega
   have q1:(0:Int)<=(k:Int)+1:=by omega
   have u2:((k:Int)+2).toNat=k+2:=by omega
   have u1:((k:Int)+1).toNat=k+1:=by omega
   clear Zk;go_wp2_with fail;refine rt (fun W':World=>W'.cell? ⟨g,o+k,none⟩=some (xk t0)/\W'.cell? ⟨g,o+(k+1),none⟩=some (xk t1)/\W'.cell? ⟨g,o+(k+2),none⟩=some (xk t2)) (List.range 17) 1 ⟨c0,c1,c2⟩ ?_;(iterate 17 (refine ty ?_;try simp only[pl]))
   refine xq ?_;refine kR 17 (fun J hJ=>?_);go_simp;refine hJ.out _ _ ⟨e0,e1,e2⟩ fun _=>?_
   clear hJ J;refine bX ?_ _;clear XZ;go_wp2;go_roundw
   case rel =>
    obtain⟨m1,m2,m3⟩:=HQ.out;have hl:=Ml.out;exact⟨k+3,N+1,_,_,by go_num,by omega,by omega,m1,m2,m3⟩
   case measure=>simp only[intOf];omega
  ·have HQ:=z7 (show jd l (0,fun _=>none)=(z,f) by rw[hv,Px (by rw[List.length_drop,HN.out.1];omega)]);have HM:=z7 (zu hm hf);have k1:¬(k:Int)+2<(n:Int):=by omega
   have Zk:n<=1000000:=HN.out.2;have DU:zM.wrap ((k:Int)+2)=(k:Int)+2:=by rw[zH];omega
   have HNk:=z7 (show N<=2000000 by have:=HN.out.2;omega);clear hv hm hf Zk;go_wp2;go_ret;exact⟨rfl,⟨N,HNk.out,by rw[HQ.out];exact HM.out.1⟩,HM.out.2⟩
structure zgx{τ:Type}(w:World)(g:Nat)(E:qL τ):Prop where
 wr:∀ W nv n,Fr xH xH w W->gT (fun _=>False) W nv n->Calls Tryz.prog 45 #[.pointer (some ⟨g,0,none⟩),nv] W fun e w'=>e = .returned (xk (E.wr n))/\Below W.heap.size W w'
 wrl:∀ n:vq,EV n.2->(E.wr n).length<=5000
 set:∃ cv ov,(∀ W,Fr xH xH w W->W.cell? ⟨g,0,none⟩=some cv/\W.cell? ⟨g,1,none⟩=some ov) /\
  (∀ W nv d,Fr xH xH w W->uR W nv d->Calls Tryz.prog 60 #[cv,nv] W fun e w'=>e = .returned (.int .i64 (E.sort false d))/\Below W.heap.size W w') /\
  ∀ W nv d,Fr xH xH w W->uR W nv d->Calls Tryz.prog 60 #[ov,nv] W fun e w'=>e = .returned (.int .i64 (E.sort true d))/\Below W.heap.size W w'
 srt:∀ b d,E.sort b d<6
structure Jj{τ:Type}(P q g mb:Nat)(f:Fo)(vC vI:Value)(rs:List (Value×Value))(E:qL τ)(w:World):Prop where
 p0:w.cell? ⟨P,0,none⟩=some (.pointer (some ⟨q,0,none⟩))
 p1:w.cell? ⟨P,1,none⟩=some (.pointer (some ⟨g,0,none⟩))
 prog:qT q (MkS.all f) vC vI rs mb w
 loc:zgx w g E
 msg:f.vG=true
 Bs:f.Bs false
 YF:f.YF
 sh:f.sh
 cw:f.cw<=90000
section
variable {P q g mb:Nat} {f:Fo} {vC vI:Value} {rs:List (Value×Value)} {w:World}
theorem UC{w w':World}(h:Fr xH xH w w'):Below w.heap.size w w':=⟨h.os,h.tape,h.output,h.size,fun k hk=>h.keep k hk id⟩
theorem Jj.env{E:qL Unit}(h:Jj P q g mb f vC vI rs E w){w0:World}(hf:Fr xH xH w w0){A:Nat}(hA:w0.heap.size=A){b c n z:Nat}{fm:Wd->Option (Wd×Bool)} :
  bd w0 (A+2) (A+2) (fun k=>A+2<=k) q mb g (MkS.all f) vC vI rs (iM c) (Wf E fm) (fun _=>xH) (fun _ k=>k=b\/k=c) (sx b c n z fm):=by
 obtain⟨a1,a2,a3,a4,a5⟩:=Ll h.YF h.sh h.cw;have Ps:∀ W,Fr (fun k=>A+2<=k) (fun k=>A+2<=k) w0 W->Fr xH xH w W:=fun W hW=>hf.over hW (fun q hq => .inr (by have:=hf.size;omega))
 obtain⟨cv,ov,s1,s2,s3⟩:=h.loc.set;exact⟨fun W hW=>h.prog.below (UC (Ps W hW)),fun W nv n hW=>h.loc.wr W nv n (Ps W hW),h.loc.wrl,⟨cv,ov,fun W hW=>s1 W (Ps W hW),fun W nv d hW=>s2 W nv d (Ps W hW),fun W nv d hW=>s3 W nv d (Ps W hW)⟩,h.loc.srt,Ln E b c n z fm,by omega,a3,a4,a5,fun k hk=>hk,zx _⟩
def su{τ:Type}(res:Except (Nat×τ) (Wd×τ))(a b:Value):Prop:=match res with | .ok (o,_)=>a=xk o/\b = .nilIface | .error (n,_)=>a=xk []/\b=qW n
theorem Pv{τ:Type}{G:Nat->Prop}{Inv:τ->World->Prop}{res:Except (Nat×τ) (Wd×τ)}{w w':World}{e:Ending}(h:zy2 G Inv res w e w'):∃ a b,e = .returned (.tuple #[a,b])/\su res a b/\Fr G G w w':=by
 obtain⟨h1,h2⟩:=h;match res,h1 with
 | .ok (o,g'),h1=>exact⟨_,_,h1.1,⟨rfl,rfl⟩,h2⟩
 | .error (n,g'),h1=>exact⟨_,_,h1.1,⟨rfl,rfl⟩,h2⟩
def yi0(E:qL Unit)(f:Fo)(z:Nat)(fm:Wd->Option (Wd×Bool))(w:World)(e:Ending)(w':World):Prop :=
 ∃ a b,e = .returned (.tuple #[a,b])/\(Ye fm z/\su (jS (Wf E fm) f [] (false,([],[])) [] ()) a b\/¬Ye fm z/\a=xk []/\b=qW 11)/\Fr xH xH w w'
theorem Lp{E:qL Unit}(h:Jj P q g mb f vC vI rs E w){b n z:Nat}{fm:Wd->Option (Wd×Bool)}(hm:gz w b n z fm)(hl:∀ m x,fm m=some x->m.length<=5000000/\x.1.length<=1000000)(hz:z<=1000000000) :
  Calls Tryz.prog 35 #[.pointer (some ⟨P,0,none⟩),.map (some b)] w (yi0 E f z fm w):=by
 have HH:=z7 h;have HA:=z7 (iO hm hl hz);clear h hm hl hz;go_enter func35,ntmps35;go_wp2_with fail;refine HA.out.mono ?_;rintro e w1 ⟨⟨ku,c,rfl,hI,hc⟩|⟨CZ,rfl⟩,uy⟩
 ·have VD:=z7 uy;have HOK:=z7 ku;have c0:=uy.cell HH.out.p0 id;have c1:=uy.cell HH.out.p1 id;have hE:=HH.out.env (w0:=w1.drew) uy.drew (A:=w1.heap.size) rfl (b:=b) (c:=c) (n:=n) (z:=z) (fm:=fm);have CJ:=Ll HH.out.YF HH.out.sh HH.out.cw;have HR:=z7 (iH HH.out.msg HH.out.Bs hE CJ.1 CJ.2.1 rfl (show ¬w1.heap.size+2<=w1.heap.size by omega) (show ¬w1.heap.size+2<=w1.heap.size+1 by omega) (false,([],[])) (g0:=()) (show sx b c n z fm () w1.drew from(Ln E b c n z fm).fr hI ((Fr.refl xH w1).drew) (fun _ q=>q.elim)) (fun k q=>q.elim));clear hE CJ hI hc HA ku uy;go_wp2_with fail;refine rt (fun W':World=>W'.cell? ⟨P,0,none⟩=some (.pointer (some ⟨q,0,none⟩))/\W'.cell? ⟨P,1,none⟩=some (.pointer (some ⟨g,0,none⟩))) (List.range 9) 5 ⟨c0,c1⟩ ?_;(iterate 9 (refine ty ?_;try simp only[pl]))
  refine xq ?_;refine kR 9 (fun J hJ=>?_);go_simp;refine HR.out.mono ?_;intro e w2 hq;obtain⟨a,b',rfl,vV,vu⟩:=Pv hq;have sq:Fr xH xH w1 w2:=((Fr.refl xH w1).drew).over vu (fun q hq => .inr (by have:w1.heap.size+2<=q:=hq;omega));have d0:=sq.cell c0 id;have d1:=sq.cell c1 id;have HQ:=z7 (zu vV sq);clear hq vV vu sq HR;refine hJ.out _ _ ⟨d0,d1⟩ fun _=>?_
  clear hJ J;refine Vv [10,11,12,13] 0 ⟨d0,d1⟩ ?_;(iterate 4 (refine ty ?_;try simp only[pl]))
  refine xq ?_;refine bX ?_ _;clear d0 d1 c0 c1;go_wp2;go_ret2
  exact⟨a,b',rfl,.inl ⟨HOK.out,HQ.out.1⟩,VD.out.trans HQ.out.2⟩
 ·have VD:=z7 uy;have HNO:=z7 CZ;clear uy CZ HA;go_wp2;go_ret2
  exact⟨_,_,rfl,.inr ⟨HNO.out,rfl,rfl⟩,VD.out⟩
end
theorem Fa{l:List Wd}(hl:∀ t∈l,t.length<=1000000):∀ (p:Nat×(Wd->Option (Wd×Bool))),(∀ m x,p.2 m=some x->m.length<=1000000/\x.1.length<=1000000)->∀ m x,(jd l p).2 m=some x->m.length<=1000000/\x.1.length<=1000000:=by
 match l with
 | []=>exact fun p h=>h
 | [_]=>exact fun p h=>h
 | [_,_]=>exact fun p h=>h
 | k::d::t::r =>
  intro p h;rw[jd];refine Fa (l:=r) (fun u hu=>hl u (by simp[hu])) _ fun m x hx=>?_
  simp only at hx;split at hx
  ·next e =>
   cases hx;exact⟨by rw[←e];exact hl k (by simp),hl t (by simp)⟩
  ·exact h m x hx
theorem UE:∀ (n:Nat) (l:List Wd),l.length<=n->∀ (p:Nat×(Wd->Option (Wd×Bool))),(jd l p).1<=p.1+l.length
 | _,[],_,p=>zN _ _
 | _,[_],_,p=>zN _ _
 | _,[_,_],_,p=>zN _ _
 | 0,_::_::_::_,h,_=>by simp at h
 | n+1,k::d::t::r,h,p=>by
  obtain⟨q,hq⟩:=xX ((if (p.2 k).isSome then p.1 else p.1+1));have hle:q<=p.1+1:=by rw[←hq];split<;>omega
  rw[jd,hq];have:=UE n r (by simp at h;omega) (q,fun m=>if k=m then some (t,d==[110]) else p.2 m);simp only[List.length_cons] at this ⊢;omega
theorem gz.KW{w:World}{b n z:Nat}{f:Wd->Option (Wd×Bool)}(h:gz w b n z f)(m:Wd)(hm:m.length<=5000000) :
  (Instr.lookup 82 (.map (some b)) (xk m) false).run Tryz.prog w = .ok (FN ((f m).getD ([],false))) w:=by
 obtain⟨D,h1,-,h3⟩:=h;obtain⟨v,ps,vF,hv⟩:=h1.lookup (Maps.string_keyed underlying9) underlying82 (z:=FN ([],false)) (by first|rfl|simp[go_sem]) (zd:=Xx ([],false)) (zp:=[]) (ES _ (by simp))
  (key:=xk m) (WideMaps.keyOf_string_mk (s:=⟨m.toArray⟩) underlying9 (by rw[size_mk];unfold maxLen;omega))
 rw[toList_mk] at hv;obtain⟨x,dH,qg,-⟩:=FO hv;have he:D.atKey (.string m) (Xx ([],false))=Xx x:=congrArg Prod.fst qg;rw[(h3 m).2] at he;rw[vF,dH,FT he]
section
variable {P q g mb:Nat} {f:Fo} {vC vI:Value} {rs:List (Value×Value)} {w:World}
def Rn(E:qL Unit)(f:Fo)(z:Nat)(fm:Wd->Option (Wd×Bool))(s:Wd)(k:Nat):Prop :=
 Ye fm z/\(match jS (Wf E fm) f [] (false,([],[])) [] () with | .ok (o,_)=>s=o/\k=0 | .error (n,_)=>s=[]/\k=n)\/¬Ye fm z/\s=[]/\k=11
theorem sk{E:qL Unit}{z:Nat}{fm:Wd->Option (Wd×Bool)}{a b:Value}(h:Ye fm z/\su (jS (Wf E fm) f [] (false,([],[])) [] ()) a b\/¬Ye fm z/\a=xk []/\b=qW 11) :
  ∃ s k,Rn E f z fm s k/\a=xk s/\(k=0/\b = .nilIface\/b=qW k):=by
 rcases h with⟨h1,h2⟩|⟨h1,rfl,rfl⟩
 ·unfold su at h2;unfold Rn;split at h2
  ·next o g' he=>exact⟨o,0,.inl ⟨h1,by rw[he];exact⟨rfl,rfl⟩⟩,h2.1,.inl ⟨rfl,h2.2⟩⟩
  ·next n g' he=>exact⟨[],n,.inl ⟨h1,by rw[he];exact⟨rfl,rfl⟩⟩,h2.1,.inr h2.2⟩
 ·exact⟨[],11,.inr ⟨h1,rfl,rfl⟩,rfl,.inr rfl⟩
theorem WZ{k:Nat}{b:Value}(h:k=0/\b = .nilIface\/b=qW k)(w:World)(hE:KQ w):Calls Tryz.prog 30 #[b] w (XT (k:Nat) 0 w):=by
 rcases h with⟨rfl,rfl⟩|rfl
 ·exact F9 w
 ·exact ey _ w hE
theorem Jj.fr{τ:Type}{E:qL τ}(h:Jj P q g mb f vC vI rs E w){w':World}(hf:Fr xH xH w w'):Jj P q g mb f vC vI rs E w':=by
 obtain⟨cv,ov,s1,s2,s3⟩:=h.loc.set;exact⟨hf.cell h.p0 id,hf.cell h.p1 id,h.prog.below (UC hf),⟨fun W nv n hW=>h.loc.wr W nv n (hf.trans hW),h.loc.wrl,⟨cv,ov,fun W hW=>s1 W (hf.trans hW),fun W nv d hW=>s2 W nv d (hf.trans hW),fun W nv d hW=>s3 W nv d (hf.trans hW)⟩,h.loc.srt⟩,h.msg,h.Bs,h.YF,h.sh,h.cw⟩
theorem Fc{w w':World}(hb:Below w.heap.size w w'):Fr xH xH w w':=⟨hb.os,hb.tape,hb.output,hb.size,fun k hk _=>hb.block k hk,fun _ q => .inl q⟩
theorem Lr{E:qL Unit}(h:Jj P q g mb f vC vI rs E w)(hR:KQ w){l:List Wd}{a:Option Addr}{n c:Nat}(ht:Xs w a l)(hn:l.length=n)(hl:∀ t∈l,t.length<=1000000)(q9:n<=1000000) :
  Calls Tryz.prog 21 #[.pointer (some ⟨P,0,none⟩),.slice a n c] w fun e w'=>(∃ s k,e = .returned (.tuple #[xk s,.int .i64 (k:Nat),.bool true])/\Rn E f (jd l (0,fun _=>none)).1 (jd l (0,fun _=>none)).2 s k)/\Fr xH xH w w':=by
 obtain⟨z,hz⟩:=xX ((jd l (0,fun _=>none)).1);obtain⟨fm,Uz⟩:=xX ((jd l (0,fun _=>none)).2);have VV:∀ m x,fm m=some x->m.length<=1000000/\x.1.length<=1000000:=by rw[←Uz];exact Fa hl _ (fun m x hx=>by cases hx)
 have hzc:z<=1000000:=by rw[←hz];have:=UE _ l (zx _) (0,fun _=>none);simp only at this;omega
 have HV:=z7 (fun (W:World) (hf:Fr xH xH w W)=>Lo (c:=c) (ht.fr hf) hn hl q9);rw[hz,Uz] at HV;rw[hz,Uz];have HH:=z7 h;have HR:=z7 hR;have HS:=z7 VV;have HZ:=z7 hzc;clear h hR ht hn hl q9 hz Uz VV hzc;go_enter func21,ntmps21;go_wp2_with fail;refine(HV.out w (Fr.refl _ _)).mono ?_;rintro e w1 ⟨rfl,⟨N,hN,m1⟩,uy⟩;have HF:=z7 (Lp (HH.out.fr uy) m1 (fun m x hx=>⟨zJ (HS.out m x hx).1 (by omega),(HS.out m x hx).2⟩) (by have:=HZ.out;omega));have H1:=z7 (zu m1 uy);obtain⟨b1,xB⟩:=xX w.heap.size;rw[xB] at HF H1 ⊢;clear m1 uy xB hN;go_wp2_with fail;refine HF.out.mono ?_;rintro e w2 ⟨r1,r2,rfl,hr,vu⟩;obtain⟨s,k,hs,rfl,hk⟩:=sk hr;have zgv:=H1.out.2.trans vu;have H2:=z7 (zu (H1.out.1.fr vu id) zgv);have HT:=z7 (WZ hk w2 (HR.out.below (UC zgv)));have HQ:=z7 hs;clear hr hs hk vu zgv HF H1;go_wp2_with fail;refine HT.out.mono ?_;rintro e w3 ⟨rfl,uP⟩;have jx:=H2.out.2.trans (Fc uP);have H3:=z7 (zu (H2.out.1.fr (Fc uP) id) jx);clear uP jx H2 HT;go_wp2_with fail;refine(HV.out w3 H3.out.2).mono ?_;rintro e w4 ⟨rfl,⟨N4,hN4,m4⟩,YY⟩;obtain⟨b4,uN⟩:=xX w3.heap.size;rw[uN] at m4 ⊢;have m1:=H3.out.1.fr YY id;have l1:=m1.len 3;have l4:=m4.len 3;obtain⟨w5,wL,hRg,qc,H9⟩:=m4.range;obtain⟨r,hr⟩:=xX w4.heap.size;rw[hr] at wL hRg;have JA:=(H3.out.2.trans YY).over (kO qc) (fun q hq=>by cases hq);have tS:=m1.lt;have H5:=z7 (zu hRg (zu (m1.fr (kO qc) (fun q=>by cases q)) (zu JA (show b1≠r by omega))));have IY:=z7 (zu hr (show w.heap.size<=w4.heap.size from(H3.out.2.trans YY).size));clear hRg qc H9 JA m1 m4 YY uN tS H3 hr HV hN4;go_wp2_with fail;go_loopw [13] (fun sv wr=>∃ left cnt,sv = .bool true/\FW wr b4 r N4 fm left cnt/\gz wr b1 N z fm/\Fr xH xH w wr) (fun _ wr=>wr.rangeLeft b4 r)
 case atStart=>exact⟨_,_,rfl,H5.out.1,H5.out.2.1,H5.out.2.2.1⟩
 case round =>
  obtain⟨left,cnt,rfl,LK,hm,hf⟩:=hrel;have ET:=z7 (zu LK hf);rcases LK.next 0 with⟨-,CZ,Eg⟩|⟨m,x,w',Wj,hlm,Uz,Eg,Mh,N9,Yt,qP,fL⟩
  ·have Eg:=fun ty=>(G8 (.pointer (some ⟨r,0,none⟩)) ty 0 wr).trans Eg
   clear LK hm hf CZ;go_wp2;go_ret3
   exact⟨⟨s,k,rfl,HQ.out⟩,ET.out.2⟩
  ·have Eg:=fun ty=>(G8 (.pointer (some ⟨r,0,none⟩)) ty 0 wr).trans Eg
   obtain⟨t,num⟩:=x;have Xq:Fr xH xH w w':=hf.over (kO Yt) (fun q hq => .inr (by cases hq;have:=IY.out;omega));have hmw:gz w' b1 N z fm:=hm.fr (kO Yt) (fun q=>H5.out.2.2.2 (zV q).symm);have VF:=fun o=>(hmw.fr ((Fr.refl xH w').alloc o) id).KW m (by have:=(HS.out m _ Uz).1;omega)
   rw[Uz] at VF;have HB:=z7 (zu Mh (zu N9 (zu Xq hmw)));clear LK hm hf Mh N9 Yt qP hlm Uz Xq hmw;go_wp2;go_roundw
   case measure =>
    rw[(HB.out.1.fr ((Fr.refl xH w').alloc _) id id).left_eq,ET.out.1.left_eq];exact HB.out.2.1
   case rel =>
    exact⟨_,_,rfl,HB.out.1.fr ((Fr.refl xH w').alloc _) id id,HB.out.2.2.2.fr ((Fr.refl xH w').alloc _) id,HB.out.2.2.1.alloc _⟩
end
theorem dJ.grown{W W':World}{q:Nat}{row:Option Nat}(h:dJ W q)(hg:W.grownBy W' row)(xc:some q≠row):dJ W' q :=
 ⟨hg.cell h.c0 xc,hg.cell h.c1 xc,hg.cell h.c2 xc,(zv (hg.block q h.lt xc)).trans h.z0,(zv (hg.block q h.lt xc)).trans h.z1,(zv (hg.block q h.lt xc)).trans h.z2,zt h.lt hg.size⟩
theorem dJ.set{W:World}{q:Nat}(h:dJ W q){a:Addr}(ha:a.block≠q)(u:Value):dJ (W.setCell a u) q :=
 have hb:(W.setCell a u).heap[q]? = W.heap[q]? := zQ _ _ _ _ (fun e=>ha e.symm);⟨(zG hb).trans h.c0,(zG hb).trans h.c1,(zG hb).trans h.c2,(zv hb).trans h.z0,(zv hb).trans h.z1,(zv hb).trans h.z2,by simpa[za] using h.lt⟩
theorem Fe{w:World}{p:Addr}{l:List UInt8}(h:xK w (some p) (xW l)):∀ j u,(xw l)[j]? = some u->w.cell? (p.add j)=some u:=by
 intro j u hu;have hj:j<(xW l).length:=by
  have:=(zg.1 hu).1;simpa[xw,xW] using this
 obtain⟨b,hb,hc⟩:=h j hj
 cases hb;rw[hc];rw[UF,List.getElem?_map,zZ hj] at hu;simpa using hu
theorem Ls(l:List UInt8):∀ u∈xw l,u.oneCell'=true:=by
 intro u hu;simp only[xw,List.mem_map] at hu;obtain⟨c,_,rfl⟩:=hu;rfl
theorem QI{w:World}{base g n cap:Nat}{e:TypeId}{a:List UInt8}{xs:List Value}{b:Bool}(h:w.ownsRow base e 1 (.slice (some ⟨g,0,none⟩) n cap) n (xw a++xs))(ha:a≠[])(hc:w.cell? ⟨g,0,none⟩=some (.bool b)):False:=by
 cases a with
 | nil=>exact ha rfl
 | cons c t =>
  have hn:0<n:=by have:=h.1;simp[xw] at this;omega
  have:=h.cellAt 0 (by omega);rw[hc] at this;simp[xw] at this
theorem sj(v:Value)(x:Dg)(m:Nat)(w:World)(h:uR w v x)(hm:m<=1000000000)(Dr:0<m) :
  Calls Tryz.prog 183 #[v,.int .i64 m] w (qh (xI (XO x.1 m),x.2) w):=by
 have ku:=h.ok;have DD:=ku.FZ;have PW:=ku.JI;have HH:=z7 h;have HO:=z7 ku;obtain⟨b,g,go,cap,rfl,_,_,_,_,_⟩:=h;obtain⟨jz,vv⟩:=fI w (.cells #[.bool b,.slice (some ⟨g,go,none⟩) (x.1.length+x.2.length) cap,.int .i64 x.2.length] 97);have iP:((w.alloc (.cells #[.bool b,.slice (some ⟨g,go,none⟩) (x.1.length+x.2.length) cap,.int .i64 x.2.length] 97)).alloc (.cells #[.bool false,.slice none 0 0,.int .i64 0] 97)).cell? ⟨w.heap.size,0,none⟩=some (.bool b) /\
   ((w.alloc (.cells #[.bool b,.slice (some ⟨g,go,none⟩) (x.1.length+x.2.length) cap,.int .i64 x.2.length] 97)).alloc (.cells #[.bool false,.slice none 0 0,.int .i64 0] 97)).cell? ⟨w.heap.size,1,none⟩=some (.slice (some ⟨g,go,none⟩) (x.1.length+x.2.length) cap) /\
   ((w.alloc (.cells #[.bool b,.slice (some ⟨g,go,none⟩) (x.1.length+x.2.length) cap,.int .i64 x.2.length] 97)).alloc (.cells #[.bool false,.slice none 0 0,.int .i64 0] 97)).cell? ⟨w.heap.size,2,none⟩=some (.int .i64 x.2.length):=⟨by go_simp,by go_simp,by go_simp⟩
 clear ku;go_enter func183,ntmps183;go_wp2_with fail;generalize (w.alloc (.cells #[.bool b,.slice (some ⟨g,go,none⟩) (x.1.length+x.2.length) cap,.int .i64 x.2.length] 97)).alloc (.cells #[.bool false,.slice none 0 0,.int .i64 0] 97)=W at jz vv iP ⊢;obtain⟨k0,k1,k2⟩:=iP;have hWs:w.heap.size<W.heap.size:=z8 W _ k0;refine(EU _ x _ (HH.out.below jz)).mono ?_;rintro e w1 ⟨⟨Yj,ve,rfl,qX,jJ,hB⟩,xB⟩;have Xv:=vv.below xB;have vO:Below w.heap.size w w1:=jz.trans (xB.mono jz.size);have j0:=(xB.cell (p:=⟨w.heap.size,0,none⟩) hWs).trans k0;have j1:=(xB.cell (p:=⟨w.heap.size,1,none⟩) hWs).trans k1;have j2:=(xB.cell (p:=⟨w.heap.size,2,none⟩) hWs).trans k2;have HB:=z7 hB;clear jz vv xB k0 k1 k2 hB hWs;have xD:=fun l=>aR l m Dr
 have Ml:=z7 xD;clear xD;go_wp2_with fail;go_loop [5,12] (fun r i=>∃ k:Nat,k<=x.1.length/\i = .int .i64 k/\r = .int .i64 (XO (x.1.take k) m)) (fun _ i=>x.1.length - (intOf i).toNat)
 case atStart=>exact⟨0,zF _,rfl,rfl⟩
 case round =>
  obtain⟨k,hk,rfl,rfl⟩:=hrel;by_cases xD:k<x.1.length
  ·obtain⟨p,rfl,hc⟩:=HB.out k (by rw[vX];exact xD);have hvm:(xW x.1)[k]'(by rw[vX];exact xD)=(x.1[k].toNat:Int) - 48:=by simp[xW]
   rw[hvm] at hc;have hd:=(vR _).1 (List.all_eq_true.1 HO.out.eN _ (zL xD));have hL:=Ml.out (x.1.take k);have hsn:XO (x.1.take (k+1)) m=(10*XO (x.1.take k) m+(x.1[k].toNat - 48)) % m:=by rw[zf xD,Gp]
   have pj:=z7 hsn;obtain⟨r,hr⟩:∃ r,r=XO (x.1.take k) m:=⟨_,rfl⟩;obtain⟨d,hdd⟩:∃ d:Nat,(d:Int)=(x.1[k].toNat:Int) - 48:=⟨x.1[k].toNat - 48,by omega⟩;have Df:x.1[k].toNat - 48=d:=by omega
   rw[←hdd] at hc;rw[←hr,Df] at pj;rw[←hr] at hL ⊢;have hd9:d<=9:=by omega
   have hmz:¬((m:Int)=0):=by omega
   clear hsn hvm hd hr hdd Df;go_wp2;exact⟨⟨k+1,by omega,by go_num,by rw[pj.out];go_num⟩,by simp[intOf];omega⟩
  ·obtain rfl:k=x.1.length:=by omega
   have ZD:=Ml.out (x.1.take x.1.length);rw[zI] at ZD ⊢;clear Ml HB;obtain⟨r,hr⟩:∃ r,r=XO x.1 m:=⟨_,rfl⟩;have HR:=z7 hr;rw[←hr] at ZD ⊢;clear hr;go_wp2_with fail;refine(Y6 r _ (by omega)).mono ?_;rintro e w2 ⟨⟨g2,uG,rfl,ho⟩,xF⟩;have b6:=Xv.below xF;have uK:Below w.heap.size w w2:=vO.trans (xF.mono vO.size);have uL:w.heap.size<w1.heap.size:=z8 w1 _ j0;have i0:=(xF.cell (p:=⟨w.heap.size,0,none⟩) uL).trans j0;have i1:=(xF.cell (p:=⟨w.heap.size,1,none⟩) uL).trans j1;have i2:=(xF.cell (p:=⟨w.heap.size,2,none⟩) uL).trans j2;have ft:=(ho.lt g2 rfl);have Ro:=z7 Xv.lt;clear xF j0 j1 j2 Xv vO;go_wp2_with (fail);have F:∃ W3,W3=w2.alloc (.cells #[.bool false,.slice (some ⟨g2,0,none⟩) (xI r).length uG,.int .i64 0] 97)/\Below w2.heap.size w2 W3/\W3.heap.size=w2.heap.size+1 /\
     W3.cell? ⟨w2.heap.size,0,none⟩=some (.bool false)/\W3.cell? ⟨w2.heap.size,1,none⟩=some (.slice (some ⟨g2,0,none⟩) (xI r).length uG)/\W3.cell? ⟨w2.heap.size,2,none⟩=some (.int .i64 0) /\
     W3.frozen? ⟨w2.heap.size,0,none⟩=false/\W3.frozen? ⟨w2.heap.size,1,none⟩=false/\W3.frozen? ⟨w2.heap.size,2,none⟩=false /\
     W3.ownsRow w1.heap.size 5 1 (.slice (some ⟨g2,0,none⟩) (xI r).length uG) (xI r).length (xw (xI r)) :=
    ⟨_,rfl,(zX _ _).alloc (zx _) _,by simp,by go_simp,by go_simp,by go_simp,by go_simp,by go_simp,by go_simp,ho.alloc _⟩
   obtain⟨W3,kT,uP,Mc,q0,q1,q2,y0,y1,y2,Sn⟩:=F;rw[←kT];have Xk:=b6.below uP;have ue:w.heap.size<w2.heap.size:=z8 w2 _ i0;have o0:=(uP.cell (p:=⟨w.heap.size,0,none⟩) ue).trans i0;have o1:=(uP.cell (p:=⟨w.heap.size,1,none⟩) ue).trans i1;have o2:=(uP.cell (p:=⟨w.heap.size,2,none⟩) ue).trans i2;have ZV:Below w.heap.size w W3:=uK.trans (uP.mono uK.size);have Ns:w1.heap.size<=w2.heap.size:=by omega
   clear kT uP b6 i0 i1 i2 ho;obtain⟨B,hBq⟩:∃ B,B=w.heap.size:=⟨_,rfl⟩;obtain⟨q,hq⟩:∃ q,q=w2.heap.size:=⟨_,rfl⟩;rw[←hBq] at o0 o1 o2 Xk ue ⊢;rw[←hq] at q0 q1 q2 y0 y1 y2 ue Mc ⊢;have HBq:=z7 hBq;have HQ:=z7 hq;clear hBq hq;have jo:W3.drew.cell? ⟨B,0,none⟩=some (.bool b)/\W3.drew.cell? ⟨B,1,none⟩=some (.slice (some ⟨g,go,none⟩) (x.1.length+x.2.length) cap)/\W3.drew.cell? ⟨B,2,none⟩=some (.int .i64 x.2.length):=⟨o0,o1,o2⟩;refine uA (fun W':World=>W'.cell? ⟨B,0,none⟩=some (.bool b)/\W'.cell? ⟨B,1,none⟩=some (.slice (some ⟨g,go,none⟩) (x.1.length+x.2.length) cap)/\W'.cell? ⟨B,2,none⟩=some (.int .i64 x.2.length))
    [0,2,5,6] 7 (by intro _ _ d _ _ h;cases d<;>exact h) (by kernel_rfl) (by kernel_rfl) jo ?_
   (iterate 4 ((first|refine ty ?_|refine tn ?_);try simp only[pl]))
   refine xq ?_;refine wpAnyH_ready (rs:=[1,3]) (by kernel_rfl) (by simp) (zn rfl (fun K hK=>?_) (zn rfl (fun K hK=>?_) AllReadyH.nil))
   ·go_simp;refine hK.out _ _ jo (fun _=>?_);clear hK K;refine kR 3 (fun K hK=>?_);go_simp;refine(KN _ x _ (HH.out.below ZV.drew)).mono ?_;rintro e w4 ⟨⟨p4,zgu,rfl,Cn,DZ,rL⟩,uN⟩;have De:B<W3.heap.size:=z8 W3 _ o0;have XJ:q<W3.heap.size:=z8 W3 _ q1;have a0:=(uN.cell (p:=⟨B,0,none⟩) De).trans jo.1;have a1:=(uN.cell (p:=⟨B,1,none⟩) De).trans jo.2.1;have a2:=(uN.cell (p:=⟨B,2,none⟩) De).trans jo.2.2;have p1:=(uN.cell (p:=⟨q,1,none⟩) XJ).trans q1;have p0:=(uN.cell (p:=⟨q,0,none⟩) XJ).trans q0;have p2:=(uN.cell (p:=⟨q,2,none⟩) XJ).trans q2;have x0:=(uN.frozen (p:=⟨q,0,none⟩) XJ).trans y0;have x1:=(uN.frozen (p:=⟨q,1,none⟩) XJ).trans y1;have x2:=(uN.frozen (p:=⟨q,2,none⟩) XJ).trans y2;have UT:=fH (zP Sn) uN;have Gk:=(show dJ W3.drew (B+1) from⟨Xk.c0,Xk.c1,Xk.c2,Xk.z0,Xk.z1,Xk.z2,Xk.lt⟩).below uN;have dM:Below w.heap.size w w4:=ZV.drew.trans (uN.mono ZV.size);have QS:W3.heap.size<=w4.heap.size:=uN.size;refine hK.out _ _ ⟨a0,a1,a2⟩ (fun _=>?_);clear hK K jo o0 o1 o2 q0 q1 q2 y0 y1 y2 Sn Xk uN;refine kR 4 (fun K hK=>?_);rw[if_pos (by rfl)];obtain⟨i,hi,hz,h2,h3⟩:=vy.info;refine wp_append_own w4 _ _ 48 rfl w1.heap.size 5 i _ 1 1 vy.under hi hz h2 h3 vy.VT vy.pos _ _ _ rfl UT p4 x.2.length zgu (xw x.2) rfl (by simp[xw]) (Fe rL) (Ls x.2)
      (by unfold maxLen;have:=qA 9 r (by omega);omega) (by have:=qA 9 r (by omega);omega) (by have:=HQ.out;omega) ?_
    intro v5 w5 jW qc _;have sg:some B≠(zE (some ⟨g2,0,none⟩) (xI r).length uG).ownBlock:=fun e=>by simp[zj] at e;have:=HBq.out;omega
    have Pu:some q≠(zE (some ⟨g2,0,none⟩) (xI r).length uG).ownBlock:=fun e=>by simp[zj] at e;have:=HQ.out;omega
    have iR:some (B+1)≠(zE (some ⟨g2,0,none⟩) (xI r).length uG).ownBlock:=fun e=>by
     simp[zj] at e;have xB:=Ro.out;have:=HBq.out;omega
    have jm:0<(xI r).length+x.2.length:=by have:=zm.2 (bj r);omega
    obtain⟨g5,gW,rfl,yi3,yi4,_⟩:=xl jW jm;have b0:=qc.cell a0 sg;have b1:=qc.cell a1 sg;have b2:=qc.cell a2 sg;have r0:=qc.cell p0 Pu;have r1:=qc.cell p1 Pu;have r2:=qc.cell p2 Pu;have Tp:q<w4.heap.size:=z8 w4 _ p0;have f0:=(zv (a:=⟨q,0,none⟩) (qc.block q Tp Pu)).trans x0;have f1:=(zv (a:=⟨q,1,none⟩) (qc.block q Tp Pu)).trans x1;have f2:=(zv (a:=⟨q,2,none⟩) (qc.block q Tp Pu)).trans x2;have R1:=Gk.grown qc iR;have iT:Below w.heap.size w w5:=dM.grown qc dM.size (fun k hk=>by have CX:g2=k:=zV hk;have:=ft.1;omega);have yi5:B+1<q:=by have:=Ro.out;have:=HBq.out;have:=HQ.out;omega
    have hBw:w.heap.size<=B:=by have:=HBq.out;omega
    simp only[Act.put,zS,zo,zr];refine hK.out _ _ ⟨b0,b1,b2⟩ (fun _=>?_);clear hK K a0 a1 a2 p0 p1 p2 x0 x1 x2 Gk dM UT rL qc sg Pu iR hi hz;refine Vv [7] 3 ⟨b0,b1,b2⟩ ?_;(iterate 1 ((first|refine ty ?_|refine tn ?_);try simp only[pl]))
    refine xq ?_;refine kR 8 (fun K hK=>?_);go_simp;have yi6:¬q=B:=by omega
    refine hK.out _ _ ⟨by rw[World.cell?_setCell_other (h:=by first|(simp;done)|(simp;omega))];exact b0,by rw[World.cell?_setCell_other (h:=by first|(simp;done)|(simp;omega))];exact b1,by rw[World.cell?_setCell_other (h:=by first|(simp;done)|(simp;omega))];exact b2⟩ (fun _=>?_);clear hK K;have t0:(w5.setCell ⟨q,1,none⟩ (.slice (some ⟨g5,0,none⟩) ((xI r).length+x.2.length) gW)).cell? ⟨q,0,none⟩=some (.bool false):=by rw[World.cell?_setCell_other (h:=by simp)];exact r0
    have t1:(w5.setCell ⟨q,1,none⟩ (.slice (some ⟨g5,0,none⟩) ((xI r).length+x.2.length) gW)).cell? ⟨q,1,none⟩=some (.slice (some ⟨g5,0,none⟩) ((xI r).length+x.2.length) gW):=by rw[zk (h:=r1)]
    have t2:(w5.setCell ⟨q,1,none⟩ (.slice (some ⟨g5,0,none⟩) ((xI r).length+x.2.length) gW)).cell? ⟨q,2,none⟩=some (.int .i64 0):=by rw[zy (h:=by simp)];exact r2
    have u2:(w5.setCell ⟨q,1,none⟩ (.slice (some ⟨g5,0,none⟩) ((xI r).length+x.2.length) gW)).frozen? ⟨q,2,none⟩=false:=by simpa using f2
    have c0:(w5.setCell ⟨q,1,none⟩ (.slice (some ⟨g5,0,none⟩) ((xI r).length+x.2.length) gW)).cell? ⟨B,0,none⟩=some (.bool b):=by rw[zy (h:=by first|(simp;done)|(simp;omega))];exact b0
    have c1:(w5.setCell ⟨q,1,none⟩ (.slice (some ⟨g5,0,none⟩) ((xI r).length+x.2.length) gW)).cell? ⟨B,1,none⟩=some (.slice (some ⟨g,go,none⟩) (x.1.length+x.2.length) cap):=by rw[zy (h:=by first|(simp;done)|(simp;omega))];exact b1
    have c2:(w5.setCell ⟨q,1,none⟩ (.slice (some ⟨g5,0,none⟩) ((xI r).length+x.2.length) gW)).cell? ⟨B,2,none⟩=some (.int .i64 x.2.length):=by rw[zy (h:=by first|(simp;done)|(simp;omega))];exact b2
    have Xu:=R1.set (a:=⟨q,1,none⟩) (by show q≠B+1;omega) (.slice (some ⟨g5,0,none⟩) ((xI r).length+x.2.length) gW);have YA:=iT.setCell (p:=⟨q,1,none⟩) (show w.heap.size<=q by omega) (.slice (some ⟨g5,0,none⟩) ((xI r).length+x.2.length) gW);have iW:g5≠q:=fun e=>by
     subst e;exact QI jW (bj r) r0
    have Qm:=xp (p:=⟨q,1,none⟩) jW (fun e=>iW (by simpa[zj,eq_comm] using e)) (.slice (some ⟨g5,0,none⟩) ((xI r).length+x.2.length) gW);clear b0 b1 b2 r0 r1 r2 f0 f1 f2 R1 iT jW;generalize w5.setCell ⟨q,1,none⟩ (.slice (some ⟨g5,0,none⟩) ((xI r).length+x.2.length) gW)=w6 at *;refine Vv [9] 1 ⟨c0,c1,c2⟩ ?_;(iterate 1 ((first|refine ty ?_|refine tn ?_);try simp only[pl]))
    refine xq ?_;refine kR 10 (fun K hK=>?_);go_simp;refine hK.out _ _ ⟨by rw[World.cell?_setCell_other (h:=by first|(simp;done)|(simp;omega))];exact c0,by rw[World.cell?_setCell_other (h:=by first|(simp;done)|(simp;omega))];exact c1,by rw[World.cell?_setCell_other (h:=by first|(simp;done)|(simp;omega))];exact c2⟩ (fun _=>?_);clear hK K;have d0:(w6.setCell ⟨q,2,none⟩ (.int .i64 x.2.length)).cell? ⟨q,0,none⟩=some (.bool false):=by rw[World.cell?_setCell_other (h:=by simp)];exact t0
    have d1:(w6.setCell ⟨q,2,none⟩ (.int .i64 x.2.length)).cell? ⟨q,1,none⟩=some (.slice (some ⟨g5,0,none⟩) ((xI r).length+x.2.length) gW):=by rw[zy (h:=by simp)];exact t1
    have d2:(w6.setCell ⟨q,2,none⟩ (.int .i64 x.2.length)).cell? ⟨q,2,none⟩=some (.int .i64 x.2.length):=by rw[zk (h:=t2)]
    have GO:=Xu.set (a:=⟨q,2,none⟩) (by show q≠B+1;omega) (.int .i64 x.2.length);have KH:=YA.setCell (p:=⟨q,2,none⟩) (show w.heap.size<=q by omega) (.int .i64 x.2.length);have ho7:=xp (p:=⟨q,2,none⟩) Qm (fun e=>iW (by simpa[zj,eq_comm] using e)) (.int .i64 x.2.length);clear t0 t1 t2 u2 c0 c1 c2 Xu YA Qm;generalize w6.setCell ⟨q,2,none⟩ (.int .i64 x.2.length)=w7 at *;refine bX ?_ _;have e0:=GO.c0;have e1:=GO.c1;have e2:=GO.c2;have z0:=GO.z0;have z1:=GO.z1;have z2:=GO.z2;have wu:=z7 ho7;have HR7:=z7 GO;clear ho7 GO;go_wp2;refine bodyPost_ret (v := .agg #[.bool false,.slice (some ⟨g5,0,none⟩) ((xI r).length+x.2.length) gW,.int .i64 x.2.length]) ?_ rfl ?_
    ·simp[results,results183,go_sem,e0,e1,e2]
    rw[←HR.out];refine gV (w:=w) ?_ HR7.out (by omega) KH;have hdd:xw (xI r)++xw x.2=xw (xI r++x.2):=by simp[xw]
    have AU:=wu.out;rw[hdd] at AU;have qP:=qA 9 r (by omega);exact VU (w:=w) (x:=(xI r,x.2)) rfl (by simp) (gP AU (by omega)) ⟨Xc r,HO.out.TM,bj r,by show(xI r).length<=100;omega,PW⟩
   ·skip
    go_simp;refine(KN _ x _ (HH.out.below ZV.drew)).mono ?_;rintro e w4 ⟨⟨p4,zgu,rfl,Cn,DZ,rL⟩,uN⟩;have De:B<W3.heap.size:=z8 W3 _ o0;have XJ:q<W3.heap.size:=z8 W3 _ q1;have a0:=(uN.cell (p:=⟨B,0,none⟩) De).trans jo.1;have a1:=(uN.cell (p:=⟨B,1,none⟩) De).trans jo.2.1;have a2:=(uN.cell (p:=⟨B,2,none⟩) De).trans jo.2.2;have p1:=(uN.cell (p:=⟨q,1,none⟩) XJ).trans q1;have p0:=(uN.cell (p:=⟨q,0,none⟩) XJ).trans q0;have p2:=(uN.cell (p:=⟨q,2,none⟩) XJ).trans q2;have x0:=(uN.frozen (p:=⟨q,0,none⟩) XJ).trans y0;have x1:=(uN.frozen (p:=⟨q,1,none⟩) XJ).trans y1;have x2:=(uN.frozen (p:=⟨q,2,none⟩) XJ).trans y2;have UT:=fH (zP Sn) uN;have Gk:=(show dJ W3.drew (B+1) from⟨Xk.c0,Xk.c1,Xk.c2,Xk.z0,Xk.z1,Xk.z2,Xk.lt⟩).below uN;have dM:Below w.heap.size w w4:=ZV.drew.trans (uN.mono ZV.size);have QS:W3.heap.size<=w4.heap.size:=uN.size;refine hK.out _ _ ⟨a0,a1,a2⟩ (fun _=>?_);clear hK K jo o0 o1 o2 q0 q1 q2 y0 y1 y2 Sn Xk uN;refine kR 1 (fun K hK=>?_);go_simp;refine hK.out _ _ ⟨a0,a1,a2⟩ (fun _=>?_);clear hK K;refine kR 4 (fun K hK=>?_);rw[if_pos (by rfl)];obtain⟨i,hi,hz,h2,h3⟩:=vy.info;refine wp_append_own w4 _ _ 48 rfl w1.heap.size 5 i _ 1 1 vy.under hi hz h2 h3 vy.VT vy.pos _ _ _ rfl UT p4 x.2.length zgu (xw x.2) rfl (by simp[xw]) (Fe rL) (Ls x.2)
      (by unfold maxLen;have:=qA 9 r (by omega);omega) (by have:=qA 9 r (by omega);omega) (by have:=HQ.out;omega) ?_
    intro v5 w5 jW qc _;have sg:some B≠(zE (some ⟨g2,0,none⟩) (xI r).length uG).ownBlock:=fun e=>by simp[zj] at e;have:=HBq.out;omega
    have Pu:some q≠(zE (some ⟨g2,0,none⟩) (xI r).length uG).ownBlock:=fun e=>by simp[zj] at e;have:=HQ.out;omega
    have iR:some (B+1)≠(zE (some ⟨g2,0,none⟩) (xI r).length uG).ownBlock:=fun e=>by
     simp[zj] at e;have xB:=Ro.out;have:=HBq.out;omega
    have jm:0<(xI r).length+x.2.length:=by have:=zm.2 (bj r);omega
    obtain⟨g5,gW,rfl,yi3,yi4,_⟩:=xl jW jm;have b0:=qc.cell a0 sg;have b1:=qc.cell a1 sg;have b2:=qc.cell a2 sg;have r0:=qc.cell p0 Pu;have r1:=qc.cell p1 Pu;have r2:=qc.cell p2 Pu;have Tp:q<w4.heap.size:=z8 w4 _ p0;have f0:=(zv (a:=⟨q,0,none⟩) (qc.block q Tp Pu)).trans x0;have f1:=(zv (a:=⟨q,1,none⟩) (qc.block q Tp Pu)).trans x1;have f2:=(zv (a:=⟨q,2,none⟩) (qc.block q Tp Pu)).trans x2;have R1:=Gk.grown qc iR;have iT:Below w.heap.size w w5:=dM.grown qc dM.size (fun k hk=>by have CX:g2=k:=zV hk;have:=ft.1;omega);have yi5:B+1<q:=by have:=Ro.out;have:=HBq.out;have:=HQ.out;omega
    have hBw:w.heap.size<=B:=by have:=HBq.out;omega
    simp only[Act.put,zS,zo,zr];refine hK.out _ _ ⟨b0,b1,b2⟩ (fun _=>?_);clear hK K a0 a1 a2 p0 p1 p2 x0 x1 x2 Gk dM UT rL qc sg Pu iR hi hz;refine Vv [7] 3 ⟨b0,b1,b2⟩ ?_;(iterate 1 ((first|refine ty ?_|refine tn ?_);try simp only[pl]))
    refine xq ?_;refine kR 8 (fun K hK=>?_);go_simp;have yi6:¬q=B:=by omega
    refine hK.out _ _ ⟨by rw[World.cell?_setCell_other (h:=by first|(simp;done)|(simp;omega))];exact b0,by rw[World.cell?_setCell_other (h:=by first|(simp;done)|(simp;omega))];exact b1,by rw[World.cell?_setCell_other (h:=by first|(simp;done)|(simp;omega))];exact b2⟩ (fun _=>?_);clear hK K;have t0:(w5.setCell ⟨q,1,none⟩ (.slice (some ⟨g5,0,none⟩) ((xI r).length+x.2.length) gW)).cell? ⟨q,0,none⟩=some (.bool false):=by rw[World.cell?_setCell_other (h:=by simp)];exact r0
    have t1:(w5.setCell ⟨q,1,none⟩ (.slice (some ⟨g5,0,none⟩) ((xI r).length+x.2.length) gW)).cell? ⟨q,1,none⟩=some (.slice (some ⟨g5,0,none⟩) ((xI r).length+x.2.length) gW):=by rw[zk (h:=r1)]
    have t2:(w5.setCell ⟨q,1,none⟩ (.slice (some ⟨g5,0,none⟩) ((xI r).length+x.2.length) gW)).cell? ⟨q,2,none⟩=some (.int .i64 0):=by rw[zy (h:=by simp)];exact r2
    have u2:(w5.setCell ⟨q,1,none⟩ (.slice (some ⟨g5,0,none⟩) ((xI r).length+x.2.length) gW)).frozen? ⟨q,2,none⟩=false:=by simpa using f2
    have c0:(w5.setCell ⟨q,1,none⟩ (.slice (some ⟨g5,0,none⟩) ((xI r).length+x.2.length) gW)).cell? ⟨B,0,none⟩=some (.bool b):=by rw[zy (h:=by first|(simp;done)|(simp;omega))];exact b0
    have c1:(w5.setCell ⟨q,1,none⟩ (.slice (some ⟨g5,0,none⟩) ((xI r).length+x.2.length) gW)).cell? ⟨B,1,none⟩=some (.slice (some ⟨g,go,none⟩) (x.1.length+x.2.length) cap):=by rw[zy (h:=by first|(simp;done)|(simp;omega))];exact b1
    have c2:(w5.setCell ⟨q,1,none⟩ (.slice (some ⟨g5,0,none⟩) ((xI r).length+x.2.length) gW)).cell? ⟨B,2,none⟩=some (.int .i64 x.2.length):=by rw[zy (h:=by first|(simp;done)|(simp;omega))];exact b2
    have Xu:=R1.set (a:=⟨q,1,none⟩) (by show q≠B+1;omega) (.slice (some ⟨g5,0,none⟩) ((xI r).length+x.2.length) gW);have YA:=iT.setCell (p:=⟨q,1,none⟩) (show w.heap.size<=q by omega) (.slice (some ⟨g5,0,none⟩) ((xI r).length+x.2.length) gW);have iW:g5≠q:=fun e=>by
     subst e;exact QI jW (bj r) r0
    have Qm:=xp (p:=⟨q,1,none⟩) jW (fun e=>iW (by simpa[zj,eq_comm] using e)) (.slice (some ⟨g5,0,none⟩) ((xI r).length+x.2.length) gW);clear b0 b1 b2 r0 r1 r2 f0 f1 f2 R1 iT jW;generalize w5.setCell ⟨q,1,none⟩ (.slice (some ⟨g5,0,none⟩) ((xI r).length+x.2.length) gW)=w6 at *;refine Vv [9] 1 ⟨c0,c1,c2⟩ ?_;(iterate 1 ((first|refine ty ?_|refine tn ?_);try simp only[pl]))
    refine xq ?_;refine kR 10 (fun K hK=>?_);go_simp;refine hK.out _ _ ⟨by rw[World.cell?_setCell_other (h:=by first|(simp;done)|(simp;omega))];exact c0,by rw[World.cell?_setCell_other (h:=by first|(simp;done)|(simp;omega))];exact c1,by rw[World.cell?_setCell_other (h:=by first|(simp;done)|(simp;omega))];exact c2⟩ (fun _=>?_);clear hK K;have d0:(w6.setCell ⟨q,2,none⟩ (.int .i64 x.2.length)).cell? ⟨q,0,none⟩=some (.bool false):=by rw[World.cell?_setCell_other (h:=by simp)];exact t0
    have d1:(w6.setCell ⟨q,2,none⟩ (.int .i64 x.2.length)).cell? ⟨q,1,none⟩=some (.slice (some ⟨g5,0,none⟩) ((xI r).length+x.2.length) gW):=by rw[zy (h:=by simp)];exact t1
    have d2:(w6.setCell ⟨q,2,none⟩ (.int .i64 x.2.length)).cell? ⟨q,2,none⟩=some (.int .i64 x.2.length):=by rw[zk (h:=t2)]
    have GO:=Xu.set (a:=⟨q,2,none⟩) (by show q≠B+1;omega) (.int .i64 x.2.length);have KH:=YA.setCell (p:=⟨q,2,none⟩) (show w.heap.size<=q by omega) (.int .i64 x.2.length);have ho7:=xp (p:=⟨q,2,none⟩) Qm (fun e=>iW (by simpa[zj,eq_comm] using e)) (.int .i64 x.2.length);clear t0 t1 t2 u2 c0 c1 c2 Xu YA Qm;generalize w6.setCell ⟨q,2,none⟩ (.int .i64 x.2.length)=w7 at *;refine bX ?_ _;have e0:=GO.c0;have e1:=GO.c1;have e2:=GO.c2;have z0:=GO.z0;have z1:=GO.z1;have z2:=GO.z2;have wu:=z7 ho7;have HR7:=z7 GO;clear ho7 GO;go_wp2;refine bodyPost_ret (v := .agg #[.bool false,.slice (some ⟨g5,0,none⟩) ((xI r).length+x.2.length) gW,.int .i64 x.2.length]) ?_ rfl ?_
    ·simp[results,results183,go_sem,e0,e1,e2]
    rw[←HR.out];refine gV (w:=w) ?_ HR7.out (by omega) KH;have hdd:xw (xI r)++xw x.2=xw (xI r++x.2):=by simp[xw]
    have AU:=wu.out;rw[hdd] at AU;have qP:=qA 9 r (by omega);exact VU (w:=w) (x:=(xI r,x.2)) rfl (by simp) (gP AU (by omega)) ⟨Xc r,HO.out.TM,bj r,by show(xI r).length<=100;omega,PW⟩
def j6(lo hi:Nat)(w:World)(v:Value)(T:qR):Prop :=
 ∃ k cap,v = .func (.func k) #[] cap/\(∀ args w,(callFunc k args).run Tryz.prog w = .ok (.enter k args) w) /\
  ∀ W,vQ lo hi w W->∀ nv x,uR W nv x->Calls Tryz.prog k (#[nv]++cap) W fun e W'=>e = .returned (.bool (T x))/\Below W.heap.size W W'
def WY(lo hi:Nat)(w:World)(v:Value)(F:Dg->Dg):Prop :=
 ∃ k cap,v = .func (.func k) #[] cap/\(∀ args w,(callFunc k args).run Tryz.prog w = .ok (.enter k args) w) /\
  ∀ W,vQ lo hi w W->∀ nv x,uR W nv x->Calls Tryz.prog k (#[nv]++cap) W (qh (F x) W)
theorem j6.keep{lo hi lo' hi':Nat}{w w':World}{v:Value}{T:qR}(h:j6 lo hi w v T)(hk:vQ lo hi w w')(h1:lo'<=lo)(h2:hi<=hi'):j6 lo' hi' w' v T:=by
 obtain⟨k,cap,hv,he,hc⟩:=h;exact⟨k,cap,hv,he,fun W hW=>hc W (hW.via hk h1 h2)⟩
theorem WY.keep{lo hi lo' hi':Nat}{w w':World}{v:Value}{F:Dg->Dg}(h:WY lo hi w v F)(hk:vQ lo hi w w')(h1:lo'<=lo)(h2:hi<=hi'):WY lo' hi' w' v F:=by
 obtain⟨k,cap,hv,he,hc⟩:=h;exact⟨k,cap,hv,he,fun W hW=>hc W (hW.via hk h1 h2)⟩
theorem WX(v:Value)(x:Dg)(a b:Nat)(br:Bool)(pa pb pc:Nat)(w:World)(h:uR w v x)(ha:a<=1000000000)(hb:b<=1000000000)(ca:w.cell? ⟨pa,0,none⟩=some (.int .i64 a))(cb:w.cell? ⟨pb,0,none⟩=some (.int .i64 b))(cc:w.cell? ⟨pc,0,none⟩=some (.bool br)) :
  Calls Tryz.prog 247 #[v,.pointer (some ⟨pa,0,none⟩),.pointer (some ⟨pb,0,none⟩),.pointer (some ⟨pc,0,none⟩)] w fun e w'=>e = .returned (.bool (gZ a b br x))/\Below w.heap.size w w':=by
 have hC:=fun W m (hW:uR W v x) (hm:m<=1000000000)=>Ju v x m W hW hm
 have hK:=fun W (hW:uR W v x)=>FV v x W hW
 obtain⟨r,hr⟩:=xX (gZ a b br x);rw[hr];unfold gZ at hr;obtain⟨c1,qX⟩:∃ c,KX x a=c:=⟨_,rfl⟩;obtain⟨c2,jJ⟩:∃ c,KX x b=c:=⟨_,rfl⟩;obtain⟨k,hk⟩:=xX (brk x.2);have h1:=fun W (hW:uR W v x)=>hC W a hW ha
 have h2:=fun W (hW:uR W v x)=>hC W b hW hb
 rw[qX,jJ,hk] at hr;simp only[qX] at h1;simp only[jJ] at h2;simp only[hk] at hK;have H1:=z7 h1;have H2:=z7 h2;have HK:=z7 hK;have HH:=z7 h;have HR:=z7 hr;obtain⟨b',g,go,cap,rfl,_,_,_,_,_⟩:=h;clear hC hK h1 h2 hr qX jJ hk;have F:∃ W,W=w.alloc (.cells #[.bool b',.slice (some ⟨g,go,none⟩) (x.1.length+x.2.length) cap,.int .i64 x.2.length] 97)/\Below w.heap.size w W/\W.heap.size=w.heap.size+1/\W.cell? ⟨w.heap.size,0,none⟩=some (.bool b')/\W.cell? ⟨w.heap.size,1,none⟩=some (.slice (some ⟨g,go,none⟩) (x.1.length+x.2.length) cap)/\W.cell? ⟨w.heap.size,2,none⟩=some (.int .i64 x.2.length) /\
   W.cell? ⟨pa,0,none⟩=some (.int .i64 a)/\W.cell? ⟨pb,0,none⟩=some (.int .i64 b)/\W.cell? ⟨pc,0,none⟩=some (.bool br) :=
  ⟨_,rfl,(zX _ _).alloc (zx _) _,by simp,by go_simp,by go_simp,by go_simp,by rw[zY _ _ _ (by rw[ca];rfl)];exact ca,by rw[zY _ _ _ (by rw[cb];rfl)];exact cb,by rw[zY _ _ _ (by rw[cc];rfl)];exact cc⟩
 obtain⟨W,hW,jC,hs,d0,d1,d2,da,db,dc⟩:=F;have LU:=z7 (HH.out.below jC);rw[hW] at da db dc;go_enter func247,ntmps247;go_wp2_with fail;rw[←hW] at da db dc ⊢;clear hW ca cb cc;refine(H1.out _ LU.out).mono ?_;rintro e w1 ⟨rfl,xB⟩;have xD:w.heap.size<W.heap.size:=by omega
 have e0:=(xB.cell (p:=⟨w.heap.size,0,none⟩) xD).trans d0;have e1:=(xB.cell (p:=⟨w.heap.size,1,none⟩) xD).trans d1;have e2:=(xB.cell (p:=⟨w.heap.size,2,none⟩) xD).trans d2;have eb:=(xB.cell (p:=⟨pb,0,none⟩) (z8 W _ db)).trans db;have ec:=(xB.cell (p:=⟨pc,0,none⟩) (z8 W _ dc)).trans dc;have JO:Below w.heap.size w w1:=jC.trans (xB.mono (by omega));have HN1:=z7 (LU.out.below xB);have pH:w.heap.size<w1.heap.size:=z8 w1 _ e0;clear d0 d1 d2 da db dc xB;by_cases g1:0<=c1
 ·have g1':decide (0<=c1)=true:=decide_eq_true g1;have hr:=HR.out;rw[g1',zc] at hr;have fX:=z7 hr;clear hr;go_wp2_with fail;refine(H2.out _ HN1.out).mono ?_;rintro e w2 ⟨rfl,xF⟩;have f0:=(xF.cell (p:=⟨w.heap.size,0,none⟩) pH).trans e0;have f1:=(xF.cell (p:=⟨w.heap.size,1,none⟩) pH).trans e1;have f2:=(xF.cell (p:=⟨w.heap.size,2,none⟩) pH).trans e2;have fc:=(xF.cell (p:=⟨pc,0,none⟩) (z8 w1 _ ec)).trans ec;have Zf:Below w.heap.size w w2:=JO.trans (xF.mono (by omega));have nJ:=z7 (HN1.out.below xF);clear e0 e1 e2 eb ec xF;by_cases g2:c2<=0
  ·have om:decide (c2<=0)=true:=decide_eq_true g2;have hr:=fX.out;rw[om,zc] at hr;have JT:=z7 hr;clear hr
   cases br
   ·go_wp2_with fail;refine(HK.out _ nJ.out).mono ?_;rintro e w3 ⟨rfl,uP⟩;have yi9:Below w.heap.size w w3:=Zf.trans (uP.mono Zf.size);go_wp2;go_ret;exact⟨by rw[←JT.out];rfl,yi9⟩
   ·go_wp2;go_ret;exact⟨by rw[←JT.out];rfl,Zf⟩
  ·have om:decide (c2<=0)=false:=decide_eq_false g2;have hr:=fX.out;rw[om,zW] at hr;have JT:=z7 hr;clear hr;go_wp2;go_ret;exact⟨by rw[←JT.out];rfl,Zf⟩
 ·have g1':decide (0<=c1)=false:=decide_eq_false g1;have hr:=HR.out;rw[g1',zW] at hr;have fX:=z7 hr;clear hr;go_wp2;go_ret;exact⟨by rw[←fX.out];rfl,JO⟩
theorem QL(a b:Nat)(br:Bool)(w:World)(ha:a<=1000000000)(hb:b<=1000000000) :
  Calls Tryz.prog 221 #[.int .i64 a,.int .i64 b,.bool br] w fun e w'=>(∃ v,e = .returned v/\j6 w.heap.size w'.heap.size w' v (gZ a b br))/\Below w.heap.size w w':=by
 have Sk:∀ (fn:Fn) (first cap:Array Value) (w:World),(zD fn first cap).run Tryz.prog w = .ok (.func fn first cap) w:=fun _ _ _ _=>rfl
 go_enter func221,ntmps221;go_wp2;go_ret;have hs:(((w.alloc (.cells #[.int .i64 a] 3)).alloc (.cells #[.int .i64 b] 3)).alloc (.cells #[.bool br] 4)).heap.size=w.heap.size+3:=by simp
 refine⟨⟨_,rfl,247,_,rfl,fun args w=>enters_of func247 (by kernel_rfl) rfl args w,fun W hW nv x hx=>?_⟩,(((zX _ _).alloc (zx _) _).alloc (by simp) _).alloc (by simp;omega) _⟩;refine WX nv x a b br _ _ _ W hx ha hb ((hW.cell (zx _) ?_).trans ?_) ((hW.cell ?_ ?_).trans ?_) ((hW.cell ?_ ?_).trans ?_);all_goals first|(show w.heap.size<=w.heap.size+1;omega)|(show w.heap.size<=w.heap.size+1+1;omega)|(rw[hs];simp;done)|(rw[hs];simp;omega)|(show w.heap.size<=_;simp;done)|(show w.heap.size<=_;omega)|(go_simp;done)
theorem Pq(v:Value)(q:Nat)(w:World)(nv:Value)(x:Dg)(T:qR)(lo hi:Nat)(h:j6 lo hi w v T)(Zi:hi<=w.heap.size)(hn:uR w nv x)(cs:Array Value)(dB:nv = .agg cs)
  (hc:∀ j u,cs[j]? = some u->w.cell? ⟨q,j,none⟩=some u) :
  Calls Tryz.prog 178 #[v,.pointer (some ⟨q,0,none⟩)] w fun e w'=>e = .returned (.bool (T x))/\Below w.heap.size w w':=by
 have HN:=z7 hn;obtain⟨b,g,go,cap,n,k,rfl⟩:=hn.form
 cases dB;have c0:=hc 0 _ rfl;have c1:=hc 1 _ rfl;have c2:=hc 2 _ rfl;obtain⟨K,cp,rfl,CQ,vY⟩:=h;have hW:=vY w (vx Zi) _ x HN.out;have HW:=z7 hW;clear vY hW hc;go_enter func178,ntmps178;go_wp2_with fail;refine HW.out.mono ?_;rintro e w1 ⟨rfl,hb⟩;go_wp2;go_ret;exact⟨rfl,hb⟩
def Z4(lo hi:Nat)(w:World)(a:Option Addr)(Ts:List qR):Prop :=
 ∀ j (h:j<Ts.length),∃ b v,a=some b/\w.cell? (b.add j)=some v/\lo<=b.block/\b.block<hi/\j6 lo hi w v Ts[j]
theorem Z4.keep{lo hi lo' hi':Nat}{w w':World}{a:Option Addr}{Ts:List qR}(h:Z4 lo hi w a Ts)(hk:vQ lo hi w w')(h1:lo'<=lo)(h2:hi<=hi'):Z4 lo' hi' w' a Ts:=fun j hj=>by
 obtain⟨b,v,e1,e2,e3,e4,e5⟩:=h j hj;exact⟨b,v,e1,by rw[hk.cell (p:=b.add j) (by rw[addr_add];exact e3) (by rw[addr_add];exact e4)];exact e2,by omega,by omega,e5.keep hk h1 h2⟩
structure EW(w:World)(q:Nat)(nv:Value):Prop where
 lt:q<w.heap.size
 cells:∃ b s k,nv = .agg #[b,s,k]/\w.cell? ⟨q,0,none⟩=some b/\w.cell? ⟨q,1,none⟩=some s/\w.cell? ⟨q,2,none⟩=some k
theorem EW.below{w w':World}{q:Nat}{nv:Value}(h:EW w q nv)(hb:Below w.heap.size w w'):EW w' q nv:=by
 obtain⟨hl,b,s,k,h1,h2,h3,h4⟩:=h;exact⟨zt hl hb.size,b,s,k,h1,(hb.cell hl).trans h2,(hb.cell hl).trans h3,(hb.cell hl).trans h4⟩
theorem Pk(v:Value)(q:Nat)(w:World)(nv:Value)(x:Dg)(T:qR)(lo hi:Nat)(h:j6 lo hi w v T)(Zi:hi<=w.heap.size)(hn:uR w nv x)(hb:EW w q nv) :
  Calls Tryz.prog 178 #[v,.pointer (some ⟨q,0,none⟩)] w fun e w'=>e = .returned (.bool (T x))/\Below w.heap.size w w':=by
 obtain⟨_,b,s,k,h1,h2,h3,h4⟩:=hb;refine Pq v q w nv x T lo hi h Zi hn #[b,s,k] h1 (fun j u hu=>?_);match j,hu with
 | 0,hu=>cases hu;exact h2
 | 1,hu=>cases hu;exact h3
 | 2,hu=>cases hu;exact h4
 | n+3,hu=>simp at hu
theorem sf{Ts:List qR}{x:Dg}{k:Nat}(h:k<Ts.length)(hT:Ts[k] x=true):bn Ts x=true:=zh.2 ⟨Ts[k],zL h,hT⟩
theorem WV{Ts:List qR}{x:Dg}{k:Nat}(h:k<Ts.length)(h0:bn (Ts.take k) x=false)(hT:Ts[k] x=false):bn (Ts.take (k+1)) x=false:=by
 unfold bn at *;rw[zf h,yz,h0];simp[hT]
theorem Pj(Ts:List qR)(a:Option Addr)(c:Nat)(q:Nat)(nv:Value)(x:Dg)(lo hi:Nat)(w:World)(hl:Ts.length<=1000000)(ht:Z4 lo hi w a Ts)(Zi:hi<=w.heap.size)(hn:uR w nv x)(hb:EW w q nv) :
  Calls Tryz.prog 211 #[.slice a Ts.length c,.func (.func 178) #[] #[.pointer (some ⟨q,0,none⟩)]] w
   fun e w'=>(∃ n:Int,e = .returned (.int .i64 n)/\decide (0<=n)=bn Ts x)/\Below w.heap.size w w':=by
 have HT:=z7 ht;have HN:=z7 hn;have HB:=z7 hb;clear ht hn hb;go_enter func211,ntmps211;go_wp2;go_loopw [8] (fun i wr=>∃ k:Nat,k<=Ts.length/\i = .int .i64 k/\bn (Ts.take k) x=false/\Below w.heap.size w wr) (fun i _=>Ts.length - (intOf i).toNat)
 case atStart=>exact⟨0,zF _,rfl,rfl,zX _ _⟩
 case round =>
  obtain⟨k,hk,rfl,hz,qG⟩:=hrel;have HZ:=z7 hz;clear hz;by_cases xD:k<Ts.length
  ·obtain⟨b,v,rfl,hc,h1,h2,hT⟩:=HT.out k xD;have ep:wr.cell? (b.add k)=some v:=by rw[qG.cell (z8 w _ hc)];exact hc
   have hkp:=vU (lo:=lo) qG Zi Zi;have vY:=Pk v q wr nv x Ts[k] lo hi (hT.keep hkp (zx _) (zx _)) (zJ Zi qG.size) (HN.out.below qG) (HB.out.below qG);have HC:=z7 vY;clear hc vY hT;go_wp2_with fail;refine HC.out.mono ?_;rintro e w1 ⟨rfl,xB⟩;have Zv:=qG.trans (xB.mono qG.size)
   cases Rp:Ts[k] x
   ·have HF:=z7 (WV xD HZ.out Rp);clear Rp;go_wp2;go_roundw
    case rel=>exact⟨k+1,by omega,by go_num,HF.out,Zv⟩
    case measure=>simp[intOf];omega
   ·have HF:=z7 (sf xD Rp);clear Rp;go_wp2;go_ret;exact⟨⟨_,rfl,by rw[HF.out];simp⟩,Zv⟩
  ·obtain rfl:k=Ts.length:=by omega
   have hz:=HZ.out;rw[zI] at hz;have HF:=z7 hz;clear hz HZ;go_wp2;go_ret;exact⟨⟨_,rfl,by rw[HF.out];rfl⟩,qG⟩
theorem B1(Ts:List qR)(a:Option Addr)(c:Nat)(q:Nat)(nv:Value)(x:Dg)(lo hi:Nat)(w:World)(hl:Ts.length<=1000000)(ht:Z4 lo hi w a Ts)(Zi:hi<=w.heap.size)(hn:uR w nv x)(hb:EW w q nv) :
  Calls Tryz.prog 177 #[.slice a Ts.length c,.func (.func 178) #[] #[.pointer (some ⟨q,0,none⟩)]] w
   fun e w'=>e = .returned (.bool (bn Ts x))/\Below w.heap.size w w':=by
 have hI:=Pj Ts a c q nv x lo hi w hl ht Zi hn hb;have HI:=z7 hI;clear ht hn hb hI;go_enter func177,ntmps177;go_wp2_with fail;refine HI.out.mono ?_;rintro e w1 ⟨⟨n,rfl,hn⟩,hb⟩;have HF:=z7 hn;clear hn;go_wp2;go_ret;exact⟨by rw[←HF.out];rfl,hb⟩
theorem WU(Ts:List qR)(a:Option Addr)(c:Nat)(pl:Nat)(nv:Value)(x:Dg)(lo hi:Nat)(w:World)(hl:Ts.length<=1000000)(ht:Z4 lo hi w a Ts)(Zi:hi<=w.heap.size)(hn:uR w nv x)(hc:w.cell? ⟨pl,0,none⟩=some (.slice a Ts.length c)) :
  Calls Tryz.prog 176 #[nv,.pointer (some ⟨pl,0,none⟩)] w fun e w'=>e = .returned (.bool (bn Ts x))/\Below w.heap.size w w':=by
 have Sk:∀ (fn:Fn) (first cap:Array Value) (w:World),(zD fn first cap).run Tryz.prog w = .ok (.func fn first cap) w:=fun _ _ _ _=>rfl
 have HN:=z7 hn;obtain⟨b',g,go,cap,n',k',rfl⟩:=hn.form;have F:∃ W,W=w.alloc (.cells #[.bool b',.slice (some ⟨g,go,none⟩) n' cap,.int .i64 k'] 97)/\Below w.heap.size w W/\W.heap.size=w.heap.size+1/\EW W w.heap.size (.agg #[.bool b',.slice (some ⟨g,go,none⟩) n' cap,.int .i64 k'])/\(w.alloc (.cells #[.bool b',.slice (some ⟨g,go,none⟩) n' cap,.int .i64 k'] 97)).cell? ⟨pl,0,none⟩=some (.slice a Ts.length c) :=
  ⟨_,rfl,(zX _ _).alloc (zx _) _,by simp,⟨by simp,_,_,_,rfl,by go_simp,by go_simp,by go_simp⟩,by rw[zY _ _ _ (by rw[hc];rfl)];exact hc⟩
 obtain⟨W,hW,jC,hs,iP,dc⟩:=F;have hC:=B1 Ts a c w.heap.size _ x lo hi W hl (ht.keep (vU jC Zi Zi) (zx _) (zx _)) (by omega) (HN.out.below jC) iP;have HC:=z7 hC;clear hC ht hn iP;go_enter func176,ntmps176;go_wp2_with fail;rw[←hW];refine HC.out.mono ?_;rintro e w1 ⟨rfl,hb⟩;have Zv:Below w.heap.size w w1:=jC.trans (hb.mono (by omega));go_wp2;go_ret;exact⟨rfl,Zv⟩
theorem Lt(Ts:List qR)(a:Option Addr)(c:Nat)(lo:Nat)(w:World)(hl:Ts.length<=1000000)(QT:lo<=w.heap.size)(ht:Z4 lo w.heap.size w a Ts) :
  Calls Tryz.prog 142 #[.slice a Ts.length c] w fun e w'=>(∃ v,e = .returned v/\j6 lo w'.heap.size w' v (bn Ts))/\Below w.heap.size w w':=by
 have Sk:∀ (fn:Fn) (first cap:Array Value) (w:World),(zD fn first cap).run Tryz.prog w = .ok (.func fn first cap) w:=fun _ _ _ _=>rfl
 have HT:=z7 ht;clear ht;go_enter func142,ntmps142;go_wp2;go_ret;have hb:Below w.heap.size w (w.alloc (.cells #[.slice a Ts.length c] 305)):=(zX _ _).alloc (zx _) _;refine⟨⟨_,rfl,176,_,rfl,fun args w=>enters_of func176 (by kernel_rfl) rfl args w,fun W hW nv x hx=>?_⟩,hb⟩;have hk:vQ lo w.heap.size w W:=hW.via (vU hb (zx _) (zx _)) (zx _) hb.size;refine WU Ts a c _ nv x lo w.heap.size W hl (HT.out.keep hk (zx _) (zx _)) hk.1 hx ((hW.cell QT (by simp)).trans (by go_simp))
theorem sZ{Ts:List qR}{x:Dg}{k:Nat}(h:k<Ts.length)(hT:Ts[k] x=false):allT Ts x=false:=by
 unfold allT;rw[List.all_eq_false];exact⟨Ts[k],zL h,by simp[hT]⟩
theorem WQ{Ts:List qR}{x:Dg}{k:Nat}(h:k<Ts.length)(h0:allT (Ts.take k) x=true)(hT:Ts[k] x=true):allT (Ts.take (k+1)) x=true:=by
 unfold allT at *;rw[zf h,List.all_append,h0];simp[hT]
theorem iA(Ts:List qR)(a:Option Addr)(c:Nat)(pl:Nat)(nv:Value)(x:Dg)(lo hi:Nat)(w:World)(hl:Ts.length<=1000000)(ht:Z4 lo hi w a Ts)(Zi:hi<=w.heap.size)(hn:uR w nv x)(hc:w.cell? ⟨pl,0,none⟩=some (.slice a Ts.length c)) :
  Calls Tryz.prog 179 #[nv,.pointer (some ⟨pl,0,none⟩)] w fun e w'=>e = .returned (.bool (allT Ts x))/\Below w.heap.size w w':=by
 have HN:=z7 hn;obtain⟨b',g,go,cap,n',k',rfl⟩:=hn.form;have F:∃ W,W=w.alloc (.cells #[.bool b',.slice (some ⟨g,go,none⟩) n' cap,.int .i64 k'] 97)/\Below w.heap.size w W/\W.heap.size=w.heap.size+1/\EW W w.heap.size (.agg #[.bool b',.slice (some ⟨g,go,none⟩) n' cap,.int .i64 k'])/\(w.alloc (.cells #[.bool b',.slice (some ⟨g,go,none⟩) n' cap,.int .i64 k'] 97)).cell? ⟨pl,0,none⟩=some (.slice a Ts.length c) :=
  ⟨_,rfl,(zX _ _).alloc (zx _) _,by simp,⟨by simp,_,_,_,rfl,by go_simp,by go_simp,by go_simp⟩,by rw[zY _ _ _ (by rw[hc];rfl)];exact hc⟩
 obtain⟨W,hW,jC,hs,iP,dc⟩:=F;have HT:=z7 (ht.keep (vU jC Zi Zi) (zx _) (zx _));have LU:=z7 (HN.out.below jC);have Lh:hi<=W.heap.size:=by omega
 clear ht hn;go_enter func179,ntmps179;go_wp2_with fail;rw[←hW];clear hW dc hc;obtain⟨B,hB⟩:∃ B,B=w.heap.size:=⟨_,rfl⟩;rw[←hB] at iP ⊢;have O8:=z7 hB;clear hB;go_loopw [8] (fun i wr=>∃ k:Nat,k<=Ts.length/\i = .int .i64 k/\allT (Ts.take k) x=true/\Below W.heap.size W wr) (fun i _=>Ts.length - (intOf i).toNat)
 case atStart=>exact⟨0,zF _,rfl,rfl,zX _ _⟩
 case round =>
  obtain⟨k,hk,rfl,hz,qG⟩:=hrel;have HZ:=z7 hz;clear hz;have Pg:Below w.heap.size w wr:=jC.trans (qG.mono (by omega));by_cases xD:k<Ts.length
  ·obtain⟨b,v,rfl,hc,h1,h2,hT⟩:=HT.out k xD;have ep:wr.cell? (b.add k)=some v:=by rw[qG.cell (z8 W _ hc)];exact hc
   have hkp:=vU (lo:=lo) qG Lh Lh;obtain⟨K,cp,rfl,CQ,vY⟩:=hT.keep hkp (zx _) (zx _);have bV:=vY wr (vx (zJ Lh qG.size)) _ x (LU.out.below qG);have HC:=z7 bV;obtain⟨_,bb,ss,kk,e0,c0,c1,c2⟩:=iP.below qG
   cases e0;clear hc vY bV hT;go_wp2_with fail;refine HC.out.mono ?_;rintro e w1 ⟨rfl,xB⟩;have Zv:=qG.trans (xB.mono qG.size);have JO:Below w.heap.size w w1:=Pg.trans (xB.mono Pg.size)
   cases Rp:Ts[k] x
   ·have HF:=z7 (sZ xD Rp);clear Rp;go_wp2;go_ret;exact⟨by rw[HF.out];rfl,JO⟩
   ·have HF:=z7 (WQ xD HZ.out Rp);clear Rp;go_wp2;go_roundw
    case rel=>exact⟨k+1,by omega,by go_num,HF.out,Zv⟩
    case measure=>simp[intOf];omega
  ·obtain rfl:k=Ts.length:=by omega
   have hz:=HZ.out;rw[zI] at hz;have HF:=z7 hz;clear hz HZ;go_wp2;go_ret;exact⟨by rw[HF.out];rfl,Pg⟩
theorem sY(Ts:List qR)(a:Option Addr)(c:Nat)(lo:Nat)(w:World)(hl:Ts.length<=1000000)(QT:lo<=w.heap.size)(ht:Z4 lo w.heap.size w a Ts) :
  Calls Tryz.prog 144 #[.slice a Ts.length c] w fun e w'=>(∃ v,e = .returned v/\j6 lo w'.heap.size w' v (allT Ts))/\Below w.heap.size w w':=by
 have Sk:∀ (fn:Fn) (first cap:Array Value) (w:World),(zD fn first cap).run Tryz.prog w = .ok (.func fn first cap) w:=fun _ _ _ _=>rfl
 have HT:=z7 ht;clear ht;go_enter func144,ntmps144;go_wp2;go_ret;have hb:Below w.heap.size w (w.alloc (.cells #[.slice a Ts.length c] 305)):=(zX _ _).alloc (zx _) _;refine⟨⟨_,rfl,179,_,rfl,fun args w=>enters_of func179 (by kernel_rfl) rfl args w,fun W hW nv x hx=>?_⟩,hb⟩;have hk:vQ lo w.heap.size w W:=hW.via (vU hb (zx _) (zx _)) (zx _) hb.size;refine iA Ts a c _ nv x lo w.heap.size W hl (HT.out.keep hk (zx _) (zx _)) hk.1 hx ((hW.cell QT (by simp)).trans (by go_simp))
theorem bD{k:Nat}{F:Dg->Dg}(he:∀ args w,(callFunc k args).run Tryz.prog w = .ok (.enter k args) w)(h:∀ v x w,uR w v x->Calls Tryz.prog k #[v] w (qh (F x) w))(lo hi:Nat)(w:World):WY lo hi w (.func (.func k) #[] #[]) F :=
 ⟨k,#[],rfl,he,fun W _ nv x hx=>h nv x W hx⟩
def ie(r:Option (Dg->Dg))(w:World)(e:Ending)(w':World):Prop :=
 (match r with|none=>e = .returned .nilFunc|some F=>∃ v,e = .returned v/\∀ lo hi W,WY lo hi W v F)/\w=w'
theorem EA(c:ByteArray)(w:World):Calls Tryz.prog 180 #[.string c] w (ie (uV c.data.toList) w):=by
 have ht:=T9 c;by_cases h1:c.data.toList=[110]
 ·have hf:uV c.data.toList=some (fun x=>x):=by unfold uV;rw[if_pos h1]
  rw[hf];have q1:(c.toList==[110])=true:=by rw[ht,h1];decide
  clear ht h1 hf;go_enter func180,ntmps180;go_wp2;go_ret;exact⟨⟨_,rfl,bD (fun args w=>enters_of func212 (by kernel_rfl) rfl args w) (fun v x w h=>rD v x w h)⟩,rfl⟩
 have q1:(c.toList==[110])=false:=by rw[ht];simpa using h1
 by_cases h2:c.data.toList=[105]
 ·have hf:uV c.data.toList=some (fun x=>(jB x.1,[])):=by unfold uV;rw[if_neg h1,if_pos h2]
  rw[hf];have q2:(c.toList==[105])=true:=by rw[ht,h2];decide
  clear ht h1 h2 hf;go_enter func180,ntmps180;go_wp2;go_ret;exact⟨⟨_,rfl,bD (fun args w=>enters_of func213 (by kernel_rfl) rfl args w) (fun v x w h=>yab v x w h)⟩,rfl⟩
 have q2:(c.toList==[105])=false:=by rw[ht];simpa using h2
 by_cases h3:c.data.toList=[118]
 ·have hf:uV c.data.toList=some (fun x=>(xI x.2.length,[])):=by unfold uV;rw[if_neg h1,if_neg h2,if_pos h3]
  rw[hf];have q3:(c.toList==[118])=true:=by rw[ht,h3];decide
  clear ht h1 h2 h3 hf;go_enter func180,ntmps180;go_wp2;go_ret;exact⟨⟨_,rfl,bD (fun args w=>enters_of func215 (by kernel_rfl) rfl args w) (fun v x w h=>yad v x w h)⟩,rfl⟩
 have q3:(c.toList==[118])=false:=by rw[ht];simpa using h3
 by_cases h4:c.data.toList=[119]
 ·have hf:uV c.data.toList=some (fun x=>(xI (uF x.2).length,[])):=by unfold uV;rw[if_neg h1,if_neg h2,if_neg h3,if_pos h4]
  rw[hf];have q4:(c.toList==[119])=true:=by rw[ht,h4];decide
  clear ht h1 h2 h3 h4 hf;go_enter func180,ntmps180;go_wp2;go_ret;exact⟨⟨_,rfl,bD (fun args w=>enters_of func216 (by kernel_rfl) rfl args w) (fun v x w h=>yc0 v x w h)⟩,rfl⟩
 have q4:(c.toList==[119])=false:=by rw[ht];simpa using h4
 by_cases h5:c.data.toList=[102]
 ·have hf:uV c.data.toList=some (fun x=>(jB x.2,[])):=by unfold uV;rw[if_neg h1,if_neg h2,if_neg h3,if_neg h4,if_pos h5]
  rw[hf];have q5:(c.toList==[102])=true:=by rw[ht,h5];decide
  clear ht h1 h2 h3 h4 h5 hf;go_enter func180,ntmps180;go_wp2;go_ret;exact⟨⟨_,rfl,bD (fun args w=>enters_of func218 (by kernel_rfl) rfl args w) (fun v x w h=>yc1 v x w h)⟩,rfl⟩
 have q5:(c.toList==[102])=false:=by rw[ht];simpa using h5
 by_cases h6:c.data.toList=[116]
 ·have hf:uV c.data.toList=some (fun x=>(jB (uF x.2),[])):=by unfold uV;rw[if_neg h1,if_neg h2,if_neg h3,if_neg h4,if_neg h5,if_pos h6]
  rw[hf];have q6:(c.toList==[116])=true:=by rw[ht,h6];decide
  clear ht h1 h2 h3 h4 h5 h6 hf;go_enter func180,ntmps180;go_wp2;go_ret;exact⟨⟨_,rfl,bD (fun args w=>enters_of func219 (by kernel_rfl) rfl args w) (fun v x w h=>yc2 v x w h)⟩,rfl⟩
 have q6:(c.toList==[116])=false:=by rw[ht];simpa using h6
 have hf:uV c.data.toList=none:=by unfold uV;rw[if_neg h1,if_neg h2,if_neg h3,if_neg h4,if_neg h5,if_neg h6]
 rw[hf];clear ht h1 h2 h3 h4 h5 h6 hf;go_enter func180,ntmps180;go_wp2;go_ret;exact⟨rfl,rfl⟩
theorem M0{W:World}{q:Nat}{p:Addr}{v u0 u1 u2:Value}(h:W.cell? p=some v)(hp:p.block≠q):(((W.setCell ⟨q,0,none⟩ u0).setCell ⟨q,1,none⟩ u1).setCell ⟨q,2,none⟩ u2).cell? p=some v:=by
 refine(zG ?_).trans h;rw[zQ _ _ _ _ hp,zQ _ _ _ _ hp,zQ _ _ _ _ hp]
theorem M3(nv:Value)(x:Dg)(pw pm:Nat)(wv:Value)(m:Nat)(F:Dg->Dg)(lo hi:Nat)(w:World)(hn:uR w nv x)(hm:m<=1000000000)(Dr:0<m)(cw:w.cell? ⟨pw,0,none⟩=some wv)(cm:w.cell? ⟨pm,0,none⟩=some (.int .i64 m))(hw:WY lo hi w wv F)(Zi:hi<=w.heap.size) :
  Calls Tryz.prog 182 #[nv,.pointer (some ⟨pw,0,none⟩),.pointer (some ⟨pm,0,none⟩)] w (qh (Dn F m x) w):=by
 have HN:=z7 hn;obtain⟨b,g,go,cap,n',k',rfl⟩:=hn.form;obtain⟨jz,vv⟩:=fI w (.cells #[.bool b,.slice (some ⟨g,go,none⟩) n' cap,.int .i64 k'] 97);have F0:∃ W,W=(w.alloc (.cells #[.bool b,.slice (some ⟨g,go,none⟩) n' cap,.int .i64 k'] 97)).alloc (.cells #[.bool false,.slice none 0 0,.int .i64 0] 97)/\W.cell? ⟨w.heap.size,0,none⟩=some (.bool b)/\W.cell? ⟨w.heap.size,1,none⟩=some (.slice (some ⟨g,go,none⟩) n' cap)/\W.cell? ⟨w.heap.size,2,none⟩=some (.int .i64 k') :=
  ⟨_,rfl,by go_simp,by go_simp,by go_simp⟩
 obtain⟨W,hW,d0,d1,d2⟩:=F0;rw[←hW] at jz vv;have ew:=(jz.cell (p:=⟨pw,0,none⟩) (z8 w _ cw)).trans cw;have em:=(jz.cell (p:=⟨pm,0,none⟩) (z8 w _ cm)).trans cm;obtain⟨K0,cp,rfl,CQ,vY⟩:=hw.keep (vU jz Zi Zi) (zx _) (zx _);have HC:=z7 (vY W.drew (show vQ lo hi W W.drew from vx (zJ Zi jz.size)) _ x (HN.out.below jz.drew));have hpw:=z8 w _ cw;have hpm:=z8 w _ cm;dsimp only at hpw hpm;clear vY hn cw cm;go_enter func182,ntmps182;go_wp2_with fail;rw[←hW];clear hW;obtain⟨B,hB⟩:∃ B,B=w.heap.size:=⟨_,rfl⟩;rw[←hB] at d0 d1 d2 vv ⊢;have HB:=z7 hB;clear hB;have jo:W.drew.cell? ⟨B,0,none⟩=some (.bool b)/\W.drew.cell? ⟨B,1,none⟩=some (.slice (some ⟨g,go,none⟩) n' cap)/\W.drew.cell? ⟨B,2,none⟩=some (.int .i64 k')/\W.drew.cell? ⟨pw,0,none⟩=some (.func (.func K0) #[] cp)/\W.drew.cell? ⟨pm,0,none⟩=some (.int .i64 m):=⟨d0,d1,d2,ew,em⟩;refine uA (fun W':World=>W'.cell? ⟨B,0,none⟩=some (.bool b)/\W'.cell? ⟨B,1,none⟩=some (.slice (some ⟨g,go,none⟩) n' cap)/\W'.cell? ⟨B,2,none⟩=some (.int .i64 k')/\W'.cell? ⟨pw,0,none⟩=some (.func (.func K0) #[] cp)/\W'.cell? ⟨pm,0,none⟩=some (.int .i64 m))
  [0,1,3] 3 (by intro _ _ d _ _ h;cases d<;>exact h) (by kernel_rfl) (by kernel_rfl) jo ?_
 (iterate 3 ((first|refine ty ?_|refine tn ?_);try simp only[pl]))
 refine xq ?_;refine kR 2 (fun K hK=>?_);go_simp;refine HC.out.mono ?_;rintro e w1 ⟨⟨v1,rfl,Zk⟩,xB⟩;have xD:∀ {p:Addr} {u:Value},W.cell? p=some u->w1.cell? p=some u:=fun {p u} h=>(xB.cell (z8 W p h)).trans h
 have Gg:w1.cell? ⟨B,0,none⟩=some (.bool b)/\w1.cell? ⟨B,1,none⟩=some (.slice (some ⟨g,go,none⟩) n' cap)/\w1.cell? ⟨B,2,none⟩=some (.int .i64 k')/\w1.cell? ⟨pw,0,none⟩=some (.func (.func K0) #[] cp)/\w1.cell? ⟨pm,0,none⟩=some (.int .i64 m):=⟨xD d0,xD d1,xD d2,xD ew,xD em⟩;have Xv:=(show dJ W.drew (B+1) from⟨vv.c0,vv.c1,vv.c2,vv.z0,vv.z1,vv.z2,vv.lt⟩).below xB;have JO:Below w.heap.size w w1:=jz.drew.trans (xB.mono jz.size);refine hK.out _ _ Gg (fun _=>?_);clear hK K jo xD d0 d1 d2 ew em;have HM:=z7 (sj v1 (F x) m w1 Zk hm Dr);obtain⟨b1,g1,go1,yiz,n1,k1,rfl⟩:=Zk.form;clear Zk;refine kR 4 (fun K hK=>?_);go_simp;refine HM.out.mono ?_;rintro e w2 ⟨⟨v2,rfl,dC⟩,xF⟩;have xD:∀ {p:Addr} {u:Value},w1.cell? p=some u->w2.cell? p=some u:=fun {p u} h=>(xF.cell (z8 w1 p h)).trans h
 have N8:w2.cell? ⟨B,0,none⟩=some (.bool b)/\w2.cell? ⟨B,1,none⟩=some (.slice (some ⟨g,go,none⟩) n' cap)/\w2.cell? ⟨B,2,none⟩=some (.int .i64 k')/\w2.cell? ⟨pw,0,none⟩=some (.func (.func K0) #[] cp)/\w2.cell? ⟨pm,0,none⟩=some (.int .i64 m):=⟨xD Gg.1,xD Gg.2.1,xD Gg.2.2.1,xD Gg.2.2.2.1,xD Gg.2.2.2.2⟩;have b6:=Xv.below xF;have Zf:Below w.heap.size w w2:=JO.trans (xF.mono JO.size);refine hK.out _ _ N8 (fun _=>?_);clear hK K xD Gg Xv;have nJ:=z7 dC;obtain⟨b2,g2,Mw,uG,n2,k2,rfl⟩:=dC.form;clear dC;have c0:=b6.c0;have c1:=b6.c1;have c2:=b6.c2;have z0:=b6.z0;have z1:=b6.z1;have z2:=b6.z2;refine kR 5 (fun K hK=>?_);go_simp;have XX:=HB.out;have e0:=M0 (u0 := .bool b2) (u1 := .slice (some ⟨g2,Mw,none⟩) n2 uG) (u2 := .int .i64 k2) N8.1 (show B≠B+1 by omega);have e1:=M0 (u0 := .bool b2) (u1 := .slice (some ⟨g2,Mw,none⟩) n2 uG) (u2 := .int .i64 k2) N8.2.1 (show B≠B+1 by omega);have e2:=M0 (u0 := .bool b2) (u1 := .slice (some ⟨g2,Mw,none⟩) n2 uG) (u2 := .int .i64 k2) N8.2.2.1 (show B≠B+1 by omega);have e3:=M0 (u0 := .bool b2) (u1 := .slice (some ⟨g2,Mw,none⟩) n2 uG) (u2 := .int .i64 k2) N8.2.2.2.1 (show pw≠B+1 by omega);have e4:=M0 (u0 := .bool b2) (u1 := .slice (some ⟨g2,Mw,none⟩) n2 uG) (u2 := .int .i64 k2) N8.2.2.2.2 (show pm≠B+1 by omega);refine hK.out _ _ ⟨e0,e1,e2,e3,e4⟩ (fun _=>?_);clear hK K e0 e1 e2 e3 e4;refine bX ?_ _;go_wp2;refine bodyPost_ret (v := .agg #[.bool b2,.slice (some ⟨g2,Mw,none⟩) n2 uG,.int .i64 k2]) ?_ rfl ?_
 ·simp[results,results182,go_sem,c0,c1,c2]
 exact gV (w:=w) nJ.out b6 (by omega) Zf
theorem QM(nv:Value)(x:Dg)(pi po pn:Nat)(iv ov:Value)(nt:Bool)(T:qR)(F:Dg->Dg)(lo hi:Nat)(w:World)(hn:uR w nv x)(ci:w.cell? ⟨pi,0,none⟩=some iv)(co:w.cell? ⟨po,0,none⟩=some ov)(cn:w.cell? ⟨pn,0,none⟩=some (.bool nt))(hI:j6 lo hi w iv T)(hO:WY lo hi w ov F)(Zi:hi<=w.heap.size) :
  Calls Tryz.prog 185 #[nv,.pointer (some ⟨pi,0,none⟩),.pointer (some ⟨po,0,none⟩),.pointer (some ⟨pn,0,none⟩)] w fun e w'=>e = .returned (.bool (T (F x) !=nt))/\Below w.heap.size w w':=by
 have HN:=z7 hn;obtain⟨b,g,go,cap,n',k',rfl⟩:=hn.form;have F0:∃ W,W=w.alloc (.cells #[.bool b,.slice (some ⟨g,go,none⟩) n' cap,.int .i64 k'] 97)/\Below w.heap.size w W/\W.cell? ⟨w.heap.size,0,none⟩=some (.bool b)/\W.cell? ⟨w.heap.size,1,none⟩=some (.slice (some ⟨g,go,none⟩) n' cap)/\W.cell? ⟨w.heap.size,2,none⟩=some (.int .i64 k') :=
  ⟨_,rfl,(zX _ _).alloc (zx _) _,by go_simp,by go_simp,by go_simp⟩
 obtain⟨W,hW,jz,d0,d1,d2⟩:=F0;have ei:=(jz.cell (p:=⟨pi,0,none⟩) (z8 w _ ci)).trans ci;have eo:=(jz.cell (p:=⟨po,0,none⟩) (z8 w _ co)).trans co;have en:=(jz.cell (p:=⟨pn,0,none⟩) (z8 w _ cn)).trans cn;obtain⟨K0,cp,rfl,CQ,vY⟩:=hO.keep (vU jz Zi Zi) (zx _) (zx _);have HC:=z7 (vY W.drew (show vQ lo hi W W.drew from vx (zJ Zi jz.size)) _ x (HN.out.below jz.drew));obtain⟨K1,rj,rfl,xzf,il⟩:=hI.keep (vU jz Zi Zi) (zx _) (zx _);have HC1:=z7 il;clear vY il hn ci co cn;go_enter func185,ntmps185;go_wp2_with fail;rw[←hW];clear hW;obtain⟨B,hB⟩:∃ B,B=w.heap.size:=⟨_,rfl⟩;rw[←hB] at d0 d1 d2 ⊢;have HB:=z7 hB;clear hB;have jo:W.drew.cell? ⟨B,0,none⟩=some (.bool b)/\W.drew.cell? ⟨B,1,none⟩=some (.slice (some ⟨g,go,none⟩) n' cap)/\W.drew.cell? ⟨B,2,none⟩=some (.int .i64 k')/\W.drew.cell? ⟨pi,0,none⟩=some (.func (.func K1) #[] rj)/\W.drew.cell? ⟨po,0,none⟩=some (.func (.func K0) #[] cp)/\W.drew.cell? ⟨pn,0,none⟩=some (.bool nt):=⟨d0,d1,d2,ei,eo,en⟩;refine uA (fun W':World=>W'.cell? ⟨B,0,none⟩=some (.bool b)/\W'.cell? ⟨B,1,none⟩=some (.slice (some ⟨g,go,none⟩) n' cap)/\W'.cell? ⟨B,2,none⟩=some (.int .i64 k')/\W'.cell? ⟨pi,0,none⟩=some (.func (.func K1) #[] rj)/\W'.cell? ⟨po,0,none⟩=some (.func (.func K0) #[] cp)/\W'.cell? ⟨pn,0,none⟩=some (.bool nt))
  [0,1,2,5] 4 (by intro _ _ d _ _ h;cases d<;>exact h) (by kernel_rfl) (by kernel_rfl) jo ?_
 (iterate 4 ((first|refine ty ?_|refine tn ?_);try simp only[pl]))
 refine xq ?_;refine kR 3 (fun K hK=>?_);go_simp;refine HC.out.mono ?_;rintro e w1 ⟨⟨v1,rfl,Zk⟩,xB⟩;have xD:∀ {p:Addr} {u:Value},W.cell? p=some u->w1.cell? p=some u:=fun {p u} h=>(xB.cell (z8 W p h)).trans h
 have Gg:w1.cell? ⟨B,0,none⟩=some (.bool b)/\w1.cell? ⟨B,1,none⟩=some (.slice (some ⟨g,go,none⟩) n' cap)/\w1.cell? ⟨B,2,none⟩=some (.int .i64 k')/\w1.cell? ⟨pi,0,none⟩=some (.func (.func K1) #[] rj)/\w1.cell? ⟨po,0,none⟩=some (.func (.func K0) #[] cp)/\w1.cell? ⟨pn,0,none⟩=some (.bool nt):=⟨xD d0,xD d1,xD d2,xD ei,xD eo,xD en⟩;have JO:Below w.heap.size w w1:=jz.drew.trans (xB.mono jz.size);have hhW:hi<=W.heap.size:=zJ Zi jz.size;have rf:vQ lo hi W w1:=vU (w:=W.drew) xB hhW hhW;refine hK.out _ _ Gg (fun _=>?_);clear hK K jo xD d0 d1 d2 ei eo en;have HI:=z7 (HC1.out w1 rf v1 (F x) Zk);obtain⟨b1,g1,go1,yiz,n1,k1,rfl⟩:=Zk.form;clear Zk;refine kR 4 (fun K hK=>?_);go_simp;refine HI.out.mono ?_;rintro e w2 ⟨rfl,xF⟩;have xD:∀ {p:Addr} {u:Value},w1.cell? p=some u->w2.cell? p=some u:=fun {p u} h=>(xF.cell (z8 w1 p h)).trans h
 have N8:w2.cell? ⟨B,0,none⟩=some (.bool b)/\w2.cell? ⟨B,1,none⟩=some (.slice (some ⟨g,go,none⟩) n' cap)/\w2.cell? ⟨B,2,none⟩=some (.int .i64 k')/\w2.cell? ⟨pi,0,none⟩=some (.func (.func K1) #[] rj)/\w2.cell? ⟨po,0,none⟩=some (.func (.func K0) #[] cp)/\w2.cell? ⟨pn,0,none⟩=some (.bool nt):=⟨xD Gg.1,xD Gg.2.1,xD Gg.2.2.1,xD Gg.2.2.2.1,xD Gg.2.2.2.2.1,xD Gg.2.2.2.2.2⟩;have Zf:Below w.heap.size w w2:=JO.trans (xF.mono JO.size);refine hK.out _ _ N8 (fun _=>?_);clear hK K xD Gg;obtain⟨r,hr⟩:=xX (T (F x));rw[hr];have HR:=z7 hr;clear HI hr;refine Vv [6,7] 0 N8 ?_;(iterate 2 ((first|refine ty ?_|refine tn ?_);try simp only[pl]))
 refine xq ?_;refine bX ?_ _;go_wp2;go_ret;exact⟨by rw[HR.out];rfl,Zf⟩
theorem fS(c:UInt8)(w:World):Calls Tryz.prog 174 #[.int .u8 c.toNat] w fun e w'=>e = .returned (.int .i64 (xC c))/\w=w':=by
 have xD:=c.toNat_lt;obtain⟨n,hn⟩:∃ n,n=c.toNat:=⟨_,rfl⟩;obtain⟨r,hr⟩:=xX (xC c);rw[hr];unfold xC at hr;rw[←hn] at xD hr ⊢;by_cases h1:97<=n/\n<=122
 ·rw[if_pos h1] at hr;subst hr;have a1:decide ((97:Int)<=(n:Int))=true:=by simp;omega
  have a2:decide ((n:Int)<=(122:Int))=true:=by simp;omega
  clear hn;go_enter func174,ntmps174;go_wp2;all_goals (first|(exfalso;omega)|(go_ret;exact⟨rfl,rfl⟩))
 ·rw[if_neg h1] at hr;by_cases h2:48<=n/\n<=57
  ·rw[if_pos h2] at hr;subst hr;clear hn;go_enter func174,ntmps174;go_wp2;all_goals (first|(exfalso;omega)|(go_ret;exact⟨rfl,rfl⟩))
  ·rw[if_neg h2] at hr;by_cases h3:n=32
   ·rw[if_pos h3] at hr;subst hr;subst h3;clear hn;go_enter func174,ntmps174;go_wp2;all_goals (first|(exfalso;omega)|(go_ret;exact⟨rfl,rfl⟩))
   ·rw[if_neg h3] at hr;subst hr;have a3:((n:Int)==32)=false:=by simp;omega
    clear hn;go_enter func174,ntmps174;go_wp2;all_goals (first|(exfalso;omega)|(go_ret;exact⟨rfl,rfl⟩))
theorem xP.keep{p lo hi:Nat}{w w':World}(h:xP p w w')(hp:p<lo)(hi':hi<=w.heap.size):vQ lo hi w w' :=
 ⟨zJ hi' h.size,fun k h1 h2=>h.block k (by omega) (by omega)⟩
def Ea(w:World)(k:Nat):Prop:=∃ cs fr,w.heap[k]? = some (.cells cs 9 fr)
theorem Ea.of{w w':World}{k:Nat}(h:Ea w k)(he:w'.heap[k]? = w.heap[k]?):Ea w' k:=by
 obtain⟨cs,fr,h⟩:=h;exact⟨cs,fr,he.trans h⟩
def gJ(w:World)(p:Nat)(ws:List Wd):Prop :=
 ∃ a cap,w.cell? ⟨p,0,none⟩=some (.slice a ws.length cap)/\w.frozen? ⟨p,0,none⟩=false/\ws.length<=cap/\cap<=maxLen/\∀ j (h:j<ws.length),∃ b,a=some b/\(b.block≠p/\Ea w b.block)/\w.cell? (b.add j)=some (xk ws[j])
theorem gJ.lt{w:World}{p:Nat}{ws:List Wd}(h:gJ w p ws):p<w.heap.size:=by
 obtain⟨a,cap,hc,_⟩:=h;exact z8 w _ hc
theorem gJ.below{w w':World}{p:Nat}{ws:List Wd}(h:gJ w p ws)(hb:Below w.heap.size w w'):gJ w' p ws:=by
 have xD:=h.lt;obtain⟨a,cap,hc,hf,h1,h2,h3⟩:=h;refine⟨a,cap,(hb.cell xD).trans hc,(hb.frozen xD).trans hf,h1,h2,fun j hj=>?_⟩;obtain⟨b,e1,e2,e3⟩:=h3 j hj;have hl:=z8 w _ e3;rw[addr_add] at hl;exact⟨b,e1,⟨e2.1,e2.2.of (hb.block _ hl)⟩,(hb.cell (z8 w _ e3)).trans e3⟩
theorem gJ.pass{w:World}{p cap:Nat}{b:Addr}{x:Wd}{t:List Wd}(hf:w.frozen? ⟨p,0,none⟩=false)(hc:w.cell? ⟨p,0,none⟩=some (.slice (some b) (t.length+1) cap))(h1:t.length+1<=cap)(h2:cap<=maxLen)(hb:b.block≠p/\Ea w b.block)(hw:∀ j (h:j<(x::t).length),w.cell? (b.add j)=some (xk (x::t)[j])) :
  gJ (w.setCell ⟨p,0,none⟩ (.slice (some (b.add 1)) t.length (cap - 1))) p t:=by
 refine⟨some (b.add 1),cap - 1,by rw[zk (h:=hc)],by simpa using hf,by omega,by omega,fun j hj=>⟨b.add 1,rfl,by rw[addr_add];exact⟨hb.1,hb.2.of (zQ _ _ _ _ hb.1)⟩,?_⟩⟩;have:=hw (j+1) (by simp;omega);rw[add_add,Nat.add_comm 1 j,zy (h:=fun e=>hb.1 (by rw[←addr_add b (j+1),←e]))];simpa using this
theorem gJ.last{w:World}{p cap:Nat}{b:Addr}(hf:w.frozen? ⟨p,0,none⟩=false){n:Nat}(hc:w.cell? ⟨p,0,none⟩=some (.slice (some b) n cap)) :
  gJ (w.setCell ⟨p,0,none⟩ (.slice (some b) 0 0)) p [] :=
 ⟨some b,0,by rw[zk (h:=hc)];rfl,by simpa using hf,zx _,zF _,fun j hj=>absurd hj (Nat.not_lt_zero j)⟩
def Fi(ms:List Wd)(ws:List Wd):Bool:=ms.any (fun m=>Y0 m ws)
def zgq(p:Nat)(ms ws:List Wd)(w:World)(e:Ending)(w':World):Prop :=
 e = .returned (.bool (Fi ms ws))/\gJ w' p (if Fi ms ws then ws.tail else ws)/\xP p w w'/\w'.heap.size=w.heap.size
theorem sX{ms ws:List Wd}{k:Nat}(h:k<ms.length)(hT:Y0 ms[k] ws=true):Fi ms ws=true:=zh.2 ⟨ms[k],zL h,hT⟩
theorem C3{ms ws:List Wd}{k:Nat}(h:k<ms.length)(h0:Fi (ms.take k) ws=false)(hT:Y0 ms[k] ws=false):Fi (ms.take (k+1)) ws=false:=by
 unfold Fi at *;rw[zf h,yz,h0];simp[hT]
theorem im(p:Nat)(ms ws:List Wd)(v:Value)(w:World)(hp:gJ w p ws)(hm:Oz w v ms)(hl:ms.length<=1000) :
  Calls Tryz.prog 175 #[.pointer (some ⟨p,0,none⟩),v] w (zgq p ms ws w):=by
 have HP:=z7 hp;obtain⟨a,cap,hc,hf,h1,h2,h3⟩:=hp;obtain⟨a2,uG,rfl,m1,m2,m3,m4⟩:=hm;have HM:=z7 m4;have H3:=z7 h3;clear m4 h3;have hmx:cap<=9223372036854775807:=by unfold maxLen at h2;omega
 go_enter func175,ntmps175;go_wp2;go_loop [9] (fun i=>∃ k:Nat,k<=ms.length/\i = .int .i64 k/\Fi (ms.take k) ws=false) (fun i=>ms.length - (intOf i).toNat)
 case atStart=>exact⟨0,zF _,rfl,rfl⟩
 case round =>
  obtain⟨k,hk,rfl,hz⟩:=hrel;have HZ:=z7 hz;clear hz;by_cases xD:k<ms.length
  ·obtain⟨b2,rfl,jJ⟩:=HM.out k xD;obtain Vn|⟨x,t,Vn⟩:ws=[]\/∃ x t,ws=x::t:=by
    cases ws with
    | nil=>exact .inl rfl
    | cons x t=>exact .inr ⟨x,t,rfl⟩
   ·have hq:Y0 ms[k] ws=false:=by rw[Vn];rfl
    have HF:=z7 (C3 xD HZ.out hq);rw[Vn] at hc;clear hq Vn;go_wp2;exact⟨⟨k+1,by omega,by go_num,HF.out⟩,by simp[intOf];omega⟩
   ·obtain⟨b,rfl,hb,hx⟩:=H3.out 0 (by rw[Vn];simp);have PM:w.cell? b=some (xk x):=by
     have:(b.add 0)=b:=by simp[Addr.add]
     rw[this] at hx;rw[hx];simp[Vn]
    have hiw:=LD ms[k] x t;have hlen:ws.length=t.length+1:=by rw[Vn];rfl
    rw[hlen] at hc h1;clear hx
    cases hq:(x==ms[k])
    ·have HF:=z7 (C3 xD HZ.out (by rw[Vn,hiw,hq]));have HW:=z7 Vn;clear hiw Vn hlen;go_wp2;exact⟨⟨k+1,by omega,by go_num,HF.out⟩,by simp[intOf];omega⟩
    ·have HF:=z7 (sX (ws:=ws) xD (by rw[Vn,hiw,hq]));have HW:=z7 Vn;clear hiw Vn hlen;by_cases qX:cap=1
     ·have ht:t=[]:=zO (by omega);subst ht;subst qX;go_wp2;go_ret;refine⟨by rw[HF.out];rfl,?_,xP.set p w 0 _,by simp[za]⟩;rw[if_pos HF.out,HW.out];exact gJ.last hf hc
     ·have xc:¬(cap:Int)=1:=by omega
      go_wp2;go_ret;refine⟨by rw[HF.out];rfl,?_,xP.set p w 0 _,by simp[za]⟩;rw[if_pos HF.out,HW.out];refine gJ.pass hf hc h1 h2 hb (x:=x) (fun j hj=>?_);obtain⟨b',e1,_,e3⟩:=H3.out j (by rw[HW.out];exact hj)
      cases e1;rw[e3];simp[HW.out]
  ·obtain rfl:k=ms.length:=by omega
   have hz:=HZ.out;rw[zI] at hz;have HF:=z7 hz;clear hz HZ;go_wp2;go_ret;refine⟨by rw[HF.out];rfl,?_,xP.refl _ _,rfl⟩;rw[HF.out];exact HP.out
structure RT(p:Nat)(w:World):Prop where
 s:∃ t v,w.cell? ⟨7,0,none⟩=some (.iface t v)
 r:∃ t v,w.cell? ⟨8,0,none⟩=some (.iface t v)
 ns:7≠p
 nr:8≠p
theorem RT.but{p:Nat}{w w':World}(h:RT p w)(hb:xP p w w'):RT p w':=by
 obtain⟨⟨t,v,hs⟩,⟨t2,v2,hr⟩,h1,h2⟩:=h;exact⟨⟨t,v,hb.cell hs h1⟩,⟨t2,v2,hb.cell hr h2⟩,h1,h2⟩
structure Ec(x:Wd):Prop where
 ne:x≠[]
 len:x.length<=1000
 form:x.all xJ=true\/xJ (x.headD 0)=false
theorem Jg:∀ (l:List UInt8) (acc:Nat),l.all xJ=true->Lib.decFrom acc l=some (l.foldl (fun v c=>10*v+(c.toNat - 48)) acc)
 | [],_,_=>rfl
 | c::t,acc,h=>by
  simp only[List.all_cons,zw] at h;have hc:=(vR c).1 h.1;rw[Lib.decFrom,Lib.digitVal,if_pos (by omega)];dsimp only;rw[Jg t _ h.2,List.foldl_cons,Nat.mul_comm acc 10]
theorem ir{l:List UInt8}(h:l.all xJ=true)(hn:l≠[]):Lib.atoi l=some (Dm l:Int):=by
 cases l with
 | nil=>exact absurd rfl hn
 | cons c t =>
  have hd:=h;simp only[List.all_cons,zw] at hd;have hc:=(vR c).1 hd.1;have h45:(c==45)=false:=by
   rw[beq_eq_false_iff_ne];rintro rfl;exact absurd hc.1 (by decide)
  have h43:(c==43)=false:=by
   rw[beq_eq_false_iff_ne];rintro rfl;exact absurd hc.1 (by decide)
  rw[Lib.atoi,h45,h43];simp only[Bool.false_eq_true,if_false,Lib.decNat];rw[if_neg (by simp),Jg _ 0 h];rfl
theorem below_bytesWorld(w:World)(e:TypeId)(t:ByteArray):Below w.heap.size w (Lib.bytesWorld w e t):=Lib.bytesWorld_below _ _ _
theorem M4(p:Nat)(s:ByteArray)(w:World)(hs:s.size<=1000)(hT:RT p w) :
  Calls Tryz.prog 163 #[.string s] w fun e w'=>(∃ v ev,e = .returned (.tuple #[.int .i64 v,ev])/\(ev = .nilIface\/∃ N,ev = .iface 353 (.pointer (some N))))/\Below w.heap.size w w':=by
 obtain⟨⟨t,v,hS⟩,⟨t2,v2,hR⟩,_,_⟩:=hT
 cases h:Lib.atoiAll s.data.toList with
 | ok n =>
  refine(Tryz.strconv_Atoi_ok s (by omega) n h w).mono ?_;rintro e w' ⟨rfl,rfl|⟨t,rfl⟩⟩
  ·exact⟨⟨_,_,rfl,.inl rfl⟩,zX _ _⟩
  ·exact⟨⟨_,_,rfl,.inl rfl⟩,below_bytesWorld _ _ _⟩
 | range =>
  refine(Tryz.strconv_Atoi_range s (by omega) h _ w hR (.inr ⟨_,_,rfl⟩)).mono ?_;rintro e w' ⟨N,rfl,_,_,hb⟩;exact⟨⟨_,_,rfl,.inr ⟨_,rfl⟩⟩,hb⟩
 | _ =>
  refine(Tryz.strconv_Atoi_none s (by omega) (fun v q=>by rw[h] at q;cases q) (fun q=>by rw[h] at q;cases q) _ w hS (.inr ⟨_,_,rfl⟩)).mono ?_;rintro e w' ⟨N,rfl,_,_,hb⟩;exact⟨⟨_,_,rfl,.inr ⟨_,rfl⟩⟩,hb⟩
theorem iw(s:ByteArray)(w:World)(hs:s.size<=9)(hd:s.data.toList.all xJ=true)(hn:s.data.toList≠[]) :
  Calls Tryz.prog 163 #[.string s] w fun e w'=>e = .returned (.tuple #[.int .i64 (Dm s.data.toList),.nilIface])/\Below w.heap.size w w':=by
 refine(Tryz.strconv_Atoi s (Dm s.data.toList) (by omega) (ir hd hn) w).mono ?_;rintro e w' ⟨rfl,t,rfl⟩;exact⟨rfl,below_bytesWorld _ _ _⟩
abbrev Ee:Ending := .panicked [{ v := .iface 278 (.agg #[]),recovered:=false }]
def zgk(p:Nat)(r:Option (Nat×List Wd))(w:World)(e:Ending)(w':World):Prop :=
 (match r with|none=>e=Ee|some (v,t)=>e = .returned (.int .i64 v)/\gJ w' p t)/\xP p w w'
theorem sU{x:Wd}(hd:x.all xJ=true)(hn:x≠[]):Gn x=(decide (x.length<=9) && (decide (x.length=1) || decide (x.headD 0≠48))):=by
 unfold Gn vW;rw[hd]
 cases x with
 | nil=>exact absurd rfl hn
 | cons c t=>simp
theorem Yx(c:UInt8):(xC c=2) ↔ xJ c=true:=by
 rw[vR];unfold xC;split
 ·constructor<;>intro h<;>omega
 split
 ·constructor<;>intro h<;>omega
 split
 ·constructor<;>intro h<;>omega
 ·constructor<;>intro h<;>omega
theorem Pf(p:Nat)(w:World)(hp:gJ w p []):Calls Tryz.prog 181 #[.pointer (some ⟨p,0,none⟩)] w (zgk p none w):=by
 obtain⟨a,cap,hc,hf,h1,h2,h3⟩:=hp;clear h3;go_enter func181,ntmps181;go_wp2;exact⟨rfl,rfl,xP.refl _ _⟩
theorem gJ.step{w:World}{p cap:Nat}{b:Addr}{x:Wd}{t:List Wd}(h:gJ w p (x::t))(hc:w.cell? ⟨p,0,none⟩=some (.slice (some b) (t.length+1) cap)) :
  gJ (w.setCell ⟨p,0,none⟩ (.slice (some (b.add 1)) t.length (cap - 1))) p t/\(t=[]->gJ (w.setCell ⟨p,0,none⟩ (.slice (some b) 0 0)) p t):=by
 obtain⟨a,ve,ep,hf,h1,h2,h3⟩:=h;rw[hc] at ep
 cases ep;obtain⟨b',e1,e2,_⟩:=h3 0 (by simp)
 cases e1;refine⟨gJ.pass hf hc (by simpa using h1) h2 e2 (x:=x) (fun j hj=>?_),fun ht=>?_⟩
 ·obtain⟨b',e1,_,e3⟩:=h3 j hj
  cases e1;exact e3
 ·subst ht;exact gJ.last hf hc
theorem Pd(c:UInt8)(t:List UInt8)(h:0<(zR (c::t).toArray).size):(zR (c::t).toArray)[0]=c:=by
 simp[ByteArray.getElem_eq_getElem_data]
theorem M5(p:Nat)(c:UInt8)(x':List UInt8)(t:List Wd)(w:World)(hp:gJ w p ((c::x')::t))(hx:Ec (c::x'))(hT:RT p w) :
  Calls Tryz.prog 181 #[.pointer (some ⟨p,0,none⟩)] w (zgk p (kL ((c::x')::t)) w):=by
 have HP:=z7 hp;have HX:=z7 hx;have HT:=z7 hT;have xD:=hp.lt;obtain⟨a,cap,hc,hf,h1,h2,h3⟩:=hp;obtain⟨b,rfl,hb,JQ⟩:=h3 0 (by simp);have PM:w.cell? b=some (xk (c::x')):=by
  have:(b.add 0)=b:=by simp[Addr.add]
  rw[this] at JQ;exact JQ
 have hmx:cap<=9223372036854775807:=by unfold maxLen at h2;omega
 have hlen:((c::x')::t).length=t.length+1:=rfl;rw[hlen] at hc h1;obtain⟨r,hr⟩:=xX (kL ((c::x')::t));rw[hr];have HR:=z7 hr;obtain⟨s,hs⟩:∃ s:ByteArray,s=⟨(c::x').toArray⟩:=⟨_,rfl⟩;have DH:0<s.size:=by rw[hs,size_mk];simp
 have qP:s.size=x'.length+1:=by rw[hs,size_mk];rfl
 have hg:s[0]=c:=by subst hs;exact Pd c x' DH
 have oY:=hx.len;have fU:s.size<=1000:=by rw[qP];simpa using oY
 have hsd:s.data.toList=c::x':=by rw[hs]
 have dB:w.cell? b=some (.string s):=by rw[PM,hs]
 clear JQ h3 hr PM hx hT hs;have HG:=z7 hg;have HSD:=z7 hsd;have du:=z7 qP;by_cases hd:xJ c=true
 ·have qY:(c::x').all xJ=true:=by
   rcases HX.out.form with h|h
   ·exact h
   ·exact absurd hd (by simpa using h)
  have bV:xC c=2:=(Yx c).2 hd;have l8:((xC c:Int) !=2)=false:=by rw[bV];decide
  have Hj:=fun W=>fS c W
  have E7:=sU qY (by simp);by_cases h9:s.size<=9
  ·have zrf:(c::x').length<=9:=by simp;omega
   rw[decide_eq_true zrf,Bool.true_and] at E7;have h9':decide ((9:Int)<(s.size:Int))=false:=by simp;omega
   have HA:=z7 (iw s w h9 (by rw[hsd];exact qY) (by rw[hsd];simp));by_cases hz:1<s.size/\c=48
   ·have vv:r=none:=by
     rw[←HR.out];have:Gn (c::x')=false:=by
      rw[E7];simp[hz.2];intro e;rw[e] at qP;simp at qP;omega
     simp[kL,this]
    subst vv;have e48:((s[0].toNat:Int)==48)=true:=by rw[hg,hz.2];decide
    have e1:decide ((1:Int)<(s.size:Int))=true:=by simp;omega
    rw[←hg] at Hj l8;have o8:=z7 Hj;clear bV Hj hg hsd hd qY E7 hz qP;go_enter func181,ntmps181;go_wp2_with fail;refine HA.out.mono ?_;rintro e w1 ⟨rfl,xB⟩;go_wp2_with fail;refine(o8.out _).mono ?_;rintro e w2 ⟨rfl,rfl⟩;go_wp2;exact⟨rfl,rfl,xP.of xB⟩
   ·have zrd:Gn (c::x')=true:=by
     rw[E7];by_cases h1s:x'.length=0
     ·simp[h1s]
     ·have:¬c=48:=fun e=>hz ⟨by omega,e⟩
      simp[this]
    have vv:r=some (Dm (c::x'),t):=by
     rw[←HR.out];simp[kL,zrd]
    subst vv;have JH:=z7 hsd;rw[←hg] at Hj l8;have o8:=z7 Hj;have zy7:∀ W,Below w.heap.size w W->W.cell? ⟨p,0,none⟩=some (.slice (some b) (t.length+1) cap)/\W.frozen? ⟨p,0,none⟩=false:=fun W hW=>⟨(hW.cell xD).trans hc,(hW.frozen xD).trans hf⟩
    have o9:=z7 zy7;have Ms:¬(1<s.size/\s[0]=48):=by rw[hg];exact hz
    have rS:=z7 hlen;clear bV Hj hg hsd hd qY E7 hz zrd zy7 qP hlen;by_cases qX:cap=1
    ·have Pr:t=[]:=zO (by omega);subst Pr;subst qX;by_cases uL:1<s.size
     ·have e48:((s[0].toNat:Int)==48)=false:=by
       rw[show((48:Int))=(((48:UInt8).toNat:Nat):Int) from rfl,bY];simpa using fun e=>Ms ⟨uL,e⟩
      have e1:decide ((1:Int)<(s.size:Int))=true:=by simp;omega
      clear Ms;go_enter func181,ntmps181;go_wp2_with fail;refine HA.out.mono ?_;rintro e w1 ⟨rfl,xB⟩;obtain⟨j0,j1⟩:=o9.out w1 xB;have Kw:=z7 (HP.out.below xB);go_wp2_with fail;refine(o8.out _).mono ?_;rintro e w2 ⟨rfl,rfl⟩;go_wp2;go_ret;exact⟨⟨by rw[JH.out];rfl,(Kw.out.step j0).2 rfl⟩,(xP.of xB).trans (xP.set p _ 0 _)⟩
     ·have e1:decide ((1:Int)<(s.size:Int))=false:=by simp;omega
      clear Ms;go_enter func181,ntmps181;go_wp2_with fail;refine HA.out.mono ?_;rintro e w1 ⟨rfl,xB⟩;obtain⟨j0,j1⟩:=o9.out w1 xB;have Kw:=z7 (HP.out.below xB);go_wp2_with fail;refine(o8.out _).mono ?_;rintro e w2 ⟨rfl,rfl⟩;go_wp2;go_ret;exact⟨⟨by rw[JH.out];rfl,(Kw.out.step j0).2 rfl⟩,(xP.of xB).trans (xP.set p _ 0 _)⟩
    ·have xc:¬(cap:Int)=1:=by omega
     by_cases uL:1<s.size
     ·have e48:((s[0].toNat:Int)==48)=false:=by
       rw[show((48:Int))=(((48:UInt8).toNat:Nat):Int) from rfl,bY];simpa using fun e=>Ms ⟨uL,e⟩
      have e1:decide ((1:Int)<(s.size:Int))=true:=by simp;omega
      clear Ms;go_enter func181,ntmps181;go_wp2_with fail;refine HA.out.mono ?_;rintro e w1 ⟨rfl,xB⟩;obtain⟨j0,j1⟩:=o9.out w1 xB;have Kw:=z7 (HP.out.below xB);go_wp2_with fail;refine(o8.out _).mono ?_;rintro e w2 ⟨rfl,rfl⟩;go_wp2;go_ret;exact⟨⟨by rw[JH.out];rfl,(Kw.out.step j0).1⟩,(xP.of xB).trans (xP.set p _ 0 _)⟩
     ·have e1:decide ((1:Int)<(s.size:Int))=false:=by simp;omega
      clear Ms;go_enter func181,ntmps181;go_wp2_with fail;refine HA.out.mono ?_;rintro e w1 ⟨rfl,xB⟩;obtain⟨j0,j1⟩:=o9.out w1 xB;have Kw:=z7 (HP.out.below xB);go_wp2_with fail;refine(o8.out _).mono ?_;rintro e w2 ⟨rfl,rfl⟩;go_wp2;go_ret;exact⟨⟨by rw[JH.out];rfl,(Kw.out.step j0).1⟩,(xP.of xB).trans (xP.set p _ 0 _)⟩
  ·have vv:r=none:=by
    rw[←HR.out];have:Gn (c::x')=false:=by
     rw[E7,decide_eq_false (by simp;omega),zW]
    simp[kL,this]
   subst vv;have h9':decide ((9:Int)<(s.size:Int))=true:=by simp;omega
   have HA:=z7 (M4 p s w fU HT.out);rw[←hg] at Hj l8;have o8:=z7 Hj;clear bV Hj hg hsd hd qY E7 qP;go_enter func181,ntmps181;go_wp2_with fail;refine HA.out.mono ?_;rintro e w1 ⟨⟨v,ev,rfl,hev⟩,xB⟩;rcases hev with rfl|⟨N,rfl⟩
   ·go_wp2_with fail;refine(o8.out _).mono ?_;rintro e w2 ⟨rfl,rfl⟩;go_wp2;exact⟨rfl,rfl,xP.of xB⟩
   ·go_wp2;exact⟨rfl,rfl,xP.of xB⟩
 ·have vv:r=none:=by
   rw[←HR.out];have:Gn (c::x')=false:=by
    unfold Gn vW;simp[hd]
   simp[kL,this]
  subst vv;have bV:¬(xC c=2):=fun e=>hd ((Yx c).1 e)
  have l8:((xC c:Int) !=2)=true:=by simp;omega
  have HA:=z7 (M4 p s w fU HT.out);have Hj:=fun W=>fS c W
  rw[←hg] at Hj l8;have o8:=z7 Hj;clear bV Hj hg hsd hd qP;go_enter func181,ntmps181;go_wp2_with fail;refine HA.out.mono ?_;rintro e w1 ⟨⟨v,ev,rfl,hev⟩,xB⟩;rcases hev with rfl|⟨N,rfl⟩
  ·go_wp2_with fail;refine(o8.out _).mono ?_;rintro e w2 ⟨rfl,rfl⟩;go_wp2;exact⟨rfl,rfl,xP.of xB⟩
  ·go_wp2;exact⟨rfl,rfl,xP.of xB⟩
theorem fT(p:Nat)(ws:List Wd)(w:World)(hp:gJ w p ws)(hx:∀ x∈ws,Ec x)(hT:RT p w) :
  Calls Tryz.prog 181 #[.pointer (some ⟨p,0,none⟩)] w (zgk p (kL ws) w):=by
 match ws,hp,hx with
 | [],hp,_=>exact Pf p w hp
 | x::t,hp,hx =>
  have h:=hx x (by simp)
  cases x with
  | nil=>exact absurd rfl h.ne
  | cons c x'=>exact M5 p c x' t w hp h hT
theorem jb{ws t:List Wd}{v:Nat}(h:kL ws=some (v,t)):v<=1000000000/\(∀ x∈t,x∈ws)/\t.length+1=ws.length:=by
 cases ws with
 | nil=>cases h
 | cons w u =>
  by_cases hf:Gn w=true
  ·simp only[kL,hf,if_true,Option.some.injEq,Prod.mk.injEq] at h;obtain⟨rfl,rfl⟩:=h;have h1:=(Fig.of hf);have h2:=pE w h1.1.dig;have h3:10 ^ w.length<=10 ^ 9:=Nat.pow_le_pow_right (by decide) h1.2;exact⟨by omega,fun x hx=>by simp[hx],by simp⟩
  ·simp[kL,hf] at h
end Go.Proofs.YthpldolmpinnhaaGreatDoor
