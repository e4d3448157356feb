import Derived.Test.YthpldolmpinnhaaGreatDoorJP34
import Derived.Laws.RangeAny
import Derived.Test.YthpldolmpinnhaaGreatDoorShelf
import Derived.Maps.AppendAt
import Derived.Deep.LoopGhost
set_option maxHeartbeats 64000000
open Go.Lib renaming hid→z7
open Go.World renaming block_lt_of_cell?→z8,cell?_setCell_other→zx,frozen?_of_block→zv,cell?_setCell_same→zj,cell?_alloc_some→zU,cell?_of_block→zD,setCell→zi,iterPos_iter→zo
open Nat renaming le_refl→zy,le_trans→zk,zero_le→zE,lt_of_lt_of_le→zO,le_add_right→zR,not_lt_zero→yv
open And renaming intro→zu
open Go.Value renaming ownBlock→zg,slice→zF
open Go.RowKit.Below renaming refl→zf,heap_setCell→zG
open List renaming getElem?_eq_some_iff→zZ,take_succ_eq_append_getElem→zY,mem_of_mem_tail→zX,getElem?_eq_getElem→zV,drop_eq_getElem_cons→zJ,take_length→zM,getElem_mem→zN,eq_nil_of_length_eq_zero→zS,setIfInBounds_toArray→zc,mem_of_getElem?→zn,length_pos_iff→zr,set_cons_zero→zh,set_cons_succ→zw,any_eq_true→yz,any_append→yx
open Option.some renaming inj→zQ
open Go.Instr renaming makeFunc→zH
open Go.IntKind renaming wrap_i64→zL,i64→zP
open Go.World.ownsRow renaming drew→zW
open ByteArray renaming mk→za
open Bool renaming false_and→ze,true_and→zl,and_eq_false_iff→zm,and_eq_true→yy
open Go.AllReadyH renaming cons→zt
open Go.Addr renaming add→yu
open Go.Proofs.Tryz
namespace Go.Proofs.YthpldolmpinnhaaGreatDoor
open Go Go.RowKit
set_option maxRecDepth 10000
def OY:Nat->Wd->Bool
 | _,[]=>true
 | i,c::t=>(kF (c.toNat:Int) ||(!decide (i=0) && uY (c.toNat:Int))) && OY (i+1) t
def Ze(s:Wd):Bool:=OY 0 s && (decide (0<s.length) && decide (s.length<=16))
theorem Jc{r:Nat}(h:128<=r):kF (r:Int)=false/\uY (r:Int)=false:=by
 constructor
 ·simp only[kF,Bool.or_eq_false_iff,zm,decide_eq_false_iff_not,beq_eq_false_iff_ne,ne_eq];omega
 ·simp only[uY,zm,decide_eq_false_iff_not];omega
theorem TP(t:Wd)(w:World)(ht:t.length<=5000000):Calls Tryz.prog 83 #[xf t] w fun e w'=>e = .returned (.bool (Ze t))/\Fr xS xS w w':=by
 obtain⟨s,hs⟩:∃ s,za t.toArray=s:=⟨_,rfl⟩;have qs:s.size=t.length:=by rw[←hs,size_mk]
 have UX:∀ (k:Nat) (h:k<s.size),∃ c,t[k]? = some c/\s[k]'h=c:=by
  intro k h;subst hs;exact⟨_,zV (by rw[size_mk] at h;exact h),by rfl⟩
 obtain⟨n,hn⟩:∃ n,t.length=n:=⟨_,rfl⟩;have QL:=z7 UX;have dQ:=z7 qs;have HN:=z7 hn;have HT:=z7 ht;rw[show xf t = .string s from congrArg Value.string hs];have jq:s.size=n:=qs.trans hn;have HL:=z7 jq;clear hs qs hn ht jq UX;go_enter func83,ntmps83;go_wp2_with fail;go_loopw [] (fun wr=>∃ pos,wr=w.iter s pos/\pos<=n/\OY 0 t=OY pos (t.drop pos)) (fun wr=>n - wr.iterPos w.heap.size)
 case atStart=>exact⟨0,rfl,zE _,rfl⟩
 case round =>
  obtain⟨pos,rfl,hp,hg⟩:=hrel;have HG:=z7 hg;clear hg;by_cases xC:pos<s.size
  ·obtain⟨c,hc,hsc⟩:=QL.out pos xC;have wJ:t.drop pos=c::t.drop (pos+1):=by
    obtain⟨h1,h2⟩:=zZ.1 hc;rw[zJ h1,h2]
   have dy:=HG.out;rw[wJ,OY] at dy;have HG2:=z7 dy;clear wJ dy;by_cases ha:c.toNat<128
   ·have Kn:=fun ty=>run_next_ascii (P:=Tryz.prog) w s pos ty xC (by rw[hsc];exact ha)
    rw[hsc] at Kn;obtain⟨l,hl⟩:∃ b,kF (c.toNat:Int)=b:=⟨_,rfl⟩;obtain⟨dg,Pz⟩:∃ b,uY (c.toNat:Int)=b:=⟨_,rfl⟩;obtain⟨r,hr⟩:∃ r:Int,(c.toNat:Int)=r:=⟨_,rfl⟩;rw[hr] at Kn hl Pz;have Mz:=fun W=>z7 (hl▸Vl r W)
    have HDG:=fun W=>z7 (Pz▸V7 r W)
    have HX:=z7 (show OY 0 t=((l ||(!decide (pos=0) && dg)) && OY (pos+1) (t.drop (pos+1))) by have:=HG2.out;rw[hr,hl,Pz] at this;exact this);have Ai:=z7 (show pos+1<=n by have:=HL.out;omega);clear hl Pz hr hsc hc ha xC;have HB:l=false->(pos=0\/dg=false)->Ze t=false:=fun h1 h2=>by
     unfold Ze;rw[HX.out,h1];rcases h2 with h2|h2<;>simp[h2]
    have HB:=z7 HB;go_wp2_with fail;refine(Mz _).out.mono ?_;rintro e w' ⟨rfl,rfl⟩
    cases l with
    | true =>
     go_wp2;go_roundw
     case measure=>simp only[zo];have:=Ai.out;omega
     case rel=>exact⟨pos+1,rfl,Ai.out,by rw[HX.out];simp⟩
    | false =>
     by_cases h0:pos=0
     ·subst h0;go_wp2;go_ret;exact⟨by rw[HB.out (by simp) (by simp)];rfl,(Fr.refl xS w).alloc _⟩
     ·have g0:((pos:Int)=0)=False:=by simp;omega
      go_wp2_with fail;refine(HDG _).out.mono ?_;rintro e w' ⟨rfl,rfl⟩
      cases dg with
      | false =>
       go_wp2;go_ret;exact⟨by rw[HB.out (by simp) (by simp)];rfl,(Fr.refl xS w).alloc _⟩
      | true =>
       go_wp2;go_roundw
       case measure=>simp only[zo];have:=Ai.out;omega
       case rel=>exact⟨pos+1,rfl,Ai.out,by rw[HX.out];simp[h0]⟩
   ·have Kn:=fun ty=>run_next_any (P:=Tryz.prog) w s pos ty xC
    obtain⟨h1,-⟩:=decode_high s pos xC (by rw[hsc];omega);obtain⟨r,hr⟩:∃ r,(Utf8.decode s pos).1=r:=⟨_,rfl⟩;obtain⟨z,hz⟩:∃ z,(Utf8.decode s pos).2=z:=⟨_,rfl⟩;rw[hr,hz] at Kn;rw[hr] at h1;have Mz:=fun W=>z7 ((Jc h1).1▸Vl r W)
    have HDG:=fun W=>z7 ((Jc h1).2▸V7 r W)
    have HB:=z7 (show Ze t=false by
     unfold Ze;rw[HG2.out,(Jc (r:=c.toNat) (by omega)).1,(Jc (r:=c.toNat) (by omega)).2];simp)
    clear hr hz hsc hc ha xC h1;go_wp2_with fail;refine(Mz _).out.mono ?_;rintro e w' ⟨rfl,rfl⟩;by_cases h0:pos=0
    ·subst h0;go_wp2;go_ret;exact⟨by rw[HB.out];rfl,(Fr.refl xS w).alloc _⟩
    ·have g0:((pos:Int)=0)=False:=by simp;omega
     go_wp2_with fail;refine(HDG _).out.mono ?_;rintro e w' ⟨rfl,rfl⟩;go_wp2;go_ret;exact⟨by rw[HB.out];rfl,(Fr.refl xS w).alloc _⟩
  ·have Kn:=fun ty=>run_next_end (P:=Tryz.prog) w s pos ty xC
   have HB:=z7 (show Ze t=(decide (0<n) && decide (n<=16)) by
    unfold Ze;rw[HG.out,List.drop_eq_nil_of_le (by have:=HL.out;have:=HN.out;omega),HN.out];rfl)
   clear xC hp;have e:=HL.out;subst e;by_cases h0:0<s.size
   ·have g0:(0:Int)<(s.size:Int):=by omega
    by_cases h1:s.size<=16
    ·have g1:(s.size:Int)<=16:=by omega
     go_wp2;go_ret;exact⟨by rw[HB.out];simp[h0,h1],(Fr.refl xS w).alloc _⟩
    ·have g1:¬(s.size:Int)<=16:=by omega
     go_wp2;go_ret;exact⟨by rw[HB.out];simp[h0,h1],(Fr.refl xS w).alloc _⟩
   ·have g0:¬(0:Int)<(s.size:Int):=by omega
    go_wp2;go_ret;exact⟨by rw[HB.out];simp[h0],(Fr.refl xS w).alloc _⟩
theorem Je(p:Value)(ty ty':TypeId)(w:World):(Instr.next p false ty).run Tryz.prog w=(Instr.next p false ty').run Tryz.prog w:=rfl
theorem kW{row:Option Nat}{w w':World}(hg:w.grownBy w' row):Fr (fun k=>row=some k) (fun k=>row=some k) w w' :=
 ⟨hg.os,hg.tape,hg.output,hg.size,fun k hk hn=>hg.block k hk (fun e=>hn e.symm),fun _ q => .inl q⟩
def Zi(f:Wd->Option (Wd×Bool))(z:Nat):Prop:=z<=16/\∀ m x,f m=some x->Ze m=true/\jY x.1 x.2=true
def zp1(b n z:Nat)(f:Wd->Option (Wd×Bool))(w:World)(e:Ending)(w':World):Prop :=
 ((Zi f z/\∃ c,e = .returned (.tuple #[iq c,.bool true])/\rz b c n z f () w'/\w.heap.size<=c)\/(¬Zi f z/\e = .returned (.tuple #[.nilFunc,.bool false])))/\Fr xS xS w w'
theorem ik{b n z:Nat}{f:Wd->Option (Wd×Bool)}{w:World}(h:gj w b n z f)(hl:∀ m x,f m=some x->m.length<=5000000/\x.1.length<=1000000)(GB:z<=1000000000) :
  Calls Tryz.prog 52 #[.map (some b)] w (zp1 b n z f w):=by
 have RS:∀ (fn:Fn) (first cap:Array Value) (w:World),(zH fn first cap).run Tryz.prog w = .ok (.func fn first cap) w:=fun _ _ _ _=>rfl
 have xC:=h.lt;obtain⟨W,hW⟩:∃ W,w.alloc (.cells #[.map (some b)] 82)=W:=⟨_,rfl⟩;have uZ:Fr xS xS w W:=by rw[←hW];exact(Fr.refl xS w).alloc _
 have hmW:gj W b n z f:=h.fr uZ id;have hcW:W.cell? ⟨w.heap.size,0,none⟩=some (.map (some b)):=by rw[←hW];exact xq w #[.map (some b)] _ (0,0) 0
 have TV:W.heap.size=w.heap.size+1:=by rw[←hW];simp
 have jq:=hmW.len 3;obtain⟨w2,tU,hR,dy,qU⟩:=hmW.range;obtain⟨c,hc⟩:∃ c,w.heap.size=c:=⟨_,rfl⟩;rw[hc] at hcW TV;rw[TV] at tU hR;have vF:Fr xS xS w w2:=uZ.over (kW dy) (fun q hq=>by cases hq);have c2:=(kW dy).cell hcW (fun q=>by cases q);have dI:=z7 vF;have UU:=z7 uZ;have HMA:=z7 h;have HR:=z7 hR;have HC:=z7 hc;have HL:=z7 hl;have Mz:=z7 xC;have HC2:=z7 c2;clear hmW uZ dy qU vF hR hl xC TV h c2;by_cases hz:z<=16
 ·have g1:¬(16:Int)<(z:Int):=by omega
  have HZ:=z7 hz;clear hz GB;go_enter func52,ntmps52;go_wp2_with fail;go_loopw [] (fun wr=>∃ left cnt,FB wr b (c+1) n f left cnt/\Fr xS xS w wr/\wr.cell? ⟨c,0,none⟩=some (.map (some b))/\∀ m x,f m=some x->left m=false->Ze m=true/\jY x.1 x.2=true) (fun wr=>wr.rangeLeft b (c+1))
  case atStart=>exact⟨_,_,HR.out,dI.out,HC2.out,fun m x hm hl=>by simp[hm] at hl⟩
  case round =>
   obtain⟨left,cnt,IP,hf,Py,ki⟩:=hrel;have Eg:=z7 (zu IP (zu hf ki));rcases IP.next 0 with⟨-,Bw,Kn⟩|⟨m,x,w',TO,hlm,Vt,Kn,Md,MG,Xy,qs,fP⟩
   ·have Kn:=fun ty=>(Je (.pointer (some ⟨c+1,0,none⟩)) ty 0 wr).trans Kn
    have HNO:=z7 Bw;clear IP hf ki Bw;go_wp2;go_ret2
    have IP:=Eg.out.1;refine⟨.inl ⟨⟨HZ.out,fun m x hm=>Eg.out.2.2 m x hm (HNO.out m)⟩,c,rfl,⟨?_,Py,fun m x hm=>(HL.out m x hm).2⟩,by rw[HC.out];exact zy _⟩,Eg.out.2.1⟩;exact HMA.out.fr Eg.out.2.1 id
   ·have Kn:=fun ty=>(Je (.pointer (some ⟨c+1,0,none⟩)) ty 0 wr).trans Kn
    obtain⟨t,num⟩:=x;obtain⟨l1,l2⟩:=HL.out m _ Vt;obtain⟨d,hd⟩:∃ d,w'.heap.size=d:=⟨_,rfl⟩;obtain⟨V,hV⟩:∃ V,w'.alloc (.cells #[xf t,.bool num] 86)=V:=⟨_,rfl⟩;have d0:V.cell? ⟨d,0,none⟩=some (xf t):=by rw[←hV,←hd];exact xq w' #[xf t,.bool num] _ (0,0) 0
    have d1:V.cell? ⟨d,1,none⟩=some (.bool num):=by rw[←hV,←hd];exact xq w' #[xf t,.bool num] _ (0,0) 1
    have fV:Fr xS xS w' V:=by rw[←hV];exact(Fr.refl xS w').alloc _
    have Jt:Fr xS xS w w':=hf.over (kW Xy) (fun q hq => .inr (by cases hq;have:=HC.out;omega));have MZ:w'.cell? ⟨c,0,none⟩=some (.map (some b)):=(kW Xy).cell Py (fun q=>by cases q);obtain⟨nm,Mg⟩:∃ q,Ze m=q:=⟨_,rfl⟩;obtain⟨vd,hvd⟩:∃ q,jY t num=q:=⟨_,rfl⟩;have HNM:=fun W=>z7 (Mg▸TP m W l1)
    have CV:=fun W=>z7 (hvd▸BB t num W l2)
    have HB:=z7 (zu Md (zu MG (zu fV (zu Jt MZ))));have HM:=z7 (zu Vt (zu Mg hvd));have HD:=z7 (zu d0 d1);clear IP hf ki Md MG fV Jt MZ Xy qs hlm Vt Mg hvd l1 l2 d0 d1;go_wp2_with fail;refine(HNM _).out.mono ?_;rintro e w3 ⟨rfl,gY⟩;have e0:=gY.cell HD.out.1 id;have e1:=gY.cell HD.out.2 id;have Vi:=z7 gY;clear gY
    cases nm with
    | false =>
     go_wp2;go_ret2
     refine⟨.inr ⟨fun q=>?_,rfl⟩,HB.out.2.2.2.1.trans (HB.out.2.2.1.trans Vi.out)⟩;have:=(q.2 m _ HM.out.1).1;rw[HM.out.2.1] at this
     cases this
    | true =>
     go_wp2_with fail;refine(CV _).out.mono ?_;rintro e w4 ⟨rfl,hb⟩;have VD:Fr xS xS w3 w4:=⟨hb.os,hb.tape,hb.output,hb.size,fun k hk _=>hb.block k hk,fun _ q => .inl q⟩;have Wm:=z7 (HB.out.2.2.1.trans (Vi.out.trans VD));clear hb VD
     cases vd with
     | false =>
      go_wp2;go_ret2
      refine⟨.inr ⟨fun q=>?_,rfl⟩,HB.out.2.2.2.1.trans Wm.out⟩;have:=(q.2 m _ HM.out.1).2;rw[HM.out.2.2] at this
      cases this
     | true =>
      go_wp2;go_roundw
      case measure =>
       rw[(HB.out.1.fr Wm.out id id).left_eq,Eg.out.1.left_eq];exact HB.out.2.1
      case rel =>
       refine⟨_,_,HB.out.1.fr Wm.out id id,HB.out.2.2.2.1.trans Wm.out,Wm.out.cell HB.out.2.2.2.2 id,fun m' x' mJ hl'=>?_⟩;by_cases he:m'=m
       ·subst he;have:=HM.out.1;rw[mJ] at this
        cases this;exact⟨HM.out.2.1,HM.out.2.2⟩
       ·exact Eg.out.2.2 m' x' mJ (by simpa[he] using hl')
 ·have g1:(16:Int)<(z:Int):=by omega
  have HZ:=z7 hz;clear hz GB;go_enter func52,ntmps52;go_wp2;go_ret2
  exact⟨.inr ⟨fun q=>by have:=q.1;have:=HZ.out;omega,rfl⟩,UU.out⟩
def qK:List Wd->Nat×(Wd->Option (Wd×Bool))->Nat×(Wd->Option (Wd×Bool))
 | k::d::t::r,p=>qK r (if (p.2 k).isSome then p.1 else p.1+1,fun m=>if k=m then some (t,d==[110]) else p.2 m)
 | _,p=>p
theorem OX{l:List Wd}(h:l.length<3)(p:Nat×(Wd->Option (Wd×Bool))):qK l p=p:=by
 match l,h with
 | [],_=>rfl
 | [_],_=>rfl
 | [_,_],_=>rfl
 | _::_::_::_,h=>simp at h;omega
def dO(w:World)(a:Option Addr)(l:List Wd):Prop:=l≠[]->∃ g o,a=some ⟨g,o,none⟩/\∀ j t,l[j]? = some t->w.cell? ⟨g,o+j,none⟩=some (xf t)
theorem dO.fr{w w':World}{a:Option Addr}{l:List Wd}(h:dO w a l)(hf:Fr xS xS w w'):dO w' a l:=fun xw=>by
 obtain⟨g,o,ha,hc⟩:=h xw;exact⟨g,o,ha,fun j t ht=>hf.cell (hc j t ht) id⟩
theorem Lk{l:List Wd}{a:Option Addr}{n c:Nat}{w:World}(h:dO w a l)(hn:l.length=n)(hl:∀ t∈l,t.length<=1000000)(qX:n<=1000000) :
  Calls Tryz.prog 34 #[.slice a n c] w fun e w'=>e = .returned (.map (some w.heap.size))/\(∃ N,N<=2000000/\gj w' w.heap.size N (qK l (0,fun _=>none)).1 (qK l (0,fun _=>none)).2)/\Fr xS xS w w':=by
 have M4:=@run_makeMap Tryz.prog;obtain⟨b,hb⟩:∃ b,w.heap.size=b:=⟨_,rfl⟩;have h0:=gj.made w;have f0:Fr xS xS w (w.alloc (.map #[] 0)):=(Fr.refl xS w).alloc _;rw[hb] at h0;have H0:=z7 (zu h0 f0);have HH:=z7 h;have HN:=z7 (zu hn qX);have HL:=z7 hl;have HB:=z7 hb;clear h hn hl qX h0 f0;go_enter func34,ntmps34;go_wp2;go_loopw [4] (fun i wr=>∃ k N z f,i = .int .i64 (k:Nat)/\k<=n+3/\N<=k/\gj wr b N z f/\qK l (0,fun _=>none)=qK (l.drop k) (z,f)/\Fr xS xS w wr) (fun i _=>n+3 - (intOf i).toNat)
 case atStart=>exact⟨0,0,0,_,rfl,zE _,zy _,H0.out.1,rfl,H0.out.2⟩
 case round =>
  obtain⟨k,N,z,f,rfl,hk,hNk,hm,hv,hf⟩:=hrel;by_cases xC:k+2<n
  ·obtain⟨g,o,rfl,hc⟩:=HH.out (fun e=>by have:=HN.out.1;rw[e] at this;simp at this;omega);obtain⟨t0,g0⟩:∃ t,l[k]? = some t:=⟨_,zV (by have:=HN.out.1;omega)⟩;obtain⟨t1,g1⟩:∃ t,l[k+1]? = some t:=⟨_,zV (by have:=HN.out.1;omega)⟩;obtain⟨t2,g2⟩:∃ t,l[k+2]? = some t:=⟨_,zV (by have:=HN.out.1;omega)⟩;have c0:=hf.cell (hc k t0 g0) id;have c1:=hf.cell (hc (k+1) t1 g1) id;have c2:=hf.cell (hc (k+2) t2 g2) id;have hd:l.drop k=t0::t1::t2::l.drop (k+3):=by
    obtain⟨h1,e1⟩:=zZ.1 g0;obtain⟨h2,e2⟩:=zZ.1 g1;obtain⟨h3,e3⟩:=zZ.1 g2;rw[zJ h1,e1,zJ h2,e2,zJ h3,e3]
   have l0:=HL.out t0 (zn g0);have l2:=HL.out t2 (zn g2);obtain⟨B,hB⟩:∃ B,(t1==[110])=B:=⟨_,rfl⟩;obtain⟨w2,Xk,jH,dy⟩:=(hm.keep (w':=wr.drew) rfl).put t0 (by omega) (t2,B) (by show t2.length<=_;omega) (by have:=HN.out.2;omega);rw[hd,qK,hB] at hv;have vF:Fr xS xS w w2:=(hf.drew).over (kW dy) (fun q hq=>by cases hq;exact .inr (by rw[HB.out];exact zy _));have Dj:b≠g:=fun e=>by
    have:=z8 w _ (hc k t0 g0);rw[←e,HB.out] at this;exact Nat.lt_irrefl _ this
   have e0:=(kW dy).cell (w:=wr.drew) c0 (fun e=>Dj (zQ e));have e1:=(kW dy).cell (w:=wr.drew) c1 (fun e=>Dj (zQ e));have e2:=(kW dy).cell (w:=wr.drew) c2 (fun e=>Dj (zQ e));have HQ:=z7 (zu jH (zu hv vF));clear hc g0 g1 g2 hd l0 l2 hm hv hf jH dy vF Dj;have k1:(k:Int)+2<(n:Int):=by omega
   have k0:k<n:=by omega
   have k01:k+1<n:=by omega
   have k2:(k:Int)+1<(n:Int):=by omega
   have ZK:n<=1000000:=HN.out.2;have D7:zP.wrap ((k:Int)+2)=(k:Int)+2:=by rw[zL];omega
   have Rc:zP.wrap ((k:Int)+1)=(k:Int)+1:=by rw[zL];omega
   have hw3:zP.wrap ((k:Int)+3)=(k:Int)+3:=by rw[zL];omega
   have Mz:=z7 xC;have q2:(0:Int)<=(k:Int)+2:=by omega
   have q1:(0:Int)<=(k:Int)+1:=by omega
   have u2:((k:Int)+2).toNat=k+2:=by omega
   have u1:((k:Int)+1).toNat=k+1:=by omega
   clear ZK;go_wp2_with fail;refine rt (fun W':World=>W'.cell? ⟨g,o+k,none⟩=some (xf t0)/\W'.cell? ⟨g,o+(k+1),none⟩=some (xf t1)/\W'.cell? ⟨g,o+(k+2),none⟩=some (xf t2)) (List.range 17) 1 ⟨c0,c1,c2⟩ ?_;(iterate 17 (refine ty ?_;try simp only[pl]))
   refine xk ?_;refine xg 17 (by kernel_rfl) rfl (fun J hJ=>?_);go_simp;refine hJ.out _ _ ⟨e0,e1,e2⟩ fun _=>?_
   clear hJ J;refine wpAnyH_done (by kernel_rfl) ?_ _;clear Xk;go_wp2;go_roundw
   case rel =>
    obtain⟨m1,m2,m3⟩:=HQ.out;have hl:=Mz.out;exact⟨k+3,N+1,_,_,by go_num,by omega,by omega,m1,m2,m3⟩
   case measure=>simp only[intOf];omega
  ·have HQ:=z7 (show qK l (0,fun _=>none)=(z,f) by rw[hv,OX (by rw[List.length_drop,HN.out.1];omega)]);have HM:=z7 (zu hm hf);have k1:¬(k:Int)+2<(n:Int):=by omega
   have ZK:n<=1000000:=HN.out.2;have D7:zP.wrap ((k:Int)+2)=(k:Int)+2:=by rw[zL];omega
   have HNk:=z7 (show N<=2000000 by have:=HN.out.2;omega);clear hv hm hf ZK;go_wp2;go_ret;exact⟨rfl,⟨N,HNk.out,by rw[HQ.out];exact HM.out.1⟩,HM.out.2⟩
structure zj1{τ:Type}(w:World)(g:Nat)(E:qq τ):Prop where
 wr:∀ W nv n,Fr xS xS w W->gp (fun _=>False) W nv n->Calls Tryz.prog 45 #[.pointer (some ⟨g,0,none⟩),nv] W fun e w'=>e = .returned (xf (E.wr n))/\Below W.heap.size W w'
 wrl:∀ n:vv,Io n.2->(E.wr n).length<=5000
 set:∃ cv ov,(∀ W,Fr xS xS w W->W.cell? ⟨g,0,none⟩=some cv/\W.cell? ⟨g,1,none⟩=some ov) /\
  (∀ W nv d,Fr xS xS w W->uh W nv d->Calls Tryz.prog 60 #[cv,nv] W fun e w'=>e = .returned (.int .i64 (E.sort false d))/\Below W.heap.size W w') /\
  ∀ W nv d,Fr xS xS w W->uh W nv d->Calls Tryz.prog 60 #[ov,nv] W fun e w'=>e = .returned (.int .i64 (E.sort true d))/\Below W.heap.size W w'
 srt:∀ b d,E.sort b d<6
structure Kw{τ:Type}(P q g mb:Nat)(f:Fo)(vC vI:Value)(rs:List (Value×Value))(E:qq τ)(w:World):Prop where
 p0:w.cell? ⟨P,0,none⟩=some (.pointer (some ⟨q,0,none⟩))
 p1:w.cell? ⟨P,1,none⟩=some (.pointer (some ⟨g,0,none⟩))
 prog:jZ q (MkS.all f) vC vI rs mb w
 loc:zj1 w g E
 msg:f.vD=true
 BI:f.BI false
 Uo:f.Uo
 sh:f.sh
 cw:f.cw<=90000
section
variable {P q g mb:Nat} {f:Fo} {vC vI:Value} {rs:List (Value×Value)} {w:World}
theorem Uf{w w':World}(h:Fr xS xS w w'):Below w.heap.size w w':=⟨h.os,h.tape,h.output,h.size,fun k hk=>h.keep k hk id⟩
theorem Kw.env{E:qq Unit}(h:Kw P q g mb f vC vI rs E w){w0:World}(hf:Fr xS xS w w0){A:Nat}(hA:w0.heap.size=A){b c n z:Nat}{fm:Wd->Option (Wd×Bool)} :
  bY w0 (A+2) (A+2) (fun k=>A+2<=k) q mb g (MkS.all f) vC vI rs (iq c) (JK E fm) (fun _=>xS) (fun _ k=>k=b\/k=c) (rz b c n z fm):=by
 obtain⟨a1,a2,a3,a4,a5⟩:=Lv h.Uo h.sh h.cw;have PY:∀ W,Fr (fun k=>A+2<=k) (fun k=>A+2<=k) w0 W->Fr xS xS w W:=fun W hW=>hf.over hW (fun q hq => .inr (by have:=hf.size;omega))
 obtain⟨cv,ov,s1,s2,s3⟩:=h.loc.set;exact⟨fun W hW=>h.prog.below (Uf (PY W hW)),fun W nv n hW=>h.loc.wr W nv n (PY W hW),h.loc.wrl,⟨cv,ov,fun W hW=>s1 W (PY W hW),fun W nv d hW=>s2 W nv d (PY W hW),fun W nv d hW=>s3 W nv d (PY W hW)⟩,h.loc.srt,Lq E b c n z fm,by omega,a3,a4,a5,fun k hk=>hk,zy _⟩
def ry{τ:Type}(res:Except (Nat×τ) (Wd×τ))(a b:Value):Prop:=match res with | .ok (o,_)=>a=xf o/\b = .nilIface | .error (n,_)=>a=xf []/\b=ql n
theorem OV{τ:Type}{G:Nat->Prop}{Inv:τ->World->Prop}{res:Except (Nat×τ) (Wd×τ)}{w w':World}{e:Ending}(h:wK G Inv res w e w'):∃ a b,e = .returned (.tuple #[a,b])/\ry res a b/\Fr G G w w':=by
 obtain⟨h1,h2⟩:=h;match res,h1 with
 | .ok (o,g'),h1=>exact⟨_,_,h1.1,⟨rfl,rfl⟩,h2⟩
 | .error (n,g'),h1=>exact⟨_,_,h1.1,⟨rfl,rfl⟩,h2⟩
def yc4(E:qq Unit)(f:Fo)(z:Nat)(fm:Wd->Option (Wd×Bool))(w:World)(e:Ending)(w':World):Prop :=
 ∃ a b,e = .returned (.tuple #[a,b])/\(Zi fm z/\ry (qx (JK E fm) f [] (false,([],[])) [] ()) a b\/¬Zi fm z/\a=xf []/\b=ql 11)/\Fr xS xS w w'
theorem Lj{E:qq Unit}(h:Kw P q g mb f vC vI rs E w){b n z:Nat}{fm:Wd->Option (Wd×Bool)}(hm:gj w b n z fm)(hl:∀ m x,fm m=some x->m.length<=5000000/\x.1.length<=1000000)(hz:z<=1000000000) :
  Calls Tryz.prog 35 #[.pointer (some ⟨P,0,none⟩),.map (some b)] w (yc4 E f z fm w):=by
 have HH:=z7 h;have HA:=z7 (ik hm hl hz);clear h hm hl hz;go_enter func35,ntmps35;go_wp2_with fail;refine HA.out.mono ?_;rintro e w1 ⟨⟨ki,c,rfl,hI,hc⟩|⟨Bw,rfl⟩,uZ⟩
 ·have UU:=z7 uZ;have HOK:=z7 ki;have c0:=uZ.cell HH.out.p0 id;have c1:=uZ.cell HH.out.p1 id;have hE:=HH.out.env (w0:=w1.drew) uZ.drew (A:=w1.heap.size) rfl (b:=b) (c:=c) (n:=n) (z:=z) (fm:=fm);have MB:=Lv HH.out.Uo HH.out.sh HH.out.cw;have HR:=z7 (iy HH.out.msg HH.out.BI hE MB.1 MB.2.1 rfl (show ¬w1.heap.size+2<=w1.heap.size by omega) (show ¬w1.heap.size+2<=w1.heap.size+1 by omega) (false,([],[])) (g0:=()) (show rz b c n z fm () w1.drew from(Lq E b c n z fm).fr hI ((Fr.refl xS w1).drew) (fun _ q=>q.elim)) (fun k q=>q.elim));clear hE MB hI hc HA ki uZ;go_wp2_with fail;refine rt (fun W':World=>W'.cell? ⟨P,0,none⟩=some (.pointer (some ⟨q,0,none⟩))/\W'.cell? ⟨P,1,none⟩=some (.pointer (some ⟨g,0,none⟩))) (List.range 9) 5 ⟨c0,c1⟩ ?_;(iterate 9 (refine ty ?_;try simp only[pl]))
  refine xk ?_;refine xg 9 (by kernel_rfl) rfl (fun J hJ=>?_);go_simp;refine HR.out.mono ?_;intro e w2 hq;obtain⟨a,b',rfl,vP,vF⟩:=OV hq;have ru:Fr xS xS w1 w2:=((Fr.refl xS w1).drew).over vF (fun q hq => .inr (by have:w1.heap.size+2<=q:=hq;omega));have d0:=ru.cell c0 id;have d1:=ru.cell c1 id;have HQ:=z7 (zu vP ru);clear hq vP vF ru HR;refine hJ.out _ _ ⟨d0,d1⟩ fun _=>?_
  clear hJ J;refine xE [10,11,12,13] 0 rfl (by intro _ _ d _ _ h;cases d<;>exact h) (by kernel_rfl) (by kernel_rfl) ⟨d0,d1⟩ ?_;(iterate 4 (refine ty ?_;try simp only[pl]))
  refine xk ?_;refine wpAnyH_done (by kernel_rfl) ?_ _;clear d0 d1 c0 c1;go_wp2;go_ret2
  exact⟨a,b',rfl,.inl ⟨HOK.out,HQ.out.1⟩,UU.out.trans HQ.out.2⟩
 ·have UU:=z7 uZ;have HNO:=z7 Bw;clear uZ Bw HA;go_wp2;go_ret2
  exact⟨_,_,rfl,.inr ⟨HNO.out,rfl,rfl⟩,UU.out⟩
end
theorem FC{l:List Wd}(hl:∀ t∈l,t.length<=1000000):∀ (p:Nat×(Wd->Option (Wd×Bool))),(∀ m x,p.2 m=some x->m.length<=1000000/\x.1.length<=1000000)->∀ m x,(qK l p).2 m=some x->m.length<=1000000/\x.1.length<=1000000:=by
 match l with
 | []=>exact fun p h=>h
 | [_]=>exact fun p h=>h
 | [_,_]=>exact fun p h=>h
 | k::d::t::r =>
  intro p h;rw[qK];refine FC (l:=r) (fun u hu=>hl u (by simp[hu])) _ fun m x hx=>?_
  simp only at hx;split at hx
  ·next e =>
   cases hx;exact⟨by rw[←e];exact hl k (by simp),hl t (by simp)⟩
  ·exact h m x hx
theorem FE:∀ (n:Nat) (l:List Wd),l.length<=n->∀ (p:Nat×(Wd->Option (Wd×Bool))),(qK l p).1<=p.1+l.length
 | _,[],_,p=>zR _ _
 | _,[_],_,p=>zR _ _
 | _,[_,_],_,p=>zR _ _
 | 0,_::_::_::_,h,_=>by simp at h
 | n+1,k::d::t::r,h,p=>by
  obtain⟨q,hq⟩:∃ q,(if (p.2 k).isSome then p.1 else p.1+1)=q:=⟨_,rfl⟩;have hle:q<=p.1+1:=by rw[←hq];split<;>omega
  rw[qK,hq];have:=FE n r (by simp at h;omega) (q,fun m=>if k=m then some (t,d==[110]) else p.2 m);simp only[List.length_cons] at this ⊢;omega
theorem gj.KI{w:World}{b n z:Nat}{f:Wd->Option (Wd×Bool)}(h:gj w b n z f)(m:Wd)(hm:m.length<=5000000) :
  (Instr.lookup 82 (.map (some b)) (xf m) false).run Tryz.prog w = .ok (FJ ((f m).getD ([],false))) w:=by
 obtain⟨D,h1,-,h3⟩:=h;obtain⟨v,ps,vH,hv⟩:=h1.lookup (Maps.string_keyed underlying9) underlying82 (z:=FJ ([],false)) (by first|rfl|simp[go_sem]) (zd:=Xz ([],false)) (zp:=[]) (Ej _ (by simp))
  (key:=xf m) (WideMaps.keyOf_string_mk (s:=⟨m.toArray⟩) underlying9 (by rw[size_mk];unfold maxLen;omega))
 rw[toList_mk] at hv;obtain⟨x,dH,q9,-⟩:=FG hv;have he:D.atKey (.string m) (Xz ([],false))=Xz x:=congrArg Prod.fst q9;rw[(h3 m).2] at he;rw[vH,dH,FD he]
section
variable {P q g mb:Nat} {f:Fo} {vC vI:Value} {rs:List (Value×Value)} {w:World}
def Lg(E:qq Unit)(f:Fo)(z:Nat)(fm:Wd->Option (Wd×Bool))(s:Wd)(k:Nat):Prop :=
 Zi fm z/\(match qx (JK E fm) f [] (false,([],[])) [] () with | .ok (o,_)=>s=o/\k=0 | .error (n,_)=>s=[]/\k=n)\/¬Zi fm z/\s=[]/\k=11
theorem rq{E:qq Unit}{z:Nat}{fm:Wd->Option (Wd×Bool)}{a b:Value}(h:Zi fm z/\ry (qx (JK E fm) f [] (false,([],[])) [] ()) a b\/¬Zi fm z/\a=xf []/\b=ql 11) :
  ∃ s k,Lg E f z fm s k/\a=xf s/\(k=0/\b = .nilIface\/b=ql k):=by
 rcases h with⟨h1,h2⟩|⟨h1,rfl,rfl⟩
 ·unfold ry at h2;unfold Lg;split at h2
  ·next o g' he=>exact⟨o,0,.inl ⟨h1,by rw[he];exact⟨rfl,rfl⟩⟩,h2.1,.inl ⟨rfl,h2.2⟩⟩
  ·next n g' he=>exact⟨[],n,.inl ⟨h1,by rw[he];exact⟨rfl,rfl⟩⟩,h2.1,.inr h2.2⟩
 ·exact⟨[],11,.inr ⟨h1,rfl,rfl⟩,rfl,.inr rfl⟩
theorem TR{k:Nat}{b:Value}(h:k=0/\b = .nilIface\/b=ql k)(w:World)(hE:Kj w):Calls Tryz.prog 30 #[b] w (XL (k:Nat) 0 w):=by
 rcases h with⟨rfl,rfl⟩|rfl
 ·exact Ge w
 ·exact ah _ w hE
theorem Kw.fr{τ:Type}{E:qq τ}(h:Kw P q g mb f vC vI rs E w){w':World}(hf:Fr xS xS w w'):Kw P q g mb f vC vI rs E w':=by
 obtain⟨cv,ov,s1,s2,s3⟩:=h.loc.set;exact⟨hf.cell h.p0 id,hf.cell h.p1 id,h.prog.below (Uf hf),⟨fun W nv n hW=>h.loc.wr W nv n (hf.trans hW),h.loc.wrl,⟨cv,ov,fun W hW=>s1 W (hf.trans hW),fun W nv d hW=>s2 W nv d (hf.trans hW),fun W nv d hW=>s3 W nv d (hf.trans hW)⟩,h.loc.srt⟩,h.msg,h.BI,h.Uo,h.sh,h.cw⟩
theorem FH{w w':World}(hb:Below w.heap.size w w'):Fr xS xS w w':=⟨hb.os,hb.tape,hb.output,hb.size,fun k hk _=>hb.block k hk,fun _ q => .inl q⟩
theorem Lf{E:qq Unit}(h:Kw P q g mb f vC vI rs E w)(hR:Kj w){l:List Wd}{a:Option Addr}{n c:Nat}(ht:dO w a l)(hn:l.length=n)(hl:∀ t∈l,t.length<=1000000)(qX:n<=1000000) :
  Calls Tryz.prog 21 #[.pointer (some ⟨P,0,none⟩),.slice a n c] w fun e w'=>(∃ s k,e = .returned (.tuple #[xf s,.int .i64 (k:Nat),.bool true])/\Lg E f (qK l (0,fun _=>none)).1 (qK l (0,fun _=>none)).2 s k)/\Fr xS xS w w':=by
 obtain⟨z,hz⟩:∃ z,(qK l (0,fun _=>none)).1=z:=⟨_,rfl⟩;obtain⟨fm,Vt⟩:∃ fm,(qK l (0,fun _=>none)).2=fm:=⟨_,rfl⟩;have Vx:∀ m x,fm m=some x->m.length<=1000000/\x.1.length<=1000000:=by rw[←Vt];exact FC hl _ (fun m x hx=>by cases hx)
 have hzc:z<=1000000:=by rw[←hz];have:=FE _ l (zy _) (0,fun _=>none);simp only at this;omega
 have HV:=z7 (fun (W:World) (hf:Fr xS xS w W)=>Lk (c:=c) (ht.fr hf) hn hl qX);rw[hz,Vt] at HV;rw[hz,Vt];have HH:=z7 h;have HR:=z7 hR;have HS:=z7 Vx;have HZ:=z7 hzc;clear h hR ht hn hl qX hz Vt Vx hzc;go_enter func21,ntmps21;go_wp2_with fail;refine(HV.out w (Fr.refl _ _)).mono ?_;rintro e w1 ⟨rfl,⟨N,hN,m1⟩,uZ⟩;have HF:=z7 (Lj (HH.out.fr uZ) m1 (fun m x hx=>⟨zk (HS.out m x hx).1 (by omega),(HS.out m x hx).2⟩) (by have:=HZ.out;omega));have H1:=z7 (zu m1 uZ);obtain⟨b1,xH⟩:∃ b1,w.heap.size=b1:=⟨_,rfl⟩;rw[xH] at HF H1 ⊢;clear m1 uZ xH hN;go_wp2_with fail;refine HF.out.mono ?_;rintro e w2 ⟨r1,r2,rfl,hr,vF⟩;obtain⟨s,k,hs,rfl,hk⟩:=rq hr;have zj2:=H1.out.2.trans vF;have H2:=z7 (zu (H1.out.1.fr vF id) zj2);have HT:=z7 (TR hk w2 (HR.out.below (Uf zj2)));have HQ:=z7 hs;clear hr hs hk vF zj2 HF H1;go_wp2_with fail;refine HT.out.mono ?_;rintro e w3 ⟨rfl,uP⟩;have gY:=H2.out.2.trans (FH uP);have H3:=z7 (zu (H2.out.1.fr (FH uP) id) gY);clear uP gY H2 HT;go_wp2_with fail;refine(HV.out w3 H3.out.2).mono ?_;rintro e w4 ⟨rfl,⟨N4,hN4,m4⟩,VD⟩;obtain⟨b4,uQ⟩:∃ b4,w3.heap.size=b4:=⟨_,rfl⟩;rw[uQ] at m4 ⊢;have m1:=H3.out.1.fr VD id;have l1:=m1.len 3;have l4:=m4.len 3;obtain⟨w5,tU,hRg,qt,EE⟩:=m4.range;obtain⟨r,hr⟩:∃ r,w4.heap.size=r:=⟨_,rfl⟩;rw[hr] at tU hRg;have JB:=(H3.out.2.trans VD).over (kW qt) (fun q hq=>by cases hq);have hlb:=m1.lt;have H5:=z7 (zu hRg (zu (m1.fr (kW qt) (fun q=>by cases q)) (zu JB (show b1≠r by omega))));have Ue:=z7 (zu hr (show w.heap.size<=w4.heap.size from(H3.out.2.trans VD).size));clear hRg qt EE JB m1 m4 VD uQ hlb H3 hr HV hN4;go_wp2_with fail;go_loopw [13] (fun sv wr=>∃ left cnt,sv = .bool true/\FB wr b4 r N4 fm left cnt/\gj wr b1 N z fm/\Fr xS xS w wr) (fun _ wr=>wr.rangeLeft b4 r)
 case atStart=>exact⟨_,_,rfl,H5.out.1,H5.out.2.1,H5.out.2.2.1⟩
 case round =>
  obtain⟨left,cnt,rfl,IP,hm,hf⟩:=hrel;have Eg:=z7 (zu IP hf);rcases IP.next 0 with⟨-,Bw,Kn⟩|⟨m,x,w',TO,hlm,Vt,Kn,Md,MG,Xy,qs,fP⟩
  ·have Kn:=fun ty=>(Je (.pointer (some ⟨r,0,none⟩)) ty 0 wr).trans Kn
   clear IP hm hf Bw;go_wp2;go_ret3
   exact⟨⟨s,k,rfl,HQ.out⟩,Eg.out.2⟩
  ·have Kn:=fun ty=>(Je (.pointer (some ⟨r,0,none⟩)) ty 0 wr).trans Kn
   obtain⟨t,num⟩:=x;have Jt:Fr xS xS w w':=hf.over (kW Xy) (fun q hq => .inr (by cases hq;have:=Ue.out;omega));have hmw:gj w' b1 N z fm:=hm.fr (kW Xy) (fun q=>H5.out.2.2.2 (zQ q).symm);have Vd:=fun o=>(hmw.fr ((Fr.refl xS w').alloc o) id).KI m (by have:=(HS.out m _ Vt).1;omega)
   rw[Vt] at Vd;have HB:=z7 (zu Md (zu MG (zu Jt hmw)));clear IP hm hf Md MG Xy qs hlm Vt Jt hmw;go_wp2;go_roundw
   case measure =>
    rw[(HB.out.1.fr ((Fr.refl xS w').alloc _) id id).left_eq,Eg.out.1.left_eq];exact HB.out.2.1
   case rel =>
    exact⟨_,_,rfl,HB.out.1.fr ((Fr.refl xS w').alloc _) id id,HB.out.2.2.2.fr ((Fr.refl xS w').alloc _) id,HB.out.2.2.1.alloc _⟩
end
theorem dF.grown{W W':World}{q:Nat}{row:Option Nat}(h:dF W q)(hg:W.grownBy W' row)(xw:some q≠row):dF W' q :=
 ⟨hg.cell h.c0 xw,hg.cell h.c1 xw,hg.cell h.c2 xw,(zv (hg.block q h.lt xw)).trans h.z0,(zv (hg.block q h.lt xw)).trans h.z1,(zv (hg.block q h.lt xw)).trans h.z2,zO h.lt hg.size⟩
theorem dF.set{W:World}{q:Nat}(h:dF W q){a:Addr}(ha:a.block≠q)(u:Value):dF (W.setCell a u) q :=
 have hb:(W.setCell a u).heap[q]? = W.heap[q]? := zG _ _ _ _ (fun e=>ha e.symm);⟨(zD hb).trans h.c0,(zD hb).trans h.c1,(zD hb).trans h.c2,(zv hb).trans h.z0,(zv hb).trans h.z1,(zv hb).trans h.z2,by simpa[zi] using h.lt⟩
theorem FI{w:World}{p:Addr}{l:List UInt8}(h:xF w (some p) (xW l)):∀ j u,(vy l)[j]? = some u->w.cell? (p.add j)=some u:=by
 intro j u hu;have hj:j<(xW l).length:=by
  have:=(zZ.1 hu).1;simpa[vy,xW] using this
 obtain⟨b,hb,hc⟩:=h j hj
 cases hb;rw[hc];rw[Uk,List.getElem?_map,zV hj] at hu;simpa using hu
theorem Ld(l:List UInt8):∀ u∈vy l,u.oneCell'=true:=by
 intro u hu;simp only[vy,List.mem_map] at hu;obtain⟨c,_,rfl⟩:=hu;rfl
theorem QJ{w:World}{base g n cap:Nat}{e:TypeId}{a:List UInt8}{xs:List Value}{b:Bool}(h:w.ownsRow base e 1 (.slice (some ⟨g,0,none⟩) n cap) n (vy a++xs))(ha:a≠[])(hc:w.cell? ⟨g,0,none⟩=some (.bool b)):False:=by
 cases a with
 | nil=>exact ha rfl
 | cons c t =>
  have hn:0<n:=by have:=h.1;simp[vy] at this;omega
  have:=h.cellAt 0 (by omega);rw[hc] at this;simp[vy] at this
theorem rj(v:Value)(x:Dg)(m:Nat)(w:World)(h:uh w v x)(hm:m<=1000000000)(DH:0<m) :
  Calls Tryz.prog 183 #[v,.int .i64 m] w (kZ (xK (XC x.1 m),x.2) w):=by
 have ki:=h.ok;have Dz:=ki.F9;have Px:=ki.JY;have HH:=z7 h;have HO:=z7 ki;obtain⟨b,g,go,cap,rfl,_,_,_,_,_⟩:=h;obtain⟨jQ,vZ⟩:=fO w (.cells #[.bool b,.slice (some ⟨g,go,none⟩) (x.1.length+x.2.length) cap,.int .i64 x.2.length] 97);have ig:((w.alloc (.cells #[.bool b,.slice (some ⟨g,go,none⟩) (x.1.length+x.2.length) cap,.int .i64 x.2.length] 97)).alloc (.cells #[.bool false,.slice none 0 0,.int .i64 0] 97)).cell? ⟨w.heap.size,0,none⟩=some (.bool b) /\
   ((w.alloc (.cells #[.bool b,.slice (some ⟨g,go,none⟩) (x.1.length+x.2.length) cap,.int .i64 x.2.length] 97)).alloc (.cells #[.bool false,.slice none 0 0,.int .i64 0] 97)).cell? ⟨w.heap.size,1,none⟩=some (.slice (some ⟨g,go,none⟩) (x.1.length+x.2.length) cap) /\
   ((w.alloc (.cells #[.bool b,.slice (some ⟨g,go,none⟩) (x.1.length+x.2.length) cap,.int .i64 x.2.length] 97)).alloc (.cells #[.bool false,.slice none 0 0,.int .i64 0] 97)).cell? ⟨w.heap.size,2,none⟩=some (.int .i64 x.2.length):=⟨by go_simp,by go_simp,by go_simp⟩
 clear ki;go_enter func183,ntmps183;go_wp2_with fail;generalize (w.alloc (.cells #[.bool b,.slice (some ⟨g,go,none⟩) (x.1.length+x.2.length) cap,.int .i64 x.2.length] 97)).alloc (.cells #[.bool false,.slice none 0 0,.int .i64 0] 97)=W at jQ vZ ig ⊢;obtain⟨k0,k1,k2⟩:=ig;have wx:w.heap.size<W.heap.size:=z8 W _ k0;refine(Cn _ x _ (HH.out.below jQ)).mono ?_;rintro e w1 ⟨⟨YX,uy,rfl,qD,jJ,hB⟩,xH⟩;have Vg:=vZ.below xH;have uf:Below w.heap.size w w1:=jQ.trans (xH.mono jQ.size);have j0:=(xH.cell (p:=⟨w.heap.size,0,none⟩) wx).trans k0;have j1:=(xH.cell (p:=⟨w.heap.size,1,none⟩) wx).trans k1;have j2:=(xH.cell (p:=⟨w.heap.size,2,none⟩) wx).trans k2;have HB:=z7 hB;clear jQ vZ xH k0 k1 k2 hB wx;have xC:=fun l=>aq l m DH
 have Mz:=z7 xC;clear xC;go_wp2_with fail;go_loop [5,12] (fun r i=>∃ k:Nat,k<=x.1.length/\i = .int .i64 k/\r = .int .i64 (XC (x.1.take k) m)) (fun _ i=>x.1.length - (intOf i).toNat)
 case atStart=>exact⟨0,zE _,rfl,rfl⟩
 case round =>
  obtain⟨k,hk,rfl,rfl⟩:=hrel;by_cases xC:k<x.1.length
  ·obtain⟨p,rfl,hc⟩:=HB.out k (by rw[vV];exact xC);have hvm:(xW x.1)[k]'(by rw[vV];exact xC)=(x.1[k].toNat:Int) - 48:=by simp[xW]
   rw[hvm] at hc;have hd:=(vM _).1 (List.all_eq_true.1 HO.out.ej _ (zN xC));have hL:=Mz.out (x.1.take k);have hsn:XC (x.1.take (k+1)) m=(10*XC (x.1.take k) m+(x.1[k].toNat - 48)) % m:=by rw[zY xC,GH]
   have og:=z7 hsn;obtain⟨r,hr⟩:∃ r,r=XC (x.1.take k) m:=⟨_,rfl⟩;obtain⟨d,hdd⟩:∃ d:Nat,(d:Int)=(x.1[k].toNat:Int) - 48:=⟨x.1[k].toNat - 48,by omega⟩;have D0:x.1[k].toNat - 48=d:=by omega
   rw[←hdd] at hc;rw[←hr,D0] at og;rw[←hr] at hL ⊢;have hd9:d<=9:=by omega
   have hmz:¬((m:Int)=0):=by omega
   clear hsn hvm hd hr hdd D0;go_wp2;exact⟨⟨k+1,by omega,by go_num,by rw[og.out];go_num⟩,by simp[intOf];omega⟩
  ·obtain rfl:k=x.1.length:=by omega
   have ZC:=Mz.out (x.1.take x.1.length);rw[zM] at ZC ⊢;clear Mz HB;obtain⟨r,hr⟩:∃ r,r=XC x.1 m:=⟨_,rfl⟩;have HR:=z7 hr;rw[←hr] at ZC ⊢;clear hr;go_wp2_with fail;refine(Yy r _ (by omega)).mono ?_;rintro e w2 ⟨⟨g2,uO,rfl,ho⟩,xB⟩;have Yb:=Vg.below xB;have qf:Below w.heap.size w w2:=uf.trans (xB.mono uf.size);have uT:w.heap.size<w1.heap.size:=z8 w1 _ j0;have i0:=(xB.cell (p:=⟨w.heap.size,0,none⟩) uT).trans j0;have i1:=(xB.cell (p:=⟨w.heap.size,1,none⟩) uT).trans j1;have i2:=(xB.cell (p:=⟨w.heap.size,2,none⟩) uT).trans j2;have dy:=(ho.lt g2 rfl);have Rf:=z7 Vg.lt;clear xB j0 j1 j2 Vg uf;go_wp2_with (fail);have F:∃ W3,W3=w2.alloc (.cells #[.bool false,.slice (some ⟨g2,0,none⟩) (xK r).length uO,.int .i64 0] 97)/\Below w2.heap.size w2 W3/\W3.heap.size=w2.heap.size+1 /\
     W3.cell? ⟨w2.heap.size,0,none⟩=some (.bool false)/\W3.cell? ⟨w2.heap.size,1,none⟩=some (.slice (some ⟨g2,0,none⟩) (xK r).length uO)/\W3.cell? ⟨w2.heap.size,2,none⟩=some (.int .i64 0) /\
     W3.frozen? ⟨w2.heap.size,0,none⟩=false/\W3.frozen? ⟨w2.heap.size,1,none⟩=false/\W3.frozen? ⟨w2.heap.size,2,none⟩=false /\
     W3.ownsRow w1.heap.size 5 1 (.slice (some ⟨g2,0,none⟩) (xK r).length uO) (xK r).length (vy (xK r)) :=
    ⟨_,rfl,(zf _ _).alloc (zy _) _,by simp,by go_simp,by go_simp,by go_simp,by go_simp,by go_simp,by go_simp,ho.alloc _⟩
   obtain⟨W3,kJ,uP,M6,q0,q1,q2,y0,y1,y2,Sb⟩:=F;rw[←kJ];have Qh:=Yb.below uP;have qU:w.heap.size<w2.heap.size:=z8 w2 _ i0;have o0:=(uP.cell (p:=⟨w.heap.size,0,none⟩) qU).trans i0;have o1:=(uP.cell (p:=⟨w.heap.size,1,none⟩) qU).trans i1;have o2:=(uP.cell (p:=⟨w.heap.size,2,none⟩) qU).trans i2;have Z7:Below w.heap.size w W3:=qf.trans (uP.mono qf.size);have Nx:w1.heap.size<=w2.heap.size:=by omega
   clear kJ uP Yb i0 i1 i2 ho;obtain⟨B,hBq⟩:∃ B,B=w.heap.size:=⟨_,rfl⟩;obtain⟨q,hq⟩:∃ q,q=w2.heap.size:=⟨_,rfl⟩;rw[←hBq] at o0 o1 o2 Qh qU ⊢;rw[←hq] at q0 q1 q2 y0 y1 y2 qU M6 ⊢;have wG:=z7 hBq;have HQ:=z7 hq;clear hBq hq;have jh:W3.drew.cell? ⟨B,0,none⟩=some (.bool b)/\W3.drew.cell? ⟨B,1,none⟩=some (.slice (some ⟨g,go,none⟩) (x.1.length+x.2.length) cap)/\W3.drew.cell? ⟨B,2,none⟩=some (.int .i64 x.2.length):=⟨o0,o1,o2⟩;refine uo (fun W':World=>W'.cell? ⟨B,0,none⟩=some (.bool b)/\W'.cell? ⟨B,1,none⟩=some (.slice (some ⟨g,go,none⟩) (x.1.length+x.2.length) cap)/\W'.cell? ⟨B,2,none⟩=some (.int .i64 x.2.length))
    [0,2,5,6] 7 (by intro _ _ d _ _ h;cases d<;>exact h) (by kernel_rfl) (by kernel_rfl) jh ?_
   (iterate 4 ((first|refine ty ?_|refine tn ?_);try simp only[pl]))
   refine xk ?_;refine wpAnyH_ready (rs:=[1,3]) (by kernel_rfl) (by simp) (zt rfl (fun K hK=>?_) (zt rfl (fun K hK=>?_) AllReadyH.nil))
   ·go_simp;refine hK.out _ _ jh (fun _=>?_);clear hK K;refine xg 3 (by kernel_rfl) rfl (fun K hK=>?_);go_simp;refine(KD _ x _ (HH.out.below Z7.drew)).mono ?_;rintro e w4 ⟨⟨p4,zj3,rfl,Mv,B2,pM⟩,uQ⟩;have DK:B<W3.heap.size:=z8 W3 _ o0;have XY:q<W3.heap.size:=z8 W3 _ q1;have a0:=(uQ.cell (p:=⟨B,0,none⟩) DK).trans jh.1;have a1:=(uQ.cell (p:=⟨B,1,none⟩) DK).trans jh.2.1;have a2:=(uQ.cell (p:=⟨B,2,none⟩) DK).trans jh.2.2;have p1:=(uQ.cell (p:=⟨q,1,none⟩) XY).trans q1;have p0:=(uQ.cell (p:=⟨q,0,none⟩) XY).trans q0;have p2:=(uQ.cell (p:=⟨q,2,none⟩) XY).trans q2;have x0:=(uQ.frozen (p:=⟨q,0,none⟩) XY).trans y0;have x1:=(uQ.frozen (p:=⟨q,1,none⟩) XY).trans y1;have x2:=(uQ.frozen (p:=⟨q,2,none⟩) XY).trans y2;have UG:=fN (zW Sb) uQ;have Da:=(show dF W3.drew (B+1) from⟨Qh.c0,Qh.c1,Qh.c2,Qh.z0,Qh.z1,Qh.z2,Qh.lt⟩).below uQ;have j5:Below w.heap.size w w4:=Z7.drew.trans (uQ.mono Z7.size);have KE:W3.heap.size<=w4.heap.size:=uQ.size;refine hK.out _ _ ⟨a0,a1,a2⟩ (fun _=>?_);clear hK K jh o0 o1 o2 q0 q1 q2 y0 y1 y2 Sb Qh uQ;refine xg 4 (by kernel_rfl) rfl (fun K hK=>?_);rw[if_pos (by rfl)];obtain⟨i,hi,hz,h2,h3⟩:=vx.info;refine wp_append_own w4 _ _ 48 rfl w1.heap.size 5 i _ 1 1 vx.under hi hz h2 h3 vx.UF vx.pos _ _ _ rfl UG p4 x.2.length zj3 (vy x.2) rfl (by simp[vy]) (FI pM) (Ld x.2)
      (by unfold maxLen;have:=uV 9 r (by omega);omega) (by have:=uV 9 r (by omega);omega) (by have:=HQ.out;omega) ?_
    intro v5 w5 jc qt _;have rf:some B≠(zF (some ⟨g2,0,none⟩) (xK r).length uO).ownBlock:=fun e=>by simp[zg] at e;have:=wG.out;omega
    have OU:some q≠(zF (some ⟨g2,0,none⟩) (xK r).length uO).ownBlock:=fun e=>by simp[zg] at e;have:=HQ.out;omega
    have ib:some (B+1)≠(zF (some ⟨g2,0,none⟩) (xK r).length uO).ownBlock:=fun e=>by
     simp[zg] at e;have xH:=Rf.out;have:=wG.out;omega
    have js:0<(xK r).length+x.2.length:=by have:=zr.2 (jl r);omega
    obtain⟨g5,gh,rfl,yc7,yc8,_⟩:=vQ jc js;have b0:=qt.cell a0 rf;have b1:=qt.cell a1 rf;have b2:=qt.cell a2 rf;have r0:=qt.cell p0 OU;have r1:=qt.cell p1 OU;have r2:=qt.cell p2 OU;have TK:q<w4.heap.size:=z8 w4 _ p0;have f0:=(zv (a:=⟨q,0,none⟩) (qt.block q TK OU)).trans x0;have f1:=(zv (a:=⟨q,1,none⟩) (qt.block q TK OU)).trans x1;have f2:=(zv (a:=⟨q,2,none⟩) (qt.block q TK OU)).trans x2;have PJ:=Da.grown qt ib;have iZ:Below w.heap.size w w5:=j5.grown qt j5.size (fun k hk=>by have P5:g2=k:=zQ hk;have:=dy.1;omega);have yc9:B+1<q:=by have:=Rf.out;have:=wG.out;have:=HQ.out;omega
    have hBw:w.heap.size<=B:=by have:=wG.out;omega
    simp only[Act.put,zc,zh,zw];refine hK.out _ _ ⟨b0,b1,b2⟩ (fun _=>?_);clear hK K a0 a1 a2 p0 p1 p2 x0 x1 x2 Da j5 UG pM qt rf OU ib hi hz;refine xE [7] 3 rfl (by intro _ _ d _ _ h;cases d<;>exact h) (by kernel_rfl) (by kernel_rfl) ⟨b0,b1,b2⟩ ?_;(iterate 1 ((first|refine ty ?_|refine tn ?_);try simp only[pl]))
    refine xk ?_;refine xg 8 (by kernel_rfl) rfl (fun K hK=>?_);go_simp;have ycz:¬q=B:=by omega
    refine hK.out _ _ ⟨by rw[World.cell?_setCell_other (h:=by first|(simp;done)|(simp;omega))];exact b0,by rw[World.cell?_setCell_other (h:=by first|(simp;done)|(simp;omega))];exact b1,by rw[World.cell?_setCell_other (h:=by first|(simp;done)|(simp;omega))];exact b2⟩ (fun _=>?_);clear hK K;have t0:(w5.setCell ⟨q,1,none⟩ (.slice (some ⟨g5,0,none⟩) ((xK r).length+x.2.length) gh)).cell? ⟨q,0,none⟩=some (.bool false):=by rw[World.cell?_setCell_other (h:=by simp)];exact r0
    have t1:(w5.setCell ⟨q,1,none⟩ (.slice (some ⟨g5,0,none⟩) ((xK r).length+x.2.length) gh)).cell? ⟨q,1,none⟩=some (.slice (some ⟨g5,0,none⟩) ((xK r).length+x.2.length) gh):=by rw[zj (h:=r1)]
    have t2:(w5.setCell ⟨q,1,none⟩ (.slice (some ⟨g5,0,none⟩) ((xK r).length+x.2.length) gh)).cell? ⟨q,2,none⟩=some (.int .i64 0):=by rw[zx (h:=by simp)];exact r2
    have u2:(w5.setCell ⟨q,1,none⟩ (.slice (some ⟨g5,0,none⟩) ((xK r).length+x.2.length) gh)).frozen? ⟨q,2,none⟩=false:=by simpa using f2
    have c0:(w5.setCell ⟨q,1,none⟩ (.slice (some ⟨g5,0,none⟩) ((xK r).length+x.2.length) gh)).cell? ⟨B,0,none⟩=some (.bool b):=by rw[zx (h:=by first|(simp;done)|(simp;omega))];exact b0
    have c1:(w5.setCell ⟨q,1,none⟩ (.slice (some ⟨g5,0,none⟩) ((xK r).length+x.2.length) gh)).cell? ⟨B,1,none⟩=some (.slice (some ⟨g,go,none⟩) (x.1.length+x.2.length) cap):=by rw[zx (h:=by first|(simp;done)|(simp;omega))];exact b1
    have c2:(w5.setCell ⟨q,1,none⟩ (.slice (some ⟨g5,0,none⟩) ((xK r).length+x.2.length) gh)).cell? ⟨B,2,none⟩=some (.int .i64 x.2.length):=by rw[zx (h:=by first|(simp;done)|(simp;omega))];exact b2
    have Vf:=PJ.set (a:=⟨q,1,none⟩) (by show q≠B+1;omega) (.slice (some ⟨g5,0,none⟩) ((xK r).length+x.2.length) gh);have YA:=iZ.setCell (p:=⟨q,1,none⟩) (show w.heap.size<=q by omega) (.slice (some ⟨g5,0,none⟩) ((xK r).length+x.2.length) gh);have iY:g5≠q:=fun e=>by
     subst e;exact QJ jc (jl r) r0
    have QO:=xh (p:=⟨q,1,none⟩) jc (fun e=>iY (by simpa[zg,eq_comm] using e)) (.slice (some ⟨g5,0,none⟩) ((xK r).length+x.2.length) gh);clear b0 b1 b2 r0 r1 r2 f0 f1 f2 PJ iZ jc;generalize w5.setCell ⟨q,1,none⟩ (.slice (some ⟨g5,0,none⟩) ((xK r).length+x.2.length) gh)=w6 at *;refine xE [9] 1 rfl (by intro _ _ d _ _ h;cases d<;>exact h) (by kernel_rfl) (by kernel_rfl) ⟨c0,c1,c2⟩ ?_;(iterate 1 ((first|refine ty ?_|refine tn ?_);try simp only[pl]))
    refine xk ?_;refine xg 10 (by kernel_rfl) rfl (fun K hK=>?_);go_simp;refine hK.out _ _ ⟨by rw[World.cell?_setCell_other (h:=by first|(simp;done)|(simp;omega))];exact c0,by rw[World.cell?_setCell_other (h:=by first|(simp;done)|(simp;omega))];exact c1,by rw[World.cell?_setCell_other (h:=by first|(simp;done)|(simp;omega))];exact c2⟩ (fun _=>?_);clear hK K;have d0:(w6.setCell ⟨q,2,none⟩ (.int .i64 x.2.length)).cell? ⟨q,0,none⟩=some (.bool false):=by rw[World.cell?_setCell_other (h:=by simp)];exact t0
    have d1:(w6.setCell ⟨q,2,none⟩ (.int .i64 x.2.length)).cell? ⟨q,1,none⟩=some (.slice (some ⟨g5,0,none⟩) ((xK r).length+x.2.length) gh):=by rw[zx (h:=by simp)];exact t1
    have d2:(w6.setCell ⟨q,2,none⟩ (.int .i64 x.2.length)).cell? ⟨q,2,none⟩=some (.int .i64 x.2.length):=by rw[zj (h:=t2)]
    have GY:=Vf.set (a:=⟨q,2,none⟩) (by show q≠B+1;omega) (.int .i64 x.2.length);have KU:=YA.setCell (p:=⟨q,2,none⟩) (show w.heap.size<=q by omega) (.int .i64 x.2.length);have ho7:=xh (p:=⟨q,2,none⟩) QO (fun e=>iY (by simpa[zg,eq_comm] using e)) (.int .i64 x.2.length);clear t0 t1 t2 u2 c0 c1 c2 Vf YA QO;generalize w6.setCell ⟨q,2,none⟩ (.int .i64 x.2.length)=w7 at *;refine wpAnyH_done (by kernel_rfl) ?_ _;have e0:=GY.c0;have e1:=GY.c1;have e2:=GY.c2;have z0:=GY.z0;have z1:=GY.z1;have z2:=GY.z2;have sI:=z7 ho7;have HR7:=z7 GY;clear ho7 GY;go_wp2;refine bodyPost_ret (v := .agg #[.bool false,.slice (some ⟨g5,0,none⟩) ((xK r).length+x.2.length) gh,.int .i64 x.2.length]) ?_ rfl ?_
    ·simp[results,results183,go_sem,e0,e1,e2]
    rw[←HR.out];refine gF (w:=w) ?_ HR7.out (by omega) KU;have hdd:vy (xK r)++vy x.2=vy (xK r++x.2):=by simp[vy]
    have A4:=sI.out;rw[hdd] at A4;have qs:=uV 9 r (by omega);exact Qf (w:=w) (x:=(xK r,x.2)) rfl (by simp) (gW A4 (by omega)) ⟨dG r,HO.out.Tv,jl r,by show(xK r).length<=100;omega,Px⟩
   ·skip
    go_simp;refine(KD _ x _ (HH.out.below Z7.drew)).mono ?_;rintro e w4 ⟨⟨p4,zj3,rfl,Mv,B2,pM⟩,uQ⟩;have DK:B<W3.heap.size:=z8 W3 _ o0;have XY:q<W3.heap.size:=z8 W3 _ q1;have a0:=(uQ.cell (p:=⟨B,0,none⟩) DK).trans jh.1;have a1:=(uQ.cell (p:=⟨B,1,none⟩) DK).trans jh.2.1;have a2:=(uQ.cell (p:=⟨B,2,none⟩) DK).trans jh.2.2;have p1:=(uQ.cell (p:=⟨q,1,none⟩) XY).trans q1;have p0:=(uQ.cell (p:=⟨q,0,none⟩) XY).trans q0;have p2:=(uQ.cell (p:=⟨q,2,none⟩) XY).trans q2;have x0:=(uQ.frozen (p:=⟨q,0,none⟩) XY).trans y0;have x1:=(uQ.frozen (p:=⟨q,1,none⟩) XY).trans y1;have x2:=(uQ.frozen (p:=⟨q,2,none⟩) XY).trans y2;have UG:=fN (zW Sb) uQ;have Da:=(show dF W3.drew (B+1) from⟨Qh.c0,Qh.c1,Qh.c2,Qh.z0,Qh.z1,Qh.z2,Qh.lt⟩).below uQ;have j5:Below w.heap.size w w4:=Z7.drew.trans (uQ.mono Z7.size);have KE:W3.heap.size<=w4.heap.size:=uQ.size;refine hK.out _ _ ⟨a0,a1,a2⟩ (fun _=>?_);clear hK K jh o0 o1 o2 q0 q1 q2 y0 y1 y2 Sb Qh uQ;refine xg 1 (by kernel_rfl) rfl (fun K hK=>?_);go_simp;refine hK.out _ _ ⟨a0,a1,a2⟩ (fun _=>?_);clear hK K;refine xg 4 (by kernel_rfl) rfl (fun K hK=>?_);rw[if_pos (by rfl)];obtain⟨i,hi,hz,h2,h3⟩:=vx.info;refine wp_append_own w4 _ _ 48 rfl w1.heap.size 5 i _ 1 1 vx.under hi hz h2 h3 vx.UF vx.pos _ _ _ rfl UG p4 x.2.length zj3 (vy x.2) rfl (by simp[vy]) (FI pM) (Ld x.2)
      (by unfold maxLen;have:=uV 9 r (by omega);omega) (by have:=uV 9 r (by omega);omega) (by have:=HQ.out;omega) ?_
    intro v5 w5 jc qt _;have rf:some B≠(zF (some ⟨g2,0,none⟩) (xK r).length uO).ownBlock:=fun e=>by simp[zg] at e;have:=wG.out;omega
    have OU:some q≠(zF (some ⟨g2,0,none⟩) (xK r).length uO).ownBlock:=fun e=>by simp[zg] at e;have:=HQ.out;omega
    have ib:some (B+1)≠(zF (some ⟨g2,0,none⟩) (xK r).length uO).ownBlock:=fun e=>by
     simp[zg] at e;have xH:=Rf.out;have:=wG.out;omega
    have js:0<(xK r).length+x.2.length:=by have:=zr.2 (jl r);omega
    obtain⟨g5,gh,rfl,yc7,yc8,_⟩:=vQ jc js;have b0:=qt.cell a0 rf;have b1:=qt.cell a1 rf;have b2:=qt.cell a2 rf;have r0:=qt.cell p0 OU;have r1:=qt.cell p1 OU;have r2:=qt.cell p2 OU;have TK:q<w4.heap.size:=z8 w4 _ p0;have f0:=(zv (a:=⟨q,0,none⟩) (qt.block q TK OU)).trans x0;have f1:=(zv (a:=⟨q,1,none⟩) (qt.block q TK OU)).trans x1;have f2:=(zv (a:=⟨q,2,none⟩) (qt.block q TK OU)).trans x2;have PJ:=Da.grown qt ib;have iZ:Below w.heap.size w w5:=j5.grown qt j5.size (fun k hk=>by have P5:g2=k:=zQ hk;have:=dy.1;omega);have yc9:B+1<q:=by have:=Rf.out;have:=wG.out;have:=HQ.out;omega
    have hBw:w.heap.size<=B:=by have:=wG.out;omega
    simp only[Act.put,zc,zh,zw];refine hK.out _ _ ⟨b0,b1,b2⟩ (fun _=>?_);clear hK K a0 a1 a2 p0 p1 p2 x0 x1 x2 Da j5 UG pM qt rf OU ib hi hz;refine xE [7] 3 rfl (by intro _ _ d _ _ h;cases d<;>exact h) (by kernel_rfl) (by kernel_rfl) ⟨b0,b1,b2⟩ ?_;(iterate 1 ((first|refine ty ?_|refine tn ?_);try simp only[pl]))
    refine xk ?_;refine xg 8 (by kernel_rfl) rfl (fun K hK=>?_);go_simp;have ycz:¬q=B:=by omega
    refine hK.out _ _ ⟨by rw[World.cell?_setCell_other (h:=by first|(simp;done)|(simp;omega))];exact b0,by rw[World.cell?_setCell_other (h:=by first|(simp;done)|(simp;omega))];exact b1,by rw[World.cell?_setCell_other (h:=by first|(simp;done)|(simp;omega))];exact b2⟩ (fun _=>?_);clear hK K;have t0:(w5.setCell ⟨q,1,none⟩ (.slice (some ⟨g5,0,none⟩) ((xK r).length+x.2.length) gh)).cell? ⟨q,0,none⟩=some (.bool false):=by rw[World.cell?_setCell_other (h:=by simp)];exact r0
    have t1:(w5.setCell ⟨q,1,none⟩ (.slice (some ⟨g5,0,none⟩) ((xK r).length+x.2.length) gh)).cell? ⟨q,1,none⟩=some (.slice (some ⟨g5,0,none⟩) ((xK r).length+x.2.length) gh):=by rw[zj (h:=r1)]
    have t2:(w5.setCell ⟨q,1,none⟩ (.slice (some ⟨g5,0,none⟩) ((xK r).length+x.2.length) gh)).cell? ⟨q,2,none⟩=some (.int .i64 0):=by rw[zx (h:=by simp)];exact r2
    have u2:(w5.setCell ⟨q,1,none⟩ (.slice (some ⟨g5,0,none⟩) ((xK r).length+x.2.length) gh)).frozen? ⟨q,2,none⟩=false:=by simpa using f2
    have c0:(w5.setCell ⟨q,1,none⟩ (.slice (some ⟨g5,0,none⟩) ((xK r).length+x.2.length) gh)).cell? ⟨B,0,none⟩=some (.bool b):=by rw[zx (h:=by first|(simp;done)|(simp;omega))];exact b0
    have c1:(w5.setCell ⟨q,1,none⟩ (.slice (some ⟨g5,0,none⟩) ((xK r).length+x.2.length) gh)).cell? ⟨B,1,none⟩=some (.slice (some ⟨g,go,none⟩) (x.1.length+x.2.length) cap):=by rw[zx (h:=by first|(simp;done)|(simp;omega))];exact b1
    have c2:(w5.setCell ⟨q,1,none⟩ (.slice (some ⟨g5,0,none⟩) ((xK r).length+x.2.length) gh)).cell? ⟨B,2,none⟩=some (.int .i64 x.2.length):=by rw[zx (h:=by first|(simp;done)|(simp;omega))];exact b2
    have Vf:=PJ.set (a:=⟨q,1,none⟩) (by show q≠B+1;omega) (.slice (some ⟨g5,0,none⟩) ((xK r).length+x.2.length) gh);have YA:=iZ.setCell (p:=⟨q,1,none⟩) (show w.heap.size<=q by omega) (.slice (some ⟨g5,0,none⟩) ((xK r).length+x.2.length) gh);have iY:g5≠q:=fun e=>by
     subst e;exact QJ jc (jl r) r0
    have QO:=xh (p:=⟨q,1,none⟩) jc (fun e=>iY (by simpa[zg,eq_comm] using e)) (.slice (some ⟨g5,0,none⟩) ((xK r).length+x.2.length) gh);clear b0 b1 b2 r0 r1 r2 f0 f1 f2 PJ iZ jc;generalize w5.setCell ⟨q,1,none⟩ (.slice (some ⟨g5,0,none⟩) ((xK r).length+x.2.length) gh)=w6 at *;refine xE [9] 1 rfl (by intro _ _ d _ _ h;cases d<;>exact h) (by kernel_rfl) (by kernel_rfl) ⟨c0,c1,c2⟩ ?_;(iterate 1 ((first|refine ty ?_|refine tn ?_);try simp only[pl]))
    refine xk ?_;refine xg 10 (by kernel_rfl) rfl (fun K hK=>?_);go_simp;refine hK.out _ _ ⟨by rw[World.cell?_setCell_other (h:=by first|(simp;done)|(simp;omega))];exact c0,by rw[World.cell?_setCell_other (h:=by first|(simp;done)|(simp;omega))];exact c1,by rw[World.cell?_setCell_other (h:=by first|(simp;done)|(simp;omega))];exact c2⟩ (fun _=>?_);clear hK K;have d0:(w6.setCell ⟨q,2,none⟩ (.int .i64 x.2.length)).cell? ⟨q,0,none⟩=some (.bool false):=by rw[World.cell?_setCell_other (h:=by simp)];exact t0
    have d1:(w6.setCell ⟨q,2,none⟩ (.int .i64 x.2.length)).cell? ⟨q,1,none⟩=some (.slice (some ⟨g5,0,none⟩) ((xK r).length+x.2.length) gh):=by rw[zx (h:=by simp)];exact t1
    have d2:(w6.setCell ⟨q,2,none⟩ (.int .i64 x.2.length)).cell? ⟨q,2,none⟩=some (.int .i64 x.2.length):=by rw[zj (h:=t2)]
    have GY:=Vf.set (a:=⟨q,2,none⟩) (by show q≠B+1;omega) (.int .i64 x.2.length);have KU:=YA.setCell (p:=⟨q,2,none⟩) (show w.heap.size<=q by omega) (.int .i64 x.2.length);have ho7:=xh (p:=⟨q,2,none⟩) QO (fun e=>iY (by simpa[zg,eq_comm] using e)) (.int .i64 x.2.length);clear t0 t1 t2 u2 c0 c1 c2 Vf YA QO;generalize w6.setCell ⟨q,2,none⟩ (.int .i64 x.2.length)=w7 at *;refine wpAnyH_done (by kernel_rfl) ?_ _;have e0:=GY.c0;have e1:=GY.c1;have e2:=GY.c2;have z0:=GY.z0;have z1:=GY.z1;have z2:=GY.z2;have sI:=z7 ho7;have HR7:=z7 GY;clear ho7 GY;go_wp2;refine bodyPost_ret (v := .agg #[.bool false,.slice (some ⟨g5,0,none⟩) ((xK r).length+x.2.length) gh,.int .i64 x.2.length]) ?_ rfl ?_
    ·simp[results,results183,go_sem,e0,e1,e2]
    rw[←HR.out];refine gF (w:=w) ?_ HR7.out (by omega) KU;have hdd:vy (xK r)++vy x.2=vy (xK r++x.2):=by simp[vy]
    have A4:=sI.out;rw[hdd] at A4;have qs:=uV 9 r (by omega);exact Qf (w:=w) (x:=(xK r,x.2)) rfl (by simp) (gW A4 (by omega)) ⟨dG r,HO.out.Tv,jl r,by show(xK r).length<=100;omega,Px⟩
def kK(lo hi:Nat)(w:World)(v:Value)(T:qe):Prop :=
 ∃ k cap,v = .func (.func k) #[] cap/\(∀ args w,(callFunc k args).run Tryz.prog w = .ok (.enter k args) w) /\
  ∀ W,vK lo hi w W->∀ nv x,uh W nv x->Calls Tryz.prog k (#[nv]++cap) W fun e W'=>e = .returned (.bool (T x))/\Below W.heap.size W W'
def TS(lo hi:Nat)(w:World)(v:Value)(F:Dg->Dg):Prop :=
 ∃ k cap,v = .func (.func k) #[] cap/\(∀ args w,(callFunc k args).run Tryz.prog w = .ok (.enter k args) w) /\
  ∀ W,vK lo hi w W->∀ nv x,uh W nv x->Calls Tryz.prog k (#[nv]++cap) W (kZ (F x) W)
theorem kK.keep{lo hi lo' hi':Nat}{w w':World}{v:Value}{T:qe}(h:kK lo hi w v T)(hk:vK lo hi w w')(h1:lo'<=lo)(h2:hi<=hi'):kK lo' hi' w' v T:=by
 obtain⟨k,cap,hv,he,hc⟩:=h;exact⟨k,cap,hv,he,fun W hW=>hc W (hW.via hk h1 h2)⟩
theorem TS.keep{lo hi lo' hi':Nat}{w w':World}{v:Value}{F:Dg->Dg}(h:TS lo hi w v F)(hk:vK lo hi w w')(h1:lo'<=lo)(h2:hi<=hi'):TS lo' hi' w' v F:=by
 obtain⟨k,cap,hv,he,hc⟩:=h;exact⟨k,cap,hv,he,fun W hW=>hc W (hW.via hk h1 h2)⟩
theorem TT(v:Value)(x:Dg)(a b:Nat)(br:Bool)(pa pb pc:Nat)(w:World)(h:uh w v x)(ha:a<=1000000000)(hb:b<=1000000000)(ca:w.cell? ⟨pa,0,none⟩=some (.int .i64 a))(cb:w.cell? ⟨pb,0,none⟩=some (.int .i64 b))(cc:w.cell? ⟨pc,0,none⟩=some (.bool br)) :
  Calls Tryz.prog 247 #[v,.pointer (some ⟨pa,0,none⟩),.pointer (some ⟨pb,0,none⟩),.pointer (some ⟨pc,0,none⟩)] w fun e w'=>e = .returned (.bool (gQ a b br x))/\Below w.heap.size w w':=by
 have hC:=fun W m (hW:uh W v x) (hm:m<=1000000000)=>Ks v x m W hW hm
 have hK:=fun W (hW:uh W v x)=>Fx v x W hW
 obtain⟨r,hr⟩:∃ r,gQ a b br x=r:=⟨_,rfl⟩;rw[hr];unfold gQ at hr;obtain⟨c1,qD⟩:∃ c,Q7 x a=c:=⟨_,rfl⟩;obtain⟨c2,jJ⟩:∃ c,Q7 x b=c:=⟨_,rfl⟩;obtain⟨k,hk⟩:∃ k,SD x.2=k:=⟨_,rfl⟩;have h1:=fun W (hW:uh W v x)=>hC W a hW ha
 have h2:=fun W (hW:uh W v x)=>hC W b hW hb
 rw[qD,jJ,hk] at hr;simp only[qD] at h1;simp only[jJ] at h2;simp only[hk] at hK;have H1:=z7 h1;have H2:=z7 h2;have HK:=z7 hK;have HH:=z7 h;have HR:=z7 hr;obtain⟨b',g,go,cap,rfl,_,_,_,_,_⟩:=h;clear hC hK h1 h2 hr qD jJ hk;have F:∃ W,W=w.alloc (.cells #[.bool b',.slice (some ⟨g,go,none⟩) (x.1.length+x.2.length) cap,.int .i64 x.2.length] 97)/\Below w.heap.size w W/\W.heap.size=w.heap.size+1/\W.cell? ⟨w.heap.size,0,none⟩=some (.bool b')/\W.cell? ⟨w.heap.size,1,none⟩=some (.slice (some ⟨g,go,none⟩) (x.1.length+x.2.length) cap)/\W.cell? ⟨w.heap.size,2,none⟩=some (.int .i64 x.2.length) /\
   W.cell? ⟨pa,0,none⟩=some (.int .i64 a)/\W.cell? ⟨pb,0,none⟩=some (.int .i64 b)/\W.cell? ⟨pc,0,none⟩=some (.bool br) :=
  ⟨_,rfl,(zf _ _).alloc (zy _) _,by simp,by go_simp,by go_simp,by go_simp,by rw[zU _ _ _ (by rw[ca];rfl)];exact ca,by rw[zU _ _ _ (by rw[cb];rfl)];exact cb,by rw[zU _ _ _ (by rw[cc];rfl)];exact cc⟩
 obtain⟨W,hW,gP,hs,d0,d1,d2,da,db,dc⟩:=F;have Pt:=z7 (HH.out.below gP);rw[hW] at da db dc;go_enter func247,ntmps247;go_wp2_with fail;rw[←hW] at da db dc ⊢;clear hW ca cb cc;refine(H1.out _ Pt.out).mono ?_;rintro e w1 ⟨rfl,xH⟩;have xC:w.heap.size<W.heap.size:=by omega
 have e0:=(xH.cell (p:=⟨w.heap.size,0,none⟩) xC).trans d0;have e1:=(xH.cell (p:=⟨w.heap.size,1,none⟩) xC).trans d1;have e2:=(xH.cell (p:=⟨w.heap.size,2,none⟩) xC).trans d2;have eb:=(xH.cell (p:=⟨pb,0,none⟩) (z8 W _ db)).trans db;have ec:=(xH.cell (p:=⟨pc,0,none⟩) (z8 W _ dc)).trans dc;have JG:Below w.heap.size w w1:=gP.trans (xH.mono (by omega));have HN1:=z7 (Pt.out.below xH);have oL:w.heap.size<w1.heap.size:=z8 w1 _ e0;clear d0 d1 d2 da db dc xH;by_cases g1:0<=c1
 ·have g1':decide (0<=c1)=true:=decide_eq_true g1;have hr:=HR.out;rw[g1',zl] at hr;have dY:=z7 hr;clear hr;go_wp2_with fail;refine(H2.out _ HN1.out).mono ?_;rintro e w2 ⟨rfl,xB⟩;have f0:=(xB.cell (p:=⟨w.heap.size,0,none⟩) oL).trans e0;have f1:=(xB.cell (p:=⟨w.heap.size,1,none⟩) oL).trans e1;have f2:=(xB.cell (p:=⟨w.heap.size,2,none⟩) oL).trans e2;have fc:=(xB.cell (p:=⟨pc,0,none⟩) (z8 w1 _ ec)).trans ec;have Zd:Below w.heap.size w w2:=JG.trans (xB.mono (by omega));have lr:=z7 (HN1.out.below xB);clear e0 e1 e2 eb ec xB;by_cases g2:c2<=0
  ·have nR:decide (c2<=0)=true:=decide_eq_true g2;have hr:=dY.out;rw[nR,zl] at hr;have Lh:=z7 hr;clear hr
   cases br
   ·go_wp2_with fail;refine(HK.out _ lr.out).mono ?_;rintro e w3 ⟨rfl,uP⟩;have ycv:Below w.heap.size w w3:=Zd.trans (uP.mono Zd.size);go_wp2;go_ret;exact⟨by rw[←Lh.out];rfl,ycv⟩
   ·go_wp2;go_ret;exact⟨by rw[←Lh.out];rfl,Zd⟩
  ·have nR:decide (c2<=0)=false:=decide_eq_false g2;have hr:=dY.out;rw[nR,ze] at hr;have Lh:=z7 hr;clear hr;go_wp2;go_ret;exact⟨by rw[←Lh.out];rfl,Zd⟩
 ·have g1':decide (0<=c1)=false:=decide_eq_false g1;have hr:=HR.out;rw[g1',ze] at hr;have dY:=z7 hr;clear hr;go_wp2;go_ret;exact⟨by rw[←dY.out];rfl,JG⟩
theorem QG(a b:Nat)(br:Bool)(w:World)(ha:a<=1000000000)(hb:b<=1000000000) :
  Calls Tryz.prog 221 #[.int .i64 a,.int .i64 b,.bool br] w fun e w'=>(∃ v,e = .returned v/\kK w.heap.size w'.heap.size w' v (gQ a b br))/\Below w.heap.size w w':=by
 have RS:∀ (fn:Fn) (first cap:Array Value) (w:World),(zH fn first cap).run Tryz.prog w = .ok (.func fn first cap) w:=fun _ _ _ _=>rfl
 go_enter func221,ntmps221;go_wp2;go_ret;have hs:(((w.alloc (.cells #[.int .i64 a] 3)).alloc (.cells #[.int .i64 b] 3)).alloc (.cells #[.bool br] 4)).heap.size=w.heap.size+3:=by simp
 refine⟨⟨_,rfl,247,_,rfl,fun args w=>enters_of func247 (by kernel_rfl) rfl args w,fun W hW nv x hx=>?_⟩,(((zf _ _).alloc (zy _) _).alloc (by simp) _).alloc (by simp;omega) _⟩;refine TT nv x a b br _ _ _ W hx ha hb ((hW.cell (zy _) ?_).trans ?_) ((hW.cell ?_ ?_).trans ?_) ((hW.cell ?_ ?_).trans ?_);all_goals first|(show w.heap.size<=w.heap.size+1;omega)|(show w.heap.size<=w.heap.size+1+1;omega)|(rw[hs];simp;done)|(rw[hs];simp;omega)|(show w.heap.size<=_;simp;done)|(show w.heap.size<=_;omega)|(go_simp;done)
theorem OQ(v:Value)(q:Nat)(w:World)(nv:Value)(x:Dg)(T:qe)(lo hi:Nat)(h:kK lo hi w v T)(YI:hi<=w.heap.size)(hn:uh w nv x)(cs:Array Value)(dT:nv = .agg cs)
  (hc:∀ j u,cs[j]? = some u->w.cell? ⟨q,j,none⟩=some u) :
  Calls Tryz.prog 178 #[v,.pointer (some ⟨q,0,none⟩)] w fun e w'=>e = .returned (.bool (T x))/\Below w.heap.size w w':=by
 have HN:=z7 hn;obtain⟨b,g,go,cap,n,k,rfl⟩:=hn.form
 cases dT;have c0:=hc 0 _ rfl;have c1:=hc 1 _ rfl;have c2:=hc 2 _ rfl;obtain⟨K,cp,rfl,C5,vE⟩:=h;have hW:=vE w (vg YI) _ x HN.out;have HW:=z7 hW;clear vE hW hc;go_enter func178,ntmps178;go_wp2_with fail;refine HW.out.mono ?_;rintro e w1 ⟨rfl,hb⟩;go_wp2;go_ret;exact⟨rfl,hb⟩
def OK(w:World)(a:Option Addr)(vs:List Value):Prop:=∀ j (h:j<vs.length),∃ b,a=some b/\w.cell? (b.add j)=some vs[j]
theorem OK.below{w w':World}{a:Option Addr}{vs:List Value}(h:OK w a vs)(hb:Below w.heap.size w w'):OK w' a vs:=fun j hj=>by
 obtain⟨b,h1,h2⟩:=h j hj;exact⟨b,h1,by rw[hb.cell (z8 w _ h2)];exact h2⟩
def Zy(lo hi:Nat)(w:World)(a:Option Addr)(Ts:List qe):Prop :=
 ∀ j (h:j<Ts.length),∃ b v,a=some b/\w.cell? (b.add j)=some v/\lo<=b.block/\b.block<hi/\kK lo hi w v Ts[j]
theorem Zy.keep{lo hi lo' hi':Nat}{w w':World}{a:Option Addr}{Ts:List qe}(h:Zy lo hi w a Ts)(hk:vK lo hi w w')(h1:lo'<=lo)(h2:hi<=hi'):Zy lo' hi' w' a Ts:=fun j hj=>by
 obtain⟨b,v,e1,e2,e3,e4,e5⟩:=h j hj;exact⟨b,v,e1,by rw[hk.cell (p:=b.add j) (by rw[addr_add];exact e3) (by rw[addr_add];exact e4)];exact e2,by omega,by omega,e5.keep hk h1 h2⟩
structure Ef(w:World)(q:Nat)(nv:Value):Prop where
 lt:q<w.heap.size
 cells:∃ b s k,nv = .agg #[b,s,k]/\w.cell? ⟨q,0,none⟩=some b/\w.cell? ⟨q,1,none⟩=some s/\w.cell? ⟨q,2,none⟩=some k
theorem Ef.below{w w':World}{q:Nat}{nv:Value}(h:Ef w q nv)(hb:Below w.heap.size w w'):Ef w' q nv:=by
 obtain⟨hl,b,s,k,h1,h2,h3,h4⟩:=h;exact⟨zO hl hb.size,b,s,k,h1,(hb.cell hl).trans h2,(hb.cell hl).trans h3,(hb.cell hl).trans h4⟩
theorem OJ(v:Value)(q:Nat)(w:World)(nv:Value)(x:Dg)(T:qe)(lo hi:Nat)(h:kK lo hi w v T)(YI:hi<=w.heap.size)(hn:uh w nv x)(hb:Ef w q nv) :
  Calls Tryz.prog 178 #[v,.pointer (some ⟨q,0,none⟩)] w fun e w'=>e = .returned (.bool (T x))/\Below w.heap.size w w':=by
 obtain⟨_,b,s,k,h1,h2,h3,h4⟩:=hb;refine OQ v q w nv x T lo hi h YI hn #[b,s,k] h1 (fun j u hu=>?_);match j,hu with
 | 0,hu=>cases hu;exact h2
 | 1,hu=>cases hu;exact h3
 | 2,hu=>cases hu;exact h4
 | n+3,hu=>simp at hu
theorem rZ{Ts:List qe}{x:Dg}{k:Nat}(h:k<Ts.length)(hT:Ts[k] x=true):bp Ts x=true:=yz.2 ⟨Ts[k],zN h,hT⟩
theorem TW{Ts:List qe}{x:Dg}{k:Nat}(h:k<Ts.length)(h0:bp (Ts.take k) x=false)(hT:Ts[k] x=false):bp (Ts.take (k+1)) x=false:=by
 unfold bp at *;rw[zY h,yx,h0];simp[hT]
theorem OG(Ts:List qe)(a:Option Addr)(c:Nat)(q:Nat)(nv:Value)(x:Dg)(lo hi:Nat)(w:World)(hl:Ts.length<=1000000)(ht:Zy lo hi w a Ts)(YI:hi<=w.heap.size)(hn:uh w nv x)(hb:Ef w q nv) :
  Calls Tryz.prog 211 #[.slice a Ts.length c,.func (.func 178) #[] #[.pointer (some ⟨q,0,none⟩)]] w
   fun e w'=>(∃ n:Int,e = .returned (.int .i64 n)/\decide (0<=n)=bp Ts x)/\Below w.heap.size w w':=by
 have HT:=z7 ht;have HN:=z7 hn;have HB:=z7 hb;clear ht hn hb;go_enter func211,ntmps211;go_wp2;go_loopw [8] (fun i wr=>∃ k:Nat,k<=Ts.length/\i = .int .i64 k/\bp (Ts.take k) x=false/\Below w.heap.size w wr) (fun i _=>Ts.length - (intOf i).toNat)
 case atStart=>exact⟨0,zE _,rfl,rfl,zf _ _⟩
 case round =>
  obtain⟨k,hk,rfl,hz,qI⟩:=hrel;have HZ:=z7 hz;clear hz;by_cases xC:k<Ts.length
  ·obtain⟨b,v,rfl,hc,h1,h2,hT⟩:=HT.out k xC;have pI:wr.cell? (b.add k)=some v:=by rw[qI.cell (z8 w _ hc)];exact hc
   have hkp:=vB (lo:=lo) qI YI YI;have vE:=OJ v q wr nv x Ts[k] lo hi (hT.keep hkp (zy _) (zy _)) (zk YI qI.size) (HN.out.below qI) (HB.out.below qI);have HC:=z7 vE;clear hc vE hT;go_wp2_with fail;refine HC.out.mono ?_;rintro e w1 ⟨rfl,xH⟩;have Zj:=qI.trans (xH.mono qI.size)
   cases Rb:Ts[k] x
   ·have HF:=z7 (TW xC HZ.out Rb);clear Rb;go_wp2;go_roundw
    case rel=>exact⟨k+1,by omega,by go_num,HF.out,Zj⟩
    case measure=>simp[intOf];omega
   ·have HF:=z7 (rZ xC Rb);clear Rb;go_wp2;go_ret;exact⟨⟨_,rfl,by rw[HF.out];simp⟩,Zj⟩
  ·obtain rfl:k=Ts.length:=by omega
   have hz:=HZ.out;rw[zM] at hz;have HF:=z7 hz;clear hz HZ;go_wp2;go_ret;exact⟨⟨_,rfl,by rw[HF.out];rfl⟩,qI⟩
theorem DR(Ts:List qe)(a:Option Addr)(c:Nat)(q:Nat)(nv:Value)(x:Dg)(lo hi:Nat)(w:World)(hl:Ts.length<=1000000)(ht:Zy lo hi w a Ts)(YI:hi<=w.heap.size)(hn:uh w nv x)(hb:Ef w q nv) :
  Calls Tryz.prog 177 #[.slice a Ts.length c,.func (.func 178) #[] #[.pointer (some ⟨q,0,none⟩)]] w
   fun e w'=>e = .returned (.bool (bp Ts x))/\Below w.heap.size w w':=by
 have hI:=OG Ts a c q nv x lo hi w hl ht YI hn hb;have HI:=z7 hI;clear ht hn hb hI;go_enter func177,ntmps177;go_wp2_with fail;refine HI.out.mono ?_;rintro e w1 ⟨⟨n,rfl,hn⟩,hb⟩;have HF:=z7 hn;clear hn;go_wp2;go_ret;exact⟨by rw[←HF.out];rfl,hb⟩
theorem TA(Ts:List qe)(a:Option Addr)(c:Nat)(pl:Nat)(nv:Value)(x:Dg)(lo hi:Nat)(w:World)(hl:Ts.length<=1000000)(ht:Zy lo hi w a Ts)(YI:hi<=w.heap.size)(hn:uh w nv x)(hc:w.cell? ⟨pl,0,none⟩=some (.slice a Ts.length c)) :
  Calls Tryz.prog 176 #[nv,.pointer (some ⟨pl,0,none⟩)] w fun e w'=>e = .returned (.bool (bp Ts x))/\Below w.heap.size w w':=by
 have RS:∀ (fn:Fn) (first cap:Array Value) (w:World),(zH fn first cap).run Tryz.prog w = .ok (.func fn first cap) w:=fun _ _ _ _=>rfl
 have HN:=z7 hn;obtain⟨b',g,go,cap,n',k',rfl⟩:=hn.form;have F:∃ W,W=w.alloc (.cells #[.bool b',.slice (some ⟨g,go,none⟩) n' cap,.int .i64 k'] 97)/\Below w.heap.size w W/\W.heap.size=w.heap.size+1/\Ef W w.heap.size (.agg #[.bool b',.slice (some ⟨g,go,none⟩) n' cap,.int .i64 k'])/\(w.alloc (.cells #[.bool b',.slice (some ⟨g,go,none⟩) n' cap,.int .i64 k'] 97)).cell? ⟨pl,0,none⟩=some (.slice a Ts.length c) :=
  ⟨_,rfl,(zf _ _).alloc (zy _) _,by simp,⟨by simp,_,_,_,rfl,by go_simp,by go_simp,by go_simp⟩,by rw[zU _ _ _ (by rw[hc];rfl)];exact hc⟩
 obtain⟨W,hW,gP,hs,ig,dc⟩:=F;have hC:=DR Ts a c w.heap.size _ x lo hi W hl (ht.keep (vB gP YI YI) (zy _) (zy _)) (by omega) (HN.out.below gP) ig;have HC:=z7 hC;clear hC ht hn ig;go_enter func176,ntmps176;go_wp2_with fail;rw[←hW];refine HC.out.mono ?_;rintro e w1 ⟨rfl,hb⟩;have Zj:Below w.heap.size w w1:=gP.trans (hb.mono (by omega));go_wp2;go_ret;exact⟨rfl,Zj⟩
theorem Lb(Ts:List qe)(a:Option Addr)(c:Nat)(lo:Nat)(w:World)(hl:Ts.length<=1000000)(ED:lo<=w.heap.size)(ht:Zy lo w.heap.size w a Ts) :
  Calls Tryz.prog 142 #[.slice a Ts.length c] w fun e w'=>(∃ v,e = .returned v/\kK lo w'.heap.size w' v (bp Ts))/\Below w.heap.size w w':=by
 have RS:∀ (fn:Fn) (first cap:Array Value) (w:World),(zH fn first cap).run Tryz.prog w = .ok (.func fn first cap) w:=fun _ _ _ _=>rfl
 have HT:=z7 ht;clear ht;go_enter func142,ntmps142;go_wp2;go_ret;have hb:Below w.heap.size w (w.alloc (.cells #[.slice a Ts.length c] 305)):=(zf _ _).alloc (zy _) _;refine⟨⟨_,rfl,176,_,rfl,fun args w=>enters_of func176 (by kernel_rfl) rfl args w,fun W hW nv x hx=>?_⟩,hb⟩;have hk:vK lo w.heap.size w W:=hW.via (vB hb (zy _) (zy _)) (zy _) hb.size;refine TA Ts a c _ nv x lo w.heap.size W hl (HT.out.keep hk (zy _) (zy _)) hk.1 hx ((hW.cell ED (by simp)).trans (by go_simp))
theorem rY{Ts:List qe}{x:Dg}{k:Nat}(h:k<Ts.length)(hT:Ts[k] x=false):allT Ts x=false:=by
 unfold allT;rw[List.all_eq_false];exact⟨Ts[k],zN h,by simp[hT]⟩
theorem Ta{Ts:List qe}{x:Dg}{k:Nat}(h:k<Ts.length)(h0:allT (Ts.take k) x=true)(hT:Ts[k] x=true):allT (Ts.take (k+1)) x=true:=by
 unfold allT at *;rw[zY h,List.all_append,h0];simp[hT]
theorem iX(Ts:List qe)(a:Option Addr)(c:Nat)(pl:Nat)(nv:Value)(x:Dg)(lo hi:Nat)(w:World)(hl:Ts.length<=1000000)(ht:Zy lo hi w a Ts)(YI:hi<=w.heap.size)(hn:uh w nv x)(hc:w.cell? ⟨pl,0,none⟩=some (.slice a Ts.length c)) :
  Calls Tryz.prog 179 #[nv,.pointer (some ⟨pl,0,none⟩)] w fun e w'=>e = .returned (.bool (allT Ts x))/\Below w.heap.size w w':=by
 have HN:=z7 hn;obtain⟨b',g,go,cap,n',k',rfl⟩:=hn.form;have F:∃ W,W=w.alloc (.cells #[.bool b',.slice (some ⟨g,go,none⟩) n' cap,.int .i64 k'] 97)/\Below w.heap.size w W/\W.heap.size=w.heap.size+1/\Ef W w.heap.size (.agg #[.bool b',.slice (some ⟨g,go,none⟩) n' cap,.int .i64 k'])/\(w.alloc (.cells #[.bool b',.slice (some ⟨g,go,none⟩) n' cap,.int .i64 k'] 97)).cell? ⟨pl,0,none⟩=some (.slice a Ts.length c) :=
  ⟨_,rfl,(zf _ _).alloc (zy _) _,by simp,⟨by simp,_,_,_,rfl,by go_simp,by go_simp,by go_simp⟩,by rw[zU _ _ _ (by rw[hc];rfl)];exact hc⟩
 obtain⟨W,hW,gP,hs,ig,dc⟩:=F;have HT:=z7 (ht.keep (vB gP YI YI) (zy _) (zy _));have Pt:=z7 (HN.out.below gP);have LZ:hi<=W.heap.size:=by omega
 clear ht hn;go_enter func179,ntmps179;go_wp2_with fail;rw[←hW];clear hW dc hc;obtain⟨B,hB⟩:∃ B,B=w.heap.size:=⟨_,rfl⟩;rw[←hB] at ig ⊢;have NV:=z7 hB;clear hB;go_loopw [8] (fun i wr=>∃ k:Nat,k<=Ts.length/\i = .int .i64 k/\allT (Ts.take k) x=true/\Below W.heap.size W wr) (fun i _=>Ts.length - (intOf i).toNat)
 case atStart=>exact⟨0,zE _,rfl,rfl,zf _ _⟩
 case round =>
  obtain⟨k,hk,rfl,hz,qI⟩:=hrel;have HZ:=z7 hz;clear hz;have OD:Below w.heap.size w wr:=gP.trans (qI.mono (by omega));by_cases xC:k<Ts.length
  ·obtain⟨b,v,rfl,hc,h1,h2,hT⟩:=HT.out k xC;have pI:wr.cell? (b.add k)=some v:=by rw[qI.cell (z8 W _ hc)];exact hc
   have hkp:=vB (lo:=lo) qI LZ LZ;obtain⟨K,cp,rfl,C5,vE⟩:=hT.keep hkp (zy _) (zy _);have ZG:=vE wr (vg (zk LZ qI.size)) _ x (Pt.out.below qI);have HC:=z7 ZG;obtain⟨_,bb,ss,kk,e0,c0,c1,c2⟩:=ig.below qI
   cases e0;clear hc vE ZG hT;go_wp2_with fail;refine HC.out.mono ?_;rintro e w1 ⟨rfl,xH⟩;have Zj:=qI.trans (xH.mono qI.size);have JG:Below w.heap.size w w1:=OD.trans (xH.mono OD.size)
   cases Rb:Ts[k] x
   ·have HF:=z7 (rY xC Rb);clear Rb;go_wp2;go_ret;exact⟨by rw[HF.out];rfl,JG⟩
   ·have HF:=z7 (Ta xC HZ.out Rb);clear Rb;go_wp2;go_roundw
    case rel=>exact⟨k+1,by omega,by go_num,HF.out,Zj⟩
    case measure=>simp[intOf];omega
  ·obtain rfl:k=Ts.length:=by omega
   have hz:=HZ.out;rw[zM] at hz;have HF:=z7 hz;clear hz HZ;go_wp2;go_ret;exact⟨by rw[HF.out];rfl,OD⟩
theorem rX(Ts:List qe)(a:Option Addr)(c:Nat)(lo:Nat)(w:World)(hl:Ts.length<=1000000)(ED:lo<=w.heap.size)(ht:Zy lo w.heap.size w a Ts) :
  Calls Tryz.prog 144 #[.slice a Ts.length c] w fun e w'=>(∃ v,e = .returned v/\kK lo w'.heap.size w' v (allT Ts))/\Below w.heap.size w w':=by
 have RS:∀ (fn:Fn) (first cap:Array Value) (w:World),(zH fn first cap).run Tryz.prog w = .ok (.func fn first cap) w:=fun _ _ _ _=>rfl
 have HT:=z7 ht;clear ht;go_enter func144,ntmps144;go_wp2;go_ret;have hb:Below w.heap.size w (w.alloc (.cells #[.slice a Ts.length c] 305)):=(zf _ _).alloc (zy _) _;refine⟨⟨_,rfl,179,_,rfl,fun args w=>enters_of func179 (by kernel_rfl) rfl args w,fun W hW nv x hx=>?_⟩,hb⟩;have hk:vK lo w.heap.size w W:=hW.via (vB hb (zy _) (zy _)) (zy _) hb.size;refine iX Ts a c _ nv x lo w.heap.size W hl (HT.out.keep hk (zy _) (zy _)) hk.1 hx ((hW.cell ED (by simp)).trans (by go_simp))
theorem bE{k:Nat}{F:Dg->Dg}(he:∀ args w,(callFunc k args).run Tryz.prog w = .ok (.enter k args) w)(h:∀ v x w,uh w v x->Calls Tryz.prog k #[v] w (kZ (F x) w))(lo hi:Nat)(w:World):TS lo hi w (.func (.func k) #[] #[]) F :=
 ⟨k,#[],rfl,he,fun W _ nv x hx=>h nv x W hx⟩
def iV(r:Option (Dg->Dg))(w:World)(e:Ending)(w':World):Prop :=
 (match r with|none=>e = .returned .nilFunc|some F=>∃ v,e = .returned v/\∀ lo hi W,TS lo hi W v F)/\w=w'
theorem Ed(c:ByteArray)(w:World):Calls Tryz.prog 180 #[.string c] w (iV (uD c.data.toList) w):=by
 have ht:=SF c;by_cases h1:c.data.toList=[110]
 ·have hf:uD c.data.toList=some (fun x=>x):=by unfold uD;rw[if_pos h1]
  rw[hf];have q1:(c.toList==[110])=true:=by rw[ht,h1];decide
  clear ht h1 hf;go_enter func180,ntmps180;go_wp2;go_ret;exact⟨⟨_,rfl,bE (fun args w=>enters_of func212 (by kernel_rfl) rfl args w) (fun v x w h=>pC v x w h)⟩,rfl⟩
 have q1:(c.toList==[110])=false:=by rw[ht];simpa using h1
 by_cases h2:c.data.toList=[105]
 ·have hf:uD c.data.toList=some (fun x=>(jL x.1,[])):=by unfold uD;rw[if_neg h1,if_pos h2]
  rw[hf];have q2:(c.toList==[105])=true:=by rw[ht,h2];decide
  clear ht h1 h2 hf;go_enter func180,ntmps180;go_wp2;go_ret;exact⟨⟨_,rfl,bE (fun args w=>enters_of func213 (by kernel_rfl) rfl args w) (fun v x w h=>yb3 v x w h)⟩,rfl⟩
 have q2:(c.toList==[105])=false:=by rw[ht];simpa using h2
 by_cases h3:c.data.toList=[118]
 ·have hf:uD c.data.toList=some (fun x=>(xK x.2.length,[])):=by unfold uD;rw[if_neg h1,if_neg h2,if_pos h3]
  rw[hf];have q3:(c.toList==[118])=true:=by rw[ht,h3];decide
  clear ht h1 h2 h3 hf;go_enter func180,ntmps180;go_wp2;go_ret;exact⟨⟨_,rfl,bE (fun args w=>enters_of func215 (by kernel_rfl) rfl args w) (fun v x w h=>yb2 v x w h)⟩,rfl⟩
 have q3:(c.toList==[118])=false:=by rw[ht];simpa using h3
 by_cases h4:c.data.toList=[119]
 ·have hf:uD c.data.toList=some (fun x=>(xK (uH x.2).length,[])):=by unfold uD;rw[if_neg h1,if_neg h2,if_neg h3,if_pos h4]
  rw[hf];have q4:(c.toList==[119])=true:=by rw[ht,h4];decide
  clear ht h1 h2 h3 h4 hf;go_enter func180,ntmps180;go_wp2;go_ret;exact⟨⟨_,rfl,bE (fun args w=>enters_of func216 (by kernel_rfl) rfl args w) (fun v x w h=>yb4 v x w h)⟩,rfl⟩
 have q4:(c.toList==[119])=false:=by rw[ht];simpa using h4
 by_cases h5:c.data.toList=[102]
 ·have hf:uD c.data.toList=some (fun x=>(jL x.2,[])):=by unfold uD;rw[if_neg h1,if_neg h2,if_neg h3,if_neg h4,if_pos h5]
  rw[hf];have q5:(c.toList==[102])=true:=by rw[ht,h5];decide
  clear ht h1 h2 h3 h4 h5 hf;go_enter func180,ntmps180;go_wp2;go_ret;exact⟨⟨_,rfl,bE (fun args w=>enters_of func218 (by kernel_rfl) rfl args w) (fun v x w h=>yb5 v x w h)⟩,rfl⟩
 have q5:(c.toList==[102])=false:=by rw[ht];simpa using h5
 by_cases h6:c.data.toList=[116]
 ·have hf:uD c.data.toList=some (fun x=>(jL (uH x.2),[])):=by unfold uD;rw[if_neg h1,if_neg h2,if_neg h3,if_neg h4,if_neg h5,if_pos h6]
  rw[hf];have q6:(c.toList==[116])=true:=by rw[ht,h6];decide
  clear ht h1 h2 h3 h4 h5 h6 hf;go_enter func180,ntmps180;go_wp2;go_ret;exact⟨⟨_,rfl,bE (fun args w=>enters_of func219 (by kernel_rfl) rfl args w) (fun v x w h=>yb6 v x w h)⟩,rfl⟩
 have q6:(c.toList==[116])=false:=by rw[ht];simpa using h6
 have hf:uD c.data.toList=none:=by unfold uD;rw[if_neg h1,if_neg h2,if_neg h3,if_neg h4,if_neg h5,if_neg h6]
 rw[hf];clear ht h1 h2 h3 h4 h5 h6 hf;go_enter func180,ntmps180;go_wp2;go_ret;exact⟨rfl,rfl⟩
theorem LY{W:World}{q:Nat}{p:Addr}{v u0 u1 u2:Value}(h:W.cell? p=some v)(hp:p.block≠q):(((W.setCell ⟨q,0,none⟩ u0).setCell ⟨q,1,none⟩ u1).setCell ⟨q,2,none⟩ u2).cell? p=some v:=by
 refine(zD ?_).trans h;rw[zG _ _ _ _ hp,zG _ _ _ _ hp,zG _ _ _ _ hp]
theorem LV(nv:Value)(x:Dg)(pw pm:Nat)(wv:Value)(m:Nat)(F:Dg->Dg)(lo hi:Nat)(w:World)(hn:uh w nv x)(hm:m<=1000000000)(DH:0<m)(cw:w.cell? ⟨pw,0,none⟩=some wv)(cm:w.cell? ⟨pm,0,none⟩=some (.int .i64 m))(hw:TS lo hi w wv F)(YI:hi<=w.heap.size) :
  Calls Tryz.prog 182 #[nv,.pointer (some ⟨pw,0,none⟩),.pointer (some ⟨pm,0,none⟩)] w (kZ (DB F m x) w):=by
 have HN:=z7 hn;obtain⟨b,g,go,cap,n',k',rfl⟩:=hn.form;obtain⟨jQ,vZ⟩:=fO w (.cells #[.bool b,.slice (some ⟨g,go,none⟩) n' cap,.int .i64 k'] 97);have F0:∃ W,W=(w.alloc (.cells #[.bool b,.slice (some ⟨g,go,none⟩) n' cap,.int .i64 k'] 97)).alloc (.cells #[.bool false,.slice none 0 0,.int .i64 0] 97)/\W.cell? ⟨w.heap.size,0,none⟩=some (.bool b)/\W.cell? ⟨w.heap.size,1,none⟩=some (.slice (some ⟨g,go,none⟩) n' cap)/\W.cell? ⟨w.heap.size,2,none⟩=some (.int .i64 k') :=
  ⟨_,rfl,by go_simp,by go_simp,by go_simp⟩
 obtain⟨W,hW,d0,d1,d2⟩:=F0;rw[←hW] at jQ vZ;have ew:=(jQ.cell (p:=⟨pw,0,none⟩) (z8 w _ cw)).trans cw;have em:=(jQ.cell (p:=⟨pm,0,none⟩) (z8 w _ cm)).trans cm;obtain⟨K0,cp,rfl,C5,vE⟩:=hw.keep (vB jQ YI YI) (zy _) (zy _);have HC:=z7 (vE W.drew (show vK lo hi W W.drew from vg (zk YI jQ.size)) _ x (HN.out.below jQ.drew));have hpw:=z8 w _ cw;have hpm:=z8 w _ cm;dsimp only at hpw hpm;clear vE hn cw cm;go_enter func182,ntmps182;go_wp2_with fail;rw[←hW];clear hW;obtain⟨B,hB⟩:∃ B,B=w.heap.size:=⟨_,rfl⟩;rw[←hB] at d0 d1 d2 vZ ⊢;have HB:=z7 hB;clear hB;have jh:W.drew.cell? ⟨B,0,none⟩=some (.bool b)/\W.drew.cell? ⟨B,1,none⟩=some (.slice (some ⟨g,go,none⟩) n' cap)/\W.drew.cell? ⟨B,2,none⟩=some (.int .i64 k')/\W.drew.cell? ⟨pw,0,none⟩=some (.func (.func K0) #[] cp)/\W.drew.cell? ⟨pm,0,none⟩=some (.int .i64 m):=⟨d0,d1,d2,ew,em⟩;refine uo (fun W':World=>W'.cell? ⟨B,0,none⟩=some (.bool b)/\W'.cell? ⟨B,1,none⟩=some (.slice (some ⟨g,go,none⟩) n' cap)/\W'.cell? ⟨B,2,none⟩=some (.int .i64 k')/\W'.cell? ⟨pw,0,none⟩=some (.func (.func K0) #[] cp)/\W'.cell? ⟨pm,0,none⟩=some (.int .i64 m))
  [0,1,3] 3 (by intro _ _ d _ _ h;cases d<;>exact h) (by kernel_rfl) (by kernel_rfl) jh ?_
 (iterate 3 ((first|refine ty ?_|refine tn ?_);try simp only[pl]))
 refine xk ?_;refine xg 2 (by kernel_rfl) rfl (fun K hK=>?_);go_simp;refine HC.out.mono ?_;rintro e w1 ⟨⟨v1,rfl,ZK⟩,xH⟩;have xC:∀ {p:Addr} {u:Value},W.cell? p=some u->w1.cell? p=some u:=fun {p u} h=>(xH.cell (z8 W p h)).trans h
 have Dy:w1.cell? ⟨B,0,none⟩=some (.bool b)/\w1.cell? ⟨B,1,none⟩=some (.slice (some ⟨g,go,none⟩) n' cap)/\w1.cell? ⟨B,2,none⟩=some (.int .i64 k')/\w1.cell? ⟨pw,0,none⟩=some (.func (.func K0) #[] cp)/\w1.cell? ⟨pm,0,none⟩=some (.int .i64 m):=⟨xC d0,xC d1,xC d2,xC ew,xC em⟩;have Vg:=(show dF W.drew (B+1) from⟨vZ.c0,vZ.c1,vZ.c2,vZ.z0,vZ.z1,vZ.z2,vZ.lt⟩).below xH;have JG:Below w.heap.size w w1:=jQ.drew.trans (xH.mono jQ.size);refine hK.out _ _ Dy (fun _=>?_);clear hK K jh xC d0 d1 d2 ew em;have HM:=z7 (rj v1 (F x) m w1 ZK hm DH);obtain⟨b1,g1,go1,ycu,n1,k1,rfl⟩:=ZK.form;clear ZK;refine xg 4 (by kernel_rfl) rfl (fun K hK=>?_);go_simp;refine HM.out.mono ?_;rintro e w2 ⟨⟨v2,rfl,dE⟩,xB⟩;have xC:∀ {p:Addr} {u:Value},w1.cell? p=some u->w2.cell? p=some u:=fun {p u} h=>(xB.cell (z8 w1 p h)).trans h
 have MJ:w2.cell? ⟨B,0,none⟩=some (.bool b)/\w2.cell? ⟨B,1,none⟩=some (.slice (some ⟨g,go,none⟩) n' cap)/\w2.cell? ⟨B,2,none⟩=some (.int .i64 k')/\w2.cell? ⟨pw,0,none⟩=some (.func (.func K0) #[] cp)/\w2.cell? ⟨pm,0,none⟩=some (.int .i64 m):=⟨xC Dy.1,xC Dy.2.1,xC Dy.2.2.1,xC Dy.2.2.2.1,xC Dy.2.2.2.2⟩;have Yb:=Vg.below xB;have Zd:Below w.heap.size w w2:=JG.trans (xB.mono JG.size);refine hK.out _ _ MJ (fun _=>?_);clear hK K xC Dy Vg;have lr:=z7 dE;obtain⟨b2,g2,Mb,uO,n2,k2,rfl⟩:=dE.form;clear dE;have c0:=Yb.c0;have c1:=Yb.c1;have c2:=Yb.c2;have z0:=Yb.z0;have z1:=Yb.z1;have z2:=Yb.z2;refine xg 5 (by kernel_rfl) rfl (fun K hK=>?_);go_simp;have Xj:=HB.out;have e0:=LY (u0 := .bool b2) (u1 := .slice (some ⟨g2,Mb,none⟩) n2 uO) (u2 := .int .i64 k2) MJ.1 (show B≠B+1 by omega);have e1:=LY (u0 := .bool b2) (u1 := .slice (some ⟨g2,Mb,none⟩) n2 uO) (u2 := .int .i64 k2) MJ.2.1 (show B≠B+1 by omega);have e2:=LY (u0 := .bool b2) (u1 := .slice (some ⟨g2,Mb,none⟩) n2 uO) (u2 := .int .i64 k2) MJ.2.2.1 (show B≠B+1 by omega);have e3:=LY (u0 := .bool b2) (u1 := .slice (some ⟨g2,Mb,none⟩) n2 uO) (u2 := .int .i64 k2) MJ.2.2.2.1 (show pw≠B+1 by omega);have e4:=LY (u0 := .bool b2) (u1 := .slice (some ⟨g2,Mb,none⟩) n2 uO) (u2 := .int .i64 k2) MJ.2.2.2.2 (show pm≠B+1 by omega);refine hK.out _ _ ⟨e0,e1,e2,e3,e4⟩ (fun _=>?_);clear hK K e0 e1 e2 e3 e4;refine wpAnyH_done (by kernel_rfl) ?_ _;go_wp2;refine bodyPost_ret (v := .agg #[.bool b2,.slice (some ⟨g2,Mb,none⟩) n2 uO,.int .i64 k2]) ?_ rfl ?_
 ·simp[results,results182,go_sem,c0,c1,c2]
 exact gF (w:=w) lr.out Yb (by omega) Zd
theorem QF(nv:Value)(x:Dg)(pi po pn:Nat)(iv ov:Value)(nt:Bool)(T:qe)(F:Dg->Dg)(lo hi:Nat)(w:World)(hn:uh w nv x)(ci:w.cell? ⟨pi,0,none⟩=some iv)(co:w.cell? ⟨po,0,none⟩=some ov)(cn:w.cell? ⟨pn,0,none⟩=some (.bool nt))(hI:kK lo hi w iv T)(hO:TS lo hi w ov F)(YI:hi<=w.heap.size) :
  Calls Tryz.prog 185 #[nv,.pointer (some ⟨pi,0,none⟩),.pointer (some ⟨po,0,none⟩),.pointer (some ⟨pn,0,none⟩)] w fun e w'=>e = .returned (.bool (T (F x) !=nt))/\Below w.heap.size w w':=by
 have HN:=z7 hn;obtain⟨b,g,go,cap,n',k',rfl⟩:=hn.form;have F0:∃ W,W=w.alloc (.cells #[.bool b,.slice (some ⟨g,go,none⟩) n' cap,.int .i64 k'] 97)/\Below w.heap.size w W/\W.cell? ⟨w.heap.size,0,none⟩=some (.bool b)/\W.cell? ⟨w.heap.size,1,none⟩=some (.slice (some ⟨g,go,none⟩) n' cap)/\W.cell? ⟨w.heap.size,2,none⟩=some (.int .i64 k') :=
  ⟨_,rfl,(zf _ _).alloc (zy _) _,by go_simp,by go_simp,by go_simp⟩
 obtain⟨W,hW,jQ,d0,d1,d2⟩:=F0;have ei:=(jQ.cell (p:=⟨pi,0,none⟩) (z8 w _ ci)).trans ci;have eo:=(jQ.cell (p:=⟨po,0,none⟩) (z8 w _ co)).trans co;have en:=(jQ.cell (p:=⟨pn,0,none⟩) (z8 w _ cn)).trans cn;obtain⟨K0,cp,rfl,C5,vE⟩:=hO.keep (vB jQ YI YI) (zy _) (zy _);have HC:=z7 (vE W.drew (show vK lo hi W W.drew from vg (zk YI jQ.size)) _ x (HN.out.below jQ.drew));obtain⟨K1,pq,rfl,ypb,iU⟩:=hI.keep (vB jQ YI YI) (zy _) (zy _);have HC1:=z7 iU;clear vE iU hn ci co cn;go_enter func185,ntmps185;go_wp2_with fail;rw[←hW];clear hW;obtain⟨B,hB⟩:∃ B,B=w.heap.size:=⟨_,rfl⟩;rw[←hB] at d0 d1 d2 ⊢;have HB:=z7 hB;clear hB;have jh:W.drew.cell? ⟨B,0,none⟩=some (.bool b)/\W.drew.cell? ⟨B,1,none⟩=some (.slice (some ⟨g,go,none⟩) n' cap)/\W.drew.cell? ⟨B,2,none⟩=some (.int .i64 k')/\W.drew.cell? ⟨pi,0,none⟩=some (.func (.func K1) #[] pq)/\W.drew.cell? ⟨po,0,none⟩=some (.func (.func K0) #[] cp)/\W.drew.cell? ⟨pn,0,none⟩=some (.bool nt):=⟨d0,d1,d2,ei,eo,en⟩;refine uo (fun W':World=>W'.cell? ⟨B,0,none⟩=some (.bool b)/\W'.cell? ⟨B,1,none⟩=some (.slice (some ⟨g,go,none⟩) n' cap)/\W'.cell? ⟨B,2,none⟩=some (.int .i64 k')/\W'.cell? ⟨pi,0,none⟩=some (.func (.func K1) #[] pq)/\W'.cell? ⟨po,0,none⟩=some (.func (.func K0) #[] cp)/\W'.cell? ⟨pn,0,none⟩=some (.bool nt))
  [0,1,2,5] 4 (by intro _ _ d _ _ h;cases d<;>exact h) (by kernel_rfl) (by kernel_rfl) jh ?_
 (iterate 4 ((first|refine ty ?_|refine tn ?_);try simp only[pl]))
 refine xk ?_;refine xg 3 (by kernel_rfl) rfl (fun K hK=>?_);go_simp;refine HC.out.mono ?_;rintro e w1 ⟨⟨v1,rfl,ZK⟩,xH⟩;have xC:∀ {p:Addr} {u:Value},W.cell? p=some u->w1.cell? p=some u:=fun {p u} h=>(xH.cell (z8 W p h)).trans h
 have Dy:w1.cell? ⟨B,0,none⟩=some (.bool b)/\w1.cell? ⟨B,1,none⟩=some (.slice (some ⟨g,go,none⟩) n' cap)/\w1.cell? ⟨B,2,none⟩=some (.int .i64 k')/\w1.cell? ⟨pi,0,none⟩=some (.func (.func K1) #[] pq)/\w1.cell? ⟨po,0,none⟩=some (.func (.func K0) #[] cp)/\w1.cell? ⟨pn,0,none⟩=some (.bool nt):=⟨xC d0,xC d1,xC d2,xC ei,xC eo,xC en⟩;have JG:Below w.heap.size w w1:=jQ.drew.trans (xH.mono jQ.size);have hhW:hi<=W.heap.size:=zk YI jQ.size;have hk1:vK lo hi W w1:=vB (w:=W.drew) xH hhW hhW;refine hK.out _ _ Dy (fun _=>?_);clear hK K jh xC d0 d1 d2 ei eo en;have HI:=z7 (HC1.out w1 hk1 v1 (F x) ZK);obtain⟨b1,g1,go1,ycu,n1,k1,rfl⟩:=ZK.form;clear ZK;refine xg 4 (by kernel_rfl) rfl (fun K hK=>?_);go_simp;refine HI.out.mono ?_;rintro e w2 ⟨rfl,xB⟩;have xC:∀ {p:Addr} {u:Value},w1.cell? p=some u->w2.cell? p=some u:=fun {p u} h=>(xB.cell (z8 w1 p h)).trans h
 have MJ:w2.cell? ⟨B,0,none⟩=some (.bool b)/\w2.cell? ⟨B,1,none⟩=some (.slice (some ⟨g,go,none⟩) n' cap)/\w2.cell? ⟨B,2,none⟩=some (.int .i64 k')/\w2.cell? ⟨pi,0,none⟩=some (.func (.func K1) #[] pq)/\w2.cell? ⟨po,0,none⟩=some (.func (.func K0) #[] cp)/\w2.cell? ⟨pn,0,none⟩=some (.bool nt):=⟨xC Dy.1,xC Dy.2.1,xC Dy.2.2.1,xC Dy.2.2.2.1,xC Dy.2.2.2.2.1,xC Dy.2.2.2.2.2⟩;have Zd:Below w.heap.size w w2:=JG.trans (xB.mono JG.size);refine hK.out _ _ MJ (fun _=>?_);clear hK K xC Dy;obtain⟨r,hr⟩:∃ r,T (F x)=r:=⟨_,rfl⟩;rw[hr];have HR:=z7 hr;clear HI hr;refine xE [6,7] 0 rfl (by intro _ _ d _ _ h;cases d<;>exact h) (by kernel_rfl) (by kernel_rfl) MJ ?_;(iterate 2 ((first|refine ty ?_|refine tn ?_);try simp only[pl]))
 refine xk ?_;refine wpAnyH_done (by kernel_rfl) ?_ _;go_wp2;go_ret;exact⟨by rw[HR.out];rfl,Zd⟩
theorem fe(c:UInt8)(w:World):Calls Tryz.prog 174 #[.int .u8 c.toNat] w fun e w'=>e = .returned (.int .i64 (xI c))/\w=w':=by
 have xC:=c.toNat_lt;obtain⟨n,hn⟩:∃ n,n=c.toNat:=⟨_,rfl⟩;obtain⟨r,hr⟩:∃ r,xI c=r:=⟨_,rfl⟩;rw[hr];unfold xI at hr;rw[←hn] at xC hr ⊢;by_cases h1:97<=n/\n<=122
 ·rw[if_pos h1] at hr;subst hr;have a1:decide ((97:Int)<=(n:Int))=true:=by simp;omega
  have a2:decide ((n:Int)<=(122:Int))=true:=by simp;omega
  clear hn;go_enter func174,ntmps174;go_wp2;all_goals (first|(exfalso;omega)|(go_ret;exact⟨rfl,rfl⟩))
 ·rw[if_neg h1] at hr;by_cases h2:48<=n/\n<=57
  ·rw[if_pos h2] at hr;subst hr;clear hn;go_enter func174,ntmps174;go_wp2;all_goals (first|(exfalso;omega)|(go_ret;exact⟨rfl,rfl⟩))
  ·rw[if_neg h2] at hr;by_cases h3:n=32
   ·rw[if_pos h3] at hr;subst hr;subst h3;clear hn;go_enter func174,ntmps174;go_wp2;all_goals (first|(exfalso;omega)|(go_ret;exact⟨rfl,rfl⟩))
   ·rw[if_neg h3] at hr;subst hr;have a3:((n:Int)==32)=false:=by simp;omega
    clear hn;go_enter func174,ntmps174;go_wp2;all_goals (first|(exfalso;omega)|(go_ret;exact⟨rfl,rfl⟩))
theorem xl.keep{p lo hi:Nat}{w w':World}(h:xl p w w')(hp:p<lo)(hi':hi<=w.heap.size):vK lo hi w w' :=
 ⟨zk hi' h.size,fun k h1 h2=>h.block k (by omega) (by omega)⟩
def Eb(w:World)(k:Nat):Prop:=∃ cs fr,w.heap[k]? = some (.cells cs 9 fr)
theorem Eb.of{w w':World}{k:Nat}(h:Eb w k)(he:w'.heap[k]? = w.heap[k]?):Eb w' k:=by
 obtain⟨cs,fr,h⟩:=h;exact⟨cs,fr,he.trans h⟩
def gH(w:World)(p:Nat)(ws:List Wd):Prop :=
 ∃ a cap,w.cell? ⟨p,0,none⟩=some (.slice a ws.length cap)/\w.frozen? ⟨p,0,none⟩=false/\ws.length<=cap/\cap<=maxLen/\∀ j (h:j<ws.length),∃ b,a=some b/\(b.block≠p/\Eb w b.block)/\w.cell? (b.add j)=some (xf ws[j])
theorem gH.lt{w:World}{p:Nat}{ws:List Wd}(h:gH w p ws):p<w.heap.size:=by
 obtain⟨a,cap,hc,_⟩:=h;exact z8 w _ hc
theorem gH.below{w w':World}{p:Nat}{ws:List Wd}(h:gH w p ws)(hb:Below w.heap.size w w'):gH w' p ws:=by
 have xC:=h.lt;obtain⟨a,cap,hc,hf,h1,h2,h3⟩:=h;refine⟨a,cap,(hb.cell xC).trans hc,(hb.frozen xC).trans hf,h1,h2,fun j hj=>?_⟩;obtain⟨b,e1,e2,e3⟩:=h3 j hj;have hl:=z8 w _ e3;rw[addr_add] at hl;exact⟨b,e1,⟨e2.1,e2.2.of (hb.block _ hl)⟩,(hb.cell (z8 w _ e3)).trans e3⟩
theorem gH.pass{w:World}{p cap:Nat}{b:Addr}{x:Wd}{t:List Wd}(hf:w.frozen? ⟨p,0,none⟩=false)(hc:w.cell? ⟨p,0,none⟩=some (.slice (some b) (t.length+1) cap))(h1:t.length+1<=cap)(h2:cap<=maxLen)(hb:b.block≠p/\Eb w b.block)(hw:∀ j (h:j<(x::t).length),w.cell? (b.add j)=some (xf (x::t)[j])) :
  gH (w.setCell ⟨p,0,none⟩ (.slice (some (b.add 1)) t.length (cap - 1))) p t:=by
 refine⟨some (b.add 1),cap - 1,by rw[zj (h:=hc)],by simpa using hf,by omega,by omega,fun j hj=>⟨b.add 1,rfl,by rw[addr_add];exact⟨hb.1,hb.2.of (zG _ _ _ _ hb.1)⟩,?_⟩⟩;have:=hw (j+1) (by simp;omega);rw[add_add,Nat.add_comm 1 j,zx (h:=fun e=>hb.1 (by rw[←addr_add b (j+1),←e]))];simpa using this
theorem gH.last{w:World}{p cap:Nat}{b:Addr}(hf:w.frozen? ⟨p,0,none⟩=false){n:Nat}(hc:w.cell? ⟨p,0,none⟩=some (.slice (some b) n cap)) :
  gH (w.setCell ⟨p,0,none⟩ (.slice (some b) 0 0)) p [] :=
 ⟨some b,0,by rw[zj (h:=hc)];rfl,by simpa using hf,zy _,zE _,fun j hj=>absurd hj (yv j)⟩
def FL(ms:List Wd)(ws:List Wd):Bool:=ms.any (fun m=>Y5 m ws)
def zj4(p:Nat)(ms ws:List Wd)(w:World)(e:Ending)(w':World):Prop :=
 e = .returned (.bool (FL ms ws))/\gH w' p (if FL ms ws then ws.tail else ws)/\xl p w w'/\w'.heap.size=w.heap.size
theorem rV{ms ws:List Wd}{k:Nat}(h:k<ms.length)(hT:Y5 ms[k] ws=true):FL ms ws=true:=yz.2 ⟨ms[k],zN h,hT⟩
theorem BP{ms ws:List Wd}{k:Nat}(h:k<ms.length)(h0:FL (ms.take k) ws=false)(hT:Y5 ms[k] ws=false):FL (ms.take (k+1)) ws=false:=by
 unfold FL at *;rw[zY h,yx,h0];simp[hT]
theorem iQ(p:Nat)(ms ws:List Wd)(v:Value)(w:World)(hp:gH w p ws)(hm:YL w v ms)(hl:ms.length<=1000) :
  Calls Tryz.prog 175 #[.pointer (some ⟨p,0,none⟩),v] w (zj4 p ms ws w):=by
 have HP:=z7 hp;obtain⟨a,cap,hc,hf,h1,h2,h3⟩:=hp;obtain⟨a2,uO,rfl,m1,m2,m3,m4⟩:=hm;have HM:=z7 m4;have H3:=z7 h3;clear m4 h3;have hmx:cap<=9223372036854775807:=by unfold maxLen at h2;omega
 go_enter func175,ntmps175;go_wp2;go_loop [9] (fun i=>∃ k:Nat,k<=ms.length/\i = .int .i64 k/\FL (ms.take k) ws=false) (fun i=>ms.length - (intOf i).toNat)
 case atStart=>exact⟨0,zE _,rfl,rfl⟩
 case round =>
  obtain⟨k,hk,rfl,hz⟩:=hrel;have HZ:=z7 hz;clear hz;by_cases xC:k<ms.length
  ·obtain⟨b2,rfl,jJ⟩:=HM.out k xC;obtain VN|⟨x,t,VN⟩:ws=[]\/∃ x t,ws=x::t:=by
    cases ws with
    | nil=>exact .inl rfl
    | cons x t=>exact .inr ⟨x,t,rfl⟩
   ·have hq:Y5 ms[k] ws=false:=by rw[VN];rfl
    have HF:=z7 (BP xC HZ.out hq);rw[VN] at hc;clear hq VN;go_wp2;exact⟨⟨k+1,by omega,by go_num,HF.out⟩,by simp[intOf];omega⟩
   ·obtain⟨b,rfl,hb,hx⟩:=H3.out 0 (by rw[VN];simp);have P6:w.cell? b=some (xf x):=by
     have:(b.add 0)=b:=by simp[yu]
     rw[this] at hx;rw[hx];simp[VN]
    have hiw:=Ii ms[k] x t;have hlen:ws.length=t.length+1:=by rw[VN];rfl
    rw[hlen] at hc h1;clear hx
    cases hq:(x==ms[k])
    ·have HF:=z7 (BP xC HZ.out (by rw[VN,hiw,hq]));have HW:=z7 VN;clear hiw VN hlen;go_wp2;exact⟨⟨k+1,by omega,by go_num,HF.out⟩,by simp[intOf];omega⟩
    ·have HF:=z7 (rV (ws:=ws) xC (by rw[VN,hiw,hq]));have HW:=z7 VN;clear hiw VN hlen;by_cases qD:cap=1
     ·have ht:t=[]:=zS (by omega);subst ht;subst qD;go_wp2;go_ret;refine⟨by rw[HF.out];rfl,?_,xl.set p w 0 _,by simp[zi]⟩;rw[if_pos HF.out,HW.out];exact gH.last hf hc
     ·have xw:¬(cap:Int)=1:=by omega
      go_wp2;go_ret;refine⟨by rw[HF.out];rfl,?_,xl.set p w 0 _,by simp[zi]⟩;rw[if_pos HF.out,HW.out];refine gH.pass hf hc h1 h2 hb (x:=x) (fun j hj=>?_);obtain⟨b',e1,_,e3⟩:=H3.out j (by rw[HW.out];exact hj)
      cases e1;rw[e3];simp[HW.out]
  ·obtain rfl:k=ms.length:=by omega
   have hz:=HZ.out;rw[zM] at hz;have HF:=z7 hz;clear hz HZ;go_wp2;go_ret;refine⟨by rw[HF.out];rfl,?_,xl.refl _ _,rfl⟩;rw[HF.out];exact HP.out
structure RT(p:Nat)(w:World):Prop where
 s:∃ t v,w.cell? ⟨7,0,none⟩=some (.iface t v)
 r:∃ t v,w.cell? ⟨8,0,none⟩=some (.iface t v)
 ns:7≠p
 nr:8≠p
theorem RT.but{p:Nat}{w w':World}(h:RT p w)(hb:xl p w w'):RT p w':=by
 obtain⟨⟨t,v,hs⟩,⟨t2,v2,hr⟩,h1,h2⟩:=h;exact⟨⟨t,v,hb.cell hs h1⟩,⟨t2,v2,hb.cell hr h2⟩,h1,h2⟩
structure EZ(x:Wd):Prop where
 ne:x≠[]
 len:x.length<=1000
 form:x.all xQ=true\/xQ (x.headD 0)=false
theorem J0:∀ (l:List UInt8) (acc:Nat),l.all xQ=true->Lib.decFrom acc l=some (l.foldl (fun v c=>10*v+(c.toNat - 48)) acc)
 | [],_,_=>rfl
 | c::t,acc,h=>by
  simp only[List.all_cons,yy] at h;have hc:=(vM c).1 h.1;rw[Lib.decFrom,Lib.digitVal,if_pos (by omega)];dsimp only;rw[J0 t _ h.2,List.foldl_cons,Nat.mul_comm acc 10]
theorem iK{l:List UInt8}(h:l.all xQ=true)(hn:l≠[]):Lib.atoi l=some (bo l:Int):=by
 cases l with
 | nil=>exact absurd rfl hn
 | cons c t =>
  have hd:=h;simp only[List.all_cons,yy] at hd;have hc:=(vM c).1 hd.1;have h45:(c==45)=false:=by
   rw[beq_eq_false_iff_ne];rintro rfl;exact absurd hc.1 (by decide)
  have h43:(c==43)=false:=by
   rw[beq_eq_false_iff_ne];rintro rfl;exact absurd hc.1 (by decide)
  rw[Lib.atoi,h45,h43];simp only[Bool.false_eq_true,if_false,Lib.decNat];rw[if_neg (by simp),J0 _ 0 h];rfl
theorem below_bytesWorld(w:World)(e:TypeId)(t:ByteArray):Below w.heap.size w (Lib.bytesWorld w e t):=Lib.bytesWorld_below _ _ _
theorem LU(p:Nat)(s:ByteArray)(w:World)(hs:s.size<=1000)(hT:RT p w) :
  Calls Tryz.prog 163 #[.string s] w fun e w'=>(∃ v ev,e = .returned (.tuple #[.int .i64 v,ev])/\(ev = .nilIface\/∃ N,ev = .iface 353 (.pointer (some N))))/\Below w.heap.size w w':=by
 obtain⟨⟨t,v,hS⟩,⟨t2,v2,hR⟩,_,_⟩:=hT
 cases h:Lib.atoiAll s.data.toList with
 | ok n =>
  refine(Tryz.strconv_Atoi_ok s (by omega) n h w).mono ?_;rintro e w' ⟨rfl,rfl|⟨t,rfl⟩⟩
  ·exact⟨⟨_,_,rfl,.inl rfl⟩,zf _ _⟩
  ·exact⟨⟨_,_,rfl,.inl rfl⟩,below_bytesWorld _ _ _⟩
 | range =>
  refine(Tryz.strconv_Atoi_range s (by omega) h _ w hR (.inr ⟨_,_,rfl⟩)).mono ?_;rintro e w' ⟨N,rfl,_,_,hb⟩;exact⟨⟨_,_,rfl,.inr ⟨_,rfl⟩⟩,hb⟩
 | _ =>
  refine(Tryz.strconv_Atoi_none s (by omega) (fun v q=>by rw[h] at q;cases q) (fun q=>by rw[h] at q;cases q) _ w hS (.inr ⟨_,_,rfl⟩)).mono ?_;rintro e w' ⟨N,rfl,_,_,hb⟩;exact⟨⟨_,_,rfl,.inr ⟨_,rfl⟩⟩,hb⟩
theorem iJ(s:ByteArray)(w:World)(hs:s.size<=9)(hd:s.data.toList.all xQ=true)(hn:s.data.toList≠[]) :
  Calls Tryz.prog 163 #[.string s] w fun e w'=>e = .returned (.tuple #[.int .i64 (bo s.data.toList),.nilIface])/\Below w.heap.size w w':=by
 refine(Tryz.strconv_Atoi s (bo s.data.toList) (by omega) (iK hd hn) w).mono ?_;rintro e w' ⟨rfl,t,rfl⟩;exact⟨rfl,below_bytesWorld _ _ _⟩
abbrev EY:Ending := .panicked [{ v := .iface 278 (.agg #[]),recovered:=false }]
def zj5(p:Nat)(r:Option (Nat×List Wd))(w:World)(e:Ending)(w':World):Prop :=
 (match r with|none=>e=EY|some (v,t)=>e = .returned (.int .i64 v)/\gH w' p t)/\xl p w w'
theorem rU{x:Wd}(hd:x.all xQ=true)(hn:x≠[]):GC x=(decide (x.length<=9) && (decide (x.length=1) || decide (x.headD 0≠48))):=by
 unfold GC ux;rw[hd]
 cases x with
 | nil=>exact absurd rfl hn
 | cons c t=>simp
theorem Yj(c:UInt8):(xI c=2) ↔ xQ c=true:=by
 rw[vM];unfold xI;split
 ·constructor<;>intro h<;>omega
 split
 ·constructor<;>intro h<;>omega
 split
 ·constructor<;>intro h<;>omega
 ·constructor<;>intro h<;>omega
theorem OB(p:Nat)(w:World)(hp:gH w p []):Calls Tryz.prog 181 #[.pointer (some ⟨p,0,none⟩)] w (zj5 p none w):=by
 obtain⟨a,cap,hc,hf,h1,h2,h3⟩:=hp;clear h3;go_enter func181,ntmps181;go_wp2;exact⟨rfl,rfl,xl.refl _ _⟩
theorem gH.step{w:World}{p cap:Nat}{b:Addr}{x:Wd}{t:List Wd}(h:gH w p (x::t))(hc:w.cell? ⟨p,0,none⟩=some (.slice (some b) (t.length+1) cap)) :
  gH (w.setCell ⟨p,0,none⟩ (.slice (some (b.add 1)) t.length (cap - 1))) p t/\(t=[]->gH (w.setCell ⟨p,0,none⟩ (.slice (some b) 0 0)) p t):=by
 obtain⟨a,uy,pI,hf,h1,h2,h3⟩:=h;rw[hc] at pI
 cases pI;obtain⟨b',e1,e2,_⟩:=h3 0 (by simp)
 cases e1;refine⟨gH.pass hf hc (by simpa using h1) h2 e2 (x:=x) (fun j hj=>?_),fun ht=>?_⟩
 ·obtain⟨b',e1,_,e3⟩:=h3 j hj
  cases e1;exact e3
 ·subst ht;exact gH.last hf hc
theorem OC(c:UInt8)(t:List UInt8)(h:0<(za (c::t).toArray).size):(za (c::t).toArray)[0]=c:=by
 simp[ByteArray.getElem_eq_getElem_data]
theorem LQ(p:Nat)(c:UInt8)(x':List UInt8)(t:List Wd)(w:World)(hp:gH w p ((c::x')::t))(hx:EZ (c::x'))(hT:RT p w) :
  Calls Tryz.prog 181 #[.pointer (some ⟨p,0,none⟩)] w (zj5 p (kR ((c::x')::t)) w):=by
 have HP:=z7 hp;have HX:=z7 hx;have HT:=z7 hT;have xC:=hp.lt;obtain⟨a,cap,hc,hf,h1,h2,h3⟩:=hp;obtain⟨b,rfl,hb,Ju⟩:=h3 0 (by simp);have P6:w.cell? b=some (xf (c::x')):=by
  have:(b.add 0)=b:=by simp[yu]
  rw[this] at Ju;exact Ju
 have hmx:cap<=9223372036854775807:=by unfold maxLen at h2;omega
 have hlen:((c::x')::t).length=t.length+1:=rfl;rw[hlen] at hc h1;obtain⟨r,hr⟩:∃ r,kR ((c::x')::t)=r:=⟨_,rfl⟩;rw[hr];have HR:=z7 hr;obtain⟨s,hs⟩:∃ s:ByteArray,s=⟨(c::x').toArray⟩:=⟨_,rfl⟩;have EH:0<s.size:=by rw[hs,size_mk];simp
 have qs:s.size=x'.length+1:=by rw[hs,size_mk];rfl
 have hg:s[0]=c:=by subst hs;exact OC c x' EH
 have mS:=hx.len;have dm:s.size<=1000:=by rw[qs];simpa using mS
 have wF:s.data.toList=c::x':=by rw[hs]
 have dT:w.cell? b=some (.string s):=by rw[P6,hs]
 clear Ju h3 hr P6 hx hT hs;have HG:=z7 hg;have HSD:=z7 wF;have dQ:=z7 qs;by_cases hd:xQ c=true
 ·have uN:(c::x').all xQ=true:=by
   rcases HX.out.form with h|h
   ·exact h
   ·exact absurd hd (by simpa using h)
  have ZG:xI c=2:=(Yj c).2 hd;have iG:((xI c:Int) !=2)=false:=by rw[ZG];decide
  have MZ:=fun W=>fe c W
  have CI:=rU uN (by simp);by_cases h9:s.size<=9
  ·have zp3:(c::x').length<=9:=by simp;omega
   rw[decide_eq_true zp3,Bool.true_and] at CI;have h9':decide ((9:Int)<(s.size:Int))=false:=by simp;omega
   have HA:=z7 (iJ s w h9 (by rw[wF];exact uN) (by rw[wF];simp));by_cases hz:1<s.size/\c=48
   ·have vZ:r=none:=by
     rw[←HR.out];have:GC (c::x')=false:=by
      rw[CI];simp[hz.2];intro e;rw[e] at qs;simp at qs;omega
     simp[kR,this]
    subst vZ;have e48:((s[0].toNat:Int)==48)=true:=by rw[hg,hz.2];decide
    have e1:decide ((1:Int)<(s.size:Int))=true:=by simp;omega
    rw[←hg] at MZ iG;have mM:=z7 MZ;clear ZG MZ hg wF hd uN CI hz qs;go_enter func181,ntmps181;go_wp2_with fail;refine HA.out.mono ?_;rintro e w1 ⟨rfl,xH⟩;go_wp2_with fail;refine(mM.out _).mono ?_;rintro e w2 ⟨rfl,rfl⟩;go_wp2;exact⟨rfl,rfl,xl.of xH⟩
   ·have zp4:GC (c::x')=true:=by
     rw[CI];by_cases h1s:x'.length=0
     ·simp[h1s]
     ·have:¬c=48:=fun e=>hz ⟨by omega,e⟩
      simp[this]
    have vZ:r=some (bo (c::x'),t):=by
     rw[←HR.out];simp[kR,zp4]
    subst vZ;have IE:=z7 wF;rw[←hg] at MZ iG;have mM:=z7 MZ;have wB:∀ W,Below w.heap.size w W->W.cell? ⟨p,0,none⟩=some (.slice (some b) (t.length+1) cap)/\W.frozen? ⟨p,0,none⟩=false:=fun W hW=>⟨(hW.cell xC).trans hc,(hW.frozen xC).trans hf⟩
    have mN:=z7 wB;have Mk:¬(1<s.size/\s[0]=48):=by rw[hg];exact hz
    have pT:=z7 hlen;clear ZG MZ hg wF hd uN CI hz zp4 wB qs hlen;by_cases qD:cap=1
    ·have PZ:t=[]:=zS (by omega);subst PZ;subst qD;by_cases uT:1<s.size
     ·have e48:((s[0].toNat:Int)==48)=false:=by
       rw[show((48:Int))=(((48:UInt8).toNat:Nat):Int) from rfl,bU];simpa using fun e=>Mk ⟨uT,e⟩
      have e1:decide ((1:Int)<(s.size:Int))=true:=by simp;omega
      clear Mk;go_enter func181,ntmps181;go_wp2_with fail;refine HA.out.mono ?_;rintro e w1 ⟨rfl,xH⟩;obtain⟨j0,j1⟩:=mN.out w1 xH;have Ki:=z7 (HP.out.below xH);go_wp2_with fail;refine(mM.out _).mono ?_;rintro e w2 ⟨rfl,rfl⟩;go_wp2;go_ret;exact⟨⟨by rw[IE.out];rfl,(Ki.out.step j0).2 rfl⟩,(xl.of xH).trans (xl.set p _ 0 _)⟩
     ·have e1:decide ((1:Int)<(s.size:Int))=false:=by simp;omega
      clear Mk;go_enter func181,ntmps181;go_wp2_with fail;refine HA.out.mono ?_;rintro e w1 ⟨rfl,xH⟩;obtain⟨j0,j1⟩:=mN.out w1 xH;have Ki:=z7 (HP.out.below xH);go_wp2_with fail;refine(mM.out _).mono ?_;rintro e w2 ⟨rfl,rfl⟩;go_wp2;go_ret;exact⟨⟨by rw[IE.out];rfl,(Ki.out.step j0).2 rfl⟩,(xl.of xH).trans (xl.set p _ 0 _)⟩
    ·have xw:¬(cap:Int)=1:=by omega
     by_cases uT:1<s.size
     ·have e48:((s[0].toNat:Int)==48)=false:=by
       rw[show((48:Int))=(((48:UInt8).toNat:Nat):Int) from rfl,bU];simpa using fun e=>Mk ⟨uT,e⟩
      have e1:decide ((1:Int)<(s.size:Int))=true:=by simp;omega
      clear Mk;go_enter func181,ntmps181;go_wp2_with fail;refine HA.out.mono ?_;rintro e w1 ⟨rfl,xH⟩;obtain⟨j0,j1⟩:=mN.out w1 xH;have Ki:=z7 (HP.out.below xH);go_wp2_with fail;refine(mM.out _).mono ?_;rintro e w2 ⟨rfl,rfl⟩;go_wp2;go_ret;exact⟨⟨by rw[IE.out];rfl,(Ki.out.step j0).1⟩,(xl.of xH).trans (xl.set p _ 0 _)⟩
     ·have e1:decide ((1:Int)<(s.size:Int))=false:=by simp;omega
      clear Mk;go_enter func181,ntmps181;go_wp2_with fail;refine HA.out.mono ?_;rintro e w1 ⟨rfl,xH⟩;obtain⟨j0,j1⟩:=mN.out w1 xH;have Ki:=z7 (HP.out.below xH);go_wp2_with fail;refine(mM.out _).mono ?_;rintro e w2 ⟨rfl,rfl⟩;go_wp2;go_ret;exact⟨⟨by rw[IE.out];rfl,(Ki.out.step j0).1⟩,(xl.of xH).trans (xl.set p _ 0 _)⟩
  ·have vZ:r=none:=by
    rw[←HR.out];have:GC (c::x')=false:=by
     rw[CI,decide_eq_false (by simp;omega),ze]
    simp[kR,this]
   subst vZ;have h9':decide ((9:Int)<(s.size:Int))=true:=by simp;omega
   have HA:=z7 (LU p s w dm HT.out);rw[←hg] at MZ iG;have mM:=z7 MZ;clear ZG MZ hg wF hd uN CI qs;go_enter func181,ntmps181;go_wp2_with fail;refine HA.out.mono ?_;rintro e w1 ⟨⟨v,ev,rfl,hev⟩,xH⟩;rcases hev with rfl|⟨N,rfl⟩
   ·go_wp2_with fail;refine(mM.out _).mono ?_;rintro e w2 ⟨rfl,rfl⟩;go_wp2;exact⟨rfl,rfl,xl.of xH⟩
   ·go_wp2;exact⟨rfl,rfl,xl.of xH⟩
 ·have vZ:r=none:=by
   rw[←HR.out];have:GC (c::x')=false:=by
    unfold GC ux;simp[hd]
   simp[kR,this]
  subst vZ;have ZG:¬(xI c=2):=fun e=>hd ((Yj c).1 e)
  have iG:((xI c:Int) !=2)=true:=by simp;omega
  have HA:=z7 (LU p s w dm HT.out);have MZ:=fun W=>fe c W
  rw[←hg] at MZ iG;have mM:=z7 MZ;clear ZG MZ hg wF hd qs;go_enter func181,ntmps181;go_wp2_with fail;refine HA.out.mono ?_;rintro e w1 ⟨⟨v,ev,rfl,hev⟩,xH⟩;rcases hev with rfl|⟨N,rfl⟩
  ·go_wp2_with fail;refine(mM.out _).mono ?_;rintro e w2 ⟨rfl,rfl⟩;go_wp2;exact⟨rfl,rfl,xl.of xH⟩
  ·go_wp2;exact⟨rfl,rfl,xl.of xH⟩
theorem ft(p:Nat)(ws:List Wd)(w:World)(hp:gH w p ws)(hx:∀ x∈ws,EZ x)(hT:RT p w) :
  Calls Tryz.prog 181 #[.pointer (some ⟨p,0,none⟩)] w (zj5 p (kR ws) w):=by
 match ws,hp,hx with
 | [],hp,_=>exact OB p w hp
 | x::t,hp,hx =>
  have h:=hx x (by simp)
  cases x with
  | nil=>exact absurd rfl h.ne
  | cons c x'=>exact LQ p c x' t w hp h hT
theorem jV{ws t:List Wd}{v:Nat}(h:kR ws=some (v,t)):v<=1000000000/\(∀ x∈t,x∈ws)/\t.length+1=ws.length:=by
 cases ws with
 | nil=>cases h
 | cons w u =>
  by_cases hf:GC w=true
  ·simp only[kR,hf,if_true,Option.some.injEq,Prod.mk.injEq] at h;obtain⟨rfl,rfl⟩:=h;have h1:=(Fig.of hf);have h2:=oI w h1.1.dig;have h3:10 ^ w.length<=10 ^ 9:=Nat.pow_le_pow_right (by decide) h1.2;exact⟨by omega,fun x hx=>by simp[hx],by simp⟩
  ·simp[kR,hf] at h
theorem Ud:ZN Tryz.prog 305 214 .nilFunc 1 8 :=
 ⟨underlying305,info_parts (by kernel_rfl),rfl,by decide,by decide⟩
theorem Ye{P:Program}{t e:TypeId}{z:Value}{size bytes:Nat}(E:ZN P t e z size bytes){w:World}{ops:Array Oper}{rest:List Oper}{o:Oper}{a:Act}{Q:Exit->Act->World->Prop}
  (Jl:o.guard=none) (s x:Operand) (ho:o.op = .call { callee := .builtin .append,args:=#[s,x],argTypes:=#[t,t] })
  (base:Nat) (v:Value) (n:Nat) (xs:List Value) (hs:a.eval s=v) (xJ:w.ownsRow base e size v n xs)
  (ad:Addr) (m c:Nat) (news:List Value) (hx:a.eval x = .slice (some ad) m c) (hl:news.length=m*size) (dS:∀ j u,news[j]? = some u->w.cell? (ad.add j)=some u) (h1:∀ u∈news,u.oneCell'=true)
  (Lt:n+m<=2147483648) (bL:base<=w.heap.size)
  (h:∀ v' w',w'.ownsRow base e size v' (n+m) (xs++news)->w.grownBy w' v.ownBlock->(v'.ownBlock=v.ownBlock\/v'.ownBlock=some w.heap.size)->wpList P ops Q rest (a.put o.dst v') w'):wpList P ops Q (o::rest) a w:=by
 obtain⟨i,hi,hz,h2,h3⟩:=E.info;have KE:=E.small;refine wpList_append_own_at w Jl s x t ho base e i z size bytes E.under hi hz h2 h3 E.UF E.pos v n xs hs xJ ad m c news hx hl dS h1 (by unfold maxLen;omega) ?_ bL (fun v' w' a b _ d=>h v' w' a b d);exact zk (Nat.mul_le_mul Lt KE) (by decide)
def Zl(lo:Nat)(w:World)(sv:Value)(Ts:List qe):Prop :=
 ∃ vs:List Value,w.ownsRow lo 214 1 sv Ts.length vs /\
  ∀ j (h:j<Ts.length),∃ u l h',vs[j]? = some u/\lo<=l/\h'<=w.heap.size/\(∀ g,sv.ownBlock=some g->g<l\/h'<=g)/\kK l h' w u Ts[j]
theorem Zl.nil(lo:Nat)(w:World):Zl lo w (.slice none 0 0) []:=⟨[],World.ownsRow_nil _ _ _ _,fun j h=>absurd h (yv j)⟩
theorem Zl.form{lo:Nat}{w:World}{sv:Value}{Ts:List qe}(h:Zl lo w sv Ts):∃ a cap,sv = .slice a Ts.length cap:=by
 obtain⟨vs,ho,_⟩:=h;exact xY ho
theorem Zl.but{lo p:Nat}{w w':World}{sv:Value}{Ts:List qe}(h:Zl lo w sv Ts)(hb:xl p w w')(hp:p<lo):Zl lo w' sv Ts:=by
 obtain⟨vs,ho,ht⟩:=h;have xw:some p≠sv.ownBlock:=fun e=>by have:=(ho.lt p e.symm).1;omega
 refine⟨vs,ho.kept (row:=some p) ⟨hb.os,hb.tape,hb.output,hb.size,fun i hi hn=>hb.block i hi (fun e=>hn (by rw[e]))⟩ (.inr (fun e=>xw e.symm)),fun j hj=>?_⟩;obtain⟨u,l,h',e1,e2,e3,e4,e5⟩:=ht j hj;exact⟨u,l,h',e1,e2,zk e3 hb.size,e4,e5.keep (hb.keep (by omega) e3) (zy _) (zy _)⟩
theorem Zl.more{lo l0 h0:Nat}{w w1 w':World}{sv Qg:Value}{Ts:List qe}{T:qe}{vs:List Value}{u:Value}
  (ht:∀ j (h:j<Ts.length),∃ u l h',vs[j]? = some u/\lo<=l/\h'<=w.heap.size/\(∀ g,sv.ownBlock=some g->g<l\/h'<=g)/\kK l h' w u Ts[j]) (DX:vs.length=Ts.length)
  (hT:kK l0 h0 w u T) (sr:lo<=l0) (Mx:h0<=w.heap.size) (WH:∀ g,sv.ownBlock=some g->g<l0\/h0<=g)
  (hb:Below w.heap.size w w1) (um:w1.grownBy w' sv.ownBlock) (UX:Qg.ownBlock=sv.ownBlock\/Qg.ownBlock=some w1.heap.size) (ho:w'.ownsRow lo 214 1 Qg (Ts.length+1) (vs++[u])) :
  Zl lo w' Qg (Ts++[T]):=by
 have Kc:∀ l h',h'<=w.heap.size->(∀ g,sv.ownBlock=some g->g<l\/h'<=g)->vK l h' w w':=by
  intro l h' hh hg;refine⟨zk hh (zk hb.size um.size),fun k k1 k2=>?_⟩;rw[um.block k (by have:=hb.size;omega) (fun e=>by rcases hg k e.symm with q|q<;>omega)];exact hb.block k (by omega)
 have iF:∀ l h',h'<=w.heap.size->(∀ g,sv.ownBlock=some g->g<l\/h'<=g)->∀ g,Qg.ownBlock=some g->g<l\/h'<=g:=by
  intro l h' hh hg g e;rcases UX with q|q
  ·exact hg g (q▸e)
  ·rw[q] at e
   cases e;exact .inr (zk hh hb.size)
 refine⟨vs++[u],by simpa using ho,fun j hj=>?_⟩;by_cases K3:j<Ts.length
 ·obtain⟨x,l,h',e1,e2,e3,e4,e5⟩:=ht j K3;exact⟨x,l,h',by rw[List.getElem?_append_left (by omega)];exact e1,e2,zk e3 (zk hb.size um.size),iF l h' e3 e4,by rw[List.getElem_append_left K3];exact e5.keep (Kc l h' e3 e4) (zy _) (zy _)⟩
 ·have e:j=Ts.length:=by simp at hj;omega
  subst e;refine⟨u,l0,h0,by rw[List.getElem?_append_right (by omega),DX];simp,sr,zk Mx (zk hb.size um.size),iF l0 h0 Mx WH,?_⟩;rw[List.getElem_append_right (by omega)];simpa using hT.keep (Kc l0 h0 Mx WH) (zy _) (zy _)
theorem Zl.tests{lo cap:Nat}{w:World}{a:Option Addr}{Ts:List qe}(h:Zl lo w (.slice a Ts.length cap) Ts):Zy lo w.heap.size w a Ts:=by
 obtain⟨vs,ho,ht⟩:=h;intro j hj;obtain⟨u,l,h',e1,e2,e3,e4,e5⟩:=ht j hj;obtain⟨g,uy,hv,hg,dy,hc⟩:=vQ ho (by omega)
 cases hv;refine⟨⟨g,0,none⟩,u,rfl,?_,hg,dy,e5.keep (vg e3) e2 e3⟩;rw[ua,hc j (by omega)];exact e1
theorem kK.one{l h:Nat}{w:World}{v:Value}{T:qe}(ht:kK l h w v T):v.oneCell'=true:=by
 obtain⟨k,cap,rfl,_⟩:=ht;rfl
def zp5(p:Nat)(r:Option (List qe×List Wd))(w:World)(e:Ending)(w':World):Prop :=
 (match r with|none=>e=EY|some (ts,t)=>(∃ v,e = .returned v/\kK w.heap.size w'.heap.size w' v (bp ts))/\gH w' p t)/\xl p w w'
theorem xl.OE{p:Nat}{w a b:World}{row:Option Nat}(h:xl p w a)(hg:a.grownBy b row)(hr:∀ k,row=some k->w.heap.size<=k):xl p w b :=
 ⟨hg.os.trans h.os,hg.tape.trans h.tape,hg.output.trans h.output,zk h.size hg.size,fun k hk hp=>(hg.block k (zO hk h.size) (fun e=>by have:=hr k e.symm;omega)).trans (h.block k hk hp)⟩
theorem gH.row{lo p n:Nat}{w w':World}{sv:Value}{vs:List Value}{ws:List Wd}(h:gH w p ws)(ho:w.ownsRow lo 214 1 sv n vs)(hp:p<lo)(hg:w.grownBy w' sv.ownBlock):gH w' p ws:=by
 have xC:=h.lt;have hpn:some p≠sv.ownBlock:=fun e=>by have:=(ho.lt p e.symm).1;omega
 obtain⟨a,cap,hc,hf,h1,h2,h3⟩:=h;refine⟨a,cap,hg.cell hc hpn,(zv (hg.block p xC hpn)).trans hf,h1,h2,fun j hj=>?_⟩;obtain⟨b,e1,e2,e3⟩:=h3 j hj;have hl:=z8 w _ e3;rw[addr_add] at hl;have I3:some b.block≠sv.ownBlock:=by
  intro e;rcases ho.2 with⟨hv,_⟩|⟨g,cp,cur,hv,_,hh,_⟩
  ·rw[hv] at e;cases e
  ·rw[hv] at e
   cases e;obtain⟨cs,fr,hs⟩:=e2.2;rw[hh] at hs
   cases hs
 exact⟨b,e1,⟨e2.1,e2.2.of (hg.block _ hl I3)⟩,hg.cell e3 (by rw[addr_add];exact I3)⟩
def rQ(p:Nat)(wi:Bool)(r:Option (List qe×List Wd))(n0:Nat)(w:World)(sv:Value)(more:Bool)(n:Nat)(wr:World):Prop :=
 ∃ (Ts:List qe) (ws:List Wd),Zl w.heap.size wr sv Ts/\gH wr p ws/\xl p w wr/\ws.length+Ts.length<=n0/\(∀ x∈ws,EZ x)/\(more=true->ws.length<n/\qF wi n Ts ws=r)/\(more=false->some (Ts,ws)=r)
theorem iD(w:World)(m:Wd)(g:Nat)(hg:w.cell? ⟨g,0,none⟩=some (xf m)):YL w (.slice (some ⟨g,0,none⟩) 1 1) [m] :=
 ⟨some ⟨g,0,none⟩,1,rfl,zy _,by decide,(fun h=>by cases h),fun j hj=>by
  have:j=0:=by simp at hj;omega
  subst this;exact⟨_,rfl,by simpa[yu] using hg⟩⟩
theorem fh(p:Nat)(m:Wd)(ws:List Wd)(W:World)(hp:gH W p ws) :
  Calls Tryz.prog 175 #[.pointer (some ⟨p,0,none⟩),.slice (some ⟨W.heap.size,0,none⟩) 1 1] (W.alloc (.cells #[xf m] 9))
   fun e w'=>e = .returned (.bool (Y5 m ws))/\gH w' p (if Y5 m ws then ws.tail else ws)/\xl p W w':=by
 have hb:Below W.heap.size W (W.alloc (.cells #[xf m] 9)):=(zf _ _).alloc (zy _) _;refine(iQ p [m] ws _ _ (hp.below hb) (iD _ m _ (xq _ _ _ _ _)) (by simp)).mono ?_;rintro e w' ⟨rfl,h1,h2,_⟩;have e:FL [m] ws=Y5 m ws:=by simp[FL]
 rw[e] at h1 ⊢;exact⟨rfl,h1,(xl.of hb).trans h2⟩
theorem iB(p:Nat)(wi:Bool)(ws:List Wd)(w:World)(hp:gH w p ws)(hx:∀ x∈ws,EZ x)(hT:RT p w)(hl:ws.length<=1000) :
  Calls Tryz.prog 220 #[.pointer (some ⟨p,0,none⟩),.bool wi] w (zp5 p (qF wi (ws.length+1) [] ws) w):=by
 obtain⟨r,hr⟩:∃ r,qF wi (ws.length+1) [] ws=r:=⟨_,rfl⟩;rw[hr];have HX:=z7 hx;have HR:=z7 hr;have xC:=hp.lt;have HP:=z7 hp;have HT:=z7 hT;clear hr hx hp hT;go_enter func220,ntmps220;go_wp2;go_loopg [5,6] (ws.length+1) (fun n sv mo wr=>∃ more:Bool,mo = .bool more/\rQ p wi r (ws.length+1) w sv more n wr)
 case atStart=>exact⟨true,rfl,[],ws,Zl.nil _ _,HP.out,xl.refl _ _,by simp,HX.out,fun _=>⟨by omega,HR.out⟩,fun h=>by cases h⟩
 case round =>
  obtain⟨more,rfl,Ts,us,vL,EP,fg,hlen,PD,hmo,vR⟩:=hrel;have qB:=z7 vL;have HPA:=z7 EP;have HXS:=z7 PD;obtain⟨a,cap,rfl⟩:=vL.form;have xg1:=EP.lt
  cases more with
  | false =>
   have jN:=z7 (vR rfl);clear vR hmo vL EP PD;have Vx:=Lb Ts a cap w.heap.size wr (by omega) fg.size qB.out.tests;have HSM:=z7 Vx;clear Vx;go_wp2_with fail;refine HSM.out.mono ?_;rintro e w1 ⟨⟨v,rfl,ht⟩,xH⟩;have FM:=z7 ht;clear ht;go_wp2;go_ret;rw[←jN.out];exact⟨⟨⟨_,rfl,FM.out⟩,HPA.out.below xH⟩,fg.below xH⟩
  | true =>
   obtain⟨hlg,jR⟩:=hmo rfl;obtain⟨m,rfl⟩:∃ m,gk=m+1:=⟨gk - 1,by omega⟩;have bu:=z7 jR;have X0:=ft p us wr EP PD (HT.out.but fg);have Xi:=z7 X0;clear hmo vR jR vL EP PD X0;go_wp2_with fail;refine Xi.out.mono ?_;rintro e w1 ⟨hq,xH⟩
   cases hn:kR us with
   | none =>
    rw[hn] at hq;obtain rfl:=hq;go_wp2;refine⟨rfl,?_,fg.trans xH⟩;have vZ:r=none:=by rw[←bu.out,qF,VS,hn]
    rw[vZ]
   | some q =>
    obtain⟨va,t⟩:=q;rw[hn] at hq;obtain⟨rfl,UH⟩:=hq;obtain⟨rK,Kb,JC⟩:=jV hn;have Yt:=fg.trans xH;have HN:=z7 hn;have Ki:=z7 UH;have zp6:=z7 (qB.out.but xH xC);have HXT:=z7 (fun x hx=>HXS.out x (Kb x hx));clear hn UH Kb;go_wp2_with fail;refine(fh p [46,46] t _ Ki.out).mono ?_;rintro e w2 ⟨rfl,Xx,xB⟩;have ue:=Yt.trans xB;have FN:=z7 (zp6.out.but xB xC);have F7:=z7 Xx;clear Xx
    cases hd:Y5 [46,46] t
    ·have ju:=F7.out;rw[hd] at ju;have QP:=z7 ju;have BR:VS us=some ((va,va),t):=by rw[VS,HN.out];simp[hd]
     have zj6:=z7 BR;clear ju hd BR;have HIT:=z7 (zj6.out);have zp7:decide ((va:Int)<(va:Int))=false:=by first|(simp;done)|(simp;omega)
     have LK:=QG va va wi w2 rK rK;have sJ:=z7 LK;clear LK;go_wp2_with fail;refine sJ.out.mono ?_;rintro e w4 ⟨⟨fv,rfl,hft⟩,uQ⟩;have JA:=QP.out.below uQ;have dh:=ue.below uQ;have LJ:=FN.out.but (xl.of (p:=p) uQ) xC;obtain⟨vs,UG,BS⟩:=LJ;have HFT:=z7 hft;have LG:=z7 JA;have D2:=z7 BS;have Dq:=z7 UG;obtain⟨kf,bX,rfl,_⟩:=hft;clear JA BS UG;go_wp2_with (at_builtin;refine Ye Ud rfl _ _ rfl w.heap.size _ Ts.length vs rfl (Dq.out.alloc _) ⟨w4.heap.size,0,none⟩ 1 1 [.func (.func kf) #[] bX] rfl rfl ?c1 ?c2 ?c3 ?c4 ?_)
     case c1=>exact cells_one (xq _ _ _ _ _)
     case c2=>intro u hu;simp at hu;subst hu;rfl
     case c3=>omega
     case c4=>have:=dh.size;simp;omega
     intro Qg w5 jc qt FO;have ZE:Below w4.heap.size w4 (w4.alloc (.cells #[.func (.func kf) #[] bX] 214)):=(zf _ _).alloc (zy _) _;have Xl:∀ g,(zF a Ts.length cap).ownBlock=some g->w.heap.size<=g/\g<w2.heap.size:=fun g hg=>by
      obtain⟨_,Sb,_⟩:=FN.out;exact Sb.lt g hg
     have Xm:Zl w.heap.size w5 Qg (Ts++[gQ va va wi]) :=
      Zl.more D2.out (by have:=Dq.out.1;omega) HFT.out (by have:=ue.size;omega) (zy _) (fun g hg => .inl (Xl g hg).2) ZE qt (by simpa using FO) jc
     have Iu:gH w5 p t:=(LG.out.below ZE).row (Dq.out.alloc _) xC qt;have jU:xl p w w5:=(dh.below ZE).OE qt (fun k hk=>(Xl k hk).1);obtain⟨a5,c5,rfl⟩:=xY jc;have FT:=z7 Xm;have Tc:=z7 Iu;clear Xm Iu jc qt FO ZE Xl;go_wp2_with fail;refine(fh p [44] t _ Tc.out).mono ?_;rintro e w6 ⟨rfl,Sd,gC⟩;have je:=jU.trans gC;have LF:=z7 (FT.out.but gC xC);have iC:=z7 (show qF wi (m+1) Ts us=if Y5 [44] t then qF wi m (Ts++[gQ va va wi]) (t).tail else some (Ts++[gQ va va wi],t) by rw[qF,HIT.out]);have iE:=z7 Sd;clear Sd
     cases jM:Y5 [44] t
     ·have OH:=iE.out;rw[jM] at OH;have OI:=iC.out;rw[jM,bu.out] at OI;have HQ6:=z7 OH;have HSQ:=z7 OI;clear jM OH OI;go_wp2;go_roundg 0
      case measure=>omega
      case rel=>exact⟨false,rfl,Ts++[gQ va va wi],t,by simpa using LF.out,HQ6.out,je,by simp;omega,HXT.out,(fun h=>by cases h),fun _=>HSQ.out.symm⟩
     ·have OH:=iE.out;rw[jM] at OH;have OI:=iC.out;rw[jM,bu.out] at OI;have HQ6:=z7 OH;have HSQ:=z7 OI;have xw:0<(t).length:=by
       cases ht:t with
       | nil=>rw[ht] at jM;cases jM
       | cons x y=>simp
      clear jM OH OI;go_wp2;go_roundg m
      case measure=>omega
      case rel=>exact⟨true,rfl,Ts++[gQ va va wi],(t).tail,by simpa using LF.out,HQ6.out,je,by simp;omega,fun x hx=>HXT.out x (zX hx),fun _=>⟨by simp;omega,HSQ.out.symm⟩,fun h=>by cases h⟩
    ·have ju:=F7.out;rw[hd] at ju;have QP:=z7 ju;have zp9:=z7 (fun x hx=>HXT.out x (zX hx));have wC:=ft p t.tail w2 QP.out zp9.out (HT.out.but ue);have zpz:=z7 wC;have HD:=z7 hd;clear ju hd wC;go_wp2_with fail;refine zpz.out.mono ?_;rintro e w3 ⟨XY,uP⟩
     cases dE:kR t.tail with
     | none =>
      rw[dE] at XY;obtain rfl:=XY;have vZ:r=none:=by rw[←bu.out,qF,VS,HN.out];simp[HD.out,dE]
      go_wp2;refine⟨rfl,?_,ue.trans uP⟩;first|rfl|(rw[vZ])
     | some q =>
      obtain⟨vb,t2⟩:=q;rw[dE] at XY;obtain⟨rfl,ET⟩:=XY;obtain⟨hvb,wE,xg3⟩:=jV dE;have xg4:t2.length+1<=t.length:=by
       have:t.tail.length<=t.length:=by simp
       omega
      have dp:=ue.trans uP;have LD:=z7 (FN.out.but uP xC);have iH:=z7 ET;have HX3:=z7 (fun x hx=>zp9.out x (wE x hx));have iI:VS us=if vb<va then none else some ((va,vb),t2):=by rw[VS,HN.out];simp[HD.out,dE]
      have wH:=z7 iI;clear ET dE wE iI;by_cases hba:vb<va
      ·have vZ:r=none:=by rw[←bu.out,qF,wH.out,if_pos hba]
       have zp7:decide ((vb:Int)<(va:Int))=true:=by simp;omega
       go_wp2;refine⟨rfl,?_,dp⟩;first|rfl|(rw[vZ])
      ·have BR:=wH.out;rw[if_neg hba] at BR;have zj6:=z7 BR;clear BR;have HIT:=z7 (zj6.out);have zp7:decide ((vb:Int)<(va:Int))=false:=by first|(simp;done)|(simp;omega)
       have LK:=QG va vb wi w3 rK hvb;have sJ:=z7 LK;clear LK;go_wp2_with fail;refine sJ.out.mono ?_;rintro e w4 ⟨⟨fv,rfl,hft⟩,uQ⟩;have JA:=iH.out.below uQ;have dh:=dp.below uQ;have LJ:=LD.out.but (xl.of (p:=p) uQ) xC;obtain⟨vs,UG,BS⟩:=LJ;have HFT:=z7 hft;have LG:=z7 JA;have D2:=z7 BS;have Dq:=z7 UG;obtain⟨kf,bX,rfl,_⟩:=hft;clear JA BS UG;go_wp2_with (at_builtin;refine Ye Ud rfl _ _ rfl w.heap.size _ Ts.length vs rfl (Dq.out.alloc _) ⟨w4.heap.size,0,none⟩ 1 1 [.func (.func kf) #[] bX] rfl rfl ?c1 ?c2 ?c3 ?c4 ?_)
       case c1=>exact cells_one (xq _ _ _ _ _)
       case c2=>intro u hu;simp at hu;subst hu;rfl
       case c3=>omega
       case c4=>have:=dh.size;simp;omega
       intro Qg w5 jc qt FO;have ZE:Below w4.heap.size w4 (w4.alloc (.cells #[.func (.func kf) #[] bX] 214)):=(zf _ _).alloc (zy _) _;have Xl:∀ g,(zF a Ts.length cap).ownBlock=some g->w.heap.size<=g/\g<w3.heap.size:=fun g hg=>by
        obtain⟨_,Sb,_⟩:=LD.out;exact Sb.lt g hg
       have Xm:Zl w.heap.size w5 Qg (Ts++[gQ va vb wi]) :=
        Zl.more D2.out (by have:=Dq.out.1;omega) HFT.out (by have:=dp.size;omega) (zy _) (fun g hg => .inl (Xl g hg).2) ZE qt (by simpa using FO) jc
       have Iu:gH w5 p t2:=(LG.out.below ZE).row (Dq.out.alloc _) xC qt;have jU:xl p w w5:=(dh.below ZE).OE qt (fun k hk=>(Xl k hk).1);obtain⟨a5,c5,rfl⟩:=xY jc;have FT:=z7 Xm;have Tc:=z7 Iu;clear Xm Iu jc qt FO ZE Xl;go_wp2_with fail;refine(fh p [44] t2 _ Tc.out).mono ?_;rintro e w6 ⟨rfl,Sd,gC⟩;have je:=jU.trans gC;have LF:=z7 (FT.out.but gC xC);have iC:=z7 (show qF wi (m+1) Ts us=if Y5 [44] t2 then qF wi m (Ts++[gQ va vb wi]) (t2).tail else some (Ts++[gQ va vb wi],t2) by rw[qF,HIT.out]);have iE:=z7 Sd;clear Sd
       cases jM:Y5 [44] t2
       ·have OH:=iE.out;rw[jM] at OH;have OI:=iC.out;rw[jM,bu.out] at OI;have HQ6:=z7 OH;have HSQ:=z7 OI;clear jM OH OI;go_wp2;go_roundg 0
        case measure=>omega
        case rel=>exact⟨false,rfl,Ts++[gQ va vb wi],t2,by simpa using LF.out,HQ6.out,je,by simp;omega,HX3.out,(fun h=>by cases h),fun _=>HSQ.out.symm⟩
       ·have OH:=iE.out;rw[jM] at OH;have OI:=iC.out;rw[jM,bu.out] at OI;have HQ6:=z7 OH;have HSQ:=z7 OI;have xw:0<(t2).length:=by
         cases ht:t2 with
         | nil=>rw[ht] at jM;cases jM
         | cons x y=>simp
        clear jM OH OI;go_wp2;go_roundg m
        case measure=>omega
        case rel=>exact⟨true,rfl,Ts++[gQ va vb wi],(t2).tail,by simpa using LF.out,HQ6.out,je,by simp;omega,fun x hx=>HX3.out x (zX hx),fun _=>⟨by simp;omega,HSQ.out.symm⟩,fun h=>by cases h⟩
structure Sub(t ws:List Wd):Prop where
 mem:∀ x∈t,x∈ws
 len:t.length<=ws.length
theorem Sub.refl(ws:List Wd):Sub ws ws:=⟨fun _ h=>h,zy _⟩
theorem Sub.trans{a b c:List Wd}(h:Sub a b)(k:Sub b c):Sub a c:=⟨fun x hx=>k.mem x (h.mem x hx),zk h.len k.len⟩
theorem Sub.tail(ws:List Wd):Sub ws.tail ws:=⟨fun _ h=>zX h,by simp⟩
theorem Yg{ws t:List Wd}{v:Nat}(h:kR ws=some (v,t)):Sub t ws:=⟨(jV h).2.1,by have:=(jV h).2.2;omega⟩
theorem BW{ws t:List Wd}{q:Nat×Nat}(h:VS ws=some (q,t)):Sub t ws:=by
 unfold VS at h
 cases hn:kR ws with
 | none=>rw[hn] at h;cases h
 | some r =>
  obtain⟨a,u⟩:=r;rw[hn] at h;dsimp only at h;have hs:=Yg hn;by_cases hd:Y5 [46,46] u=true
  ·rw[if_pos hd] at h
   cases dE:kR u.tail with
   | none=>rw[dE] at h;cases h
   | some r2 =>
    obtain⟨b,u2⟩:=r2;rw[dE] at h;dsimp only at h;by_cases hb:b<a
    ·rw[if_pos hb] at h;cases h
    ·rw[if_neg hb] at h
     cases h;exact((Yg dE).trans (Sub.tail u)).trans hs
  ·rw[if_neg hd] at h
   cases h;exact hs
theorem Jz{wi:Bool}:∀ {n:Nat} {acc ts:List qe} {ws t:List Wd},qF wi n acc ws=some (ts,t)->Sub t ws
 | 0,_,_,_,_,h=>by cases h
 | n+1,acc,ts,ws,t,h=>by
  rw[qF] at h
  cases hi:VS ws with
  | none=>rw[hi] at h;cases h
  | some r =>
   obtain⟨q,u⟩:=r;rw[hi] at h;dsimp only at h;by_cases hc:Y5 [44] u=true
   ·rw[if_pos hc] at h;exact((Jz h).trans (Sub.tail u)).trans (BW hi)
   ·rw[if_neg hc] at h
    cases h;exact BW hi
theorem Te{wi:Bool}{ws t:List Wd}{T:qe}(h:jE wi ws=some (T,t)):Sub t ws:=by
 unfold jE at h
 cases hg:qF wi (ws.length+1) [] ws with
 | none=>rw[hg] at h;cases h
 | some r =>
  obtain⟨ts,u⟩:=r;rw[hg] at h
  cases h;exact Jz hg
def Yi(p:Nat)(r:Option (qe×List Wd))(w:World)(e:Ending)(w':World):Prop :=
 (match r with|none=>e=EY|some (T,t)=>(∃ v,e = .returned v/\kK w.heap.size w'.heap.size w' v T)/\gH w' p t)/\xl p w w'
theorem bH(p:Nat)(wi:Bool)(ws:List Wd)(w:World)(hp:gH w p ws)(hx:∀ x∈ws,EZ x)(hT:RT p w)(hl:ws.length<=1000) :
  Calls Tryz.prog 220 #[.pointer (some ⟨p,0,none⟩),.bool wi] w (Yi p (jE wi ws) w):=by
 refine(iB p wi ws w hp hx hT hl).mono ?_;rintro e w' ⟨h,hb⟩;refine⟨?_,hb⟩;unfold jE
 cases hg:qF wi (ws.length+1) [] ws with
 | none=>rw[hg] at h;exact h
 | some r =>
  obtain⟨ts,u⟩:=r;rw[hg] at h;exact h
def rJ(p:Nat)(r:Option ((qe×Bool)×List Wd))(w:World)(e:Ending)(w':World):Prop :=
 (match r with|none=>e=EY|some ((T,nt),t)=>(∃ v,e = .returned (.tuple #[v,.bool nt])/\kK w.heap.size w'.heap.size w' v T)/\gH w' p t)/\xl p w w'
theorem QD(p:Nat)(ws:List Wd)(w:World)(hp:gH w p ws)(hx:∀ x∈ws,EZ x)(hT:RT p w)(hl:ws.length<=1000) :
  Calls Tryz.prog 184 #[.pointer (some ⟨p,0,none⟩)] w (rJ p (u7 ws) w):=by
 obtain⟨r,hr⟩:∃ r,u7 ws=r:=⟨_,rfl⟩;rw[hr];have HX:=z7 hx;have HR:=z7 hr;have xC:=hp.lt;have HP:=z7 hp;have HT:=z7 hT;clear hr hx hp hT;go_enter func184,ntmps184;have L1:ws.tail.length<=1000:=by simp;omega
 have L2:ws.tail.tail.length<=1000:=by simp;omega
 have M1:∀ x∈ws.tail,EZ x:=fun x h=>HX.out x (zX h)
 have M2:∀ x∈ws.tail.tail,EZ x:=fun x h=>M1 x (zX h)
 have DQ:=z7 M1;have YJ:=z7 M2;clear M1 M2;go_wp2_with fail;refine(fh p [61] (ws) _ HP.out).mono ?_;rintro e w1 ⟨rfl,UH,xH⟩;have Yt:=xH;have zpy:=z7 UH;clear UH
 cases e1:Y5 [61] (ws)
 ·have hq:=zpy.out;rw[e1] at hq;have Ki:=z7 hq;have E1:=z7 e1;clear hq e1;go_wp2_with fail;refine(fh p [33,61] (ws) _ Ki.out).mono ?_;rintro e w2 ⟨rfl,Xx,xB⟩;have ue:=Yt.trans xB;have zpx:=z7 Xx;clear Xx
  cases e2:Y5 [33,61] (ws)
  ·have hq:=zpx.out;rw[e2] at hq;have F7:=z7 hq;have E2:=z7 e2;clear hq e2;go_wp2_with fail;refine(fh p [105,115] (ws) _ F7.out).mono ?_;rintro e w3 ⟨rfl,ET,uP⟩;have dp:=ue.trans uP;have zpv:=z7 ET;clear ET
   cases e3:Y5 [105,115] (ws)
   ·have hq:=zpv.out;rw[e3] at hq;have iH:=z7 hq;have E3:=z7 e3;clear hq e3;go_wp2_with fail;refine(fh p [110,111,116] (ws) _ iH.out).mono ?_;rintro e w4 ⟨rfl,JA,uQ⟩;have dh:=dp.trans uQ;have iL:=z7 JA;clear JA
    cases e4:Y5 [110,111,116] (ws)
    ·have hq:=iL.out;rw[e4] at hq;have LG:=z7 hq;have E4:=z7 e4;clear hq e4;go_wp2_with fail;refine(fh p [119,105,116,104,105,110] (ws) _ LG.out).mono ?_;rintro e w5 ⟨rfl,Iu,jw⟩;have jU:=dh.trans jw;have iM:=z7 Iu;clear Iu
     cases e5:Y5 [119,105,116,104,105,110] (ws)
     ·have hq:=iM.out;rw[e5] at hq;have Tc:=z7 hq;have E5:=z7 e5;clear hq e5;go_wp2_with fail;refine(fh p [105,110] (ws) _ Tc.out).mono ?_;rintro e w6 ⟨rfl,Sd,gC⟩;have je:=jU.trans gC;have iO:=z7 Sd;clear Sd
      cases e6:Y5 [105,110] (ws)
      ·have hq:=iO.out;rw[e6] at hq;have iE:=z7 hq;have E6:=z7 e6;clear hq e6;have vZ:r=none:=by
        rw[←HR.out];simp[u7,E1.out,E2.out,E3.out,E4.out,E5.out,E6.out]
       have gJ:=z7 vZ;clear vZ;go_wp2;refine⟨rfl,?_,je⟩;rw[gJ.out]
      ·have hq:=iO.out;rw[e6] at hq;have iE:=z7 hq;have E6:=z7 e6;clear hq e6;have Zx:=bH p false (ws.tail) w6 iE.out DQ.out (HT.out.but je) L1;have HL:=z7 Zx;clear Zx;go_wp2_with fail;refine HL.out.mono ?_;rintro e w7 ⟨hq,jI⟩;have ji:=je.trans jI;have fU:r=(jE false (ws.tail)).map fun q=>((q.1,false),q.2):=by
        rw[←HR.out];simp[u7,E1.out,E2.out,E3.out,E4.out,E5.out,E6.out]
       have gI:=z7 fU;clear fU
       cases hn:jE false (ws.tail) with
       | none =>
        rw[hn] at hq;obtain rfl:=hq;have vZ:=gI.out;rw[hn] at vZ;have gJ:=z7 vZ;clear vZ hn;go_wp2;refine⟨rfl,?_,ji⟩;rw[gJ.out];rfl
       | some q =>
        obtain⟨T,t⟩:=q;rw[hn] at hq;obtain⟨⟨v,rfl,ht⟩,FW⟩:=hq;have vZ:=gI.out;rw[hn] at vZ;have gJ:=z7 vZ;have FM:=z7 ht;have Ky:=z7 FW;clear vZ hn ht FW;go_wp2;go_ret2
        refine⟨?_,ji⟩;rw[gJ.out];exact⟨⟨v,rfl,FM.out.keep (vg (zy _)) je.size (zy _)⟩,Ky.out⟩
     ·have hq:=iM.out;rw[e5] at hq;have Tc:=z7 hq;have E5:=z7 e5;clear hq e5;have Zx:=bH p true (ws.tail) w5 Tc.out DQ.out (HT.out.but jU) L1;have HL:=z7 Zx;clear Zx;go_wp2_with fail;refine HL.out.mono ?_;rintro e w6 ⟨hq,gC⟩;have je:=jU.trans gC;have fU:r=(jE true (ws.tail)).map fun q=>((q.1,false),q.2):=by
       rw[←HR.out];simp[u7,E1.out,E2.out,E3.out,E4.out,E5.out]
      have gI:=z7 fU;clear fU
      cases hn:jE true (ws.tail) with
      | none =>
       rw[hn] at hq;obtain rfl:=hq;have vZ:=gI.out;rw[hn] at vZ;have gJ:=z7 vZ;clear vZ hn;go_wp2;refine⟨rfl,?_,je⟩;rw[gJ.out];rfl
      | some q =>
       obtain⟨T,t⟩:=q;rw[hn] at hq;obtain⟨⟨v,rfl,ht⟩,FW⟩:=hq;have vZ:=gI.out;rw[hn] at vZ;have gJ:=z7 vZ;have FM:=z7 ht;have Ky:=z7 FW;clear vZ hn ht FW;go_wp2;go_ret2
       refine⟨?_,je⟩;rw[gJ.out];exact⟨⟨v,rfl,FM.out.keep (vg (zy _)) jU.size (zy _)⟩,Ky.out⟩
    ·have hq:=iL.out;rw[e4] at hq;have LG:=z7 hq;have E4:=z7 e4;clear hq e4;go_wp2_with fail;refine(fh p [119,105,116,104,105,110] (ws.tail) _ LG.out).mono ?_;rintro e w5 ⟨rfl,Iu,jw⟩;have jU:=dh.trans jw;have iM:=z7 Iu;clear Iu
     cases e5:Y5 [119,105,116,104,105,110] (ws.tail)
     ·have hq:=iM.out;rw[e5] at hq;have Tc:=z7 hq;have E5:=z7 e5;clear hq e5;go_wp2_with fail;refine(fh p [105,110] (ws.tail) _ Tc.out).mono ?_;rintro e w6 ⟨rfl,Sd,gC⟩;have je:=jU.trans gC;have iO:=z7 Sd;clear Sd
      cases e6:Y5 [105,110] (ws.tail)
      ·have hq:=iO.out;rw[e6] at hq;have iE:=z7 hq;have E6:=z7 e6;clear hq e6;have vZ:r=none:=by
        rw[←HR.out];simp[u7,E1.out,E2.out,E3.out,E4.out,E5.out,E6.out]
       have gJ:=z7 vZ;clear vZ;go_wp2;refine⟨rfl,?_,je⟩;rw[gJ.out]
      ·have hq:=iO.out;rw[e6] at hq;have iE:=z7 hq;have E6:=z7 e6;clear hq e6;have Zx:=bH p false (ws.tail.tail) w6 iE.out YJ.out (HT.out.but je) L2;have HL:=z7 Zx;clear Zx;go_wp2_with fail;refine HL.out.mono ?_;rintro e w7 ⟨hq,jI⟩;have ji:=je.trans jI;have fU:r=(jE false (ws.tail.tail)).map fun q=>((q.1,true),q.2):=by
        rw[←HR.out];simp[u7,E1.out,E2.out,E3.out,E4.out,E5.out,E6.out]
       have gI:=z7 fU;clear fU
       cases hn:jE false (ws.tail.tail) with
       | none =>
        rw[hn] at hq;obtain rfl:=hq;have vZ:=gI.out;rw[hn] at vZ;have gJ:=z7 vZ;clear vZ hn;go_wp2;refine⟨rfl,?_,ji⟩;rw[gJ.out];rfl
       | some q =>
        obtain⟨T,t⟩:=q;rw[hn] at hq;obtain⟨⟨v,rfl,ht⟩,FW⟩:=hq;have vZ:=gI.out;rw[hn] at vZ;have gJ:=z7 vZ;have FM:=z7 ht;have Ky:=z7 FW;clear vZ hn ht FW;go_wp2;go_ret2
        refine⟨?_,ji⟩;rw[gJ.out];exact⟨⟨v,rfl,FM.out.keep (vg (zy _)) je.size (zy _)⟩,Ky.out⟩
     ·have hq:=iM.out;rw[e5] at hq;have Tc:=z7 hq;have E5:=z7 e5;clear hq e5;have Zx:=bH p true (ws.tail.tail) w5 Tc.out YJ.out (HT.out.but jU) L2;have HL:=z7 Zx;clear Zx;go_wp2_with fail;refine HL.out.mono ?_;rintro e w6 ⟨hq,gC⟩;have je:=jU.trans gC;have fU:r=(jE true (ws.tail.tail)).map fun q=>((q.1,true),q.2):=by
       rw[←HR.out];simp[u7,E1.out,E2.out,E3.out,E4.out,E5.out]
      have gI:=z7 fU;clear fU
      cases hn:jE true (ws.tail.tail) with
      | none =>
       rw[hn] at hq;obtain rfl:=hq;have vZ:=gI.out;rw[hn] at vZ;have gJ:=z7 vZ;clear vZ hn;go_wp2;refine⟨rfl,?_,je⟩;rw[gJ.out];rfl
      | some q =>
       obtain⟨T,t⟩:=q;rw[hn] at hq;obtain⟨⟨v,rfl,ht⟩,FW⟩:=hq;have vZ:=gI.out;rw[hn] at vZ;have gJ:=z7 vZ;have FM:=z7 ht;have Ky:=z7 FW;clear vZ hn ht FW;go_wp2;go_ret2
       refine⟨?_,je⟩;rw[gJ.out];exact⟨⟨v,rfl,FM.out.keep (vg (zy _)) jU.size (zy _)⟩,Ky.out⟩
   ·have hq:=zpv.out;rw[e3] at hq;have iH:=z7 hq;have E3:=z7 e3;clear hq e3;go_wp2_with fail;refine(fh p [110,111,116] (ws.tail) _ iH.out).mono ?_;rintro e w4 ⟨rfl,JA,uQ⟩;have dh:=dp.trans uQ;have iL:=z7 JA;clear JA
    cases e4:Y5 [110,111,116] (ws.tail)
    ·have hq:=iL.out;rw[e4] at hq;have LG:=z7 hq;have E4:=z7 e4;clear hq e4;have Zx:=ft p (ws.tail) w4 LG.out DQ.out (HT.out.but dh);have HL:=z7 Zx;clear Zx;go_wp2_with fail;refine HL.out.mono ?_;rintro e w5 ⟨hq,jw⟩;have jU:=dh.trans jw;have fU:r=(kR (ws.tail)).map fun q=>((gQ q.1 q.1 false,false),q.2):=by
      rw[←HR.out];simp[u7,E1.out,E2.out,E3.out,E4.out]
     have gI:=z7 fU;clear fU
     cases hn:kR (ws.tail) with
     | none =>
      rw[hn] at hq;obtain rfl:=hq;have vZ:=gI.out;rw[hn] at vZ;have gJ:=z7 vZ;clear vZ hn;go_wp2;refine⟨rfl,?_,jU⟩;rw[gJ.out];rfl
     | some q =>
      obtain⟨va,t⟩:=q;rw[hn] at hq;obtain⟨rfl,FW⟩:=hq;have rK:=(jV hn).1;have vZ:=gI.out;rw[hn] at vZ;have gJ:=z7 vZ;have Ky:=z7 FW;have iP:=z7 (QG va va false w5 rK rK);clear vZ hn FW;go_wp2_with fail;refine iP.out.mono ?_;rintro e w6 ⟨⟨v,rfl,ht⟩,gC⟩;have FM:=z7 ht;clear ht;go_wp2;go_ret2
      refine⟨?_,jU.below gC⟩;rw[gJ.out];exact⟨⟨v,rfl,FM.out.keep (vg (zy _)) jU.size (zy _)⟩,Ky.out.below gC⟩
    ·have hq:=iL.out;rw[e4] at hq;have LG:=z7 hq;have E4:=z7 e4;clear hq e4;have Zx:=ft p (ws.tail.tail) w4 LG.out YJ.out (HT.out.but dh);have HL:=z7 Zx;clear Zx;go_wp2_with fail;refine HL.out.mono ?_;rintro e w5 ⟨hq,jw⟩;have jU:=dh.trans jw;have fU:r=(kR (ws.tail.tail)).map fun q=>((gQ q.1 q.1 false,true),q.2):=by
      rw[←HR.out];simp[u7,E1.out,E2.out,E3.out,E4.out]
     have gI:=z7 fU;clear fU
     cases hn:kR (ws.tail.tail) with
     | none =>
      rw[hn] at hq;obtain rfl:=hq;have vZ:=gI.out;rw[hn] at vZ;have gJ:=z7 vZ;clear vZ hn;go_wp2;refine⟨rfl,?_,jU⟩;rw[gJ.out];rfl
     | some q =>
      obtain⟨va,t⟩:=q;rw[hn] at hq;obtain⟨rfl,FW⟩:=hq;have rK:=(jV hn).1;have vZ:=gI.out;rw[hn] at vZ;have gJ:=z7 vZ;have Ky:=z7 FW;have iP:=z7 (QG va va false w5 rK rK);clear vZ hn FW;go_wp2_with fail;refine iP.out.mono ?_;rintro e w6 ⟨⟨v,rfl,ht⟩,gC⟩;have FM:=z7 ht;clear ht;go_wp2;go_ret2
      refine⟨?_,jU.below gC⟩;rw[gJ.out];exact⟨⟨v,rfl,FM.out.keep (vg (zy _)) jU.size (zy _)⟩,Ky.out.below gC⟩
  ·have hq:=zpx.out;rw[e2] at hq;have F7:=z7 hq;have E2:=z7 e2;clear hq e2;have Zx:=bH p false (ws.tail) w2 F7.out DQ.out (HT.out.but ue) L1;have HL:=z7 Zx;clear Zx;go_wp2_with fail;refine HL.out.mono ?_;rintro e w3 ⟨hq,uP⟩;have dp:=ue.trans uP;have fU:r=(jE false (ws.tail)).map fun q=>((q.1,true),q.2):=by
    rw[←HR.out];simp[u7,E1.out,E2.out]
   have gI:=z7 fU;clear fU
   cases hn:jE false (ws.tail) with
   | none =>
    rw[hn] at hq;obtain rfl:=hq;have vZ:=gI.out;rw[hn] at vZ;have gJ:=z7 vZ;clear vZ hn;go_wp2;refine⟨rfl,?_,dp⟩;rw[gJ.out];rfl
   | some q =>
    obtain⟨T,t⟩:=q;rw[hn] at hq;obtain⟨⟨v,rfl,ht⟩,FW⟩:=hq;have vZ:=gI.out;rw[hn] at vZ;have gJ:=z7 vZ;have FM:=z7 ht;have Ky:=z7 FW;clear vZ hn ht FW;go_wp2;go_ret2
    refine⟨?_,dp⟩;rw[gJ.out];exact⟨⟨v,rfl,FM.out.keep (vg (zy _)) ue.size (zy _)⟩,Ky.out⟩
 ·have hq:=zpy.out;rw[e1] at hq;have Ki:=z7 hq;have E1:=z7 e1;clear hq e1;have Zx:=bH p false (ws.tail) w1 Ki.out DQ.out (HT.out.but Yt) L1;have HL:=z7 Zx;clear Zx;go_wp2_with fail;refine HL.out.mono ?_;rintro e w2 ⟨hq,xB⟩;have ue:=Yt.trans xB;have fU:r=(jE false (ws.tail)).map fun q=>((q.1,false),q.2):=by
   rw[←HR.out];simp[u7,E1.out]
  have gI:=z7 fU;clear fU
  cases hn:jE false (ws.tail) with
  | none =>
   rw[hn] at hq;obtain rfl:=hq;have vZ:=gI.out;rw[hn] at vZ;have gJ:=z7 vZ;clear vZ hn;go_wp2;refine⟨rfl,?_,ue⟩;rw[gJ.out];rfl
  | some q =>
   obtain⟨T,t⟩:=q;rw[hn] at hq;obtain⟨⟨v,rfl,ht⟩,FW⟩:=hq;have vZ:=gI.out;rw[hn] at vZ;have gJ:=z7 vZ;have FM:=z7 ht;have Ky:=z7 FW;clear vZ hn ht FW;go_wp2;go_ret2
   refine⟨?_,ue⟩;rw[gJ.out];exact⟨⟨v,rfl,FM.out.keep (vg (zy _)) Yt.size (zy _)⟩,Ky.out⟩
end Go.Proofs.YthpldolmpinnhaaGreatDoor
