import Derived.Test.YthpldolmpinnhaaGreatDoorJK36
import Derived.Laws.RangeAny
import Derived.Test.YthpldolmpinnhaaGreatDoorShelf
set_option maxHeartbeats 64000000
open Go.Lib renaming hid→z7
open Go.World renaming block_lt_of_cell?→z8,cell?_setCell_other→zy,frozen?_of_block→zv,cell?_setCell_same→zk,cell?_alloc_some→zY,cell?_of_block→zG,setCell→za,iterPos_iter→zl
open Nat renaming le_refl→zx,le_trans→zJ,zero_le→zF,le_add_right→zN,lt_of_lt_of_le→zt
open And renaming intro→zu
open Go.Value renaming ownBlock→zj,slice→zE
open List renaming getElem?_eq_some_iff→zg,take_succ_eq_append_getElem→zf,getElem?_eq_getElem→zZ,drop_eq_getElem_cons→zU,take_length→zI,getElem_mem→zL,eq_nil_of_length_eq_zero→zO,setIfInBounds_toArray→zS,mem_of_getElem?→zi,length_pos_iff→zm,set_cons_zero→zo,set_cons_succ→zr,any_eq_true→zh,any_append→yz
open Go.RowKit.Below renaming refl→zX,heap_setCell→zQ
open Option.some renaming inj→zV
open Go.Instr renaming makeFunc→zD
open Go.IntKind renaming wrap_i64→zH,i64→zM
open Go.World.ownsRow renaming drew→zP
open ByteArray renaming mk→zR
open Bool renaming false_and→zW,true_and→zc,and_eq_false_iff→ze,and_eq_true→zw
open Go.AllReadyH renaming cons→zn
open Go.Proofs.Tryz
namespace Go.Proofs.YthpldolmpinnhaaGreatDoor
open Go Go.RowKit
set_option maxRecDepth 10000
def Nn:Nat->Wd->Bool
 | _,[]=>true
 | i,c::t=>(jb (c.toNat:Int) ||(!decide (i=0) && qK (c.toNat:Int))) && Nn (i+1) t
def fG(s:Wd):Bool:=Nn 0 s && (decide (0<s.length) && decide (s.length<=16))
theorem JE{r:Nat}(h:128<=r):jb (r:Int)=false/\qK (r:Int)=false:=by
 constructor
 ·simp only[jb,Bool.or_eq_false_iff,ze,decide_eq_false_iff_not,beq_eq_false_iff_ne,ne_eq];omega
 ·simp only[qK,ze,decide_eq_false_iff_not];omega
theorem Sp(t:Wd)(w:World)(ht:t.length<=5000000):Calls Tryz.prog 83 #[xk t] w fun e w'=>e = .returned (.bool (fG t))/\Fr xN xN w w':=by
 obtain⟨s,hs⟩:∃ s,zR t.toArray=s:=⟨_,rfl⟩;have qa:s.size=t.length:=by rw[←hs,size_mk]
 have U9:∀ (k:Nat) (h:k<s.size),∃ c,t[k]? = some c/\s[k]'h=c:=by
  intro k h;subst hs;exact⟨_,zZ (by rw[size_mk] at h;exact h),by rfl⟩
 obtain⟨n,hn⟩:∃ n,t.length=n:=⟨_,rfl⟩;have QX:=z7 U9;have fS:=z7 qa;have HN:=z7 hn;have HT:=z7 ht;rw[show xk t = .string s from congrArg Value.string hs];have j5:s.size=n:=qa.trans hn;have HL:=z7 j5;clear hs qa hn ht j5 U9;go_enter func83,ntmps83;go_wp2_with fail;go_loopw [] (fun wr=>∃ pos,wr=w.iter s pos/\pos<=n/\Nn 0 t=Nn pos (t.drop pos)) (fun wr=>n - wr.iterPos w.heap.size)
 case atStart=>exact⟨0,rfl,zF _,rfl⟩
 case round =>
  obtain⟨pos,rfl,hp,hg⟩:=hrel;have HG:=z7 hg;clear hg;by_cases xC:pos<s.size
  ·obtain⟨c,hc,hsc⟩:=QX.out pos xC;have sN:t.drop pos=c::t.drop (pos+1):=by
    obtain⟨h1,h2⟩:=zg.1 hc;rw[zU h1,h2]
   have dV:=HG.out;rw[sN,Nn] at dV;have HG2:=z7 dV;clear sN dV;by_cases ha:c.toNat<128
   ·have CJ:=fun ty=>run_next_ascii (P:=Tryz.prog) w s pos ty xC (by rw[hsc];exact ha)
    rw[hsc] at CJ;obtain⟨l,hl⟩:∃ b,jb (c.toNat:Int)=b:=⟨_,rfl⟩;obtain⟨dg,OK⟩:∃ b,qK (c.toNat:Int)=b:=⟨_,rfl⟩;obtain⟨r,hr⟩:∃ r:Int,(c.toNat:Int)=r:=⟨_,rfl⟩;rw[hr] at CJ hl OK;have LS:=fun W=>z7 (hl▸VC r W)
    have HDG:=fun W=>z7 (OK▸Xn r W)
    have HX:=z7 (show Nn 0 t=((l ||(!decide (pos=0) && dg)) && Nn (pos+1) (t.drop (pos+1))) by have:=HG2.out;rw[hr,hl,OK] at this;exact this);have A9:=z7 (show pos+1<=n by have:=HL.out;omega);clear hl OK hr hsc hc ha xC;have HB:l=false->(pos=0\/dg=false)->fG t=false:=fun h1 h2=>by
     unfold fG;rw[HX.out,h1];rcases h2 with h2|h2<;>simp[h2]
    have HB:=z7 HB;go_wp2_with fail;refine(LS _).out.mono ?_;rintro e w' ⟨rfl,rfl⟩
    cases l with
    | true =>
     go_wp2;go_roundw
     case measure=>simp only[zl];have:=A9.out;omega
     case rel=>exact⟨pos+1,rfl,A9.out,by rw[HX.out];simp⟩
    | false =>
     by_cases h0:pos=0
     ·subst h0;go_wp2;go_ret;exact⟨by rw[HB.out (by simp) (by simp)];rfl,(Fr.refl xN w).alloc _⟩
     ·have g0:((pos:Int)=0)=False:=by simp;omega
      go_wp2_with fail;refine(HDG _).out.mono ?_;rintro e w' ⟨rfl,rfl⟩
      cases dg with
      | false =>
       go_wp2;go_ret;exact⟨by rw[HB.out (by simp) (by simp)];rfl,(Fr.refl xN w).alloc _⟩
      | true =>
       go_wp2;go_roundw
       case measure=>simp only[zl];have:=A9.out;omega
       case rel=>exact⟨pos+1,rfl,A9.out,by rw[HX.out];simp[h0]⟩
   ·have CJ:=fun ty=>run_next_any (P:=Tryz.prog) w s pos ty xC
    obtain⟨h1,-⟩:=decode_high s pos xC (by rw[hsc];omega);obtain⟨r,hr⟩:∃ r,(Utf8.decode s pos).1=r:=⟨_,rfl⟩;obtain⟨z,hz⟩:∃ z,(Utf8.decode s pos).2=z:=⟨_,rfl⟩;rw[hr,hz] at CJ;rw[hr] at h1;have LS:=fun W=>z7 ((JE h1).1▸VC r W)
    have HDG:=fun W=>z7 ((JE h1).2▸Xn r W)
    have HB:=z7 (show fG t=false by
     unfold fG;rw[HG2.out,(JE (r:=c.toNat) (by omega)).1,(JE (r:=c.toNat) (by omega)).2];simp)
    clear hr hz hsc hc ha xC h1;go_wp2_with fail;refine(LS _).out.mono ?_;rintro e w' ⟨rfl,rfl⟩;by_cases h0:pos=0
    ·subst h0;go_wp2;go_ret;exact⟨by rw[HB.out];rfl,(Fr.refl xN w).alloc _⟩
    ·have g0:((pos:Int)=0)=False:=by simp;omega
     go_wp2_with fail;refine(HDG _).out.mono ?_;rintro e w' ⟨rfl,rfl⟩;go_wp2;go_ret;exact⟨by rw[HB.out];rfl,(Fr.refl xN w).alloc _⟩
  ·have CJ:=fun ty=>run_next_end (P:=Tryz.prog) w s pos ty xC
   have HB:=z7 (show fG t=(decide (0<n) && decide (n<=16)) by
    unfold fG;rw[HG.out,List.drop_eq_nil_of_le (by have:=HL.out;have:=HN.out;omega),HN.out];rfl)
   clear xC hp;have e:=HL.out;subst e;by_cases h0:0<s.size
   ·have g0:(0:Int)<(s.size:Int):=by omega
    by_cases h1:s.size<=16
    ·have g1:(s.size:Int)<=16:=by omega
     go_wp2;go_ret;exact⟨by rw[HB.out];simp[h0,h1],(Fr.refl xN w).alloc _⟩
    ·have g1:¬(s.size:Int)<=16:=by omega
     go_wp2;go_ret;exact⟨by rw[HB.out];simp[h0,h1],(Fr.refl xN w).alloc _⟩
   ·have g0:¬(0:Int)<(s.size:Int):=by omega
    go_wp2;go_ret;exact⟨by rw[HB.out];simp[h0],(Fr.refl xN w).alloc _⟩
theorem JH(p:Value)(ty ty':TypeId)(w:World):(Instr.next p false ty).run Tryz.prog w=(Instr.next p false ty').run Tryz.prog w:=rfl
theorem kM{row:Option Nat}{w w':World}(hg:w.grownBy w' row):Fr (fun k=>row=some k) (fun k=>row=some k) w w' :=
 ⟨hg.os,hg.tape,hg.output,hg.size,fun k hk hn=>hg.block k hk (fun e=>hn e.symm),fun _ q => .inl q⟩
def YB(f:Wd->Option (Wd×Bool))(z:Nat):Prop:=z<=16/\∀ m x,f m=some x->fG m=true/\fg x.1 x.2=true
def zm0(b n z:Nat)(f:Wd->Option (Wd×Bool))(w:World)(e:Ending)(w':World):Prop :=
 ((YB f z/\∃ c,e = .returned (.tuple #[cO c,.bool true])/\om b c n z f () w'/\w.heap.size<=c)\/(¬YB f z/\e = .returned (.tuple #[.nilFunc,.bool false])))/\Fr xN xN w w'
theorem cP{b n z:Nat}{f:Wd->Option (Wd×Bool)}{w:World}(h:js w b n z f)(hl:∀ m x,f m=some x->m.length<=5000000/\x.1.length<=1000000)(Gf:z<=1000000000) :
  Calls Tryz.prog 52 #[.map (some b)] w (zm0 b n z f w):=by
 have R0:∀ (fn:Fn) (first cap:Array Value) (w:World),(zD fn first cap).run Tryz.prog w = .ok (.func fn first cap) w:=fun _ _ _ _=>rfl
 have xC:=h.lt;obtain⟨W,hW⟩:∃ W,w.alloc (.cells #[.map (some b)] 82)=W:=⟨_,rfl⟩;have uq:Fr xN xN w W:=by rw[←hW];exact(Fr.refl xN w).alloc _
 have hmW:js W b n z f:=h.fr uq id;have hcW:W.cell? ⟨w.heap.size,0,none⟩=some (.map (some b)):=by rw[←hW];exact xu w #[.map (some b)] _ (0,0) 0
 have SE:W.heap.size=w.heap.size+1:=by rw[←hW];simp
 have j5:=hmW.len 3;obtain⟨w2,rL,hR,dV,uw⟩:=hmW.range;obtain⟨c,hc⟩:∃ c,w.heap.size=c:=⟨_,rfl⟩;rw[hc] at hcW SE;rw[SE] at rL hR;have vG:Fr xN xN w w2:=uq.over (kM dV) (fun q hq=>by cases hq);have c2:=(kM dV).cell hcW (fun q=>by cases q);have dY:=z7 vG;have Uz:=z7 uq;have HMA:=z7 h;have HR:=z7 hR;have HC:=z7 hc;have HL:=z7 hl;have LS:=z7 xC;have HC2:=z7 c2;clear hmW uq dV uw vG hR hl xC SE h c2;by_cases hz:z<=16
 ·have g1:¬(16:Int)<(z:Int):=by omega
  have HZ:=z7 hz;clear hz Gf;go_enter func52,ntmps52;go_wp2_with fail;go_loopw [] (fun wr=>∃ left cnt,F9 wr b (c+1) n f left cnt/\Fr xN xN w wr/\wr.cell? ⟨c,0,none⟩=some (.map (some b))/\∀ m x,f m=some x->left m=false->fG m=true/\fg x.1 x.2=true) (fun wr=>wr.rangeLeft b (c+1))
  case atStart=>exact⟨_,_,HR.out,dY.out,HC2.out,fun m x hm hl=>by simp[hm] at hl⟩
  case round =>
   obtain⟨left,cnt,IU,hf,OJ,ku⟩:=hrel;have Cm:=z7 (zu IU (zu hf ku));rcases IU.next 0 with⟨-,BP,CJ⟩|⟨m,x,w',Sm,hlm,VO,CJ,Ln,M4,Yo,qa,fX⟩
   ·have CJ:=fun ty=>(JH (.pointer (some ⟨c+1,0,none⟩)) ty 0 wr).trans CJ
    have HNO:=z7 BP;clear IU hf ku BP;go_wp2;go_ret2
    have IU:=Cm.out.1;refine⟨.inl ⟨⟨HZ.out,fun m x hm=>Cm.out.2.2 m x hm (HNO.out m)⟩,c,rfl,⟨?_,OJ,fun m x hm=>(HL.out m x hm).2⟩,by rw[HC.out];exact zx _⟩,Cm.out.2.1⟩;exact HMA.out.fr Cm.out.2.1 id
   ·have CJ:=fun ty=>(JH (.pointer (some ⟨c+1,0,none⟩)) ty 0 wr).trans CJ
    obtain⟨t,num⟩:=x;obtain⟨l1,l2⟩:=HL.out m _ VO;obtain⟨d,hd⟩:∃ d,w'.heap.size=d:=⟨_,rfl⟩;obtain⟨V,hV⟩:∃ V,w'.alloc (.cells #[xk t,.bool num] 86)=V:=⟨_,rfl⟩;have d0:V.cell? ⟨d,0,none⟩=some (xk t):=by rw[←hV,←hd];exact xu w' #[xk t,.bool num] _ (0,0) 0
    have d1:V.cell? ⟨d,1,none⟩=some (.bool num):=by rw[←hV,←hd];exact xu w' #[xk t,.bool num] _ (0,0) 1
    have fV:Fr xN xN w' V:=by rw[←hV];exact(Fr.refl xN w').alloc _
    have JR:Fr xN xN w w':=hf.over (kM Yo) (fun q hq => .inr (by cases hq;have:=HC.out;omega));have Lp:w'.cell? ⟨c,0,none⟩=some (.map (some b)):=(kM Yo).cell OJ (fun q=>by cases q);obtain⟨nm,Dn⟩:∃ q,fG m=q:=⟨_,rfl⟩;obtain⟨vd,hvd⟩:∃ q,fg t num=q:=⟨_,rfl⟩;have HNM:=fun W=>z7 (Dn▸Sp m W l1)
    have C9:=fun W=>z7 (hvd▸Bq t num W l2)
    have HB:=z7 (zu Ln (zu M4 (zu fV (zu JR Lp))));have HM:=z7 (zu VO (zu Dn hvd));have HD:=z7 (zu d0 d1);clear IU hf ku Ln M4 fV JR Lp Yo qa hlm VO Dn hvd l1 l2 d0 d1;go_wp2_with fail;refine(HNM _).out.mono ?_;rintro e w3 ⟨rfl,jw⟩;have e0:=jw.cell HD.out.1 id;have e1:=jw.cell HD.out.2 id;have VB:=z7 jw;clear jw
    cases nm with
    | false =>
     go_wp2;go_ret2
     refine⟨.inr ⟨fun q=>?_,rfl⟩,HB.out.2.2.2.1.trans (HB.out.2.2.1.trans VB.out)⟩;have:=(q.2 m _ HM.out.1).1;rw[HM.out.2.1] at this
     cases this
    | true =>
     go_wp2_with fail;refine(C9 _).out.mono ?_;rintro e w4 ⟨rfl,hb⟩;have Vg:Fr xN xN w3 w4:=⟨hb.os,hb.tape,hb.output,hb.size,fun k hk _=>hb.block k hk,fun _ q => .inl q⟩;have Tt:=z7 (HB.out.2.2.1.trans (VB.out.trans Vg));clear hb Vg
     cases vd with
     | false =>
      go_wp2;go_ret2
      refine⟨.inr ⟨fun q=>?_,rfl⟩,HB.out.2.2.2.1.trans Tt.out⟩;have:=(q.2 m _ HM.out.1).2;rw[HM.out.2.2] at this
      cases this
     | true =>
      go_wp2;go_roundw
      case measure =>
       rw[(HB.out.1.fr Tt.out id id).left_eq,Cm.out.1.left_eq];exact HB.out.2.1
      case rel =>
       refine⟨_,_,HB.out.1.fr Tt.out id id,HB.out.2.2.2.1.trans Tt.out,Tt.out.cell HB.out.2.2.2.2 id,fun m' x' iw hl'=>?_⟩;by_cases he:m'=m
       ·subst he;have:=HM.out.1;rw[iw] at this
        cases this;exact⟨HM.out.2.1,HM.out.2.2⟩
       ·exact Cm.out.2.2 m' x' iw (by simpa[he] using hl')
 ·have g1:(16:Int)<(z:Int):=by omega
  have HZ:=z7 hz;clear hz Gf;go_enter func52,ntmps52;go_wp2;go_ret2
  exact⟨.inr ⟨fun q=>by have:=q.1;have:=HZ.out;omega,rfl⟩,Uz.out⟩
def ju:List Wd->Nat×(Wd->Option (Wd×Bool))->Nat×(Wd->Option (Wd×Bool))
 | k::d::t::r,p=>ju r (if (p.2 k).isSome then p.1 else p.1+1,fun m=>if k=m then some (t,d==[110]) else p.2 m)
 | _,p=>p
theorem Np{l:List Wd}(h:l.length<3)(p:Nat×(Wd->Option (Wd×Bool))):ju l p=p:=by
 match l,h with
 | [],_=>rfl
 | [_],_=>rfl
 | [_,_],_=>rfl
 | _::_::_::_,h=>simp at h;omega
def ZD(w:World)(a:Option Addr)(l:List Wd):Prop:=l≠[]->∃ g o,a=some ⟨g,o,none⟩/\∀ j t,l[j]? = some t->w.cell? ⟨g,o+j,none⟩=some (xk t)
theorem ZD.fr{w w':World}{a:Option Addr}{l:List Wd}(h:ZD w a l)(hf:Fr xN xN w w'):ZD w' a l:=fun vx=>by
 obtain⟨g,o,ha,hc⟩:=h vx;exact⟨g,o,ha,fun j t ht=>hf.cell (hc j t ht) id⟩
theorem Ii{l:List Wd}{a:Option Addr}{n c:Nat}{w:World}(h:ZD w a l)(hn:l.length=n)(hl:∀ t∈l,t.length<=1000000)(q9:n<=1000000) :
  Calls Tryz.prog 34 #[.slice a n c] w fun e w'=>e = .returned (.map (some w.heap.size))/\(∃ N,N<=2000000/\js w' w.heap.size N (ju l (0,fun _=>none)).1 (ju l (0,fun _=>none)).2)/\Fr xN xN w w':=by
 have LI:=@run_makeMap Tryz.prog;obtain⟨b,hb⟩:∃ b,w.heap.size=b:=⟨_,rfl⟩;have h0:=js.made w;have f0:Fr xN xN w (w.alloc (.map #[] 0)):=(Fr.refl xN w).alloc _;rw[hb] at h0;have H0:=z7 (zu h0 f0);have HH:=z7 h;have HN:=z7 (zu hn q9);have HL:=z7 hl;have HB:=z7 hb;clear h hn hl q9 h0 f0;go_enter func34,ntmps34;go_wp2;go_loopw [4] (fun i wr=>∃ k N z f,i = .int .i64 (k:Nat)/\k<=n+3/\N<=k/\js wr b N z f/\ju l (0,fun _=>none)=ju (l.drop k) (z,f)/\Fr xN xN w wr) (fun i _=>n+3 - (intOf i).toNat)
 case atStart=>exact⟨0,0,0,_,rfl,zF _,zx _,H0.out.1,rfl,H0.out.2⟩
 case round =>
  obtain⟨k,N,z,f,rfl,hk,hNk,hm,hv,hf⟩:=hrel;by_cases xC:k+2<n
  ·obtain⟨g,o,rfl,hc⟩:=HH.out (fun e=>by have:=HN.out.1;rw[e] at this;simp at this;omega);obtain⟨t0,g0⟩:∃ t,l[k]? = some t:=⟨_,zZ (by have:=HN.out.1;omega)⟩;obtain⟨t1,g1⟩:∃ t,l[k+1]? = some t:=⟨_,zZ (by have:=HN.out.1;omega)⟩;obtain⟨t2,g2⟩:∃ t,l[k+2]? = some t:=⟨_,zZ (by have:=HN.out.1;omega)⟩;have c0:=hf.cell (hc k t0 g0) id;have c1:=hf.cell (hc (k+1) t1 g1) id;have c2:=hf.cell (hc (k+2) t2 g2) id;have hd:l.drop k=t0::t1::t2::l.drop (k+3):=by
    obtain⟨h1,e1⟩:=zg.1 g0;obtain⟨h2,e2⟩:=zg.1 g1;obtain⟨h3,e3⟩:=zg.1 g2;rw[zU h1,e1,zU h2,e2,zU h3,e3]
   have l0:=HL.out t0 (zi g0);have l2:=HL.out t2 (zi g2);obtain⟨B,hB⟩:∃ B,(t1==[110])=B:=⟨_,rfl⟩;obtain⟨w2,Yt,jC,dV⟩:=(hm.keep (w':=wr.drew) rfl).put t0 (by omega) (t2,B) (by show t2.length<=_;omega) (by have:=HN.out.2;omega);rw[hd,ju,hB] at hv;have vG:Fr xN xN w w2:=(hf.drew).over (kM dV) (fun q hq=>by cases hq;exact .inr (by rw[HB.out];exact zx _));have Fh:b≠g:=fun e=>by
    have:=z8 w _ (hc k t0 g0);rw[←e,HB.out] at this;exact Nat.lt_irrefl _ this
   have e0:=(kM dV).cell (w:=wr.drew) c0 (fun e=>Fh (zV e));have e1:=(kM dV).cell (w:=wr.drew) c1 (fun e=>Fh (zV e));have e2:=(kM dV).cell (w:=wr.drew) c2 (fun e=>Fh (zV e));have HQ:=z7 (zu jC (zu hv vG));clear hc g0 g1 g2 hd l0 l2 hm hv hf jC dV vG Fh;have k1:(k:Int)+2<(n:Int):=by omega
   have k0:k<n:=by omega
   have k01:k+1<n:=by omega
   have k2:(k:Int)+1<(n:Int):=by omega
   have Zz:n<=1000000:=HN.out.2;have FO:zM.wrap ((k:Int)+2)=(k:Int)+2:=by rw[zH];omega
   have R3:zM.wrap ((k:Int)+1)=(k:Int)+1:=by rw[zH];omega
   have hw3:zM.wrap ((k:Int)+3)=(k:Int)+3:=by rw[zH];omega
   have LS:=z7 xC;have q2:(0:Int)<=(k:Int)+2:=by omega
   have q1:(0:Int)<=(k:Int)+1:=by omega
   have u2:((k:Int)+2).toNat=k+2:=by omega
   have u1:((k:Int)+1).toNat=k+1:=by omega
   clear Zz;go_wp2_with fail;refine rt (fun W':World=>W'.cell? ⟨g,o+k,none⟩=some (xk t0)/\W'.cell? ⟨g,o+(k+1),none⟩=some (xk t1)/\W'.cell? ⟨g,o+(k+2),none⟩=some (xk t2)) (List.range 17) 1 ⟨c0,c1,c2⟩ ?_;(iterate 17 (refine ty ?_;try simp only[pl]))
   refine xq ?_;refine xg 17 (by kernel_rfl) rfl (fun J hJ=>?_);go_simp;refine hJ.out _ _ ⟨e0,e1,e2⟩ fun _=>?_
   clear hJ J;refine wpAnyH_done (by kernel_rfl) ?_ _;clear Yt;go_wp2;go_roundw
   case rel =>
    obtain⟨m1,m2,m3⟩:=HQ.out;have hl:=LS.out;exact⟨k+3,N+1,_,_,by go_num,by omega,by omega,m1,m2,m3⟩
   case measure=>simp only[intOf];omega
  ·have HQ:=z7 (show ju l (0,fun _=>none)=(z,f) by rw[hv,Np (by rw[List.length_drop,HN.out.1];omega)]);have HM:=z7 (zu hm hf);have k1:¬(k:Int)+2<(n:Int):=by omega
   have Zz:n<=1000000:=HN.out.2;have FO:zM.wrap ((k:Int)+2)=(k:Int)+2:=by rw[zH];omega
   have HNk:=z7 (show N<=2000000 by have:=HN.out.2;omega);clear hv hm hf Zz;go_wp2;go_ret;exact⟨rfl,⟨N,HNk.out,by rw[HQ.out];exact HM.out.1⟩,HM.out.2⟩
structure zuz{τ:Type}(w:World)(g:Nat)(E:qI τ):Prop where
 wr:∀ W nv n,Fr xN xN w W->gL (fun _=>False) W nv n->Calls Tryz.prog 45 #[.pointer (some ⟨g,0,none⟩),nv] W fun e w'=>e = .returned (xk (E.wr n))/\Below W.heap.size W w'
 wrl:∀ n:vg,CC n.2->(E.wr n).length<=5000
 set:∃ cv ov,(∀ W,Fr xN xN w W->W.cell? ⟨g,0,none⟩=some cv/\W.cell? ⟨g,1,none⟩=some ov) /\
  (∀ W nv d,Fr xN xN w W->uM W nv d->Calls Tryz.prog 60 #[cv,nv] W fun e w'=>e = .returned (.int .i64 (E.sort false d))/\Below W.heap.size W w') /\
  ∀ W nv d,Fr xN xN w W->uM W nv d->Calls Tryz.prog 60 #[ov,nv] W fun e w'=>e = .returned (.int .i64 (E.sort true d))/\Below W.heap.size W w'
 srt:∀ b d,E.sort b d<6
structure KW{τ:Type}(P q g mb:Nat)(f:Fo)(vC vI:Value)(rs:List (Value×Value))(E:qI τ)(w:World):Prop where
 p0:w.cell? ⟨P,0,none⟩=some (.pointer (some ⟨q,0,none⟩))
 p1:w.cell? ⟨P,1,none⟩=some (.pointer (some ⟨g,0,none⟩))
 prog:jy q (MkS.all f) vC vI rs mb w
 loc:zuz w g E
 msg:f.vD=true
 Bf:f.Bf false
 UN:f.UN
 sh:f.sh
 cw:f.cw<=90000
section
variable {P q g mb:Nat} {f:Fo} {vC vI:Value} {rs:List (Value×Value)} {w:World}
theorem U0{w w':World}(h:Fr xN xN w w'):Below w.heap.size w w':=⟨h.os,h.tape,h.output,h.size,fun k hk=>h.keep k hk id⟩
theorem KW.env{E:qI Unit}(h:KW P q g mb f vC vI rs E w){w0:World}(hf:Fr xN xN w w0){A:Nat}(hA:w0.heap.size=A){b c n z:Nat}{fm:Wd->Option (Wd×Bool)} :
  dm w0 (A+2) (A+2) (fun k=>A+2<=k) q mb g (MkS.all f) vC vI rs (cO c) (Sn E fm) (fun _=>xN) (fun _ k=>k=b\/k=c) (om b c n z fm):=by
 obtain⟨a1,a2,a3,a4,a5⟩:=Ia h.UN h.sh h.cw;have OR:∀ W,Fr (fun k=>A+2<=k) (fun k=>A+2<=k) w0 W->Fr xN xN w W:=fun W hW=>hf.over hW (fun q hq => .inr (by have:=hf.size;omega))
 obtain⟨cv,ov,s1,s2,s3⟩:=h.loc.set;exact⟨fun W hW=>h.prog.below (U0 (OR W hW)),fun W nv n hW=>h.loc.wr W nv n (OR W hW),h.loc.wrl,⟨cv,ov,fun W hW=>s1 W (OR W hW),fun W nv d hW=>s2 W nv d (OR W hW),fun W nv d hW=>s3 W nv d (OR W hW)⟩,h.loc.srt,Ie E b c n z fm,by omega,a3,a4,a5,fun k hk=>hk,zx _⟩
def ot{τ:Type}(res:Except (Nat×τ) (Wd×τ))(a b:Value):Prop:=match res with | .ok (o,_)=>a=xk o/\b = .nilIface | .error (n,_)=>a=xk []/\b=qP n
theorem Nr{τ:Type}{G:Nat->Prop}{Inv:τ->World->Prop}{res:Except (Nat×τ) (Wd×τ)}{w w':World}{e:Ending}(h:sI G Inv res w e w'):∃ a b,e = .returned (.tuple #[a,b])/\ot res a b/\Fr G G w w':=by
 obtain⟨h1,h2⟩:=h;match res,h1 with
 | .ok (o,g'),h1=>exact⟨_,_,h1.1,⟨rfl,rfl⟩,h2⟩
 | .error (n,g'),h1=>exact⟨_,_,h1.1,⟨rfl,rfl⟩,h2⟩
def yd0(E:qI Unit)(f:Fo)(z:Nat)(fm:Wd->Option (Wd×Bool))(w:World)(e:Ending)(w':World):Prop :=
 ∃ a b,e = .returned (.tuple #[a,b])/\(YB fm z/\ot (jN (Sn E fm) f [] (false,([],[])) [] ()) a b\/¬YB fm z/\a=xk []/\b=qP 11)/\Fr xN xN w w'
theorem Il{E:qI Unit}(h:KW P q g mb f vC vI rs E w){b n z:Nat}{fm:Wd->Option (Wd×Bool)}(hm:js w b n z fm)(hl:∀ m x,fm m=some x->m.length<=5000000/\x.1.length<=1000000)(hz:z<=1000000000) :
  Calls Tryz.prog 35 #[.pointer (some ⟨P,0,none⟩),.map (some b)] w (yd0 E f z fm w):=by
 have HH:=z7 h;have HA:=z7 (cP hm hl hz);clear h hm hl hz;go_enter func35,ntmps35;go_wp2_with fail;refine HA.out.mono ?_;rintro e w1 ⟨⟨ku,c,rfl,hI,hc⟩|⟨BP,rfl⟩,uq⟩
 ·have Uz:=z7 uq;have HOK:=z7 ku;have c0:=uq.cell HH.out.p0 id;have c1:=uq.cell HH.out.p1 id;have hE:=HH.out.env (w0:=w1.drew) uq.drew (A:=w1.heap.size) rfl (b:=b) (c:=c) (n:=n) (z:=z) (fm:=fm);have M6:=Ia HH.out.UN HH.out.sh HH.out.cw;have HR:=z7 (cM HH.out.msg HH.out.Bf hE M6.1 M6.2.1 rfl (show ¬w1.heap.size+2<=w1.heap.size by omega) (show ¬w1.heap.size+2<=w1.heap.size+1 by omega) (false,([],[])) (g0:=()) (show om b c n z fm () w1.drew from(Ie E b c n z fm).fr hI ((Fr.refl xN w1).drew) (fun _ q=>q.elim)) (fun k q=>q.elim));clear hE M6 hI hc HA ku uq;go_wp2_with fail;refine rt (fun W':World=>W'.cell? ⟨P,0,none⟩=some (.pointer (some ⟨q,0,none⟩))/\W'.cell? ⟨P,1,none⟩=some (.pointer (some ⟨g,0,none⟩))) (List.range 9) 5 ⟨c0,c1⟩ ?_;(iterate 9 (refine ty ?_;try simp only[pl]))
  refine xq ?_;refine xg 9 (by kernel_rfl) rfl (fun J hJ=>?_);go_simp;refine HR.out.mono ?_;intro e w2 hq;obtain⟨a,b',rfl,vM,vG⟩:=Nr hq;have oh:Fr xN xN w1 w2:=((Fr.refl xN w1).drew).over vG (fun q hq => .inr (by have:w1.heap.size+2<=q:=hq;omega));have d0:=oh.cell c0 id;have d1:=oh.cell c1 id;have HQ:=z7 (zu vM oh);clear hq vM vG oh HR;refine hJ.out _ _ ⟨d0,d1⟩ fun _=>?_
  clear hJ J;refine xG [10,11,12,13] 0 rfl (by intro _ _ d _ _ h;cases d<;>exact h) (by kernel_rfl) (by kernel_rfl) ⟨d0,d1⟩ ?_;(iterate 4 (refine ty ?_;try simp only[pl]))
  refine xq ?_;refine wpAnyH_done (by kernel_rfl) ?_ _;clear d0 d1 c0 c1;go_wp2;go_ret2
  exact⟨a,b',rfl,.inl ⟨HOK.out,HQ.out.1⟩,Uz.out.trans HQ.out.2⟩
 ·have Uz:=z7 uq;have HNO:=z7 BP;clear uq BP HA;go_wp2;go_ret2
  exact⟨_,_,rfl,.inr ⟨HNO.out,rfl,rfl⟩,Uz.out⟩
end
theorem Fz{l:List Wd}(hl:∀ t∈l,t.length<=1000000):∀ (p:Nat×(Wd->Option (Wd×Bool))),(∀ m x,p.2 m=some x->m.length<=1000000/\x.1.length<=1000000)->∀ m x,(ju l p).2 m=some x->m.length<=1000000/\x.1.length<=1000000:=by
 match l with
 | []=>exact fun p h=>h
 | [_]=>exact fun p h=>h
 | [_,_]=>exact fun p h=>h
 | k::d::t::r =>
  intro p h;rw[ju];refine Fz (l:=r) (fun u hu=>hl u (by simp[hu])) _ fun m x hx=>?_
  simp only at hx;split at hx
  ·next e =>
   cases hx;exact⟨by rw[←e];exact hl k (by simp),hl t (by simp)⟩
  ·exact h m x hx
theorem U1:∀ (n:Nat) (l:List Wd),l.length<=n->∀ (p:Nat×(Wd->Option (Wd×Bool))),(ju l p).1<=p.1+l.length
 | _,[],_,p=>zN _ _
 | _,[_],_,p=>zN _ _
 | _,[_,_],_,p=>zN _ _
 | 0,_::_::_::_,h,_=>by simp at h
 | n+1,k::d::t::r,h,p=>by
  obtain⟨q,hq⟩:∃ q,(if (p.2 k).isSome then p.1 else p.1+1)=q:=⟨_,rfl⟩;have hle:q<=p.1+1:=by rw[←hq];split<;>omega
  rw[ju,hq];have:=U1 n r (by simp at h;omega) (q,fun m=>if k=m then some (t,d==[110]) else p.2 m);simp only[List.length_cons] at this ⊢;omega
theorem js.KZ{w:World}{b n z:Nat}{f:Wd->Option (Wd×Bool)}(h:js w b n z f)(m:Wd)(hm:m.length<=5000000) :
  (Instr.lookup 82 (.map (some b)) (xk m) false).run Tryz.prog w = .ok (F6 ((f m).getD ([],false))) w:=by
 obtain⟨D,h1,-,h3⟩:=h;obtain⟨v,ps,vB,hv⟩:=h1.lookup (Maps.string_keyed underlying9) underlying82 (z:=F6 ([],false)) (by first|rfl|simp[go_sem]) (zd:=Yn ([],false)) (zp:=[]) (Cl _ (by simp))
  (key:=xk m) (WideMaps.keyOf_string_mk (s:=⟨m.toArray⟩) underlying9 (by rw[size_mk];unfold maxLen;omega))
 rw[toList_mk] at hv;obtain⟨x,du,qb,-⟩:=F7 hv;have he:D.atKey (.string m) (Yn ([],false))=Yn x:=congrArg Prod.fst qb;rw[(h3 m).2] at he;rw[vB,du,F8 he]
section
variable {P q g mb:Nat} {f:Fo} {vC vI:Value} {rs:List (Value×Value)} {w:World}
def PN(E:qI Unit)(f:Fo)(z:Nat)(fm:Wd->Option (Wd×Bool))(s:Wd)(k:Nat):Prop :=
 YB fm z/\(match jN (Sn E fm) f [] (false,([],[])) [] () with | .ok (o,_)=>s=o/\k=0 | .error (n,_)=>s=[]/\k=n)\/¬YB fm z/\s=[]/\k=11
theorem ow{E:qI Unit}{z:Nat}{fm:Wd->Option (Wd×Bool)}{a b:Value}(h:YB fm z/\ot (jN (Sn E fm) f [] (false,([],[])) [] ()) a b\/¬YB fm z/\a=xk []/\b=qP 11) :
  ∃ s k,PN E f z fm s k/\a=xk s/\(k=0/\b = .nilIface\/b=qP k):=by
 rcases h with⟨h1,h2⟩|⟨h1,rfl,rfl⟩
 ·unfold ot at h2;unfold PN;split at h2
  ·next o g' he=>exact⟨o,0,.inl ⟨h1,by rw[he];exact⟨rfl,rfl⟩⟩,h2.1,.inl ⟨rfl,h2.2⟩⟩
  ·next n g' he=>exact⟨[],n,.inl ⟨h1,by rw[he];exact⟨rfl,rfl⟩⟩,h2.1,.inr h2.2⟩
 ·exact⟨[],11,.inr ⟨h1,rfl,rfl⟩,rfl,.inr rfl⟩
theorem Sr{k:Nat}{b:Value}(h:k=0/\b = .nilIface\/b=qP k)(w:World)(hE:Qh w):Calls Tryz.prog 30 #[b] w (XX (k:Nat) 0 w):=by
 rcases h with⟨rfl,rfl⟩|rfl
 ·exact GF w
 ·exact Ar _ w hE
theorem KW.fr{τ:Type}{E:qI τ}(h:KW P q g mb f vC vI rs E w){w':World}(hf:Fr xN xN w w'):KW P q g mb f vC vI rs E w':=by
 obtain⟨cv,ov,s1,s2,s3⟩:=h.loc.set;exact⟨hf.cell h.p0 id,hf.cell h.p1 id,h.prog.below (U0 hf),⟨fun W nv n hW=>h.loc.wr W nv n (hf.trans hW),h.loc.wrl,⟨cv,ov,fun W hW=>s1 W (hf.trans hW),fun W nv d hW=>s2 W nv d (hf.trans hW),fun W nv d hW=>s3 W nv d (hf.trans hW)⟩,h.loc.srt⟩,h.msg,h.Bf,h.UN,h.sh,h.cw⟩
theorem XI{w w':World}(hb:Below w.heap.size w w'):Fr xN xN w w':=⟨hb.os,hb.tape,hb.output,hb.size,fun k hk _=>hb.block k hk,fun _ q => .inl q⟩
theorem Im{E:qI Unit}(h:KW P q g mb f vC vI rs E w)(hR:Qh w){l:List Wd}{a:Option Addr}{n c:Nat}(ht:ZD w a l)(hn:l.length=n)(hl:∀ t∈l,t.length<=1000000)(q9:n<=1000000) :
  Calls Tryz.prog 21 #[.pointer (some ⟨P,0,none⟩),.slice a n c] w fun e w'=>(∃ s k,e = .returned (.tuple #[xk s,.int .i64 (k:Nat),.bool true])/\PN E f (ju l (0,fun _=>none)).1 (ju l (0,fun _=>none)).2 s k)/\Fr xN xN w w':=by
 obtain⟨z,hz⟩:∃ z,(ju l (0,fun _=>none)).1=z:=⟨_,rfl⟩;obtain⟨fm,VO⟩:∃ fm,(ju l (0,fun _=>none)).2=fm:=⟨_,rfl⟩;have b8:∀ m x,fm m=some x->m.length<=1000000/\x.1.length<=1000000:=by rw[←VO];exact Fz hl _ (fun m x hx=>by cases hx)
 have hzc:z<=1000000:=by rw[←hz];have:=U1 _ l (zx _) (0,fun _=>none);simp only at this;omega
 have HV:=z7 (fun (W:World) (hf:Fr xN xN w W)=>Ii (c:=c) (ht.fr hf) hn hl q9);rw[hz,VO] at HV;rw[hz,VO];have HH:=z7 h;have HR:=z7 hR;have HS:=z7 b8;have HZ:=z7 hzc;clear h hR ht hn hl q9 hz VO b8 hzc;go_enter func21,ntmps21;go_wp2_with fail;refine(HV.out w (Fr.refl _ _)).mono ?_;rintro e w1 ⟨rfl,⟨N,hN,m1⟩,uq⟩;have HF:=z7 (Il (HH.out.fr uq) m1 (fun m x hx=>⟨zJ (HS.out m x hx).1 (by omega),(HS.out m x hx).2⟩) (by have:=HZ.out;omega));have H1:=z7 (zu m1 uq);obtain⟨b1,xB⟩:∃ b1,w.heap.size=b1:=⟨_,rfl⟩;rw[xB] at HF H1 ⊢;clear m1 uq xB hN;go_wp2_with fail;refine HF.out.mono ?_;rintro e w2 ⟨r1,r2,rfl,hr,vG⟩;obtain⟨s,k,hs,rfl,hk⟩:=ow hr;have zuy:=H1.out.2.trans vG;have H2:=z7 (zu (H1.out.1.fr vG id) zuy);have HT:=z7 (Sr hk w2 (HR.out.below (U0 zuy)));have HQ:=z7 hs;clear hr hs hk vG zuy HF H1;go_wp2_with fail;refine HT.out.mono ?_;rintro e w3 ⟨rfl,uD⟩;have jw:=H2.out.2.trans (XI uD);have H3:=z7 (zu (H2.out.1.fr (XI uD) id) jw);clear uD jw H2 HT;go_wp2_with fail;refine(HV.out w3 H3.out.2).mono ?_;rintro e w4 ⟨rfl,⟨N4,hN4,m4⟩,Vg⟩;obtain⟨b4,uW⟩:∃ b4,w3.heap.size=b4:=⟨_,rfl⟩;rw[uW] at m4 ⊢;have m1:=H3.out.1.fr Vg id;have l1:=m1.len 3;have l4:=m4.len 3;obtain⟨w5,rL,hRg,qc,Eu⟩:=m4.range;obtain⟨r,hr⟩:∃ r,w4.heap.size=r:=⟨_,rfl⟩;rw[hr] at rL hRg;have Jf:=(H3.out.2.trans Vg).over (kM qc) (fun q hq=>by cases hq);have hlb:=m1.lt;have H5:=z7 (zu hRg (zu (m1.fr (kM qc) (fun q=>by cases q)) (zu Jf (show b1≠r by omega))));have Ep:=z7 (zu hr (show w.heap.size<=w4.heap.size from(H3.out.2.trans Vg).size));clear hRg qc Eu Jf m1 m4 Vg uW hlb H3 hr HV hN4;go_wp2_with fail;go_loopw [13] (fun sv wr=>∃ left cnt,sv = .bool true/\F9 wr b4 r N4 fm left cnt/\js wr b1 N z fm/\Fr xN xN w wr) (fun _ wr=>wr.rangeLeft b4 r)
 case atStart=>exact⟨_,_,rfl,H5.out.1,H5.out.2.1,H5.out.2.2.1⟩
 case round =>
  obtain⟨left,cnt,rfl,IU,hm,hf⟩:=hrel;have Cm:=z7 (zu IU hf);rcases IU.next 0 with⟨-,BP,CJ⟩|⟨m,x,w',Sm,hlm,VO,CJ,Ln,M4,Yo,qa,fX⟩
  ·have CJ:=fun ty=>(JH (.pointer (some ⟨r,0,none⟩)) ty 0 wr).trans CJ
   clear IU hm hf BP;go_wp2;go_ret3
   exact⟨⟨s,k,rfl,HQ.out⟩,Cm.out.2⟩
  ·have CJ:=fun ty=>(JH (.pointer (some ⟨r,0,none⟩)) ty 0 wr).trans CJ
   obtain⟨t,num⟩:=x;have JR:Fr xN xN w w':=hf.over (kM Yo) (fun q hq => .inr (by cases hq;have:=Ep.out;omega));have hmw:js w' b1 N z fm:=hm.fr (kM Yo) (fun q=>H5.out.2.2.2 (zV q).symm);have V4:=fun o=>(hmw.fr ((Fr.refl xN w').alloc o) id).KZ m (by have:=(HS.out m _ VO).1;omega)
   rw[VO] at V4;have HB:=z7 (zu Ln (zu M4 (zu JR hmw)));clear IU hm hf Ln M4 Yo qa hlm VO JR hmw;go_wp2;go_roundw
   case measure =>
    rw[(HB.out.1.fr ((Fr.refl xN w').alloc _) id id).left_eq,Cm.out.1.left_eq];exact HB.out.2.1
   case rel =>
    exact⟨_,_,rfl,HB.out.1.fr ((Fr.refl xN w').alloc _) id id,HB.out.2.2.2.fr ((Fr.refl xN w').alloc _) id,HB.out.2.2.1.alloc _⟩
end
theorem fh.grown{W W':World}{q:Nat}{row:Option Nat}(h:fh W q)(hg:W.grownBy W' row)(vx:some q≠row):fh W' q :=
 ⟨hg.cell h.c0 vx,hg.cell h.c1 vx,hg.cell h.c2 vx,(zv (hg.block q h.lt vx)).trans h.z0,(zv (hg.block q h.lt vx)).trans h.z1,(zv (hg.block q h.lt vx)).trans h.z2,zt h.lt hg.size⟩
theorem fh.set{W:World}{q:Nat}(h:fh W q){a:Addr}(ha:a.block≠q)(u:Value):fh (W.setCell a u) q :=
 have hb:(W.setCell a u).heap[q]? = W.heap[q]? := zQ _ _ _ _ (fun e=>ha e.symm);⟨(zG hb).trans h.c0,(zG hb).trans h.c1,(zG hb).trans h.c2,(zv hb).trans h.z0,(zv hb).trans h.z1,(zv hb).trans h.z2,by simpa[za] using h.lt⟩
theorem Fy{w:World}{p:Addr}{l:List UInt8}(h:xK w (some p) (xl l)):∀ j u,(xh l)[j]? = some u->w.cell? (p.add j)=some u:=by
 intro j u hu;have hj:j<(xl l).length:=by
  have:=(zg.1 hu).1;simpa[xh,xl] using this
 obtain⟨b,hb,hc⟩:=h j hj
 cases hb;rw[hc];rw[Vt,List.getElem?_map,zZ hj] at hu;simpa using hu
theorem Io(l:List UInt8):∀ u∈xh l,u.oneCell'=true:=by
 intro u hu;simp only[xh,List.mem_map] at hu;obtain⟨c,_,rfl⟩:=hu;rfl
theorem Qv{w:World}{base g n cap:Nat}{e:TypeId}{a:List UInt8}{xs:List Value}{b:Bool}(h:w.ownsRow base e 1 (.slice (some ⟨g,0,none⟩) n cap) n (xh a++xs))(ha:a≠[])(hc:w.cell? ⟨g,0,none⟩=some (.bool b)):False:=by
 cases a with
 | nil=>exact ha rfl
 | cons c t =>
  have hn:0<n:=by have:=h.1;simp[xh] at this;omega
  have:=h.cellAt 0 (by omega);rw[hc] at this;simp[xh] at this
theorem p6(v:Value)(x:Dg)(m:Nat)(w:World)(h:uM w v x)(hm:m<=1000000000)(Dj:0<m) :
  Calls Tryz.prog 183 #[v,.int .i64 m] w (qh (xL (Xf x.1 m),x.2) w):=by
 have ku:=h.ok;have Fe:=ku.GR;have OG:=ku.J0;have HH:=z7 h;have HO:=z7 ku;obtain⟨b,g,go,cap,rfl,_,_,_,_,_⟩:=h;obtain⟨jg,vu⟩:=fY w (.cells #[.bool b,.slice (some ⟨g,go,none⟩) (x.1.length+x.2.length) cap,.int .i64 x.2.length] 97);have cR:((w.alloc (.cells #[.bool b,.slice (some ⟨g,go,none⟩) (x.1.length+x.2.length) cap,.int .i64 x.2.length] 97)).alloc (.cells #[.bool false,.slice none 0 0,.int .i64 0] 97)).cell? ⟨w.heap.size,0,none⟩=some (.bool b) /\
   ((w.alloc (.cells #[.bool b,.slice (some ⟨g,go,none⟩) (x.1.length+x.2.length) cap,.int .i64 x.2.length] 97)).alloc (.cells #[.bool false,.slice none 0 0,.int .i64 0] 97)).cell? ⟨w.heap.size,1,none⟩=some (.slice (some ⟨g,go,none⟩) (x.1.length+x.2.length) cap) /\
   ((w.alloc (.cells #[.bool b,.slice (some ⟨g,go,none⟩) (x.1.length+x.2.length) cap,.int .i64 x.2.length] 97)).alloc (.cells #[.bool false,.slice none 0 0,.int .i64 0] 97)).cell? ⟨w.heap.size,2,none⟩=some (.int .i64 x.2.length):=⟨by go_simp,by go_simp,by go_simp⟩
 clear ku;go_enter func183,ntmps183;go_wp2_with fail;generalize (w.alloc (.cells #[.bool b,.slice (some ⟨g,go,none⟩) (x.1.length+x.2.length) cap,.int .i64 x.2.length] 97)).alloc (.cells #[.bool false,.slice none 0 0,.int .i64 0] 97)=W at jg vu cR ⊢;obtain⟨k0,k1,k2⟩:=cR;have sY:w.heap.size<W.heap.size:=z8 W _ k0;refine(CE _ x _ (HH.out.below jg)).mono ?_;rintro e w1 ⟨⟨Y3,vh,rfl,qY,jD,hB⟩,xB⟩;have V2:=vu.below xB;have uH:Below w.heap.size w w1:=jg.trans (xB.mono jg.size);have j0:=(xB.cell (p:=⟨w.heap.size,0,none⟩) sY).trans k0;have j1:=(xB.cell (p:=⟨w.heap.size,1,none⟩) sY).trans k1;have j2:=(xB.cell (p:=⟨w.heap.size,2,none⟩) sY).trans k2;have HB:=z7 hB;clear jg vu xB k0 k1 k2 hB sY;have xC:=fun l=>AX l m Dj
 have LS:=z7 xC;clear xC;go_wp2_with fail;go_loop [5,12] (fun r i=>∃ k:Nat,k<=x.1.length/\i = .int .i64 k/\r = .int .i64 (Xf (x.1.take k) m)) (fun _ i=>x.1.length - (intOf i).toNat)
 case atStart=>exact⟨0,zF _,rfl,rfl⟩
 case round =>
  obtain⟨k,hk,rfl,rfl⟩:=hrel;by_cases xC:k<x.1.length
  ·obtain⟨p,rfl,hc⟩:=HB.out k (by rw[vY];exact xC);have hvm:(xl x.1)[k]'(by rw[vY];exact xC)=(x.1[k].toNat:Int) - 48:=by simp[xl]
   rw[hvm] at hc;have hd:=(vw _).1 (List.all_eq_true.1 HO.out.aC _ (zL xC));have hL:=LS.out (x.1.take k);have hsn:Xf (x.1.take (k+1)) m=(10*Xf (x.1.take k) m+(x.1[k].toNat - 48)) % m:=by rw[zf xC,Gb]
   have mN:=z7 hsn;obtain⟨r,hr⟩:∃ r,r=Xf (x.1.take k) m:=⟨_,rfl⟩;obtain⟨d,hdd⟩:∃ d:Nat,(d:Int)=(x.1[k].toNat:Int) - 48:=⟨x.1[k].toNat - 48,by omega⟩;have FE:x.1[k].toNat - 48=d:=by omega
   rw[←hdd] at hc;rw[←hr,FE] at mN;rw[←hr] at hL ⊢;have hd9:d<=9:=by omega
   have hmz:¬((m:Int)=0):=by omega
   clear hsn hvm hd hr hdd FE;go_wp2;exact⟨⟨k+1,by omega,by go_num,by rw[mN.out];go_num⟩,by simp[intOf];omega⟩
  ·obtain rfl:k=x.1.length:=by omega
   have Zj:=LS.out (x.1.take x.1.length);rw[zI] at Zj ⊢;clear LS HB;obtain⟨r,hr⟩:∃ r,r=Xf x.1 m:=⟨_,rfl⟩;have HR:=z7 hr;rw[←hr] at Zj ⊢;clear hr;go_wp2_with fail;refine(Zl r _ (by omega)).mono ?_;rintro e w2 ⟨⟨g2,uB,rfl,ho⟩,xD⟩;have Y0:=V2.below xD;have qX:Below w.heap.size w w2:=uH.trans (xD.mono uH.size);have uF:w.heap.size<w1.heap.size:=z8 w1 _ j0;have i0:=(xD.cell (p:=⟨w.heap.size,0,none⟩) uF).trans j0;have i1:=(xD.cell (p:=⟨w.heap.size,1,none⟩) uF).trans j1;have i2:=(xD.cell (p:=⟨w.heap.size,2,none⟩) uF).trans j2;have dV:=(ho.lt g2 rfl);have PO:=z7 V2.lt;clear xD j0 j1 j2 V2 uH;go_wp2_with (fail);have F:∃ W3,W3=w2.alloc (.cells #[.bool false,.slice (some ⟨g2,0,none⟩) (xL r).length uB,.int .i64 0] 97)/\Below w2.heap.size w2 W3/\W3.heap.size=w2.heap.size+1 /\
     W3.cell? ⟨w2.heap.size,0,none⟩=some (.bool false)/\W3.cell? ⟨w2.heap.size,1,none⟩=some (.slice (some ⟨g2,0,none⟩) (xL r).length uB)/\W3.cell? ⟨w2.heap.size,2,none⟩=some (.int .i64 0) /\
     W3.frozen? ⟨w2.heap.size,0,none⟩=false/\W3.frozen? ⟨w2.heap.size,1,none⟩=false/\W3.frozen? ⟨w2.heap.size,2,none⟩=false /\
     W3.ownsRow w1.heap.size 5 1 (.slice (some ⟨g2,0,none⟩) (xL r).length uB) (xL r).length (xh (xL r)) :=
    ⟨_,rfl,(zX _ _).alloc (zx _) _,by simp,by go_simp,by go_simp,by go_simp,by go_simp,by go_simp,by go_simp,ho.alloc _⟩
   obtain⟨W3,j6,uD,LN,q0,q1,q2,y0,y1,y2,RO⟩:=F;rw[←j6];have QP:=Y0.below uD;have uw:w.heap.size<w2.heap.size:=z8 w2 _ i0;have o0:=(uD.cell (p:=⟨w.heap.size,0,none⟩) uw).trans i0;have o1:=(uD.cell (p:=⟨w.heap.size,1,none⟩) uw).trans i1;have o2:=(uD.cell (p:=⟨w.heap.size,2,none⟩) uw).trans i2;have Z8:Below w.heap.size w W3:=qX.trans (uD.mono qX.size);have MA:w1.heap.size<=w2.heap.size:=by omega
   clear j6 uD Y0 i0 i1 i2 ho;obtain⟨B,hBq⟩:∃ B,B=w.heap.size:=⟨_,rfl⟩;obtain⟨q,hq⟩:∃ q,q=w2.heap.size:=⟨_,rfl⟩;rw[←hBq] at o0 o1 o2 QP uw ⊢;rw[←hq] at q0 q1 q2 y0 y1 y2 uw LN ⊢;have sO:=z7 hBq;have HQ:=z7 hq;clear hBq hq;have kO:W3.drew.cell? ⟨B,0,none⟩=some (.bool b)/\W3.drew.cell? ⟨B,1,none⟩=some (.slice (some ⟨g,go,none⟩) (x.1.length+x.2.length) cap)/\W3.drew.cell? ⟨B,2,none⟩=some (.int .i64 x.2.length):=⟨o0,o1,o2⟩;refine uR (fun W':World=>W'.cell? ⟨B,0,none⟩=some (.bool b)/\W'.cell? ⟨B,1,none⟩=some (.slice (some ⟨g,go,none⟩) (x.1.length+x.2.length) cap)/\W'.cell? ⟨B,2,none⟩=some (.int .i64 x.2.length))
    [0,2,5,6] 7 (by intro _ _ d _ _ h;cases d<;>exact h) (by kernel_rfl) (by kernel_rfl) kO ?_
   (iterate 4 ((first|refine ty ?_|refine tn ?_);try simp only[pl]))
   refine xq ?_;refine wpAnyH_ready (rs:=[1,3]) (by kernel_rfl) (by simp) (zn rfl (fun K hK=>?_) (zn rfl (fun K hK=>?_) AllReadyH.nil))
   ·go_simp;refine hK.out _ _ kO (fun _=>?_);clear hK K;refine xg 3 (by kernel_rfl) rfl (fun K hK=>?_);go_simp;refine(Ku _ x _ (HH.out.below Z8.drew)).mono ?_;rintro e w4 ⟨⟨p4,zux,rfl,La,DW,oE⟩,uW⟩;have D9:B<W3.heap.size:=z8 W3 _ o0;have X3:q<W3.heap.size:=z8 W3 _ q1;have a0:=(uW.cell (p:=⟨B,0,none⟩) D9).trans kO.1;have a1:=(uW.cell (p:=⟨B,1,none⟩) D9).trans kO.2.1;have a2:=(uW.cell (p:=⟨B,2,none⟩) D9).trans kO.2.2;have p1:=(uW.cell (p:=⟨q,1,none⟩) X3).trans q1;have p0:=(uW.cell (p:=⟨q,0,none⟩) X3).trans q0;have p2:=(uW.cell (p:=⟨q,2,none⟩) X3).trans q2;have x0:=(uW.frozen (p:=⟨q,0,none⟩) X3).trans y0;have x1:=(uW.frozen (p:=⟨q,1,none⟩) X3).trans y1;have x2:=(uW.frozen (p:=⟨q,2,none⟩) X3).trans y2;have Uu:=bu (zP RO) uW;have DG:=(show fh W3.drew (B+1) from⟨QP.c0,QP.c1,QP.c2,QP.z0,QP.z1,QP.z2,QP.lt⟩).below uW;have bP:Below w.heap.size w w4:=Z8.drew.trans (uW.mono Z8.size);have Kd:W3.heap.size<=w4.heap.size:=uW.size;refine hK.out _ _ ⟨a0,a1,a2⟩ (fun _=>?_);clear hK K kO o0 o1 o2 q0 q1 q2 y0 y1 y2 RO QP uW;refine xg 4 (by kernel_rfl) rfl (fun K hK=>?_);rw[if_pos (by rfl)];obtain⟨i,hi,hz,h2,h3⟩:=xr.info;refine wp_append_own w4 _ _ 48 rfl w1.heap.size 5 i _ 1 1 xr.under hi hz h2 h3 xr.Uk xr.pos _ _ _ rfl Uu p4 x.2.length zux (xh x.2) rfl (by simp[xh]) (Fy oE) (Io x.2)
      (by unfold maxLen;have:=qR 9 r (by omega);omega) (by have:=qR 9 r (by omega);omega) (by have:=HQ.out;omega) ?_
    intro v5 w5 jP qc _;have p7:some B≠(zE (some ⟨g2,0,none⟩) (xL r).length uB).ownBlock:=fun e=>by simp[zj] at e;have:=sO.out;omega
    have Ns:some q≠(zE (some ⟨g2,0,none⟩) (xL r).length uB).ownBlock:=fun e=>by simp[zj] at e;have:=HQ.out;omega
    have cS:some (B+1)≠(zE (some ⟨g2,0,none⟩) (xL r).length uB).ownBlock:=fun e=>by
     simp[zj] at e;have xB:=PO.out;have:=sO.out;omega
    have je:0<(xL r).length+x.2.length:=by have:=zm.2 (di r);omega
    obtain⟨g5,gM,rfl,yd3,yd4,_⟩:=vU jP je;have b0:=qc.cell a0 p7;have b1:=qc.cell a1 p7;have b2:=qc.cell a2 p7;have r0:=qc.cell p0 Ns;have r1:=qc.cell p1 Ns;have r2:=qc.cell p2 Ns;have SL:q<w4.heap.size:=z8 w4 _ p0;have f0:=(zv (a:=⟨q,0,none⟩) (qc.block q SL Ns)).trans x0;have f1:=(zv (a:=⟨q,1,none⟩) (qc.block q SL Ns)).trans x1;have f2:=(zv (a:=⟨q,2,none⟩) (qc.block q SL Ns)).trans x2;have Oa:=DG.grown qc cS;have cT:Below w.heap.size w w5:=bP.grown qc bP.size (fun k hk=>by have lZ:g2=k:=zV hk;have:=dV.1;omega);have yd5:B+1<q:=by have:=PO.out;have:=sO.out;have:=HQ.out;omega
    have hBw:w.heap.size<=B:=by have:=sO.out;omega
    simp only[Act.put,zS,zo,zr];refine hK.out _ _ ⟨b0,b1,b2⟩ (fun _=>?_);clear hK K a0 a1 a2 p0 p1 p2 x0 x1 x2 DG bP Uu oE qc p7 Ns cS hi hz;refine xG [7] 3 rfl (by intro _ _ d _ _ h;cases d<;>exact h) (by kernel_rfl) (by kernel_rfl) ⟨b0,b1,b2⟩ ?_;(iterate 1 ((first|refine ty ?_|refine tn ?_);try simp only[pl]))
    refine xq ?_;refine xg 8 (by kernel_rfl) rfl (fun K hK=>?_);go_simp;have yd6:¬q=B:=by omega
    refine hK.out _ _ ⟨by rw[World.cell?_setCell_other (h:=by first|(simp;done)|(simp;omega))];exact b0,by rw[World.cell?_setCell_other (h:=by first|(simp;done)|(simp;omega))];exact b1,by rw[World.cell?_setCell_other (h:=by first|(simp;done)|(simp;omega))];exact b2⟩ (fun _=>?_);clear hK K;have t0:(w5.setCell ⟨q,1,none⟩ (.slice (some ⟨g5,0,none⟩) ((xL r).length+x.2.length) gM)).cell? ⟨q,0,none⟩=some (.bool false):=by rw[World.cell?_setCell_other (h:=by simp)];exact r0
    have t1:(w5.setCell ⟨q,1,none⟩ (.slice (some ⟨g5,0,none⟩) ((xL r).length+x.2.length) gM)).cell? ⟨q,1,none⟩=some (.slice (some ⟨g5,0,none⟩) ((xL r).length+x.2.length) gM):=by rw[zk (h:=r1)]
    have t2:(w5.setCell ⟨q,1,none⟩ (.slice (some ⟨g5,0,none⟩) ((xL r).length+x.2.length) gM)).cell? ⟨q,2,none⟩=some (.int .i64 0):=by rw[zy (h:=by simp)];exact r2
    have u2:(w5.setCell ⟨q,1,none⟩ (.slice (some ⟨g5,0,none⟩) ((xL r).length+x.2.length) gM)).frozen? ⟨q,2,none⟩=false:=by simpa using f2
    have c0:(w5.setCell ⟨q,1,none⟩ (.slice (some ⟨g5,0,none⟩) ((xL r).length+x.2.length) gM)).cell? ⟨B,0,none⟩=some (.bool b):=by rw[zy (h:=by first|(simp;done)|(simp;omega))];exact b0
    have c1:(w5.setCell ⟨q,1,none⟩ (.slice (some ⟨g5,0,none⟩) ((xL r).length+x.2.length) gM)).cell? ⟨B,1,none⟩=some (.slice (some ⟨g,go,none⟩) (x.1.length+x.2.length) cap):=by rw[zy (h:=by first|(simp;done)|(simp;omega))];exact b1
    have c2:(w5.setCell ⟨q,1,none⟩ (.slice (some ⟨g5,0,none⟩) ((xL r).length+x.2.length) gM)).cell? ⟨B,2,none⟩=some (.int .i64 x.2.length):=by rw[zy (h:=by first|(simp;done)|(simp;omega))];exact b2
    have V3:=Oa.set (a:=⟨q,1,none⟩) (by show q≠B+1;omega) (.slice (some ⟨g5,0,none⟩) ((xL r).length+x.2.length) gM);have YF:=cT.setCell (p:=⟨q,1,none⟩) (show w.heap.size<=q by omega) (.slice (some ⟨g5,0,none⟩) ((xL r).length+x.2.length) gM);have cr:g5≠q:=fun e=>by
     subst e;exact Qv jP (di r) r0
    have QK:=xc (p:=⟨q,1,none⟩) jP (fun e=>cr (by simpa[zj,eq_comm] using e)) (.slice (some ⟨g5,0,none⟩) ((xL r).length+x.2.length) gM);clear b0 b1 b2 r0 r1 r2 f0 f1 f2 Oa cT jP;generalize w5.setCell ⟨q,1,none⟩ (.slice (some ⟨g5,0,none⟩) ((xL r).length+x.2.length) gM)=w6 at *;refine xG [9] 1 rfl (by intro _ _ d _ _ h;cases d<;>exact h) (by kernel_rfl) (by kernel_rfl) ⟨c0,c1,c2⟩ ?_;(iterate 1 ((first|refine ty ?_|refine tn ?_);try simp only[pl]))
    refine xq ?_;refine xg 10 (by kernel_rfl) rfl (fun K hK=>?_);go_simp;refine hK.out _ _ ⟨by rw[World.cell?_setCell_other (h:=by first|(simp;done)|(simp;omega))];exact c0,by rw[World.cell?_setCell_other (h:=by first|(simp;done)|(simp;omega))];exact c1,by rw[World.cell?_setCell_other (h:=by first|(simp;done)|(simp;omega))];exact c2⟩ (fun _=>?_);clear hK K;have d0:(w6.setCell ⟨q,2,none⟩ (.int .i64 x.2.length)).cell? ⟨q,0,none⟩=some (.bool false):=by rw[World.cell?_setCell_other (h:=by simp)];exact t0
    have d1:(w6.setCell ⟨q,2,none⟩ (.int .i64 x.2.length)).cell? ⟨q,1,none⟩=some (.slice (some ⟨g5,0,none⟩) ((xL r).length+x.2.length) gM):=by rw[zy (h:=by simp)];exact t1
    have d2:(w6.setCell ⟨q,2,none⟩ (.int .i64 x.2.length)).cell? ⟨q,2,none⟩=some (.int .i64 x.2.length):=by rw[zk (h:=t2)]
    have G9:=V3.set (a:=⟨q,2,none⟩) (by show q≠B+1;omega) (.int .i64 x.2.length);have Ky:=YF.setCell (p:=⟨q,2,none⟩) (show w.heap.size<=q by omega) (.int .i64 x.2.length);have ho7:=xc (p:=⟨q,2,none⟩) QK (fun e=>cr (by simpa[zj,eq_comm] using e)) (.int .i64 x.2.length);clear t0 t1 t2 u2 c0 c1 c2 V3 YF QK;generalize w6.setCell ⟨q,2,none⟩ (.int .i64 x.2.length)=w7 at *;refine wpAnyH_done (by kernel_rfl) ?_ _;have e0:=G9.c0;have e1:=G9.c1;have e2:=G9.c2;have z0:=G9.z0;have z1:=G9.z1;have z2:=G9.z2;have rq:=z7 ho7;have HR7:=z7 G9;clear ho7 G9;go_wp2;refine bodyPost_ret (v := .agg #[.bool false,.slice (some ⟨g5,0,none⟩) ((xL r).length+x.2.length) gM,.int .i64 x.2.length]) ?_ rfl ?_
    ·simp[results,results183,go_sem,e0,e1,e2]
    rw[←HR.out];refine gg (w:=w) ?_ HR7.out (by omega) Ky;have hdd:xh (xL r)++xh x.2=xh (xL r++x.2):=by simp[xh]
    have Wb:=rq.out;rw[hdd] at Wb;have qa:=qR 9 r (by omega);exact Xw (w:=w) (x:=(xL r,x.2)) rfl (by simp) (gH Wb (by omega)) ⟨XK r,HO.out.SZ,di r,by show(xL r).length<=100;omega,OG⟩
   ·skip
    go_simp;refine(Ku _ x _ (HH.out.below Z8.drew)).mono ?_;rintro e w4 ⟨⟨p4,zux,rfl,La,DW,oE⟩,uW⟩;have D9:B<W3.heap.size:=z8 W3 _ o0;have X3:q<W3.heap.size:=z8 W3 _ q1;have a0:=(uW.cell (p:=⟨B,0,none⟩) D9).trans kO.1;have a1:=(uW.cell (p:=⟨B,1,none⟩) D9).trans kO.2.1;have a2:=(uW.cell (p:=⟨B,2,none⟩) D9).trans kO.2.2;have p1:=(uW.cell (p:=⟨q,1,none⟩) X3).trans q1;have p0:=(uW.cell (p:=⟨q,0,none⟩) X3).trans q0;have p2:=(uW.cell (p:=⟨q,2,none⟩) X3).trans q2;have x0:=(uW.frozen (p:=⟨q,0,none⟩) X3).trans y0;have x1:=(uW.frozen (p:=⟨q,1,none⟩) X3).trans y1;have x2:=(uW.frozen (p:=⟨q,2,none⟩) X3).trans y2;have Uu:=bu (zP RO) uW;have DG:=(show fh W3.drew (B+1) from⟨QP.c0,QP.c1,QP.c2,QP.z0,QP.z1,QP.z2,QP.lt⟩).below uW;have bP:Below w.heap.size w w4:=Z8.drew.trans (uW.mono Z8.size);have Kd:W3.heap.size<=w4.heap.size:=uW.size;refine hK.out _ _ ⟨a0,a1,a2⟩ (fun _=>?_);clear hK K kO o0 o1 o2 q0 q1 q2 y0 y1 y2 RO QP uW;refine xg 1 (by kernel_rfl) rfl (fun K hK=>?_);go_simp;refine hK.out _ _ ⟨a0,a1,a2⟩ (fun _=>?_);clear hK K;refine xg 4 (by kernel_rfl) rfl (fun K hK=>?_);rw[if_pos (by rfl)];obtain⟨i,hi,hz,h2,h3⟩:=xr.info;refine wp_append_own w4 _ _ 48 rfl w1.heap.size 5 i _ 1 1 xr.under hi hz h2 h3 xr.Uk xr.pos _ _ _ rfl Uu p4 x.2.length zux (xh x.2) rfl (by simp[xh]) (Fy oE) (Io x.2)
      (by unfold maxLen;have:=qR 9 r (by omega);omega) (by have:=qR 9 r (by omega);omega) (by have:=HQ.out;omega) ?_
    intro v5 w5 jP qc _;have p7:some B≠(zE (some ⟨g2,0,none⟩) (xL r).length uB).ownBlock:=fun e=>by simp[zj] at e;have:=sO.out;omega
    have Ns:some q≠(zE (some ⟨g2,0,none⟩) (xL r).length uB).ownBlock:=fun e=>by simp[zj] at e;have:=HQ.out;omega
    have cS:some (B+1)≠(zE (some ⟨g2,0,none⟩) (xL r).length uB).ownBlock:=fun e=>by
     simp[zj] at e;have xB:=PO.out;have:=sO.out;omega
    have je:0<(xL r).length+x.2.length:=by have:=zm.2 (di r);omega
    obtain⟨g5,gM,rfl,yd3,yd4,_⟩:=vU jP je;have b0:=qc.cell a0 p7;have b1:=qc.cell a1 p7;have b2:=qc.cell a2 p7;have r0:=qc.cell p0 Ns;have r1:=qc.cell p1 Ns;have r2:=qc.cell p2 Ns;have SL:q<w4.heap.size:=z8 w4 _ p0;have f0:=(zv (a:=⟨q,0,none⟩) (qc.block q SL Ns)).trans x0;have f1:=(zv (a:=⟨q,1,none⟩) (qc.block q SL Ns)).trans x1;have f2:=(zv (a:=⟨q,2,none⟩) (qc.block q SL Ns)).trans x2;have Oa:=DG.grown qc cS;have cT:Below w.heap.size w w5:=bP.grown qc bP.size (fun k hk=>by have lZ:g2=k:=zV hk;have:=dV.1;omega);have yd5:B+1<q:=by have:=PO.out;have:=sO.out;have:=HQ.out;omega
    have hBw:w.heap.size<=B:=by have:=sO.out;omega
    simp only[Act.put,zS,zo,zr];refine hK.out _ _ ⟨b0,b1,b2⟩ (fun _=>?_);clear hK K a0 a1 a2 p0 p1 p2 x0 x1 x2 DG bP Uu oE qc p7 Ns cS hi hz;refine xG [7] 3 rfl (by intro _ _ d _ _ h;cases d<;>exact h) (by kernel_rfl) (by kernel_rfl) ⟨b0,b1,b2⟩ ?_;(iterate 1 ((first|refine ty ?_|refine tn ?_);try simp only[pl]))
    refine xq ?_;refine xg 8 (by kernel_rfl) rfl (fun K hK=>?_);go_simp;have yd6:¬q=B:=by omega
    refine hK.out _ _ ⟨by rw[World.cell?_setCell_other (h:=by first|(simp;done)|(simp;omega))];exact b0,by rw[World.cell?_setCell_other (h:=by first|(simp;done)|(simp;omega))];exact b1,by rw[World.cell?_setCell_other (h:=by first|(simp;done)|(simp;omega))];exact b2⟩ (fun _=>?_);clear hK K;have t0:(w5.setCell ⟨q,1,none⟩ (.slice (some ⟨g5,0,none⟩) ((xL r).length+x.2.length) gM)).cell? ⟨q,0,none⟩=some (.bool false):=by rw[World.cell?_setCell_other (h:=by simp)];exact r0
    have t1:(w5.setCell ⟨q,1,none⟩ (.slice (some ⟨g5,0,none⟩) ((xL r).length+x.2.length) gM)).cell? ⟨q,1,none⟩=some (.slice (some ⟨g5,0,none⟩) ((xL r).length+x.2.length) gM):=by rw[zk (h:=r1)]
    have t2:(w5.setCell ⟨q,1,none⟩ (.slice (some ⟨g5,0,none⟩) ((xL r).length+x.2.length) gM)).cell? ⟨q,2,none⟩=some (.int .i64 0):=by rw[zy (h:=by simp)];exact r2
    have u2:(w5.setCell ⟨q,1,none⟩ (.slice (some ⟨g5,0,none⟩) ((xL r).length+x.2.length) gM)).frozen? ⟨q,2,none⟩=false:=by simpa using f2
    have c0:(w5.setCell ⟨q,1,none⟩ (.slice (some ⟨g5,0,none⟩) ((xL r).length+x.2.length) gM)).cell? ⟨B,0,none⟩=some (.bool b):=by rw[zy (h:=by first|(simp;done)|(simp;omega))];exact b0
    have c1:(w5.setCell ⟨q,1,none⟩ (.slice (some ⟨g5,0,none⟩) ((xL r).length+x.2.length) gM)).cell? ⟨B,1,none⟩=some (.slice (some ⟨g,go,none⟩) (x.1.length+x.2.length) cap):=by rw[zy (h:=by first|(simp;done)|(simp;omega))];exact b1
    have c2:(w5.setCell ⟨q,1,none⟩ (.slice (some ⟨g5,0,none⟩) ((xL r).length+x.2.length) gM)).cell? ⟨B,2,none⟩=some (.int .i64 x.2.length):=by rw[zy (h:=by first|(simp;done)|(simp;omega))];exact b2
    have V3:=Oa.set (a:=⟨q,1,none⟩) (by show q≠B+1;omega) (.slice (some ⟨g5,0,none⟩) ((xL r).length+x.2.length) gM);have YF:=cT.setCell (p:=⟨q,1,none⟩) (show w.heap.size<=q by omega) (.slice (some ⟨g5,0,none⟩) ((xL r).length+x.2.length) gM);have cr:g5≠q:=fun e=>by
     subst e;exact Qv jP (di r) r0
    have QK:=xc (p:=⟨q,1,none⟩) jP (fun e=>cr (by simpa[zj,eq_comm] using e)) (.slice (some ⟨g5,0,none⟩) ((xL r).length+x.2.length) gM);clear b0 b1 b2 r0 r1 r2 f0 f1 f2 Oa cT jP;generalize w5.setCell ⟨q,1,none⟩ (.slice (some ⟨g5,0,none⟩) ((xL r).length+x.2.length) gM)=w6 at *;refine xG [9] 1 rfl (by intro _ _ d _ _ h;cases d<;>exact h) (by kernel_rfl) (by kernel_rfl) ⟨c0,c1,c2⟩ ?_;(iterate 1 ((first|refine ty ?_|refine tn ?_);try simp only[pl]))
    refine xq ?_;refine xg 10 (by kernel_rfl) rfl (fun K hK=>?_);go_simp;refine hK.out _ _ ⟨by rw[World.cell?_setCell_other (h:=by first|(simp;done)|(simp;omega))];exact c0,by rw[World.cell?_setCell_other (h:=by first|(simp;done)|(simp;omega))];exact c1,by rw[World.cell?_setCell_other (h:=by first|(simp;done)|(simp;omega))];exact c2⟩ (fun _=>?_);clear hK K;have d0:(w6.setCell ⟨q,2,none⟩ (.int .i64 x.2.length)).cell? ⟨q,0,none⟩=some (.bool false):=by rw[World.cell?_setCell_other (h:=by simp)];exact t0
    have d1:(w6.setCell ⟨q,2,none⟩ (.int .i64 x.2.length)).cell? ⟨q,1,none⟩=some (.slice (some ⟨g5,0,none⟩) ((xL r).length+x.2.length) gM):=by rw[zy (h:=by simp)];exact t1
    have d2:(w6.setCell ⟨q,2,none⟩ (.int .i64 x.2.length)).cell? ⟨q,2,none⟩=some (.int .i64 x.2.length):=by rw[zk (h:=t2)]
    have G9:=V3.set (a:=⟨q,2,none⟩) (by show q≠B+1;omega) (.int .i64 x.2.length);have Ky:=YF.setCell (p:=⟨q,2,none⟩) (show w.heap.size<=q by omega) (.int .i64 x.2.length);have ho7:=xc (p:=⟨q,2,none⟩) QK (fun e=>cr (by simpa[zj,eq_comm] using e)) (.int .i64 x.2.length);clear t0 t1 t2 u2 c0 c1 c2 V3 YF QK;generalize w6.setCell ⟨q,2,none⟩ (.int .i64 x.2.length)=w7 at *;refine wpAnyH_done (by kernel_rfl) ?_ _;have e0:=G9.c0;have e1:=G9.c1;have e2:=G9.c2;have z0:=G9.z0;have z1:=G9.z1;have z2:=G9.z2;have rq:=z7 ho7;have HR7:=z7 G9;clear ho7 G9;go_wp2;refine bodyPost_ret (v := .agg #[.bool false,.slice (some ⟨g5,0,none⟩) ((xL r).length+x.2.length) gM,.int .i64 x.2.length]) ?_ rfl ?_
    ·simp[results,results183,go_sem,e0,e1,e2]
    rw[←HR.out];refine gg (w:=w) ?_ HR7.out (by omega) Ky;have hdd:xh (xL r)++xh x.2=xh (xL r++x.2):=by simp[xh]
    have Wb:=rq.out;rw[hdd] at Wb;have qa:=qR 9 r (by omega);exact Xw (w:=w) (x:=(xL r,x.2)) rfl (by simp) (gH Wb (by omega)) ⟨XK r,HO.out.SZ,di r,by show(xL r).length<=100;omega,OG⟩
def km(lo hi:Nat)(w:World)(v:Value)(T:qO):Prop :=
 ∃ k cap,v = .func (.func k) #[] cap/\(∀ args w,(callFunc k args).run Tryz.prog w = .ok (.enter k args) w) /\
  ∀ W,vQ lo hi w W->∀ nv x,uM W nv x->Calls Tryz.prog k (#[nv]++cap) W fun e W'=>e = .returned (.bool (T x))/\Below W.heap.size W W'
def Ss(lo hi:Nat)(w:World)(v:Value)(F:Dg->Dg):Prop :=
 ∃ k cap,v = .func (.func k) #[] cap/\(∀ args w,(callFunc k args).run Tryz.prog w = .ok (.enter k args) w) /\
  ∀ W,vQ lo hi w W->∀ nv x,uM W nv x->Calls Tryz.prog k (#[nv]++cap) W (qh (F x) W)
theorem km.keep{lo hi lo' hi':Nat}{w w':World}{v:Value}{T:qO}(h:km lo hi w v T)(hk:vQ lo hi w w')(h1:lo'<=lo)(h2:hi<=hi'):km lo' hi' w' v T:=by
 obtain⟨k,cap,hv,he,hc⟩:=h;exact⟨k,cap,hv,he,fun W hW=>hc W (hW.via hk h1 h2)⟩
theorem Ss.keep{lo hi lo' hi':Nat}{w w':World}{v:Value}{F:Dg->Dg}(h:Ss lo hi w v F)(hk:vQ lo hi w w')(h1:lo'<=lo)(h2:hi<=hi'):Ss lo' hi' w' v F:=by
 obtain⟨k,cap,hv,he,hc⟩:=h;exact⟨k,cap,hv,he,fun W hW=>hc W (hW.via hk h1 h2)⟩
theorem St(v:Value)(x:Dg)(a b:Nat)(br:Bool)(pa pb pc:Nat)(w:World)(h:uM w v x)(ha:a<=1000000000)(hb:b<=1000000000)(ca:w.cell? ⟨pa,0,none⟩=some (.int .i64 a))(cb:w.cell? ⟨pb,0,none⟩=some (.int .i64 b))(cc:w.cell? ⟨pc,0,none⟩=some (.bool br)) :
  Calls Tryz.prog 247 #[v,.pointer (some ⟨pa,0,none⟩),.pointer (some ⟨pb,0,none⟩),.pointer (some ⟨pc,0,none⟩)] w fun e w'=>e = .returned (.bool (gu a b br x))/\Below w.heap.size w w':=by
 have hC:=fun W m (hW:uM W v x) (hm:m<=1000000000)=>KR v x m W hW hm
 have hK:=fun W (hW:uM W v x)=>Gc v x W hW
 obtain⟨r,hr⟩:∃ r,gu a b br x=r:=⟨_,rfl⟩;rw[hr];unfold gu at hr;obtain⟨c1,qY⟩:∃ c,Qr x a=c:=⟨_,rfl⟩;obtain⟨c2,jD⟩:∃ c,Qr x b=c:=⟨_,rfl⟩;obtain⟨k,hk⟩:∃ k,ri x.2=k:=⟨_,rfl⟩;have h1:=fun W (hW:uM W v x)=>hC W a hW ha
 have h2:=fun W (hW:uM W v x)=>hC W b hW hb
 rw[qY,jD,hk] at hr;simp only[qY] at h1;simp only[jD] at h2;simp only[hk] at hK;have H1:=z7 h1;have H2:=z7 h2;have HK:=z7 hK;have HH:=z7 h;have HR:=z7 hr;obtain⟨b',g,go,cap,rfl,_,_,_,_,_⟩:=h;clear hC hK h1 h2 hr qY jD hk;have F:∃ W,W=w.alloc (.cells #[.bool b',.slice (some ⟨g,go,none⟩) (x.1.length+x.2.length) cap,.int .i64 x.2.length] 97)/\Below w.heap.size w W/\W.heap.size=w.heap.size+1/\W.cell? ⟨w.heap.size,0,none⟩=some (.bool b')/\W.cell? ⟨w.heap.size,1,none⟩=some (.slice (some ⟨g,go,none⟩) (x.1.length+x.2.length) cap)/\W.cell? ⟨w.heap.size,2,none⟩=some (.int .i64 x.2.length) /\
   W.cell? ⟨pa,0,none⟩=some (.int .i64 a)/\W.cell? ⟨pb,0,none⟩=some (.int .i64 b)/\W.cell? ⟨pc,0,none⟩=some (.bool br) :=
  ⟨_,rfl,(zX _ _).alloc (zx _) _,by simp,by go_simp,by go_simp,by go_simp,by rw[zY _ _ _ (by rw[ca];rfl)];exact ca,by rw[zY _ _ _ (by rw[cb];rfl)];exact cb,by rw[zY _ _ _ (by rw[cc];rfl)];exact cc⟩
 obtain⟨W,hW,jT,hs,d0,d1,d2,da,db,dc⟩:=F;have Pf:=z7 (HH.out.below jT);rw[hW] at da db dc;go_enter func247,ntmps247;go_wp2_with fail;rw[←hW] at da db dc ⊢;clear hW ca cb cc;refine(H1.out _ Pf.out).mono ?_;rintro e w1 ⟨rfl,xB⟩;have xC:w.heap.size<W.heap.size:=by omega
 have e0:=(xB.cell (p:=⟨w.heap.size,0,none⟩) xC).trans d0;have e1:=(xB.cell (p:=⟨w.heap.size,1,none⟩) xC).trans d1;have e2:=(xB.cell (p:=⟨w.heap.size,2,none⟩) xC).trans d2;have eb:=(xB.cell (p:=⟨pb,0,none⟩) (z8 W _ db)).trans db;have ec:=(xB.cell (p:=⟨pc,0,none⟩) (z8 W _ dc)).trans dc;have Ju:Below w.heap.size w w1:=jT.trans (xB.mono (by omega));have HN1:=z7 (Pf.out.below xB);have nX:w.heap.size<w1.heap.size:=z8 w1 _ e0;clear d0 d1 d2 da db dc xB;by_cases g1:0<=c1
 ·have g1':decide (0<=c1)=true:=decide_eq_true g1;have hr:=HR.out;rw[g1',zc] at hr;have fP:=z7 hr;clear hr;go_wp2_with fail;refine(H2.out _ HN1.out).mono ?_;rintro e w2 ⟨rfl,xD⟩;have f0:=(xD.cell (p:=⟨w.heap.size,0,none⟩) nX).trans e0;have f1:=(xD.cell (p:=⟨w.heap.size,1,none⟩) nX).trans e1;have f2:=(xD.cell (p:=⟨w.heap.size,2,none⟩) nX).trans e2;have fc:=(xD.cell (p:=⟨pc,0,none⟩) (z8 w1 _ ec)).trans ec;have Z3:Below w.heap.size w w2:=Ju.trans (xD.mono (by omega));have iM:=z7 (HN1.out.below xD);clear e0 e1 e2 eb ec xD;by_cases g2:c2<=0
  ·have mX:decide (c2<=0)=true:=decide_eq_true g2;have hr:=fP.out;rw[mX,zc] at hr;have BS:=z7 hr;clear hr
   cases br
   ·go_wp2_with fail;refine(HK.out _ iM.out).mono ?_;rintro e w3 ⟨rfl,uD⟩;have yd9:Below w.heap.size w w3:=Z3.trans (uD.mono Z3.size);go_wp2;go_ret;exact⟨by rw[←BS.out];rfl,yd9⟩
   ·go_wp2;go_ret;exact⟨by rw[←BS.out];rfl,Z3⟩
  ·have mX:decide (c2<=0)=false:=decide_eq_false g2;have hr:=fP.out;rw[mX,zW] at hr;have BS:=z7 hr;clear hr;go_wp2;go_ret;exact⟨by rw[←BS.out];rfl,Z3⟩
 ·have g1':decide (0<=c1)=false:=decide_eq_false g1;have hr:=HR.out;rw[g1',zW] at hr;have fP:=z7 hr;clear hr;go_wp2;go_ret;exact⟨by rw[←fP.out];rfl,Ju⟩
theorem Qu(a b:Nat)(br:Bool)(w:World)(ha:a<=1000000000)(hb:b<=1000000000) :
  Calls Tryz.prog 221 #[.int .i64 a,.int .i64 b,.bool br] w fun e w'=>(∃ v,e = .returned v/\km w.heap.size w'.heap.size w' v (gu a b br))/\Below w.heap.size w w':=by
 have R0:∀ (fn:Fn) (first cap:Array Value) (w:World),(zD fn first cap).run Tryz.prog w = .ok (.func fn first cap) w:=fun _ _ _ _=>rfl
 go_enter func221,ntmps221;go_wp2;go_ret;have hs:(((w.alloc (.cells #[.int .i64 a] 3)).alloc (.cells #[.int .i64 b] 3)).alloc (.cells #[.bool br] 4)).heap.size=w.heap.size+3:=by simp
 refine⟨⟨_,rfl,247,_,rfl,fun args w=>enters_of func247 (by kernel_rfl) rfl args w,fun W hW nv x hx=>?_⟩,(((zX _ _).alloc (zx _) _).alloc (by simp) _).alloc (by simp;omega) _⟩;refine St nv x a b br _ _ _ W hx ha hb ((hW.cell (zx _) ?_).trans ?_) ((hW.cell ?_ ?_).trans ?_) ((hW.cell ?_ ?_).trans ?_);all_goals first|(show w.heap.size<=w.heap.size+1;omega)|(show w.heap.size<=w.heap.size+1+1;omega)|(rw[hs];simp;done)|(rw[hs];simp;omega)|(show w.heap.size<=_;simp;done)|(show w.heap.size<=_;omega)|(go_simp;done)
theorem Nt(v:Value)(q:Nat)(w:World)(nv:Value)(x:Dg)(T:qO)(lo hi:Nat)(h:km lo hi w v T)(Yj:hi<=w.heap.size)(hn:uM w nv x)(cs:Array Value)(dJ:nv = .agg cs)
  (hc:∀ j u,cs[j]? = some u->w.cell? ⟨q,j,none⟩=some u) :
  Calls Tryz.prog 178 #[v,.pointer (some ⟨q,0,none⟩)] w fun e w'=>e = .returned (.bool (T x))/\Below w.heap.size w w':=by
 have HN:=z7 hn;obtain⟨b,g,go,cap,n,k,rfl⟩:=hn.form
 cases dJ;have c0:=hc 0 _ rfl;have c1:=hc 1 _ rfl;have c2:=hc 2 _ rfl;obtain⟨K,cp,rfl,Bc,vF⟩:=h;have hW:=vF w (vy Yj) _ x HN.out;have HW:=z7 hW;clear vF hW hc;go_enter func178,ntmps178;go_wp2_with fail;refine HW.out.mono ?_;rintro e w1 ⟨rfl,hb⟩;go_wp2;go_ret;exact⟨rfl,hb⟩
def bW(lo hi:Nat)(w:World)(a:Option Addr)(Ts:List qO):Prop :=
 ∀ j (h:j<Ts.length),∃ b v,a=some b/\w.cell? (b.add j)=some v/\lo<=b.block/\b.block<hi/\km lo hi w v Ts[j]
theorem bW.keep{lo hi lo' hi':Nat}{w w':World}{a:Option Addr}{Ts:List qO}(h:bW lo hi w a Ts)(hk:vQ lo hi w w')(h1:lo'<=lo)(h2:hi<=hi'):bW lo' hi' w' a Ts:=fun j hj=>by
 obtain⟨b,v,e1,e2,e3,e4,e5⟩:=h j hj;exact⟨b,v,e1,by rw[hk.cell (p:=b.add j) (by rw[addr_add];exact e3) (by rw[addr_add];exact e4)];exact e2,by omega,by omega,e5.keep hk h1 h2⟩
structure Cn(w:World)(q:Nat)(nv:Value):Prop where
 lt:q<w.heap.size
 cells:∃ b s k,nv = .agg #[b,s,k]/\w.cell? ⟨q,0,none⟩=some b/\w.cell? ⟨q,1,none⟩=some s/\w.cell? ⟨q,2,none⟩=some k
theorem Cn.below{w w':World}{q:Nat}{nv:Value}(h:Cn w q nv)(hb:Below w.heap.size w w'):Cn w' q nv:=by
 obtain⟨hl,b,s,k,h1,h2,h3,h4⟩:=h;exact⟨zt hl hb.size,b,s,k,h1,(hb.cell hl).trans h2,(hb.cell hl).trans h3,(hb.cell hl).trans h4⟩
theorem Nh(v:Value)(q:Nat)(w:World)(nv:Value)(x:Dg)(T:qO)(lo hi:Nat)(h:km lo hi w v T)(Yj:hi<=w.heap.size)(hn:uM w nv x)(hb:Cn w q nv) :
  Calls Tryz.prog 178 #[v,.pointer (some ⟨q,0,none⟩)] w fun e w'=>e = .returned (.bool (T x))/\Below w.heap.size w w':=by
 obtain⟨_,b,s,k,h1,h2,h3,h4⟩:=hb;refine Nt v q w nv x T lo hi h Yj hn #[b,s,k] h1 (fun j u hu=>?_);match j,hu with
 | 0,hu=>cases hu;exact h2
 | 1,hu=>cases hu;exact h3
 | 2,hu=>cases hu;exact h4
 | n+3,hu=>simp at hu
theorem p8{Ts:List qO}{x:Dg}{k:Nat}(h:k<Ts.length)(hT:Ts[k] x=true):bE Ts x=true:=zh.2 ⟨Ts[k],zL h,hT⟩
theorem Sh{Ts:List qO}{x:Dg}{k:Nat}(h:k<Ts.length)(h0:bE (Ts.take k) x=false)(hT:Ts[k] x=false):bE (Ts.take (k+1)) x=false:=by
 unfold bE at *;rw[zf h,yz,h0];simp[hT]
theorem Nw(Ts:List qO)(a:Option Addr)(c:Nat)(q:Nat)(nv:Value)(x:Dg)(lo hi:Nat)(w:World)(hl:Ts.length<=1000000)(ht:bW lo hi w a Ts)(Yj:hi<=w.heap.size)(hn:uM w nv x)(hb:Cn w q nv) :
  Calls Tryz.prog 211 #[.slice a Ts.length c,.func (.func 178) #[] #[.pointer (some ⟨q,0,none⟩)]] w
   fun e w'=>(∃ n:Int,e = .returned (.int .i64 n)/\decide (0<=n)=bE Ts x)/\Below w.heap.size w w':=by
 have HT:=z7 ht;have HN:=z7 hn;have HB:=z7 hb;clear ht hn hb;go_enter func211,ntmps211;go_wp2;go_loopw [8] (fun i wr=>∃ k:Nat,k<=Ts.length/\i = .int .i64 k/\bE (Ts.take k) x=false/\Below w.heap.size w wr) (fun i _=>Ts.length - (intOf i).toNat)
 case atStart=>exact⟨0,zF _,rfl,rfl,zX _ _⟩
 case round =>
  obtain⟨k,hk,rfl,hz,qG⟩:=hrel;have HZ:=z7 hz;clear hz;by_cases xC:k<Ts.length
  ·obtain⟨b,v,rfl,hc,h1,h2,hT⟩:=HT.out k xC;have oB:wr.cell? (b.add k)=some v:=by rw[qG.cell (z8 w _ hc)];exact hc
   have tP:=vV (lo:=lo) qG Yj Yj;have vF:=Nh v q wr nv x Ts[k] lo hi (hT.keep tP (zx _) (zx _)) (zJ Yj qG.size) (HN.out.below qG) (HB.out.below qG);have HC:=z7 vF;clear hc vF hT;go_wp2_with fail;refine HC.out.mono ?_;rintro e w1 ⟨rfl,xB⟩;have bw:=qG.trans (xB.mono qG.size)
   cases PR:Ts[k] x
   ·have HF:=z7 (Sh xC HZ.out PR);clear PR;go_wp2;go_roundw
    case rel=>exact⟨k+1,by omega,by go_num,HF.out,bw⟩
    case measure=>simp[intOf];omega
   ·have HF:=z7 (p8 xC PR);clear PR;go_wp2;go_ret;exact⟨⟨_,rfl,by rw[HF.out];simp⟩,bw⟩
  ·obtain rfl:k=Ts.length:=by omega
   have hz:=HZ.out;rw[zI] at hz;have HF:=z7 hz;clear hz HZ;go_wp2;go_ret;exact⟨⟨_,rfl,by rw[HF.out];rfl⟩,qG⟩
theorem DY(Ts:List qO)(a:Option Addr)(c:Nat)(q:Nat)(nv:Value)(x:Dg)(lo hi:Nat)(w:World)(hl:Ts.length<=1000000)(ht:bW lo hi w a Ts)(Yj:hi<=w.heap.size)(hn:uM w nv x)(hb:Cn w q nv) :
  Calls Tryz.prog 177 #[.slice a Ts.length c,.func (.func 178) #[] #[.pointer (some ⟨q,0,none⟩)]] w
   fun e w'=>e = .returned (.bool (bE Ts x))/\Below w.heap.size w w':=by
 have hI:=Nw Ts a c q nv x lo hi w hl ht Yj hn hb;have HI:=z7 hI;clear ht hn hb hI;go_enter func177,ntmps177;go_wp2_with fail;refine HI.out.mono ?_;rintro e w1 ⟨⟨n,rfl,hn⟩,hb⟩;have HF:=z7 hn;clear hn;go_wp2;go_ret;exact⟨by rw[←HF.out];rfl,hb⟩
theorem Sw(Ts:List qO)(a:Option Addr)(c:Nat)(pl:Nat)(nv:Value)(x:Dg)(lo hi:Nat)(w:World)(hl:Ts.length<=1000000)(ht:bW lo hi w a Ts)(Yj:hi<=w.heap.size)(hn:uM w nv x)(hc:w.cell? ⟨pl,0,none⟩=some (.slice a Ts.length c)) :
  Calls Tryz.prog 176 #[nv,.pointer (some ⟨pl,0,none⟩)] w fun e w'=>e = .returned (.bool (bE Ts x))/\Below w.heap.size w w':=by
 have R0:∀ (fn:Fn) (first cap:Array Value) (w:World),(zD fn first cap).run Tryz.prog w = .ok (.func fn first cap) w:=fun _ _ _ _=>rfl
 have HN:=z7 hn;obtain⟨b',g,go,cap,n',k',rfl⟩:=hn.form;have F:∃ W,W=w.alloc (.cells #[.bool b',.slice (some ⟨g,go,none⟩) n' cap,.int .i64 k'] 97)/\Below w.heap.size w W/\W.heap.size=w.heap.size+1/\Cn W w.heap.size (.agg #[.bool b',.slice (some ⟨g,go,none⟩) n' cap,.int .i64 k'])/\(w.alloc (.cells #[.bool b',.slice (some ⟨g,go,none⟩) n' cap,.int .i64 k'] 97)).cell? ⟨pl,0,none⟩=some (.slice a Ts.length c) :=
  ⟨_,rfl,(zX _ _).alloc (zx _) _,by simp,⟨by simp,_,_,_,rfl,by go_simp,by go_simp,by go_simp⟩,by rw[zY _ _ _ (by rw[hc];rfl)];exact hc⟩
 obtain⟨W,hW,jT,hs,cR,dc⟩:=F;have hC:=DY Ts a c w.heap.size _ x lo hi W hl (ht.keep (vV jT Yj Yj) (zx _) (zx _)) (by omega) (HN.out.below jT) cR;have HC:=z7 hC;clear hC ht hn cR;go_enter func176,ntmps176;go_wp2_with fail;rw[←hW];refine HC.out.mono ?_;rintro e w1 ⟨rfl,hb⟩;have bw:Below w.heap.size w w1:=jT.trans (hb.mono (by omega));go_wp2;go_ret;exact⟨rfl,bw⟩
theorem Ip(Ts:List qO)(a:Option Addr)(c:Nat)(lo:Nat)(w:World)(hl:Ts.length<=1000000)(Ex:lo<=w.heap.size)(ht:bW lo w.heap.size w a Ts) :
  Calls Tryz.prog 142 #[.slice a Ts.length c] w fun e w'=>(∃ v,e = .returned v/\km lo w'.heap.size w' v (bE Ts))/\Below w.heap.size w w':=by
 have R0:∀ (fn:Fn) (first cap:Array Value) (w:World),(zD fn first cap).run Tryz.prog w = .ok (.func fn first cap) w:=fun _ _ _ _=>rfl
 have HT:=z7 ht;clear ht;go_enter func142,ntmps142;go_wp2;go_ret;have hb:Below w.heap.size w (w.alloc (.cells #[.slice a Ts.length c] 305)):=(zX _ _).alloc (zx _) _;refine⟨⟨_,rfl,176,_,rfl,fun args w=>enters_of func176 (by kernel_rfl) rfl args w,fun W hW nv x hx=>?_⟩,hb⟩;have hk:vQ lo w.heap.size w W:=hW.via (vV hb (zx _) (zx _)) (zx _) hb.size;refine Sw Ts a c _ nv x lo w.heap.size W hl (HT.out.keep hk (zx _) (zx _)) hk.1 hx ((hW.cell Ex (by simp)).trans (by go_simp))
theorem p9{Ts:List qO}{x:Dg}{k:Nat}(h:k<Ts.length)(hT:Ts[k] x=false):allT Ts x=false:=by
 unfold allT;rw[List.all_eq_false];exact⟨Ts[k],zL h,by simp[hT]⟩
theorem T4{Ts:List qO}{x:Dg}{k:Nat}(h:k<Ts.length)(h0:allT (Ts.take k) x=true)(hT:Ts[k] x=true):allT (Ts.take (k+1)) x=true:=by
 unfold allT at *;rw[zf h,List.all_append,h0];simp[hT]
theorem ey(Ts:List qO)(a:Option Addr)(c:Nat)(pl:Nat)(nv:Value)(x:Dg)(lo hi:Nat)(w:World)(hl:Ts.length<=1000000)(ht:bW lo hi w a Ts)(Yj:hi<=w.heap.size)(hn:uM w nv x)(hc:w.cell? ⟨pl,0,none⟩=some (.slice a Ts.length c)) :
  Calls Tryz.prog 179 #[nv,.pointer (some ⟨pl,0,none⟩)] w fun e w'=>e = .returned (.bool (allT Ts x))/\Below w.heap.size w w':=by
 have HN:=z7 hn;obtain⟨b',g,go,cap,n',k',rfl⟩:=hn.form;have F:∃ W,W=w.alloc (.cells #[.bool b',.slice (some ⟨g,go,none⟩) n' cap,.int .i64 k'] 97)/\Below w.heap.size w W/\W.heap.size=w.heap.size+1/\Cn W w.heap.size (.agg #[.bool b',.slice (some ⟨g,go,none⟩) n' cap,.int .i64 k'])/\(w.alloc (.cells #[.bool b',.slice (some ⟨g,go,none⟩) n' cap,.int .i64 k'] 97)).cell? ⟨pl,0,none⟩=some (.slice a Ts.length c) :=
  ⟨_,rfl,(zX _ _).alloc (zx _) _,by simp,⟨by simp,_,_,_,rfl,by go_simp,by go_simp,by go_simp⟩,by rw[zY _ _ _ (by rw[hc];rfl)];exact hc⟩
 obtain⟨W,hW,jT,hs,cR,dc⟩:=F;have HT:=z7 (ht.keep (vV jT Yj Yj) (zx _) (zx _));have Pf:=z7 (HN.out.below jT);have Ir:hi<=W.heap.size:=by omega
 clear ht hn;go_enter func179,ntmps179;go_wp2_with fail;rw[←hW];clear hW dc hc;obtain⟨B,hB⟩:∃ B,B=w.heap.size:=⟨_,rfl⟩;rw[←hB] at cR ⊢;have Mt:=z7 hB;clear hB;go_loopw [8] (fun i wr=>∃ k:Nat,k<=Ts.length/\i = .int .i64 k/\allT (Ts.take k) x=true/\Below W.heap.size W wr) (fun i _=>Ts.length - (intOf i).toNat)
 case atStart=>exact⟨0,zF _,rfl,rfl,zX _ _⟩
 case round =>
  obtain⟨k,hk,rfl,hz,qG⟩:=hrel;have HZ:=z7 hz;clear hz;have O0:Below w.heap.size w wr:=jT.trans (qG.mono (by omega));by_cases xC:k<Ts.length
  ·obtain⟨b,v,rfl,hc,h1,h2,hT⟩:=HT.out k xC;have oB:wr.cell? (b.add k)=some v:=by rw[qG.cell (z8 W _ hc)];exact hc
   have tP:=vV (lo:=lo) qG Ir Ir;obtain⟨K,cp,rfl,Bc,vF⟩:=hT.keep tP (zx _) (zx _);have Z0:=vF wr (vy (zJ Ir qG.size)) _ x (Pf.out.below qG);have HC:=z7 Z0;obtain⟨_,bb,ss,kk,e0,c0,c1,c2⟩:=cR.below qG
   cases e0;clear hc vF Z0 hT;go_wp2_with fail;refine HC.out.mono ?_;rintro e w1 ⟨rfl,xB⟩;have bw:=qG.trans (xB.mono qG.size);have Ju:Below w.heap.size w w1:=O0.trans (xB.mono O0.size)
   cases PR:Ts[k] x
   ·have HF:=z7 (p9 xC PR);clear PR;go_wp2;go_ret;exact⟨by rw[HF.out];rfl,Ju⟩
   ·have HF:=z7 (T4 xC HZ.out PR);clear PR;go_wp2;go_roundw
    case rel=>exact⟨k+1,by omega,by go_num,HF.out,bw⟩
    case measure=>simp[intOf];omega
  ·obtain rfl:k=Ts.length:=by omega
   have hz:=HZ.out;rw[zI] at hz;have HF:=z7 hz;clear hz HZ;go_wp2;go_ret;exact⟨by rw[HF.out];rfl,O0⟩
theorem pz(Ts:List qO)(a:Option Addr)(c:Nat)(lo:Nat)(w:World)(hl:Ts.length<=1000000)(Ex:lo<=w.heap.size)(ht:bW lo w.heap.size w a Ts) :
  Calls Tryz.prog 144 #[.slice a Ts.length c] w fun e w'=>(∃ v,e = .returned v/\km lo w'.heap.size w' v (allT Ts))/\Below w.heap.size w w':=by
 have R0:∀ (fn:Fn) (first cap:Array Value) (w:World),(zD fn first cap).run Tryz.prog w = .ok (.func fn first cap) w:=fun _ _ _ _=>rfl
 have HT:=z7 ht;clear ht;go_enter func144,ntmps144;go_wp2;go_ret;have hb:Below w.heap.size w (w.alloc (.cells #[.slice a Ts.length c] 305)):=(zX _ _).alloc (zx _) _;refine⟨⟨_,rfl,179,_,rfl,fun args w=>enters_of func179 (by kernel_rfl) rfl args w,fun W hW nv x hx=>?_⟩,hb⟩;have hk:vQ lo w.heap.size w W:=hW.via (vV hb (zx _) (zx _)) (zx _) hb.size;refine ey Ts a c _ nv x lo w.heap.size W hl (HT.out.keep hk (zx _) (zx _)) hk.1 hx ((hW.cell Ex (by simp)).trans (by go_simp))
theorem bj{k:Nat}{F:Dg->Dg}(he:∀ args w,(callFunc k args).run Tryz.prog w = .ok (.enter k args) w)(h:∀ v x w,uM w v x->Calls Tryz.prog k #[v] w (qh (F x) w))(lo hi:Nat)(w:World):Ss lo hi w (.func (.func k) #[] #[]) F :=
 ⟨k,#[],rfl,he,fun W _ nv x hx=>h nv x W hx⟩
def eu(r:Option (Dg->Dg))(w:World)(e:Ending)(w':World):Prop :=
 (match r with|none=>e = .returned .nilFunc|some F=>∃ v,e = .returned v/\∀ lo hi W,Ss lo hi W v F)/\w=w'
theorem Co(c:ByteArray)(w:World):Calls Tryz.prog 180 #[.string c] w (eu (uZ c.data.toList) w):=by
 have ht:=Ro c;by_cases h1:c.data.toList=[110]
 ·have hf:uZ c.data.toList=some (fun x=>x):=by unfold uZ;rw[if_pos h1]
  rw[hf];have q1:(c.toList==[110])=true:=by rw[ht,h1];decide
  clear ht h1 hf;go_enter func180,ntmps180;go_wp2;go_ret;exact⟨⟨_,rfl,bj (fun args w=>enters_of func212 (by kernel_rfl) rfl args w) (fun v x w h=>oG v x w h)⟩,rfl⟩
 have q1:(c.toList==[110])=false:=by rw[ht];simpa using h1
 by_cases h2:c.data.toList=[105]
 ·have hf:uZ c.data.toList=some (fun x=>(jJ x.1,[])):=by unfold uZ;rw[if_neg h1,if_pos h2]
  rw[hf];have q2:(c.toList==[105])=true:=by rw[ht,h2];decide
  clear ht h1 h2 hf;go_enter func180,ntmps180;go_wp2;go_ret;exact⟨⟨_,rfl,bj (fun args w=>enters_of func213 (by kernel_rfl) rfl args w) (fun v x w h=>yjj v x w h)⟩,rfl⟩
 have q2:(c.toList==[105])=false:=by rw[ht];simpa using h2
 by_cases h3:c.data.toList=[118]
 ·have hf:uZ c.data.toList=some (fun x=>(xL x.2.length,[])):=by unfold uZ;rw[if_neg h1,if_neg h2,if_pos h3]
  rw[hf];have q3:(c.toList==[118])=true:=by rw[ht,h3];decide
  clear ht h1 h2 h3 hf;go_enter func180,ntmps180;go_wp2;go_ret;exact⟨⟨_,rfl,bj (fun args w=>enters_of func215 (by kernel_rfl) rfl args w) (fun v x w h=>yjk v x w h)⟩,rfl⟩
 have q3:(c.toList==[118])=false:=by rw[ht];simpa using h3
 by_cases h4:c.data.toList=[119]
 ·have hf:uZ c.data.toList=some (fun x=>(xL (uQ x.2).length,[])):=by unfold uZ;rw[if_neg h1,if_neg h2,if_neg h3,if_pos h4]
  rw[hf];have q4:(c.toList==[119])=true:=by rw[ht,h4];decide
  clear ht h1 h2 h3 h4 hf;go_enter func180,ntmps180;go_wp2;go_ret;exact⟨⟨_,rfl,bj (fun args w=>enters_of func216 (by kernel_rfl) rfl args w) (fun v x w h=>yjg v x w h)⟩,rfl⟩
 have q4:(c.toList==[119])=false:=by rw[ht];simpa using h4
 by_cases h5:c.data.toList=[102]
 ·have hf:uZ c.data.toList=some (fun x=>(jJ x.2,[])):=by unfold uZ;rw[if_neg h1,if_neg h2,if_neg h3,if_neg h4,if_pos h5]
  rw[hf];have q5:(c.toList==[102])=true:=by rw[ht,h5];decide
  clear ht h1 h2 h3 h4 h5 hf;go_enter func180,ntmps180;go_wp2;go_ret;exact⟨⟨_,rfl,bj (fun args w=>enters_of func218 (by kernel_rfl) rfl args w) (fun v x w h=>yjf v x w h)⟩,rfl⟩
 have q5:(c.toList==[102])=false:=by rw[ht];simpa using h5
 by_cases h6:c.data.toList=[116]
 ·have hf:uZ c.data.toList=some (fun x=>(jJ (uQ x.2),[])):=by unfold uZ;rw[if_neg h1,if_neg h2,if_neg h3,if_neg h4,if_neg h5,if_pos h6]
  rw[hf];have q6:(c.toList==[116])=true:=by rw[ht,h6];decide
  clear ht h1 h2 h3 h4 h5 h6 hf;go_enter func180,ntmps180;go_wp2;go_ret;exact⟨⟨_,rfl,bj (fun args w=>enters_of func219 (by kernel_rfl) rfl args w) (fun v x w h=>yjd v x w h)⟩,rfl⟩
 have q6:(c.toList==[116])=false:=by rw[ht];simpa using h6
 have hf:uZ c.data.toList=none:=by unfold uZ;rw[if_neg h1,if_neg h2,if_neg h3,if_neg h4,if_neg h5,if_neg h6]
 rw[hf];clear ht h1 h2 h3 h4 h5 h6 hf;go_enter func180,ntmps180;go_wp2;go_ret;exact⟨rfl,rfl⟩
theorem Is{W:World}{q:Nat}{p:Addr}{v u0 u1 u2:Value}(h:W.cell? p=some v)(hp:p.block≠q):(((W.setCell ⟨q,0,none⟩ u0).setCell ⟨q,1,none⟩ u1).setCell ⟨q,2,none⟩ u2).cell? p=some v:=by
 refine(zG ?_).trans h;rw[zQ _ _ _ _ hp,zQ _ _ _ _ hp,zQ _ _ _ _ hp]
theorem It(nv:Value)(x:Dg)(pw pm:Nat)(wv:Value)(m:Nat)(F:Dg->Dg)(lo hi:Nat)(w:World)(hn:uM w nv x)(hm:m<=1000000000)(Dj:0<m)(cw:w.cell? ⟨pw,0,none⟩=some wv)(cm:w.cell? ⟨pm,0,none⟩=some (.int .i64 m))(hw:Ss lo hi w wv F)(Yj:hi<=w.heap.size) :
  Calls Tryz.prog 182 #[nv,.pointer (some ⟨pw,0,none⟩),.pointer (some ⟨pm,0,none⟩)] w (qh (Du F m x) w):=by
 have HN:=z7 hn;obtain⟨b,g,go,cap,n',k',rfl⟩:=hn.form;obtain⟨jg,vu⟩:=fY w (.cells #[.bool b,.slice (some ⟨g,go,none⟩) n' cap,.int .i64 k'] 97);have F0:∃ W,W=(w.alloc (.cells #[.bool b,.slice (some ⟨g,go,none⟩) n' cap,.int .i64 k'] 97)).alloc (.cells #[.bool false,.slice none 0 0,.int .i64 0] 97)/\W.cell? ⟨w.heap.size,0,none⟩=some (.bool b)/\W.cell? ⟨w.heap.size,1,none⟩=some (.slice (some ⟨g,go,none⟩) n' cap)/\W.cell? ⟨w.heap.size,2,none⟩=some (.int .i64 k') :=
  ⟨_,rfl,by go_simp,by go_simp,by go_simp⟩
 obtain⟨W,hW,d0,d1,d2⟩:=F0;rw[←hW] at jg vu;have ew:=(jg.cell (p:=⟨pw,0,none⟩) (z8 w _ cw)).trans cw;have em:=(jg.cell (p:=⟨pm,0,none⟩) (z8 w _ cm)).trans cm;obtain⟨K0,cp,rfl,Bc,vF⟩:=hw.keep (vV jg Yj Yj) (zx _) (zx _);have HC:=z7 (vF W.drew (show vQ lo hi W W.drew from vy (zJ Yj jg.size)) _ x (HN.out.below jg.drew));have hpw:=z8 w _ cw;have wa:=z8 w _ cm;dsimp only at hpw wa;clear vF hn cw cm;go_enter func182,ntmps182;go_wp2_with fail;rw[←hW];clear hW;obtain⟨B,hB⟩:∃ B,B=w.heap.size:=⟨_,rfl⟩;rw[←hB] at d0 d1 d2 vu ⊢;have HB:=z7 hB;clear hB;have kO:W.drew.cell? ⟨B,0,none⟩=some (.bool b)/\W.drew.cell? ⟨B,1,none⟩=some (.slice (some ⟨g,go,none⟩) n' cap)/\W.drew.cell? ⟨B,2,none⟩=some (.int .i64 k')/\W.drew.cell? ⟨pw,0,none⟩=some (.func (.func K0) #[] cp)/\W.drew.cell? ⟨pm,0,none⟩=some (.int .i64 m):=⟨d0,d1,d2,ew,em⟩;refine uR (fun W':World=>W'.cell? ⟨B,0,none⟩=some (.bool b)/\W'.cell? ⟨B,1,none⟩=some (.slice (some ⟨g,go,none⟩) n' cap)/\W'.cell? ⟨B,2,none⟩=some (.int .i64 k')/\W'.cell? ⟨pw,0,none⟩=some (.func (.func K0) #[] cp)/\W'.cell? ⟨pm,0,none⟩=some (.int .i64 m))
  [0,1,3] 3 (by intro _ _ d _ _ h;cases d<;>exact h) (by kernel_rfl) (by kernel_rfl) kO ?_
 (iterate 3 ((first|refine ty ?_|refine tn ?_);try simp only[pl]))
 refine xq ?_;refine xg 2 (by kernel_rfl) rfl (fun K hK=>?_);go_simp;refine HC.out.mono ?_;rintro e w1 ⟨⟨v1,rfl,Zz⟩,xB⟩;have xC:∀ {p:Addr} {u:Value},W.cell? p=some u->w1.cell? p=some u:=fun {p u} h=>(xB.cell (z8 W p h)).trans h
 have Fi:w1.cell? ⟨B,0,none⟩=some (.bool b)/\w1.cell? ⟨B,1,none⟩=some (.slice (some ⟨g,go,none⟩) n' cap)/\w1.cell? ⟨B,2,none⟩=some (.int .i64 k')/\w1.cell? ⟨pw,0,none⟩=some (.func (.func K0) #[] cp)/\w1.cell? ⟨pm,0,none⟩=some (.int .i64 m):=⟨xC d0,xC d1,xC d2,xC ew,xC em⟩;have V2:=(show fh W.drew (B+1) from⟨vu.c0,vu.c1,vu.c2,vu.z0,vu.z1,vu.z2,vu.lt⟩).below xB;have Ju:Below w.heap.size w w1:=jg.drew.trans (xB.mono jg.size);refine hK.out _ _ Fi (fun _=>?_);clear hK K kO xC d0 d1 d2 ew em;have HM:=z7 (p6 v1 (F x) m w1 Zz hm Dj);obtain⟨b1,g1,go1,ydz,n1,k1,rfl⟩:=Zz.form;clear Zz;refine xg 4 (by kernel_rfl) rfl (fun K hK=>?_);go_simp;refine HM.out.mono ?_;rintro e w2 ⟨⟨v2,rfl,dy⟩,xD⟩;have xC:∀ {p:Addr} {u:Value},w1.cell? p=some u->w2.cell? p=some u:=fun {p u} h=>(xD.cell (z8 w1 p h)).trans h
 have M3:w2.cell? ⟨B,0,none⟩=some (.bool b)/\w2.cell? ⟨B,1,none⟩=some (.slice (some ⟨g,go,none⟩) n' cap)/\w2.cell? ⟨B,2,none⟩=some (.int .i64 k')/\w2.cell? ⟨pw,0,none⟩=some (.func (.func K0) #[] cp)/\w2.cell? ⟨pm,0,none⟩=some (.int .i64 m):=⟨xC Fi.1,xC Fi.2.1,xC Fi.2.2.1,xC Fi.2.2.2.1,xC Fi.2.2.2.2⟩;have Y0:=V2.below xD;have Z3:Below w.heap.size w w2:=Ju.trans (xD.mono Ju.size);refine hK.out _ _ M3 (fun _=>?_);clear hK K xC Fi V2;have iM:=z7 dy;obtain⟨b2,g2,Lo,uB,n2,k2,rfl⟩:=dy.form;clear dy;have c0:=Y0.c0;have c1:=Y0.c1;have c2:=Y0.c2;have z0:=Y0.z0;have z1:=Y0.z1;have z2:=Y0.z2;refine xg 5 (by kernel_rfl) rfl (fun K hK=>?_);go_simp;have Yh:=HB.out;have e0:=Is (u0 := .bool b2) (u1 := .slice (some ⟨g2,Lo,none⟩) n2 uB) (u2 := .int .i64 k2) M3.1 (show B≠B+1 by omega);have e1:=Is (u0 := .bool b2) (u1 := .slice (some ⟨g2,Lo,none⟩) n2 uB) (u2 := .int .i64 k2) M3.2.1 (show B≠B+1 by omega);have e2:=Is (u0 := .bool b2) (u1 := .slice (some ⟨g2,Lo,none⟩) n2 uB) (u2 := .int .i64 k2) M3.2.2.1 (show B≠B+1 by omega);have e3:=Is (u0 := .bool b2) (u1 := .slice (some ⟨g2,Lo,none⟩) n2 uB) (u2 := .int .i64 k2) M3.2.2.2.1 (show pw≠B+1 by omega);have e4:=Is (u0 := .bool b2) (u1 := .slice (some ⟨g2,Lo,none⟩) n2 uB) (u2 := .int .i64 k2) M3.2.2.2.2 (show pm≠B+1 by omega);refine hK.out _ _ ⟨e0,e1,e2,e3,e4⟩ (fun _=>?_);clear hK K e0 e1 e2 e3 e4;refine wpAnyH_done (by kernel_rfl) ?_ _;go_wp2;refine bodyPost_ret (v := .agg #[.bool b2,.slice (some ⟨g2,Lo,none⟩) n2 uB,.int .i64 k2]) ?_ rfl ?_
 ·simp[results,results182,go_sem,c0,c1,c2]
 exact gg (w:=w) iM.out Y0 (by omega) Z3
theorem Qq(nv:Value)(x:Dg)(pi po pn:Nat)(iv ov:Value)(nt:Bool)(T:qO)(F:Dg->Dg)(lo hi:Nat)(w:World)(hn:uM w nv x)(ci:w.cell? ⟨pi,0,none⟩=some iv)(co:w.cell? ⟨po,0,none⟩=some ov)(cn:w.cell? ⟨pn,0,none⟩=some (.bool nt))(hI:km lo hi w iv T)(hO:Ss lo hi w ov F)(Yj:hi<=w.heap.size) :
  Calls Tryz.prog 185 #[nv,.pointer (some ⟨pi,0,none⟩),.pointer (some ⟨po,0,none⟩),.pointer (some ⟨pn,0,none⟩)] w fun e w'=>e = .returned (.bool (T (F x) !=nt))/\Below w.heap.size w w':=by
 have HN:=z7 hn;obtain⟨b,g,go,cap,n',k',rfl⟩:=hn.form;have F0:∃ W,W=w.alloc (.cells #[.bool b,.slice (some ⟨g,go,none⟩) n' cap,.int .i64 k'] 97)/\Below w.heap.size w W/\W.cell? ⟨w.heap.size,0,none⟩=some (.bool b)/\W.cell? ⟨w.heap.size,1,none⟩=some (.slice (some ⟨g,go,none⟩) n' cap)/\W.cell? ⟨w.heap.size,2,none⟩=some (.int .i64 k') :=
  ⟨_,rfl,(zX _ _).alloc (zx _) _,by go_simp,by go_simp,by go_simp⟩
 obtain⟨W,hW,jg,d0,d1,d2⟩:=F0;have ei:=(jg.cell (p:=⟨pi,0,none⟩) (z8 w _ ci)).trans ci;have eo:=(jg.cell (p:=⟨po,0,none⟩) (z8 w _ co)).trans co;have en:=(jg.cell (p:=⟨pn,0,none⟩) (z8 w _ cn)).trans cn;obtain⟨K0,cp,rfl,Bc,vF⟩:=hO.keep (vV jg Yj Yj) (zx _) (zx _);have HC:=z7 (vF W.drew (show vQ lo hi W W.drew from vy (zJ Yj jg.size)) _ x (HN.out.below jg.drew));obtain⟨K1,o9,rfl,ymj,ej⟩:=hI.keep (vV jg Yj Yj) (zx _) (zx _);have HC1:=z7 ej;clear vF ej hn ci co cn;go_enter func185,ntmps185;go_wp2_with fail;rw[←hW];clear hW;obtain⟨B,hB⟩:∃ B,B=w.heap.size:=⟨_,rfl⟩;rw[←hB] at d0 d1 d2 ⊢;have HB:=z7 hB;clear hB;have kO:W.drew.cell? ⟨B,0,none⟩=some (.bool b)/\W.drew.cell? ⟨B,1,none⟩=some (.slice (some ⟨g,go,none⟩) n' cap)/\W.drew.cell? ⟨B,2,none⟩=some (.int .i64 k')/\W.drew.cell? ⟨pi,0,none⟩=some (.func (.func K1) #[] o9)/\W.drew.cell? ⟨po,0,none⟩=some (.func (.func K0) #[] cp)/\W.drew.cell? ⟨pn,0,none⟩=some (.bool nt):=⟨d0,d1,d2,ei,eo,en⟩;refine uR (fun W':World=>W'.cell? ⟨B,0,none⟩=some (.bool b)/\W'.cell? ⟨B,1,none⟩=some (.slice (some ⟨g,go,none⟩) n' cap)/\W'.cell? ⟨B,2,none⟩=some (.int .i64 k')/\W'.cell? ⟨pi,0,none⟩=some (.func (.func K1) #[] o9)/\W'.cell? ⟨po,0,none⟩=some (.func (.func K0) #[] cp)/\W'.cell? ⟨pn,0,none⟩=some (.bool nt))
  [0,1,2,5] 4 (by intro _ _ d _ _ h;cases d<;>exact h) (by kernel_rfl) (by kernel_rfl) kO ?_
 (iterate 4 ((first|refine ty ?_|refine tn ?_);try simp only[pl]))
 refine xq ?_;refine xg 3 (by kernel_rfl) rfl (fun K hK=>?_);go_simp;refine HC.out.mono ?_;rintro e w1 ⟨⟨v1,rfl,Zz⟩,xB⟩;have xC:∀ {p:Addr} {u:Value},W.cell? p=some u->w1.cell? p=some u:=fun {p u} h=>(xB.cell (z8 W p h)).trans h
 have Fi:w1.cell? ⟨B,0,none⟩=some (.bool b)/\w1.cell? ⟨B,1,none⟩=some (.slice (some ⟨g,go,none⟩) n' cap)/\w1.cell? ⟨B,2,none⟩=some (.int .i64 k')/\w1.cell? ⟨pi,0,none⟩=some (.func (.func K1) #[] o9)/\w1.cell? ⟨po,0,none⟩=some (.func (.func K0) #[] cp)/\w1.cell? ⟨pn,0,none⟩=some (.bool nt):=⟨xC d0,xC d1,xC d2,xC ei,xC eo,xC en⟩;have Ju:Below w.heap.size w w1:=jg.drew.trans (xB.mono jg.size);have hhW:hi<=W.heap.size:=zJ Yj jg.size;have hk1:vQ lo hi W w1:=vV (w:=W.drew) xB hhW hhW;refine hK.out _ _ Fi (fun _=>?_);clear hK K kO xC d0 d1 d2 ei eo en;have HI:=z7 (HC1.out w1 hk1 v1 (F x) Zz);obtain⟨b1,g1,go1,ydz,n1,k1,rfl⟩:=Zz.form;clear Zz;refine xg 4 (by kernel_rfl) rfl (fun K hK=>?_);go_simp;refine HI.out.mono ?_;rintro e w2 ⟨rfl,xD⟩;have xC:∀ {p:Addr} {u:Value},w1.cell? p=some u->w2.cell? p=some u:=fun {p u} h=>(xD.cell (z8 w1 p h)).trans h
 have M3:w2.cell? ⟨B,0,none⟩=some (.bool b)/\w2.cell? ⟨B,1,none⟩=some (.slice (some ⟨g,go,none⟩) n' cap)/\w2.cell? ⟨B,2,none⟩=some (.int .i64 k')/\w2.cell? ⟨pi,0,none⟩=some (.func (.func K1) #[] o9)/\w2.cell? ⟨po,0,none⟩=some (.func (.func K0) #[] cp)/\w2.cell? ⟨pn,0,none⟩=some (.bool nt):=⟨xC Fi.1,xC Fi.2.1,xC Fi.2.2.1,xC Fi.2.2.2.1,xC Fi.2.2.2.2.1,xC Fi.2.2.2.2.2⟩;have Z3:Below w.heap.size w w2:=Ju.trans (xD.mono Ju.size);refine hK.out _ _ M3 (fun _=>?_);clear hK K xC Fi;obtain⟨r,hr⟩:∃ r,T (F x)=r:=⟨_,rfl⟩;rw[hr];have HR:=z7 hr;clear HI hr;refine xG [6,7] 0 rfl (by intro _ _ d _ _ h;cases d<;>exact h) (by kernel_rfl) (by kernel_rfl) M3 ?_;(iterate 2 ((first|refine ty ?_|refine tn ?_);try simp only[pl]))
 refine xq ?_;refine wpAnyH_done (by kernel_rfl) ?_ _;go_wp2;go_ret;exact⟨by rw[HR.out];rfl,Z3⟩
theorem fF(c:UInt8)(w:World):Calls Tryz.prog 174 #[.int .u8 c.toNat] w fun e w'=>e = .returned (.int .i64 (xE c))/\w=w':=by
 have xC:=c.toNat_lt;obtain⟨n,hn⟩:∃ n,n=c.toNat:=⟨_,rfl⟩;obtain⟨r,hr⟩:∃ r,xE c=r:=⟨_,rfl⟩;rw[hr];unfold xE at hr;rw[←hn] at xC hr ⊢;by_cases h1:97<=n/\n<=122
 ·rw[if_pos h1] at hr;subst hr;have a1:decide ((97:Int)<=(n:Int))=true:=by simp;omega
  have a2:decide ((n:Int)<=(122:Int))=true:=by simp;omega
  clear hn;go_enter func174,ntmps174;go_wp2;all_goals (first|(exfalso;omega)|(go_ret;exact⟨rfl,rfl⟩))
 ·rw[if_neg h1] at hr;by_cases h2:48<=n/\n<=57
  ·rw[if_pos h2] at hr;subst hr;clear hn;go_enter func174,ntmps174;go_wp2;all_goals (first|(exfalso;omega)|(go_ret;exact⟨rfl,rfl⟩))
  ·rw[if_neg h2] at hr;by_cases h3:n=32
   ·rw[if_pos h3] at hr;subst hr;subst h3;clear hn;go_enter func174,ntmps174;go_wp2;all_goals (first|(exfalso;omega)|(go_ret;exact⟨rfl,rfl⟩))
   ·rw[if_neg h3] at hr;subst hr;have a3:((n:Int)==32)=false:=by simp;omega
    clear hn;go_enter func174,ntmps174;go_wp2;all_goals (first|(exfalso;omega)|(go_ret;exact⟨rfl,rfl⟩))
theorem xS.keep{p lo hi:Nat}{w w':World}(h:xS p w w')(hp:p<lo)(hi':hi<=w.heap.size):vQ lo hi w w' :=
 ⟨zJ hi' h.size,fun k h1 h2=>h.block k (by omega) (by omega)⟩
def Cp(w:World)(k:Nat):Prop:=∃ cs fr,w.heap[k]? = some (.cells cs 9 fr)
theorem Cp.of{w w':World}{k:Nat}(h:Cp w k)(he:w'.heap[k]? = w.heap[k]?):Cp w' k:=by
 obtain⟨cs,fr,h⟩:=h;exact⟨cs,fr,he.trans h⟩
def gX(w:World)(p:Nat)(ws:List Wd):Prop :=
 ∃ a cap,w.cell? ⟨p,0,none⟩=some (.slice a ws.length cap)/\w.frozen? ⟨p,0,none⟩=false/\ws.length<=cap/\cap<=maxLen/\∀ j (h:j<ws.length),∃ b,a=some b/\(b.block≠p/\Cp w b.block)/\w.cell? (b.add j)=some (xk ws[j])
theorem gX.lt{w:World}{p:Nat}{ws:List Wd}(h:gX w p ws):p<w.heap.size:=by
 obtain⟨a,cap,hc,_⟩:=h;exact z8 w _ hc
theorem gX.below{w w':World}{p:Nat}{ws:List Wd}(h:gX w p ws)(hb:Below w.heap.size w w'):gX w' p ws:=by
 have xC:=h.lt;obtain⟨a,cap,hc,hf,h1,h2,h3⟩:=h;refine⟨a,cap,(hb.cell xC).trans hc,(hb.frozen xC).trans hf,h1,h2,fun j hj=>?_⟩;obtain⟨b,e1,e2,e3⟩:=h3 j hj;have hl:=z8 w _ e3;rw[addr_add] at hl;exact⟨b,e1,⟨e2.1,e2.2.of (hb.block _ hl)⟩,(hb.cell (z8 w _ e3)).trans e3⟩
theorem gX.pass{w:World}{p cap:Nat}{b:Addr}{x:Wd}{t:List Wd}(hf:w.frozen? ⟨p,0,none⟩=false)(hc:w.cell? ⟨p,0,none⟩=some (.slice (some b) (t.length+1) cap))(h1:t.length+1<=cap)(h2:cap<=maxLen)(hb:b.block≠p/\Cp w b.block)(hw:∀ j (h:j<(x::t).length),w.cell? (b.add j)=some (xk (x::t)[j])) :
  gX (w.setCell ⟨p,0,none⟩ (.slice (some (b.add 1)) t.length (cap - 1))) p t:=by
 refine⟨some (b.add 1),cap - 1,by rw[zk (h:=hc)],by simpa using hf,by omega,by omega,fun j hj=>⟨b.add 1,rfl,by rw[addr_add];exact⟨hb.1,hb.2.of (zQ _ _ _ _ hb.1)⟩,?_⟩⟩;have:=hw (j+1) (by simp;omega);rw[add_add,Nat.add_comm 1 j,zy (h:=fun e=>hb.1 (by rw[←addr_add b (j+1),←e]))];simpa using this
theorem gX.last{w:World}{p cap:Nat}{b:Addr}(hf:w.frozen? ⟨p,0,none⟩=false){n:Nat}(hc:w.cell? ⟨p,0,none⟩=some (.slice (some b) n cap)) :
  gX (w.setCell ⟨p,0,none⟩ (.slice (some b) 0 0)) p [] :=
 ⟨some b,0,by rw[zk (h:=hc)];rfl,by simpa using hf,zx _,zF _,fun j hj=>absurd hj (Nat.not_lt_zero j)⟩
def Fx(ms:List Wd)(ws:List Wd):Bool:=ms.any (fun m=>ZA m ws)
def zuv(p:Nat)(ms ws:List Wd)(w:World)(e:Ending)(w':World):Prop :=
 e = .returned (.bool (Fx ms ws))/\gX w' p (if Fx ms ws then ws.tail else ws)/\xS p w w'/\w'.heap.size=w.heap.size
theorem py{ms ws:List Wd}{k:Nat}(h:k<ms.length)(hT:ZA ms[k] ws=true):Fx ms ws=true:=zh.2 ⟨ms[k],zL h,hT⟩
theorem BV{ms ws:List Wd}{k:Nat}(h:k<ms.length)(h0:Fx (ms.take k) ws=false)(hT:ZA ms[k] ws=false):Fx (ms.take (k+1)) ws=false:=by
 unfold Fx at *;rw[zf h,yz,h0];simp[hT]
theorem eg(p:Nat)(ms ws:List Wd)(v:Value)(w:World)(hp:gX w p ws)(hm:Mw w v ms)(hl:ms.length<=1000) :
  Calls Tryz.prog 175 #[.pointer (some ⟨p,0,none⟩),v] w (zuv p ms ws w):=by
 have HP:=z7 hp;obtain⟨a,cap,hc,hf,h1,h2,h3⟩:=hp;obtain⟨a2,uB,rfl,m1,m2,m3,m4⟩:=hm;have HM:=z7 m4;have H3:=z7 h3;clear m4 h3;have hmx:cap<=9223372036854775807:=by unfold maxLen at h2;omega
 go_enter func175,ntmps175;go_wp2;go_loop [9] (fun i=>∃ k:Nat,k<=ms.length/\i = .int .i64 k/\Fx (ms.take k) ws=false) (fun i=>ms.length - (intOf i).toNat)
 case atStart=>exact⟨0,zF _,rfl,rfl⟩
 case round =>
  obtain⟨k,hk,rfl,hz⟩:=hrel;have HZ:=z7 hz;clear hz;by_cases xC:k<ms.length
  ·obtain⟨b2,rfl,jD⟩:=HM.out k xC;obtain VV|⟨x,t,VV⟩:ws=[]\/∃ x t,ws=x::t:=by
    cases ws with
    | nil=>exact .inl rfl
    | cons x t=>exact .inr ⟨x,t,rfl⟩
   ·have hq:ZA ms[k] ws=false:=by rw[VV];rfl
    have HF:=z7 (BV xC HZ.out hq);rw[VV] at hc;clear hq VV;go_wp2;exact⟨⟨k+1,by omega,by go_num,HF.out⟩,by simp[intOf];omega⟩
   ·obtain⟨b,rfl,hb,hx⟩:=H3.out 0 (by rw[VV];simp);have OX:w.cell? b=some (xk x):=by
     have:(b.add 0)=b:=by simp[Addr.add]
     rw[this] at hx;rw[hx];simp[VV]
    have hiw:=IQ ms[k] x t;have hlen:ws.length=t.length+1:=by rw[VV];rfl
    rw[hlen] at hc h1;clear hx
    cases hq:(x==ms[k])
    ·have HF:=z7 (BV xC HZ.out (by rw[VV,hiw,hq]));have HW:=z7 VV;clear hiw VV hlen;go_wp2;exact⟨⟨k+1,by omega,by go_num,HF.out⟩,by simp[intOf];omega⟩
    ·have HF:=z7 (py (ws:=ws) xC (by rw[VV,hiw,hq]));have HW:=z7 VV;clear hiw VV hlen;by_cases qY:cap=1
     ·have ht:t=[]:=zO (by omega);subst ht;subst qY;go_wp2;go_ret;refine⟨by rw[HF.out];rfl,?_,xS.set p w 0 _,by simp[za]⟩;rw[if_pos HF.out,HW.out];exact gX.last hf hc
     ·have vx:¬(cap:Int)=1:=by omega
      go_wp2;go_ret;refine⟨by rw[HF.out];rfl,?_,xS.set p w 0 _,by simp[za]⟩;rw[if_pos HF.out,HW.out];refine gX.pass hf hc h1 h2 hb (x:=x) (fun j hj=>?_);obtain⟨b',e1,_,e3⟩:=H3.out j (by rw[HW.out];exact hj)
      cases e1;rw[e3];simp[HW.out]
  ·obtain rfl:k=ms.length:=by omega
   have hz:=HZ.out;rw[zI] at hz;have HF:=z7 hz;clear hz HZ;go_wp2;go_ret;refine⟨by rw[HF.out];rfl,?_,xS.refl _ _,rfl⟩;rw[HF.out];exact HP.out
structure RT(p:Nat)(w:World):Prop where
 s:∃ t v,w.cell? ⟨7,0,none⟩=some (.iface t v)
 r:∃ t v,w.cell? ⟨8,0,none⟩=some (.iface t v)
 ns:7≠p
 nr:8≠p
theorem RT.but{p:Nat}{w w':World}(h:RT p w)(hb:xS p w w'):RT p w':=by
 obtain⟨⟨t,v,hs⟩,⟨t2,v2,hr⟩,h1,h2⟩:=h;exact⟨⟨t,v,hb.cell hs h1⟩,⟨t2,v2,hb.cell hr h2⟩,h1,h2⟩
structure Cr(x:Wd):Prop where
 ne:x≠[]
 len:x.length<=1000
 form:x.all xF=true\/xF (x.headD 0)=false
theorem KA:∀ (l:List UInt8) (acc:Nat),l.all xF=true->Lib.decFrom acc l=some (l.foldl (fun v c=>10*v+(c.toNat - 48)) acc)
 | [],_,_=>rfl
 | c::t,acc,h=>by
  simp only[List.all_cons,zw] at h;have hc:=(vw c).1 h.1;rw[Lib.decFrom,Lib.digitVal,if_pos (by omega)];dsimp only;rw[KA t _ h.2,List.foldl_cons,Nat.mul_comm acc 10]
theorem ef{l:List UInt8}(h:l.all xF=true)(hn:l≠[]):Lib.atoi l=some (Dv l:Int):=by
 cases l with
 | nil=>exact absurd rfl hn
 | cons c t =>
  have hd:=h;simp only[List.all_cons,zw] at hd;have hc:=(vw c).1 hd.1;have h45:(c==45)=false:=by
   rw[beq_eq_false_iff_ne];rintro rfl;exact absurd hc.1 (by decide)
  have h43:(c==43)=false:=by
   rw[beq_eq_false_iff_ne];rintro rfl;exact absurd hc.1 (by decide)
  rw[Lib.atoi,h45,h43];simp only[Bool.false_eq_true,if_false,Lib.decNat];rw[if_neg (by simp),KA _ 0 h];rfl
theorem below_bytesWorld(w:World)(e:TypeId)(t:ByteArray):Below w.heap.size w (Lib.bytesWorld w e t):=Lib.bytesWorld_below _ _ _
theorem Ih(p:Nat)(s:ByteArray)(w:World)(hs:s.size<=1000)(hT:RT p w) :
  Calls Tryz.prog 163 #[.string s] w fun e w'=>(∃ v ev,e = .returned (.tuple #[.int .i64 v,ev])/\(ev = .nilIface\/∃ N,ev = .iface 353 (.pointer (some N))))/\Below w.heap.size w w':=by
 obtain⟨⟨t,v,hS⟩,⟨t2,v2,hR⟩,_,_⟩:=hT
 cases h:Lib.atoiAll s.data.toList with
 | ok n =>
  refine(Tryz.strconv_Atoi_ok s (by omega) n h w).mono ?_;rintro e w' ⟨rfl,rfl|⟨t,rfl⟩⟩
  ·exact⟨⟨_,_,rfl,.inl rfl⟩,zX _ _⟩
  ·exact⟨⟨_,_,rfl,.inl rfl⟩,below_bytesWorld _ _ _⟩
 | range =>
  refine(Tryz.strconv_Atoi_range s (by omega) h _ w hR (.inr ⟨_,_,rfl⟩)).mono ?_;rintro e w' ⟨N,rfl,_,_,hb⟩;exact⟨⟨_,_,rfl,.inr ⟨_,rfl⟩⟩,hb⟩
 | _ =>
  refine(Tryz.strconv_Atoi_none s (by omega) (fun v q=>by rw[h] at q;cases q) (fun q=>by rw[h] at q;cases q) _ w hS (.inr ⟨_,_,rfl⟩)).mono ?_;rintro e w' ⟨N,rfl,_,_,hb⟩;exact⟨⟨_,_,rfl,.inr ⟨_,rfl⟩⟩,hb⟩
theorem ed(s:ByteArray)(w:World)(hs:s.size<=9)(hd:s.data.toList.all xF=true)(hn:s.data.toList≠[]) :
  Calls Tryz.prog 163 #[.string s] w fun e w'=>e = .returned (.tuple #[.int .i64 (Dv s.data.toList),.nilIface])/\Below w.heap.size w w':=by
 refine(Tryz.strconv_Atoi s (Dv s.data.toList) (by omega) (ef hd hn) w).mono ?_;rintro e w' ⟨rfl,t,rfl⟩;exact⟨rfl,below_bytesWorld _ _ _⟩
abbrev Cs:Ending := .panicked [{ v := .iface 278 (.agg #[]),recovered:=false }]
def zuu(p:Nat)(r:Option (Nat×List Wd))(w:World)(e:Ending)(w':World):Prop :=
 (match r with|none=>e=Cs|some (v,t)=>e = .returned (.int .i64 v)/\gX w' p t)/\xS p w w'
theorem px{x:Wd}(hd:x.all xF=true)(hn:x≠[]):Gd x=(decide (x.length<=9) && (decide (x.length=1) || decide (x.headD 0≠48))):=by
 unfold Gd vO;rw[hd]
 cases x with
 | nil=>exact absurd rfl hn
 | cons c t=>simp
theorem Zs(c:UInt8):(xE c=2) ↔ xF c=true:=by
 rw[vw];unfold xE;split
 ·constructor<;>intro h<;>omega
 split
 ·constructor<;>intro h<;>omega
 split
 ·constructor<;>intro h<;>omega
 ·constructor<;>intro h<;>omega
theorem O1(p:Nat)(w:World)(hp:gX w p []):Calls Tryz.prog 181 #[.pointer (some ⟨p,0,none⟩)] w (zuu p none w):=by
 obtain⟨a,cap,hc,hf,h1,h2,h3⟩:=hp;clear h3;go_enter func181,ntmps181;go_wp2;exact⟨rfl,rfl,xS.refl _ _⟩
theorem gX.step{w:World}{p cap:Nat}{b:Addr}{x:Wd}{t:List Wd}(h:gX w p (x::t))(hc:w.cell? ⟨p,0,none⟩=some (.slice (some b) (t.length+1) cap)) :
  gX (w.setCell ⟨p,0,none⟩ (.slice (some (b.add 1)) t.length (cap - 1))) p t/\(t=[]->gX (w.setCell ⟨p,0,none⟩ (.slice (some b) 0 0)) p t):=by
 obtain⟨a,vh,oB,hf,h1,h2,h3⟩:=h;rw[hc] at oB
 cases oB;obtain⟨b',e1,e2,_⟩:=h3 0 (by simp)
 cases e1;refine⟨gX.pass hf hc (by simpa using h1) h2 e2 (x:=x) (fun j hj=>?_),fun ht=>?_⟩
 ·obtain⟨b',e1,_,e3⟩:=h3 j hj
  cases e1;exact e3
 ·subst ht;exact gX.last hf hc
theorem O2(c:UInt8)(t:List UInt8)(h:0<(zR (c::t).toArray).size):(zR (c::t).toArray)[0]=c:=by
 simp[ByteArray.getElem_eq_getElem_data]
theorem Iw(p:Nat)(c:UInt8)(x':List UInt8)(t:List Wd)(w:World)(hp:gX w p ((c::x')::t))(hx:Cr (c::x'))(hT:RT p w) :
  Calls Tryz.prog 181 #[.pointer (some ⟨p,0,none⟩)] w (zuu p (kH ((c::x')::t)) w):=by
 have HP:=z7 hp;have HX:=z7 hx;have HT:=z7 hT;have xC:=hp.lt;obtain⟨a,cap,hc,hf,h1,h2,h3⟩:=hp;obtain⟨b,rfl,hb,Kl⟩:=h3 0 (by simp);have OX:w.cell? b=some (xk (c::x')):=by
  have:(b.add 0)=b:=by simp[Addr.add]
  rw[this] at Kl;exact Kl
 have hmx:cap<=9223372036854775807:=by unfold maxLen at h2;omega
 have hlen:((c::x')::t).length=t.length+1:=rfl;rw[hlen] at hc h1;obtain⟨r,hr⟩:∃ r,kH ((c::x')::t)=r:=⟨_,rfl⟩;rw[hr];have HR:=z7 hr;obtain⟨s,hs⟩:∃ s:ByteArray,s=⟨(c::x').toArray⟩:=⟨_,rfl⟩;have Ek:0<s.size:=by rw[hs,size_mk];simp
 have qa:s.size=x'.length+1:=by rw[hs,size_mk];rfl
 have hg:s[0]=c:=by subst hs;exact O2 c x' Ek
 have lX:=hx.len;have dG:s.size<=1000:=by rw[qa];simpa using lX
 have sP:s.data.toList=c::x':=by rw[hs]
 have dJ:w.cell? b=some (.string s):=by rw[OX,hs]
 clear Kl h3 hr OX hx hT hs;have HG:=z7 hg;have HSD:=z7 sP;have fS:=z7 qa;by_cases hd:xF c=true
 ·have qC:(c::x').all xF=true:=by
   rcases HX.out.form with h|h
   ·exact h
   ·exact absurd hd (by simpa using h)
  have Z0:xE c=2:=(Zs c).2 hd;have eZ:((xE c:Int) !=2)=false:=by rw[Z0];decide
  have Lp:=fun W=>fF c W
  have Cd:=px qC (by simp);by_cases h9:s.size<=9
  ·have zm2:(c::x').length<=9:=by simp;omega
   rw[decide_eq_true zm2,Bool.true_and] at Cd;have h9':decide ((9:Int)<(s.size:Int))=false:=by simp;omega
   have HA:=z7 (ed s w h9 (by rw[sP];exact qC) (by rw[sP];simp));by_cases hz:1<s.size/\c=48
   ·have vu:r=none:=by
     rw[←HR.out];have:Gd (c::x')=false:=by
      rw[Cd];simp[hz.2];intro e;rw[e] at qa;simp at qa;omega
     simp[kH,this]
    subst vu;have e48:((s[0].toNat:Int)==48)=true:=by rw[hg,hz.2];decide
    have e1:decide ((1:Int)<(s.size:Int))=true:=by simp;omega
    rw[←hg] at Lp eZ;have lj:=z7 Lp;clear Z0 Lp hg sP hd qC Cd hz qa;go_enter func181,ntmps181;go_wp2_with fail;refine HA.out.mono ?_;rintro e w1 ⟨rfl,xB⟩;go_wp2_with fail;refine(lj.out _).mono ?_;rintro e w2 ⟨rfl,rfl⟩;go_wp2;exact⟨rfl,rfl,xS.of xB⟩
   ·have zm3:Gd (c::x')=true:=by
     rw[Cd];by_cases h1s:x'.length=0
     ·simp[h1s]
     ·have:¬c=48:=fun e=>hz ⟨by omega,e⟩
      simp[this]
    have vu:r=some (Dv (c::x'),t):=by
     rw[←HR.out];simp[kH,zm3]
    subst vu;have If:=z7 sP;rw[←hg] at Lp eZ;have lj:=z7 Lp;have sR:∀ W,Below w.heap.size w W->W.cell? ⟨p,0,none⟩=some (.slice (some b) (t.length+1) cap)/\W.frozen? ⟨p,0,none⟩=false:=fun W hW=>⟨(hW.cell xC).trans hc,(hW.frozen xC).trans hf⟩
    have lg:=z7 sR;have Ll:¬(1<s.size/\s[0]=48):=by rw[hg];exact hz
    have oO:=z7 hlen;clear Z0 Lp hg sP hd qC Cd hz zm3 sR qa hlen;by_cases qY:cap=1
    ·have OP:t=[]:=zO (by omega);subst OP;subst qY;by_cases uF:1<s.size
     ·have e48:((s[0].toNat:Int)==48)=false:=by
       rw[show((48:Int))=(((48:UInt8).toNat:Nat):Int) from rfl,dh];simpa using fun e=>Ll ⟨uF,e⟩
      have e1:decide ((1:Int)<(s.size:Int))=true:=by simp;omega
      clear Ll;go_enter func181,ntmps181;go_wp2_with fail;refine HA.out.mono ?_;rintro e w1 ⟨rfl,xB⟩;obtain⟨j0,j1⟩:=lg.out w1 xB;have KI:=z7 (HP.out.below xB);go_wp2_with fail;refine(lj.out _).mono ?_;rintro e w2 ⟨rfl,rfl⟩;go_wp2;go_ret;exact⟨⟨by rw[If.out];rfl,(KI.out.step j0).2 rfl⟩,(xS.of xB).trans (xS.set p _ 0 _)⟩
     ·have e1:decide ((1:Int)<(s.size:Int))=false:=by simp;omega
      clear Ll;go_enter func181,ntmps181;go_wp2_with fail;refine HA.out.mono ?_;rintro e w1 ⟨rfl,xB⟩;obtain⟨j0,j1⟩:=lg.out w1 xB;have KI:=z7 (HP.out.below xB);go_wp2_with fail;refine(lj.out _).mono ?_;rintro e w2 ⟨rfl,rfl⟩;go_wp2;go_ret;exact⟨⟨by rw[If.out];rfl,(KI.out.step j0).2 rfl⟩,(xS.of xB).trans (xS.set p _ 0 _)⟩
    ·have vx:¬(cap:Int)=1:=by omega
     by_cases uF:1<s.size
     ·have e48:((s[0].toNat:Int)==48)=false:=by
       rw[show((48:Int))=(((48:UInt8).toNat:Nat):Int) from rfl,dh];simpa using fun e=>Ll ⟨uF,e⟩
      have e1:decide ((1:Int)<(s.size:Int))=true:=by simp;omega
      clear Ll;go_enter func181,ntmps181;go_wp2_with fail;refine HA.out.mono ?_;rintro e w1 ⟨rfl,xB⟩;obtain⟨j0,j1⟩:=lg.out w1 xB;have KI:=z7 (HP.out.below xB);go_wp2_with fail;refine(lj.out _).mono ?_;rintro e w2 ⟨rfl,rfl⟩;go_wp2;go_ret;exact⟨⟨by rw[If.out];rfl,(KI.out.step j0).1⟩,(xS.of xB).trans (xS.set p _ 0 _)⟩
     ·have e1:decide ((1:Int)<(s.size:Int))=false:=by simp;omega
      clear Ll;go_enter func181,ntmps181;go_wp2_with fail;refine HA.out.mono ?_;rintro e w1 ⟨rfl,xB⟩;obtain⟨j0,j1⟩:=lg.out w1 xB;have KI:=z7 (HP.out.below xB);go_wp2_with fail;refine(lj.out _).mono ?_;rintro e w2 ⟨rfl,rfl⟩;go_wp2;go_ret;exact⟨⟨by rw[If.out];rfl,(KI.out.step j0).1⟩,(xS.of xB).trans (xS.set p _ 0 _)⟩
  ·have vu:r=none:=by
    rw[←HR.out];have:Gd (c::x')=false:=by
     rw[Cd,decide_eq_false (by simp;omega),zW]
    simp[kH,this]
   subst vu;have h9':decide ((9:Int)<(s.size:Int))=true:=by simp;omega
   have HA:=z7 (Ih p s w dG HT.out);rw[←hg] at Lp eZ;have lj:=z7 Lp;clear Z0 Lp hg sP hd qC Cd qa;go_enter func181,ntmps181;go_wp2_with fail;refine HA.out.mono ?_;rintro e w1 ⟨⟨v,ev,rfl,hev⟩,xB⟩;rcases hev with rfl|⟨N,rfl⟩
   ·go_wp2_with fail;refine(lj.out _).mono ?_;rintro e w2 ⟨rfl,rfl⟩;go_wp2;exact⟨rfl,rfl,xS.of xB⟩
   ·go_wp2;exact⟨rfl,rfl,xS.of xB⟩
 ·have vu:r=none:=by
   rw[←HR.out];have:Gd (c::x')=false:=by
    unfold Gd vO;simp[hd]
   simp[kH,this]
  subst vu;have Z0:¬(xE c=2):=fun e=>hd ((Zs c).1 e)
  have eZ:((xE c:Int) !=2)=true:=by simp;omega
  have HA:=z7 (Ih p s w dG HT.out);have Lp:=fun W=>fF c W
  rw[←hg] at Lp eZ;have lj:=z7 Lp;clear Z0 Lp hg sP hd qa;go_enter func181,ntmps181;go_wp2_with fail;refine HA.out.mono ?_;rintro e w1 ⟨⟨v,ev,rfl,hev⟩,xB⟩;rcases hev with rfl|⟨N,rfl⟩
  ·go_wp2_with fail;refine(lj.out _).mono ?_;rintro e w2 ⟨rfl,rfl⟩;go_wp2;exact⟨rfl,rfl,xS.of xB⟩
  ·go_wp2;exact⟨rfl,rfl,xS.of xB⟩
theorem fE(p:Nat)(ws:List Wd)(w:World)(hp:gX w p ws)(hx:∀ x∈ws,Cr x)(hT:RT p w) :
  Calls Tryz.prog 181 #[.pointer (some ⟨p,0,none⟩)] w (zuu p (kH ws) w):=by
 match ws,hp,hx with
 | [],hp,_=>exact O1 p w hp
 | x::t,hp,hx =>
  have h:=hx x (by simp)
  cases x with
  | nil=>exact absurd rfl h.ne
  | cons c x'=>exact Iw p c x' t w hp h hT
theorem jq{ws t:List Wd}{v:Nat}(h:kH ws=some (v,t)):v<=1000000000/\(∀ x∈t,x∈ws)/\t.length+1=ws.length:=by
 cases ws with
 | nil=>cases h
 | cons w u =>
  by_cases hf:Gd w=true
  ·simp only[kH,hf,if_true,Option.some.injEq,Prod.mk.injEq] at h;obtain⟨rfl,rfl⟩:=h;have h1:=(Fig.of hf);have h2:=nY w h1.1.dig;have h3:10 ^ w.length<=10 ^ 9:=Nat.pow_le_pow_right (by decide) h1.2;exact⟨by omega,fun x hx=>by simp[hx],by simp⟩
  ·simp[kH,hf] at h
end Go.Proofs.YthpldolmpinnhaaGreatDoor
