import Derived.Test.YthpldolmpinnhaaGreatDoorJ37
import Derived.Laws.RangeAny
import Derived.Test.YthpldolmpinnhaaGreatDoorShelf
import Derived.Maps.AppendAt
import Derived.Deep.LoopGhost
import Derived.Laws.EntriesVeiled
import Derived.WalkMore
import Derived.Defers
import Derived.Recover
namespace Go.Proofs.YthpldolmpinnhaaGreatDoor
open Go Go.RowKit
set_option maxRecDepth 10000
def nmGo:Nat->Wd->Bool
 | _,[]=>true
 | i,c::t=>(letterL (c.toNat:Int) || (!decide (i=0) && digitL (c.toNat:Int))) && nmGo (i+1) t
def namedL (s:Wd):Bool:=nmGo 0 s && (decide (0<s.length) && decide (s.length<=16))
theorem high_no {r:Nat} (h:128<=r):letterL (r:Int)=false/\digitL (r:Int)=false:=by
 constructor
 ·simp only [letterL,Bool.or_eq_false_iff,Bool.and_eq_false_iff,decide_eq_false_iff_not,beq_eq_false_iff_ne,ne_eq];omega
 ·simp only [digitL,Bool.and_eq_false_iff,decide_eq_false_iff_not];omega
set_option maxHeartbeats 4000000 in
theorem named_any (t:Wd) (w:World) (ht:t.length<=5000000):Calls Tryz.prog 83 #[strv t] w fun e w'=>e = .returned (.bool (namedL t))/\Fr noF noF w w':=by
 obtain ⟨s,hs⟩:∃ s,ByteArray.mk t.toArray=s:=⟨_,rfl⟩;have hsz:s.size=t.length:=by rw [←hs,size_mk]
 have hat:∀ (k:Nat) (h:k<s.size),∃ c,t[k]? = some c/\s[k]'h=c:=by
  intro k h;subst hs;exact ⟨_,List.getElem?_eq_getElem (by rw [size_mk] at h;exact h),by rfl⟩
 obtain ⟨n,hn⟩:∃ n,t.length=n:=⟨_,rfl⟩;have HAT:=Lib.hid hat;have HSZ:=Lib.hid hsz;have HN:=Lib.hid hn;have HT:=Lib.hid ht;rw [show strv t = .string s from congrArg Value.string hs];have hln:s.size=n:=hsz.trans hn;have HL:=Lib.hid hln;clear hs hsz hn ht hln hat;go_enter Tryz.func83,Tryz.ntmps83
 go_wp2_with fail
 go_loopw [] (fun wr=>∃ pos,wr=w.iter s pos/\pos<=n/\nmGo 0 t=nmGo pos (t.drop pos)) (fun wr=>n - wr.iterPos w.heap.size)
 case atStart=>exact ⟨0,rfl,Nat.zero_le _,rfl⟩
 case round =>
  obtain ⟨pos,rfl,hp,hg⟩:=hrel;have HG:=Lib.hid hg;clear hg;by_cases hlt:pos<s.size
  ·obtain ⟨c,hc,hsc⟩:=HAT.out pos hlt;have hdrop:t.drop pos=c::t.drop (pos+1):=by
    obtain ⟨h1,h2⟩:=List.getElem?_eq_some_iff.1 hc;rw [List.drop_eq_getElem_cons h1,h2]
   have hg2:=HG.out;rw [hdrop,nmGo] at hg2;have HG2:=Lib.hid hg2;clear hdrop hg2;by_cases ha:c.toNat<128
   ·have hnx:=fun ty=>run_next_ascii (P:=Tryz.prog) w s pos ty hlt (by rw [hsc];exact ha)
    rw [hsc] at hnx;obtain ⟨l,hl⟩:∃ b,letterL (c.toNat:Int)=b:=⟨_,rfl⟩;obtain ⟨dg,hdg⟩:∃ b,digitL (c.toNat:Int)=b:=⟨_,rfl⟩;obtain ⟨r,hr⟩:∃ r:Int,(c.toNat:Int)=r:=⟨_,rfl⟩;rw [hr] at hnx hl hdg;have HLT:=fun W=>Lib.hid (hl▸syn_letter r W)
    have HDG:=fun W=>Lib.hid (hdg▸syn_digit r W)
    have HX:=Lib.hid (show nmGo 0 t=((l || (!decide (pos=0) && dg)) && nmGo (pos+1) (t.drop (pos+1))) by have:=HG2.out;rw [hr,hl,hdg] at this;exact this);have HLE:=Lib.hid (show pos+1<=n by have:=HL.out;omega);clear hl hdg hr hsc hc ha hlt;have HB:l=false->(pos=0\/dg=false)->namedL t=false:=fun h1 h2=>by
     unfold namedL;rw [HX.out,h1];rcases h2 with h2 | h2<;>simp [h2]
    have HB:=Lib.hid HB;go_wp2_with fail
    refine (HLT _).out.mono ?_;rintro e w' ⟨rfl,rfl⟩
    cases l with
    | true =>
     go_wp2
     go_roundw
     case measure=>simp only [World.iterPos_iter];have:=HLE.out;omega
     case rel=>exact ⟨pos+1,rfl,HLE.out,by rw [HX.out];simp⟩
    | false =>
     by_cases h0:pos=0
     ·subst h0;go_wp2
      go_ret
      exact ⟨by rw [HB.out (by simp) (by simp)];rfl,(Fr.refl noF w).alloc _⟩
     ·have g0:((pos:Int)=0)=False:=by simp;omega
      go_wp2_with fail
      refine (HDG _).out.mono ?_;rintro e w' ⟨rfl,rfl⟩
      cases dg with
      | false =>
       go_wp2
       go_ret
       exact ⟨by rw [HB.out (by simp) (by simp)];rfl,(Fr.refl noF w).alloc _⟩
      | true =>
       go_wp2
       go_roundw
       case measure=>simp only [World.iterPos_iter];have:=HLE.out;omega
       case rel=>exact ⟨pos+1,rfl,HLE.out,by rw [HX.out];simp [h0]⟩
   ·have hnx:=fun ty=>run_next_any (P:=Tryz.prog) w s pos ty hlt
    obtain ⟨h1,-⟩:=decode_high s pos hlt (by rw [hsc];omega);obtain ⟨r,hr⟩:∃ r,(Utf8.decode s pos).1=r:=⟨_,rfl⟩;obtain ⟨z,hz⟩:∃ z,(Utf8.decode s pos).2=z:=⟨_,rfl⟩;rw [hr,hz] at hnx;rw [hr] at h1;have HLT:=fun W=>Lib.hid ((high_no h1).1▸syn_letter r W)
    have HDG:=fun W=>Lib.hid ((high_no h1).2▸syn_digit r W)
    have HB:=Lib.hid (show namedL t=false by
     unfold namedL;rw [HG2.out,(high_no (r:=c.toNat) (by omega)).1,(high_no (r:=c.toNat) (by omega)).2];simp)
    clear hr hz hsc hc ha hlt h1;go_wp2_with fail
    refine (HLT _).out.mono ?_;rintro e w' ⟨rfl,rfl⟩;by_cases h0:pos=0
    ·subst h0;go_wp2
     go_ret
     exact ⟨by rw [HB.out];rfl,(Fr.refl noF w).alloc _⟩
    ·have g0:((pos:Int)=0)=False:=by simp;omega
     go_wp2_with fail
     refine (HDG _).out.mono ?_;rintro e w' ⟨rfl,rfl⟩;go_wp2
     go_ret
     exact ⟨by rw [HB.out];rfl,(Fr.refl noF w).alloc _⟩
  ·have hnx:=fun ty=>run_next_end (P:=Tryz.prog) w s pos ty hlt
   have HB:=Lib.hid (show namedL t=(decide (0<n) && decide (n<=16)) by
    unfold namedL;rw [HG.out,List.drop_eq_nil_of_le (by have:=HL.out;have:=HN.out;omega),HN.out];rfl)
   clear hlt hp;have e:=HL.out;subst e;by_cases h0:0<s.size
   ·have g0:(0:Int)<(s.size:Int):=by omega
    by_cases h1:s.size<=16
    ·have g1:(s.size:Int)<=16:=by omega
     go_wp2
     go_ret
     exact ⟨by rw [HB.out];simp [h0,h1],(Fr.refl noF w).alloc _⟩
    ·have g1:¬(s.size:Int)<=16:=by omega
     go_wp2
     go_ret
     exact ⟨by rw [HB.out];simp [h0,h1],(Fr.refl noF w).alloc _⟩
   ·have g0:¬(0:Int)<(s.size:Int):=by omega
    go_wp2
    go_ret
    exact ⟨by rw [HB.out];simp [h0],(Fr.refl noF w).alloc _⟩
theorem next_ty (p:Value) (ty ty':TypeId) (w:World):(Instr.next p false ty).run Tryz.prog w=(Instr.next p false ty').run Tryz.prog w:=rfl
theorem fr_grown {row:Option Nat} {w w':World} (hg:w.grownBy w' row):Fr (fun k=>row=some k) (fun k=>row=some k) w w' :=
 ⟨hg.os,hg.tape,hg.output,hg.size,fun k hk hn=>hg.block k hk (fun e=>hn e.symm),fun _ q => .inl q⟩
def ArgsOk (f:Wd->Option (Wd×Bool)) (z:Nat):Prop:=z<=16/\∀ m x,f m=some x->namedL m=true/\validL x.1 x.2=true
def ArgsQ (b n z:Nat) (f:Wd->Option (Wd×Bool)) (w:World) (e:Ending) (w':World):Prop :=
 ((ArgsOk f z/\∃ c,e = .returned (.tuple #[argsV c,.bool true])/\ArgI b c n z f () w'/\w.heap.size<=c)\/(¬ArgsOk f z/\e = .returned (.tuple #[.nilFunc,.bool false])))/\Fr noF noF w w'
set_option maxHeartbeats 4000000 in
theorem args_any {b n z:Nat} {f:Wd->Option (Wd×Bool)} {w:World} (h:MapA w b n z f) (hl:∀ m x,f m=some x->m.length<=5000000/\x.1.length<=1000000) (hz0:z<=1000000000) :
  Calls Tryz.prog 52 #[.map (some b)] w (ArgsQ b n z f w):=by
 have hmf:∀ (fn:Fn) (first cap:Array Value) (w:World),(Instr.makeFunc fn first cap).run Tryz.prog w = .ok (.func fn first cap) w:=fun _ _ _ _=>rfl
 have hlt:=h.lt;obtain ⟨W,hW⟩:∃ W,w.alloc (.cells #[.map (some b)] 82)=W:=⟨_,rfl⟩;have hf1:Fr noF noF w W:=by rw [←hW];exact (Fr.refl noF w).alloc _
 have hmW:MapA W b n z f:=h.fr hf1 id;have hcW:W.cell? ⟨w.heap.size,0,none⟩=some (.map (some b)):=by rw [←hW];exact cell_made w #[.map (some b)] _ (0,0) 0
 have hsW:W.heap.size=w.heap.size+1:=by rw [←hW];simp
 have hln:=hmW.len 3;obtain ⟨w2,hrg,hR,hg2,hs2⟩:=hmW.range;obtain ⟨c,hc⟩:∃ c,w.heap.size=c:=⟨_,rfl⟩;rw [hc] at hcW hsW;rw [hsW] at hrg hR;have hf2:Fr noF noF w w2:=hf1.over (fr_grown hg2) (fun q hq=>by cases hq);have c2:=(fr_grown hg2).cell hcW (fun q=>by cases q);have HF2:=Lib.hid hf2;have HF1:=Lib.hid hf1;have HMA:=Lib.hid h;have HR:=Lib.hid hR;have HC:=Lib.hid hc;have HL:=Lib.hid hl;have HLT:=Lib.hid hlt;have HC2:=Lib.hid c2;clear hmW hf1 hg2 hs2 hf2 hR hl hlt hsW h c2;by_cases hz:z<=16
 ·have g1:¬(16:Int)<(z:Int):=by omega
  have HZ:=Lib.hid hz;clear hz hz0;go_enter Tryz.func52,Tryz.ntmps52
  go_wp2_with fail
  go_loopw [] (fun wr=>∃ left cnt,RngA wr b (c+1) n f left cnt/\Fr noF noF w wr/\wr.cell? ⟨c,0,none⟩=some (.map (some b))/\∀ m x,f m=some x->left m=false->namedL m=true/\validL x.1 x.2=true) (fun wr=>wr.rangeLeft b (c+1))
  case atStart=>exact ⟨_,_,HR.out,HF2.out,HC2.out,fun m x hm hl=>by simp [hm] at hl⟩
  case round =>
   obtain ⟨left,cnt,hR1,hf,hcr,hok⟩:=hrel;have HRel:=Lib.hid (And.intro hR1 (And.intro hf hok));rcases hR1.next 0 with ⟨-,hno,hnx⟩ | ⟨m,x,w',cnt',hlm,hfm,hnx,hR2,hlc,hgr,hsz,hen⟩
   ·have hnx:=fun ty=>(next_ty (.pointer (some ⟨c+1,0,none⟩)) ty 0 wr).trans hnx
    have HNO:=Lib.hid hno;clear hR1 hf hok hno;go_wp2
    go_ret2
    have hR1:=HRel.out.1;refine ⟨.inl ⟨⟨HZ.out,fun m x hm=>HRel.out.2.2 m x hm (HNO.out m)⟩,c,rfl,⟨?_,hcr,fun m x hm=>(HL.out m x hm).2⟩,by rw [HC.out];exact Nat.le_refl _⟩,HRel.out.2.1⟩;exact HMA.out.fr HRel.out.2.1 id
   ·have hnx:=fun ty=>(next_ty (.pointer (some ⟨c+1,0,none⟩)) ty 0 wr).trans hnx
    obtain ⟨t,num⟩:=x;obtain ⟨l1,l2⟩:=HL.out m _ hfm;obtain ⟨d,hd⟩:∃ d,w'.heap.size=d:=⟨_,rfl⟩;obtain ⟨V,hV⟩:∃ V,w'.alloc (.cells #[strv t,.bool num] 86)=V:=⟨_,rfl⟩;have d0:V.cell? ⟨d,0,none⟩=some (strv t):=by rw [←hV,←hd];exact cell_made w' #[strv t,.bool num] _ (0,0) 0
    have d1:V.cell? ⟨d,1,none⟩=some (.bool num):=by rw [←hV,←hd];exact cell_made w' #[strv t,.bool num] _ (0,0) 1
    have fV:Fr noF noF w' V:=by rw [←hV];exact (Fr.refl noF w').alloc _
    have hfw:Fr noF noF w w':=hf.over (fr_grown hgr) (fun q hq => .inr (by cases hq;have:=HC.out;omega));have hcw:w'.cell? ⟨c,0,none⟩=some (.map (some b)):=(fr_grown hgr).cell hcr (fun q=>by cases q);obtain ⟨nm,hnm⟩:∃ q,namedL m=q:=⟨_,rfl⟩;obtain ⟨vd,hvd⟩:∃ q,validL t num=q:=⟨_,rfl⟩;have HNM:=fun W=>Lib.hid (hnm▸named_any m W l1)
    have HVL:=fun W=>Lib.hid (hvd▸valid_any t num W l2)
    have HB:=Lib.hid (And.intro hR2 (And.intro hlc (And.intro fV (And.intro hfw hcw))));have HM:=Lib.hid (And.intro hfm (And.intro hnm hvd));have HD:=Lib.hid (And.intro d0 d1);clear hR1 hf hok hR2 hlc fV hfw hcw hgr hsz hlm hfm hnm hvd l1 l2 d0 d1;go_wp2_with fail
    refine (HNM _).out.mono ?_;rintro e w3 ⟨rfl,hf3⟩;have e0:=hf3.cell HD.out.1 id;have e1:=hf3.cell HD.out.2 id;have HF3:=Lib.hid hf3;clear hf3
    cases nm with
    | false =>
     go_wp2
     go_ret2
     refine ⟨.inr ⟨fun q=>?_,rfl⟩,HB.out.2.2.2.1.trans (HB.out.2.2.1.trans HF3.out)⟩;have:=(q.2 m _ HM.out.1).1;rw [HM.out.2.1] at this
     cases this
    | true =>
     go_wp2_with fail
     refine (HVL _).out.mono ?_;rintro e w4 ⟨rfl,hb⟩;have hf4:Fr noF noF w3 w4:=⟨hb.os,hb.tape,hb.output,hb.size,fun k hk _=>hb.block k hk,fun _ q => .inl q⟩;have HF4:=Lib.hid (HB.out.2.2.1.trans (HF3.out.trans hf4));clear hb hf4
     cases vd with
     | false =>
      go_wp2
      go_ret2
      refine ⟨.inr ⟨fun q=>?_,rfl⟩,HB.out.2.2.2.1.trans HF4.out⟩;have:=(q.2 m _ HM.out.1).2;rw [HM.out.2.2] at this
      cases this
     | true =>
      go_wp2
      go_roundw
      case measure =>
       rw [(HB.out.1.fr HF4.out id id).left_eq,HRel.out.1.left_eq];exact HB.out.2.1
      case rel =>
       refine ⟨_,_,HB.out.1.fr HF4.out id id,HB.out.2.2.2.1.trans HF4.out,HF4.out.cell HB.out.2.2.2.2 id,fun m' x' hm' hl'=>?_⟩;by_cases he:m'=m
       ·subst he;have:=HM.out.1;rw [hm'] at this
        cases this;exact ⟨HM.out.2.1,HM.out.2.2⟩
       ·exact HRel.out.2.2 m' x' hm' (by simpa [he] using hl')
 ·have g1:(16:Int)<(z:Int):=by omega
  have HZ:=Lib.hid hz;clear hz hz0;go_enter Tryz.func52,Tryz.ntmps52
  go_wp2
  go_ret2
  exact ⟨.inr ⟨fun q=>by have:=q.1;have:=HZ.out;omega,rfl⟩,HF1.out⟩
def valsF:List Wd->Nat×(Wd->Option (Wd×Bool))->Nat×(Wd->Option (Wd×Bool))
 | k::d::t::r,p=>valsF r (if (p.2 k).isSome then p.1 else p.1+1,fun m=>if k=m then some (t,d==[110]) else p.2 m)
 | _,p=>p
theorem vals_short {l:List Wd} (h:l.length<3) (p:Nat×(Wd->Option (Wd×Bool))):valsF l p=p:=by
 match l,h with
 | [],_=>rfl
 | [_],_=>rfl
 | [_,_],_=>rfl
 | _::_::_::_,h=>simp at h;omega
def TextsA (w:World) (a:Option Addr) (l:List Wd):Prop:=l≠[]->∃ g o,a=some ⟨g,o,none⟩/\∀ j t,l[j]? = some t->w.cell? ⟨g,o+j,none⟩=some (strv t)
theorem TextsA.fr {w w':World} {a:Option Addr} {l:List Wd} (h:TextsA w a l) (hf:Fr noF noF w w'):TextsA w' a l:=fun hne=>by
 obtain ⟨g,o,ha,hc⟩:=h hne;exact ⟨g,o,ha,fun j t ht=>hf.cell (hc j t ht) id⟩
set_option maxHeartbeats 4000000 in
theorem pvalues_any {l:List Wd} {a:Option Addr} {n c:Nat} {w:World} (h:TextsA w a l) (hn:l.length=n) (hl:∀ t∈l,t.length<=1000000) (hn0:n<=1000000) :
  Calls Tryz.prog 34 #[.slice a n c] w fun e w'=>e = .returned (.map (some w.heap.size))/\(∃ N,N<=2000000/\MapA w' w.heap.size N (valsF l (0,fun _=>none)).1 (valsF l (0,fun _=>none)).2)/\Fr noF noF w w':=by
 have hmm:=@run_makeMap Tryz.prog;obtain ⟨b,hb⟩:∃ b,w.heap.size=b:=⟨_,rfl⟩;have h0:=MapA.made w;have f0:Fr noF noF w (w.alloc (.map #[] 0)):=(Fr.refl noF w).alloc _;rw [hb] at h0;have H0:=Lib.hid (And.intro h0 f0);have HH:=Lib.hid h;have HN:=Lib.hid (And.intro hn hn0);have HL:=Lib.hid hl;have HB:=Lib.hid hb;clear h hn hl hn0 h0 f0;go_enter Tryz.func34,Tryz.ntmps34
 go_wp2
 go_loopw [4] (fun i wr=>∃ k N z f,i = .int .i64 (k:Nat)/\k<=n+3/\N<=k/\MapA wr b N z f/\valsF l (0,fun _=>none)=valsF (l.drop k) (z,f)/\Fr noF noF w wr) (fun i _=>n+3 - (intOf i).toNat)
 case atStart=>exact ⟨0,0,0,_,rfl,Nat.zero_le _,Nat.le_refl _,H0.out.1,rfl,H0.out.2⟩
 case round =>
  obtain ⟨k,N,z,f,rfl,hk,hNk,hm,hv,hf⟩:=hrel;by_cases hlt:k+2<n
  ·obtain ⟨g,o,rfl,hc⟩:=HH.out (fun e=>by have:=HN.out.1;rw [e] at this;simp at this;omega);obtain ⟨t0,g0⟩:∃ t,l[k]? = some t:=⟨_,List.getElem?_eq_getElem (by have:=HN.out.1;omega)⟩;obtain ⟨t1,g1⟩:∃ t,l[k+1]? = some t:=⟨_,List.getElem?_eq_getElem (by have:=HN.out.1;omega)⟩;obtain ⟨t2,g2⟩:∃ t,l[k+2]? = some t:=⟨_,List.getElem?_eq_getElem (by have:=HN.out.1;omega)⟩;have c0:=hf.cell (hc k t0 g0) id;have c1:=hf.cell (hc (k+1) t1 g1) id;have c2:=hf.cell (hc (k+2) t2 g2) id;have hd:l.drop k=t0::t1::t2::l.drop (k+3):=by
    obtain ⟨h1,e1⟩:=List.getElem?_eq_some_iff.1 g0;obtain ⟨h2,e2⟩:=List.getElem?_eq_some_iff.1 g1;obtain ⟨h3,e3⟩:=List.getElem?_eq_some_iff.1 g2;rw [List.drop_eq_getElem_cons h1,e1,List.drop_eq_getElem_cons h2,e2,List.drop_eq_getElem_cons h3,e3]
   have l0:=HL.out t0 (List.mem_of_getElem? g0);have l2:=HL.out t2 (List.mem_of_getElem? g2);obtain ⟨B,hB⟩:∃ B,(t1==[110])=B:=⟨_,rfl⟩;obtain ⟨w2,hput,hm2,hg2⟩:=(hm.keep (w':=wr.drew) rfl).put t0 (by omega) (t2,B) (by show t2.length<=_;omega) (by have:=HN.out.2;omega);rw [hd,valsF,hB] at hv;have hf2:Fr noF noF w w2:=(hf.drew).over (fr_grown hg2) (fun q hq=>by cases hq;exact .inr (by rw [HB.out];exact Nat.le_refl _));have hbg:b≠g:=fun e=>by
    have:=World.block_lt_of_cell? w _ (hc k t0 g0);rw [←e,HB.out] at this;exact Nat.lt_irrefl _ this
   have e0:=(fr_grown hg2).cell (w:=wr.drew) c0 (fun e=>hbg (Option.some.inj e));have e1:=(fr_grown hg2).cell (w:=wr.drew) c1 (fun e=>hbg (Option.some.inj e));have e2:=(fr_grown hg2).cell (w:=wr.drew) c2 (fun e=>hbg (Option.some.inj e));have HQ:=Lib.hid (And.intro hm2 (And.intro hv hf2));clear hc g0 g1 g2 hd l0 l2 hm hv hf hm2 hg2 hf2 hbg;have k1:(k:Int)+2<(n:Int):=by omega
   have k0:k<n:=by omega
   have k01:k+1<n:=by omega
   have k2:(k:Int)+1<(n:Int):=by omega
   have hn1:n<=1000000:=HN.out.2;have hw2:IntKind.i64.wrap ((k:Int)+2)=(k:Int)+2:=by rw [IntKind.wrap_i64];omega
   have hw1:IntKind.i64.wrap ((k:Int)+1)=(k:Int)+1:=by rw [IntKind.wrap_i64];omega
   have hw3:IntKind.i64.wrap ((k:Int)+3)=(k:Int)+3:=by rw [IntKind.wrap_i64];omega
   have HLT:=Lib.hid hlt;have q2:(0:Int)<=(k:Int)+2:=by omega
   have q1:(0:Int)<=(k:Int)+1:=by omega
   have u2:((k:Int)+2).toNat=k+2:=by omega
   have u1:((k:Int)+1).toNat=k+1:=by omega
   clear hn1;go_wp2_with fail
   refine rt (fun W':World=>W'.cell? ⟨g,o+k,none⟩=some (strv t0)/\W'.cell? ⟨g,o+(k+1),none⟩=some (strv t1)/\W'.cell? ⟨g,o+(k+2),none⟩=some (strv t2)) (List.range 17) 1 ⟨c0,c1,c2⟩ ?_;(iterate 17 (refine ty ?_;try simp only [pl]))
   refine takes_nil ?_;refine wpAnyH_only 17 (by kernel_rfl) rfl (fun J hJ=>?_);go_simp
   refine hJ.out _ _ ⟨e0,e1,e2⟩ fun _=>?_
   clear hJ J;refine wpAnyH_done (by kernel_rfl) ?_ _;clear hput;go_wp2
   go_roundw
   case rel =>
    obtain ⟨m1,m2,m3⟩:=HQ.out;have hl:=HLT.out;exact ⟨k+3,N+1,_,_,by go_num,by omega,by omega,m1,m2,m3⟩
   case measure=>simp only [intOf];omega
  ·have HQ:=Lib.hid (show valsF l (0,fun _=>none)=(z,f) by rw [hv,vals_short (by rw [List.length_drop,HN.out.1];omega)]);have HM:=Lib.hid (And.intro hm hf);have k1:¬(k:Int)+2<(n:Int):=by omega
   have hn1:n<=1000000:=HN.out.2;have hw2:IntKind.i64.wrap ((k:Int)+2)=(k:Int)+2:=by rw [IntKind.wrap_i64];omega
   have HNk:=Lib.hid (show N<=2000000 by have:=HN.out.2;omega);clear hv hm hf hn1;go_wp2
   go_ret
   exact ⟨rfl,⟨N,HNk.out,by rw [HQ.out];exact HM.out.1⟩,HM.out.2⟩
structure LocM {τ:Type} (w:World) (g:Nat) (E:EnvF τ):Prop where
 wr:∀ W nv n,Fr noF noF w W->NumI (fun _=>False) W nv n->Calls Tryz.prog 45 #[.pointer (some ⟨g,0,none⟩),nv] W fun e w'=>e = .returned (strv (E.wr n))/\Below W.heap.size W w'
 wrl:∀ n:SNum,DgOk n.2->(E.wr n).length<=5000
 set:∃ cv ov,(∀ W,Fr noF noF w W->W.cell? ⟨g,0,none⟩=some cv/\W.cell? ⟨g,1,none⟩=some ov) /\
  (∀ W nv d,Fr noF noF w W->NumV W nv d->Calls Tryz.prog 60 #[cv,nv] W fun e w'=>e = .returned (.int .i64 (E.sort false d))/\Below W.heap.size W w') /\
  ∀ W nv d,Fr noF noF w W->NumV W nv d->Calls Tryz.prog 60 #[ov,nv] W fun e w'=>e = .returned (.int .i64 (E.sort true d))/\Below W.heap.size W w'
 srt:∀ b d,E.sort b d<6
structure LprgM {τ:Type} (P q g mb:Nat) (f:Fo) (vC vI:Value) (rs:List (Value×Value)) (E:EnvF τ) (w:World):Prop where
 p0:w.cell? ⟨P,0,none⟩=some (.pointer (some ⟨q,0,none⟩))
 p1:w.cell? ⟨P,1,none⟩=some (.pointer (some ⟨g,0,none⟩))
 prog:ProgAt q (MkS.all f) vC vI rs mb w
 loc:LocM w g E
 msg:f.isMsg=true
 vok:f.vok false
 cok:f.cok
 sh:f.sh
 cw:f.cw<=90000
section
variable {P q g mb:Nat} {f:Fo} {vC vI:Value} {rs:List (Value×Value)} {w:World}
theorem low_of {w w':World} (h:Fr noF noF w w'):Below w.heap.size w w':=⟨h.os,h.tape,h.output,h.size,fun k hk=>h.keep k hk id⟩
theorem LprgM.env {E:EnvF Unit} (h:LprgM P q g mb f vC vI rs E w) {w0:World} (hf:Fr noF noF w w0) {A:Nat} (hA:w0.heap.size=A) {b c n z:Nat} {fm:Wd->Option (Wd×Bool)} :
  EnvM w0 (A+2) (A+2) (fun k=>A+2<=k) q mb g (MkS.all f) vC vI rs (argsV c) (mapE E fm) (fun _=>noF) (fun _ k=>k=b\/k=c) (ArgI b c n z fm):=by
 obtain ⟨a1,a2,a3,a4,a5⟩:=all_fits h.cok h.sh h.cw;have hov:∀ W,Fr (fun k=>A+2<=k) (fun k=>A+2<=k) w0 W->Fr noF noF w W:=fun W hW=>hf.over hW (fun q hq => .inr (by have:=hf.size;omega))
 obtain ⟨cv,ov,s1,s2,s3⟩:=h.loc.set;exact ⟨fun W hW=>h.prog.below (low_of (hov W hW)),fun W nv n hW=>h.loc.wr W nv n (hov W hW),h.loc.wrl,⟨cv,ov,fun W hW=>s1 W (hov W hW),fun W nv d hW=>s2 W nv d (hov W hW),fun W nv d hW=>s3 W nv d (hov W hW)⟩,h.loc.srt,map_getm E b c n z fm,by omega,a3,a4,a5,fun k hk=>hk,Nat.le_refl _⟩
def ResP {τ:Type} (res:Except (Nat×τ) (Wd×τ)) (a b:Value):Prop:=match res with | .ok (o,_)=>a=strv o/\b = .nilIface | .error (n,_)=>a=strv []/\b=errnoV n
theorem prog_parts {τ:Type} {G:Nat->Prop} {Inv:τ->World->Prop} {res:Except (Nat×τ) (Wd×τ)} {w w':World} {e:Ending} (h:ProgR G Inv res w e w'):∃ a b,e = .returned (.tuple #[a,b])/\ResP res a b/\Fr G G w w':=by
 obtain ⟨h1,h2⟩:=h;match res,h1 with
 | .ok (o,g'),h1=>exact ⟨_,_,h1.1,⟨rfl,rfl⟩,h2⟩
 | .error (n,g'),h1=>exact ⟨_,_,h1.1,⟨rfl,rfl⟩,h2⟩
def FmtQ (E:EnvF Unit) (f:Fo) (z:Nat) (fm:Wd->Option (Wd×Bool)) (w:World) (e:Ending) (w':World):Prop :=
 ∃ a b,e = .returned (.tuple #[a,b])/\(ArgsOk fm z/\ResP (sayF (mapE E fm) f [] (false,([],[])) [] ()) a b\/¬ArgsOk fm z/\a=strv []/\b=errnoV 11)/\Fr noF noF w w'
set_option maxHeartbeats 4000000 in
theorem lformat_any {E:EnvF Unit} (h:LprgM P q g mb f vC vI rs E w) {b n z:Nat} {fm:Wd->Option (Wd×Bool)} (hm:MapA w b n z fm) (hl:∀ m x,fm m=some x->m.length<=5000000/\x.1.length<=1000000) (hz:z<=1000000000) :
  Calls Tryz.prog 35 #[.pointer (some ⟨P,0,none⟩),.map (some b)] w (FmtQ E f z fm w):=by
 have HH:=Lib.hid h;have HA:=Lib.hid (args_any hm hl hz);clear h hm hl hz;go_enter Tryz.func35,Tryz.ntmps35
 go_wp2_with fail
 refine HA.out.mono ?_;rintro e w1 ⟨⟨hok,c,rfl,hI,hc⟩ | ⟨hno,rfl⟩,hf1⟩
 ·have HF1:=Lib.hid hf1;have HOK:=Lib.hid hok;have c0:=hf1.cell HH.out.p0 id;have c1:=hf1.cell HH.out.p1 id;have hE:=HH.out.env (w0:=w1.drew) hf1.drew (A:=w1.heap.size) rfl (b:=b) (c:=c) (n:=n) (z:=z) (fm:=fm);have hfit:=all_fits HH.out.cok HH.out.sh HH.out.cw;have HR:=Lib.hid (run_prog HH.out.msg HH.out.vok hE hfit.1 hfit.2.1 rfl (show ¬w1.heap.size+2<=w1.heap.size by omega) (show ¬w1.heap.size+2<=w1.heap.size+1 by omega) (false,([],[])) (g0:=()) (show ArgI b c n z fm () w1.drew from (map_getm E b c n z fm).fr hI ((Fr.refl noF w1).drew) (fun _ q=>q.elim)) (fun k q=>q.elim));clear hE hfit hI hc HA hok hf1;go_wp2_with fail
  refine rt (fun W':World=>W'.cell? ⟨P,0,none⟩=some (.pointer (some ⟨q,0,none⟩))/\W'.cell? ⟨P,1,none⟩=some (.pointer (some ⟨g,0,none⟩))) (List.range 9) 5 ⟨c0,c1⟩ ?_;(iterate 9 (refine ty ?_;try simp only [pl]))
  refine takes_nil ?_;refine wpAnyH_only 9 (by kernel_rfl) rfl (fun J hJ=>?_);go_simp
  refine HR.out.mono ?_;intro e w2 hq;obtain ⟨a,b',rfl,hres,hf2⟩:=prog_parts hq;have hf12:Fr noF noF w1 w2:=((Fr.refl noF w1).drew).over hf2 (fun q hq => .inr (by have:w1.heap.size+2<=q:=hq;omega));have d0:=hf12.cell c0 id;have d1:=hf12.cell c1 id;have HQ:=Lib.hid (And.intro hres hf12);clear hq hres hf2 hf12 HR;refine hJ.out _ _ ⟨d0,d1⟩ fun _=>?_
  clear hJ J;refine wpAnyH_more [10,11,12,13] 0 rfl (by intro _ _ d _ _ h;cases d<;>exact h) (by kernel_rfl) (by kernel_rfl) ⟨d0,d1⟩ ?_;(iterate 4 (refine ty ?_;try simp only [pl]))
  refine takes_nil ?_;refine wpAnyH_done (by kernel_rfl) ?_ _;clear d0 d1 c0 c1;go_wp2
  go_ret2
  exact ⟨a,b',rfl,.inl ⟨HOK.out,HQ.out.1⟩,HF1.out.trans HQ.out.2⟩
 ·have HF1:=Lib.hid hf1;have HNO:=Lib.hid hno;clear hf1 hno HA;go_wp2
  go_ret2
  exact ⟨_,_,rfl,.inr ⟨HNO.out,rfl,rfl⟩,HF1.out⟩
end
theorem vals_small {l:List Wd} (hl:∀ t∈l,t.length<=1000000):∀ (p:Nat×(Wd->Option (Wd×Bool))),(∀ m x,p.2 m=some x->m.length<=1000000/\x.1.length<=1000000)->∀ m x,(valsF l p).2 m=some x->m.length<=1000000/\x.1.length<=1000000:=by
 match l with
 | []=>exact fun p h=>h
 | [_]=>exact fun p h=>h
 | [_,_]=>exact fun p h=>h
 | k::d::t::r =>
  intro p h;rw [valsF];refine vals_small (l:=r) (fun u hu=>hl u (by simp [hu])) _ fun m x hx=>?_
  simp only at hx;split at hx
  ·next e =>
   cases hx;exact ⟨by rw [←e];exact hl k (by simp),hl t (by simp)⟩
  ·exact h m x hx
theorem vals_count:∀ (n:Nat) (l:List Wd),l.length<=n->∀ (p:Nat×(Wd->Option (Wd×Bool))),(valsF l p).1<=p.1+l.length
 | _,[],_,p=>Nat.le_add_right _ _
 | _,[_],_,p=>Nat.le_add_right _ _
 | _,[_,_],_,p=>Nat.le_add_right _ _
 | 0,_::_::_::_,h,_=>by simp at h
 | n+1,k::d::t::r,h,p=>by
  obtain ⟨q,hq⟩:∃ q,(if (p.2 k).isSome then p.1 else p.1+1)=q:=⟨_,rfl⟩;have hle:q<=p.1+1:=by rw [←hq];split<;>omega
  rw [valsF,hq];have:=vals_count n r (by simp at h;omega) (q,fun m=>if k=m then some (t,d==[110]) else p.2 m);simp only [List.length_cons] at this ⊢;omega
theorem MapA.look1 {w:World} {b n z:Nat} {f:Wd->Option (Wd×Bool)} (h:MapA w b n z f) (m:Wd) (hm:m.length<=5000000) :
  (Instr.lookup 82 (.map (some b)) (strv m) false).run Tryz.prog w = .ok (argV ((f m).getD ([],false))) w:=by
 obtain ⟨D,h1,-,h3⟩:=h;obtain ⟨v,ps,hrun,hv⟩:=h1.lookup (Maps.string_keyed Tryz.underlying9) Tryz.underlying82 (z:=argV ([],false)) (by first | rfl | simp [go_sem]) (zd:=argD ([],false)) (zp:=[]) (argR_of _ (by simp))
  (key:=strv m) (WideMaps.keyOf_string_mk (s:=⟨m.toArray⟩) Tryz.underlying9 (by rw [size_mk];unfold maxLen;omega))
 rw [toList_mk] at hv;obtain ⟨x,hx1,hx2,-⟩:=argR_inv hv;have he:D.atKey (.string m) (argD ([],false))=argD x:=congrArg Prod.fst hx2;rw [(h3 m).2] at he;rw [hrun,hx1,argD_inj he]
section
variable {P q g mb:Nat} {f:Fo} {vC vI:Value} {rs:List (Value×Value)} {w:World}
def SaidQ (E:EnvF Unit) (f:Fo) (z:Nat) (fm:Wd->Option (Wd×Bool)) (s:Wd) (k:Nat):Prop :=
 ArgsOk fm z/\(match sayF (mapE E fm) f [] (false,([],[])) [] () with | .ok (o,_)=>s=o/\k=0 | .error (n,_)=>s=[]/\k=n)\/¬ArgsOk fm z/\s=[]/\k=11
theorem said_of {E:EnvF Unit} {z:Nat} {fm:Wd->Option (Wd×Bool)} {a b:Value} (h:ArgsOk fm z/\ResP (sayF (mapE E fm) f [] (false,([],[])) [] ()) a b\/¬ArgsOk fm z/\a=strv []/\b=errnoV 11) :
  ∃ s k,SaidQ E f z fm s k/\a=strv s/\(k=0/\b = .nilIface\/b=errnoV k):=by
 rcases h with ⟨h1,h2⟩ | ⟨h1,rfl,rfl⟩
 ·unfold ResP at h2;unfold SaidQ;split at h2
  ·next o g' he=>exact ⟨o,0,.inl ⟨h1,by rw [he];exact ⟨rfl,rfl⟩⟩,h2.1,.inl ⟨rfl,h2.2⟩⟩
  ·next n g' he=>exact ⟨[],n,.inl ⟨h1,by rw [he];exact ⟨rfl,rfl⟩⟩,h2.1,.inr h2.2⟩
 ·exact ⟨[],11,.inr ⟨h1,rfl,rfl⟩,rfl,.inr rfl⟩
theorem ptell_any {k:Nat} {b:Value} (h:k=0/\b = .nilIface\/b=errnoV k) (w:World) (hE:ErrT w):Calls Tryz.prog 30 #[b] w (TellPost (k:Nat) 0 w):=by
 rcases h with ⟨rfl,rfl⟩ | rfl
 ·exact tell_nil w
 ·exact tell_n _ w hE
theorem LprgM.fr {τ:Type} {E:EnvF τ} (h:LprgM P q g mb f vC vI rs E w) {w':World} (hf:Fr noF noF w w'):LprgM P q g mb f vC vI rs E w':=by
 obtain ⟨cv,ov,s1,s2,s3⟩:=h.loc.set;exact ⟨hf.cell h.p0 id,hf.cell h.p1 id,h.prog.below (low_of hf),⟨fun W nv n hW=>h.loc.wr W nv n (hf.trans hW),h.loc.wrl,⟨cv,ov,fun W hW=>s1 W (hf.trans hW),fun W nv d hW=>s2 W nv d (hf.trans hW),fun W nv d hW=>s3 W nv d (hf.trans hW)⟩,h.loc.srt⟩,h.msg,h.vok,h.cok,h.sh,h.cw⟩
theorem fr_below {w w':World} (hb:Below w.heap.size w w'):Fr noF noF w w':=⟨hb.os,hb.tape,hb.output,hb.size,fun k hk _=>hb.block k hk,fun _ q => .inl q⟩
set_option maxHeartbeats 4000000 in
theorem pformat_any {E:EnvF Unit} (h:LprgM P q g mb f vC vI rs E w) (hR:ErrT w) {l:List Wd} {a:Option Addr} {n c:Nat} (ht:TextsA w a l) (hn:l.length=n) (hl:∀ t∈l,t.length<=1000000) (hn0:n<=1000000) :
  Calls Tryz.prog 21 #[.pointer (some ⟨P,0,none⟩),.slice a n c] w fun e w'=>(∃ s k,e = .returned (.tuple #[strv s,.int .i64 (k:Nat),.bool true])/\SaidQ E f (valsF l (0,fun _=>none)).1 (valsF l (0,fun _=>none)).2 s k)/\Fr noF noF w w':=by
 obtain ⟨z,hz⟩:∃ z,(valsF l (0,fun _=>none)).1=z:=⟨_,rfl⟩;obtain ⟨fm,hfm⟩:∃ fm,(valsF l (0,fun _=>none)).2=fm:=⟨_,rfl⟩;have hsm:∀ m x,fm m=some x->m.length<=1000000/\x.1.length<=1000000:=by rw [←hfm];exact vals_small hl _ (fun m x hx=>by cases hx)
 have hzc:z<=1000000:=by rw [←hz];have:=vals_count _ l (Nat.le_refl _) (0,fun _=>none);simp only at this;omega
 have HV:=Lib.hid (fun (W:World) (hf:Fr noF noF w W)=>pvalues_any (c:=c) (ht.fr hf) hn hl hn0);rw [hz,hfm] at HV;rw [hz,hfm];have HH:=Lib.hid h;have HR:=Lib.hid hR;have HS:=Lib.hid hsm;have HZ:=Lib.hid hzc;clear h hR ht hn hl hn0 hz hfm hsm hzc;go_enter Tryz.func21,Tryz.ntmps21
 go_wp2_with fail
 refine (HV.out w (Fr.refl _ _)).mono ?_;rintro e w1 ⟨rfl,⟨N,hN,m1⟩,hf1⟩;have HF:=Lib.hid (lformat_any (HH.out.fr hf1) m1 (fun m x hx=>⟨Nat.le_trans (HS.out m x hx).1 (by omega),(HS.out m x hx).2⟩) (by have:=HZ.out;omega));have H1:=Lib.hid (And.intro m1 hf1);obtain ⟨b1,hb1⟩:∃ b1,w.heap.size=b1:=⟨_,rfl⟩;rw [hb1] at HF H1 ⊢;clear m1 hf1 hb1 hN;go_wp2_with fail
 refine HF.out.mono ?_;rintro e w2 ⟨r1,r2,rfl,hr,hf2⟩;obtain ⟨s,k,hs,rfl,hk⟩:=said_of hr;have hf02:=H1.out.2.trans hf2;have H2:=Lib.hid (And.intro (H1.out.1.fr hf2 id) hf02);have HT:=Lib.hid (ptell_any hk w2 (HR.out.below (low_of hf02)));have HQ:=Lib.hid hs;clear hr hs hk hf2 hf02 HF H1;go_wp2_with fail
 refine HT.out.mono ?_;rintro e w3 ⟨rfl,hb3⟩;have hf3:=H2.out.2.trans (fr_below hb3);have H3:=Lib.hid (And.intro (H2.out.1.fr (fr_below hb3) id) hf3);clear hb3 hf3 H2 HT;go_wp2_with fail
 refine (HV.out w3 H3.out.2).mono ?_;rintro e w4 ⟨rfl,⟨N4,hN4,m4⟩,hf4⟩;obtain ⟨b4,hb4⟩:∃ b4,w3.heap.size=b4:=⟨_,rfl⟩;rw [hb4] at m4 ⊢;have m1:=H3.out.1.fr hf4 id;have l1:=m1.len 3;have l4:=m4.len 3;obtain ⟨w5,hrg,hRg,hg5,hs5⟩:=m4.range;obtain ⟨r,hr⟩:∃ r,w4.heap.size=r:=⟨_,rfl⟩;rw [hr] at hrg hRg;have hf5:=(H3.out.2.trans hf4).over (fr_grown hg5) (fun q hq=>by cases hq);have hlb:=m1.lt;have H5:=Lib.hid (And.intro hRg (And.intro (m1.fr (fr_grown hg5) (fun q=>by cases q)) (And.intro hf5 (show b1≠r by omega))));have HB4:=Lib.hid (And.intro hr (show w.heap.size<=w4.heap.size from (H3.out.2.trans hf4).size));clear hRg hg5 hs5 hf5 m1 m4 hf4 hb4 hlb H3 hr HV hN4;go_wp2_with fail
 go_loopw [13] (fun sv wr=>∃ left cnt,sv = .bool true/\RngA wr b4 r N4 fm left cnt/\MapA wr b1 N z fm/\Fr noF noF w wr) (fun _ wr=>wr.rangeLeft b4 r)
 case atStart=>exact ⟨_,_,rfl,H5.out.1,H5.out.2.1,H5.out.2.2.1⟩
 case round =>
  obtain ⟨left,cnt,rfl,hR1,hm,hf⟩:=hrel;have HRel:=Lib.hid (And.intro hR1 hf);rcases hR1.next 0 with ⟨-,hno,hnx⟩ | ⟨m,x,w',cnt',hlm,hfm,hnx,hR2,hlc,hgr,hsz,hen⟩
  ·have hnx:=fun ty=>(next_ty (.pointer (some ⟨r,0,none⟩)) ty 0 wr).trans hnx
   clear hR1 hm hf hno;go_wp2
   go_ret3
   exact ⟨⟨s,k,rfl,HQ.out⟩,HRel.out.2⟩
  ·have hnx:=fun ty=>(next_ty (.pointer (some ⟨r,0,none⟩)) ty 0 wr).trans hnx
   obtain ⟨t,num⟩:=x;have hfw:Fr noF noF w w':=hf.over (fr_grown hgr) (fun q hq => .inr (by cases hq;have:=HB4.out;omega));have hmw:MapA w' b1 N z fm:=hm.fr (fr_grown hgr) (fun q=>H5.out.2.2.2 (Option.some.inj q).symm);have hlk:=fun o=>(hmw.fr ((Fr.refl noF w').alloc o) id).look1 m (by have:=(HS.out m _ hfm).1;omega)
   rw [hfm] at hlk;have HB:=Lib.hid (And.intro hR2 (And.intro hlc (And.intro hfw hmw)));clear hR1 hm hf hR2 hlc hgr hsz hlm hfm hfw hmw;go_wp2
   go_roundw
   case measure =>
    rw [(HB.out.1.fr ((Fr.refl noF w').alloc _) id id).left_eq,HRel.out.1.left_eq];exact HB.out.2.1
   case rel =>
    exact ⟨_,_,rfl,HB.out.1.fr ((Fr.refl noF w').alloc _) id id,HB.out.2.2.2.fr ((Fr.refl noF w').alloc _) id,HB.out.2.2.1.alloc _⟩
end
theorem ResC.grown {W W':World} {q:Nat} {row:Option Nat} (h:ResC W q) (hg:W.grownBy W' row) (hne:some q≠row):ResC W' q :=
 ⟨hg.cell h.c0 hne,hg.cell h.c1 hne,hg.cell h.c2 hne,(World.frozen?_of_block (hg.block q h.lt hne)).trans h.z0,(World.frozen?_of_block (hg.block q h.lt hne)).trans h.z1,(World.frozen?_of_block (hg.block q h.lt hne)).trans h.z2,Nat.lt_of_lt_of_le h.lt hg.size⟩
theorem ResC.set {W:World} {q:Nat} (h:ResC W q) {a:Addr} (ha:a.block≠q) (u:Value):ResC (W.setCell a u) q :=
 have hb:(W.setCell a u).heap[q]? = W.heap[q]? := Below.heap_setCell _ _ _ _ (fun e=>ha e.symm);⟨(World.cell?_of_block hb).trans h.c0,(World.cell?_of_block hb).trans h.c1,(World.cell?_of_block hb).trans h.c2,(World.frozen?_of_block hb).trans h.z0,(World.frozen?_of_block hb).trans h.z1,(World.frozen?_of_block hb).trans h.z2,by simpa [World.setCell] using h.lt⟩
def TestR (lo hi:Nat) (w:World) (v:Value) (T:Tst):Prop :=
 ∃ k cap,v = .func (.func k) #[] cap/\(∀ args w,(callFunc k args).run Tryz.prog w = .ok (.enter k args) w) /\
  ∀ W,KeepR lo hi w W->∀ nv x,NumV W nv x->Calls Tryz.prog k (#[nv]++cap) W fun e W'=>e = .returned (.bool (T x))/\Below W.heap.size W W'
def OpR (lo hi:Nat) (w:World) (v:Value) (F:Dg->Dg):Prop :=
 ∃ k cap,v = .func (.func k) #[] cap/\(∀ args w,(callFunc k args).run Tryz.prog w = .ok (.enter k args) w) /\
  ∀ W,KeepR lo hi w W->∀ nv x,NumV W nv x->Calls Tryz.prog k (#[nv]++cap) W (NumPost' (F x) W)
theorem TestR.keep {lo hi lo' hi':Nat} {w w':World} {v:Value} {T:Tst} (h:TestR lo hi w v T) (hk:KeepR lo hi w w') (h1:lo'<=lo) (h2:hi<=hi'):TestR lo' hi' w' v T:=by
 obtain ⟨k,cap,hv,he,hc⟩:=h;exact ⟨k,cap,hv,he,fun W hW=>hc W (hW.via hk h1 h2)⟩
theorem OpR.keep {lo hi lo' hi':Nat} {w w':World} {v:Value} {F:Dg->Dg} (h:OpR lo hi w v F) (hk:KeepR lo hi w w') (h1:lo'<=lo) (h2:hi<=hi'):OpR lo' hi' w' v F:=by
 obtain ⟨k,cap,hv,he,hc⟩:=h;exact ⟨k,cap,hv,he,fun W hW=>hc W (hW.via hk h1 h2)⟩
def ValsAt (w:World) (a:Option Addr) (vs:List Value):Prop:=∀ j (h:j<vs.length),∃ b,a=some b/\w.cell? (b.add j)=some vs[j]
theorem ValsAt.below {w w':World} {a:Option Addr} {vs:List Value} (h:ValsAt w a vs) (hb:Below w.heap.size w w'):ValsAt w' a vs:=fun j hj=>by
 obtain ⟨b,h1,h2⟩:=h j hj;exact ⟨b,h1,by rw [hb.cell (World.block_lt_of_cell? w _ h2)];exact h2⟩
def TestsR (lo hi:Nat) (w:World) (a:Option Addr) (Ts:List Tst):Prop :=
 ∀ j (h:j<Ts.length),∃ b v,a=some b/\w.cell? (b.add j)=some v/\lo<=b.block/\b.block<hi/\TestR lo hi w v Ts[j]
theorem TestsR.keep {lo hi lo' hi':Nat} {w w':World} {a:Option Addr} {Ts:List Tst} (h:TestsR lo hi w a Ts) (hk:KeepR lo hi w w') (h1:lo'<=lo) (h2:hi<=hi'):TestsR lo' hi' w' a Ts:=fun j hj=>by
 obtain ⟨b,v,e1,e2,e3,e4,e5⟩:=h j hj;exact ⟨b,v,e1,by rw [hk.cell (p:=b.add j) (by rw [addr_add];exact e3) (by rw [addr_add];exact e4)];exact e2,by omega,by omega,e5.keep hk h1 h2⟩
structure BoxN (w:World) (q:Nat) (nv:Value):Prop where
 lt:q<w.heap.size
 cells:∃ b s k,nv = .agg #[b,s,k]/\w.cell? ⟨q,0,none⟩=some b/\w.cell? ⟨q,1,none⟩=some s/\w.cell? ⟨q,2,none⟩=some k
theorem BoxN.below {w w':World} {q:Nat} {nv:Value} (h:BoxN w q nv) (hb:Below w.heap.size w w'):BoxN w' q nv:=by
 obtain ⟨hl,b,s,k,h1,h2,h3,h4⟩:=h;exact ⟨Nat.lt_of_lt_of_le hl hb.size,b,s,k,h1,(hb.cell hl).trans h2,(hb.cell hl).trans h3,(hb.cell hl).trans h4⟩
theorem But.keep {p lo hi:Nat} {w w':World} (h:But p w w') (hp:p<lo) (hi':hi<=w.heap.size):KeepR lo hi w w' :=
 ⟨Nat.le_trans hi' h.size,fun k h1 h2=>h.block k (by omega) (by omega)⟩
def StrB (w:World) (k:Nat):Prop:=∃ cs fr,w.heap[k]? = some (.cells cs 9 fr)
theorem StrB.of {w w':World} {k:Nat} (h:StrB w k) (he:w'.heap[k]? = w.heap[k]?):StrB w' k:=by
 obtain ⟨cs,fr,h⟩:=h;exact ⟨cs,fr,he.trans h⟩
def PAt (w:World) (p:Nat) (ws:List Wd):Prop :=
 ∃ a cap,w.cell? ⟨p,0,none⟩=some (.slice a ws.length cap)/\w.frozen? ⟨p,0,none⟩=false/\ws.length<=cap/\cap<=maxLen/\∀ j (h:j<ws.length),∃ b,a=some b/\(b.block≠p/\StrB w b.block)/\w.cell? (b.add j)=some (strv ws[j])
theorem PAt.lt {w:World} {p:Nat} {ws:List Wd} (h:PAt w p ws):p<w.heap.size:=by
 obtain ⟨a,cap,hc,_⟩:=h;exact World.block_lt_of_cell? w _ hc
theorem PAt.below {w w':World} {p:Nat} {ws:List Wd} (h:PAt w p ws) (hb:Below w.heap.size w w'):PAt w' p ws:=by
 have hlt:=h.lt;obtain ⟨a,cap,hc,hf,h1,h2,h3⟩:=h;refine ⟨a,cap,(hb.cell hlt).trans hc,(hb.frozen hlt).trans hf,h1,h2,fun j hj=>?_⟩;obtain ⟨b,e1,e2,e3⟩:=h3 j hj;have hl:=World.block_lt_of_cell? w _ e3;rw [addr_add] at hl;exact ⟨b,e1,⟨e2.1,e2.2.of (hb.block _ hl)⟩,(hb.cell (World.block_lt_of_cell? w _ e3)).trans e3⟩
theorem PAt.pass {w:World} {p cap:Nat} {b:Addr} {x:Wd} {t:List Wd} (hf:w.frozen? ⟨p,0,none⟩=false) (hc:w.cell? ⟨p,0,none⟩=some (.slice (some b) (t.length+1) cap)) (h1:t.length+1<=cap) (h2:cap<=maxLen) (hb:b.block≠p/\StrB w b.block) (hw:∀ j (h:j<(x::t).length),w.cell? (b.add j)=some (strv (x::t)[j])) :
  PAt (w.setCell ⟨p,0,none⟩ (.slice (some (b.add 1)) t.length (cap - 1))) p t:=by
 refine ⟨some (b.add 1),cap - 1,by rw [World.cell?_setCell_same (h:=hc)],by simpa using hf,by omega,by omega,fun j hj=>⟨b.add 1,rfl,by rw [addr_add];exact ⟨hb.1,hb.2.of (Below.heap_setCell _ _ _ _ hb.1)⟩,?_⟩⟩;have:=hw (j+1) (by simp;omega);rw [add_add,Nat.add_comm 1 j,World.cell?_setCell_other (h:=fun e=>hb.1 (by rw [←addr_add b (j+1),←e]))];simpa using this
theorem PAt.last {w:World} {p cap:Nat} {b:Addr} (hf:w.frozen? ⟨p,0,none⟩=false) {n:Nat} (hc:w.cell? ⟨p,0,none⟩=some (.slice (some b) n cap)) :
  PAt (w.setCell ⟨p,0,none⟩ (.slice (some b) 0 0)) p [] :=
 ⟨some b,0,by rw [World.cell?_setCell_same (h:=hc)];rfl,by simpa using hf,Nat.le_refl _,Nat.zero_le _,fun j hj=>absurd hj (Nat.not_lt_zero j)⟩
structure RT (p:Nat) (w:World):Prop where
 s:∃ t v,w.cell? ⟨7,0,none⟩=some (.iface t v)
 r:∃ t v,w.cell? ⟨8,0,none⟩=some (.iface t v)
 ns:7≠p
 nr:8≠p
theorem RT.but {p:Nat} {w w':World} (h:RT p w) (hb:But p w w'):RT p w':=by
 obtain ⟨⟨t,v,hs⟩,⟨t2,v2,hr⟩,h1,h2⟩:=h;exact ⟨⟨t,v,hb.cell hs h1⟩,⟨t2,v2,hb.cell hr h2⟩,h1,h2⟩
theorem PAt.step {w:World} {p cap:Nat} {b:Addr} {x:Wd} {t:List Wd} (h:PAt w p (x::t)) (hc:w.cell? ⟨p,0,none⟩=some (.slice (some b) (t.length+1) cap)) :
  PAt (w.setCell ⟨p,0,none⟩ (.slice (some (b.add 1)) t.length (cap - 1))) p t/\(t=[]->PAt (w.setCell ⟨p,0,none⟩ (.slice (some b) 0 0)) p t):=by
 obtain ⟨a,cap',hc',hf,h1,h2,h3⟩:=h;rw [hc] at hc'
 cases hc';obtain ⟨b',e1,e2,_⟩:=h3 0 (by simp)
 cases e1;refine ⟨PAt.pass hf hc (by simpa using h1) h2 e2 (x:=x) (fun j hj=>?_),fun ht=>?_⟩
 ·obtain ⟨b',e1,_,e3⟩:=h3 j hj
  cases e1;exact e3
 ·subst ht;exact PAt.last hf hc
def RowT (lo:Nat) (w:World) (sv:Value) (Ts:List Tst):Prop :=
 ∃ vs:List Value,w.ownsRow lo 214 1 sv Ts.length vs /\
  ∀ j (h:j<Ts.length),∃ u l h',vs[j]? = some u/\lo<=l/\h'<=w.heap.size/\(∀ g,sv.ownBlock=some g->g<l\/h'<=g)/\TestR l h' w u Ts[j]
theorem RowT.nil (lo:Nat) (w:World):RowT lo w (.slice none 0 0) []:=⟨[],World.ownsRow_nil _ _ _ _,fun j h=>absurd h (Nat.not_lt_zero j)⟩
theorem RowT.form {lo:Nat} {w:World} {sv:Value} {Ts:List Tst} (h:RowT lo w sv Ts):∃ a cap,sv = .slice a Ts.length cap:=by
 obtain ⟨vs,ho,_⟩:=h;exact own_slice ho
theorem RowT.but {lo p:Nat} {w w':World} {sv:Value} {Ts:List Tst} (h:RowT lo w sv Ts) (hb:But p w w') (hp:p<lo):RowT lo w' sv Ts:=by
 obtain ⟨vs,ho,ht⟩:=h;have hne:some p≠sv.ownBlock:=fun e=>by have:=(ho.lt p e.symm).1;omega
 refine ⟨vs,ho.kept (row:=some p) ⟨hb.os,hb.tape,hb.output,hb.size,fun i hi hn=>hb.block i hi (fun e=>hn (by rw [e]))⟩ (.inr (fun e=>hne e.symm)),fun j hj=>?_⟩;obtain ⟨u,l,h',e1,e2,e3,e4,e5⟩:=ht j hj;exact ⟨u,l,h',e1,e2,Nat.le_trans e3 hb.size,e4,e5.keep (hb.keep (by omega) e3) (Nat.le_refl _) (Nat.le_refl _)⟩
theorem RowT.more {lo l0 h0:Nat} {w w1 w':World} {sv sv':Value} {Ts:List Tst} {T:Tst} {vs:List Value} {u:Value}
  (ht:∀ j (h:j<Ts.length),∃ u l h',vs[j]? = some u/\lo<=l/\h'<=w.heap.size/\(∀ g,sv.ownBlock=some g->g<l\/h'<=g)/\TestR l h' w u Ts[j]) (hvl:vs.length=Ts.length)
  (hT:TestR l0 h0 w u T) (hl0:lo<=l0) (hh0:h0<=w.heap.size) (hg0:∀ g,sv.ownBlock=some g->g<l0\/h0<=g)
  (hb:Below w.heap.size w w1) (hgrow:w1.grownBy w' sv.ownBlock) (hat:sv'.ownBlock=sv.ownBlock\/sv'.ownBlock=some w1.heap.size) (ho:w'.ownsRow lo 214 1 sv' (Ts.length+1) (vs++[u])) :
  RowT lo w' sv' (Ts++[T]):=by
 have hkeep:∀ l h',h'<=w.heap.size->(∀ g,sv.ownBlock=some g->g<l\/h'<=g)->KeepR l h' w w':=by
  intro l h' hh hg;refine ⟨Nat.le_trans hh (Nat.le_trans hb.size hgrow.size),fun k k1 k2=>?_⟩;rw [hgrow.block k (by have:=hb.size;omega) (fun e=>by rcases hg k e.symm with q | q<;>omega)];exact hb.block k (by omega)
 have hnew:∀ l h',h'<=w.heap.size->(∀ g,sv.ownBlock=some g->g<l\/h'<=g)->∀ g,sv'.ownBlock=some g->g<l\/h'<=g:=by
  intro l h' hh hg g e;rcases hat with q | q
  ·exact hg g (q▸e)
  ·rw [q] at e
   cases e;exact .inr (Nat.le_trans hh hb.size)
 refine ⟨vs++[u],by simpa using ho,fun j hj=>?_⟩;by_cases hjl:j<Ts.length
 ·obtain ⟨x,l,h',e1,e2,e3,e4,e5⟩:=ht j hjl;exact ⟨x,l,h',by rw [List.getElem?_append_left (by omega)];exact e1,e2,Nat.le_trans e3 (Nat.le_trans hb.size hgrow.size),hnew l h' e3 e4,by rw [List.getElem_append_left hjl];exact e5.keep (hkeep l h' e3 e4) (Nat.le_refl _) (Nat.le_refl _)⟩
 ·have e:j=Ts.length:=by simp at hj;omega
  subst e;refine ⟨u,l0,h0,by rw [List.getElem?_append_right (by omega),hvl];simp,hl0,Nat.le_trans hh0 (Nat.le_trans hb.size hgrow.size),hnew l0 h0 hh0 hg0,?_⟩;rw [List.getElem_append_right (by omega)];simpa using hT.keep (hkeep l0 h0 hh0 hg0) (Nat.le_refl _) (Nat.le_refl _)
theorem TestR.one {l h:Nat} {w:World} {v:Value} {T:Tst} (ht:TestR l h w v T):v.oneCell'=true:=by
 obtain ⟨k,cap,rfl,_⟩:=ht;rfl
theorem PAt.row {lo p n:Nat} {w w':World} {sv:Value} {vs:List Value} {ws:List Wd} (h:PAt w p ws) (ho:w.ownsRow lo 214 1 sv n vs) (hp:p<lo) (hg:w.grownBy w' sv.ownBlock):PAt w' p ws:=by
 have hlt:=h.lt;have hpn:some p≠sv.ownBlock:=fun e=>by have:=(ho.lt p e.symm).1;omega
 obtain ⟨a,cap,hc,hf,h1,h2,h3⟩:=h;refine ⟨a,cap,hg.cell hc hpn,(World.frozen?_of_block (hg.block p hlt hpn)).trans hf,h1,h2,fun j hj=>?_⟩;obtain ⟨b,e1,e2,e3⟩:=h3 j hj;have hl:=World.block_lt_of_cell? w _ e3;rw [addr_add] at hl;have hbn:some b.block≠sv.ownBlock:=by
  intro e;rcases ho.2 with ⟨hv,_⟩ | ⟨g,cp,cur,hv,_,hh,_⟩
  ·rw [hv] at e;cases e
  ·rw [hv] at e
   cases e;obtain ⟨cs,fr,hs⟩:=e2.2;rw [hh] at hs
   cases hs
 exact ⟨b,e1,⟨e2.1,e2.2.of (hg.block _ hl hbn)⟩,hg.cell e3 (by rw [addr_add];exact hbn)⟩
structure Sub (t ws:List Wd):Prop where
 mem:∀ x∈t,x∈ws
 len:t.length<=ws.length
theorem Sub.refl (ws:List Wd):Sub ws ws:=⟨fun _ h=>h,Nat.le_refl _⟩
theorem Sub.trans {a b c:List Wd} (h:Sub a b) (k:Sub b c):Sub a c:=⟨fun x hx=>k.mem x (h.mem x hx),Nat.le_trans h.len k.len⟩
theorem Sub.tail (ws:List Wd):Sub ws.tail ws:=⟨fun _ h=>List.mem_of_mem_tail h,by simp⟩
theorem But.frozen {p:Nat} {w w':World} (h:But p w w') {a:Addr} (hl:a.block<w.heap.size) (ha:a.block≠p):w'.frozen? a=w.frozen? a:=World.frozen?_of_block (h.block a.block hl ha)
structure CellV (w:World) (k:Nat) (u:Value):Prop where
 c:w.cell? ⟨k,0,none⟩=some u
 z:w.frozen? ⟨k,0,none⟩=false
 n:¬StrB w k
theorem strB_set {w:World} {a:Addr} {u:Value} {k:Nat} (h:StrB (w.setCell a u) k):StrB w k:=by
 obtain ⟨cs,fr,h⟩:=h;by_cases hk:k=a.block
 ·simp only [World.setCell,Array.getElem?_modify,if_pos hk.symm] at h
  cases hh:w.heap[k]? with
  | none=>simp [hh] at h
  | some o =>
   simp only [hh,Option.map_some] at h
   cases o with
   | cells c e f =>
    simp only [Option.some.injEq,Obj.cells.injEq] at h;exact ⟨c,f,by rw [hh,h.2.1]⟩
   | _=>simp at h
 ·exact ⟨cs,fr,(Below.heap_setCell _ _ _ _ hk).symm.trans h⟩
theorem CellV.lt {w:World} {k:Nat} {u:Value} (h:CellV w k u):k<w.heap.size:=World.block_lt_of_cell? w _ h.c
theorem CellV.but {p k:Nat} {w w':World} {u:Value} (h:CellV w k u) (hb:But p w w') (hp:k≠p):CellV w' k u :=
 ⟨hb.cell h.c hp,(hb.frozen (a:=⟨k,0,none⟩) h.lt hp).trans h.z,fun hs=>h.n (hs.of (hb.block k h.lt hp).symm)⟩
theorem CellV.made (w:World) (u:Value) (t:TypeId) (ht:t≠9):CellV (w.alloc (.cells #[u] t)) w.heap.size u :=
 ⟨cell_made _ _ _ _ _,by simp,fun ⟨cs,fr,h⟩=>ht (by
  have:(w.alloc (.cells #[u] t)).heap[w.heap.size]? = some (.cells #[u] t):=by show (w.heap.push _)[w.heap.size]? = _;simp
  rw [this] at h;simp only [Option.some.injEq,Obj.cells.injEq] at h;exact h.2.1)⟩
theorem CellV.same {w:World} {k:Nat} {u:Value} (h:CellV w k u) (x:Value):CellV (w.setCell ⟨k,0,none⟩ x) k x:=⟨by rw [World.cell?_setCell_same (h:=h.c)],by simpa using h.z,fun hs=>h.n (strB_set hs)⟩
theorem CellV.other {w:World} {k j:Nat} {u:Value} (h:CellV w k u) (hj:k≠j) (x:Value):CellV (w.setCell ⟨j,0,none⟩ x) k u :=
 ⟨(World.cell?_of_block (Below.heap_setCell _ _ _ _ hj)).trans h.c,(World.frozen?_of_block (Below.heap_setCell _ _ _ _ hj)).trans h.z,fun hs=>h.n (strB_set hs)⟩
theorem But.alloc {p:Nat} {w a:World} (h:But p w a) (o:Obj):But p w (a.alloc o):=h.below ((Below.refl _ _).alloc (Nat.le_refl _) _)
theorem But.put {p k:Nat} {w a:World} (h:But p w a) (hk:w.heap.size<=k) (u:Value):But p w (a.setCell ⟨k,0,none⟩ u) :=
 ⟨h.os,h.tape,h.output,by simpa [World.setCell] using h.size,fun j hj hp=>(Below.heap_setCell _ _ _ _ (show j≠k by omega)).trans (h.block j hj hp)⟩
theorem PAt.put {w:World} {p k:Nat} {ws:List Wd} (h:PAt w p ws) (hk:k≠p) (hs:¬StrB w k) (u:Value):PAt (w.setCell ⟨k,0,none⟩ u) p ws:=by
 obtain ⟨a,cap,hc,hf,h1,h2,h3⟩:=h;have hb:∀ j,j≠k->(w.setCell ⟨k,0,none⟩ u).heap[j]? = w.heap[j]? := fun j hj=>Below.heap_setCell _ _ _ _ hj
 refine ⟨a,cap,(World.cell?_of_block (hb p hk.symm)).trans hc,(World.frozen?_of_block (hb p hk.symm)).trans hf,h1,h2,fun j hj=>?_⟩;obtain ⟨b,e1,e2,e3⟩:=h3 j hj;have hbk:b.block≠k:=fun e=>hs (e▸e2.2)
 exact ⟨b,e1,⟨e2.1,e2.2.of (hb _ hbk)⟩,(World.cell?_of_block (hb _ (by rw [addr_add];exact hbk))).trans e3⟩
structure RT0 (w:World):Prop where
 s:∃ t v,w.cell? ⟨7,0,none⟩=some (.iface t v)
 r:∃ t v,w.cell? ⟨8,0,none⟩=some (.iface t v)
theorem RT0.below {w w':World} (h:RT0 w) (hb:Below w.heap.size w w'):RT0 w':=by
 obtain ⟨⟨t,v,hs⟩,⟨t2,v2,hr⟩⟩:=h;exact ⟨⟨t,v,(hb.cell (World.block_lt_of_cell? w _ hs)).trans hs⟩,⟨t2,v2,(hb.cell (World.block_lt_of_cell? w _ hr)).trans hr⟩⟩
theorem RT0.at {w w':World} {p:Nat} (h:RT0 w) (hb:Below w.heap.size w w') (hp:w.heap.size<=p):RT p w':=by
 have h2:=h.below hb;obtain ⟨⟨t,v,hs⟩,⟨t2,v2,hr⟩⟩:=h;have l1:=World.block_lt_of_cell? w _ hs;have l2:=World.block_lt_of_cell? w _ hr;dsimp only at l1 l2;exact ⟨h2.s,h2.r,by omega,by omega⟩
def SetR (lo hi:Nat) (w:World) (a:Option Addr) (S:List (Nat×Tst)):Prop :=
 ∀ j (h:j<S.length),∃ g o v,a=some ⟨g,o,none⟩/\w.cell? ⟨g,o+j*2,none⟩=some (.int .i64 S[j].1)/\w.cell? ⟨g,o+j*2+1,none⟩=some v/\lo<=g/\g<hi/\TestR lo hi w v S[j].2
theorem SetR.keep {lo hi lo' hi':Nat} {w w':World} {a:Option Addr} {S:List (Nat×Tst)} (h:SetR lo hi w a S) (hk:KeepR lo hi w w') (h1:lo'<=lo) (h2:hi<=hi'):SetR lo' hi' w' a S:=fun j hj=>by
 obtain ⟨g,o,v,e1,e2,e3,e4,e5,e6⟩:=h j hj;exact ⟨g,o,v,e1,(hk.cell (p:=⟨g,_,none⟩) e4 e5).trans e2,(hk.cell (p:=⟨g,_,none⟩) e4 e5).trans e3,by omega,by omega,e6.keep hk h1 h2⟩
def ofL (S:List (Nat×Tst)) (x:Dg):Nat:=match S.find? (fun q=>q.2 x) with | some q=>q.1 | none=>5
set_option maxHeartbeats 2000000 in
theorem sof_any (S:List (Nat×Tst)) (a:Option Addr) (c:Nat) (nv:Value) (x:Dg) (lo hi:Nat) (w:World) (hl:S.length<=1000000) (ht:SetR lo hi w a S) (hhi:hi<=w.heap.size) (hn:NumV w nv x) :
  Calls Tryz.prog 60 #[.slice a S.length c,nv] w fun e w'=>e = .returned (.int .i64 (ofL S x))/\Below w.heap.size w w':=by
 have HN:=Lib.hid hn;obtain ⟨b',g,go,cap,n',k',rfl⟩:=hn.form;have F:∃ W,W=w.alloc (.cells #[.bool b',.slice (some ⟨g,go,none⟩) n' cap,.int .i64 k'] 97)/\Below w.heap.size w W/\W.heap.size=w.heap.size+1/\BoxN W w.heap.size (.agg #[.bool b',.slice (some ⟨g,go,none⟩) n' cap,.int .i64 k']) :=
  ⟨_,rfl,(Below.refl _ _).alloc (Nat.le_refl _) _,by simp,⟨by simp,_,_,_,rfl,by go_simp,by go_simp,by go_simp⟩⟩
 obtain ⟨W,hW,hbW,hs,hbx⟩:=F;have HT:=Lib.hid (ht.keep (keep_below hbW hhi hhi) (Nat.le_refl _) (Nat.le_refl _));have HNW:=Lib.hid (HN.out.below hbW);have hhiW:hi<=W.heap.size:=by omega
 clear ht hn;go_enter Tryz.func60,Tryz.ntmps60
 go_wp2_with fail
 rw [←hW];clear hW;obtain ⟨B,hB⟩:∃ B,B=w.heap.size:=⟨_,rfl⟩;rw [←hB] at hbx ⊢;have HBE:=Lib.hid hB;clear hB;go_loopw [9] (fun i wr=>∃ k:Nat,k<=S.length/\i = .int .i64 k/\(S.take k).find? (fun q=>q.2 x)=none/\Below W.heap.size W wr) (fun i _=>S.length - (intOf i).toNat)
 case atStart=>exact ⟨0,Nat.zero_le _,rfl,rfl,Below.refl _ _⟩
 case round =>
  obtain ⟨k,hk,rfl,hz,hbw⟩:=hrel;have HZ:=Lib.hid hz;clear hz;have hbb0:Below w.heap.size w wr:=hbW.trans (hbw.mono (by omega));by_cases hlt:k<S.length
  ·obtain ⟨ga,o,v,rfl,hc1,hc2,h1,h2,hT⟩:=HT.out k hlt;have hgW:ga<W.heap.size:=by omega
   have hc1':=(hbw.cell (p:=⟨ga,o+k*2,none⟩) hgW).trans hc1;have hc2':=(hbw.cell (p:=⟨ga,o+k*2+1,none⟩) hgW).trans hc2;have hkp:=keep_below (lo:=lo) hbw hhiW hhiW;have hTr:=hT.keep hkp (Nat.le_refl _) (Nat.le_refl _);have HTR:=Lib.hid hTr;obtain ⟨K,cp,rfl,hent,hcall⟩:=hTr;have hbA:Below wr.heap.size wr (wr.alloc (.cells #[.int .i64 S[k].1,.func (.func K) #[] cp] 216)):=(Below.refl _ _).alloc (Nat.le_refl _) _;have hcl:=hcall (wr.alloc (.cells #[.int .i64 S[k].1,.func (.func K) #[] cp] 216)) (keep_below hbA (Nat.le_trans hhiW hbw.size) (Nat.le_trans hhiW hbw.size)) _ x ((HNW.out.below hbw).below hbA);have HC:=Lib.hid hcl;obtain ⟨hBl,bb,ss,kk,e0,c0,c1,c2⟩:=hbx.below hbw
   cases e0;have d0:∀ o,(wr.alloc o).cell? ⟨B,0,none⟩=_:=fun o=>(World.cell?_alloc_lt _ _ _ hBl).trans c0
   have d1:∀ o,(wr.alloc o).cell? ⟨B,1,none⟩=_:=fun o=>(World.cell?_alloc_lt _ _ _ hBl).trans c1
   have d2:∀ o,(wr.alloc o).cell? ⟨B,2,none⟩=_:=fun o=>(World.cell?_alloc_lt _ _ _ hBl).trans c2
   have hbbA:=hbw.trans (hbA.mono hbw.size);have hbbA0:=hbb0.trans (hbA.mono hbb0.size);have hsA:wr.heap.size<(wr.alloc (.cells #[.int .i64 S[k].1,.func (.func K) #[] cp] 216)).heap.size:=by simp
   have a0:(wr.alloc (.cells #[.int .i64 S[k].1,.func (.func K) #[] cp] 216)).cell? ⟨wr.heap.size,0,none⟩=some (.int .i64 S[k].1):=cell_made _ _ _ _ _;clear hc1 hc2 hT hcall hcl;go_wp2_with fail
   refine HC.out.mono ?_;rintro e w1 ⟨rfl,hb1⟩;have hbb:=hbbA.trans (hb1.mono hbbA.size);have hbb1:Below w.heap.size w w1:=hbbA0.trans (hb1.mono hbbA0.size);have a1:=(hb1.cell (p:=⟨wr.heap.size,0,none⟩) hsA).trans a0
   cases hTx:S[k].2 x
   ·have hz2:(S.take (k+1)).find? (fun q=>q.2 x)=none:=by
     rw [List.take_succ_eq_append_getElem hlt,List.find?_append,HZ.out];simp [hTx]
    have HF:=Lib.hid hz2;clear hTx hz2;go_wp2
    go_roundw
    case rel=>exact ⟨k+1,by omega,by go_num,HF.out,hbb⟩
    case measure=>simp [intOf];omega
   ·have hf:ofL S x=S[k].1:=by
     have h1:S.find? (fun q=>q.2 x)=some S[k]:=by
      have hsp:S=S.take k++S[k]::S.drop (k+1):=by rw [←List.drop_eq_getElem_cons hlt,List.take_append_drop]
      have h2:=congrArg (List.find? (fun q=>q.2 x)) hsp;rw [List.find?_append,HZ.out,Option.none_or,List.find?_cons_of_pos (p:=fun q:Nat×Tst=>q.2 x) hTx] at h2;exact h2
     unfold ofL;rw [h1]
    have HF:=Lib.hid hf;clear hTx hf;go_wp2
    go_ret
    exact ⟨by rw [HF.out];rfl,hbb1⟩
  ·obtain rfl:k=S.length:=by omega
   have hz:=HZ.out;rw [List.take_length] at hz;have hf:ofL S x=5:=by unfold ofL;rw [hz]
   have HF:=Lib.hid hf;clear hz HZ hf;go_wp2
   go_ret
   exact ⟨by rw [HF.out];rfl,hbb0⟩
def locE (mi po gr:Int) (fi ne:Nat) (ds:List Int) (Sc So:List (Nat×Tst)):EnvF Unit :=
 ⟨fun n=>writeX n.1 (vals (n.2.1++n.2.2)) n.2.2.length mi po gr fi ne ds,fun b d=>ofL (if b then So else Sc) d,fun _ u=>(.no,u)⟩
theorem loc_of {w:World} {g:Nat} {mi po gr:Int} {fi ne:Nat} {ds:List Int} {Sc So:List (Nat×Tst)} {a a':Option Addr} {c c' lo hi:Nat} (hX:LocX w g mi po gr fi ne ds) (hg:g<w.heap.size) (h32:I32 mi/\I32 po/\I32 gr/\∀ x∈ds,I32 x) (hfi:fi<=255) (hne:0<fi->0<ne) (hne2:ne<=255)
  (g0:w.cell? ⟨g,0,none⟩=some (.slice a Sc.length c)) (g1:w.cell? ⟨g,1,none⟩=some (.slice a' So.length c')) (hl:Sc.length<=1000000/\So.length<=1000000) (hc:SetR lo hi w a Sc) (ho:SetR lo hi w a' So) (hhi:hi<=w.heap.size)
  (hwl:∀ n:SNum,DgOk n.2->(writeX n.1 (vals (n.2.1++n.2.2)) n.2.2.length mi po gr fi ne ds).length<=5000) (hsr:∀ b d,ofL (if b=true then So else Sc) d<6):LocM w g (locE mi po gr fi ne ds Sc So):=by
 refine ⟨fun W nv n hf hn=>?_,hwl,⟨_,_,fun W hf=>⟨hf.cell g0 id,hf.cell g1 id⟩,fun W nv d hf hn=>?_,fun W nv d hf hn=>?_⟩,hsr⟩
 ·obtain ⟨gd,o,cap,rfl,h2,h3,-,⟨c0,h4⟩,h5,h6⟩:=hn;have hsz:=hf.size;refine write_any g gd o cap n.2.2.length _ n.1 (vals (n.2.1++n.2.2)) mi po gr fi ne ds W (hX.below (low_of hf) hg) (by omega) h5 (World.block_lt_of_cell? _ _ h4) (by simp [vals]) (by omega) h2 ?_ ?_ h32 hfi hne hne2
  ·have:=h6.len1;have:=h6.len2;omega
  ·exact vals_dig0 (by rw [List.all_append,h6.dig1,h6.dig2];rfl)
 ·have hsz:=hf.size;have h:=sof_any Sc a c nv d lo hi W hl.1 (hc.keep (keep_below (low_of hf) hhi hhi) (Nat.le_refl _) (Nat.le_refl _)) (by omega) hn;exact h
 ·have hsz:=hf.size;have h:=sof_any So a' c' nv d lo hi W hl.2 (ho.keep (keep_below (low_of hf) hhi hhi) (Nat.le_refl _) (Nat.le_refl _)) (by omega) hn;exact h
theorem rune_len (r:Int):(Lib.encodeRune r).length<=4:=by
 unfold Lib.encodeRune;rw [List.length_map];unfold Lib.encodeRuneZ;repeat' split
 all_goals simp
theorem flat_len {f:Nat->List UInt8} {c:Nat} (h:∀ i,(f i).length<=c):∀ k,((List.range k).flatMap f).length<=k*c
 | 0=>by simp
 | k+1=>by
  have:=flat_len h k;have h2:=h k;simp only [List.range_succ,List.flatMap_append,List.length_append,List.flatMap_singleton,Nat.succ_mul];omega
theorem digX_len (ds l:List Int) (k:Nat):(digX ds l k).length<=4:=by
 unfold digX;first | exact rune_len _ | (split<;>first | exact rune_len _ | simp)
theorem writeX_len (neg:Bool) (l:List Int) (sc:Nat) (mi po gr:Int) (fi ne:Nat) (ds:List Int) (h:l.length<=200) (hs:sc<=200):(writeX neg l sc mi po gr fi ne ds).length<=5000:=by
 unfold writeX;have h1:(if neg=true then Lib.encodeRune mi else []).length<=4:=by split;exact rune_len _;simp
 have h2:(intX gr fi ne ds (l.take (l.length - sc)) (l.length - sc)).length<=(l.length - sc)*8:=by
  unfold intX;refine flat_len (fun i=>?_) _;have:=digX_len ds (l.take (l.length - sc)) i;rw [List.length_append];have h3:(if (decide (0<i) && partB gr fi ne ((l.take (l.length - sc)).length - i))=true then Lib.encodeRune gr else []).length<=4:=by split;exact rune_len _;simp
  omega
 have h3:(fracX po ds (l.drop (l.length - sc)) sc).length<=sc*8:=by
  unfold fracX;refine flat_len (fun i=>?_) _;have:=digX_len ds (l.drop (l.length - sc)) i;rw [List.length_append];have h3:(if (i==0)=true then Lib.encodeRune po else []).length<=4:=by split;exact rune_len _;simp
  omega
 rw [List.length_append,List.length_append];omega
def Fo.hs:Bool->Fo->Prop
 | _,.nil=>True
 | b,.text _ r=>r.hs b
 | b,.hash r=>b=true/\r.hs b
 | b,.put _ _ r=>r.hs b
 | b,.num _ _ r=>r.hs b
 | b,.br _ _ f _ _ bs r=>bs.hs (decide (f≠0))/\r.hs b
 | b,.leg _ _ m r=>m.hs b/\r.hs b
def Fo.tb:Fo->Nat
 | .nil=>0
 | .text t r=>t.length+r.tb
 | .hash r=>r.tb
 | .put _ _ r=>r.tb
 | .num _ _ r=>r.tb
 | .br _ _ _ _ _ bs r=>bs.tb+r.tb
 | .leg _ _ m r=>m.tb+r.tb
theorem Fo.sh_tb:∀ f:Fo,f.tb<=5000->f.sh
 | .nil,_=>trivial
 | .text t r,h=>by simp only [Fo.tb] at h;exact ⟨by omega,Fo.sh_tb r (by omega)⟩
 | .hash r,h=>Fo.sh_tb r h
 | .put _ _ r,h=>Fo.sh_tb r h
 | .num _ _ r,h=>Fo.sh_tb r h
 | .br _ _ _ _ _ bs r,h=>by simp only [Fo.tb] at h;exact ⟨Fo.sh_tb bs (by omega),Fo.sh_tb r (by omega)⟩
 | .leg _ _ m r,h=>by simp only [Fo.tb] at h;exact ⟨Fo.sh_tb m (by omega),Fo.sh_tb r (by omega)⟩
theorem Fo.tb_app:∀ f g:Fo,(f.app g).tb=f.tb+g.tb
 | .nil,g=>by simp [Fo.app,Fo.tb]
 | .text t r,g=>by simp only [Fo.app,Fo.tb,Fo.tb_app r g];omega
 | .hash r,g=>by simp only [Fo.app,Fo.tb,Fo.tb_app r g]
 | .put _ _ r,g=>by simp only [Fo.app,Fo.tb,Fo.tb_app r g]
 | .num _ _ r,g=>by simp only [Fo.app,Fo.tb,Fo.tb_app r g]
 | .br _ _ _ _ _ bs r,g=>by simp only [Fo.app,Fo.tb,Fo.tb_app r g];omega
 | .leg _ _ m r,g=>by simp only [Fo.app,Fo.tb,Fo.tb_app r g];omega
theorem Fo.hs_app (b:Bool):∀ f g:Fo,(f.app g).hs b ↔ f.hs b/\g.hs b
 | .nil,g=>by simp [Fo.app,Fo.hs]
 | .text t r,g=>by simp only [Fo.app,Fo.hs,Fo.hs_app b r g]
 | .hash r,g=>by simp only [Fo.app,Fo.hs,Fo.hs_app b r g,and_assoc]
 | .put _ _ r,g=>by simp only [Fo.app,Fo.hs,Fo.hs_app b r g]
 | .num _ _ r,g=>by simp only [Fo.app,Fo.hs,Fo.hs_app b r g]
 | .br _ _ _ _ _ bs r,g=>by simp only [Fo.app,Fo.hs,Fo.hs_app b r g,and_assoc]
 | .leg _ _ m r,g=>by simp only [Fo.app,Fo.hs,Fo.hs_app b r g,and_assoc]
theorem Fo.hs_addText {b:Bool} {f:Fo} (h:f.hs b) (t:Wd):(f.addText t).hs b/\(f.addText t).tb<=f.tb+t.length:=by
 cases hl:f.lastText with
 | none =>
  rw [last_none f t hl];exact ⟨(Fo.hs_app b _ _).2 ⟨h,trivial⟩,by rw [Fo.tb_app];simp only [Fo.tb];omega⟩
 | some s =>
  obtain ⟨pre,h1,h2,h3⟩:=last_some f s hl;rw [h1] at h;rw [h3];refine ⟨(Fo.hs_app b _ _).2 ⟨((Fo.hs_app b _ _).1 h).1,trivial⟩,?_⟩;rw [Fo.tb_app,show f.tb=(pre.app (.text s .nil)).tb from congrArg _ h1,Fo.tb_app];simp only [Fo.tb,List.length_append];omega
def MsgTb (m:MsgP):Prop:=∀ num i f j,m num i = .ok (f,j)->f.hs num/\f.tb+4*i<=4*j
section
variable {rs:List Int}
theorem leg_tb {msg:Option MsgP} {num:Bool} {i j:Nat} {f:Fo} (hm:∀ m,msg=some m->MsgTb m) (h:legP rs msg num i = .ok (f,j)):f.hs num/\f.tb+4*i<=4*j:=by
 unfold legP at h;obtain ⟨k,a,h1,h2⟩:=then_inv h;obtain ⟨u,b,h3,h4⟩:=then_inv h2;obtain ⟨hk,e1⟩:=key_fit h1;have e2:=(wantP_inv h3).2;have e3:=skipL_le rs a
 cases msg with
 | none=>cases h4
 | some m =>
  obtain ⟨g,c,h5,h6⟩:=then_inv (show (m num b).then _=_ from h4);obtain ⟨u2,z,h7,h8⟩:=then_inv h6;obtain ⟨hg,ht⟩:=hm m rfl _ _ _ _ h5;have e5:=(wantP_inv h7).2;have e6:=skipL_le rs z
  cases h8;refine ⟨⟨hg,trivial⟩,?_⟩;simp only [Fo.tb];omega
theorem legs_tb {msg:Option MsgP} {num:Bool} (hm:∀ m,msg=some m->MsgTb m):∀ (n:Nat) (acc:Fo) (i j:Nat) (f:Fo),legsP rs msg num n acc i = .ok (f,j)->acc.hs num->f.hs num/\f.tb+4*i<=acc.tb+4*j
 | 0,acc,i,j,f,h,_=>by cases h
 | n+1,acc,i,j,f,h,ha=>by
  rw [legsP] at h;split at h
  ·cases h;exact ⟨ha,Nat.le_refl _⟩
  ·obtain ⟨g,q,h1,h2⟩:=then_inv h;obtain ⟨g1,g2⟩:=leg_tb hm h1;obtain ⟨k1,k2⟩:=legs_tb hm n _ _ _ _ h2 ((Fo.hs_app num _ _).2 ⟨ha,g1⟩);rw [Fo.tb_app] at k2;exact ⟨k1,by omega⟩
theorem arg_tb {msg:Option MsgP} {num:Bool} {i j:Nat} {f:Fo} (hm:∀ m,msg=some m->MsgTb m) (h:argP rs msg i = .ok (f,j)):f.hs num/\f.tb+4*i<=4*j:=by
 unfold argP at h;obtain ⟨u,a,h1,h2⟩:=then_inv h;obtain ⟨nm,b,h3,h4⟩:=then_inv h2;have e1:=(wantP_inv h1).2;have e2:=skipL_le rs a;obtain ⟨hn,e3⟩:=name_fit h3;have e4:=skipL_le rs b;clear h h1 h2 h3;split at h4
 ·obtain ⟨u,z,h5,h6⟩:=then_inv h4;have:=(wantP_inv h5).2
  cases h6;exact ⟨trivial,by simp only [Fo.tb];omega⟩
 ·obtain ⟨wd,c,h5,h6⟩:=then_inv h4;have e5:=nameP_inv h5;have e6:=skipL_le rs (skipL rs b+1);have e7:=skipL_le rs c;clear h4 h5;split at h6
  ·obtain ⟨u,z,h7,h8⟩:=then_inv h6;have:=(wantP_inv h7).2
   cases h8;exact ⟨trivial,by simp only [Fo.tb];omega⟩
  ·split at h6
   ·cases h6
   ·next form hform =>
    obtain ⟨u,d,h7,h8⟩:=then_inv h6;obtain ⟨o,l,h9,h10⟩:=then_inv h8;obtain ⟨bs,q,h11,h12⟩:=then_inv h10;obtain ⟨u,z,h13,h14⟩:=then_inv h12;have:=(wantP_inv h7).2;have:=skipL_le rs d;obtain ⟨ho,_⟩:=off_fit h9;obtain ⟨b1,b2⟩:=legs_tb hm _ _ _ _ _ h11 trivial;have e9:=(wantP_inv h13).2
    cases h14;refine ⟨⟨b1,trivial⟩,?_⟩;simp only [Fo.tb] at b2 ⊢;omega
theorem msg_tb {msg:Option MsgP} {num:Bool} (hm:∀ m,msg=some m->MsgTb m):∀ (n:Nat) (acc:Fo) (i j:Nat) (f:Fo),msgGo rs msg num n acc i = .ok (f,j)->acc.hs num->f.hs num/\f.tb+4*i<=acc.tb+4*j
 | 0,acc,i,j,f,h,_=>by cases h
 | n+1,acc,i,j,f,h,ha=>by
  rw [msgGo] at h;split at h
  ·cases h;exact ⟨ha,Nat.le_refl _⟩
  split at h
  ·obtain ⟨g,q,h1,h2⟩:=then_inv h;obtain ⟨g1,g2⟩:=arg_tb (num:=num) hm h1;obtain ⟨k1,k2⟩:=msg_tb hm n _ _ _ _ h2 ((Fo.hs_app num _ _).2 ⟨ha,g1⟩);rw [Fo.tb_app] at k2;exact ⟨k1,by omega⟩
  split at h
  ·next hq =>
   obtain ⟨k1,k2⟩:=msg_tb hm n _ _ _ _ h ((Fo.hs_app num _ _).2 ⟨ha,hq.2,trivial⟩);rw [Fo.tb_app] at k2;simp only [Fo.tb] at k2;exact ⟨k1,by omega⟩
  ·obtain ⟨t1,t2⟩:=Fo.hs_addText ha (textT rs num i).1;obtain ⟨k1,k2⟩:=msg_tb hm n _ _ _ _ h t1;have h4:=text_four rs num i;exact ⟨k1,by omega⟩
theorem msgs_tb:∀ n,MsgTb (msgP rs n)
 | 0,num,i,f,j,h=>by
  rw [msgP] at h;simpa [Fo.tb] using msg_tb (fun m e=>by cases e) _ _ _ _ _ h trivial
 | n+1,num,i,f,j,h=>by
  rw [msgP] at h;simpa [Fo.tb] using msg_tb (fun m e=>by cases e;exact msgs_tb n) _ _ _ _ _ h trivial
end
theorem read_sh {l:List UInt8} {f:Fo} (h:parseR l = .ok f):f.hs false/\f.sh:=by
 unfold parseR at h;split at h
 ·cases h
 split at h
 ·cases h
 next h1 _ =>
 have hrs:=runes_len l;have hr:(runesL l).length<=1000:=by omega
 cases hp:parseL (runesL l) with
 | error e=>rw [hp] at h;cases h
 | ok x =>
  rw [hp] at h
  cases h;unfold parseL at hp;obtain ⟨g,q,h2,h3⟩:=then_inv (show _=Except.ok (x.1,x.2) from hp);obtain ⟨hf,hm⟩:=msgs_tb 5 _ _ _ _ h2;have he:q<=(runesL l).length:=msgGo_end _ _ _ _ _ h2 (Nat.zero_le _);split at h3
  ·cases h3;exact ⟨hf,Fo.sh_tb _ (by omega)⟩
  ·cases h3
def Fo.oth:Fo->Prop
 | .nil=>True
 | .text _ r=>r.oth
 | .hash r=>r.oth
 | .put _ _ r=>r.oth
 | .num _ _ r=>r.oth
 | .br _ _ _ _ _ bs r=>othC∈bs.keys/\bs.oth/\r.oth
 | .leg _ _ m r=>m.oth/\r.oth
theorem oth_br (cl:Nat):∀ (f:Fo) (seen:List Wd) (acc:List (Nat×Nat)),bGo cl seen acc f=[]->othC∈seen\/othC∈f.keys:=by
 have hn:∀ (f:Fo) (seen:List Wd) (acc:List (Nat×Nat)),(if othW∈seen then acc else acc++[(6,cl)])=[]->othC∈seen\/othC∈f.keys:=fun f seen acc h=>by
  split at h
  ·next hk=>exact .inl hk
  ·simp at h
 intro f;induction f with
 | leg k a m r _ ih =>
  intro seen acc h;rw [bGo] at h;rcases ih _ _ h with h1 | h1
  ·rcases List.mem_cons.1 h1 with h1 | h1
   ·exact .inr (by rw [Fo.keys,h1];exact List.mem_cons_self)
   ·exact .inl h1
  ·exact .inr (by rw [Fo.keys];exact List.mem_cons_of_mem _ h1)
 | nil=>intro seen acc h;exact hn .nil seen acc h
 | text _ _ _=>intro seen acc h;exact hn (.text _ _) seen acc h
 | hash _ _=>intro seen acc h;exact hn (.hash _) seen acc h
 | put _ _ _ _=>intro seen acc h;exact hn (.put _ _ _) seen acc h
 | num _ _ _ _=>intro seen acc h;exact hn (.num _ _ _) seen acc h
 | br _ _ _ _ _ _ _ _ _=>intro seen acc h;exact hn (.br _ _ _ _ _ _ _) seen acc h
theorem oth_each:∀ (f:Fo) (s s':KSt),eachF chkF f s = .go true s'->s'.2=[]->s.2=[]/\f.oth
 | .nil,s,s',h,e=>by
  cases h;exact ⟨e,trivial⟩
 | .text _ r,s,s',h,e=>oth_each r s s' h e
 | .hash r,s,s',h,e=>oth_each r s s' h e
 | .put n a r,s,s',h,e=>by
  obtain ⟨h1,h2⟩:=oth_each r (kindS s n a 0) s' h e;exact ⟨kind_nil h1,h2⟩
 | .num n a r,s,s',h,e=>by
  obtain ⟨h1,h2⟩:=oth_each r (kindS s n a 1) s' h e;exact ⟨kind_nil h1,h2⟩
 | .br n a f o c bs r,s,s',h,e=>by
  obtain ⟨s1,h1⟩:∃ s1:KSt,((kindS s n a (kindF (.br n a f o c bs .nil))).1,(kindS s n a (kindF (.br n a f o c bs .nil))).2++bGo c [] [] bs)=s1:=⟨_,rfl⟩;have h2:(eachF chkF bs s1).then (fun s=>eachF chkF r s) = .go true s':=by rw [←h1];exact h
  obtain ⟨s2,h3⟩:=each_go bs s1;rw [h3] at h2;obtain ⟨h4,h5⟩:=oth_each r s2 s' h2 e;obtain ⟨h6,h7⟩:=oth_each bs s1 s2 h3 h4;rw [←h1] at h6;obtain ⟨h8,h9⟩:=List.append_eq_nil_iff.1 h6;exact ⟨kind_nil h8,(oth_br c bs _ _ h9).resolve_left (by simp),h7,h5⟩
 | .leg k a m r,s,s',h,e=>by
  obtain ⟨s1,h1⟩:=each_go m s;have h2:(eachF chkF m s).then (fun s=>eachF chkF r s) = .go true s':=h;rw [h1] at h2;obtain ⟨h4,h5⟩:=oth_each r s1 s' h2 e;obtain ⟨h6,h7⟩:=oth_each m s s1 h1 h4;exact ⟨h6,h7,h5⟩
theorem oth_chk {f:Fo} (h:chkL f=none):f.oth:=by
 obtain ⟨s,hs⟩:=each_go f ((fun _=>none),[]);have e:faultsL f=s.2:=by unfold faultsL;rw [hs]
 unfold chkL at h;refine (oth_each f _ s hs ?_).2;rw [←e]
 cases hq:faultsL f with
 | nil=>rfl
 | cons a t=>rw [hq] at h;cases h
theorem Fo.vok_of {N:Nat}:∀ (b:Bool) (f:Fo),f.wf N=true->f.once->f.oth->f.hs b->f.vok b
 | _,.nil,_,_,_,_=>trivial
 | b,.text t r,w,o,t2,h=>Fo.vok_of b r w o t2 h
 | b,.hash r,w,o,t2,h=>⟨h.1,Fo.vok_of b r w o t2 h.2⟩
 | b,.put _ _ r,w,o,t2,h=>by
  simp only [Fo.wf,Bool.and_eq_true] at w;exact Fo.vok_of b r w.2 o t2 h
 | b,.num _ _ r,w,o,t2,h=>by
  simp only [Fo.wf,Bool.and_eq_true] at w;exact Fo.vok_of b r w.2 o t2 h
 | b,.br _ _ f _ _ bs r,w,o,t2,h=>by
  simp only [Fo.wf,Bool.and_eq_true] at w;exact ⟨w.1.1.1.2,o.1,t2.1,Fo.vok_of _ bs w.1.2 o.2.1 t2.2.1 h.1,Fo.vok_of b r w.2 o.2.2 t2.2.2 h.2⟩
 | b,.leg _ _ m r,w,o,t2,h=>by
  simp only [Fo.wf,Bool.and_eq_true] at w;exact ⟨w.1.1.1.2,Fo.vok_of b m w.1.2 o.1 t2.1 h.1,Fo.vok_of b r w.2 o.2 t2.2 h.2⟩
theorem read_vok {l:List UInt8} {f:Fo} (h:parseR l = .ok f) (hc:chkL f=none):f.isMsg=true/\f.vok false/\f.cok/\f.sh/\f.cw<=90000:=by
 have hg:=parseR_good h;obtain ⟨h1,h2⟩:=read_sh h;obtain ⟨h3,h4⟩:=read_cok h hc;exact ⟨hg.msg,Fo.vok_of false f hg.wf (once_chk hc) (oth_chk hc) h1,h3,h2,by omega⟩
def bareE:EnvF Unit:=locE 45 46 0 0 0 (runesL (digL [])) [] []
theorem loc_bare {P q g mb:Nat} {f:Fo} {vC vI:Value} {rs:List (Value×Value)} {w:World} (h:PhrAt P q g mb f vC vI rs 45 46 0 0 0 [] (.slice none 0 0) (.slice none 0 0) w):LocM w g bareE:=by
 have hd:∀ x∈runesL (digL []),I32 x:=fun x hx=>runesL_i32 _ _ (Nat.le_refl _) x hx
 refine loc_of (lo:=0) (hi:=0) (a:=none) (a':=none) (c:=0) (c':=0) (Sc:=[]) (So:=[]) (fi:=0) (ne:=0) h.loc h.gl ⟨by decide,by decide,by decide,hd⟩ (by decide) (by decide) (by decide) h.g0 h.g1 ⟨by decide,by decide⟩ (fun j hj=>absurd hj (Nat.not_lt_zero j)) (fun j hj=>absurd hj (Nat.not_lt_zero j)) (Nat.zero_le _) (fun n hn=>?_) (fun b d=>?_)
 ·have h1:=hn.len1;have h2:=hn.len2;exact writeX_len _ _ _ _ _ _ _ _ _ (by simp [vals];omega) (by omega)
 ·cases b<;>simp [ofL]
set_option maxHeartbeats 4000000 in
theorem says_any {p:Wd} {f:Fo} {w:World} (hp:p.length<=1000000) (hr:readP p = .ok f) (hE:CmpEnv w) (hT:ErrT w) {l:List Wd} {a:Option Addr} {n c:Nat} (ht:TextsA w a l) (hn:l.length=n) (hl:∀ t∈l,t.length<=1000000) (hn0:n<=1000000) :
  Calls Tryz.prog 12 #[strv p,bareV,.slice a n c] w fun e w'=>(∃ s k,e = .returned (.tuple #[strv s,.bool (decide (k=0))])/\SaidQ bareE f (valsF l (0,fun _=>none)).1 (valsF l (0,fun _=>none)).2 s k)/\Below w.heap.size w w':=by
 have HE:=Lib.hid hE;have HR:=Lib.hid hr;have HT:=Lib.hid hT;have HA:=Lib.hid (And.intro ht (And.intro hn (And.intro hl hn0)));clear hE hr hT ht hn hl hn0;go_enter Tryz.func12,Tryz.ntmps12
 go_wp2_with fail
 refine calls_gen ?_;intro W hW;have hb:Below w.heap.size w W:=by rw [hW];exact (Below.refl _ _).alloc (Nat.le_refl _) _
 clear hW;refine (pcompile_any ⟨p.toArray⟩ (.slice none 0 0) (.slice none 0 0) true true 45 46 0 0 0 ⟨#[]⟩ _ _ W (by rw [size_mk];exact hp) (by decide) (by decide) (by decide) (pread_nil W) (pread_nil W) ⟨⟨_,_,_,rfl⟩,_,_,_,rfl⟩ (HE.out.below hb)).mono ?_;rintro e w1 ⟨hb1,hres⟩;have hb01:Below w.heap.size w w1:=hb.trans (hb1.mono hb.size);rw [if_neg (by rw [known_bare];decide),show (⟨p.toArray⟩:ByteArray).data.toList=p from rfl,HR.out] at hres;obtain ⟨P,q,g,mb,vC,vI,rs,cv,ov,rfl,hph,hq1,hq2⟩:=hres;have e1:=hq1 w1 (Below.refl _ _);have e2:=hq2 w1 (Below.refl _ _);subst e1 e2;obtain ⟨r1,r2⟩:=readP_parts HR.out;obtain ⟨v1,v2,v3,v4,v5⟩:=read_vok r1 r2;have HF:=Lib.hid (pformat_any (c:=c) (E:=bareE) ⟨hph.p0,hph.p1,hph.prog,loc_bare hph,v1,v2,v3,v4,v5⟩ (HT.out.below hb01) (HA.out.1.fr (fr_below hb01)) HA.out.2.1 HA.out.2.2.1 HA.out.2.2.2);have HB:=Lib.hid hb01;clear hb hb1 hph hb01 hq1 hq2 r1 r2 v1 v2 v3 v4 v5;go_wp2_with fail
 refine HF.out.mono ?_;rintro e w2 ⟨⟨s,k,rfl,hs⟩,hf2⟩;have HS:=Lib.hid hs;have HB2:=Lib.hid (HB.out.trans ((low_of hf2).mono HB.out.size));clear HF hs hf2;by_cases hk:k=0
 ·subst hk;go_wp2
  go_ret2
  exact ⟨⟨s,0,rfl,HS.out⟩,HB2.out⟩
 ·have hk2:((k:Int)=0)=False:=by simp;omega
  go_wp2
  go_ret2
  exact ⟨⟨s,k,by simp [hk],HS.out⟩,HB2.out⟩
theorem dig_at:∀ d:Fin 10,(⟨#[48,49,50,51,52,53,54,55,56,57]⟩:ByteArray).extract d.val (d.val+1)=⟨[dchar d.val].toArray⟩:=by decide
set_option maxHeartbeats 400000 in
theorem kdec_nat:∀ (n:Nat) (w:World),n<=1000000000000->Calls Tryz.prog 14 #[.int .i64 (n:Nat)] w fun e w'=>e = .returned (strv (decL n))/\w=w':=by
 intro n;induction n using Nat.strongRecOn with
 | ind n ih =>
  intro w hn;have HI:=Lib.hid ih;obtain ⟨d,hd⟩:∃ d,n % 10=d:=⟨_,rfl⟩;have hd10:d<10:=by omega
  have hr:Int.tmod (n:Int) 10=(d:Int):=by rw [Int.tmod_eq_emod_of_nonneg (by omega)];omega
  have hx:=dig_at ⟨d,hd10⟩;have hw:IntKind.i64.wrap ((d:Int)+1)=(d:Int)+1:=by rw [IntKind.wrap_i64];omega
  have g0:¬(n:Int)<0:=by omega
  have HD:=Lib.hid hd;clear ih hd;by_cases h:n<10
  ·have g1:(n:Int)<10:=by omega
   go_enter Tryz.func14,Tryz.ntmps14
   go_wp2
   go_ret
   have e:d=n:=by have:=HD.out;omega
   exact ⟨by rw [decL_small h,e];rfl,rfl⟩
  ·have g1:¬(n:Int)<10:=by omega
   have hq:Int.tdiv (n:Int) 10=((n / 10:Nat):Int):=by rw [Int.tdiv_eq_ediv_of_nonneg (by omega)];omega
   obtain ⟨m,hm⟩:∃ m,n / 10=m:=⟨_,rfl⟩;rw [hm] at hq;have HC:=Lib.hid (HI.out m (by omega) w (by omega));have hcat:(⟨(decL m).toArray⟩:ByteArray)++(⟨#[dchar d]⟩:ByteArray)=⟨(decL m++[dchar d]).toArray⟩:=by
    apply ByteArray.ext;simp [ByteArray.data_append]
   have HX:=Lib.hid (show decL n=decL m++[dchar d] by rw [decL_big h,hm,HD.out]);have hlen:¬9223372036854775807<(decL m).length+1:=by have:=decL_length m;omega
   have hwm:IntKind.i64.wrap (m:Int)=(m:Int):=by rw [IntKind.wrap_i64];omega
   clear hm;go_enter Tryz.func14,Tryz.ntmps14
   go_wp2_with fail
   refine HC.out.mono ?_;rintro e w' ⟨rfl,rfl⟩;go_wp2
   go_ret
   exact ⟨by rw [HX.out];rfl,rfl⟩
def decZ (v:Int):Wd:=if v<0 then 45::decL v.natAbs else decL v.natAbs
set_option maxHeartbeats 400000 in
theorem kdec_any (v:Int) (w:World) (h1 : -1000000000000<=v) (h2:v<=1000000000000):Calls Tryz.prog 14 #[.int .i64 v] w fun e w'=>e = .returned (strv (decZ v))/\w=w':=by
 by_cases h:v<0
 ·obtain ⟨n,rfl⟩:∃ n:Nat,v = -(n:Int):=⟨v.natAbs,by omega⟩;have HC:=Lib.hid (kdec_nat n w (by omega));have hw:IntKind.i64.wrap (n:Int)=(n:Int):=by rw [IntKind.wrap_i64];omega
  have hcat:(⟨#[45]⟩:ByteArray)++(⟨(decL n).toArray⟩:ByteArray)=⟨(45::decL n).toArray⟩:=by
   apply ByteArray.ext;simp [ByteArray.data_append]
  have hlen:¬9223372036854775807<1+(decL n).length:=by have:=decL_length n;omega
  have hlen2:¬9223372036854775807<(decL n).length+1:=by have:=decL_length n;omega
  have HX:=Lib.hid (show decZ (-(n:Int))=45::decL n by unfold decZ;rw [if_pos h];simp);have g0 : -(n:Int)<0:=h;clear h1 h2;go_enter Tryz.func14,Tryz.ntmps14
  go_wp2_with fail
  refine HC.out.mono ?_;rintro e w' ⟨rfl,rfl⟩;go_wp2
  go_ret
  exact ⟨by rw [HX.out];rfl,rfl⟩
 ·obtain ⟨n,rfl⟩:∃ n:Nat,v=(n:Int):=⟨v.natAbs,by omega⟩;rw [show decZ (n:Int)=decL n by unfold decZ;rw [if_neg h];simp];exact kdec_nat n w (by omega)
def kpickL (c:Int) (n:Nat):Nat:=(if c<0 then -(c+1) else c).toNat % n
set_option maxHeartbeats 400000 in
theorem kpick_any (c:Int) (n:Nat) (w:World) (h1 : -9223372036854775808<=c) (h2:c<=9223372036854775807) (hn:0<n) (hn2:n<=4000000000):Calls Tryz.prog 13 #[.int .i64 c,.int .i64 (n:Nat)] w fun e w'=>e = .returned (.int .i64 (kpickL c n:Nat))/\w=w':=by
 have n0:((n:Int)=0)=False:=by simp;omega
 by_cases h:c<0
 ·have hw:IntKind.i64.wrap (c+1)=c+1:=by rw [IntKind.wrap_i64];omega
  have hw2:IntKind.i64.wrap (-(c+1)) = -(c+1):=by rw [IntKind.wrap_i64];omega
  have hr:Int.tmod (-(c+1)) (n:Int)=(kpickL c n:Nat):=by
   unfold kpickL;rw [if_pos h,Int.tmod_eq_emod_of_nonneg (by omega)];have : -(c+1)=((-(c+1)).toNat:Int):=by omega
   rw [this];simp
  clear h1 h2;go_enter Tryz.func13,Tryz.ntmps13
  go_wp2
  go_ret
  exact ⟨rfl,rfl⟩
 ·have hr:Int.tmod c (n:Int)=(kpickL c n:Nat):=by
   unfold kpickL;rw [if_neg h,Int.tmod_eq_emod_of_nonneg (by omega)];have:c=(c.toNat:Int):=by omega
   rw [this];simp
  clear h1 h2;go_enter Tryz.func13,Tryz.ntmps13
  go_wp2
  go_ret
  exact ⟨rfl,rfl⟩
end Go.Proofs.YthpldolmpinnhaaGreatDoor
