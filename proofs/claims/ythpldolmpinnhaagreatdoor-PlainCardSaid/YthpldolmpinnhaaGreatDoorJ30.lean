import Derived.Test.YthpldolmpinnhaaGreatDoorJ29
import Derived.Laws.IdiomRangeMap
namespace Go.Proofs.YthpldolmpinnhaaGreatDoor
open Go Go.RowKit
set_option maxRecDepth 10000
theorem next_empty (w:World) (ty:TypeId) (b:Nat) (hb:w.heap[b]? = some (.map #[] 0)):(Instr.next (.pointer (some ⟨w.heap.size,0,none⟩)) false ty).run Tryz.prog (w.alloc (.mapIter (some b) 0 #[] 0)) = .ok (.tuple #[.bool false]) (w.alloc (.mapIter (some b) 0 #[] 0)):=by
 rcases run_next_map (P:=Tryz.prog) w ty b 0 0 #[] #[] 0 hb (fun x hx=>by simp at hx) (Nat.le_refl _) with ⟨_,h⟩ | ⟨e,he,_⟩
 ·exact h
 ·simp [leftOf] at he
theorem below_range (w:World) (b:Nat):Below w.heap.size w (w.alloc (.mapIter (some b) 0 #[] 0)):=(Below.refl _ _).alloc (Nat.le_refl _) _
set_option maxHeartbeats 1000000 in
theorem values_nil (w:World):Calls Tryz.prog 34 #[.slice none 0 0] w fun e w'=>e = .returned (.map (some w.heap.size))/\w'=w.alloc (.map #[] 0):=by
 have hmm:=@run_makeMap Tryz.prog;go_enter Tryz.func34,Tryz.ntmps34
 go_wp2
 go_loopw [4] (fun i wr=>i = .int .i64 0/\wr=w.alloc (.map #[] 0)) (fun _ _=>0)
 case atStart=>exact ⟨rfl,rfl⟩
 case round =>
  obtain ⟨rfl,rfl⟩:=hrel;go_wp2
  go_ret
  exact ⟨rfl,rfl⟩
set_option maxHeartbeats 2000000 in
theorem args_nil (w:World) (b:Nat) (hb:w.heap[b]? = some (.map #[] 0)):Calls Tryz.prog 52 #[.map (some b)] w fun e w'=>(∃ c,e = .returned (.tuple #[.func (.func 85) #[] #[.pointer (some ⟨c,0,none⟩)],.bool true]))/\Below w.heap.size w w':=by
 have hmf:∀ (fn:Fn) (first cap:Array Value) (w:World),(Instr.makeFunc fn first cap).run Tryz.prog w = .ok (.func fn first cap) w:=fun _ _ _ _=>rfl
 have hlt:b<w.heap.size:=(Array.getElem?_eq_some_iff.1 hb).1;obtain ⟨W,hW⟩:∃ W,w.alloc (.cells #[.map (some b)] 82)=W:=⟨_,rfl⟩;have hbW:W.heap[b]? = some (.map #[] 0):=by rw [←hW,heap_alloc_old w _ hlt];exact hb
 have hb1:Below w.heap.size w W:=by rw [←hW];exact (Below.refl _ _).alloc (Nat.le_refl _) _
 have hrg:=run_range_map (P:=Tryz.prog) W 82 _ _ b #[] 0 Tryz.underlying82 hbW;have hnx:=fun ty=>next_empty W ty b hbW
 have hln:(Builtin.len_ #[82] 3 #[.map (some b)]).run Tryz.prog W = .ok (.int .i64 0) W:=by
  have hu:=Tryz.underlying82;simp [Builtin.len_,Builtin.lenOf,run_underlying hu,MapKept.run_getObj_map hbW];rfl
 have hcW:W.cell? ⟨w.heap.size,0,none⟩=some (.map (some b)):=by rw [←hW];exact cell_made w #[.map (some b)] _ (0,0) 0
 go_enter Tryz.func52,Tryz.ntmps52
 go_wp2_with fail
 go_loopw [] (fun wr=>wr=W.alloc (.mapIter (some b) 0 #[] 0)) (fun _=>0)
 case atStart=>rfl
 case round =>
  subst hrel;go_wp2
  go_ret2
  exact ⟨⟨_,rfl⟩,hb1.trans ((below_range W b).mono hb1.size)⟩
section
variable {P q g mb:Nat} {vC vI cv ov:Value} {rs:List (Value×Value)} {mi po gr:Int} {fi ne:Nat} {dg:List UInt8} {t:Wd} {w:World}
set_option maxHeartbeats 2000000 in
theorem lformat_text {b:Nat} (h:PhrAt P q g mb (txtF t) vC vI rs mi po gr fi ne dg cv ov w) (ht:t.length<=1000000) (hb:w.heap[b]? = some (.map #[] 0)) :
  Calls Tryz.prog 35 #[.pointer (some ⟨P,0,none⟩),.map (some b)] w fun e w'=>e = .returned (.tuple #[strv t,.nilIface])/\Below w.heap.size w w':=by
 have HH:=Lib.hid h;have HA:=Lib.hid (args_nil w b hb);clear h hb;go_enter Tryz.func35,Tryz.ntmps35
 go_wp2_with fail
 refine HA.out.mono ?_;rintro e w1 ⟨⟨c,rfl⟩,hb1⟩;have h1:=HH.out.below hb1;have c0:=h1.p0;have c1:=h1.p1;have HR:=Lib.hid (run_text (w:=w1.drew) t (some ⟨g,0,none⟩) (.func 85) #[] #[.pointer (some ⟨c,0,none⟩)] (h1.prog.below (Below.drew (Below.refl _ _))) ht);have HB1:=Lib.hid hb1;clear h1 HA hb1;go_wp2_with fail
 refine rt (fun W':World=>W'.cell? ⟨P,0,none⟩=some (.pointer (some ⟨q,0,none⟩))/\W'.cell? ⟨P,1,none⟩=some (.pointer (some ⟨g,0,none⟩))) (List.range 9) 5 ⟨c0,c1⟩ ?_;(iterate 9 (refine ty ?_;try simp only [pl]))
 refine takes_nil ?_;refine wpAnyH_only 9 (by kernel_rfl) rfl (fun J hJ=>?_);go_simp
 refine HR.out.mono ?_;rintro e w2 ⟨rfl,hb2⟩;have hb2':Below w1.heap.size w1 w2:=⟨hb2.os,hb2.tape,hb2.output,hb2.size,hb2.block⟩;have d0:w2.cell? ⟨P,0,none⟩=some (.pointer (some ⟨q,0,none⟩)):=(Fr.of (F:=noF) hb2').cell c0 id;have d1:w2.cell? ⟨P,1,none⟩=some (.pointer (some ⟨g,0,none⟩)):=(Fr.of (F:=noF) hb2').cell c1 id;refine hJ.out _ _ ⟨d0,d1⟩ fun _=>?_
 clear hJ J;refine wpAnyH_more [10,11,12,13] 0 rfl (by intro _ _ d _ _ h;cases d<;>exact h) (by kernel_rfl) (by kernel_rfl) ⟨d0,d1⟩ ?_;(iterate 4 (refine ty ?_;try simp only [pl]))
 refine takes_nil ?_;refine wpAnyH_done (by kernel_rfl) ?_ _;have hb02:=HB1.out.trans (hb2'.mono HB1.out.size);clear hb2 hb2' d0 d1 c0 c1;go_wp2
 go_ret2
 exact ⟨rfl,hb02⟩
theorem len_map (W:World) (b:Nat) (hb:W.heap[b]? = some (.map #[] 0)):(Builtin.len_ #[82] 3 #[.map (some b)]).run Tryz.prog W = .ok (.int .i64 0) W:=by
 have hu:=Tryz.underlying82;simp [Builtin.len_,Builtin.lenOf,run_underlying hu,MapKept.run_getObj_map hb];rfl
set_option maxHeartbeats 2000000 in
theorem format_text (h:PhrAt P q g mb (txtF t) vC vI rs mi po gr fi ne dg cv ov w) (ht:t.length<=1000000) :
  Calls Tryz.prog 21 #[.pointer (some ⟨P,0,none⟩),.slice none 0 0] w fun e w'=>e = .returned (.tuple #[strv t,.int .i64 0,.bool true])/\Below w.heap.size w w':=by
 have HH:=Lib.hid h;clear h;go_enter Tryz.func21,Tryz.ntmps21
 go_wp2_with fail
 refine (values_nil w).mono ?_;rintro e w1 ⟨rfl,hw1⟩;have hb1:Below w.heap.size w w1:=by rw [hw1];exact (Below.refl _ _).alloc (Nat.le_refl _) _
 have m1:w1.heap[w.heap.size]? = some (.map #[] 0):=by rw [hw1];exact heap_alloc_new w _
 have HF:=Lib.hid (lformat_text (HH.out.below hb1) ht m1);clear hw1;go_wp2_with fail
 refine HF.out.mono ?_;rintro e w2 ⟨rfl,hb2⟩;have hb02:=hb1.trans (hb2.mono hb1.size);have lt1:=(Array.getElem?_eq_some_iff.1 m1).1;have m2:w2.heap[w.heap.size]? = some (.map #[] 0):=(hb2.block _ lt1).trans m1;clear HF hb1 hb2 m1;go_wp2_with fail
 refine (tell_nil w2).mono ?_;rintro e w3 ⟨rfl,hb3⟩;have hb03:=hb02.trans (hb3.mono hb02.size);have lt2:=(Array.getElem?_eq_some_iff.1 m2).1;have m3:w3.heap[w.heap.size]? = some (.map #[] 0):=(hb3.block _ lt2).trans m2;clear hb02 hb3 m2;go_wp2_with fail
 refine (values_nil w3).mono ?_;rintro e w4 ⟨rfl,hw4⟩;have hb4:Below w3.heap.size w3 w4:=by rw [hw4];exact (Below.refl _ _).alloc (Nat.le_refl _) _
 have n4:w4.heap[w3.heap.size]? = some (.map #[] 0):=by rw [hw4];exact heap_alloc_new w3 _
 have m4:w4.heap[w.heap.size]? = some (.map #[] 0):=(hb4.block _ (Array.getElem?_eq_some_iff.1 m3).1).trans m3;have hb04:=hb03.trans (hb4.mono hb03.size);have l1:=len_map w4 _ m4;have l2:=len_map w4 _ n4;have hrg:=run_range_map (P:=Tryz.prog) w4 82 _ _ w3.heap.size #[] 0 Tryz.underlying82 n4;have hnx:=fun ty=>next_empty w4 ty w3.heap.size n4
 have hbr:=below_range w4 w3.heap.size;obtain ⟨a,ha⟩:∃ a,w.heap.size=a:=⟨_,rfl⟩;obtain ⟨b,hb⟩:∃ b,w3.heap.size=b:=⟨_,rfl⟩;have HB:=Lib.hid (hb04.trans (hbr.mono hb04.size));rw [ha] at l1 ⊢;rw [hb] at l2 hrg hnx HB ⊢;clear hw4 hb4 n4 m4 m3 hb04 hb03 hbr hb lt1 lt2;go_wp2_with fail
 go_loopw [13] (fun sv wr=>sv = .bool true/\wr=w4.alloc (.mapIter (some b) 0 #[] 0)) (fun _ _=>0)
 case atStart=>exact ⟨rfl,rfl⟩
 case round =>
  obtain ⟨rfl,rfl⟩:=hrel;go_wp2
  go_ret3
  exact ⟨rfl,by first | exact HB.out | (rw [←ha];exact HB.out)⟩
end
abbrev bareV:Value:=locv (.slice none 0 0) (.slice none 0 0) 45 46 0 (0:Nat) (0:Nat) ⟨#[]⟩
set_option maxHeartbeats 1000000 in
theorem kbare_any (w:World):Calls Tryz.prog 11 #[] w fun e w'=>e = .returned bareV/\Below w.heap.size w w':=by
 go_enter Tryz.func11,Tryz.ntmps11
 go_wp2
 refine bodyPost_ret (v:=bareV) ?_ rfl ⟨rfl,?_⟩
 ·simp [results,Tryz.results11,go_sem]
 ·(repeat (first | (with_reducible exact Below.refl _ _) | (with_reducible refine Below.alloc ?_ ?_ _;rotate_left;focus (first | (simp;done) | (simp;omega))) | (with_reducible refine Below.setCell ?_ ?_ _;rotate_left;focus (first | (simp;done) | (simp;omega)))))
theorem known_bare:knownL true true 45 46 0 ((0:Nat):Int) ((0:Nat):Int) []=true:=by simp [knownL,ptsL_nil,isPt]
set_option maxHeartbeats 4000000 in
theorem says_text (p t:Wd) (w:World) (hp:p.length<=1000000) (hr:readP p = .ok (txtF t)) (ht:t.length<=1000000) (hE:CmpEnv w) :
  Calls Tryz.prog 12 #[strv p,bareV,.slice none 0 0] w fun e w'=>e = .returned (.tuple #[strv t,.bool true])/\Below w.heap.size w w':=by
 have HE:=Lib.hid hE;have HR:=Lib.hid hr;clear hE hr;go_enter Tryz.func12,Tryz.ntmps12
 go_wp2_with fail
 refine calls_gen ?_;intro W hW;have hb:Below w.heap.size w W:=by rw [hW];exact (Below.refl _ _).alloc (Nat.le_refl _) _
 clear hW;refine (pcompile_any ⟨p.toArray⟩ (.slice none 0 0) (.slice none 0 0) true true 45 46 0 0 0 ⟨#[]⟩ _ _ W (by rw [size_mk];exact hp) (by decide) (by decide) (by decide) (pread_nil W) (pread_nil W) ⟨⟨_,_,_,rfl⟩,_,_,_,rfl⟩ (HE.out.below hb)).mono ?_;rintro e w1 ⟨hb1,hres⟩;have hb01:Below w.heap.size w w1:=hb.trans (hb1.mono hb.size);rw [if_neg (by rw [known_bare];decide),show (⟨p.toArray⟩:ByteArray).data.toList=p from rfl,HR.out] at hres;obtain ⟨P,q,g,mb,vC,vI,rs,cv,ov,rfl,hph,-,-⟩:=hres;have HF:=Lib.hid (format_text hph ht);clear hb hb1 hph;go_wp2_with fail
 refine HF.out.mono ?_;rintro e w2 ⟨rfl,hb2⟩;have hb02:=hb01.trans (hb2.mono hb01.size);clear HF hb2 hb01;go_wp2
 go_ret2
 exact ⟨rfl,hb02⟩
def asciiL (l:Wd):Bool:=l.all (· ≤ 127)
set_option maxHeartbeats 1000000 in
theorem ascii_any (s:ByteArray) (w:World) (hs:s.size<=9223372036854775807):Calls Tryz.prog 10 #[.string s] w fun e w'=>e = .returned (.bool (asciiL s.data.toList))/\w=w':=by
 go_enter Tryz.func10,Tryz.ntmps10
 go_wp2_with fail
 go_loop [3] (fun iv=>∃ i:Nat,iv = .int .i64 (i:Nat)/\i<=s.size/\(s.data.toList.take i).all (· ≤ 127)=true) (fun iv=>s.size - (intOf iv).toNat)
 case atStart=>exact ⟨0,rfl,Nat.zero_le _,by simp⟩
 case round =>
  obtain ⟨i,rfl,hi,hall⟩:=hrel;have HALL:=Lib.hid hall;clear hall;by_cases hlt:i<s.size
  ·have k1:(i:Int)<(s.size:Int):=by omega
   have hget:s.data.toList[i]? = some s[i]:=by rw [List.getElem?_eq_getElem (by simpa using hlt),getElem_toList s i hlt]
   have htk:=take_snoc s i hlt;by_cases h127:127<s[i]
   ·have k2:decide ((127:Int)<((s[i]).toNat:Int))=true:=by
     have:(127:UInt8).toNat<s[i].toNat:=h127;simp at this ⊢;omega
    have HF:=Lib.hid (show asciiL s.data.toList=false by
     unfold asciiL;rw [Bool.eq_false_iff];intro q;have:=List.all_eq_true.1 q s[i] (List.mem_of_getElem? hget);simp at this;exact absurd h127 (by simpa using this))
    clear hget htk;go_wp2
    go_ret
    exact ⟨by rw [HF.out];rfl,rfl⟩
   ·have k2:decide ((127:Int)<((s[i]).toNat:Int))=false:=by
     have:¬(127:UInt8).toNat<s[i].toNat:=h127;simp at this ⊢;omega
    have HN:=Lib.hid (show (s.data.toList.take (i+1)).all (· ≤ 127)=true by
     rw [htk,List.all_append,HALL.out];simpa using h127)
    clear hget htk h127;go_wp2
    go_round
    case rel=>exact ⟨i+1,by go_num,by omega,HN.out⟩
    case measure=>simp only [intOf];omega
  ·have hi2:i=s.size:=by omega
   have HT:=Lib.hid (show asciiL s.data.toList=true by
    unfold asciiL;have:=HALL.out;rwa [hi2,take_all] at this)
   go_wp2
   go_ret
   exact ⟨by rw [HT.out];rfl,rfl⟩
def isBr (c:UInt8):Bool:=c==123 || c==125
def qStep (st:Wd×Bool) (c:UInt8):Wd×Bool:=(st.1++(if !st.2 && isBr c then [39] else [])++(if c=39 then [39] else [])++[c],st.2 || isBr c)
def qP (l:Wd):Wd×Bool:=l.foldl qStep ([],false)
def qtL (l:Wd):Wd:=(qP l).1++(if (qP l).2 then [39] else [])
theorem qP_len:∀ l:Wd,(qP l).1.length<=3*l.length:=by
 have h:∀ (l:Wd) (st:Wd×Bool),(l.foldl qStep st).1.length<=st.1.length+3*l.length:=by
  intro l;induction l with
  | nil=>intro st;exact Nat.le_refl _
  | cons c t ih =>
   intro st;refine Nat.le_trans (ih _) ?_;simp only [qStep,List.length_append,List.length_cons,List.length_nil];split<;>split<;>simp<;>omega
 intro l;simpa [qP] using h l ([],false)
theorem qP_snoc (l:Wd) (c:UInt8):qP (l++[c])=qStep (qP l) c:=by simp [qP]
theorem num_byte (c d:UInt8):((c.toNat:Int)==(d.toNat:Int))=(c==d):=by
 by_cases h:c=d
 ·subst h;simp
 ·have h2:c.toNat≠d.toNat:=fun e=>h (UInt8.toNat.inj e)
  have e1:(c==d)=false:=by simpa using h
  rw [e1];simp;omega
theorem cat2 (p:Wd) (c:UInt8):((⟨p.toArray⟩:ByteArray)++⟨#[39]⟩)++(⟨[c].toArray⟩:ByteArray)=⟨((p++[39])++[c]).toArray⟩:=by
 rw [show (⟨p.toArray⟩:ByteArray)++⟨#[39]⟩=⟨(p++[39]).toArray⟩ from append_mk p [39],append_mk]
def PlRel (l:Wd) (pv qv iv:Value):Prop:=∃ (i:Nat) (p:Wd) (q:Bool),iv = .int .i64 (i:Nat)/\i<=l.length/\qP (l.take i)=(p,q)/\pv=strv p/\((q=false/\qv = .string ⟨#[]⟩)\/(q=true/\qv = .string ⟨#[39]⟩))
set_option maxHeartbeats 8000000 in
theorem plain_any (l:Wd) (w:World) (hl:l.length<=9223372036854775807) (hE:CmpEnv w) (hlaw:l.length<=498->asciiL l=true->readP (qtL l) = .ok (txtF l)) :
  Calls Tryz.prog 3 #[strv l] w fun e w'=>e = .returned (.bool true)/\Below w.heap.size w w':=by
 have hsz2:(⟨l.toArray⟩:ByteArray).size=l.length:=size_mk l;have HAS:=Lib.hid (ascii_any ⟨l.toArray⟩ w (by rw [hsz2];exact hl));rw [show (⟨l.toArray⟩:ByteArray).data.toList=l from rfl] at HAS;have HE:=Lib.hid hE;have HLAW:=Lib.hid hlaw;obtain ⟨b,hb⟩:∃ b,asciiL l=b:=⟨_,rfl⟩;rw [hb] at HAS;have HB:=Lib.hid hb;clear hE hlaw hb;by_cases h498:498<l.length
 ·have g1:decide ((498:Int)<(l.length:Int))=true:=by simp;omega
  go_enter Tryz.func3,Tryz.ntmps3
  go_wp2_with fail
  refine HAS.out.mono ?_;rintro e w1 ⟨rfl,rfl⟩;go_wp2
  go_ret
  exact ⟨rfl,Below.refl _ _⟩
 have g1:decide ((498:Int)<(l.length:Int))=false:=by simp;omega
 have hl498:l.length<=498:=by omega
 clear h498
 cases b
 ·go_enter Tryz.func3,Tryz.ntmps3
  go_wp2_with fail
  refine HAS.out.mono ?_;rintro e w1 ⟨rfl,rfl⟩;go_wp2
  go_ret
  exact ⟨rfl,Below.refl _ _⟩
 ·go_enter Tryz.func3,Tryz.ntmps3
  go_wp2_with fail
  refine HAS.out.mono ?_;rintro e w1 ⟨rfl,rfl⟩;clear HAS;go_wp2_with fail
  go_loopw [4,5,6] (fun pv qv iv wr=>PlRel l pv qv iv/\wr=w) (fun _ _ iv _=>l.length - (intOf iv).toNat)
  case atStart=>exact ⟨⟨0,[],false,rfl,Nat.zero_le _,rfl,rfl,.inl ⟨rfl,rfl⟩⟩,rfl⟩
  case round =>
   obtain ⟨⟨i,p,q,rfl,hi,hP,rfl,hq⟩,rfl⟩:=hrel;have hpl:p.length<=2000:=by have h1:=qP_len (l.take i);rw [hP] at h1;have h2:=List.length_take_le i l;simp only at h1;omega
   have HP:=Lib.hid hP;clear hP;by_cases hlt:i<l.length
   ·have hsn:l.take (i+1)=l.take i++[l[i]]:=List.take_succ_eq_append_getElem hlt;have hgetb:∀ h,(⟨l.toArray⟩:ByteArray)[i]'h=l[i]:=fun h=>by simp [ByteArray.getElem_eq_getElem_data]
    have hext:(⟨l.toArray⟩:ByteArray).extract i (i+1)=⟨[l[i]].toArray⟩:=by
     rw [extract_eq,Nat.add_sub_cancel_left,toList_mk,List.drop_eq_getElem_cons hlt];rfl
    obtain ⟨c,hc⟩:∃ c,l[i]=c:=⟨_,rfl⟩;rw [hc] at hsn hext;have hidx:∀ h,(⟨l.toArray⟩:ByteArray)[i]'h=c:=fun h=>(hgetb h).trans hc
    have HEXT:=Lib.hid hext;have HS:=Lib.hid (show qP (l.take (i+1))=qStep (p,q) c by rw [hsn,qP_snoc,HP.out]);have n1:((c.toNat:Int)==123)=(c==123):=num_byte c 123;have n2:((c.toNat:Int)==125)=(c==125):=num_byte c 125;have n3:((c.toNat:Int)==39)=(c==39):=num_byte c 39;clear hgetb hext hsn hc;rcases hq with ⟨rfl,rfl⟩ | ⟨rfl,rfl⟩
    ·by_cases h1:c=123
     ·have HC:=Lib.hid h1;clear h1;have f1:((c.toNat:Int)==123)=true:=n1.trans (by simp [HC.out]);have f2:((c.toNat:Int)==125)=false:=n2.trans (by simp [HC.out]);have f3:((c.toNat:Int)==39)=false:=n3.trans (by simp [HC.out]);have HX:=Lib.hid (And.intro n1 (And.intro n2 n3));clear n1 n2 n3;go_wp2
      go_round
      case rel=>exact ⟨⟨i+1,(p++[39])++[c],true,by go_num,by omega,by rw [HS.out];simp [qStep,isBr,HC.out],congrArg Value.string (by rw [HEXT.out];exact cat2 p c),.inr ⟨rfl,rfl⟩⟩,trivial⟩
      case measure=>simp only [intOf];omega
     by_cases h2:c=125
     ·have HC:=Lib.hid h2;clear h1 h2;have f1:((c.toNat:Int)==123)=false:=n1.trans (by simp [HC.out]);have f2:((c.toNat:Int)==125)=true:=n2.trans (by simp [HC.out]);have f3:((c.toNat:Int)==39)=false:=n3.trans (by simp [HC.out]);have HX:=Lib.hid (And.intro n1 (And.intro n2 n3));clear n1 n2 n3;go_wp2
      go_round
      case rel=>exact ⟨⟨i+1,(p++[39])++[c],true,by go_num,by omega,by rw [HS.out];simp [qStep,isBr,HC.out],congrArg Value.string (by rw [HEXT.out];exact cat2 p c),.inr ⟨rfl,rfl⟩⟩,trivial⟩
      case measure=>simp only [intOf];omega
     by_cases h3:c=39
     ·have HC:=Lib.hid h3;clear h1 h2 h3;have f1:((c.toNat:Int)==123)=false:=n1.trans (by simp [HC.out]);have f2:((c.toNat:Int)==125)=false:=n2.trans (by simp [HC.out]);have f3:((c.toNat:Int)==39)=true:=n3.trans (by simp [HC.out]);have HX:=Lib.hid (And.intro n1 (And.intro n2 n3));clear n1 n2 n3;go_wp2
      go_round
      case rel=>exact ⟨⟨i+1,(p++[39])++[c],false,by go_num,by omega,by rw [HS.out];simp [qStep,isBr,HC.out],congrArg Value.string (by rw [HEXT.out];exact cat2 p c),.inl ⟨rfl,rfl⟩⟩,trivial⟩
      case measure=>simp only [intOf];omega
     ·have HC:=Lib.hid (And.intro h1 (And.intro h2 h3));clear h1 h2 h3;have f1:((c.toNat:Int)==123)=false:=n1.trans (by simp [HC.out.1,HC.out.2.1,HC.out.2.2]);have f2:((c.toNat:Int)==125)=false:=n2.trans (by simp [HC.out.1,HC.out.2.1,HC.out.2.2]);have f3:((c.toNat:Int)==39)=false:=n3.trans (by simp [HC.out.1,HC.out.2.1,HC.out.2.2]);have HX:=Lib.hid (And.intro n1 (And.intro n2 n3));clear n1 n2 n3;go_wp2
      go_round
      case rel=>exact ⟨⟨i+1,p++[c],false,by go_num,by omega,by rw [HS.out];simp [qStep,isBr,HC.out.1,HC.out.2.1,HC.out.2.2],congrArg Value.string (by rw [HEXT.out];exact append_mk _ _),.inl ⟨rfl,rfl⟩⟩,trivial⟩
      case measure=>simp only [intOf];omega
    ·by_cases h3:c=39
     ·have HC:=Lib.hid h3;clear h3;have f1:((c.toNat:Int)==123)=false:=n1.trans (by simp [HC.out]);have f2:((c.toNat:Int)==125)=false:=n2.trans (by simp [HC.out]);have f3:((c.toNat:Int)==39)=true:=n3.trans (by simp [HC.out]);have HX:=Lib.hid (And.intro n1 (And.intro n2 n3));clear n1 n2 n3;go_wp2
      go_round
      case rel=>exact ⟨⟨i+1,(p++[39])++[c],true,by go_num,by omega,by rw [HS.out];simp [qStep,isBr,HC.out],congrArg Value.string (by rw [HEXT.out];exact cat2 p c),.inr ⟨rfl,rfl⟩⟩,trivial⟩
      case measure=>simp only [intOf];omega
     ·have HC:=Lib.hid h3;clear h3;have f3:((c.toNat:Int)==39)=false:=n3.trans (by simp [HC.out]);clear n1 n2 n3;go_wp2
      go_round
      case rel=>exact ⟨⟨i+1,p++[c],true,by go_num,by omega,by rw [HS.out];simp [qStep,isBr,HC.out],congrArg Value.string (by rw [HEXT.out];exact append_mk _ _),.inr ⟨rfl,rfl⟩⟩,trivial⟩
      case measure=>simp only [intOf];omega
   ·obtain rfl:i=l.length:=by omega
    rcases hq with ⟨rfl,rfl⟩ | ⟨rfl,rfl⟩
    ·have HQ:=Lib.hid (show p++[]=qtL l by
      have h1:=HP.out;rw [List.take_length] at h1;unfold qtL;rw [h1];rfl)
     have hap:(⟨p.toArray⟩:ByteArray)++⟨#[]⟩=⟨(p++[]).toArray⟩:=append_mk p [];go_wp2_with fail
     refine (kbare_any _).mono ?_;rintro e w1 ⟨rfl,hb1⟩;have HAP:=Lib.hid hap;clear hap;go_wp2_with fail
     rw [HAP.out,HQ.out];refine calls_gen ?_;intro W hW;have hb2:Below w1.heap.size w1 W:=by
      rw [hW];(repeat (first | (with_reducible exact Below.refl _ _) | (with_reducible refine Below.alloc ?_ ?_ _;rotate_left;focus (first | (simp;done) | (simp;omega))) | (with_reducible refine Below.setCell ?_ ?_ _;rotate_left;focus (first | (simp;done) | (simp;omega)))))
     have hb02:=hb1.trans (hb2.mono hb1.size);clear hW hb2;have hqt:(qtL l).length<=1000000:=by rw [←HQ.out];simp;omega
     have HS:=Lib.hid (says_text (qtL l) l W hqt (HLAW.out hl498 HB.out) (by omega) (HE.out.below hb02));clear hqt;refine HS.out.mono ?_;rintro e w2 ⟨rfl,hb3⟩;have hb03:=hb02.trans (hb3.mono hb02.size);clear hb1 hb02 hb3 HS;go_wp2
     go_ret
     exact ⟨by first | rfl | simp,hb03⟩
    ·have HQ:=Lib.hid (show p++[39]=qtL l by
      have h1:=HP.out;rw [List.take_length] at h1;unfold qtL;rw [h1];rfl)
     have hap:(⟨p.toArray⟩:ByteArray)++⟨#[39]⟩=⟨(p++[39]).toArray⟩:=append_mk p [39];go_wp2_with fail
     refine (kbare_any _).mono ?_;rintro e w1 ⟨rfl,hb1⟩;have HAP:=Lib.hid hap;clear hap;go_wp2_with fail
     rw [HAP.out,HQ.out];refine calls_gen ?_;intro W hW;have hb2:Below w1.heap.size w1 W:=by
      rw [hW];(repeat (first | (with_reducible exact Below.refl _ _) | (with_reducible refine Below.alloc ?_ ?_ _;rotate_left;focus (first | (simp;done) | (simp;omega))) | (with_reducible refine Below.setCell ?_ ?_ _;rotate_left;focus (first | (simp;done) | (simp;omega)))))
     have hb02:=hb1.trans (hb2.mono hb1.size);clear hW hb2;have hqt:(qtL l).length<=1000000:=by rw [←HQ.out];simp;omega
     have HS:=Lib.hid (says_text (qtL l) l W hqt (HLAW.out hl498 HB.out) (by omega) (HE.out.below hb02));clear hqt;refine HS.out.mono ?_;rintro e w2 ⟨rfl,hb3⟩;have hb03:=hb02.trans (hb3.mono hb02.size);clear hb1 hb02 hb3 HS;go_wp2
     go_ret
     exact ⟨by first | rfl | simp,hb03⟩
abbrev zI (c:UInt8):Int:=((c.toNat:Nat):Int)
theorem asc_size {c:UInt8} {t:Wd} (h:c.toNat<=127):sizeL (c::t)=1:=by
 have e1:¬(240<=c.toNat/\c.toNat<248):=by omega
 have e2:¬(224<=c.toNat/\c.toNat<240):=by omega
 have e3:¬(192<=c.toNat/\c.toNat<224):=by omega
 have e4:¬(128<=c.toNat):=by omega
 have e5:isPt (c.toNat:Int)=true:=by unfold isPt;simp;omega
 simp only [sizeL,List.headD_cons,e1,e2,e3,e4,if_false];simp [sizeBy,ptVal,least,e5]
theorem asc_dec {c:UInt8} {t:Wd} (h:c.toNat<=127):(decN (c::t)).1=c.toNat:=by
 unfold decN Lib.decodeN;simp;rw [if_pos (by omega)]
theorem asc_runes:∀ l:Wd,(∀ c∈l,c.toNat<=127)->runesL l=l.map zI/\(ptsL l).2=l.length
 | [],_=>by simp [runesL_nil,ptsL_nil]
 | c::t,h=>by
  have hc:=h c (by simp);obtain ⟨h1,h2⟩:=asc_runes t (fun x hx=>h x (by simp [hx]));have hs:=asc_size (t:=t) hc;rw [runesL_step (by simp) (by rw [hs];decide),ptsL_step (by simp) (by rw [hs];decide),hs,asc_dec hc];simp [h1,h2];omega
def vB:Wd->Wd
 | []=>[39]
 | c::t=>if c=39 then 39::39::vB t else c::vB t
def uB:Wd->Wd
 | []=>[]
 | c::t=>if isBr c=true then 39::c::vB t else if c=39 then 39::39::uB t else c::uB t
theorem br_39:isBr 39=false:=by decide
theorem qv_eq:∀ (l p:Wd),(l.foldl qStep (p,true)).1++(if (l.foldl qStep (p,true)).2 then [39] else [])=p++vB l
 | [],p=>by simp [vB]
 | c::t,p=>by
  rw [List.foldl_cons,show qStep (p,true) c=(p++(if c=39 then [39] else [])++[c],true) by simp [qStep],qv_eq t,vB];split
  ·next h=>subst h;simp
  ·simp
theorem qu_eq:∀ (l p:Wd),(l.foldl qStep (p,false)).1++(if (l.foldl qStep (p,false)).2 then [39] else [])=p++uB l
 | [],p=>by simp [uB]
 | c::t,p=>by
  rw [List.foldl_cons,uB];by_cases hb:isBr c=true
  ·have h39:c≠39:=fun e=>by rw [e,br_39] at hb;cases hb
   rw [show qStep (p,false) c=(p++[39]++[c],true) by simp [qStep,hb,h39],qv_eq t,if_pos hb];simp
  ·have hb':isBr c=false:=by simpa using hb
   rw [show qStep (p,false) c=(p++(if c=39 then [39] else [])++[c],false) by simp [qStep,hb'],qu_eq t,if_neg hb];split
   ·next h=>subst h;simp
   ·simp
theorem qt_eq (l:Wd):qtL l=uB l:=qu_eq l []
theorem vB_len:∀ l:Wd,(vB l).length<=2*l.length+1
 | []=>by simp [vB]
 | c::t=>by have:=vB_len t;rw [vB];split<;>simp<;>omega
theorem uB_len:∀ l:Wd,(uB l).length<=2*l.length+2
 | []=>by simp [uB]
 | c::t=>by
  have:=vB_len t;have:=uB_len t;rw [uB];split
  ·simp;omega
  ·split<;>simp<;>omega
theorem vB_asc:∀ l:Wd,(∀ c∈l,c.toNat<=127)->∀ c∈vB l,c.toNat<=127
 | [],_=>by simp [vB]
 | c::t,h=>by
  have h1:=vB_asc t (fun x hx=>h x (by simp [hx]));have h2:=h c (by simp);intro x hx;rw [vB] at hx;split at hx
  ·simp at hx;rcases hx with rfl | hx
   ·decide
   ·exact h1 x hx
  ·simp at hx;rcases hx with rfl | hx
   ·exact h2
   ·exact h1 x hx
theorem uB_asc:∀ l:Wd,(∀ c∈l,c.toNat<=127)->∀ c∈uB l,c.toNat<=127
 | [],_=>by simp [uB]
 | c::t,h=>by
  have h1:=uB_asc t (fun x hx=>h x (by simp [hx]));have h3:=vB_asc t (fun x hx=>h x (by simp [hx]));have h2:=h c (by simp);intro x hx;rw [uB] at hx;split at hx
  ·simp at hx;rcases hx with rfl | rfl | hx
   ·decide
   ·exact h2
   ·exact h3 x hx
  split at hx
  ·simp at hx;rcases hx with rfl | hx
   ·decide
   ·exact h1 x hx
  ·simp at hx;rcases hx with rfl | hx
   ·exact h2
   ·exact h1 x hx
theorem enc_asc128:∀ k:Fin 128,enc (k.val:Int)=[UInt8.ofNat k.val]:=by decide
theorem enc_z {c:UInt8} (h:c.toNat<=127):enc (zI c)=[c]:=by
 have:=enc_asc128 ⟨c.toNat,by omega⟩;simpa using this
theorem enc_zs:∀ l:Wd,(∀ c∈l,c.toNat<=127)->(l.map zI).flatMap enc=l
 | [],_=>rfl
 | c::t,h=>by
  rw [List.map_cons,List.flatMap_cons,enc_z (h c (by simp)),enc_zs t (fun x hx=>h x (by simp [hx]))];rfl
theorem z_ne {c d:UInt8} (h:c≠d):zI c≠zI d:=fun e=>h (UInt8.toNat.inj (by simp only [zI] at e;omega))
theorem quote_v:∀ t:Wd,quoteL ((vB t).map zI)=(t.map zI,(vB t).length)
 | []=>by simp [vB,quoteL,zI]
 | c::t=>by
  rw [vB];split
  ·next h =>
   subst h;have:=quote_v t;simp only [List.map_cons];rw [quoteL.eq_def];simp [zI,this]
  ·next h =>
   have h2:¬zI c=39:=z_ne (d:=39) h;rw [List.map_cons,quoteL.eq_def];simp [h2,quote_v t]
theorem next_of {rs:List Int} {i:Nat} {x:Int} {r:List Int} (h:rs.drop i=x::r):nextL rs i=x/\rs.drop (i+1)=r:=by
 have hl:i<rs.length:=by
  apply Classical.byContradiction;intro q;rw [List.drop_of_length_le (by omega)] at h
  cases h
 rw [quote_drop hl] at h
 cases h;exact ⟨rfl,rfl⟩
theorem txt_add (a x:Wd) (hx:x≠[]):(txtF a).addText x=txtF (a++x):=by
 unfold txtF;by_cases h:a=[]
 ·subst h;simp [Fo.addText,hx]
 ·simp [h,Fo.addText]
theorem go_quoted {rs:List Int} {m:Option MsgP}:∀ (l a:Wd) (n i:Nat),(∀ c∈l,c.toNat<=127)->rs.drop i=(uB l).map zI->l.length<n->i+(uB l).length=rs.length->msgGo rs m false n (txtF a) i = .ok (txtF (a++l),rs.length)
 | [],a,n,i,_,hd,hn,hl=>by
  obtain ⟨k,rfl⟩:∃ k,n=k+1:=⟨n - 1,by simp at hn;omega⟩;have e:i=rs.length:=by simpa [uB] using hl
  rw [msgGo,if_pos (.inl (next_end (by omega)))];simp [e]
 | c::t,a,n,i,h,hd,hn,hl=>by
  obtain ⟨k,rfl⟩:∃ k,n=k+1:=⟨n - 1,by simp at hn;omega⟩;have hc:=h c (by simp);have ht:∀ x∈t,x.toNat<=127:=fun x hx=>h x (by simp [hx])
  simp only [List.length_cons] at hn;rw [uB] at hd hl;by_cases hb:isBr c=true
  ·have h39:c≠39:=fun e=>by rw [e,br_39] at hb;cases hb
   rw [if_pos hb] at hd hl;obtain ⟨n0,hd1⟩:=next_of hd;obtain ⟨n1,hd2⟩:=next_of hd1;have n0':nextL rs i=39:=n0;have q2:¬zI c=39:=z_ne (d:=39) h39;have hsp:specialL (zI c) false=true:=by
    simp only [isBr,Bool.or_eq_true,beq_iff_eq] at hb;rcases hb with rfl | rfl<;>decide
   have hq:quoteL (rs.drop (i+1))=((c::t).map zI,(vB t).length+1):=by
    rw [hd1,List.map_cons,quoteL.eq_def];simp [q2,quote_v t]
   have htx:textT rs false i=(c::t,rs.length):=by
    unfold textT;rw [if_neg (by rw [n0'];simp),if_neg (by rw [n1];exact q2),if_neg (by rw [n1,hsp];simp),hq,enc_zs _ h];simp at hl ⊢;omega
   obtain ⟨k2,rfl⟩:∃ k2,k=k2+1:=⟨k - 1,by omega⟩;rw [msgGo,if_neg (by rw [n0'];decide),if_neg (by rw [n0'];decide),if_neg (by simp),htx,txt_add _ _ (by simp),msgGo,if_pos (.inl (next_end (Nat.le_refl _)))]
  ·rw [if_neg hb] at hd hl;by_cases h39:c=39
   ·subst h39;rw [if_pos rfl] at hd hl;obtain ⟨n0,hd1⟩:=next_of hd;obtain ⟨n1,hd2⟩:=next_of hd1;have n0':nextL rs i=39:=n0;have n1':nextL rs (i+1)=39:=n1;have htx:textT rs false i=([39],i+2):=by
     unfold textT;rw [if_neg (by rw [n0'];simp),if_pos n1'];rfl
    rw [msgGo,if_neg (by rw [n0'];decide),if_neg (by rw [n0'];decide),if_neg (by simp),htx,txt_add _ _ (by simp),go_quoted t (a++[39]) k (i+2) ht hd2 (by omega) (by simp at hl;omega)];simp
   ·rw [if_neg h39] at hd hl;obtain ⟨n0,hd1⟩:=next_of hd;simp only [isBr,Bool.or_eq_true,beq_iff_eq,not_or] at hb;have q1:¬zI c=123:=z_ne (d:=123) hb.1;have q2:¬zI c=125:=z_ne (d:=125) hb.2;have q3:¬zI c=39:=z_ne (d:=39) h39;have htx:textT rs false i=([c],i+1):=by
     unfold textT;rw [if_pos (by rw [n0];exact q3),n0,enc_z hc]
    rw [msgGo,if_neg (by rw [n0];simp only [zI] at q2 ⊢;omega),if_neg (by rw [n0];exact q1),if_neg (by simp),htx,txt_add _ _ (by simp),go_quoted t (a++[c]) k (i+1) ht hd1 (by omega) (by simp at hl;omega)];simp
theorem chk_txt (l:Wd):chkL (txtF l)=none:=by
 unfold txtF;split<;>rfl
theorem plain_law (l:Wd) (hl:l.length<=498) (ha:asciiL l=true):readP (qtL l) = .ok (txtF l):=by
 have h:∀ c∈l,c.toNat<=127:=fun c hc=>by
  have:=List.all_eq_true.1 ha c hc;have h2:c<=127:=by simpa using this
  exact h2
 obtain ⟨h1,h2⟩:=asc_runes (uB l) (uB_asc l h);have hlen:=uB_len l;have hg:=go_quoted (rs:=(uB l).map zI) (m:=some (msgP ((uB l).map zI) 4)) l [] ((uB l).length+1) 0 h rfl (by
  have:∀ l:Wd,l.length<=(uB l).length:=fun l=>by
   have hv:∀ l:Wd,l.length<=(vB l).length:=fun l=>by
    induction l with
    | nil=>simp
    | cons c t ih=>rw [vB];split<;>simp<;>omega
   induction l with
   | nil=>simp
   | cons c t ih =>
    have:=hv t;rw [uB];split
    ·simp;omega
    ·split<;>simp<;>omega
  have:=this l;omega) (by simp)
 have hp:parseL ((uB l).map zI) = .ok (txtF l,(uB l).length):=by
  unfold parseL;rw [msgP];rw [show (.nil:Fo)=txtF [] from rfl];rw [show ((uB l).map zI).length=(uB l).length by simp] at hg ⊢;dsimp only;rw [hg];show (if nextL _ _ = -1 then _ else _)=_;rw [if_pos (next_end (by simp))];rfl
 unfold readP parseR;rw [qt_eq,if_neg (by omega),if_neg (by omega),h1,hp];show (match chkL (txtF l) with | none=>_ | some e=>_)=_;rw [chk_txt]
end Go.Proofs.YthpldolmpinnhaaGreatDoor
