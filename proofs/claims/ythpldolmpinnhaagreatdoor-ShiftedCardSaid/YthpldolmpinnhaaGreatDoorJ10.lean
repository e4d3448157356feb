import Derived.Test.YthpldolmpinnhaaGreatDoorJ9
import Derived.OwnWalk
import Derived.Maps.OwnSet
import Derived.Maps.Views
import Derived.Test.YthpldolmpinnhaaGreatDoorShelf
namespace Go.Proofs.YthpldolmpinnhaaGreatDoor
open Go Go.RowKit
set_option maxRecDepth 10000
def catsL:List (List UInt8):=[[122,101,114,111],[111,110,101],[116,119,111],[102,101,119],[109,97,110,121],[111,116,104,101,114]]
theorem contains_cats (x:Wd):Lib.containsS (catsB.take 6) ⟨x.toArray⟩=decide (x∈catsL):=by
 have e:catsB.take 6=catsL.map (fun l=>(⟨l.toArray⟩:ByteArray)):=rfl;rw [e,Bool.eq_iff_iff,decide_eq_true_eq,Lib.containsS_iff,List.mem_map];constructor
 ·rintro ⟨y,hy,h2⟩;have h3:=congrArg (fun b:ByteArray=>b.data.toList) h2;simp at h3;rw [←h3];exact hy
 ·intro h;exact ⟨x,h,rfl⟩
theorem syn_category (x:Wd) (w:World) (h:NamesAt w):Calls Tryz.prog 239 #[strv x] w fun e w'=>e = .returned (.bool (decide (x∈catsL)))/\w=w':=by
 have HC:=Lib.hid (Tryz.slices_Contains_string 0 0 6 6 catsB ⟨x.toArray⟩ w (by decide) (by decide) (fun j hj=>by rw [Nat.zero_add];exact h j hj));rw [contains_cats] at HC;go_enter Tryz.func239,Tryz.ntmps239
 go_wp2_with fail
 refine HC.out.mono ?_;rintro e w' ⟨rfl,rfl⟩;go_wp2
 go_ret
 exact ⟨rfl,rfl⟩
def quoteL:List Int->List Int×Nat
 | []=>([],0)
 | c::t=>if c=39 then
   match t with
   | []=>([],1)
   | d::u=>if d=39 then (39::(quoteL u).1,(quoteL u).2+2) else ([],1)
  else (c::(quoteL t).1,(quoteL t).2+1)
def textT (rs:List Int) (num:Bool) (i:Nat):Wd×Nat :=
 if nextL rs i≠39 then (enc (nextL rs i),i+1)
 else if nextL rs (i+1)=39 then (enc 39,i+2)
 else if specialL (nextL rs (i+1)) num=false then (enc 39,i+1)
 else ((quoteL (rs.drop (i+1))).1.flatMap enc,i+1+(quoteL (rs.drop (i+1))).2)
theorem elem_runes:Elem Tryz.prog 147 21 (.int .i32 0) 1 4 :=
 ⟨Tryz.underlying147,info_parts (by kernel_rfl),rfl,by decide,by decide⟩
theorem quote_end {rs:List Int} {j:Nat} (h:rs.length<=j):quoteL (rs.drop j)=([],0):=by rw [List.drop_of_length_le h,quoteL]
theorem quote_drop {rs:List Int} {j:Nat} (h:j<rs.length):rs.drop j=nextL rs j::rs.drop (j+1):=by
 rw [List.drop_eq_getElem_cons h];unfold nextL;rw [List.getD_eq_getElem?_getD,List.getElem?_eq_getElem h];rfl
theorem quote_more {rs:List Int} {j:Nat} (h:j<rs.length) (hq:nextL rs j≠39):quoteL (rs.drop j)=(nextL rs j::(quoteL (rs.drop (j+1))).1,(quoteL (rs.drop (j+1))).2+1):=by
 rw [quote_drop h,quoteL.eq_def];dsimp only;rw [if_neg hq]
theorem quote_two {rs:List Int} {j:Nat} (h:j<rs.length) (hq:nextL rs j=39) (h2:nextL rs (j+1)=39):quoteL (rs.drop j)=(39::(quoteL (rs.drop (j+2))).1,(quoteL (rs.drop (j+2))).2+2):=by
 have hlt:j+1<rs.length:=by
  apply Classical.byContradiction;intro hc;rw [next_end (by omega)] at h2
  cases h2
 rw [quote_drop h,quote_drop hlt,quoteL.eq_def];dsimp only;rw [if_pos hq,if_pos h2]
theorem quote_stop {rs:List Int} {j:Nat} (h:j<rs.length) (hq:nextL rs j=39) (h2:nextL rs (j+1)≠39):quoteL (rs.drop j)=([],1):=by
 rw [quote_drop h,quoteL.eq_def];dsimp only;rw [if_pos hq];by_cases hlt:j+1<rs.length
 ·rw [quote_drop hlt];dsimp only;rw [if_neg h2]
 ·rw [List.drop_of_length_le (by omega)]
theorem own_but {w w':World} {p base size n:Nat} {e:TypeId} {v:Value} {xs:List Value} (h:w.ownsRow base e size v n xs) (hb:But p w w') (hp:p<base):w'.ownsRow base e size v n xs :=
 h.kept (row:=some p) ⟨hb.os,hb.tape,hb.output,hb.size,fun i hi hn=>hb.block i hi (fun e=>hn (by rw [e]))⟩ (by
  cases hv:v.ownBlock with
  | none=>exact .inl rfl
  | some g=>exact .inr (fun e=>by have:=(h.lt g hv).1;cases e;omega))
theorem quote_len:∀ (n:Nat) (l:List Int),l.length<=n->(quoteL l).2<=l.length/\(quoteL l).1.length<=l.length:=by
 intro n;induction n with
 | zero =>
  intro l h;have:l=[]:=List.eq_nil_of_length_eq_zero (by omega);subst this;simp [quoteL]
 | succ n ih =>
  intro l h
  cases l with
  | nil=>simp [quoteL]
  | cons c t =>
   rw [quoteL.eq_def];dsimp only;by_cases hc:c=39
   ·rw [if_pos hc]
    cases t with
    | nil=>simp
    | cons d u =>
     dsimp only;by_cases hd:d=39
     ·rw [if_pos hd];have:=ih u (by simp at h;omega);simp;omega
     ·rw [if_neg hd];simp
   ·rw [if_neg hc];have:=ih t (by simp at h;omega);simp;omega
theorem text_end {rs:List Int} {num:Bool} {i:Nat} (h:i<rs.length):i<(textT rs num i).2/\(textT rs num i).2<=rs.length:=by
 unfold textT;split
 ·exact ⟨by show i<i+1;omega,by show i+1<=_;omega⟩
 split
 ·next h2 =>
  have:i+1<rs.length:=by
   apply Classical.byContradiction;intro hc;rw [next_end (by omega)] at h2
   cases h2
  exact ⟨by show i<i+2;omega,by show i+2<=_;omega⟩
 split
 ·exact ⟨by show i<i+1;omega,by show i+1<=_;omega⟩
 ·have:=(quote_len _ (rs.drop (i+1)) (Nat.le_refl _)).1;rw [List.length_drop] at this;exact ⟨by show i<i+1+_;omega,by show i+1+_<=_;omega⟩
theorem runes_text {w:World} {base:Nat} {v:Value} {acc:List Int} (h:w.ownsRow base 21 1 v acc.length (acc.map (Value.int .i32))) :
  (convert 147 262 v).run Tryz.prog w = .ok (strv (acc.flatMap enc)) w:=by
 rcases h.2 with ⟨hv,hn⟩ | ⟨g,cap,cur,hv,_⟩
 ·have:acc=[]:=List.eq_nil_of_length_eq_zero hn;subst this;rw [hv,run_convert_runes_nil w _ _ 21 _ _ Tryz.underlying147 Tryz.underlying21 Tryz.underlying262];rfl
 ·subst hv;have hc:=run_convert_runes (P:=Tryz.prog) w 147 262 21 ⟨g,0,none⟩ acc.length cap acc (Nat.le_refl _) Tryz.underlying147 Tryz.underlying21 Tryz.underlying262 (fun j hj=>by
   rw [addr_add0,h.cellAt j (by omega)];simp [List.getD_eq_getElem?_getD,hj])
  rw [List.take_length,runesBytes_enc] at hc;exact hc
set_option maxHeartbeats 8000000 in
theorem syn_text (p:Nat) (rs:List Int) (i d:Nat) (num:Bool) (w:World) (h:SynAt p rs i d w) (hi:i<rs.length) :
  Calls Tryz.prog 158 #[.pointer (some ⟨p,0,none⟩),.bool num] w (StepQ p rs d (strv (textT rs num i).1) (textT rs num i).2 w):=by
 have HH:=Lib.hid h;have HN:=Lib.hid (syn_next p rs i d w h);have hL:=h.len;have hplt:=h.lt;obtain ⟨T,hT⟩:∃ T,textT rs num i=T:=⟨_,rfl⟩;rw [hT];have HT:=Lib.hid hT;obtain ⟨T1,T2⟩:=T;dsimp only;obtain ⟨q,hq⟩:∃ q,nextL rs i=q:=⟨_,rfl⟩;rw [hq] at HN;have HQ:=Lib.hid hq;clear h hT hq;go_enter Tryz.func158,Tryz.ntmps158
 go_wp2_with fail
 refine HN.out.mono ?_;rintro e w1 ⟨rfl,hb1⟩;have hs1:=HH.out.below hb1;have h5:=hs1.at_;have h7:=hs1.z1;have hmv:=hs1.move (i+1) (by omega);have HM:=Lib.hid (show SynAt p rs (i+1) d (w1.setCell ⟨p,1,none⟩ (.int .i64 ((i:Int)+1))) by rw [show (i:Int)+1=((i+1:Nat):Int) by omega];exact hmv);have hbut:But p w (w1.setCell ⟨p,1,none⟩ (.int .i64 ((i:Int)+1))):=(But.of hb1).setIn 1 _;obtain ⟨W,hW⟩:∃ W,w1.setCell ⟨p,1,none⟩ (.int .i64 ((i:Int)+1))=W:=⟨_,rfl⟩;rw [hW] at HM hbut;have HW:=Lib.hid hW;clear hs1 hmv hb1 HN hW;by_cases hq39:q=39
 ·have hq2:(q !=39)=false:=by rw [hq39];rfl
  have hT2:=HT.out;unfold textT at hT2;rw [if_neg (by rw [HQ.out,hq39];simp)] at hT2;have HT2:=Lib.hid hT2;have htake:=syn_take p rs (i+1) d 39 W HM.out (by decide);clear hT2 HQ;subst hq39;by_cases hn39:nextL rs (i+1)=39
  ·rw [show (nextL rs (i+1)==39)=true by simpa using hn39,if_pos hn39] at htake;have HTK:=Lib.hid htake;have HE:=Lib.hid (show (enc 39,i+2)=(T1,T2) by have h:=HT2.out;rw [if_pos hn39] at h;exact h);clear htake hn39;go_wp2_with fail
   rw [HW.out];refine HTK.out.mono ?_;rintro e w2 ⟨rfl,hs2,hb2⟩;have HS2:=Lib.hid hs2;clear hs2;go_wp2
   go_ret
   have he:=HE.out
   cases he;exact ⟨rfl,HS2.out,hbut.trans hb2⟩
  ·rw [show (nextL rs (i+1)==39)=false by simpa using hn39,if_neg hn39] at htake;have HTK:=Lib.hid htake;have hT3:=HT2.out;rw [if_neg hn39] at hT3;have HT3:=Lib.hid hT3;obtain ⟨sp,hsp⟩:∃ b,specialL (nextL rs (i+1)) num=b:=⟨_,rfl⟩;have HSP:=Lib.hid hsp;clear htake hT3 hsp HT2;go_wp2_with fail
   rw [HW.out];refine HTK.out.mono ?_;rintro e w2 ⟨rfl,hs2,hb2⟩;have HS2:=Lib.hid hs2;have hbut2:=hbut.trans hb2;clear hs2 hb2 HTK HW HM hbut;go_wp2_with fail
   refine (syn_next p rs (i+1) d w2 HS2.out).mono ?_;rintro e w3 ⟨rfl,hb3⟩;have HS3:=Lib.hid (HS2.out.below hb3);have hbut3:=hbut2.below hb3;clear hb3 hbut2 HS2;go_wp2_with fail
   refine (syn_special (nextL rs (i+1)) num w3).mono ?_;rintro e w' ⟨rfl,rfl⟩;rw [HSP.out]
   cases sp
   ·have HE:=Lib.hid (show (enc 39,i+1)=(T1,T2) by have h:=HT3.out;rw [if_pos HSP.out] at h;exact h);go_wp2
    go_ret
    have he:=HE.out
    cases he;exact ⟨rfl,HS3.out,hbut3⟩
   ·have HE:=Lib.hid (show ((quoteL (rs.drop (i+1))).1.flatMap enc,i+1+(quoteL (rs.drop (i+1))).2)=(T1,T2) by have h:=HT3.out;rw [if_neg (by rw [HSP.out];simp)] at h;exact h);clear HT3 HSP HT hn39;go_wp2_with fail
    obtain ⟨wq,hwq⟩:∃ x,x=w3:=⟨_,rfl⟩;obtain ⟨E1,hE1⟩:∃ x,(quoteL (rs.drop (i+1))).1=x:=⟨_,rfl⟩;obtain ⟨E2,hE2⟩:∃ x,i+1+(quoteL (rs.drop (i+1))).2=x:=⟨_,rfl⟩;have HE1:=Lib.hid hE1;have HE2:=Lib.hid hE2;clear hE1 hE2;go_loopw [5,6] (fun rv tv wr=>∃ (j:Nat) (r:Int) (acc:List Int),j<=rs.length/\rv = .int .i32 r/\SynAt p rs j d wr/\But p w wr/\wr.ownsRow w.heap.size 21 1 tv acc.length (acc.map (Value.int .i32))/\acc.length<=j/\acc++(quoteL (rs.drop j)).1=E1/\j+(quoteL (rs.drop j)).2=E2) (fun _ _ wr=>rs.length - atOf p wr)
    case atStart=>exact ⟨i+1,39,[],by omega,rfl,HS3.out,hbut3,World.ownsRow_nil _ _ _ _,by simp,HE1.out,HE2.out⟩
    case round =>
     obtain ⟨j,r,acc,hj,rfl,hs,hbw,hown,hal,ha1,ha2⟩:=hrel;have HS:=Lib.hid hs;have HO:=Lib.hid hown;have HA1:=Lib.hid ha1;have HA2:=Lib.hid ha2;obtain ⟨ta,tc,rfl⟩:=own_slice hown;clear hs hown ha1 ha2;go_wp2_with fail
     refine (syn_next p rs j d wr HS.out).mono ?_;rintro e w4 ⟨rfl,hb4⟩;have hs4:=HS.out.below hb4;have HS4:=Lib.hid hs4;have HO4:=Lib.hid (own_but HO.out (But.of (p:=p) hb4) hplt);have hbw4:=hbw.below hb4;clear hs4 hb4 hbw;by_cases hend:j<rs.length
     ·obtain ⟨c,hc⟩:∃ c,nextL rs j=c:=⟨_,rfl⟩;rw [hc];have hcp:0<=c:=by
       rw [←hc];unfold nextL;rw [List.getD_eq_getElem?_getD,List.getElem?_eq_getElem hend];exact HS4.out.pos _ (List.getElem_mem hend)
      have hc1:c≠-1:=by omega
      have HC:=Lib.hid hc;clear hc;go_wp2_with fail
      refine (syn_next p rs j d w4 HS4.out).mono ?_;rintro e w5 ⟨rfl,hb5⟩;rw [HC.out];have hs5:=HS4.out.below hb5;have HO5:=Lib.hid (own_but HO4.out (But.of (p:=p) hb5) hplt);have hbw5:=hbw4.below hb5;have g5:=hs5.at_;have g7:=hs5.z1;have hmv:=hs5.move (j+1) (by omega);have hM:SynAt p rs (j+1) d (w5.setCell ⟨p,1,none⟩ (.int .i64 ((j:Int)+1))):=by rw [show (j:Int)+1=((j+1:Nat):Int) by omega];exact hmv
      have hO6:=own_but HO5.out (But.set p w5 1 (.int .i64 ((j:Int)+1))) hplt;have hbw6:But p w (w5.setCell ⟨p,1,none⟩ (.int .i64 ((j:Int)+1))):=hbw5.setIn 1 _;obtain ⟨W6,hW6⟩:∃ W,w5.setCell ⟨p,1,none⟩ (.int .i64 ((j:Int)+1))=W:=⟨_,rfl⟩;rw [hW6] at hM hO6 hbw6;have HM6:=Lib.hid hM;have HO6:=Lib.hid hO6;have HW6:=Lib.hid hW6;clear hs5 hmv hM hO6 hb5 hbw5 hW6;by_cases hc39:c=39
      ·have hq3:(c==39)=true:=by rw [hc39];rfl
       have htk:=syn_take p rs (j+1) d 39 W6 HM6.out (by decide);by_cases hn2:nextL rs (j+1)=39
       ·rw [show (nextL rs (j+1)==39)=true by simpa using hn2,if_pos hn2] at htk;have HTK2:=Lib.hid htk;have HQQ:=Lib.hid (quote_two hend (HC.out.trans hc39) hn2);have hj2:j+1<rs.length:=by
         apply Classical.byContradiction;intro hcc;rw [next_end (by omega)] at hn2
         cases hn2
        subst hc39;clear htk hn2;go_wp2_with fail
        rw [HW6.out];refine HTK2.out.mono ?_;rintro e w7 ⟨rfl,hs7,hb7⟩;have HS7:=Lib.hid hs7;have HO7:=Lib.hid (own_but HO6.out hb7 hplt);have hbw7:=hbw6.trans hb7;have hsz7:w.heap.size<=w7.heap.size:=hbw7.size;clear hs7 hb7 HTK2;go_wp2_with (first | (at_builtin;refine app_own elem_runes rfl _ _ rfl w.heap.size _ acc.length (acc.map (Value.int .i32)) rfl (HO7.out.alloc _) ⟨w7.heap.size,0,none⟩ 1 1 [.int .i32 39] rfl rfl ?a1 ?a2 ?a3 ?a4 ?_) | fail)
        case a1=>exact cells_one (cell_made _ _ _ _ _)
        case a2 =>
         intro u hu;simp at hu;subst hu;rfl
        case a3=>have:=HS7.out.len;omega
        case a4=>simp;omega
        intro v8 w8 ho8 hg8;have hrow8:∀ q,(Value.slice ta acc.length tc).ownBlock=some q->w.heap.size<=q:=fun q hq=>(HO7.out.lt q hq).1
        have hbw8:But p w w8:=(hbw7.below ((Below.refl _ _).alloc (Nat.le_refl _) _)).grown hg8 hrow8;have hS8:=(HS7.out.below ((Below.refl _ _).alloc (Nat.le_refl _) _)).grown hg8 (fun q hq=>by have:=hrow8 q hq;omega);have HS8:=Lib.hid hS8;have HO8:=Lib.hid (show w8.ownsRow w.heap.size 21 1 v8 (acc++[39]).length ((acc++[39]).map (Value.int .i32)) by simpa using ho8);clear ho8 hg8 hS8;go_wp2
        go_roundw
        case rel=>exact ⟨j+2,39,acc++[39],by omega,rfl,HS8.out,hbw8,HO8.out,by simp;omega,by rw [←HA1.out,HQQ.out];simp,by rw [←HA2.out,HQQ.out];omega⟩
        case measure=>rw [atOf_syn HS8.out,atOf_syn HS.out];omega
       ·rw [show (nextL rs (j+1)==39)=false by simpa using hn2,if_neg hn2] at htk;have HTK2:=Lib.hid htk;have hqq:=quote_stop hend (HC.out.trans hc39) hn2;have HF1:=Lib.hid (show acc=E1 by rw [←HA1.out,hqq];simp);have HF2:=Lib.hid (show j+1=E2 by rw [←HA2.out,hqq]);subst hc39;clear htk hn2 hqq;go_wp2_with fail
        rw [HW6.out];refine HTK2.out.mono ?_;rintro e w7 ⟨rfl,hs7,hb7⟩;have HS7:=Lib.hid hs7;have HO7:=Lib.hid (own_but HO6.out hb7 hplt);have hbw7:=hbw6.trans hb7;have hcv:=runes_text HO7.out;clear hs7 hb7 HTK2;go_wp2
        go_ret
        have he:=HE.out;rw [HE1.out,HE2.out] at he
        cases he;exact ⟨by rw [HF1.out];rfl,by rw [←HF2.out];exact HS7.out,hbw7⟩
      ·have hq3:(c==39)=false:=by simpa using hc39
       have HQQ:=Lib.hid (quote_more hend (fun e=>hc39 (HC.out.symm.trans e)));have hsz6:w.heap.size<=W6.heap.size:=hbw6.size;have hW6e:=HW6.out;subst hW6e;go_wp2_with (first | (at_builtin;refine app_own elem_runes rfl _ _ rfl w.heap.size _ acc.length (acc.map (Value.int .i32)) rfl (HO6.out.alloc _) ⟨w5.heap.size,0,none⟩ 1 1 [.int .i32 c] rfl rfl ?a1 ?a2 ?a3 ?a4 ?_) | fail)
       case a1 =>
        have e:(w5.setCell ⟨p,1,none⟩ (.int .i64 ((j:Int)+1))).heap.size=w5.heap.size:=by simp [World.setCell]
        have h:=cell_made (w5.setCell ⟨p,1,none⟩ (.int .i64 ((j:Int)+1))) #[.int .i32 c] 21 (0,0) 0;rw [e] at h;exact cells_one h
       case a2 =>
        intro u hu;simp at hu;subst hu;rfl
       case a3=>have:=HM6.out.len;omega
       case a4=>exact Nat.le_trans hsz6 (by simp)
       intro v8 w8 ho8 hg8;have hrow8:∀ q,(Value.slice ta acc.length tc).ownBlock=some q->w.heap.size<=q:=fun q hq=>(HO6.out.lt q hq).1
       have hbw8:But p w w8:=(hbw6.below ((Below.refl _ _).alloc (Nat.le_refl _) _)).grown hg8 hrow8;have hS8:=(HM6.out.below ((Below.refl _ _).alloc (Nat.le_refl _) _)).grown hg8 (fun q hq=>by have:=hrow8 q hq;omega);have HS8:=Lib.hid hS8;have HO8:=Lib.hid (show w8.ownsRow w.heap.size 21 1 v8 (acc++[c]).length ((acc++[c]).map (Value.int .i32)) by simpa using ho8);clear ho8 hg8 hS8;go_wp2
       go_roundw
       case rel=>exact ⟨j+1,c,acc++[c],by omega,rfl,HS8.out,hbw8,HO8.out,by simp;omega,by rw [←HA1.out,HQQ.out,HC.out];simp,by rw [←HA2.out,HQQ.out];omega⟩
       case measure=>rw [atOf_syn HS8.out,atOf_syn HS.out];omega
     ·have HX:=Lib.hid (quote_end (rs:=rs) (j:=j) (by omega));have HNE:=Lib.hid (next_end (rs:=rs) (i:=j) (by omega));have hcv:=runes_text HO4.out;rw [HNE.out];go_wp2
      go_ret
      have he:=HE.out;rw [HE1.out,HE2.out] at he;have e1:=HA1.out;have e2:=HA2.out;rw [HX.out] at e1 e2
      cases he;exact ⟨by rw [←e1];first | (simp;done) | (simp;rfl),by rw [←e2];exact HS4.out,hbw4⟩
 ·have hq2:(q !=39)=true:=by simpa using hq39
  have hT2:=HT.out;unfold textT at hT2;rw [if_pos (by rw [HQ.out];exact hq39)] at hT2;have HT2:=Lib.hid hT2;clear hT2;go_wp2
  go_ret
  have h:=HT2.out;rw [HQ.out] at h
  cases h;exact ⟨rfl,by rw [HW.out];exact HM.out,by rw [HW.out];exact hbut⟩
def selW:Wd:=[115,101,108,101,99,116]
def pluW:Wd:=[112,108,117,114,97,108]
def ordW:Wd:=[115,101,108,101,99,116,111,114,100,105,110,97,108]
def formL (m:Wd):Option Nat:=if m=selW then some 0 else if m=pluW then some 1 else if m=ordW then some 2 else none
def FormsAt (w:World) (b:Nat):Prop :=
 ∃ D:DataW Unit,w.ownsMap Tryz.prog 9 (plainElem Tryz.prog 178) b 3 D/\∀ m:Wd,Maps.has D (.string m)=(formL m).isSome/\D.atKey (.string m) (.lit (.int .i64 0)) = .lit (.int .i64 (((formL m).getD 0:Nat):Int))
theorem FormsAt.look {w:World} {b:Nat} (h:FormsAt w b) (m:Wd) (hm:m.length<=5000000) :
  (Instr.lookup 321 (.map (some b)) (strv m) true).run Tryz.prog w = .ok (.tuple #[.int .i64 (((formL m).getD 0:Nat):Int),.bool (formL m).isSome]) w:=by
 obtain ⟨D,h1,h3⟩:=h;obtain ⟨v,ps,hrun,hv⟩:=h1.look_ok (Maps.string_keyed Tryz.underlying9) Tryz.underlying321 (z := .int .i64 0) (by first | rfl | simp [go_sem]) (plainElem_int Tryz.underlying178 (by decide))
  (key:=strv m) (WideMaps.keyOf_string_mk (s:=⟨m.toArray⟩) Tryz.underlying9 (by rw [size_mk];unfold maxLen;omega))
 rw [toList_mk] at hrun hv;rw [(h3 m).1] at hrun;rw [(h3 m).2] at hv;obtain ⟨c,rfl,hc,_⟩:=plainElem_int_inv Tryz.underlying178 hv;simp only [Prod.mk.injEq,DataW.lit.injEq,Lit.int.injEq] at hc;rw [hrun,←hc.1.2]
set_option maxHeartbeats 2000000 in
theorem forms_any (w:World):Calls Tryz.prog 201 #[] w fun e w'=>(∃ b,e = .returned (.map (some b))/\FormsAt w' b)/\Below w.heap.size w w':=by
 have hmm:=@run_makeMap Tryz.prog;go_enter Tryz.func201,Tryz.ntmps201
 go_wp2
 obtain ⟨w1,hrun1,hown1,hg1⟩:=(World.ownsMap_made (H:=Unit) w Tryz.prog 9 (plainElem Tryz.prog 178)).update (Maps.string_keyed Tryz.underlying9) Tryz.underlying321 (by unfold maxLen;omega) (WideMaps.keyOf_string_mk (s:=⟨#[115,101,108,101,99,116]⟩) Tryz.underlying9 (by decide)) (plainElem_int Tryz.underlying178 (q := .i64) (a:=0) (by decide));rw [hrun1];simp only [Result.andThen];clear hrun1;go_wp2
 obtain ⟨w2,hrun2,hown2,hg2⟩:=(hown1).update (Maps.string_keyed Tryz.underlying9) Tryz.underlying321 (by unfold maxLen;omega) (WideMaps.keyOf_string_mk (s:=⟨#[112,108,117,114,97,108]⟩) Tryz.underlying9 (by decide)) (plainElem_int Tryz.underlying178 (q := .i64) (a:=1) (by decide));rw [hrun2];simp only [Result.andThen];clear hrun2;go_wp2
 obtain ⟨w3,hrun3,hown3,hg3⟩:=(hown2).update (Maps.string_keyed Tryz.underlying9) Tryz.underlying321 (by unfold maxLen;omega) (WideMaps.keyOf_string_mk (s:=⟨#[115,101,108,101,99,116,111,114,100,105,110,97,108]⟩) Tryz.underlying9 (by decide)) (plainElem_int Tryz.underlying178 (q := .i64) (a:=2) (by decide));rw [hrun3];simp only [Result.andThen];clear hrun3;go_wp2
 go_ret
 have hb:Below w.heap.size w w3:=((((Below.refl _ _).alloc (Nat.le_refl _) _).grown hg1 (by simp) (fun q hq=>by cases hq;exact Nat.le_refl _)).grown hg2 (Nat.le_trans (by simp) hg1.size) (fun q hq=>by cases hq;exact Nat.le_refl _)).grown hg3 (Nat.le_trans (Nat.le_trans (by simp) hg1.size) hg2.size) (fun q hq=>by cases hq;exact Nat.le_refl _);refine ⟨⟨_,rfl,_,hown3,fun m=>?_⟩,hb⟩;have hm:Maps.IsMap (DataW.map []:DataW Unit):=⟨_,rfl⟩;have k1:WideAt.IsKeyLit (.string selW):=trivial;have k2:WideAt.IsKeyLit (.string pluW):=trivial;have k3:WideAt.IsKeyLit (.string ordW):=trivial;show Maps.has ((((DataW.map []:DataW Unit).put (.string selW) (.lit (.int .i64 0))).put (.string pluW) (.lit (.int .i64 1))).put (.string ordW) (.lit (.int .i64 2))) (.string m)=_/\((((DataW.map []:DataW Unit).put (.string selW) (.lit (.int .i64 0))).put (.string pluW) (.lit (.int .i64 1))).put (.string ordW) (.lit (.int .i64 2))).atKey (.string m) (.lit (.int .i64 0))=_;have h1:=hm.put (.string selW) (.lit (.int .i64 0));have h2:=h1.put (.string pluW) (.lit (.int .i64 1));have ne:∀ {a b:Wd},a≠b->(Lit.string a) ≠ .string b:=fun h e=>h (by cases e;rfl)
 unfold formL;by_cases e3:m=ordW
 ·subst e3;rw [Maps.has_put_same h2 k3,Maps.atKey_put_same h2 k3,if_neg (by decide),if_neg (by decide),if_pos rfl];exact ⟨rfl,rfl⟩
 ·rw [Maps.has_put_other (ne e3),Maps.atKey_put_other (ne e3)];by_cases e2:m=pluW
  ·subst e2;rw [Maps.has_put_same h1 k2,Maps.atKey_put_same h1 k2,if_neg (by decide),if_pos rfl];exact ⟨rfl,rfl⟩
  ·rw [Maps.has_put_other (ne e2),Maps.atKey_put_other (ne e2)];by_cases e1:m=selW
   ·subst e1;rw [Maps.has_put_same hm k1,Maps.atKey_put_same hm k1,if_pos rfl];exact ⟨rfl,rfl⟩
   ·rw [Maps.has_put_other (ne e1),Maps.atKey_put_other (ne e1),if_neg e1,if_neg e2,if_neg e3];exact ⟨rfl,rfl⟩
inductive Fo where
 | nil:Fo
 | text (t:Wd) (r:Fo):Fo
 | hash (r:Fo):Fo
 | put (name:Wd) (pl:Nat) (r:Fo):Fo
 | num (name:Wd) (pl:Nat) (r:Fo):Fo
 | br (name:Wd) (pl form:Nat) (off:Wd) (close:Nat) (bs r:Fo):Fo
 | leg (key:Wd) (pl:Nat) (msg r:Fo):Fo
namespace Fo
def len:Fo->Nat
 | nil=>0
 | text _ r=>r.len+1
 | hash r=>r.len+1
 | put _ _ r=>r.len+1
 | num _ _ r=>r.len+1
 | br _ _ _ _ _ _ r=>r.len+1
 | leg _ _ _ r=>r.len+1
def app:Fo->Fo->Fo
 | nil,g=>g
 | text t r,g=>text t (r.app g)
 | hash r,g=>hash (r.app g)
 | put n a r,g=>put n a (r.app g)
 | num n a r,g=>num n a (r.app g)
 | br n a f o c b r,g=>br n a f o c b (r.app g)
 | leg k a m r,g=>leg k a m (r.app g)
theorem len_app:∀ f g:Fo,(f.app g).len=f.len+g.len
 | nil,g=>by simp [app,len]
 | text t r,g=>by simp [app,len,len_app r g];omega
 | hash r,g=>by simp [app,len,len_app r g];omega
 | put n a r,g=>by simp [app,len,len_app r g];omega
 | num n a r,g=>by simp [app,len,len_app r g];omega
 | br n a f o c b r,g=>by simp [app,len,len_app r g];omega
 | leg k a m r,g=>by simp [app,len,len_app r g];omega
def addText:Fo->Wd->Fo
 | nil,t=>text t nil
 | text s nil,t=>text (s++t) nil
 | text s r,t=>text s (r.addText t)
 | hash r,t=>hash (r.addText t)
 | put n a r,t=>put n a (r.addText t)
 | num n a r,t=>num n a (r.addText t)
 | br n a f o c b r,t=>br n a f o c b (r.addText t)
 | leg k a m r,t=>leg k a m (r.addText t)
def lastText:Fo->Option Wd
 | nil=>none
 | text s nil=>some s
 | text _ r=>r.lastText
 | hash r=>r.lastText
 | put _ _ r=>r.lastText
 | num _ _ r=>r.lastText
 | br _ _ _ _ _ _ r=>r.lastText
 | leg _ _ _ r=>r.lastText
def isMsg:Fo->Bool
 | nil=>true
 | text _ r=>r.isMsg
 | hash r=>r.isMsg
 | put _ _ r=>r.isMsg
 | num _ _ r=>r.isMsg
 | br _ _ _ _ _ _ r=>r.isMsg
 | leg _ _ _ _=>false
end Fo
def offV (o:Wd):Nat:=o.foldl (fun v c=>10*v+(c.toNat - 48)) 0
def RowC (lo hi:Nat) (w:World) (a:Option Addr) (vs:List Value):Prop:=∀ j (h:j<vs.length),∃ g o,a=some ⟨g,o,none⟩/\lo<=g/\g<hi/\w.cell? ⟨g,o+j,none⟩=some vs[j]
def NodesV (lo hi:Nat) (w:World):List Value->Fo->Prop
 | vs,.nil=>vs=[]
 | vs,.text t r=>∃ vt,vs = .iface 262 (strv t)::vt/\NodesV lo hi w vt r
 | vs,.hash r=>∃ vt,vs = .iface 264 (.agg #[])::vt/\NodesV lo hi w vt r
 | vs,.put n a r=>∃ vt b,vs = .iface 172 (.pointer (some ⟨b,0,none⟩))::vt/\lo<=b/\b<hi/\w.cell? ⟨b,0,none⟩=some (strv n)/\w.cell? ⟨b,1,none⟩=some (.int .i64 a)/\NodesV lo hi w vt r
 | vs,.num n a r=>∃ vt b,vs = .iface 175 (.pointer (some ⟨b,0,none⟩))::vt/\lo<=b/\b<hi/\w.cell? ⟨b,0,none⟩=some (strv n)/\w.cell? ⟨b,1,none⟩=some (.int .i64 a)/\NodesV lo hi w vt r
 | vs,.br n a f o c bs r=>∃ vt b ba bc ws,vs = .iface 177 (.pointer (some ⟨b,0,none⟩))::vt/\lo<=b/\b<hi/\w.cell? ⟨b,0,none⟩=some (strv n)/\w.cell? ⟨b,1,none⟩=some (.int .i64 a) /\
   w.cell? ⟨b,2,none⟩=some (.int .i64 f)/\w.cell? ⟨b,3,none⟩=some (.int .i64 (offV o))/\w.cell? ⟨b,4,none⟩=some (.slice ba bs.len bc)/\w.cell? ⟨b,5,none⟩=some (.int .i64 c) /\
   RowC lo hi w ba ws/\NodesV lo hi w ws bs/\NodesV lo hi w vt r
 | vs,.leg k a m r=>∃ vt ma mc ws,vs=strv k :: .int .i64 a :: .slice ma m.len mc::vt/\RowC lo hi w ma ws/\NodesV lo hi w ws m/\NodesV lo hi w vt r
theorem RowC.keep {lo hi lo' hi':Nat} {w w':World} {a:Option Addr} {vs:List Value} (h:RowC lo hi w a vs) (hk:KeepR lo hi w w') (h1:lo'<=lo) (h2:hi<=hi'):RowC lo' hi' w' a vs:=fun j hj=>by
 obtain ⟨g,o,e1,e2,e3,e4⟩:=h j hj;exact ⟨g,o,e1,by omega,by omega,(hk.cell (p:=⟨g,o+j,none⟩) e2 e3).trans e4⟩
theorem NodesV.keep {lo hi lo' hi':Nat} {w w':World} (hk:KeepR lo hi w w') (h1:lo'<=lo) (h2:hi<=hi'):∀ (f:Fo) (vs:List Value),NodesV lo hi w vs f->NodesV lo' hi' w' vs f
 | .nil,vs,h=>h
 | .text t r,vs,h=>by
  obtain ⟨vt,e,hr⟩:=h;exact ⟨vt,e,NodesV.keep hk h1 h2 r vt hr⟩
 | .hash r,vs,h=>by
  obtain ⟨vt,e,hr⟩:=h;exact ⟨vt,e,NodesV.keep hk h1 h2 r vt hr⟩
 | .put n a r,vs,h=>by
  obtain ⟨vt,b,e,l1,l2,c0,c1,hr⟩:=h;exact ⟨vt,b,e,by omega,by omega,(hk.cell (p:=⟨b,0,none⟩) l1 l2).trans c0,(hk.cell (p:=⟨b,1,none⟩) l1 l2).trans c1,NodesV.keep hk h1 h2 r vt hr⟩
 | .num n a r,vs,h=>by
  obtain ⟨vt,b,e,l1,l2,c0,c1,hr⟩:=h;exact ⟨vt,b,e,by omega,by omega,(hk.cell (p:=⟨b,0,none⟩) l1 l2).trans c0,(hk.cell (p:=⟨b,1,none⟩) l1 l2).trans c1,NodesV.keep hk h1 h2 r vt hr⟩
 | .br n a f o c bs r,vs,h=>by
  obtain ⟨vt,b,ba,bc,ws,e,l1,l2,c0,c1,c2,c3,c4,c5,hrow,hbs,hr⟩:=h;exact ⟨vt,b,ba,bc,ws,e,by omega,by omega,(hk.cell (p:=⟨b,0,none⟩) l1 l2).trans c0,(hk.cell (p:=⟨b,1,none⟩) l1 l2).trans c1,(hk.cell (p:=⟨b,2,none⟩) l1 l2).trans c2,(hk.cell (p:=⟨b,3,none⟩) l1 l2).trans c3,
   (hk.cell (p:=⟨b,4,none⟩) l1 l2).trans c4,(hk.cell (p:=⟨b,5,none⟩) l1 l2).trans c5,hrow.keep hk h1 h2,NodesV.keep hk h1 h2 bs ws hbs,NodesV.keep hk h1 h2 r vt hr⟩
 | .leg k a m r,vs,h=>by
  obtain ⟨vt,ma,mc,ws,e,hrow,hm,hr⟩:=h;exact ⟨vt,ma,mc,ws,e,hrow.keep hk h1 h2,NodesV.keep hk h1 h2 m ws hm,NodesV.keep hk h1 h2 r vt hr⟩
theorem NodesV.app {lo hi:Nat} {w:World} {us:List Value} {g:Fo} (hg:NodesV lo hi w us g):∀ (f:Fo) (vs:List Value),NodesV lo hi w vs f->NodesV lo hi w (vs++us) (f.app g)
 | .nil,vs,h=>by
  have e:vs=[]:=h;subst e;exact hg
 | .text t r,vs,h=>by
  obtain ⟨vt,rfl,hr⟩:=h;exact ⟨_,rfl,NodesV.app hg r vt hr⟩
 | .hash r,vs,h=>by
  obtain ⟨vt,rfl,hr⟩:=h;exact ⟨_,rfl,NodesV.app hg r vt hr⟩
 | .put n a r,vs,h=>by
  obtain ⟨vt,b,rfl,l1,l2,c0,c1,hr⟩:=h;exact ⟨_,b,rfl,l1,l2,c0,c1,NodesV.app hg r vt hr⟩
 | .num n a r,vs,h=>by
  obtain ⟨vt,b,rfl,l1,l2,c0,c1,hr⟩:=h;exact ⟨_,b,rfl,l1,l2,c0,c1,NodesV.app hg r vt hr⟩
 | .br n a f o c bs r,vs,h=>by
  obtain ⟨vt,b,ba,bc,ws,rfl,l1,l2,c0,c1,c2,c3,c4,c5,hrow,hbs,hr⟩:=h;exact ⟨_,b,ba,bc,ws,rfl,l1,l2,c0,c1,c2,c3,c4,c5,hrow,hbs,NodesV.app hg r vt hr⟩
 | .leg k a m r,vs,h=>by
  obtain ⟨vt,ma,mc,ws,rfl,hrow,hm,hr⟩:=h;exact ⟨_,ma,mc,ws,rfl,hrow,hm,NodesV.app hg r vt hr⟩
def Fo.isLegs:Fo->Bool
 | .nil=>true
 | .leg _ _ _ r=>r.isLegs
 | _=>false
theorem NodesV.count {lo hi:Nat} {w:World}:∀ (f:Fo) (vs:List Value),NodesV lo hi w vs f->f.isMsg=true->vs.length=f.len
 | .nil,vs,h,_=>by
  have e:vs=[]:=h;subst e;rfl
 | .text t r,vs,h,hm=>by
  obtain ⟨vt,rfl,hr⟩:=h;simp [Fo.len,NodesV.count r vt hr hm]
 | .hash r,vs,h,hm=>by
  obtain ⟨vt,rfl,hr⟩:=h;simp [Fo.len,NodesV.count r vt hr hm]
 | .put n a r,vs,h,hm=>by
  obtain ⟨vt,b,rfl,l1,l2,c0,c1,hr⟩:=h;simp [Fo.len,NodesV.count r vt hr hm]
 | .num n a r,vs,h,hm=>by
  obtain ⟨vt,b,rfl,l1,l2,c0,c1,hr⟩:=h;simp [Fo.len,NodesV.count r vt hr hm]
 | .br n a f o c bs r,vs,h,hm=>by
  obtain ⟨vt,b,ba,bc,ws,rfl,l1,l2,c0,c1,c2,c3,c4,c5,hrow,hbs,hr⟩:=h;simp [Fo.len,NodesV.count r vt hr hm]
 | .leg k a m r,vs,h,hm=>by cases hm
abbrev PRes (α:Type):=Except (Nat×Nat) (α×Nat)
def PRes.then {α β:Type} (x:PRes α) (k:α->Nat->PRes β):PRes β:=match x with | .error e => .error e | .ok (a,i)=>k a i
theorem then_ok {α β:Type} (a:α) (i:Nat) (k:α->Nat->PRes β):PRes.then (.ok (a,i)) k=k a i:=rfl
def wantP (rs:List Int) (r:Int) (i:Nat):PRes Unit:=if nextL rs i=r then .ok ((),i+1) else .error (3,i)
def nameP (rs:List Int) (i:Nat):PRes Wd:=if nameN rs i=0 then .error (3,i) else .ok (pieceL rs i (nameN rs i),i+nameN rs i)
def wholeP (rs:List Int) (i:Nat):PRes Wd:=if wholeN rs i=0 then .error (3,i) else .ok (pieceL rs i (wholeN rs i),i+wholeN rs i)
abbrev MsgP:=Bool->Nat->PRes Fo
def keyP (rs:List Int) (num:Bool) (i:Nat):PRes Wd :=
 if num=true/\nextL rs i=61 then (wholeP rs (i+1)).then fun k j => .ok (61::k,j)
 else (nameP rs i).then fun k j=>if num=true/\k ∉ catsL then .error (3,i) else .ok (k,j)
def restP (rs:List Int):Option MsgP->Bool->Wd->Nat->Nat->Nat->PRes Fo
 | none,_,_,_,o,_ => .error (4,o)
 | some m,num,k,i,_,l=>(m num l).then fun f q=>(wantP rs 125 q).then fun _ z => .ok (.leg k i f .nil,skipL rs z)
def legP (rs:List Int) (msg:Option MsgP) (num:Bool) (i:Nat):PRes Fo :=
 (keyP rs num i).then fun k j=>(wantP rs 123 (skipL rs j)).then fun _ l=>restP rs msg num k i (skipL rs j) l
def legsP (rs:List Int) (msg:Option MsgP) (num:Bool):Nat->Fo->Nat->PRes Fo
 | 0,_,i => .error (3,i)
 | n+1,acc,i=>if nextL rs i=125/\acc.len≠0 then .ok (acc,i) else (legP rs msg num i).then fun f j=>legsP rs msg num n (acc.app f) j
def numW:Wd:=[110,117,109,98,101,114]
def offP (rs:List Int) (form:Nat) (i:Nat):PRes Wd :=
 if form≠0/\offB rs i=true then (wholeP rs (skipL rs (i+7))).then fun o j => .ok (o,skipL rs j) else .ok ([48],i)
def argP (rs:List Int) (msg:Option MsgP) (i:Nat):PRes Fo :=
 (wantP rs 123 i).then fun _ a =>
 (nameP rs (skipL rs a)).then fun name b =>
 if nextL rs (skipL rs b)≠44 then (wantP rs 125 (skipL rs b)).then fun _ z => .ok (.put name i .nil,z)
 else (nameP rs (skipL rs (skipL rs b+1))).then fun w c =>
  if w=numW then (wantP rs 125 (skipL rs c)).then fun _ z => .ok (.num name i .nil,z)
  else match formL w with
   | none => .error (3,skipL rs (skipL rs b+1))
   | some form=>(wantP rs 44 (skipL rs c)).then fun _ d=>(offP rs form (skipL rs d)).then fun o l =>
    (legsP rs msg (decide (form≠0)) (rs.length+1) .nil l).then fun bs q=>(wantP rs 125 q).then fun _ z => .ok (.br name i form o q bs .nil,z)
def msgGo (rs:List Int) (msg:Option MsgP) (num:Bool):Nat->Fo->Nat->PRes Fo
 | 0,_,i => .error (3,i)
 | n+1,acc,i =>
  if nextL rs i = -1\/nextL rs i=125 then .ok (acc,i)
  else if nextL rs i=123 then (argP rs msg i).then fun f j=>msgGo rs msg num n (acc.app f) j
  else if nextL rs i=35/\num=true then msgGo rs msg num n (acc.app (.hash .nil)) (i+1)
  else msgGo rs msg num n (acc.addText (textT rs num i).1) (textT rs num i).2
def msgP (rs:List Int):Nat->MsgP
 | 0=>fun num i=>msgGo rs none num (rs.length+1) .nil i
 | n+1=>fun num i=>msgGo rs (some (msgP rs n)) num (rs.length+1) .nil i
def parseL (rs:List Int):PRes Fo:=(msgP rs 5 false 0).then fun f i=>if nextL rs i = -1 then .ok (f,i) else .error (3,i)
structure EnvAt (p:Nat) (w:World):Prop where
 names:NamesAt w
 ne:0≠p
theorem EnvAt.but {p:Nat} {w w':World} (h:EnvAt p w) (hb:But p w w'):EnvAt p w':=⟨fun j hj=>hb.cell (h.names j hj) h.ne,h.ne⟩
def MsgQ (p:Nat) (rs:List Int) (d:Nat) (r:PRes Fo) (w:World) (e:Ending) (w':World):Prop :=
 (match r with
  | .error (n,a)=>FaultE p n a e w'
  | .ok (f,j)=>(∃ a c,e = .returned (.slice a f.len c)/\∃ vs,RowC w.heap.size w'.heap.size w' a vs/\NodesV w.heap.size w'.heap.size w' vs f)/\f.isMsg=true/\SynAt p rs j d w')/\But p w w'
theorem pieceL_len (rs:List Int) (i n:Nat):(pieceL rs i n).length<=4*rs.length:=by
 have hh:∀ l:List Int,(l.flatMap enc).length<=4*l.length:=by
  intro l;induction l with
  | nil=>simp
  | cons a t ih=>have:=(enc_length a).1;simp only [List.flatMap_cons,List.length_append,List.length_cons];omega
 have h1:=hh ((rs.drop i).take n);have h2:((rs.drop i).take n).length<=rs.length:=by simp;omega
 unfold pieceL;omega
def MsgC (p:Nat) (rs:List Int) (d:Nat) (m:MsgP):Prop:=∀ (num:Bool) (i:Nat) (w:World),SynAt p rs i d w->EnvAt p w ->
 Calls Tryz.prog 111 #[.pointer (some ⟨p,0,none⟩),.bool num] w (MsgQ p rs d (m num i) w)
def LegQ (p:Nat) (rs:List Int) (d:Nat) (r:PRes Fo) (w:World) (e:Ending) (w':World):Prop :=
 (match r with
  | .error (n,a)=>FaultE p n a e w'
  | .ok (f,j)=>(∃ k pl m ma mc,f = .leg k pl m .nil/\e = .returned (.agg #[strv k,.int .i64 pl,.slice ma m.len mc])/\m.isMsg=true/\∃ vs,RowC w.heap.size w'.heap.size w' ma vs/\NodesV w.heap.size w'.heap.size w' vs m)/\SynAt p rs j d w')/\But p w w'
structure LegB (B:Nat) (v0 v1 v2:Value) (w:World):Prop where
 c0:w.cell? ⟨B,0,none⟩=some v0
 c1:w.cell? ⟨B,1,none⟩=some v1
 c2:w.cell? ⟨B,2,none⟩=some v2
 z:∀ j,w.frozen? ⟨B,j,none⟩=false
theorem LegB.but {B p:Nat} {v0 v1 v2:Value} {w w':World} (h:LegB B v0 v1 v2 w) (hb:But p w w') (hne:B≠p):LegB B v0 v1 v2 w' :=
 ⟨hb.cell h.c0 hne,hb.cell h.c1 hne,hb.cell h.c2 hne,fun j=>(World.frozen?_of_block (a:=⟨B,j,none⟩) (hb.block B (World.block_lt_of_cell? w _ h.c0) hne)).trans (h.z j)⟩
theorem LegB.set0 {B:Nat} {v0 v1 v2 u:Value} {w:World} (h:LegB B v0 v1 v2 w):LegB B u v1 v2 (w.setCell ⟨B,0,none⟩ u) :=
 ⟨by rw [cellSet,if_pos rfl,h.c0];rfl,by rw [cellSet,if_neg (by simp)];exact h.c1,by rw [cellSet,if_neg (by simp)];exact h.c2,fun j=>by rw [World.frozen?_setCell];exact h.z j⟩
theorem LegB.set2 {B:Nat} {v0 v1 v2 u:Value} {w:World} (h:LegB B v0 v1 v2 w):LegB B v0 v1 u (w.setCell ⟨B,2,none⟩ u) :=
 ⟨by rw [cellSet,if_neg (by simp)];exact h.c0,by rw [cellSet,if_neg (by simp)];exact h.c1,by rw [cellSet,if_pos rfl,h.c2];rfl,fun j=>by rw [World.frozen?_setCell];exact h.z j⟩
theorem But.own {p:Nat} {w w':World} (h:But p w w') {B:Nat} (hB:w.heap.size<=B) (j:Nat) (u:Value):But p w (w'.setCell ⟨B,j,none⟩ u) :=
 ⟨h.os,h.tape,h.output,Nat.le_trans h.size (by simp [World.setCell]),fun k hk hp=>(Below.heap_setCell _ _ _ _ (by show k≠B;omega)).trans (h.block k hk hp)⟩
theorem KeepR.put {lo hi:Nat} {w W:World} (h:KeepR lo hi w W) {B:Nat} (hB:B<lo) (j:Nat) (u:Value):KeepR lo hi w (W.setCell ⟨B,j,none⟩ u) :=
 ⟨Nat.le_trans h.1 (by simp [World.setCell]),fun k h1 h2=>(Below.heap_setCell _ _ _ _ (by show k≠B;omega)).trans (h.2 k h1 h2)⟩
theorem KeepR.but {lo hi p:Nat} {w W W':World} (h:KeepR lo hi w W) (hb:But p W W') (hp:p<lo):KeepR lo hi w W' :=
 ⟨Nat.le_trans h.1 hb.size,fun k h1 h2=>(hb.block k (Nat.lt_of_lt_of_le h2 h.1) (by omega)).trans (h.2 k h1 h2)⟩
theorem SynAt.own {p:Nat} {rs:List Int} {i d:Nat} {w:World} (h:SynAt p rs i d w) {B:Nat} (hB:p<B) (j:Nat) (u:Value):SynAt p rs i d (w.setCell ⟨B,j,none⟩ u) :=
 h.grown (row:=some B) ⟨rfl,rfl,rfl,by simp [World.setCell],fun k _ hk=>Below.heap_setCell _ _ _ _ (fun e=>hk (by rw [e]))⟩ (fun q hq=>by cases hq;exact hB)
set_option maxHeartbeats 8000000 in
theorem syn_branch (p:Nat) (rs:List Int) (i d:Nat) (num:Bool) (msg:Option MsgP) (w:World) (h:SynAt p rs i d w) (he:EnvAt p w) (hd:msg=none ↔ d=6) (hm:∀ m,msg=some m->MsgC p rs d m) :
  Calls Tryz.prog 204 #[.pointer (some ⟨p,0,none⟩),.bool num] w (LegQ p rs d (legP rs msg num i) w):=by
 have HH:=Lib.hid h;have HENV:=Lib.hid he;have HD:=Lib.hid hd;have HMC:=Lib.hid hm;have hplt:=h.lt;have h5:=h.at_;obtain ⟨R,hR⟩:∃ R,legP rs msg num i=R:=⟨_,rfl⟩;rw [hR];have HR:=Lib.hid hR;clear h he hd hm hR
 cases num
 ·go_enter Tryz.func204,Tryz.ntmps204
  go_wp2_with fail
  refine calls_gen ?_;intro W hW;have hbW:Below w.heap.size w W:=by rw [hW];exact (Below.refl _ _).alloc (Nat.le_refl _) _
  have hLB:LegB w.heap.size (.string ⟨#[]⟩) (.int .i64 i) (.slice none 0 0) W:=by
   rw [hW];exact ⟨cell_made _ _ _ _ _,cell_made _ _ _ _ _,cell_made _ _ _ _ _,fun j=>by go_simp⟩
  clear hW h5;obtain ⟨B,hB⟩:∃ B,w.heap.size=B:=⟨_,rfl⟩;rw [hB] at hLB ⊢;have HB:=Lib.hid hB;have hpB:p<B:=by omega
  have HLW:=Lib.hid hLB;clear hB hLB;obtain ⟨num',hnum'⟩:∃ b,b=false:=⟨_,rfl⟩;refine (syn_name p rs i d W (HH.out.below hbW)).mono ?_;rintro e x0 ⟨hq,hx0⟩;have hb0:=(But.of (p:=p) hbW).trans hx0;have HL0:=Lib.hid (HLW.out.but hx0 (by omega));by_cases hn0:nameN rs i=0
  ·rw [if_pos hn0] at hq;have HT2:=Lib.hid (show R = .error (3,i) by rw [←HR.out];unfold legP keyP nameP;rw [if_neg (by simp),if_pos hn0];rfl);have HQ:=Lib.hid hq;obtain ⟨bf,rfl,_,_⟩:=hq;clear hn0;go_wp2
   exact ⟨rfl,by rw [HT2.out];exact HQ.out,hb0⟩
  ·rw [if_neg hn0] at hq;obtain ⟨rfl,hs0⟩:=hq;obtain ⟨K,hK⟩:∃ K,pieceL rs i (nameN rs i)=K:=⟨_,rfl⟩;obtain ⟨j,hj⟩:∃ j,i+nameN rs i=j:=⟨_,rfl⟩;rw [hj] at hs0;rw [hK];have HT:=Lib.hid (show R=(wantP rs 123 (skipL rs j)).then fun _ l=>restP rs msg num' K i (skipL rs j) l by
    rw [←HR.out,hnum'];unfold legP keyP nameP;rw [if_neg (by simp),if_neg hn0,hK,hj];first | rfl | (simp [then_ok];done))
   have HS0:=Lib.hid hs0;have zz:=HL0.out.z 0;have z0:=HL0.out.c0;have z1:=HL0.out.c1;have HSK:=Lib.hid (HS0.out.own hpB 0 (strv K));have HLK:=Lib.hid (HL0.out.set0 (u:=strv K));have hbS:But p w (x0.setCell ⟨B,0,none⟩ (strv K)):=hb0.own (by have:=HB.out;omega) 0 _;obtain ⟨X,hX⟩:∃ X,x0.setCell ⟨B,0,none⟩ (strv K)=X:=⟨_,rfl⟩;rw [hX] at HSK HLK hbS;have HX:=Lib.hid hX;clear hs0 hn0 hK hj hX hx0 hb0;go_wp2_with fail
   rw [HX.out];have HL:=HLK;have HS:=HSK;have hbk:=hbS;clear HLK HSK hbS;obtain ⟨J,hJ⟩:∃ J,skipL rs j=J:=⟨_,rfl⟩;rw [hJ] at HT;have HJ:=Lib.hid hJ;clear hJ;refine (syn_space p rs j d X HS.out).mono ?_;rintro e x1 ⟨rfl,hs1,hx1⟩;rw [HJ.out] at hs1;have hb1:=hbk.trans hx1;have HS1:=Lib.hid hs1;have HL1:=Lib.hid (HL.out.but hx1 (by omega));have g5:=hs1.at_;clear hs1 hx1 HJ HL HS hbk;go_wp2_with fail
   refine (syn_want p rs J d 123 x1 HS1.out (by decide)).mono ?_;rintro e x2 ⟨hq,hx2⟩;have hb2:=hb1.trans hx2;have HL2:=Lib.hid (HL1.out.but hx2 (by omega));clear g5;by_cases hw:nextL rs J=123
   ·rw [if_pos hw] at hq;obtain ⟨rfl,hs2⟩:=hq;have HS2:=Lib.hid hs2;have g6:=hs2.deep;have HT2:=Lib.hid (show R=restP rs msg num' K i J (J+1) by rw [HT.out];unfold wantP;rw [if_pos hw];rfl);clear hs2 hw HT
    cases msg with
    | none =>
     have hd6:d=6:=HD.out.1 rfl;subst hd6;go_wp2_with fail
     refine (syn_fail p 4 J x2 HS2.out.deepc).mono ?_;rintro e x3 ⟨hf,hx3⟩;have HF:=Lib.hid hf;obtain ⟨bf,rfl,_,_⟩:=hf;go_wp2
     exact ⟨rfl,by rw [HT2.out];exact HF.out,hb2.below hx3⟩
    | some m =>
     have hd6:d≠6:=fun e=>by have:=HD.out.2 e;cases this
     have hd6':((d:Int)==6)=false:=by simp;omega
     have hcall:=HMC.out m rfl num' (J+1) x2 HS2.out (HENV.out.but hb2);obtain ⟨r,hr⟩:∃ r,m num' (J+1)=r:=⟨_,rfl⟩;rw [hr] at hcall;rw [hnum'] at hcall;have HCALL:=Lib.hid hcall;have HT3:=Lib.hid (show R=r.then fun f q=>(wantP rs 125 q).then fun _ z => .ok (.leg K i f .nil,skipL rs z) by rw [HT2.out,←hr];rfl);clear hcall hr HT2;go_wp2_with fail
     refine HCALL.out.mono ?_;rintro e x3 ⟨hq,hx3⟩;have hb3:=hb2.trans hx3;have HL3:=Lib.hid (HL2.out.but hx3 (by omega))
     cases r with
     | error en =>
      obtain ⟨en1,en2⟩:=en;have HQ:=Lib.hid hq;obtain ⟨bf,rfl,_,_⟩:=hq;go_wp2
      exact ⟨rfl,by rw [HT3.out];exact HQ.out,hb3⟩
     | ok fq =>
      obtain ⟨f,q⟩:=fq;obtain ⟨⟨ma,mc,rfl,vs,hrow,hnod⟩,hmsg,hs3⟩:=hq;have HT4:=Lib.hid (show R=(wantP rs 125 q).then fun _ z => .ok (.leg K i f .nil,skipL rs z) from HT3.out);have HROW:=Lib.hid hrow;have HNOD:=Lib.hid hnod;have HS3:=Lib.hid hs3;have z2:=HL3.out.z 2;have q2:=HL3.out.c2;have HSK:=Lib.hid (HS3.out.own (B:=B) (by omega) 2 (.slice ma f.len mc));have HLK:=Lib.hid (HL3.out.set2 (u := .slice ma f.len mc));have hbS:But p w (x3.setCell ⟨B,2,none⟩ (.slice ma f.len mc)):=hb3.own (by have:=HB.out;omega) 2 _;obtain ⟨Y,hY⟩:∃ Y,x3.setCell ⟨B,2,none⟩ (.slice ma f.len mc)=Y:=⟨_,rfl⟩;rw [hY] at HSK HLK hbS;have HY:=Lib.hid hY;clear hrow hnod hs3 HT3 HCALL hY;go_wp2_with fail
      rw [HY.out];refine (syn_want p rs q d 125 Y HSK.out (by decide)).mono ?_;rintro e x4 ⟨hq,hx4⟩;have hb4:=hbS.trans hx4;have HL4:=Lib.hid (HLK.out.but hx4 (by omega));by_cases hw:nextL rs q=125
      ·rw [if_pos hw] at hq;obtain ⟨rfl,hs4⟩:=hq;have HS4:=Lib.hid hs4;obtain ⟨J2,hJ2⟩:∃ J2,skipL rs (q+1)=J2:=⟨_,rfl⟩;have HT5:=Lib.hid (show R = .ok (.leg K i f .nil,J2) by rw [HT4.out,←hJ2];show (wantP rs 125 q).then _=_;unfold wantP;rw [if_pos hw];rfl);have HJ2:=Lib.hid hJ2;clear hs4 hw hJ2 HT4;go_wp2_with fail
       refine (syn_space p rs (q+1) d x4 HS4.out).mono ?_;rintro e x5 ⟨rfl,hs5,hx5⟩;rw [HJ2.out] at hs5;have hb5:=hb4.trans hx5;have HL5:=Lib.hid (HL4.out.but hx5 (by omega));have HS5:=Lib.hid hs5;have k0:=HL5.out.c0;have k1:=HL5.out.c1;have k2:=HL5.out.c2;have y0:=HL5.out.z 0;have y1:=HL5.out.z 1;have y2:=HL5.out.z 2;clear hs5;have hlt2:B<x2.heap.size:=World.block_lt_of_cell? _ _ HL2.out.c0;have HKP:=Lib.hid (((((((keep_refl (lo:=x2.heap.size) (Nat.le_refl x3.heap.size)).put hlt2 2 (.slice ma f.len mc))).but (by rw [HY.out];exact hx4) (by omega)).but hx5 (by omega)).put hlt2 0 (strv K)).put hlt2 1 (.int .i64 i) |>.put hlt2 2 (.slice ma f.len mc));have HBF:=Lib.hid (((hb5.own (B:=B) (by have:=HB.out;omega) 0 (strv K)).own (B:=B) (by have:=HB.out;omega) 1 (.int .i64 i)).own (B:=B) (by have:=HB.out;omega) 2 (.slice ma f.len mc));have HSF:=Lib.hid (((HS5.out.own hpB 0 (strv K)).own hpB 1 (.int .i64 i)).own hpB 2 (.slice ma f.len mc));go_wp2
       rw [HT5.out];refine bodyPost_ret (v := .agg #[strv K,.int .i64 i,.slice ma f.len mc]) ?_ rfl ?_
       ·simp [results,Tryz.results204,go_sem,k0,k1,k2]
       exact ⟨⟨⟨K,i,f,ma,mc,rfl,rfl,hmsg,vs,HROW.out.keep HKP.out hb2.size HKP.out.1,NodesV.keep HKP.out hb2.size HKP.out.1 _ _ HNOD.out⟩,HSF.out⟩,HBF.out⟩
      ·rw [if_neg hw] at hq;have HT5:=Lib.hid (show R = .error (3,q) by rw [HT4.out];show (wantP rs 125 q).then _=_;unfold wantP;rw [if_neg hw];rfl);have HQ:=Lib.hid hq;obtain ⟨bf,rfl,_,_⟩:=hq;clear hw HT4;go_wp2
       exact ⟨rfl,by rw [HT5.out];exact HQ.out,hb4⟩
   ·rw [if_neg hw] at hq;have HT2:=Lib.hid (show R = .error (3,J) by rw [HT.out];unfold wantP;rw [if_neg hw];rfl);have HQ:=Lib.hid hq;obtain ⟨bf,rfl,_,_⟩:=hq;clear hw HT;go_wp2
    exact ⟨rfl,by rw [HT2.out];exact HQ.out,hb2⟩
 ·go_enter Tryz.func204,Tryz.ntmps204
  go_wp2_with fail
  refine calls_gen ?_;intro W hW;have hbW:Below w.heap.size w W:=by rw [hW];exact (Below.refl _ _).alloc (Nat.le_refl _) _
  have hLB:LegB w.heap.size (.string ⟨#[]⟩) (.int .i64 i) (.slice none 0 0) W:=by
   rw [hW];exact ⟨cell_made _ _ _ _ _,cell_made _ _ _ _ _,cell_made _ _ _ _ _,fun j=>by go_simp⟩
  clear hW h5;obtain ⟨B,hB⟩:∃ B,w.heap.size=B:=⟨_,rfl⟩;rw [hB] at hLB ⊢;have HB:=Lib.hid hB;have hpB:p<B:=by omega
  have HLW:=Lib.hid hLB;clear hB hLB;obtain ⟨num',hnum'⟩:∃ b,b=true:=⟨_,rfl⟩;refine (syn_take p rs i d 61 W (HH.out.below hbW) (by decide)).mono ?_;rintro e x0 ⟨rfl,hs0,hx0⟩;have hb0:=(But.of (p:=p) hbW).trans hx0;have HL0:=Lib.hid (HLW.out.but hx0 (by omega));by_cases h61:nextL rs i=61
  ·rw [if_pos h61] at hs0;rw [show (nextL rs i==61)=true from by rw [h61];rfl];have HS0:=Lib.hid hs0;have HT0:=Lib.hid (show R=((wholeP rs (i+1)).then fun k j=>(.ok (61::k,j):PRes Wd)).then fun k j=>(wantP rs 123 (skipL rs j)).then fun _ l=>restP rs msg true k i (skipL rs j) l by
    rw [←HR.out];unfold legP keyP;rw [if_pos ⟨rfl,h61⟩])
   clear hs0 h61 hx0;go_wp2_with fail
   refine (syn_whole p rs (i+1) d x0 HS0.out).mono ?_;rintro e x1 ⟨hq,hx1⟩;have hb1:=hb0.trans hx1;have HL1:=Lib.hid (HL0.out.but hx1 (by omega));by_cases hn0:wholeN rs (i+1)=0
   ·rw [if_pos hn0] at hq;have HT2:=Lib.hid (show R = .error (3,i+1) by rw [HT0.out];unfold wholeP;rw [if_pos hn0];rfl);have HQ:=Lib.hid hq;obtain ⟨bf,rfl,_,_⟩:=hq;clear hn0;go_wp2
    exact ⟨rfl,by rw [HT2.out];exact HQ.out,hb1⟩
   ·rw [if_neg hn0] at hq;obtain ⟨rfl,hs1⟩:=hq;obtain ⟨K0,hK⟩:∃ K0,pieceL rs (i+1) (wholeN rs (i+1))=K0:=⟨_,rfl⟩;obtain ⟨K,hK1⟩:∃ K,61::K0=K:=⟨_,rfl⟩;obtain ⟨j,hj⟩:∃ j,i+1+wholeN rs (i+1)=j:=⟨_,rfl⟩;rw [hj] at hs1;rw [hK];have HT:=Lib.hid (show R=(wantP rs 123 (skipL rs j)).then fun _ l=>restP rs msg num' K i (skipL rs j) l by
     rw [HT0.out,hnum'];unfold wholeP;rw [if_neg hn0,hK,hj,←hK1];rfl)
    have HS1:=Lib.hid hs1;have zz:=HL1.out.z 0;have z0:=HL1.out.c0;have z1:=HL1.out.c1;have HSK:=Lib.hid (HS1.out.own hpB 0 (strv K));have HLK:=Lib.hid (HL1.out.set0 (u:=strv K));have hbS:But p w (x1.setCell ⟨B,0,none⟩ (strv K)):=hb1.own (by have:=HB.out;omega) 0 _;obtain ⟨X,hX⟩:∃ X,x1.setCell ⟨B,0,none⟩ (strv K)=X:=⟨_,rfl⟩;rw [hX] at HSK HLK hbS;rw [←hK1] at hX;have HX:=Lib.hid hX;have hlen:¬9223372036854775807<1+K0.length:=by
     have:=pieceL_len rs (i+1) (wholeN rs (i+1));have:=HH.out.len;rw [hK] at *;omega
    clear hs1 hn0 hK hj hX hx1 hb1 HT0;go_wp2_with fail
    rw [show (⟨#[61]⟩:ByteArray)++⟨K0.toArray⟩=⟨(61::K0).toArray⟩ from ByteArray.ext (by simp)];rw [show Value.string ⟨(61::K0).toArray⟩=strv (61::K0) from rfl,HX.out];have HL:=HLK;have HS:=HSK;have hbk:=hbS;clear HLK HSK hbS;obtain ⟨J,hJ⟩:∃ J,skipL rs j=J:=⟨_,rfl⟩;rw [hJ] at HT;have HJ:=Lib.hid hJ;clear hJ;refine (syn_space p rs j d X HS.out).mono ?_;rintro e x1 ⟨rfl,hs1,hx1⟩;rw [HJ.out] at hs1;have hb1:=hbk.trans hx1;have HS1:=Lib.hid hs1;have HL1:=Lib.hid (HL.out.but hx1 (by omega));have g5:=hs1.at_;clear hs1 hx1 HJ HL HS hbk;go_wp2_with fail
    refine (syn_want p rs J d 123 x1 HS1.out (by decide)).mono ?_;rintro e x2 ⟨hq,hx2⟩;have hb2:=hb1.trans hx2;have HL2:=Lib.hid (HL1.out.but hx2 (by omega));clear g5;by_cases hw:nextL rs J=123
    ·rw [if_pos hw] at hq;obtain ⟨rfl,hs2⟩:=hq;have HS2:=Lib.hid hs2;have g6:=hs2.deep;have HT2:=Lib.hid (show R=restP rs msg num' K i J (J+1) by rw [HT.out];unfold wantP;rw [if_pos hw];rfl);clear hs2 hw HT
     cases msg with
     | none =>
      have hd6:d=6:=HD.out.1 rfl;subst hd6;go_wp2_with fail
      refine (syn_fail p 4 J x2 HS2.out.deepc).mono ?_;rintro e x3 ⟨hf,hx3⟩;have HF:=Lib.hid hf;obtain ⟨bf,rfl,_,_⟩:=hf;go_wp2
      exact ⟨rfl,by rw [HT2.out];exact HF.out,hb2.below hx3⟩
     | some m =>
      have hd6:d≠6:=fun e=>by have:=HD.out.2 e;cases this
      have hd6':((d:Int)==6)=false:=by simp;omega
      have hcall:=HMC.out m rfl num' (J+1) x2 HS2.out (HENV.out.but hb2);obtain ⟨r,hr⟩:∃ r,m num' (J+1)=r:=⟨_,rfl⟩;rw [hr] at hcall;rw [hnum'] at hcall;have HCALL:=Lib.hid hcall;have HT3:=Lib.hid (show R=r.then fun f q=>(wantP rs 125 q).then fun _ z => .ok (.leg K i f .nil,skipL rs z) by rw [HT2.out,←hr];rfl);clear hcall hr HT2;go_wp2_with fail
      refine HCALL.out.mono ?_;rintro e x3 ⟨hq,hx3⟩;have hb3:=hb2.trans hx3;have HL3:=Lib.hid (HL2.out.but hx3 (by omega))
      cases r with
      | error en =>
       obtain ⟨en1,en2⟩:=en;have HQ:=Lib.hid hq;obtain ⟨bf,rfl,_,_⟩:=hq;go_wp2
       exact ⟨rfl,by rw [HT3.out];exact HQ.out,hb3⟩
      | ok fq =>
       obtain ⟨f,q⟩:=fq;obtain ⟨⟨ma,mc,rfl,vs,hrow,hnod⟩,hmsg,hs3⟩:=hq;have HT4:=Lib.hid (show R=(wantP rs 125 q).then fun _ z => .ok (.leg K i f .nil,skipL rs z) from HT3.out);have HROW:=Lib.hid hrow;have HNOD:=Lib.hid hnod;have HS3:=Lib.hid hs3;have z2:=HL3.out.z 2;have q2:=HL3.out.c2;have HSK:=Lib.hid (HS3.out.own (B:=B) (by omega) 2 (.slice ma f.len mc));have HLK:=Lib.hid (HL3.out.set2 (u := .slice ma f.len mc));have hbS:But p w (x3.setCell ⟨B,2,none⟩ (.slice ma f.len mc)):=hb3.own (by have:=HB.out;omega) 2 _;obtain ⟨Y,hY⟩:∃ Y,x3.setCell ⟨B,2,none⟩ (.slice ma f.len mc)=Y:=⟨_,rfl⟩;rw [hY] at HSK HLK hbS;have HY:=Lib.hid hY;clear hrow hnod hs3 HT3 HCALL hY;go_wp2_with fail
       rw [HY.out];refine (syn_want p rs q d 125 Y HSK.out (by decide)).mono ?_;rintro e x4 ⟨hq,hx4⟩;have hb4:=hbS.trans hx4;have HL4:=Lib.hid (HLK.out.but hx4 (by omega));by_cases hw:nextL rs q=125
       ·rw [if_pos hw] at hq;obtain ⟨rfl,hs4⟩:=hq;have HS4:=Lib.hid hs4;obtain ⟨J2,hJ2⟩:∃ J2,skipL rs (q+1)=J2:=⟨_,rfl⟩;have HT5:=Lib.hid (show R = .ok (.leg K i f .nil,J2) by rw [HT4.out,←hJ2];show (wantP rs 125 q).then _=_;unfold wantP;rw [if_pos hw];rfl);have HJ2:=Lib.hid hJ2;clear hs4 hw hJ2 HT4;go_wp2_with fail
        refine (syn_space p rs (q+1) d x4 HS4.out).mono ?_;rintro e x5 ⟨rfl,hs5,hx5⟩;rw [HJ2.out] at hs5;have hb5:=hb4.trans hx5;have HL5:=Lib.hid (HL4.out.but hx5 (by omega));have HS5:=Lib.hid hs5;have k0:=HL5.out.c0;have k1:=HL5.out.c1;have k2:=HL5.out.c2;have y0:=HL5.out.z 0;have y1:=HL5.out.z 1;have y2:=HL5.out.z 2;clear hs5;have hlt2:B<x2.heap.size:=World.block_lt_of_cell? _ _ HL2.out.c0;have HKP:=Lib.hid (((((((keep_refl (lo:=x2.heap.size) (Nat.le_refl x3.heap.size)).put hlt2 2 (.slice ma f.len mc))).but (by rw [HY.out];exact hx4) (by omega)).but hx5 (by omega)).put hlt2 0 (strv K)).put hlt2 1 (.int .i64 i) |>.put hlt2 2 (.slice ma f.len mc));have HBF:=Lib.hid (((hb5.own (B:=B) (by have:=HB.out;omega) 0 (strv K)).own (B:=B) (by have:=HB.out;omega) 1 (.int .i64 i)).own (B:=B) (by have:=HB.out;omega) 2 (.slice ma f.len mc));have HSF:=Lib.hid (((HS5.out.own hpB 0 (strv K)).own hpB 1 (.int .i64 i)).own hpB 2 (.slice ma f.len mc));go_wp2
        rw [HT5.out];refine bodyPost_ret (v := .agg #[strv K,.int .i64 i,.slice ma f.len mc]) ?_ rfl ?_
        ·simp [results,Tryz.results204,go_sem,k0,k1,k2]
        exact ⟨⟨⟨K,i,f,ma,mc,rfl,rfl,hmsg,vs,HROW.out.keep HKP.out hb2.size HKP.out.1,NodesV.keep HKP.out hb2.size HKP.out.1 _ _ HNOD.out⟩,HSF.out⟩,HBF.out⟩
       ·rw [if_neg hw] at hq;have HT5:=Lib.hid (show R = .error (3,q) by rw [HT4.out];show (wantP rs 125 q).then _=_;unfold wantP;rw [if_neg hw];rfl);have HQ:=Lib.hid hq;obtain ⟨bf,rfl,_,_⟩:=hq;clear hw HT4;go_wp2
        exact ⟨rfl,by rw [HT5.out];exact HQ.out,hb4⟩
    ·rw [if_neg hw] at hq;have HT2:=Lib.hid (show R = .error (3,J) by rw [HT.out];unfold wantP;rw [if_neg hw];rfl);have HQ:=Lib.hid hq;obtain ⟨bf,rfl,_,_⟩:=hq;clear hw HT;go_wp2
     exact ⟨rfl,by rw [HT2.out];exact HQ.out,hb2⟩
  ·rw [if_neg h61] at hs0;rw [show (nextL rs i==61)=false from by simp [h61]];have HS0:=Lib.hid hs0;have HT0:=Lib.hid (show R=((nameP rs i).then fun k j=>if k ∉ catsL then (.error (3,i):PRes Wd) else .ok (k,j)).then fun k j=>(wantP rs 123 (skipL rs j)).then fun _ l=>restP rs msg true k i (skipL rs j) l by
    rw [←HR.out];unfold legP keyP;rw [if_neg (fun e=>h61 e.2)];simp)
   clear hs0 h61 hx0;go_wp2_with fail
   refine (syn_name p rs i d x0 HS0.out).mono ?_;rintro e x1 ⟨hq,hx1⟩;have hb1:=hb0.trans hx1;have HL1:=Lib.hid (HL0.out.but hx1 (by omega));by_cases hn0:nameN rs i=0
   ·rw [if_pos hn0] at hq;have HT2:=Lib.hid (show R = .error (3,i) by rw [HT0.out];unfold nameP;rw [if_pos hn0];rfl);have HQ:=Lib.hid hq;obtain ⟨bf,rfl,_,_⟩:=hq;clear hn0;go_wp2
    exact ⟨rfl,by rw [HT2.out];exact HQ.out,hb1⟩
   ·rw [if_neg hn0] at hq;obtain ⟨rfl,hs1⟩:=hq;obtain ⟨K,hK⟩:∃ K,pieceL rs i (nameN rs i)=K:=⟨_,rfl⟩;obtain ⟨j,hj⟩:∃ j,i+nameN rs i=j:=⟨_,rfl⟩;rw [hj] at hs1;rw [hK];have HT1:=Lib.hid (show R=((if K ∉ catsL then .error (3,i) else .ok (K,j)):PRes Wd).then fun k j=>(wantP rs 123 (skipL rs j)).then fun _ l=>restP rs msg true k i (skipL rs j) l by
     rw [HT0.out];unfold nameP;rw [if_neg hn0,hK,hj];rfl)
    have HS1:=Lib.hid hs1;have zz:=HL1.out.z 0;have z0:=HL1.out.c0;have z1:=HL1.out.c1;have HSK:=Lib.hid (HS1.out.own hpB 0 (strv K));have HLK:=Lib.hid (HL1.out.set0 (u:=strv K));have hbS:But p w (x1.setCell ⟨B,0,none⟩ (strv K)):=hb1.own (by have:=HB.out;omega) 0 _;obtain ⟨X,hX⟩:∃ X,x1.setCell ⟨B,0,none⟩ (strv K)=X:=⟨_,rfl⟩;rw [hX] at HSK HLK hbS;have HX:=Lib.hid hX;clear hs1 hn0 hK hj hX hx1 hb1 HT0;go_wp2_with fail
    rw [HX.out];refine (syn_category K X (HENV.out.but hbS).names).mono ?_;rintro e x2 ⟨rfl,rfl⟩;have u1:=HLK.out.c1;by_cases hc:K∈catsL
    ·rw [show decide (K∈catsL)=true from by simp [hc]];have HT:=Lib.hid (show R=(wantP rs 123 (skipL rs j)).then fun _ l=>restP rs msg num' K i (skipL rs j) l by
      rw [HT1.out,hnum',if_neg (by simp [hc])];rfl)
     clear hc HT1;go_wp2_with fail
     have HL:=HLK;have HS:=HSK;have hbk:=hbS;clear HLK HSK hbS;obtain ⟨J,hJ⟩:∃ J,skipL rs j=J:=⟨_,rfl⟩;rw [hJ] at HT;have HJ:=Lib.hid hJ;clear hJ;refine (syn_space p rs j d X HS.out).mono ?_;rintro e x1 ⟨rfl,hs1,hx1⟩;rw [HJ.out] at hs1;have hb1:=hbk.trans hx1;have HS1:=Lib.hid hs1;have HL1:=Lib.hid (HL.out.but hx1 (by omega));have g5:=hs1.at_;clear hs1 hx1 HJ HL HS hbk;go_wp2_with fail
     refine (syn_want p rs J d 123 x1 HS1.out (by decide)).mono ?_;rintro e x2 ⟨hq,hx2⟩;have hb2:=hb1.trans hx2;have HL2:=Lib.hid (HL1.out.but hx2 (by omega));clear g5;by_cases hw:nextL rs J=123
     ·rw [if_pos hw] at hq;obtain ⟨rfl,hs2⟩:=hq;have HS2:=Lib.hid hs2;have g6:=hs2.deep;have HT2:=Lib.hid (show R=restP rs msg num' K i J (J+1) by rw [HT.out];unfold wantP;rw [if_pos hw];rfl);clear hs2 hw HT
      cases msg with
      | none =>
       have hd6:d=6:=HD.out.1 rfl;subst hd6;go_wp2_with fail
       refine (syn_fail p 4 J x2 HS2.out.deepc).mono ?_;rintro e x3 ⟨hf,hx3⟩;have HF:=Lib.hid hf;obtain ⟨bf,rfl,_,_⟩:=hf;go_wp2
       exact ⟨rfl,by rw [HT2.out];exact HF.out,hb2.below hx3⟩
      | some m =>
       have hd6:d≠6:=fun e=>by have:=HD.out.2 e;cases this
       have hd6':((d:Int)==6)=false:=by simp;omega
       have hcall:=HMC.out m rfl num' (J+1) x2 HS2.out (HENV.out.but hb2);obtain ⟨r,hr⟩:∃ r,m num' (J+1)=r:=⟨_,rfl⟩;rw [hr] at hcall;rw [hnum'] at hcall;have HCALL:=Lib.hid hcall;have HT3:=Lib.hid (show R=r.then fun f q=>(wantP rs 125 q).then fun _ z => .ok (.leg K i f .nil,skipL rs z) by rw [HT2.out,←hr];rfl);clear hcall hr HT2;go_wp2_with fail
       refine HCALL.out.mono ?_;rintro e x3 ⟨hq,hx3⟩;have hb3:=hb2.trans hx3;have HL3:=Lib.hid (HL2.out.but hx3 (by omega))
       cases r with
       | error en =>
        obtain ⟨en1,en2⟩:=en;have HQ:=Lib.hid hq;obtain ⟨bf,rfl,_,_⟩:=hq;go_wp2
        exact ⟨rfl,by rw [HT3.out];exact HQ.out,hb3⟩
       | ok fq =>
        obtain ⟨f,q⟩:=fq;obtain ⟨⟨ma,mc,rfl,vs,hrow,hnod⟩,hmsg,hs3⟩:=hq;have HT4:=Lib.hid (show R=(wantP rs 125 q).then fun _ z => .ok (.leg K i f .nil,skipL rs z) from HT3.out);have HROW:=Lib.hid hrow;have HNOD:=Lib.hid hnod;have HS3:=Lib.hid hs3;have z2:=HL3.out.z 2;have q2:=HL3.out.c2;have HSK:=Lib.hid (HS3.out.own (B:=B) (by omega) 2 (.slice ma f.len mc));have HLK:=Lib.hid (HL3.out.set2 (u := .slice ma f.len mc));have hbS:But p w (x3.setCell ⟨B,2,none⟩ (.slice ma f.len mc)):=hb3.own (by have:=HB.out;omega) 2 _;obtain ⟨Y,hY⟩:∃ Y,x3.setCell ⟨B,2,none⟩ (.slice ma f.len mc)=Y:=⟨_,rfl⟩;rw [hY] at HSK HLK hbS;have HY:=Lib.hid hY;clear hrow hnod hs3 HT3 HCALL hY;go_wp2_with fail
        rw [HY.out];refine (syn_want p rs q d 125 Y HSK.out (by decide)).mono ?_;rintro e x4 ⟨hq,hx4⟩;have hb4:=hbS.trans hx4;have HL4:=Lib.hid (HLK.out.but hx4 (by omega));by_cases hw:nextL rs q=125
        ·rw [if_pos hw] at hq;obtain ⟨rfl,hs4⟩:=hq;have HS4:=Lib.hid hs4;obtain ⟨J2,hJ2⟩:∃ J2,skipL rs (q+1)=J2:=⟨_,rfl⟩;have HT5:=Lib.hid (show R = .ok (.leg K i f .nil,J2) by rw [HT4.out,←hJ2];show (wantP rs 125 q).then _=_;unfold wantP;rw [if_pos hw];rfl);have HJ2:=Lib.hid hJ2;clear hs4 hw hJ2 HT4;go_wp2_with fail
         refine (syn_space p rs (q+1) d x4 HS4.out).mono ?_;rintro e x5 ⟨rfl,hs5,hx5⟩;rw [HJ2.out] at hs5;have hb5:=hb4.trans hx5;have HL5:=Lib.hid (HL4.out.but hx5 (by omega));have HS5:=Lib.hid hs5;have k0:=HL5.out.c0;have k1:=HL5.out.c1;have k2:=HL5.out.c2;have y0:=HL5.out.z 0;have y1:=HL5.out.z 1;have y2:=HL5.out.z 2;clear hs5;have hlt2:B<x2.heap.size:=World.block_lt_of_cell? _ _ HL2.out.c0;have HKP:=Lib.hid (((((((keep_refl (lo:=x2.heap.size) (Nat.le_refl x3.heap.size)).put hlt2 2 (.slice ma f.len mc))).but (by rw [HY.out];exact hx4) (by omega)).but hx5 (by omega)).put hlt2 0 (strv K)).put hlt2 1 (.int .i64 i) |>.put hlt2 2 (.slice ma f.len mc));have HBF:=Lib.hid (((hb5.own (B:=B) (by have:=HB.out;omega) 0 (strv K)).own (B:=B) (by have:=HB.out;omega) 1 (.int .i64 i)).own (B:=B) (by have:=HB.out;omega) 2 (.slice ma f.len mc));have HSF:=Lib.hid (((HS5.out.own hpB 0 (strv K)).own hpB 1 (.int .i64 i)).own hpB 2 (.slice ma f.len mc));go_wp2
         rw [HT5.out];refine bodyPost_ret (v := .agg #[strv K,.int .i64 i,.slice ma f.len mc]) ?_ rfl ?_
         ·simp [results,Tryz.results204,go_sem,k0,k1,k2]
         exact ⟨⟨⟨K,i,f,ma,mc,rfl,rfl,hmsg,vs,HROW.out.keep HKP.out hb2.size HKP.out.1,NodesV.keep HKP.out hb2.size HKP.out.1 _ _ HNOD.out⟩,HSF.out⟩,HBF.out⟩
        ·rw [if_neg hw] at hq;have HT5:=Lib.hid (show R = .error (3,q) by rw [HT4.out];show (wantP rs 125 q).then _=_;unfold wantP;rw [if_neg hw];rfl);have HQ:=Lib.hid hq;obtain ⟨bf,rfl,_,_⟩:=hq;clear hw HT4;go_wp2
         exact ⟨rfl,by rw [HT5.out];exact HQ.out,hb4⟩
     ·rw [if_neg hw] at hq;have HT2:=Lib.hid (show R = .error (3,J) by rw [HT.out];unfold wantP;rw [if_neg hw];rfl);have HQ:=Lib.hid hq;obtain ⟨bf,rfl,_,_⟩:=hq;clear hw HT;go_wp2
      exact ⟨rfl,by rw [HT2.out];exact HQ.out,hb2⟩
    ·rw [show decide (K∈catsL)=false from by simp [hc]];have HT2:=Lib.hid (show R = .error (3,i) by rw [HT1.out,if_pos hc];rfl);clear hc HT1;go_wp2_with fail
     refine (syn_fail p 3 i X HSK.out.deepc).mono ?_;rintro e x3 ⟨hf,hx3⟩;have HF:=Lib.hid hf;obtain ⟨bf,rfl,_,_⟩:=hf;go_wp2
     exact ⟨rfl,by rw [HT2.out];exact HF.out,hbS.below hx3⟩
theorem ato_from:∀ (l:List UInt8) (acc:Nat),l.all isDig=true->Lib.decFrom acc l=some (l.foldl (fun v c=>10*v+(c.toNat - 48)) acc)
 | [],_,_=>rfl
 | c::t,acc,h=>by
  simp only [List.all_cons,Bool.and_eq_true] at h;have hc:=(isDig_iff c).1 h.1;rw [Lib.decFrom,Lib.digitVal,if_pos (by omega)];dsimp only;rw [ato_from t _ h.2,List.foldl_cons,Nat.mul_comm acc 10]
theorem ato_dig {l:List UInt8} (h:l.all isDig=true) (hn:l≠[]):Lib.atoi l=some (offV l:Int):=by
 cases l with
 | nil=>exact absurd rfl hn
 | cons c t =>
  have hd:=h;simp only [List.all_cons,Bool.and_eq_true] at hd;have hc:=(isDig_iff c).1 hd.1;have h45:(c==45)=false:=by
   rw [beq_eq_false_iff_ne];rintro rfl;exact absurd hc.1 (by decide)
  have h43:(c==43)=false:=by
   rw [beq_eq_false_iff_ne];rintro rfl;exact absurd hc.1 (by decide)
  rw [Lib.atoi,h45,h43];simp only [Bool.false_eq_true,if_false,Lib.decNat];rw [if_neg (by simp),ato_from _ 0 h];rfl
theorem ato_any (x:Wd) (w:World) (hs:x.length<=9) (hd:x.all isDig=true) (hn:x≠[]) :
  Calls Tryz.prog 163 #[strv x] w fun e w'=>e = .returned (.tuple #[.int .i64 (offV x),.nilIface])/\Below w.heap.size w w':=by
 refine (Tryz.strconv_Atoi ⟨x.toArray⟩ (offV x) (by simp [ByteArray.size];omega) (ato_dig hd hn) w).mono ?_;rintro e w' ⟨rfl,t,rfl⟩;exact ⟨rfl,Lib.bytesWorld_below _ _ _⟩
theorem enc_digit (r:Int) (h:digitL r=true):∃ c,enc r=[c]/\isDig c=true:=by
 simp only [digitL,Bool.and_eq_true,decide_eq_true_eq] at h;have:r=48\/r=49\/r=50\/r=51\/r=52\/r=53\/r=54\/r=55\/r=56\/r=57:=by omega
 rcases this with rfl | rfl | rfl | rfl | rfl | rfl | rfl | rfl | rfl | rfl<;>exact ⟨_,rfl,by decide⟩
theorem runGo_fits (F:Int->Nat->Bool) (rs:List Int) (i:Nat):∀ f n R,runGo F rs i f n=R->∀ k,n<=k->k<R->F (nextL rs (i+k)) k=true
 | 0,n,R,h,k,h1,h2=>by
  rw [runGo] at h;omega
 | f+1,n,R,h,k,h1,h2=>by
  rw [runGo] at h;by_cases q:F (nextL rs (i+n)) n=true
  ·rw [if_pos q] at h;by_cases hk:k=n
   ·rw [hk];exact q
   ·exact runGo_fits F rs i f (n+1) R h k (by omega) h2
  ·rw [if_neg q] at h;omega
theorem runN_fits {F:Int->Nat->Bool} {rs:List Int} {i k:Nat} (h:k<runN F rs i):F (nextL rs (i+k)) k=true:=runGo_fits F rs i _ _ _ rfl k (Nat.zero_le _) h
theorem next_at {rs:List Int} {j:Nat} (h:j<rs.length):nextL rs j=rs[j]:=by
 unfold nextL;simp [h]
theorem digits_piece:∀ (l:List Int),(∀ r∈l,digitL r=true)->(l.flatMap enc).length=l.length/\(l.flatMap enc).all isDig=true
 | [],_=>⟨rfl,rfl⟩
 | r::t,h=>by
  obtain ⟨c,hc,hd⟩:=enc_digit r (h r (by simp));obtain ⟨h1,h2⟩:=digits_piece t (fun q hq=>h q (by simp [hq]));refine ⟨by simp [List.flatMap_cons,hc,h1],?_⟩;rw [List.flatMap_cons,hc];simp [hd];simpa using h2
theorem whole_piece (rs:List Int) (i:Nat) (hn:wholeN rs i≠0):(pieceL rs i (wholeN rs i)).length<=9/\(pieceL rs i (wholeN rs i)).all isDig=true/\pieceL rs i (wholeN rs i)≠[]:=by
 obtain ⟨n,hN⟩:∃ n,wholeN rs i=n:=⟨_,rfl⟩;have hf:∀ k,k<n->k<9/\digitL (nextL rs (i+k))=true:=fun k hk=>by
  have:=runN_fits (F:=wholeF (nextL rs i)) (rs:=rs) (i:=i) (k:=k) (by rw [show runN (wholeF (nextL rs i)) rs i=wholeN rs i from rfl,hN];exact hk);simp only [wholeF,Bool.and_eq_true,decide_eq_true_eq] at this;exact this.1
 rw [hN] at hn ⊢;have h9:n<=9:=by
  have:=(hf (n - 1) (by omega)).1;omega
 have hd:digitL (-1)=false:=by decide
 have hin:∀ k,k<n->i+k<rs.length:=fun k hk=>by
  refine Nat.lt_of_not_le (fun hle=>?_);have:=(hf k hk).2;rw [next_end hle,hd] at this
  cases this
 have hall:∀ r∈(rs.drop i).take n,digitL r=true:=fun r hr=>by
  obtain ⟨k,hk,rfl⟩:=List.mem_iff_getElem.1 hr;simp only [List.length_take,List.length_drop] at hk;have h1:=(hf k (by omega)).2;rw [next_at (hin k (by omega))] at h1;simpa using h1
 have hlen:((rs.drop i).take n).length=n:=by
  have:=hin (n - 1) (by omega);simp;omega
 obtain ⟨h1,h2⟩:=digits_piece _ hall;unfold pieceL;refine ⟨by omega,h2,fun e=>?_⟩;rw [e] at h1;simp only [List.length_nil] at h1;omega
def Stay (base:Nat) (v:Value) (w W:World):Prop:=w.heap.size<=W.heap.size/\∀ k,base<=k->k<w.heap.size->some k≠v.ownBlock->W.heap[k]? = w.heap[k]?
def GrowR (base:Nat) (e:TypeId) (size:Nat) (v:Value) (acc:Fo) (ws:List Value) (w:World):Prop :=
 w.ownsRow base e size v acc.len ws/\∀ W,Stay base v w W->NodesV base W.heap.size W ws acc
theorem GrowR.start (base:Nat) (e:TypeId) (size:Nat) (w:World):GrowR base e size (.slice none 0 0) .nil [] w :=
 ⟨⟨by simp [Fo.len],.inl ⟨rfl,rfl⟩⟩,fun _ _=>rfl⟩
theorem GrowR.but {base p:Nat} {e:TypeId} {size:Nat} {v:Value} {acc:Fo} {ws:List Value} {w w':World} (h:GrowR base e size v acc ws w) (hb:But p w w') (hp:p<base):GrowR base e size v acc ws w':=by
 obtain ⟨⟨h1,h2⟩,h3⟩:=h;refine ⟨⟨h1,?_⟩,fun W hW=>h3 W ⟨Nat.le_trans hb.size hW.1,fun k k1 k2 k3=>(hW.2 k k1 (Nat.lt_of_lt_of_le k2 hb.size) k3).trans (hb.block k k2 (by omega))⟩⟩;rcases h2 with hn | ⟨g,cap,cur,hv,hg,hc,rest⟩
 ·exact .inl hn
 ·refine .inr ⟨g,cap,cur,hv,hg,?_,rest⟩;have hlt:g<w.heap.size:=(Array.getElem?_eq_some_iff.1 hc).1;rw [hb.block g hlt (by omega)];exact hc
theorem GrowR.nodes {base:Nat} {e:TypeId} {size:Nat} {v:Value} {acc:Fo} {ws:List Value} {w:World} (h:GrowR base e size v acc ws w):NodesV base w.heap.size w ws acc :=
 h.2 w ⟨Nat.le_refl _,fun _ _ _ _=>rfl⟩
theorem GrowR.row {base:Nat} {e:TypeId} {size:Nat} {v:Value} {acc:Fo} {ws:List Value} {w:World} (h:GrowR base e size v acc ws w):∃ a c,v = .slice a acc.len c/\RowC base w.heap.size w a ws:=by
 obtain ⟨⟨h1,h2⟩,_⟩:=h;rcases h2 with ⟨hv,hn⟩ | ⟨g,cap,cur,hv,hg,hc,h3,h4,h5,h6⟩
 ·refine ⟨none,0,by rw [hv,hn],fun j hj=>?_⟩;rw [hn] at h1;omega
 ·refine ⟨some ⟨g,0,none⟩,cap,hv,fun j hj=>⟨g,0,rfl,hg,(Array.getElem?_eq_some_iff.1 hc).1,?_⟩⟩;have hle:acc.len*size<=cap*size:=Nat.mul_le_mul_right _ h3;have hj2:j<cur.size:=by omega
  rw [Nat.zero_add];have e1:ws[j]? = cur[j]? := by
   rw [←h6,List.getElem?_take,if_pos (by omega),Array.getElem?_toList]
  have e2:ws[j]? = some ws[j]:=List.getElem?_eq_getElem hj;show w.cell? ⟨g,j,none⟩=some ws[j];rw [←e2,e1];unfold World.cell?;rw [hc];rfl
theorem append_where {P:Program} (w:World) (base:Nat) (t ty e:TypeId) (i:TypeInfo) (z:Value) (ht:P.underlying t=some (.slice e)) (hi:P.info? e=some i) (hz:i.zero=some z)
  (hzs:z.cells.size=i.size) (hsz:0<i.size)
  (v:Value) (n:Nat) (xs:List Value) (hown:w.ownsRow base e i.size v n xs)
  (a:Addr) (m c:Nat) (news:List Value) (hl:news.length=m*i.size) (hnews:∀ j u,news[j]? = some u->w.cell? (a.add j)=some u) (h1:∀ u∈news,u.oneCell'=true)
  (h63:n+m<=maxLen) (hbytes:(n+m)*i.bytes<=140737488355328) (hbase:base<=w.heap.size) :
  ∃ v' w',(Builtin.append_ #[t,t] ty #[v,.slice (some a) m c]).run P w = .ok v' w'/\w'.ownsRow base e i.size v' (n+m) (xs++news)/\w.grownBy w' v.ownBlock /\
   (v'.ownBlock=v.ownBlock\/∀ k,v'.ownBlock=some k->w.heap.size<=k):=by
 obtain ⟨v',w',hr,h2,h3,h4⟩:=run_append_own (P:=P) w base t ty e i z i.size i.bytes ht hi hz rfl rfl hzs hsz v n xs hown a m c news hl hnews h1 h63 hbytes hbase;refine ⟨v',w',hr,h2,h3,?_⟩;have hown0:=hown;rcases hown.2 with ⟨rfl,rfl⟩ | ⟨g,cap,cur,rfl,hbg,hg,hnc,hcm,hcs,htake⟩
 ·have hx:xs=[]:=List.eq_nil_of_length_eq_zero (by simpa using hown.1);subst hx;obtain ⟨v2,w2,hr2,k2,_,_⟩:=run_append_own (P:=P) w w.heap.size t ty e i z i.size i.bytes ht hi hz rfl rfl hzs hsz (.slice none 0 0) 0 [] (World.ownsRow_nil w w.heap.size e i.size) a m c news hl hnews h1 h63 hbytes (Nat.le_refl _);rw [hr] at hr2
  cases hr2;exact .inr fun k hk=>(k2.lt k hk).1
 ·by_cases hroom:n+m<=cap
  ·have hfit:n*i.size+news.length<=cur.size:=by rw [hl,hcs,←Nat.add_mul];exact Nat.mul_le_mul_right _ hroom
   have hr2:=run_append_room (P:=P) w t ty e i ht hi g n cap cur hg a m c news hl hnews h1 hroom hfit;rw [hr] at hr2
   cases hr2;exact .inl rfl
  ·have holds:∀ j u,xs[j]? = some u->w.cell? ((⟨g,0,none⟩:Addr).add j)=some u:=hown.cells (g:=g) rfl;have hr2:=run_append_grow (P:=P) w t ty e i z ht hi hz ⟨g,0,none⟩ n cap xs hown.1 holds a m c news hl hnews (by omega) (by simp only [maxLen] at h63;omega) (growslice_fits (by simp only [maxLen] at h63;omega) hbytes);rw [hr] at hr2
   cases hr2;refine .inr fun k hk=>?_
   simp [Value.ownBlock] at hk;omega
theorem GrowR.grow {base lo m:Nat} {e:TypeId} {size:Nat} {v v':Value} {acc f:Fo} {ws news:List Value} {w w':World} (h:GrowR base e size v acc ws w)
  (hn:NodesV lo w.heap.size w news f) (hlo:base<=lo) (hv:∀ k,v.ownBlock=some k->k<lo) (hm:f.len=m)
  (h2:w'.ownsRow base e size v' (acc.len+m) (ws++news)) (h3:w.grownBy w' v.ownBlock) (h4:v'.ownBlock=v.ownBlock\/∀ k,v'.ownBlock=some k->w.heap.size<=k) :
  GrowR base e size v' (acc.app f) (ws++news) w':=by
 refine ⟨by rw [Fo.len_app,hm];exact h2,fun W hW=>?_⟩;have key:∀ k,base<=k->k<w.heap.size->some k≠v.ownBlock->W.heap[k]? = w.heap[k]? := fun k k1 k2 k3=>by
  have hne:some k≠v'.ownBlock:=by
   rcases h4 with q | q
   ·rw [q];exact k3
   ·intro e;have:=q k e.symm;omega
  exact (hW.2 k k1 (Nat.lt_of_lt_of_le k2 h3.size) hne).trans (h3.block k k2 k3)
 have hsz:w.heap.size<=W.heap.size:=Nat.le_trans h3.size hW.1;exact NodesV.app (NodesV.keep (lo:=lo) (hi:=w.heap.size) ⟨hsz,fun k k1 k2=>key k (by omega) k2 (fun e=>by have:=hv k e.symm;omega)⟩ hlo hsz f news hn) acc ws (h.2 W ⟨hsz,key⟩)
theorem app_grow {P:Program} {t e:TypeId} {z:Value} {size bytes:Nat} (E:Elem P t e z size bytes) {w:World} {ops:Array Oper} {rest:List Oper} {o:Oper} {a:Act} {Q:Exit->Act->World->Prop}
  (hgd:o.guard=none) (s x:Operand) (ho:o.op = .call { callee := .builtin .append,args:=#[s,x],argTypes:=#[t,t] })
  (base lo:Nat) (v:Value) (acc f:Fo) (ws:List Value) (hs:a.eval s=v) (hg:GrowR base e size v acc ws w)
  (ad:Addr) (m c:Nat) (news:List Value) (hx:a.eval x = .slice (some ad) m c) (hl:news.length=m*size) (hnews:∀ j u,news[j]? = some u->w.cell? (ad.add j)=some u) (h1:∀ u∈news,u.oneCell'=true)
  (hn:NodesV lo w.heap.size w news f) (hlo:base<=lo) (hv:∀ k,v.ownBlock=some k->k<lo) (hm:f.len=m)
  (h31:acc.len+m<=2147483648) (hbase:base<=w.heap.size)
  (h:∀ v' w',GrowR base e size v' (acc.app f) (ws++news) w'->w.grownBy w' v.ownBlock->wpList P ops Q rest (a.put o.dst v') w'):wpList P ops Q (o::rest) a w:=by
 obtain ⟨i,hi,hz,rfl,rfl⟩:=E.info;have hs4:=E.small;obtain ⟨v',w',hr,h2,h3,h4⟩:=append_where (P:=P) w base t o.type e i z E.under hi hz E.zsize E.pos v acc.len ws hg.1 ad m c news hl hnews h1 (by unfold maxLen;omega) (Nat.le_trans (Nat.mul_le_mul h31 hs4) (by decide)) hbase;refine wpList_plain hgd fun K hK=>?_
 unfold Oper.wp execOp;simp only [ho,resolve,invoke,builtin,Sem.run_bind,Sem.run_pure,Result.andThen_ok,List.map_toArray,List.map_cons,List.map_nil,hs,hx,hr];exact hK _ _ (h v' w' (hg.grow hn hlo hv hm h2 h3 h4) h3)
theorem elem_branch:Elem Tryz.prog 179 183 (.agg #[.string ⟨#[]⟩,.int .i64 0,.slice none 0 0]) 3 48 :=
 ⟨Tryz.underlying179,info_parts (by kernel_rfl),rfl,by decide,by decide⟩
theorem elem_node:Elem Tryz.prog 107 112 .nilIface 1 16 :=
 ⟨Tryz.underlying107,info_parts (by kernel_rfl),rfl,by decide,by decide⟩
theorem op_grow {P:Program} {t e:TypeId} {z:Value} {size bytes:Nat} (E:Elem P t e z size bytes) {w:World} {o:Oper} {a:Act} {K:Act->World->Prop} {Q:Exit->Act->World->Prop}
  (s x:Operand) (ho:o.op = .call { callee := .builtin .append,args:=#[s,x],argTypes:=#[t,t] })
  (base lo:Nat) (v:Value) (acc f:Fo) (ws:List Value) (hs:a.eval s=v) (hg:GrowR base e size v acc ws w)
  (ad:Addr) (m c:Nat) (news:List Value) (hx:a.eval x = .slice (some ad) m c) (hl:news.length=m*size) (hnews:∀ j u,news[j]? = some u->w.cell? (ad.add j)=some u) (h1:∀ u∈news,u.oneCell'=true)
  (hn:NodesV lo w.heap.size w news f) (hlo:base<=lo) (hv:∀ k,v.ownBlock=some k->k<lo) (hm:f.len=m)
  (h31:acc.len+m<=2147483648) (hbase:base<=w.heap.size)
  (h:∀ v' w',GrowR base e size v' (acc.app f) (ws++news) w'->w.grownBy w' v.ownBlock->K (a.put o.dst v') w'):Oper.wp P o a w K Q:=by
 obtain ⟨i,hi,hz,rfl,rfl⟩:=E.info;have hs4:=E.small;obtain ⟨v',w',hr,h2,h3,h4⟩:=append_where (P:=P) w base t o.type e i z E.under hi hz E.zsize E.pos v acc.len ws hg.1 ad m c news hl hnews h1 (by unfold maxLen;omega) (Nat.le_trans (Nat.mul_le_mul h31 hs4) (by decide)) hbase;unfold Oper.wp execOp;simp only [ho,resolve,invoke,builtin,Sem.run_bind,Sem.run_pure,Result.andThen_ok,List.map_toArray,List.map_cons,List.map_nil,hs,hx,hr];exact h v' w' (hg.grow hn hlo hv hm h2 h3 h4) h3
theorem GrowR.lt {base:Nat} {e:TypeId} {size:Nat} {v:Value} {acc:Fo} {ws:List Value} {w:World} (h:GrowR base e size v acc ws w):∀ k,v.ownBlock=some k->base<=k/\k<w.heap.size:=h.1.lt
theorem Fo.isLegs_app:∀ f g:Fo,f.isLegs=true->g.isLegs=true->(f.app g).isLegs=true
 | .nil,g,_,h=>h
 | .leg k a m r,g,h,h2=>Fo.isLegs_app r g h h2
 | .text t r,g,h,_=>by cases h
 | .hash r,g,h,_=>by cases h
 | .put n a r,g,h,_=>by cases h
 | .num n a r,g,h,_=>by cases h
 | .br n a f o c b r,g,h,_=>by cases h
theorem Fo.isMsg_app:∀ f g:Fo,f.isMsg=true->g.isMsg=true->(f.app g).isMsg=true
 | .nil,g,_,h=>h
 | .leg k a m r,g,h,h2=>by cases h
 | .text t r,g,h,h2=>Fo.isMsg_app r g h h2
 | .hash r,g,h,h2=>Fo.isMsg_app r g h h2
 | .put n a r,g,h,h2=>Fo.isMsg_app r g h h2
 | .num n a r,g,h,h2=>Fo.isMsg_app r g h h2
 | .br n a f o c b r,g,h,h2=>Fo.isMsg_app r g h h2
end Go.Proofs.YthpldolmpinnhaaGreatDoor
namespace Go.Proofs.YthpldolmpinnhaaGreatDoor
open Go Go.RowKit
theorem skipL_le (rs:List Int) (i:Nat):i<=skipL rs i:=Nat.le_add_right _ _
def MsgUp (m:MsgP):Prop:=∀ num i f j,m num i = .ok (f,j)->i<=j
theorem then_inv {α β:Type} {x:PRes α} {k:α->Nat->PRes β} {b:β} {j:Nat} (h:x.then k = .ok (b,j)):∃ a q,x = .ok (a,q)/\k a q = .ok (b,j):=by
 cases x with
 | error e=>cases h
 | ok a=>exact ⟨a.1,a.2,rfl,h⟩
theorem wantP_inv {rs:List Int} {r:Int} {i j:Nat} {u:Unit} (h:wantP rs r i = .ok (u,j)):nextL rs i=r/\j=i+1:=by
 unfold wantP at h;split at h
 ·cases h;exact ⟨by assumption,rfl⟩
 ·cases h
theorem nameP_inv {rs:List Int} {i j:Nat} {x:Wd} (h:nameP rs i = .ok (x,j)):i<j:=by
 unfold nameP at h;split at h
 ·cases h
 ·cases h;omega
theorem wholeP_inv {rs:List Int} {i j:Nat} {x:Wd} (h:wholeP rs i = .ok (x,j)):i<j:=by
 unfold wholeP at h;split at h
 ·cases h
 ·cases h;omega
theorem keyP_inv {rs:List Int} {num:Bool} {i j:Nat} {x:Wd} (h:keyP rs num i = .ok (x,j)):i<j:=by
 unfold keyP at h;split at h
 ·obtain ⟨a,q,h1,h2⟩:=then_inv h
  cases h2;have:=wholeP_inv h1;omega
 ·obtain ⟨a,q,h1,h2⟩:=then_inv h;split at h2
  ·cases h2
  ·cases h2;exact nameP_inv h1
theorem legP_lt {rs:List Int} {msg:Option MsgP} {num:Bool} {i j:Nat} {f:Fo} (hm:∀ m,msg=some m->MsgUp m) (h:legP rs msg num i = .ok (f,j)):i<j:=by
 unfold legP at h;obtain ⟨k,a,h1,h2⟩:=then_inv h;obtain ⟨u,b,h3,h4⟩:=then_inv h2;have e1:=keyP_inv h1;have e2:=(wantP_inv h3).2;have e3:=skipL_le rs a
 cases msg with
 | none=>cases h4
 | some m =>
  obtain ⟨g,c,h5,h6⟩:=then_inv (show (m num b).then _=_ from h4);obtain ⟨u2,z,h7,h8⟩:=then_inv h6;have e4:=hm m rfl _ _ _ _ h5;have e5:=(wantP_inv h7).2;have e6:=skipL_le rs z
  cases h8;omega
theorem legsP_le {rs:List Int} {msg:Option MsgP} {num:Bool} (hm:∀ m,msg=some m->MsgUp m):∀ (n:Nat) (acc:Fo) (i j:Nat) (f:Fo),legsP rs msg num n acc i = .ok (f,j)->i<=j
 | 0,acc,i,j,f,h=>by cases h
 | n+1,acc,i,j,f,h=>by
  rw [legsP] at h;split at h
  ·cases h;exact Nat.le_refl _
  ·obtain ⟨g,q,h1,h2⟩:=then_inv h;have:=legP_lt hm h1;have:=legsP_le hm n _ _ _ _ h2;omega
theorem offP_le {rs:List Int} {form i j:Nat} {o:Wd} (h:offP rs form i = .ok (o,j)):i<=j:=by
 unfold offP at h;split at h
 ·obtain ⟨a,q,h1,h2⟩:=then_inv h
  cases h2;have:=wholeP_inv h1;have:=skipL_le rs (i+7);have:=skipL_le rs q;omega
 ·cases h;exact Nat.le_refl _
theorem argP_lt {rs:List Int} {msg:Option MsgP} {i j:Nat} {f:Fo} (hm:∀ m,msg=some m->MsgUp m) (h:argP rs msg i = .ok (f,j)):i<j:=by
 unfold argP at h;obtain ⟨u,a,h1,h2⟩:=then_inv h;obtain ⟨nm,b,h3,h4⟩:=then_inv h2;have e1:=(wantP_inv h1).2;have e2:=skipL_le rs a;have e3:=nameP_inv h3;have e4:=skipL_le rs b;clear h h1 h2 h3;split at h4
 ·obtain ⟨u,z,h5,h6⟩:=then_inv h4;have:=(wantP_inv h5).2
  cases h6;omega
 ·obtain ⟨wd,c,h5,h6⟩:=then_inv h4;have e5:=nameP_inv h5;have e6:=skipL_le rs (skipL rs b+1);have e7:=skipL_le rs c;clear h4 h5;split at h6
  ·obtain ⟨u,z,h7,h8⟩:=then_inv h6;have:=(wantP_inv h7).2
   cases h8;omega
  ·split at h6
   ·cases h6
   ·obtain ⟨u,d,h7,h8⟩:=then_inv h6;obtain ⟨o,l,h9,h10⟩:=then_inv h8;obtain ⟨bs,q,h11,h12⟩:=then_inv h10;obtain ⟨u,z,h13,h14⟩:=then_inv h12;have:=(wantP_inv h7).2;have:=skipL_le rs d;have:=offP_le h9;have:=legsP_le hm _ _ _ _ _ h11;have:=(wantP_inv h13).2
    cases h14;omega
theorem textT_lt (rs:List Int) (num:Bool) (i:Nat):i<(textT rs num i).2:=by
 unfold textT;split
 ·exact Nat.lt_succ_self _
 split
 ·exact Nat.lt_add_of_pos_right (by decide)
 split
 ·exact Nat.lt_succ_self _
 ·show i<i+1+_;omega
theorem msgGo_le {rs:List Int} {msg:Option MsgP} {num:Bool} (hm:∀ m,msg=some m->MsgUp m):∀ (n:Nat) (acc:Fo) (i j:Nat) (f:Fo),msgGo rs msg num n acc i = .ok (f,j)->i<=j
 | 0,acc,i,j,f,h=>by cases h
 | n+1,acc,i,j,f,h=>by
  rw [msgGo] at h;split at h
  ·cases h;exact Nat.le_refl _
  split at h
  ·obtain ⟨g,q,h1,h2⟩:=then_inv h;have:=argP_lt hm h1;have:=msgGo_le hm n _ _ _ _ h2;omega
  split at h
  ·have:=msgGo_le hm n _ _ _ _ h;omega
  ·have:=msgGo_le hm n _ _ _ _ h;have:=textT_lt rs num i;omega
theorem msgP_up (rs:List Int):∀ n,MsgUp (msgP rs n)
 | 0,num,i,f,j,h=>by
  rw [msgP] at h;exact msgGo_le (fun m e=>by cases e) _ _ _ _ _ h
 | n+1,num,i,f,j,h=>by
  rw [msgP] at h;exact msgGo_le (fun m e=>by cases e;exact msgP_up rs n) _ _ _ _ _ h
end Go.Proofs.YthpldolmpinnhaaGreatDoor
