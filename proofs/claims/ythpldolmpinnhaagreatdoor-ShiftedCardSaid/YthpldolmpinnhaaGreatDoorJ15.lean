import Derived.Test.YthpldolmpinnhaaGreatDoorJ14
import Derived.Lib.MapLaws
import Derived.Lib.RuneCount
import Derived.Lib.ValidU
import GoSem.Conv.StringToRunes
namespace Go.Proofs.YthpldolmpinnhaaGreatDoor
open Go Go.RowKit
set_option maxRecDepth 10000
theorem decL_N (l:List UInt8):Lib.decodeL l=decN l:=Lib.decodeL_N l
theorem valid_go:∀ (n:Nat) (l:List UInt8),l.length<=n->(Lib.validGoD n l=true ↔ (ptsL l).2=l.length)
 | 0,l,h=>by
  have:l=[]:=List.eq_nil_of_length_eq_zero (by omega);subst this;simp [Lib.validGoD,ptsL_nil]
 | n+1,[],_=>by simp [Lib.validGoD,ptsL_nil]
 | n+1,a::r,h=>by
  have hne:a::r≠[]:=by simp
  rw [Lib.validGoD,if_neg hne,decL_N];rcases size_ok a r with ⟨h1,h2⟩ | ⟨h1,h2,h3⟩
  ·rw [h2,if_pos ⟨rfl,rfl⟩,ptsL_bad h1];simp
  ·have hle:=(sizeL_le (a::r)).1;rw [if_neg h3,←h1,ptsL_step hne (by omega),valid_go n _ (by simp;simp at h;omega)];simp only [List.length_drop];omega
theorem valid_pts (l:List UInt8):Lib.validD l=true ↔ (ptsL l).2=l.length:=valid_go l.length l (Nat.le_refl _)
def runesL (l:List UInt8):List Int :=
 if h:l=[]\/sizeL l=0 then [] else ((decN l).1:Int)::runesL (l.drop (sizeL l))
termination_by l.length
decreasing_by
 have h1:l≠[]:=fun e=>h (.inl e)
 have h2:sizeL l≠0:=fun e=>h (.inr e)
 have:=List.length_pos_iff.2 h1;simp;omega
theorem runesL_nil:runesL []=[]:=by rw [runesL];simp
theorem runesL_step {l:List UInt8} (h0:l≠[]) (h:sizeL l≠0):runesL l=((decN l).1:Int)::runesL (l.drop (sizeL l)):=by
 rw [runesL,dif_neg (by rintro (q | q)<;>contradiction)]
theorem runes_enc:∀ (n:Nat) (l:List UInt8),l.length<=n->(runesL l).map Lib.encodeRune=(ptsL l).1
 | 0,l,h=>by
  have:l=[]:=List.eq_nil_of_length_eq_zero (by omega);subst this;simp [runesL_nil,ptsL_nil]
 | n+1,[],_=>by simp [runesL_nil,ptsL_nil]
 | n+1,a::r,h=>by
  have hne:a::r≠[]:=by simp
  rcases size_ok a r with ⟨h1,h2⟩ | ⟨h1,h2,h3⟩
  ·rw [ptsL_bad h1,runesL,dif_pos (.inr h1)];rfl
  ·rw [runesL_step hne (by omega),ptsL_step hne (by omega),List.map_cons,runes_enc n _ (by simp;simp at h;omega)];have he:=Lib.encode_decode (a::r) hne (by rw [decL_N];exact h3);rw [decL_N] at he;rw [he,h1]
theorem dec_at (s:ByteArray) (i:Nat) (hi:i<s.size):Utf8.decode s i=decN (s.data.toList.drop i):=by
 rw [Lib.decode_at];unfold decN;have e:∀ k,s.get! (i+k)=(s.data.toList.drop i).getD k 0:=fun k=>by
  rw [List.getD_eq_getElem?_getD,List.getElem?_drop];by_cases hk:i+k<s.size
  ·rw [List.getElem?_eq_getElem (by simpa using hk)];show s.data[i+k]! = _;rw [getElem!_pos s.data (i+k) (by simpa using hk)];simp
  ·rw [List.getElem?_eq_none (by simp;omega)];show s.data[i+k]! = _;rw [getElem!_neg s.data (i+k) (by simpa using hk)];rfl
 have e0:=e 0;rw [Nat.add_zero] at e0;rw [e0,e 1,e 2,e 3];simp
theorem count_pts (s:ByteArray):∀ (fuel pos:Nat),s.size - pos<=fuel->pos<=s.size->(ptsL (s.data.toList.drop pos)).2=s.size - pos->Lib.runeCountFrom s fuel pos=(ptsL (s.data.toList.drop pos)).1.length /\
   ∀ acc,Conv.runesFrom s fuel pos acc=acc++((runesL (s.data.toList.drop pos)).map (Value.int .i32)).toArray
 | 0,pos,h,hp,hv=>by
  have hz:s.data.toList.drop pos=[]:=List.drop_of_length_le (by simp;omega);rw [hz,ptsL_nil,runesL_nil];exact ⟨rfl,fun acc=>by simp [Conv.runesFrom]⟩
 | fuel+1,pos,h,hp,hv=>by
  by_cases hlt:pos<s.size
  ·have hne:s.data.toList.drop pos≠[]:=by simp;omega
   have hd:=dec_at s pos hlt;have hok:sizeOk (s.data.toList.drop pos):=by
    cases hl:s.data.toList.drop pos with
    | nil=>exact absurd hl hne
    | cons a r=>exact size_ok a r
   rcases hok with ⟨h1,h2⟩ | ⟨h1,h2,h3⟩
   ·rw [ptsL_bad h1] at hv;simp at hv;omega
   ·have hle:=(sizeL_le (s.data.toList.drop pos)).1;simp only [List.length_drop,size_toList] at hle;rw [ptsL_step hne (by omega)] at hv;have hdd:(s.data.toList.drop pos).drop (sizeL (s.data.toList.drop pos))=s.data.toList.drop (pos+sizeL (s.data.toList.drop pos)):=by rw [List.drop_drop]
    rw [hdd] at hv;have ih:=count_pts s fuel (pos+sizeL (s.data.toList.drop pos)) (by omega) (by omega) (by simp at hv;omega);rw [ptsL_step hne (by omega),runesL_step hne (by omega),hdd];constructor
    ·rw [Lib.runeCountFrom,if_pos hlt,hd,←h1,ih.1];simp;omega
    ·intro acc;rw [Conv.runesFrom,if_pos hlt,hd];dsimp only;rw [←h1,ih.2];simp
  ·have hz:s.data.toList.drop pos=[]:=List.drop_of_length_le (by simp;omega);rw [hz,ptsL_nil,runesL_nil];exact ⟨by rw [Lib.runeCountFrom,if_neg hlt];rfl,fun acc=>by rw [Conv.runesFrom,if_neg hlt];simp⟩
theorem sizeBy_take {l:List UInt8} {n v m:Nat} (h:n<=m) (hn:n<=l.length) (h1:1<=n):sizeBy (l.take m) n v=sizeBy l n v:=by
 have e1:¬(l.take m).length<n:=by rw [List.length_take];omega
 have e2:¬l.length<n:=by omega
 have e3:(l.take m).tail.take (n - 1)=l.tail.take (n - 1):=by
  cases l with
  | nil=>simp
  | cons a t =>
   cases m with
   | zero=>omega
   | succ m=>simp only [List.take_succ_cons,List.tail_cons,List.take_take];rw [Nat.min_eq_left (by omega)]
 unfold sizeBy;rw [if_neg e1,if_neg e2,e3]
theorem sizeBy_val (l:List UInt8) (n v:Nat):sizeBy l n v=0\/(sizeBy l n v=n/\n<=l.length):=by
 unfold sizeBy;split
 ·exact .inl rfl
 split
 ·exact .inl rfl
 split
 ·exact .inl rfl
 ·exact .inr ⟨rfl,by omega⟩
theorem sizeL_take {l:List UInt8} {m:Nat} (h0:sizeL l≠0) (h:sizeL l<=m):sizeL (l.take m)=sizeL l:=by
 have hh:∀ k,1<=k->(l.take k).headD 0=l.headD 0:=fun k hk=>by
  cases l with
  | nil=>simp
  | cons a t =>
   cases k with
   | zero=>omega
   | succ k=>simp
 have key:∀ n v,1<=n->sizeL l=sizeBy l n v->(sizeL (l.take m)=sizeBy (l.take m) n v)->sizeL (l.take m)=sizeL l:=fun n v h1 e1 e2=>by
  rcases sizeBy_val l n v with q | ⟨q1,q2⟩
  ·rw [e1,q] at h0;exact absurd rfl h0
  ·rw [e2,e1,sizeBy_take (by rw [e1,q1] at h;exact h) q2 h1]
 have hm:1<=m:=by omega
 have hd:=hh m hm;have e:∀ n v,_:=fun n v=>@sizeL_of l n v
 have e':∀ n v,_:=fun n v=>@sizeL_of (l.take m) n v
 have hlt:=(l.headD 0).toNat_lt;by_cases c1:240<=(l.headD 0).toNat/\(l.headD 0).toNat<248
 ·exact key 4 _ (by decide) (sizeL_of (.inl ⟨c1.1,c1.2,rfl,rfl⟩)) (sizeL_of (.inl ⟨by rw [hd];exact c1.1,by rw [hd];exact c1.2,rfl,by rw [hd]⟩))
 by_cases c2:224<=(l.headD 0).toNat/\(l.headD 0).toNat<240
 ·exact key 3 _ (by decide) (sizeL_of (.inr (.inl ⟨c2.1,c2.2,rfl,rfl⟩))) (sizeL_of (.inr (.inl ⟨by rw [hd];exact c2.1,by rw [hd];exact c2.2,rfl,by rw [hd]⟩)))
 by_cases c3:192<=(l.headD 0).toNat/\(l.headD 0).toNat<224
 ·exact key 2 _ (by decide) (sizeL_of (.inr (.inr (.inl ⟨c3.1,c3.2,rfl,rfl⟩)))) (sizeL_of (.inr (.inr (.inl ⟨by rw [hd];exact c3.1,by rw [hd];exact c3.2,rfl,by rw [hd]⟩))))
 by_cases c4:(l.headD 0).toNat<128
 ·exact key 1 _ (by decide) (sizeL_of (.inr (.inr (.inr ⟨c4,rfl,rfl⟩)))) (sizeL_of (.inr (.inr (.inr ⟨by rw [hd];exact c4,rfl,by rw [hd]⟩))))
 ·exfalso;apply h0;unfold sizeL;dsimp only;rw [if_neg c1,if_neg c2,if_neg c3,if_pos (by omega)]
theorem pts_take:∀ (n:Nat) (l:List UInt8),l.length<=n->ptsL (l.take (ptsL l).2)=ptsL l
 | 0,l,h=>by
  have:l=[]:=List.eq_nil_of_length_eq_zero (by omega);subst this;simp
 | n+1,l,h=>by
  by_cases hl:l=[]
  ·subst hl;simp
  by_cases h0:sizeL l=0
  ·rw [ptsL_bad h0];simp [ptsL_nil]
  ·have hle:=(sizeL_le l).1;have ih:=pts_take n (l.drop (sizeL l)) (by simp;omega);have e0:=ptsL_step hl h0;obtain ⟨m,hm⟩:∃ m,(ptsL (l.drop (sizeL l))).2=m:=⟨_,rfl⟩;rw [hm] at ih e0;rw [e0];dsimp only;have hs:sizeL (l.take (sizeL l+m))=sizeL l:=sizeL_take h0 (by omega);have hne:l.take (sizeL l+m)≠[]:=by
    intro e;have h1:=congrArg List.length e;rw [List.length_take] at h1;have:=List.length_pos_iff.2 hl;rw [List.length_nil] at h1;omega
   rw [ptsL_step hne (by omega),hs];have e1:(l.take (sizeL l+m)).take (sizeL l)=l.take (sizeL l):=by rw [List.take_take,Nat.min_eq_left (by omega)]
   have e2:(l.take (sizeL l+m)).drop (sizeL l)=(l.drop (sizeL l)).take m:=by
    rw [List.drop_take,Nat.add_sub_cancel_left]
   rw [e1,e2,ih,hm]
theorem pts_le:∀ (n:Nat) (l:List UInt8),l.length<=n->(ptsL l).2<=l.length
 | 0,l,h=>by
  have:l=[]:=List.eq_nil_of_length_eq_zero (by omega);subst this;simp [ptsL_nil]
 | n+1,l,h=>by
  by_cases hl:l=[]
  ·subst hl;simp [ptsL_nil]
  by_cases h0:sizeL l=0
  ·rw [ptsL_bad h0];simp
  ·have hle:=(sizeL_le l).1;have ih:=pts_le n (l.drop (sizeL l)) (by simp;omega);rw [ptsL_step hl h0];simp at ih ⊢;omega
theorem count_ahead (s:ByteArray) (k:Nat) (h:(ptsL s.data.toList).2=k):Lib.runeCount (s.extract 0 k)=(ptsL s.data.toList).1.length:=by
 have e:(s.extract 0 k).data.toList=s.data.toList.take k:=by rw [extract_take]
 have ht:=pts_take _ s.data.toList (Nat.le_refl _);rw [h] at ht;have hle:=pts_le _ s.data.toList (Nat.le_refl _);rw [h,size_toList] at hle;have hsz:(s.extract 0 k).size=k:=by rw [ByteArray.size_extract];omega
 have:=(count_pts (s.extract 0 k) (s.extract 0 k).size 0 (by omega) (by omega) (by rw [List.drop_zero,e,ht,h,hsz];omega)).1;rw [List.drop_zero,e,ht] at this;exact this
theorem dec_extract (s:ByteArray) (i:Nat) (hi:i<s.size):Utf8.decode (s.extract i s.size) 0=decN (s.data.toList.drop i):=by
 have hsz:(s.extract i s.size).size=s.size - i:=by rw [ByteArray.size_extract];omega
 rw [dec_at _ 0 (by omega),extract_drop,toList_mk,List.drop_zero]
end Go.Proofs.YthpldolmpinnhaaGreatDoor
