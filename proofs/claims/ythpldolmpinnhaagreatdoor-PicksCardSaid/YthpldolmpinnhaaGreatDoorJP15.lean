import Derived.Test.YthpldolmpinnhaaGreatDoorJP14
import Derived.Lib.MapLaws
import Derived.Lib.RuneCount
import Derived.Lib.ValidU
import GoSem.Conv.StringToRunes
open List renaming eq_nil_of_length_eq_zero→z7,drop_zero→zu,drop_of_length_le→zk,length_pos_iff→zg,length_take→zf,length_drop→zZ,take_take→zX
open Go.Conv renaming runesFrom→z8
open Go.Lib renaming validGoD→zy,runeCountFrom→zx
open ByteArray renaming size_extract→zv
open Nat renaming le_refl→zj,min_eq_left→zY
namespace Go.Proofs.YthpldolmpinnhaaGreatDoor
open Go Go.RowKit
set_option maxRecDepth 10000
theorem Mn(l:List UInt8):Lib.decodeL l=dL l:=Lib.decodeL_N l
theorem Hc:∀ (n:Nat) (l:List UInt8),l.length<=n->(zy n l=true ↔ (vo l).2=l.length)
 | 0,l,h=>by
  have:l=[]:=z7 (by omega);subst this;simp[zy,qT]
 | n+1,[],_=>by simp[zy,qT]
 | n+1,a::r,h=>by
  have xw:a::r≠[]:=by simp
  rw[zy,if_neg xw,Mn];rcases JL a r with⟨h1,h2⟩|⟨h1,h2,h3⟩
  ·rw[h2,if_pos ⟨rfl,rfl⟩,Y0 h1];simp
  ·have hle:=(XU (a::r)).1;rw[if_neg h3,←h1,jF xw (by omega),Hc n _ (by simp;simp at h;omega)];simp only[zZ];omega
theorem bG(l:List UInt8):Lib.validD l=true ↔ (vo l).2=l.length:=Hc l.length l (zj _)
def xO(l:List UInt8):List Int :=
 if h:l=[]\/xr l=0 then [] else ((dL l).1:Int)::xO (l.drop (xr l))
termination_by l.length
decreasing_by
 have h1:l≠[]:=fun e=>h (.inl e)
 have h2:xr l≠0:=fun e=>h (.inr e)
 have:=zg.2 h1;simp;omega
theorem kC:xO []=[]:=by rw[xO];simp
theorem jb{l:List UInt8}(h0:l≠[])(h:xr l≠0):xO l=((dL l).1:Int)::xO (l.drop (xr l)):=by
 rw[xO,dif_neg (by rintro(q|q)<;>contradiction)]
theorem gV:∀ (n:Nat) (l:List UInt8),l.length<=n->(xO l).map Lib.encodeRune=(vo l).1
 | 0,l,h=>by
  have:l=[]:=z7 (by omega);subst this;simp[kC,qT]
 | n+1,[],_=>by simp[kC,qT]
 | n+1,a::r,h=>by
  have xw:a::r≠[]:=by simp
  rcases JL a r with⟨h1,h2⟩|⟨h1,h2,h3⟩
  ·rw[Y0 h1,xO,dif_pos (.inr h1)];rfl
  ·rw[jb xw (by omega),jF xw (by omega),List.map_cons,gV n _ (by simp;simp at h;omega)];have he:=Lib.encode_decode (a::r) xw (by rw[Mn];exact h3);rw[Mn] at he;rw[he,h1]
theorem Mo(s:ByteArray)(i:Nat)(hi:i<s.size):Utf8.decode s i=dL (s.data.toList.drop i):=by
 rw[Lib.decode_at];unfold dL;have e:∀ k,s.get! (i+k)=(s.data.toList.drop i).getD k 0:=fun k=>by
  rw[List.getD_eq_getElem?_getD,List.getElem?_drop];by_cases hk:i+k<s.size
  ·rw[List.getElem?_eq_getElem (by simpa using hk)];show s.data[i+k]! = _;rw[getElem!_pos s.data (i+k) (by simpa using hk)];simp
  ·rw[List.getElem?_eq_none (by simp;omega)];show s.data[i+k]! = _;rw[getElem!_neg s.data (i+k) (by simpa using hk)];rfl
 have e0:=e 0;rw[Nat.add_zero] at e0;rw[e0,e 1,e 2,e 3];simp
theorem gU(s:ByteArray):∀ (fuel pos:Nat),s.size - pos<=fuel->pos<=s.size->(vo (s.data.toList.drop pos)).2=s.size - pos->zx s fuel pos=(vo (s.data.toList.drop pos)).1.length /\
   ∀ acc,z8 s fuel pos acc=acc++((xO (s.data.toList.drop pos)).map (Value.int .i32)).toArray
 | 0,pos,h,hp,hv=>by
  have hz:s.data.toList.drop pos=[]:=zk (by simp;omega);rw[hz,qT,kC];exact⟨rfl,fun acc=>by simp[z8]⟩
 | fuel+1,pos,h,hp,hv=>by
  by_cases xC:pos<s.size
  ·have xw:s.data.toList.drop pos≠[]:=by simp;omega
   have hd:=Mo s pos xC;have ki:Gb (s.data.toList.drop pos):=by
    cases hl:s.data.toList.drop pos with
    | nil=>exact absurd hl xw
    | cons a r=>exact JL a r
   rcases ki with⟨h1,h2⟩|⟨h1,h2,h3⟩
   ·rw[Y0 h1] at hv;simp at hv;omega
   ·have hle:=(XU (s.data.toList.drop pos)).1;simp only[zZ,xN] at hle;rw[jF xw (by omega)] at hv;have hdd:(s.data.toList.drop pos).drop (xr (s.data.toList.drop pos))=s.data.toList.drop (pos+xr (s.data.toList.drop pos)):=by rw[List.drop_drop]
    rw[hdd] at hv;have ih:=gU s fuel (pos+xr (s.data.toList.drop pos)) (by omega) (by omega) (by simp at hv;omega);rw[jF xw (by omega),jb xw (by omega),hdd];constructor
    ·rw[zx,if_pos xC,hd,←h1,ih.1];simp;omega
    ·intro acc;rw[z8,if_pos xC,hd];dsimp only;rw[←h1,ih.2];simp
  ·have hz:s.data.toList.drop pos=[]:=zk (by simp;omega);rw[hz,qT,kC];exact⟨by rw[zx,if_neg xC];rfl,fun acc=>by rw[z8,if_neg xC];simp⟩
theorem He{l:List UInt8}{n v m:Nat}(h:n<=m)(hn:n<=l.length)(h1:1<=n):qu (l.take m) n v=qu l n v:=by
 have e1:¬(l.take m).length<n:=by rw[zf];omega
 have e2:¬l.length<n:=by omega
 have e3:(l.take m).tail.take (n - 1)=l.tail.take (n - 1):=by
  cases l with
  | nil=>simp
  | cons a t =>
   cases m with
   | zero=>omega
   | succ m=>simp only[List.take_succ_cons,List.tail_cons,zX];rw[zY (by omega)]
 unfold qu;rw[if_neg e1,if_neg e2,e3]
theorem Mp(l:List UInt8)(n v:Nat):qu l n v=0\/(qu l n v=n/\n<=l.length):=by
 unfold qu;split
 ·exact .inl rfl
 split
 ·exact .inl rfl
 split
 ·exact .inl rfl
 ·exact .inr ⟨rfl,by omega⟩
theorem Mr{l:List UInt8}{m:Nat}(h0:xr l≠0)(h:xr l<=m):xr (l.take m)=xr l:=by
 have hh:∀ k,1<=k->(l.take k).headD 0=l.headD 0:=fun k hk=>by
  cases l with
  | nil=>simp
  | cons a t =>
   cases k with
   | zero=>omega
   | succ k=>simp
 have key:∀ n v,1<=n->xr l=qu l n v->(xr (l.take m)=qu (l.take m) n v)->xr (l.take m)=xr l:=fun n v h1 e1 e2=>by
  rcases Mp l n v with q|⟨q1,q2⟩
  ·rw[e1,q] at h0;exact absurd rfl h0
  ·rw[e2,e1,He (by rw[e1,q1] at h;exact h) q2 h1]
 have hm:1<=m:=by omega
 have hd:=hh m hm;have e:∀ n v,_:=fun n v=>@qR l n v
 have e':∀ n v,_:=fun n v=>@qR (l.take m) n v
 have xC:=(l.headD 0).toNat_lt;by_cases c1:240<=(l.headD 0).toNat/\(l.headD 0).toNat<248
 ·exact key 4 _ (by decide) (qR (.inl ⟨c1.1,c1.2,rfl,rfl⟩)) (qR (.inl ⟨by rw[hd];exact c1.1,by rw[hd];exact c1.2,rfl,by rw[hd]⟩))
 by_cases c2:224<=(l.headD 0).toNat/\(l.headD 0).toNat<240
 ·exact key 3 _ (by decide) (qR (.inr (.inl ⟨c2.1,c2.2,rfl,rfl⟩))) (qR (.inr (.inl ⟨by rw[hd];exact c2.1,by rw[hd];exact c2.2,rfl,by rw[hd]⟩)))
 by_cases c3:192<=(l.headD 0).toNat/\(l.headD 0).toNat<224
 ·exact key 2 _ (by decide) (qR (.inr (.inr (.inl ⟨c3.1,c3.2,rfl,rfl⟩)))) (qR (.inr (.inr (.inl ⟨by rw[hd];exact c3.1,by rw[hd];exact c3.2,rfl,by rw[hd]⟩))))
 by_cases c4:(l.headD 0).toNat<128
 ·exact key 1 _ (by decide) (qR (.inr (.inr (.inr ⟨c4,rfl,rfl⟩)))) (qR (.inr (.inr (.inr ⟨by rw[hd];exact c4,rfl,by rw[hd]⟩))))
 ·exfalso;apply h0;unfold xr;dsimp only;rw[if_neg c1,if_neg c2,if_neg c3,if_pos (by omega)]
theorem Hl:∀ (n:Nat) (l:List UInt8),l.length<=n->vo (l.take (vo l).2)=vo l
 | 0,l,h=>by
  have:l=[]:=z7 (by omega);subst this;simp
 | n+1,l,h=>by
  by_cases hl:l=[]
  ·subst hl;simp
  by_cases h0:xr l=0
  ·rw[Y0 h0];simp[qT]
  ·have hle:=(XU l).1;have ih:=Hl n (l.drop (xr l)) (by simp;omega);have e0:=jF hl h0;obtain⟨m,hm⟩:∃ m,(vo (l.drop (xr l))).2=m:=⟨_,rfl⟩;rw[hm] at ih e0;rw[e0];dsimp only;have hs:xr (l.take (xr l+m))=xr l:=Mr h0 (by omega);have xw:l.take (xr l+m)≠[]:=by
    intro e;have h1:=congrArg List.length e;rw[zf] at h1;have:=zg.2 hl;rw[List.length_nil] at h1;omega
   rw[jF xw (by omega),hs];have e1:(l.take (xr l+m)).take (xr l)=l.take (xr l):=by rw[zX,zY (by omega)]
   have e2:(l.take (xr l+m)).drop (xr l)=(l.drop (xr l)).take m:=by
    rw[List.drop_take,Nat.add_sub_cancel_left]
   rw[e1,e2,ih,hm]
theorem AG:∀ (n:Nat) (l:List UInt8),l.length<=n->(vo l).2<=l.length
 | 0,l,h=>by
  have:l=[]:=z7 (by omega);subst this;simp[qT]
 | n+1,l,h=>by
  by_cases hl:l=[]
  ·subst hl;simp[qT]
  by_cases h0:xr l=0
  ·rw[Y0 h0];simp
  ·have hle:=(XU l).1;have ih:=AG n (l.drop (xr l)) (by simp;omega);rw[jF hl h0];simp at ih ⊢;omega
theorem Hm(s:ByteArray)(k:Nat)(h:(vo s.data.toList).2=k):Lib.runeCount (s.extract 0 k)=(vo s.data.toList).1.length:=by
 have e:(s.extract 0 k).data.toList=s.data.toList.take k:=by rw[qM]
 have ht:=Hl _ s.data.toList (zj _);rw[h] at ht;have hle:=AG _ s.data.toList (zj _);rw[h,xN] at hle;have qs:(s.extract 0 k).size=k:=by rw[zv];omega
 have:=(gU (s.extract 0 k) (s.extract 0 k).size 0 (by omega) (by omega) (by rw[zu,e,ht,h,qs];omega)).1;rw[zu,e,ht] at this;exact this
theorem Hn(s:ByteArray)(i:Nat)(hi:i<s.size):Utf8.decode (s.extract i s.size) 0=dL (s.data.toList.drop i):=by
 have qs:(s.extract i s.size).size=s.size - i:=by rw[zv];omega
 rw[Mo _ 0 (by omega),qO,toList_mk,zu]
end Go.Proofs.YthpldolmpinnhaaGreatDoor
