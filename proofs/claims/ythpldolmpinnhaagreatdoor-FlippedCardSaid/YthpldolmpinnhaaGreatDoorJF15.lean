import Derived.Test.YthpldolmpinnhaaGreatDoorJF14
import Derived.Lib.MapLaws
import Derived.Lib.RuneCount
import Derived.Lib.ValidU
import GoSem.Conv.StringToRunes
open List renaming eq_nil_of_length_eq_zero→z7,drop_zero→zu,drop_of_length_le→zk,length_pos_iff→zg,length_take→zf,length_drop→zZ,take_take→zX
open Go.Conv renaming runesFrom→z8
open Go.Lib renaming validGoD→zy,runeCountFrom→zx
open ByteArray renaming size_extract→zv
open Nat renaming le_refl→zj,min_eq_left→zY
namespace Go.Proofs.YthpldolmpinnhaaGreatDoor
open Go Go.RowKit
set_option maxRecDepth 10000
theorem NC(l:List UInt8):Lib.decodeL l=Zb l:=Lib.decodeL_N l
theorem IK:∀ (n:Nat) (l:List UInt8),l.length<=n->(zy n l=true ↔ (uH l).2=l.length)
 | 0,l,h=>by
  have:l=[]:=z7 (by omega);subst this;simp[zy,kH]
 | n+1,[],_=>by simp[zy,kH]
 | n+1,a::r,h=>by
  have xc:a::r≠[]:=by simp
  rw[zy,if_neg xc,NC];rcases Jm a r with⟨h1,h2⟩|⟨h1,h2,h3⟩
  ·rw[h2,if_pos ⟨rfl,rfl⟩,Zp h1];simp
  ·have hle:=(XB (a::r)).1;rw[if_neg h3,←h1,gj xc (by omega),IK n _ (by simp;simp at h;omega)];simp only[zZ];omega
theorem bK(l:List UInt8):Lib.validD l=true ↔ (uH l).2=l.length:=IK l.length l (zj _)
def xm(l:List UInt8):List Int :=
 if h:l=[]\/xh l=0 then [] else ((Zb l).1:Int)::xm (l.drop (xh l))
termination_by l.length
decreasing_by
 have h1:l≠[]:=fun e=>h (.inl e)
 have h2:xh l≠0:=fun e=>h (.inr e)
 have:=zg.2 h1;simp;omega
theorem jr:xm []=[]:=by rw[xm];simp
theorem dY{l:List UInt8}(h0:l≠[])(h:xh l≠0):xm l=((Zb l).1:Int)::xm (l.drop (xh l)):=by
 rw[xm,dif_neg (by rintro(q|q)<;>contradiction)]
theorem Zr:∀ (n:Nat) (l:List UInt8),l.length<=n->(xm l).map Lib.encodeRune=(uH l).1
 | 0,l,h=>by
  have:l=[]:=z7 (by omega);subst this;simp[jr,kH]
 | n+1,[],_=>by simp[jr,kH]
 | n+1,a::r,h=>by
  have xc:a::r≠[]:=by simp
  rcases Jm a r with⟨h1,h2⟩|⟨h1,h2,h3⟩
  ·rw[Zp h1,xm,dif_pos (.inr h1)];rfl
  ·rw[dY xc (by omega),gj xc (by omega),List.map_cons,Zr n _ (by simp;simp at h;omega)];have he:=Lib.encode_decode (a::r) xc (by rw[NC];exact h3);rw[NC] at he;rw[he,h1]
theorem NH(s:ByteArray)(i:Nat)(hi:i<s.size):Utf8.decode s i=Zb (s.data.toList.drop i):=by
 rw[Lib.decode_at];unfold Zb;have e:∀ k,s.get! (i+k)=(s.data.toList.drop i).getD k 0:=fun k=>by
  rw[List.getD_eq_getElem?_getD,List.getElem?_drop];by_cases hk:i+k<s.size
  ·rw[List.getElem?_eq_getElem (by simpa using hk)];show s.data[i+k]! = _;rw[getElem!_pos s.data (i+k) (by simpa using hk)];simp
  ·rw[List.getElem?_eq_none (by simp;omega)];show s.data[i+k]! = _;rw[getElem!_neg s.data (i+k) (by simpa using hk)];rfl
 have e0:=e 0;rw[Nat.add_zero] at e0;rw[e0,e 1,e 2,e 3];simp
theorem gg(s:ByteArray):∀ (fuel pos:Nat),s.size - pos<=fuel->pos<=s.size->(uH (s.data.toList.drop pos)).2=s.size - pos->zx s fuel pos=(uH (s.data.toList.drop pos)).1.length /\
   ∀ acc,z8 s fuel pos acc=acc++((xm (s.data.toList.drop pos)).map (Value.int .i32)).toArray
 | 0,pos,h,hp,hv=>by
  have hz:s.data.toList.drop pos=[]:=zk (by simp;omega);rw[hz,kH,jr];exact⟨rfl,fun acc=>by simp[z8]⟩
 | fuel+1,pos,h,hp,hv=>by
  by_cases xD:pos<s.size
  ·have xc:s.data.toList.drop pos≠[]:=by simp;omega
   have hd:=NH s pos xD;have ku:GM (s.data.toList.drop pos):=by
    cases hl:s.data.toList.drop pos with
    | nil=>exact absurd hl xc
    | cons a r=>exact Jm a r
   rcases ku with⟨h1,h2⟩|⟨h1,h2,h3⟩
   ·rw[Zp h1] at hv;simp at hv;omega
   ·have hle:=(XB (s.data.toList.drop pos)).1;simp only[zZ,xA] at hle;rw[gj xc (by omega)] at hv;have hdd:(s.data.toList.drop pos).drop (xh (s.data.toList.drop pos))=s.data.toList.drop (pos+xh (s.data.toList.drop pos)):=by rw[List.drop_drop]
    rw[hdd] at hv;have ih:=gg s fuel (pos+xh (s.data.toList.drop pos)) (by omega) (by omega) (by simp at hv;omega);rw[gj xc (by omega),dY xc (by omega),hdd];constructor
    ·rw[zx,if_pos xD,hd,←h1,ih.1];simp;omega
    ·intro acc;rw[z8,if_pos xD,hd];dsimp only;rw[←h1,ih.2];simp
  ·have hz:s.data.toList.drop pos=[]:=zk (by simp;omega);rw[hz,kH,jr];exact⟨by rw[zx,if_neg xD];rfl,fun acc=>by rw[z8,if_neg xD];simp⟩
theorem IJ{l:List UInt8}{n v m:Nat}(h:n<=m)(hn:n<=l.length)(h1:1<=n):qq (l.take m) n v=qq l n v:=by
 have e1:¬(l.take m).length<n:=by rw[zf];omega
 have e2:¬l.length<n:=by omega
 have e3:(l.take m).tail.take (n - 1)=l.tail.take (n - 1):=by
  cases l with
  | nil=>simp
  | cons a t =>
   cases m with
   | zero=>omega
   | succ m=>simp only[List.take_succ_cons,List.tail_cons,zX];rw[zY (by omega)]
 unfold qq;rw[if_neg e1,if_neg e2,e3]
theorem NI(l:List UInt8)(n v:Nat):qq l n v=0\/(qq l n v=n/\n<=l.length):=by
 unfold qq;split
 ·exact .inl rfl
 split
 ·exact .inl rfl
 split
 ·exact .inl rfl
 ·exact .inr ⟨rfl,by omega⟩
theorem NL{l:List UInt8}{m:Nat}(h0:xh l≠0)(h:xh l<=m):xh (l.take m)=xh l:=by
 have hh:∀ k,1<=k->(l.take k).headD 0=l.headD 0:=fun k hk=>by
  cases l with
  | nil=>simp
  | cons a t =>
   cases k with
   | zero=>omega
   | succ k=>simp
 have key:∀ n v,1<=n->xh l=qq l n v->(xh (l.take m)=qq (l.take m) n v)->xh (l.take m)=xh l:=fun n v h1 e1 e2=>by
  rcases NI l n v with q|⟨q1,q2⟩
  ·rw[e1,q] at h0;exact absurd rfl h0
  ·rw[e2,e1,IJ (by rw[e1,q1] at h;exact h) q2 h1]
 have hm:1<=m:=by omega
 have hd:=hh m hm;have e:∀ n v,_:=fun n v=>@qE l n v
 have e':∀ n v,_:=fun n v=>@qE (l.take m) n v
 have xD:=(l.headD 0).toNat_lt;by_cases c1:240<=(l.headD 0).toNat/\(l.headD 0).toNat<248
 ·exact key 4 _ (by decide) (qE (.inl ⟨c1.1,c1.2,rfl,rfl⟩)) (qE (.inl ⟨by rw[hd];exact c1.1,by rw[hd];exact c1.2,rfl,by rw[hd]⟩))
 by_cases c2:224<=(l.headD 0).toNat/\(l.headD 0).toNat<240
 ·exact key 3 _ (by decide) (qE (.inr (.inl ⟨c2.1,c2.2,rfl,rfl⟩))) (qE (.inr (.inl ⟨by rw[hd];exact c2.1,by rw[hd];exact c2.2,rfl,by rw[hd]⟩)))
 by_cases c3:192<=(l.headD 0).toNat/\(l.headD 0).toNat<224
 ·exact key 2 _ (by decide) (qE (.inr (.inr (.inl ⟨c3.1,c3.2,rfl,rfl⟩)))) (qE (.inr (.inr (.inl ⟨by rw[hd];exact c3.1,by rw[hd];exact c3.2,rfl,by rw[hd]⟩))))
 by_cases c4:(l.headD 0).toNat<128
 ·exact key 1 _ (by decide) (qE (.inr (.inr (.inr ⟨c4,rfl,rfl⟩)))) (qE (.inr (.inr (.inr ⟨by rw[hd];exact c4,rfl,by rw[hd]⟩))))
 ·exfalso;apply h0;unfold xh;dsimp only;rw[if_neg c1,if_neg c2,if_neg c3,if_pos (by omega)]
theorem IG:∀ (n:Nat) (l:List UInt8),l.length<=n->uH (l.take (uH l).2)=uH l
 | 0,l,h=>by
  have:l=[]:=z7 (by omega);subst this;simp
 | n+1,l,h=>by
  by_cases hl:l=[]
  ·subst hl;simp
  by_cases h0:xh l=0
  ·rw[Zp h0];simp[kH]
  ·have hle:=(XB l).1;have ih:=IG n (l.drop (xh l)) (by simp;omega);have e0:=gj hl h0;obtain⟨m,hm⟩:=xX ((uH (l.drop (xh l))).2);rw[hm] at ih e0;rw[e0];dsimp only;have hs:xh (l.take (xh l+m))=xh l:=NL h0 (by omega);have xc:l.take (xh l+m)≠[]:=by
    intro e;have h1:=congrArg List.length e;rw[zf] at h1;have:=zg.2 hl;rw[List.length_nil] at h1;omega
   rw[gj xc (by omega),hs];have e1:(l.take (xh l+m)).take (xh l)=l.take (xh l):=by rw[zX,zY (by omega)]
   have e2:(l.take (xh l+m)).drop (xh l)=(l.drop (xh l)).take m:=by
    rw[List.drop_take,Nat.add_sub_cancel_left]
   rw[e1,e2,ih,hm]
theorem Ao:∀ (n:Nat) (l:List UInt8),l.length<=n->(uH l).2<=l.length
 | 0,l,h=>by
  have:l=[]:=z7 (by omega);subst this;simp[kH]
 | n+1,l,h=>by
  by_cases hl:l=[]
  ·subst hl;simp[kH]
  by_cases h0:xh l=0
  ·rw[Zp h0];simp
  ·have hle:=(XB l).1;have ih:=Ao n (l.drop (xh l)) (by simp;omega);rw[gj hl h0];simp at ih ⊢;omega
theorem IF(s:ByteArray)(k:Nat)(h:(uH s.data.toList).2=k):Lib.runeCount (s.extract 0 k)=(uH s.data.toList).1.length:=by
 have e:(s.extract 0 k).data.toList=s.data.toList.take k:=by rw[qD]
 have ht:=IG _ s.data.toList (zj _);rw[h] at ht;have hle:=Ao _ s.data.toList (zj _);rw[h,xA] at hle;have qP:(s.extract 0 k).size=k:=by rw[zv];omega
 have:=(gg (s.extract 0 k) (s.extract 0 k).size 0 (by omega) (by omega) (by rw[zu,e,ht,h,qP];omega)).1;rw[zu,e,ht] at this;exact this
theorem ID(s:ByteArray)(i:Nat)(hi:i<s.size):Utf8.decode (s.extract i s.size) 0=Zb (s.data.toList.drop i):=by
 have qP:(s.extract i s.size).size=s.size - i:=by rw[zv];omega
 rw[NH _ 0 (by omega),qB,toList_mk,zu]
end Go.Proofs.YthpldolmpinnhaaGreatDoor
