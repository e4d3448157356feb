import Derived.Test.YthpldolmpinnhaaGreatDoorJG14
import Derived.Lib.MapLaws
import Derived.Lib.RuneCount
import Derived.Lib.ValidU
import GoSem.Conv.StringToRunes
open List renaming eq_nil_of_length_eq_zero→z7,drop_zero→zu,drop_of_length_le→zk,length_pos_iff→zg,length_take→zf,length_drop→zZ,take_take→zX
open Go.Conv renaming runesFrom→z8
open Go.Lib renaming validGoD→zy,runeCountFrom→zx
open ByteArray renaming size_extract→zv
open Nat renaming le_refl→zj,min_eq_left→zY
namespace Go.Proofs.YthpldolmpinnhaaGreatDoor
open Go Go.RowKit
set_option maxRecDepth 10000
theorem NR(l:List UInt8):Lib.decodeL l=ZX l:=Lib.decodeL_N l
theorem IE:∀ (n:Nat) (l:List UInt8),l.length<=n->(zy n l=true ↔ (uI l).2=l.length)
 | 0,l,h=>by
  have:l=[]:=z7 (by omega);subst this;simp[zy,kO]
 | n+1,[],_=>by simp[zy,kO]
 | n+1,a::r,h=>by
  have vy:a::r≠[]:=by simp
  rw[zy,if_neg vy,NR];rcases Gy a r with⟨h1,h2⟩|⟨h1,h2,h3⟩
  .rw[h2,if_pos ⟨rfl,rfl⟩,Y5 h1];simp
  .have hle:=(XM (a::r)).1;rw[if_neg h3,<-h1,gG vy (by omega),IE n _ (by simp;simp at h;omega)];simp only[zZ];omega
theorem bF(l:List UInt8):Lib.validD l=true ↔ (uI l).2=l.length:=IE l.length l (zj _)
def xm(l:List UInt8):List Int :=
 if h:l=[]\/xw l=0 then [] else ((ZX l).1:Int)::xm (l.drop (xw l))
termination_by l.length
decreasing_by
 have h1:l≠[]:=fun e=>h (.inl e)
 have h2:xw l≠0:=fun e=>h (.inr e)
 have:=zg.2 h1;simp;omega
theorem gq:xm []=[]:=by rw[xm];simp
theorem dG{l:List UInt8}(h0:l≠[])(h:xw l≠0):xm l=((ZX l).1:Int)::xm (l.drop (xw l)):=by
 rw[xm,dif_neg (by rintro(q|q)<;>contradiction)]
theorem Y6:∀ (n:Nat) (l:List UInt8),l.length<=n->(xm l).map Lib.encodeRune=(uI l).1
 | 0,l,h=>by
  have:l=[]:=z7 (by omega);subst this;simp[gq,kO]
 | n+1,[],_=>by simp[gq,kO]
 | n+1,a::r,h=>by
  have vy:a::r≠[]:=by simp
  rcases Gy a r with⟨h1,h2⟩|⟨h1,h2,h3⟩
  .rw[Y5 h1,xm,dif_pos (.inr h1)];rfl
  .rw[dG vy (by omega),gG vy (by omega),List.map_cons,Y6 n _ (by simp;simp at h;omega)];have he:=Lib.encode_decode (a::r) vy (by rw[NR];exact h3);rw[NR] at he;rw[he,h1]
theorem NS(s:ByteArray)(i:Nat)(hi:i<s.size):Utf8.decode s i=ZX (s.data.toList.drop i):=by
 rw[Lib.decode_at];unfold ZX;have e:∀ k,s.get! (i+k)=(s.data.toList.drop i).getD k 0:=fun k=>by
  rw[List.getD_eq_getElem?_getD,List.getElem?_drop];by_cases hk:i+k<s.size
  .rw[List.getElem?_eq_getElem (by simpa using hk)];show s.data[i+k]! = _;rw[getElem!_pos s.data (i+k) (by simpa using hk)];simp
  .rw[List.getElem?_eq_none (by simp;omega)];show s.data[i+k]! = _;rw[getElem!_neg s.data (i+k) (by simpa using hk)];rfl
 have e0:=e 0;rw[Nat.add_zero] at e0;rw[e0,e 1,e 2,e 3];simp
theorem gF(s:ByteArray):∀ (fuel pos:Nat),s.size - pos<=fuel->pos<=s.size->(uI (s.data.toList.drop pos)).2=s.size - pos->zx s fuel pos=(uI (s.data.toList.drop pos)).1.length /\
   ∀ acc,z8 s fuel pos acc=acc++((xm (s.data.toList.drop pos)).map (Value.int .i32)).toArray
 | 0,pos,h,hp,hv=>by
  have hz:s.data.toList.drop pos=[]:=zk (by simp;omega);rw[hz,kO,gq];exact⟨rfl,fun acc=>by simp[z8]⟩
 | fuel+1,pos,h,hp,hv=>by
  by_cases xB:pos<s.size
  .have vy:s.data.toList.drop pos≠[]:=by simp;omega
   have hd:=NS s pos xB;have kZ:Gt (s.data.toList.drop pos):=by
    cases hl:s.data.toList.drop pos with
    | nil=>exact absurd hl vy
    | cons a r=>exact Gy a r
   rcases kZ with⟨h1,h2⟩|⟨h1,h2,h3⟩
   .rw[Y5 h1] at hv;simp at hv;omega
   .have hle:=(XM (s.data.toList.drop pos)).1;simp only[zZ,xc] at hle;rw[gG vy (by omega)] at hv;have hdd:(s.data.toList.drop pos).drop (xw (s.data.toList.drop pos))=s.data.toList.drop (pos+xw (s.data.toList.drop pos)):=by rw[List.drop_drop]
    rw[hdd] at hv;have ih:=gF s fuel (pos+xw (s.data.toList.drop pos)) (by omega) (by omega) (by simp at hv;omega);rw[gG vy (by omega),dG vy (by omega),hdd];constructor
    .rw[zx,if_pos xB,hd,<-h1,ih.1];simp;omega
    .intro acc;rw[z8,if_pos xB,hd];dsimp only;rw[<-h1,ih.2];simp
  .have hz:s.data.toList.drop pos=[]:=zk (by simp;omega);rw[hz,kO,gq];exact⟨by rw[zx,if_neg xB];rfl,fun acc=>by rw[z8,if_neg xB];simp⟩
theorem IH{l:List UInt8}{n v m:Nat}(h:n<=m)(hn:n<=l.length)(h1:1<=n):qZ (l.take m) n v=qZ l n v:=by
 have e1:¬(l.take m).length<n:=by rw[zf];omega
 have e2:¬l.length<n:=by omega
 have e3:(l.take m).tail.take (n - 1)=l.tail.take (n - 1):=by
  cases l with
  | nil=>simp
  | cons a t =>
   cases m with
   | zero=>omega
   | succ m=>simp only[List.take_succ_cons,List.tail_cons,zX];rw[zY (by omega)]
 unfold qZ;rw[if_neg e1,if_neg e2,e3]
theorem NT(l:List UInt8)(n v:Nat):qZ l n v=0\/(qZ l n v=n/\n<=l.length):=by
 unfold qZ;split
 .exact .inl rfl
 split
 .exact .inl rfl
 split
 .exact .inl rfl
 .exact .inr ⟨rfl,by omega⟩
theorem NW{l:List UInt8}{m:Nat}(h0:xw l≠0)(h:xw l<=m):xw (l.take m)=xw l:=by
 have hh:∀ k,1<=k->(l.take k).headD 0=l.headD 0:=fun k hk=>by
  cases l with
  | nil=>simp
  | cons a t =>
   cases k with
   | zero=>omega
   | succ k=>simp
 have key:∀ n v,1<=n->xw l=qZ l n v->(xw (l.take m)=qZ (l.take m) n v)->xw (l.take m)=xw l:=fun n v h1 e1 e2=>by
  rcases NT l n v with q|⟨q1,q2⟩
  .rw[e1,q] at h0;exact absurd rfl h0
  .rw[e2,e1,IH (by rw[e1,q1] at h;exact h) q2 h1]
 have hm:1<=m:=by omega
 have hd:=hh m hm;have e:∀ n v,_:=fun n v=>@qL l n v
 have e':∀ n v,_:=fun n v=>@qL (l.take m) n v
 have xB:=(l.headD 0).toNat_lt;by_cases c1:240<=(l.headD 0).toNat/\(l.headD 0).toNat<248
 .exact key 4 _ (by decide) (qL (.inl ⟨c1.1,c1.2,rfl,rfl⟩)) (qL (.inl ⟨by rw[hd];exact c1.1,by rw[hd];exact c1.2,rfl,by rw[hd]⟩))
 by_cases c2:224<=(l.headD 0).toNat/\(l.headD 0).toNat<240
 .exact key 3 _ (by decide) (qL (.inr (.inl ⟨c2.1,c2.2,rfl,rfl⟩))) (qL (.inr (.inl ⟨by rw[hd];exact c2.1,by rw[hd];exact c2.2,rfl,by rw[hd]⟩)))
 by_cases c3:192<=(l.headD 0).toNat/\(l.headD 0).toNat<224
 .exact key 2 _ (by decide) (qL (.inr (.inr (.inl ⟨c3.1,c3.2,rfl,rfl⟩)))) (qL (.inr (.inr (.inl ⟨by rw[hd];exact c3.1,by rw[hd];exact c3.2,rfl,by rw[hd]⟩))))
 by_cases c4:(l.headD 0).toNat<128
 .exact key 1 _ (by decide) (qL (.inr (.inr (.inr ⟨c4,rfl,rfl⟩)))) (qL (.inr (.inr (.inr ⟨by rw[hd];exact c4,rfl,by rw[hd]⟩))))
 .exfalso;apply h0;unfold xw;dsimp only;rw[if_neg c1,if_neg c2,if_neg c3,if_pos (by omega)]
theorem II:∀ (n:Nat) (l:List UInt8),l.length<=n->uI (l.take (uI l).2)=uI l
 | 0,l,h=>by
  have:l=[]:=z7 (by omega);subst this;simp
 | n+1,l,h=>by
  by_cases hl:l=[]
  .subst hl;simp
  by_cases h0:xw l=0
  .rw[Y5 h0];simp[kO]
  .have hle:=(XM l).1;have ih:=II n (l.drop (xw l)) (by simp;omega);have e0:=gG hl h0;obtain⟨m,hm⟩:=xX ((uI (l.drop (xw l))).2);rw[hm] at ih e0;rw[e0];dsimp only;have hs:xw (l.take (xw l+m))=xw l:=NW h0 (by omega);have vy:l.take (xw l+m)≠[]:=by
    intro e;have h1:=congrArg List.length e;rw[zf] at h1;have:=zg.2 hl;rw[List.length_nil] at h1;omega
   rw[gG vy (by omega),hs];have e1:(l.take (xw l+m)).take (xw l)=l.take (xw l):=by rw[zX,zY (by omega)]
   have e2:(l.take (xw l+m)).drop (xw l)=(l.drop (xw l)).take m:=by
    rw[List.drop_take,Nat.add_sub_cancel_left]
   rw[e1,e2,ih,hm]
theorem aY:∀ (n:Nat) (l:List UInt8),l.length<=n->(uI l).2<=l.length
 | 0,l,h=>by
  have:l=[]:=z7 (by omega);subst this;simp[kO]
 | n+1,l,h=>by
  by_cases hl:l=[]
  .subst hl;simp[kO]
  by_cases h0:xw l=0
  .rw[Y5 h0];simp
  .have hle:=(XM l).1;have ih:=aY n (l.drop (xw l)) (by simp;omega);rw[gG hl h0];simp at ih |-
   omega
theorem IL(s:ByteArray)(k:Nat)(h:(uI s.data.toList).2=k):Lib.runeCount (s.extract 0 k)=(uI s.data.toList).1.length:=by
 have e:(s.extract 0 k).data.toList=s.data.toList.take k:=by rw[qE]
 have ht:=II _ s.data.toList (zj _);rw[h] at ht;have hle:=aY _ s.data.toList (zj _);rw[h,xc] at hle;have qc:(s.extract 0 k).size=k:=by rw[zv];omega
 have:=(gF (s.extract 0 k) (s.extract 0 k).size 0 (by omega) (by omega) (by rw[zu,e,ht,h,qc];omega)).1;rw[zu,e,ht] at this;exact this
theorem IM(s:ByteArray)(i:Nat)(hi:i<s.size):Utf8.decode (s.extract i s.size) 0=ZX (s.data.toList.drop i):=by
 have qc:(s.extract i s.size).size=s.size - i:=by rw[zv];omega
 rw[NS _ 0 (by omega),qH,toList_mk,zu]
end Go.Proofs.YthpldolmpinnhaaGreatDoor
