import Derived.Test.YthpldolmpinnhaaGreatDoorJF39
open List renaming getElem_cons_zero→z7,getElem_cons_succ→z8,set→zy
open UInt8 renaming toNat_inj→zx
namespace Go.Proofs.YthpldolmpinnhaaGreatDoor
open Go Go.RowKit
set_option maxRecDepth 10000
def B5(h:Nat)(c:UInt8):Nat:=(h ^^^ c.toNat)*16777619 % 4294967296
def Zz(b:Wd):Nat:=b.foldl B5 2166136261
def Yp(b:Wd):Nat:=b.foldl (fun v c=>v*256+c.toNat) 0
def j7:Wd:=[80,72,49]
def MB(b:Wd):Bool := !j7.isPrefixOf b || decide (65535<b.length) || decide (b.length<7) || decide (Yp (b.drop (b.length - 4))≠Zz (b.take (b.length - 4)))
theorem VJ(h:Nat)(c:UInt8):B5 h c<4294967296:=Nat.mod_lt _ (by decide)
theorem tZ(b:Wd):∀ h,h<4294967296->b.foldl B5 h<4294967296:=by
 induction b with
 | nil=>exact fun _ h=>h
 | cons c b ih=>exact fun h _=>ih _ (VJ h c)
theorem QR(b:Wd):Zz b<4294967296:=tZ b _ (by decide)
theorem mM{a b:Nat}(ha:a<4294967296)(hb:b<4294967296):a ^^^ b<4294967296:=Nat.xor_lt_two_pow (n:=32) ha hb
theorem tY{a b:Nat}(ha:a<4294967296)(hb:b<4294967296)(h:a*16777619 % 4294967296=b*16777619 % 4294967296):a=b:=by
 have e:∀ x:Nat,x<4294967296->x*16777619 % 4294967296*899433627 % 4294967296=x:=fun x hx=>by
  rw[Nat.mod_mul_mod,Nat.mul_assoc,show 16777619*899433627=3513497*4294967296+1 by decide,Nat.mul_add,Nat.mul_one,←Nat.mul_assoc,Nat.mul_add_mod_self_right];exact Nat.mod_eq_of_lt hx
 rw[←e a ha,←e b hb,h]
theorem MC{h k:Nat}{c d:UInt8}(hh:h<4294967296)(hk:k<4294967296)(e:B5 h c=B5 k d):h ^^^ c.toNat=k ^^^ d.toNat:=by
 have:=c.toNat_lt;have:=d.toNat_lt;exact tY (mM hh (by omega)) (mM hk (by omega)) e
theorem Dy{a b c:Nat}(h:a ^^^ c=b ^^^ c):a=b:=by
 have:=congrArg (· ^^^ c) h;simpa[Nat.xor_assoc] using this
theorem ME{a b c:Nat}(h:c ^^^ a=c ^^^ b):a=b:=Dy (c:=c) (by rwa [Nat.xor_comm a,Nat.xor_comm b])
theorem mN(b:Wd):∀ {h k},h<4294967296->k<4294967296->b.foldl B5 h=b.foldl B5 k->h=k:=by
 induction b with
 | nil=>exact fun _ _ h=>h
 | cons c b ih=>exact fun hh hk e=>Dy (MC hh hk (ih (VJ _ _) (VJ _ _) e))
theorem tX(b:Wd)(k:Nat)(x:UInt8)(hk:k<b.length):∀ h,h<4294967296->(b.set k x).foldl B5 h=b.foldl B5 h->x=b[k]:=by
 induction b generalizing k with
 | nil=>exact absurd hk (Nat.not_lt_zero _)
 | cons c b ih =>
  intro h hh e
  cases k with
  | zero =>
   have:=MC hh hh (mN b (VJ _ _) (VJ _ _) e);exact zx.1 (ME this)
  | succ k=>exact ih k (by simpa using hk) _ (VJ _ _) e
theorem V7(a b c d:UInt8):Yp [a,b,c,d]=((a.toNat*256+b.toNat)*256+c.toNat)*256+d.toNat:=by simp[Yp]
theorem Cx{x:Nat}(h:x<4294967296):Yp (kJ x)=x:=by
 rw[kJ,V7];simp only[bt,UInt8.toNat_ofNat'];omega
theorem tV(a b c d x:UInt8)(k:Nat)(hk:k<4)(e:Yp ([a,b,c,d].set k x)=Yp [a,b,c,d]):x=[a,b,c,d][k]:=by
 have:=a.toNat_lt;have:=b.toNat_lt;have:=c.toNat_lt;have:=d.toNat_lt;have:=x.toNat_lt;apply zx.1;match k,hk with
 | 0,_=>simp only[zy,V7,z7] at e ⊢;omega
 | 1,_=>simp only[zy,V7,z7,z8] at e ⊢;omega
 | 2,_=>simp only[zy,V7,z7,z8] at e ⊢;omega
 | 3,_=>simp only[zy,V7,z7,z8] at e ⊢;omega
theorem mO(b:Wd)(k:Nat)(x:UInt8)(hk:k<(b++kJ (Zz b)).length)(hx:x≠(b++kJ (Zz b))[k]):MB ((b++kJ (Zz b)).set k x)=true:=by
 have hl:(b++kJ (Zz b)).length=b.length+4:=by simp[kJ]
 unfold MB;have hn:decide (Yp (((b++kJ (Zz b)).set k x).drop (((b++kJ (Zz b)).set k x).length - 4))≠Zz (((b++kJ (Zz b)).set k x).take (((b++kJ (Zz b)).set k x).length - 4)))=true:=by
  apply decide_eq_true;rw[List.length_set,hl,Nat.add_sub_cancel];by_cases h:k<b.length
  ·rw[List.set_append_left _ _ h,List.drop_left' (by simp),List.take_left' (by simp),Cx (QR b)];intro e;apply hx;rw[List.getElem_append_left h];exact tX b k x h _ (by decide) e.symm
  ·rw[List.set_append_right _ _ (by omega),List.drop_left,List.take_left];intro e;apply hx;rw[List.getElem_append_right (by omega)];exact tV _ _ _ _ x (k - b.length) (by omega) (e.trans (Cx (QR b)).symm)
 rw[hn];simp
end Go.Proofs.YthpldolmpinnhaaGreatDoor
