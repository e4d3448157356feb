import Derived.Test.YthpldolmpinnhaaGreatDoorJG13
import Derived.Lib.DecodeN
open Go.Lib renaming decodeN→z7
open Bool renaming and_eq_true→z8,and_true→zx
open List renaming all_cons→zy,all_nil→zv
namespace Go.Proofs.YthpldolmpinnhaaGreatDoor
open Go Go.RowKit
set_option maxRecDepth 10000
def ZX(l:List UInt8):Nat×Nat:=z7 l.length (l.getD 0 0).toNat (l.getD 1 0).toNat (l.getD 2 0).toNat (l.getD 3 0).toNat
theorem Uy(c:UInt8):bw c=decide (128<=c.toNat/\c.toNat<=191):=by
 by_cases h:bw c=true
 .have:=(Gs c).1 h;rw[h,decide_eq_true (by omega)]
 .have h':bw c=false:=by simpa using h
  rw[h',eq_comm,decide_eq_false_iff_not];intro hc;exact h ((Gs c).2 (by omega))
abbrev VI(v:Nat):Prop:=v<=1114111/\(v<55296\/57343<v)
theorem IC(v:Nat):fX (v:Int)=true ↔ VI v:=by
 unfold fX VI;simp only[decide_eq_true_eq];omega
theorem YP(l t:List UInt8)(n v x:Nat)(hl:n<=l.length)(ht:l.tail.take (n - 1)=t)(hx:t.all bw=true->aZ t v=x) :
  qZ l n v=if t.all bw=true/\least n<=(x:Int)/\VI x then n else 0:=by
 unfold qZ;rw[if_neg (by omega),ht];by_cases h1:t.all bw=true
 .have h0:¬(t.all bw=false):=by rw[h1];simp
  rw[hx h1,if_neg h0];by_cases h2:least n<=(x:Int)/\VI x
  .have r1:¬((x:Int)<least n\/fX (x:Int)=false):=by
    rintro(h3|h3)
    .omega
    .rw[(IC x).2 h2.2] at h3;cases h3
   rw[if_neg r1,if_pos ⟨h1,h2⟩]
  .have r1:(x:Int)<least n\/fX (x:Int)=false:=by
    by_cases h3:least n<=(x:Int)
    .refine .inr ?_;rw[<-Bool.not_eq_true,IC];exact fun h=>h2 ⟨h3,h⟩
    .exact .inl (by omega)
   rw[if_pos r1,if_neg (fun h=>h2 h.2)]
 .have h0:t.all bw=false:=by simpa using h1
  rw[if_pos h0,if_neg (fun h=>h1 h.1)]
theorem dN1{n b0 b1 b2 b3:Nat}(h:b0<128):z7 n b0 b1 b2 b3=(b0,1):=by rw[z7,if_pos h]
theorem zig{n b0 b1 b2 b3:Nat}(h:(128<=b0/\b0<192)\/248<=b0):z7 n b0 b1 b2 b3=(65533,1):=by
 rw[z7,if_neg (by omega),if_neg (by omega),if_neg (by omega),if_neg (by omega)]
theorem dN2{n b0 b1 b2 b3:Nat}(h:192<=b0/\b0<224) :
  z7 n b0 b1 b2 b3=if (1<n/\128<=b1/\b1<=191)/\128<=64*(b0 - 192)+(b1 - 128) then (64*(b0 - 192)+(b1 - 128),2) else (65533,1):=by
 rw[z7,if_neg (by omega)];by_cases h1:1<n/\128<=b1/\b1<=191
 .have e:b0 % 32*64+b1 % 64=64*(b0 - 192)+(b1 - 128):=by omega
  rw[if_pos (by omega),e];by_cases h2:128<=64*(b0 - 192)+(b1 - 128)
  .rw[if_pos h2,if_pos ⟨h1,h2⟩]
  .rw[if_neg h2,if_neg (fun hh=>h2 hh.2)]
 .by_cases h3:b0 / 32=6/\1<n/\b1 / 64=2
  .exfalso;omega
  .rw[if_neg h3,if_neg (by omega),if_neg (by omega),if_neg (fun hh=>h1 hh.1)]
theorem dN3{n b0 b1 b2 b3:Nat}(h:224<=b0/\b0<240) :
  z7 n b0 b1 b2 b3=if (2<n/\(128<=b1/\b1<=191)/\128<=b2/\b2<=191)/\2048<=64*(64*(b0 - 224)+(b1 - 128))+(b2 - 128)/\VI (64*(64*(b0 - 224)+(b1 - 128))+(b2 - 128)) then (64*(64*(b0 - 224)+(b1 - 128))+(b2 - 128),3) else (65533,1):=by
 rw[z7,if_neg (by omega),if_neg (by omega)];by_cases h1:2<n/\(128<=b1/\b1<=191)/\128<=b2/\b2<=191
 .have e:b0 % 16*4096+b1 % 64*64+b2 % 64=64*(64*(b0 - 224)+(b1 - 128))+(b2 - 128):=by omega
  rw[if_pos (by omega),e];generalize 64*(64*(b0 - 224)+(b1 - 128))+(b2 - 128)=v;by_cases h2:2048<=v/\VI v
  .rw[if_pos (by unfold VI at h2;omega),if_pos ⟨h1,h2⟩]
  .rw[if_neg (by unfold VI at h2;omega),if_neg (fun hh=>h2 hh.2)]
 .by_cases h3:b0 / 16=14/\(1<n/\b1 / 64=2)/\2<n/\b2 / 64=2
  .exfalso;omega
  .rw[if_neg h3,if_neg (by omega),if_neg (fun hh=>h1 hh.1)]
theorem dN4{n b0 b1 b2 b3:Nat}(h:240<=b0/\b0<248) :
  z7 n b0 b1 b2 b3=if (3<n/\(128<=b1/\b1<=191)/\(128<=b2/\b2<=191)/\128<=b3/\b3<=191)/\65536<=64*(64*(64*(b0 - 240)+(b1 - 128))+(b2 - 128))+(b3 - 128)/\VI (64*(64*(64*(b0 - 240)+(b1 - 128))+(b2 - 128))+(b3 - 128)) then (64*(64*(64*(b0 - 240)+(b1 - 128))+(b2 - 128))+(b3 - 128),4) else (65533,1):=by
 rw[z7,if_neg (by omega),if_neg (by omega),if_neg (by omega)];by_cases h1:3<n/\(128<=b1/\b1<=191)/\(128<=b2/\b2<=191)/\128<=b3/\b3<=191
 .have e:b0 % 8*262144+b1 % 64*4096+b2 % 64*64+b3 % 64=64*(64*(64*(b0 - 240)+(b1 - 128))+(b2 - 128))+(b3 - 128):=by omega
  rw[if_pos (by omega),e];generalize 64*(64*(64*(b0 - 240)+(b1 - 128))+(b2 - 128))+(b3 - 128)=v;by_cases h2:65536<=v/\VI v
  .rw[if_pos (by unfold VI at h2;omega),if_pos ⟨h1,h2⟩]
  .rw[if_neg (by unfold VI at h2;omega),if_neg (fun hh=>h2 hh.2)]
 .by_cases h3:b0 / 8=30/\(1<n/\b1 / 64=2)/\(2<n/\b2 / 64=2)/\3<n/\b3 / 64=2
  .exfalso;omega
  .rw[if_neg h3,if_neg (fun hh=>h1 hh.1)]
def Gt(l:List UInt8):Prop:=(xw l=0/\ZX l=(65533,1))\/(xw l=(ZX l).2/\0<xw l/\¬((ZX l).1=65533/\(ZX l).2=1))
theorem dY{a:UInt8}{r:List UInt8}(hd:ZX (a::r)=(65533,1))(hs:xw (a::r)=0)(_h:128<=a.toNat):Gt (a::r) := .inl ⟨hs,hd⟩
theorem NP{a:UInt8}{r:List UInt8}{v k:Nat}(hd:ZX (a::r)=(v,k))(hs:xw (a::r)=k)(h:1<k):Gt (a::r) :=
 .inr ⟨by rw[hs,hd],by omega,by rw[hd];intro q;have:=q.2;simp at this;omega⟩
theorem Gy(a:UInt8)(r:List UInt8):Gt (a::r):=by
 have hh:(a::r).headD 0=a:=rfl;have ha:=a.toNat_lt;by_cases c1:a.toNat<128
 .have hd:ZX (a::r)=(a.toNat,1):=dN1 (b0:=a.toNat) c1;have hs:xw (a::r)=1:=by
   rw[qL (l:=a::r) (n:=1) (v:=a.toNat) (.inr (.inr (.inr ⟨by rw[hh];omega,rfl,by rw[hh]⟩))),
    YP (a::r) [] 1 a.toNat a.toNat (by simp) (by simp) (fun _=>rfl),if_pos ⟨rfl,by simp[least],by unfold VI;omega⟩]
  exact .inr ⟨by rw[hs,hd],by omega,by rw[hd];intro q;have:=q.1;simp at this;omega⟩
 by_cases c2:a.toNat<192\/248<=a.toNat
 .refine dY (zig (b0:=a.toNat) (by omega)) ?_ (by omega);unfold xw;rw[hh,if_neg (by omega),if_neg (by omega),if_neg (by omega),if_pos (by omega)]
 by_cases c3:a.toNat<224
 .have hD:ZX (a::r)=_:=dN2 (n:=(a::r).length) (b0:=a.toNat) (b1:=((a::r).getD 1 0).toNat) (b2:=((a::r).getD 2 0).toNat) (b3:=((a::r).getD 3 0).toNat) (show 192<=a.toNat/\a.toNat<224 by omega);have hS:xw (a::r)=qZ (a::r) 2 (a.toNat - 192):=qL (l:=a::r) (n:=2) (v:=a.toNat - 192) (.inr (.inr (.inl ⟨by rw[hh];omega,by rw[hh];omega,rfl,by rw[hh]⟩)));match r,hD,hS with
  | [],hD,hS=>exact dY (by rw[hD,if_neg (by simp)]) (by rw[hS,jC (by simp)]) (by omega)
  | b::r,hD,hS =>
   have e1:(a::b::r).getD 1 0=b:=rfl;rw[e1] at hD;rw[YP _ [b] 2 _ (64*(a.toNat - 192)+(b.toNat - 128)) (by simp) (by simp) (fun _=>rfl)] at hS;simp only[zy,zv,zx,z8,Uy,decide_eq_true_eq] at hS;have hb:=b.toNat_lt;by_cases h:(128<=b.toNat/\b.toNat<=191)/\128<=(64*(a.toNat - 192)+(b.toNat - 128))
   .exact NP (by rw[hD,if_pos ⟨⟨by simp,h.1⟩,h.2⟩]) (by rw[hS,if_pos ⟨h.1,by simp[least];omega,by unfold VI;omega⟩]) (by decide)
   .exact dY (by rw[hD,if_neg (fun q=>h ⟨q.1.2,q.2⟩)]) (by rw[hS,if_neg (fun q=>h ⟨q.1,by have:=q.2.1;simp[least] at this;omega⟩)]) (by omega)
 by_cases c4:a.toNat<240
 .have hD:ZX (a::r)=_:=dN3 (n:=(a::r).length) (b0:=a.toNat) (b1:=((a::r).getD 1 0).toNat) (b2:=((a::r).getD 2 0).toNat) (b3:=((a::r).getD 3 0).toNat) (show 224<=a.toNat/\a.toNat<240 by omega);have hS:xw (a::r)=qZ (a::r) 3 (a.toNat - 224):=qL (l:=a::r) (n:=3) (v:=a.toNat - 224) (.inr (.inl ⟨by rw[hh];omega,by rw[hh];omega,rfl,by rw[hh]⟩));match r,hD,hS with
  | [],hD,hS=>exact dY (by rw[hD,if_neg (by simp)]) (by rw[hS,jC (by simp)]) (by omega)
  | [b],hD,hS=>exact dY (by rw[hD,if_neg (by simp)]) (by rw[hS,jC (by simp)]) (by omega)
  | b::c::r,hD,hS =>
   have e1:(a::b::c::r).getD 1 0=b:=rfl;have e2:(a::b::c::r).getD 2 0=c:=rfl;rw[e1,e2] at hD;rw[YP _ [b,c] 3 _ (64*(64*(a.toNat - 224)+(b.toNat - 128))+(c.toNat - 128)) (by simp) (by simp) (fun _=>rfl)] at hS;simp only[zy,zv,zx,z8,Uy,decide_eq_true_eq] at hS;have hb:=b.toNat_lt;have hc:=c.toNat_lt;generalize 64*(64*(a.toNat - 224)+(b.toNat - 128))+(c.toNat - 128)=v at hD hS;by_cases h:((128<=b.toNat/\b.toNat<=191)/\(128<=c.toNat/\c.toNat<=191))/\2048<=v/\VI v
   .exact NP (by rw[hD,if_pos ⟨⟨by simp,h.1⟩,h.2⟩]) (by rw[hS,if_pos ⟨h.1,by simp[least];omega,h.2.2⟩]) (by decide)
   .exact dY (by rw[hD,if_neg (fun q=>h ⟨q.1.2,q.2⟩)]) (by rw[hS,if_neg (fun q=>h ⟨q.1,by have:=q.2.1;simp[least] at this;omega,q.2.2⟩)]) (by omega)
 .have hD:ZX (a::r)=_:=dN4 (n:=(a::r).length) (b0:=a.toNat) (b1:=((a::r).getD 1 0).toNat) (b2:=((a::r).getD 2 0).toNat) (b3:=((a::r).getD 3 0).toNat) (show 240<=a.toNat/\a.toNat<248 by omega);have hS:xw (a::r)=qZ (a::r) 4 (a.toNat - 240):=qL (l:=a::r) (n:=4) (v:=a.toNat - 240) (.inl ⟨by rw[hh];omega,by rw[hh];omega,rfl,by rw[hh]⟩);match r,hD,hS with
  | [],hD,hS=>exact dY (by rw[hD,if_neg (by simp)]) (by rw[hS,jC (by simp)]) (by omega)
  | [b],hD,hS=>exact dY (by rw[hD,if_neg (by simp)]) (by rw[hS,jC (by simp)]) (by omega)
  | [b,c],hD,hS=>exact dY (by rw[hD,if_neg (by simp)]) (by rw[hS,jC (by simp)]) (by omega)
  | b::c::d::r,hD,hS =>
   have e1:(a::b::c::d::r).getD 1 0=b:=rfl;have e2:(a::b::c::d::r).getD 2 0=c:=rfl;have e3:(a::b::c::d::r).getD 3 0=d:=rfl;rw[e1,e2,e3] at hD;rw[YP _ [b,c,d] 4 _ (64*(64*(64*(a.toNat - 240)+(b.toNat - 128))+(c.toNat - 128))+(d.toNat - 128)) (by simp) (by simp) (fun _=>rfl)] at hS;simp only[zy,zv,zx,z8,Uy,decide_eq_true_eq] at hS;have hb:=b.toNat_lt;have hc:=c.toNat_lt;have hd:=d.toNat_lt;generalize 64*(64*(64*(a.toNat - 240)+(b.toNat - 128))+(c.toNat - 128))+(d.toNat - 128)=v at hD hS;by_cases h:((128<=b.toNat/\b.toNat<=191)/\(128<=c.toNat/\c.toNat<=191)/\(128<=d.toNat/\d.toNat<=191))/\65536<=v/\VI v
   .exact NP (by rw[hD,if_pos ⟨⟨by simp,h.1⟩,h.2⟩]) (by rw[hS,if_pos ⟨h.1,by simp[least];omega,h.2.2⟩]) (by decide)
   .exact dY (by rw[hD,if_neg (fun q=>h ⟨q.1.2,q.2⟩)]) (by rw[hS,if_neg (fun q=>h ⟨q.1,by have:=q.2.1;simp[least] at this;omega,q.2.2⟩)]) (by omega)
end Go.Proofs.YthpldolmpinnhaaGreatDoor
