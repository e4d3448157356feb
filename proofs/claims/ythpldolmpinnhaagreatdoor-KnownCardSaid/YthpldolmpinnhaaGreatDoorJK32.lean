import Derived.Test.YthpldolmpinnhaaGreatDoorJK31
import Derived.Lib.Bytealg
set_option maxHeartbeats 64000000
open Go.Lib renaming hid→z7,bytesOf→z8,compareBytes→zk
open Go.Extern.Bytes renaming bytesOf→zy
open Go.Extern.BytealgCompare renaming compare→zx,cmp→zu
open List renaming getElem?_eq_some_iff→zv
open Go.Proofs.Tryz
namespace Go.Proofs.YthpldolmpinnhaaGreatDoor
open Go Go.RowKit
set_option maxRecDepth 10000
def CL(a b:List UInt8):Int:=if Op.bytesLess a b=true then -1 else if a=b then 0 else 1
theorem Gi{c:UInt8}(h:xF c=true):(((c.toNat:Int) - 48).toNat.toUInt8).toNat=c.toNat - 48:=by
 have h1:=(vw c).1 h;have h2:=c.toNat_lt;simp only[Nat.toUInt8,UInt8.toNat_ofNat'];omega
theorem Q6:∀ (a b:List UInt8),a.length=b.length->a.all xF=true->b.all xF=true->zk (z8 (xl a)) (z8 (xl b))=CL a b
 | [],[],_,_,_=>rfl
 | c::a,d::b,hl,ha,hb=>by
  simp only[List.all_cons,Bool.and_eq_true] at ha hb;have ih:=Q6 a b (by simpa using hl) ha.2 hb.2;have h1:=Gi ha.1;have h2:=Gi hb.1;have e1:=(vw c).1 ha.1;have e2:=(vw d).1 hb.1;have hx:z8 (xl (c::a))=((c.toNat:Int) - 48).toNat.toUInt8::z8 (xl a):=rfl;have hy:z8 (xl (d::b))=((d.toNat:Int) - 48).toNat.toUInt8::z8 (xl b):=rfl;rw[hx,hy,zk,ih];unfold CL;rw[Op.bytesLess];simp only[UInt8.lt_iff_toNat_lt,h1,h2];by_cases q1:c.toNat<d.toNat
  ·rw[if_pos (by omega),if_pos (by simp[q1])]
  ·by_cases q2:d.toNat<c.toNat
   ·have vx:¬c=d:=fun e=>by rw[e] at q2;omega
    rw[if_neg (by omega),if_pos (by omega),if_neg (by simp[q1,vx]),if_neg (by simp[vx])]
   ·have heq:c=d:=UInt8.toNat_inj.1 (by omega);subst heq;rw[if_neg (by omega),if_neg (by omega)];simp
theorem Bv(l:List UInt8)(n c:Nat)(a:Addr)(w:World)(hn:n=l.length)(h:xK w (some a) (xl l)):(zy (.slice (some a) n c)).run prog w = .ok ⟨(z8 (xl l)).toArray⟩ w:=by
 subst hn;have:=Lib.run_loadBytesX (P:=prog) w (xl l) a .empty (fun j x hx=>by
  have hj:=(zv.1 hx).1;obtain⟨b,hb,hc⟩:=h j hj
  cases hb;rw[hc];have:=(zv.1 hx).2;rw[this])
 rw[vY] at this;show(Extern.Bytes.loadBytes a l.length .empty).run prog w=_;rw[this];congr 2;simp
theorem IC(l1 l2:List UInt8)(n1 c1 n2 c2:Nat)(a b:Addr)(w:World)(e1:n1=l1.length)(e2:n2=l2.length)(h1:xK w (some a) (xl l1))(h2:xK w (some b) (xl l2))(hl:l1.length=l2.length)(d1:l1.all xF=true)(d2:l2.all xF=true) :
  (callFunc 209 #[.slice (some a) n1 c1,.slice (some b) n2 c2]).run prog w = .ok (.value (.int .i64 (CL l1 l2))) w:=by
 rw[run_callFunc_extern func209 (by kernel_rfl) (by kernel_rfl) (by kernel_rfl) (e:=zx) (by kernel_rfl)];have:(zx #[.slice (some a) n1 c1,.slice (some b) n2 c2]).run prog w = .ok (.int .i64 (CL l1 l2)) w:=by
  change (Sem.run prog (do pure (goInt (zu (←zy (.slice (some a) n1 c1)) (←zy (.slice (some b) n2 c2))))) w)=_
  simp only[Sem.run_bind,Bv l1 n1 c1 a w e1 h1,Result.andThen,Bv l2 n2 c2 b w e2 h2,Lib.cmp_eq,Q6 l1 l2 hl d1 d2];rfl
 rw[this];rfl
theorem Zm(l1 l2:List UInt8)(n1 c1 n2 c2:Nat)(a b:Addr)(w:World)(e1:n1=l1.length)(e2:n2=l2.length)(h1:xK w (some a) (xl l1))(h2:xK w (some b) (xl l2))(hl:l1.length=l2.length)(d1:l1.all xF=true)(d2:l2.all xF=true) :
  Calls prog 168 #[.slice (some a) n1 c1,.slice (some b) n2 c2] w fun e w'=>e = .returned (.int .i64 (CL l1 l2))/\w=w':=by
 have xv4:=IC l1 l2 n1 c1 n2 c2 a b w e1 e2 h1 h2 hl d1 d2;clear e1 e2 hl d1 d2 h1 h2;go_enter func168,ntmps168;go_wp2;go_ret;exact⟨rfl,rfl⟩
theorem SG{a b:List UInt8}(h:a.length=b.length):CL a b=cmpL a b:=by
 unfold CL cmpL;rw[h];simp
theorem Q7(b:Bool)(s k:Value)(w:World):(Instr.field 97 (.agg #[.bool b,s,k]) 1).run prog w = .ok s w:=by
 kernel_rfl
theorem KR(v:Value)(x:Dg)(m:Nat)(w:World)(h:uM w v x)(hm:m<=1000000000) :
  Calls prog 171 #[v,.int .i64 m] w fun e w'=>e = .returned (.int .i64 (Qr x m))/\Below w.heap.size w w':=by
 have ku:=h.ok;have Fe:=ku.GR;have HH:=z7 h;have HO:=z7 ku;have Y1:=fun W (hW:uM W v x)=>Gc v x W hW
 have LP:=z7 Y1;have hW:=qR 9 m (by omega);obtain⟨b,g,go,cap,rfl,_,_,_,_,_⟩:=h;have aN:=Q7;clear ku Y1;go_enter func171,ntmps171;go_wp2_with fail;refine(CE _ x _ (HH.out.below ((Below.refl _ _).alloc (Nat.le_refl _) _))).mono ?_;rintro e w1 ⟨⟨Y3,vh,rfl,qY,jD,hB⟩,xB⟩;have Nd:(w.alloc (.cells #[.bool b,.slice (some ⟨g,go,none⟩) (x.1.length+x.2.length) cap,.int .i64 x.2.length] 97)).heap.size=w.heap.size+1:=by simp
 have k0:w1.cell? ⟨w.heap.size,0,none⟩=some (.bool b):=(xB.cell (by simp)).trans (xu _ _ _ _ _);have k1:w1.cell? ⟨w.heap.size,1,none⟩=some (.slice (some ⟨g,go,none⟩) (x.1.length+x.2.length) cap):=(xB.cell (by simp)).trans (xu _ _ _ _ _);have k2:w1.cell? ⟨w.heap.size,2,none⟩=some (.int .i64 x.2.length):=(xB.cell (by simp)).trans (xu _ _ _ _ _);have bw:Below w.heap.size w w1:=((Below.refl _ _).alloc (Nat.le_refl _) _).trans (xB.mono (by simp));have uF:w.heap.size<w1.heap.size:=by have:=xB.size;rw[Nd] at this;omega
 clear xB Nd;obtain⟨p,rfl,_⟩:=hB 0 (by rw[vY];exact List.length_pos_iff.2 HO.out.ne);have HB:=z7 hB;clear hB;go_wp2_with fail;refine(Zl m _ hm).mono ?_;rintro e w2 ⟨⟨g2,uB,rfl,ho⟩,xD⟩;have j0:=(xD.cell (p:=⟨w.heap.size,0,none⟩) uF).trans k0;have j1:=(xD.cell (p:=⟨w.heap.size,1,none⟩) uF).trans k1;have j2:=(xD.cell (p:=⟨w.heap.size,2,none⟩) uF).trans k2;have Z3:Below w.heap.size w w2:=bw.trans (xD.mono (by omega));have Ko:=z7 (HB.out.below xD);have HB3:=z7 (qL ho rfl);have SJ:=z7 (HH.out.below Z3);clear ho xD k0 k1 k2 bw;have uA:=di m;by_cases h1:x.1.length<(xL m).length
 ·have hc:cmpL x.1 (xL m) = -1:=by
   unfold cmpL;rw[if_pos (.inl h1)]
  have hf:Qr x m = -1:=by
   unfold Qr;rw[hc];rfl
  have HF:=z7 hf;have g1:((x.1.length:Int) - ((xL m).length:Int)==0)=false:=by simp;omega
  have mX:decide ((x.1.length:Int) - ((xL m).length:Int)<0)=true:=by simp;omega
  clear hf hc;go_wp2;all_goals (first|(exfalso;omega)|skip)
  go_ret;exact⟨by rw[HF.out];rfl,Z3⟩
 ·by_cases h2:(xL m).length<x.1.length
  ·have hc:cmpL x.1 (xL m)=1:=by
    unfold cmpL;rw[if_neg (fun q=>q.elim h1 (fun q=>by omega)),if_neg (fun e=>by rw[e] at h2;omega)]
   have hf:Qr x m=1:=by
    unfold Qr;rw[hc];simp
   have HF:=z7 hf;have g1:((x.1.length:Int) - ((xL m).length:Int)==0)=false:=by simp;omega
   have mX:decide ((x.1.length:Int) - ((xL m).length:Int)<0)=false:=by simp;omega
   have g3:decide (0<(x.1.length:Int) - ((xL m).length:Int))=true:=by simp;omega
   clear hf hc;go_wp2;all_goals (first|(exfalso;omega)|skip)
   go_ret;exact⟨by rw[HF.out];rfl,Z3⟩
  ·have he:x.1.length=(xL m).length:=by omega
   have g1:((x.1.length:Int) - ((xL m).length:Int)==0)=true:=by simp;omega
   have Z0:=SG he;have D0:=Zm x.1 (xL m) x.1.length vh (xL m).length uB p ⟨g2,0,none⟩ w2 rfl rfl Ko.out HB3.out he HO.out.aC (XK m);have HBC:=z7 D0;obtain⟨r,hr⟩:∃ r,CL x.1 (xL m)=r:=⟨_,rfl⟩;have jG:cmpL x.1 (xL m)=r:=by rw[←Z0,hr]
   have dJ:=Sg x.1 (xL m);rw[jG] at dJ;have vS:Qr x m=if r<0 then -1 else if 0<r\/ri x.2=true then 1 else 0:=by unfold Qr;rw[jG]
   have kI:=z7 vS;have HR:=z7 hr;clear D0 hr jG Z0 vS he h1 h2;go_wp2_with fail;refine HBC.out.mono ?_;rw[HR.out];rintro e w3 ⟨rfl,rfl⟩;rcases dJ with rfl|rfl|rfl
   ·have hf:=kI.out;rw[if_pos (by decide)] at hf;have HF:=z7 hf;clear hf;go_wp2;go_ret;exact⟨by rw[HF.out];rfl,Z3⟩
   ·have hf:=kI.out;rw[if_neg (by decide)] at hf;have Zy:=LP.out w2 SJ.out;obtain⟨q,hq⟩:∃ q,ri x.2=q:=⟨_,rfl⟩;rw[hq] at hf Zy;have HF:=z7 hf;have tE:=z7 Zy;clear hf Zy hq;go_wp2_with fail;refine tE.out.mono ?_;rintro e w4 ⟨rfl,uW⟩;have zi7:Below w.heap.size w w4:=Z3.trans (uW.mono Z3.size)
    cases q
    ·go_wp2;go_ret;exact⟨by rw[HF.out];rfl,zi7⟩
    ·go_wp2;go_ret;exact⟨by rw[HF.out];rfl,zi7⟩
   ·have hf:=kI.out;rw[if_neg (by decide),if_pos (.inl (by decide))] at hf;have HF:=z7 hf;clear hf;go_wp2;go_ret;exact⟨by rw[HF.out];rfl,Z3⟩
end Go.Proofs.YthpldolmpinnhaaGreatDoor
