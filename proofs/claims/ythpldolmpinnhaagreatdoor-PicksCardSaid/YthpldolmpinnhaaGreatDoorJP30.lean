import Derived.Test.YthpldolmpinnhaaGreatDoorJP29
import Derived.Lib.Bytealg
set_option maxHeartbeats 64000000
open Go.Lib renaming hid→z7,bytesOf→z8,compareBytes→zk
open Go.Extern.Bytes renaming bytesOf→zy
open Go.Extern.BytealgCompare renaming compare→zx,cmp→zu
open List renaming getElem?_eq_some_iff→zv
open Go.Proofs.Tryz
namespace Go.Proofs.YthpldolmpinnhaaGreatDoor
open Go Go.RowKit
set_option maxRecDepth 10000
def Cs(a b:List UInt8):Int:=if Op.bytesLess a b=true then -1 else if a=b then 0 else 1
theorem Fq{c:UInt8}(h:xQ c=true):(((c.toNat:Int) - 48).toNat.toUInt8).toNat=c.toNat - 48:=by
 have h1:=(vM c).1 h;have h2:=c.toNat_lt;simp only[Nat.toUInt8,UInt8.toNat_ofNat'];omega
theorem QZ:∀ (a b:List UInt8),a.length=b.length->a.all xQ=true->b.all xQ=true->zk (z8 (xW a)) (z8 (xW b))=Cs a b
 | [],[],_,_,_=>rfl
 | c::a,d::b,hl,ha,hb=>by
  simp only[List.all_cons,Bool.and_eq_true] at ha hb;have ih:=QZ a b (by simpa using hl) ha.2 hb.2;have h1:=Fq ha.1;have h2:=Fq hb.1;have e1:=(vM c).1 ha.1;have e2:=(vM d).1 hb.1;have hx:z8 (xW (c::a))=((c.toNat:Int) - 48).toNat.toUInt8::z8 (xW a):=rfl;have hy:z8 (xW (d::b))=((d.toNat:Int) - 48).toNat.toUInt8::z8 (xW b):=rfl;rw[hx,hy,zk,ih];unfold Cs;rw[Op.bytesLess];simp only[UInt8.lt_iff_toNat_lt,h1,h2];by_cases q1:c.toNat<d.toNat
  ·rw[if_pos (by omega),if_pos (by simp[q1])]
  ·by_cases q2:d.toNat<c.toNat
   ·have xw:¬c=d:=fun e=>by rw[e] at q2;omega
    rw[if_neg (by omega),if_pos (by omega),if_neg (by simp[q1,xw]),if_neg (by simp[xw])]
   ·have heq:c=d:=UInt8.toNat_inj.1 (by omega);subst heq;rw[if_neg (by omega),if_neg (by omega)];simp
theorem BF(l:List UInt8)(n c:Nat)(a:Addr)(w:World)(hn:n=l.length)(h:xF w (some a) (xW l)):(zy (.slice (some a) n c)).run prog w = .ok ⟨(z8 (xW l)).toArray⟩ w:=by
 subst hn;have:=Lib.run_loadBytesX (P:=prog) w (xW l) a .empty (fun j x hx=>by
  have hj:=(zv.1 hx).1;obtain⟨b,hb,hc⟩:=h j hj
  cases hb;rw[hc];have:=(zv.1 hx).2;rw[this])
 rw[vV] at this;show(Extern.Bytes.loadBytes a l.length .empty).run prog w=_;rw[this];congr 2;simp
theorem Ih(l1 l2:List UInt8)(n1 c1 n2 c2:Nat)(a b:Addr)(w:World)(e1:n1=l1.length)(e2:n2=l2.length)(h1:xF w (some a) (xW l1))(h2:xF w (some b) (xW l2))(hl:l1.length=l2.length)(d1:l1.all xQ=true)(d2:l2.all xQ=true) :
  (callFunc 209 #[.slice (some a) n1 c1,.slice (some b) n2 c2]).run prog w = .ok (.value (.int .i64 (Cs l1 l2))) w:=by
 rw[run_callFunc_extern func209 (by kernel_rfl) (by kernel_rfl) (by kernel_rfl) (e:=zx) (by kernel_rfl)];have:(zx #[.slice (some a) n1 c1,.slice (some b) n2 c2]).run prog w = .ok (.int .i64 (Cs l1 l2)) w:=by
  change (Sem.run prog (do pure (goInt (zu (←zy (.slice (some a) n1 c1)) (←zy (.slice (some b) n2 c2))))) w)=_
  simp only[Sem.run_bind,BF l1 n1 c1 a w e1 h1,Result.andThen,BF l2 n2 c2 b w e2 h2,Lib.cmp_eq,QZ l1 l2 hl d1 d2];rfl
 rw[this];rfl
theorem Yx(l1 l2:List UInt8)(n1 c1 n2 c2:Nat)(a b:Addr)(w:World)(e1:n1=l1.length)(e2:n2=l2.length)(h1:xF w (some a) (xW l1))(h2:xF w (some b) (xW l2))(hl:l1.length=l2.length)(d1:l1.all xQ=true)(d2:l2.all xQ=true) :
  Calls prog 168 #[.slice (some a) n1 c1,.slice (some b) n2 c2] w fun e w'=>e = .returned (.int .i64 (Cs l1 l2))/\w=w':=by
 have xk1:=Ih l1 l2 n1 c1 n2 c2 a b w e1 e2 h1 h2 hl d1 d2;clear e1 e2 hl d1 d2 h1 h2;go_enter func168,ntmps168;go_wp2;go_ret;exact⟨rfl,rfl⟩
theorem Td{a b:List UInt8}(h:a.length=b.length):Cs a b=cmpL a b:=by
 unfold Cs cmpL;rw[h];simp
theorem QY(b:Bool)(s k:Value)(w:World):(Instr.field 97 (.agg #[.bool b,s,k]) 1).run prog w = .ok s w:=by
 kernel_rfl
theorem Ks(v:Value)(x:Dg)(m:Nat)(w:World)(h:uh w v x)(hm:m<=1000000000) :
  Calls prog 171 #[v,.int .i64 m] w fun e w'=>e = .returned (.int .i64 (Q7 x m))/\Below w.heap.size w w':=by
 have ki:=h.ok;have Dz:=ki.F9;have HH:=z7 h;have HO:=z7 ki;have YZ:=fun W (hW:uh W v x)=>Fx v x W hW
 have M8:=z7 YZ;have hW:=uV 9 m (by omega);obtain⟨b,g,go,cap,rfl,_,_,_,_,_⟩:=h;have eX:=QY;clear ki YZ;go_enter func171,ntmps171;go_wp2_with fail;refine(Cn _ x _ (HH.out.below ((Below.refl _ _).alloc (Nat.le_refl _) _))).mono ?_;rintro e w1 ⟨⟨YX,uy,rfl,qD,jJ,hB⟩,xH⟩;have Na:(w.alloc (.cells #[.bool b,.slice (some ⟨g,go,none⟩) (x.1.length+x.2.length) cap,.int .i64 x.2.length] 97)).heap.size=w.heap.size+1:=by simp
 have k0:w1.cell? ⟨w.heap.size,0,none⟩=some (.bool b):=(xH.cell (by simp)).trans (xq _ _ _ _ _);have k1:w1.cell? ⟨w.heap.size,1,none⟩=some (.slice (some ⟨g,go,none⟩) (x.1.length+x.2.length) cap):=(xH.cell (by simp)).trans (xq _ _ _ _ _);have k2:w1.cell? ⟨w.heap.size,2,none⟩=some (.int .i64 x.2.length):=(xH.cell (by simp)).trans (xq _ _ _ _ _);have Zj:Below w.heap.size w w1:=((Below.refl _ _).alloc (Nat.le_refl _) _).trans (xH.mono (by simp));have uT:w.heap.size<w1.heap.size:=by have:=xH.size;rw[Na] at this;omega
 clear xH Na;obtain⟨p,rfl,_⟩:=hB 0 (by rw[vV];exact List.length_pos_iff.2 HO.out.ne);have HB:=z7 hB;clear hB;go_wp2_with fail;refine(Yy m _ hm).mono ?_;rintro e w2 ⟨⟨g2,uO,rfl,ho⟩,xB⟩;have j0:=(xB.cell (p:=⟨w.heap.size,0,none⟩) uT).trans k0;have j1:=(xB.cell (p:=⟨w.heap.size,1,none⟩) uT).trans k1;have j2:=(xB.cell (p:=⟨w.heap.size,2,none⟩) uT).trans k2;have Zd:Below w.heap.size w w2:=Zj.trans (xB.mono (by omega));have Qt:=z7 (HB.out.below xB);have MA:=z7 (qA ho rfl);have eY:=z7 (HH.out.below Zd);clear ho xB k0 k1 k2 Zj;have qz:=jl m;by_cases h1:x.1.length<(xK m).length
 ·have hc:cmpL x.1 (xK m) = -1:=by
   unfold cmpL;rw[if_pos (.inl h1)]
  have hf:Q7 x m = -1:=by
   unfold Q7;rw[hc];rfl
  have HF:=z7 hf;have g1:((x.1.length:Int) - ((xK m).length:Int)==0)=false:=by simp;omega
  have nR:decide ((x.1.length:Int) - ((xK m).length:Int)<0)=true:=by simp;omega
  clear hf hc;go_wp2;all_goals (first|(exfalso;omega)|skip)
  go_ret;exact⟨by rw[HF.out];rfl,Zd⟩
 ·by_cases h2:(xK m).length<x.1.length
  ·have hc:cmpL x.1 (xK m)=1:=by
    unfold cmpL;rw[if_neg (fun q=>q.elim h1 (fun q=>by omega)),if_neg (fun e=>by rw[e] at h2;omega)]
   have hf:Q7 x m=1:=by
    unfold Q7;rw[hc];simp
   have HF:=z7 hf;have g1:((x.1.length:Int) - ((xK m).length:Int)==0)=false:=by simp;omega
   have nR:decide ((x.1.length:Int) - ((xK m).length:Int)<0)=false:=by simp;omega
   have g3:decide (0<(x.1.length:Int) - ((xK m).length:Int))=true:=by simp;omega
   clear hf hc;go_wp2;all_goals (first|(exfalso;omega)|skip)
   go_ret;exact⟨by rw[HF.out];rfl,Zd⟩
  ·have he:x.1.length=(xK m).length:=by omega
   have g1:((x.1.length:Int) - ((xK m).length:Int)==0)=true:=by simp;omega
   have ZG:=Td he;have Dd:=Yx x.1 (xK m) x.1.length uy (xK m).length uO p ⟨g2,0,none⟩ w2 rfl rfl Qt.out MA.out he HO.out.ej (dG m);have HBC:=z7 Dd;obtain⟨r,hr⟩:∃ r,Cs x.1 (xK m)=r:=⟨_,rfl⟩;have jM:cmpL x.1 (xK m)=r:=by rw[←ZG,hr]
   have dT:=T8 x.1 (xK m);rw[jM] at dT;have ve:Q7 x m=if r<0 then -1 else if 0<r\/SD x.2=true then 1 else 0:=by unfold Q7;rw[jM]
   have kS:=z7 ve;have HR:=z7 hr;clear Dd hr jM ZG ve he h1 h2;go_wp2_with fail;refine HBC.out.mono ?_;rw[HR.out];rintro e w3 ⟨rfl,rfl⟩;rcases dT with rfl|rfl|rfl
   ·have hf:=kS.out;rw[if_pos (by decide)] at hf;have HF:=z7 hf;clear hf;go_wp2;go_ret;exact⟨by rw[HF.out];rfl,Zd⟩
   ·have hf:=kS.out;rw[if_neg (by decide)] at hf;have ZJ:=M8.out w2 eY.out;obtain⟨q,hq⟩:∃ q,SD x.2=q:=⟨_,rfl⟩;rw[hq] at hf ZJ;have HF:=z7 hf;have HBK:=z7 ZJ;clear hf ZJ hq;go_wp2_with fail;refine HBK.out.mono ?_;rintro e w4 ⟨rfl,uQ⟩;have zn7:Below w.heap.size w w4:=Zd.trans (uQ.mono Zd.size)
    cases q
    ·go_wp2;go_ret;exact⟨by rw[HF.out];rfl,zn7⟩
    ·go_wp2;go_ret;exact⟨by rw[HF.out];rfl,zn7⟩
   ·have hf:=kS.out;rw[if_neg (by decide),if_pos (.inl (by decide))] at hf;have HF:=z7 hf;clear hf;go_wp2;go_ret;exact⟨by rw[HF.out];rfl,Zd⟩
end Go.Proofs.YthpldolmpinnhaaGreatDoor
