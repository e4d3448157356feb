import Derived.Test.YthpldolmpinnhaaGreatDoorJF31
import Derived.Lib.Bytealg
set_option maxHeartbeats 64000000
open Go.Lib renaming hid→z7,bytesOf→z8,compareBytes→zk
open Go.Extern.Bytes renaming bytesOf→zy
open Go.Extern.BytealgCompare renaming compare→zx,cmp→zu
open List renaming getElem?_eq_some_iff→zv
open Go.Proofs.Tryz
namespace Go.Proofs.YthpldolmpinnhaaGreatDoor
open Go Go.RowKit
set_option maxRecDepth 10000
def EG(a b:List UInt8):Int:=if Op.bytesLess a b=true then -1 else if a=b then 0 else 1
theorem FQ{c:UInt8}(h:xJ c=true):(((c.toNat:Int) - 48).toNat.toUInt8).toNat=c.toNat - 48:=by
 have h1:=(vR c).1 h;have h2:=c.toNat_lt;simp only[Nat.toUInt8,UInt8.toNat_ofNat'];omega
theorem QG:∀ (a b:List UInt8),a.length=b.length->a.all xJ=true->b.all xJ=true->zk (z8 (xW a)) (z8 (xW b))=EG a b
 | [],[],_,_,_=>rfl
 | c::a,d::b,hl,ha,hb=>by
  simp only[List.all_cons,Bool.and_eq_true] at ha hb;have ih:=QG a b (by simpa using hl) ha.2 hb.2;have h1:=FQ ha.1;have h2:=FQ hb.1;have e1:=(vR c).1 ha.1;have e2:=(vR d).1 hb.1;have hx:z8 (xW (c::a))=((c.toNat:Int) - 48).toNat.toUInt8::z8 (xW a):=rfl;have hy:z8 (xW (d::b))=((d.toNat:Int) - 48).toNat.toUInt8::z8 (xW b):=rfl;rw[hx,hy,zk,ih];unfold EG;rw[Op.bytesLess];simp only[UInt8.lt_iff_toNat_lt,h1,h2];by_cases q1:c.toNat<d.toNat
  ·rw[if_pos (by omega),if_pos (by simp[q1])]
  ·by_cases q2:d.toNat<c.toNat
   ·have xc:¬c=d:=fun e=>by rw[e] at q2;omega
    rw[if_neg (by omega),if_pos (by omega),if_neg (by simp[q1,xc]),if_neg (by simp[xc])]
   ·have heq:c=d:=UInt8.toNat_inj.1 (by omega);subst heq;rw[if_neg (by omega),if_neg (by omega)];simp
theorem Bl(l:List UInt8)(n c:Nat)(a:Addr)(w:World)(hn:n=l.length)(h:xK w (some a) (xW l)):(zy (.slice (some a) n c)).run prog w = .ok ⟨(z8 (xW l)).toArray⟩ w:=by
 subst hn;have:=Lib.run_loadBytesX (P:=prog) w (xW l) a .empty (fun j x hx=>by
  have hj:=(zv.1 hx).1;obtain⟨b,hb,hc⟩:=h j hj
  cases hb;rw[hc];have:=(zv.1 hx).2;rw[this])
 rw[vX] at this;show(Extern.Bytes.loadBytes a l.length .empty).run prog w=_;rw[this];congr 2;simp
theorem LO(l1 l2:List UInt8)(n1 c1 n2 c2:Nat)(a b:Addr)(w:World)(e1:n1=l1.length)(e2:n2=l2.length)(h1:xK w (some a) (xW l1))(h2:xK w (some b) (xW l2))(hl:l1.length=l2.length)(d1:l1.all xJ=true)(d2:l2.all xJ=true) :
  (callFunc 209 #[.slice (some a) n1 c1,.slice (some b) n2 c2]).run prog w = .ok (.value (.int .i64 (EG l1 l2))) w:=by
 rw[run_callFunc_extern func209 (by kernel_rfl) (by kernel_rfl) (by kernel_rfl) (e:=zx) (by kernel_rfl)];have:(zx #[.slice (some a) n1 c1,.slice (some b) n2 c2]).run prog w = .ok (.int .i64 (EG l1 l2)) w:=by
  change (Sem.run prog (do pure (goInt (zu (←zy (.slice (some a) n1 c1)) (←zy (.slice (some b) n2 c2))))) w)=_
  simp only[Sem.run_bind,Bl l1 n1 c1 a w e1 h1,Result.andThen,Bl l2 n2 c2 b w e2 h2,Lib.cmp_eq,QG l1 l2 hl d1 d2];rfl
 rw[this];rfl
theorem Y7(l1 l2:List UInt8)(n1 c1 n2 c2:Nat)(a b:Addr)(w:World)(e1:n1=l1.length)(e2:n2=l2.length)(h1:xK w (some a) (xW l1))(h2:xK w (some b) (xW l2))(hl:l1.length=l2.length)(d1:l1.all xJ=true)(d2:l2.all xJ=true) :
  Calls prog 168 #[.slice (some a) n1 c1,.slice (some b) n2 c2] w fun e w'=>e = .returned (.int .i64 (EG l1 l2))/\w=w':=by
 have xgz:=LO l1 l2 n1 c1 n2 c2 a b w e1 e2 h1 h2 hl d1 d2;clear e1 e2 hl d1 d2 h1 h2;go_enter func168,ntmps168;go_wp2;go_ret;exact⟨rfl,rfl⟩
theorem TA{a b:List UInt8}(h:a.length=b.length):EG a b=cmpL a b:=by
 unfold EG cmpL;rw[h];simp
theorem QF(b:Bool)(s k:Value)(w:World):(Instr.field 97 (.agg #[.bool b,s,k]) 1).run prog w = .ok s w:=by
 kernel_rfl
theorem Ju(v:Value)(x:Dg)(m:Nat)(w:World)(h:uR w v x)(hm:m<=1000000000) :
  Calls prog 171 #[v,.int .i64 m] w fun e w'=>e = .returned (.int .i64 (KX x m))/\Below w.heap.size w w':=by
 have ku:=h.ok;have DD:=ku.FZ;have HH:=z7 h;have HO:=z7 ku;have Yk:=fun W (hW:uR W v x)=>FV v x W hW
 have Mi:=z7 Yk;have hW:=qA 9 m (by omega);obtain⟨b,g,go,cap,rfl,_,_,_,_,_⟩:=h;have eT:=QF;clear ku Yk;go_enter func171,ntmps171;go_wp2_with fail;refine(EU _ x _ (HH.out.below ((Below.refl _ _).alloc (Nat.le_refl _) _))).mono ?_;rintro e w1 ⟨⟨Yj,ve,rfl,qX,jJ,hB⟩,xB⟩;have OD:(w.alloc (.cells #[.bool b,.slice (some ⟨g,go,none⟩) (x.1.length+x.2.length) cap,.int .i64 x.2.length] 97)).heap.size=w.heap.size+1:=by simp
 have k0:w1.cell? ⟨w.heap.size,0,none⟩=some (.bool b):=(xB.cell (by simp)).trans (xu _ _ _ _ _);have k1:w1.cell? ⟨w.heap.size,1,none⟩=some (.slice (some ⟨g,go,none⟩) (x.1.length+x.2.length) cap):=(xB.cell (by simp)).trans (xu _ _ _ _ _);have k2:w1.cell? ⟨w.heap.size,2,none⟩=some (.int .i64 x.2.length):=(xB.cell (by simp)).trans (xu _ _ _ _ _);have Zv:Below w.heap.size w w1:=((Below.refl _ _).alloc (Nat.le_refl _) _).trans (xB.mono (by simp));have uL:w.heap.size<w1.heap.size:=by have:=xB.size;rw[OD] at this;omega
 clear xB OD;obtain⟨p,rfl,_⟩:=hB 0 (by rw[vX];exact List.length_pos_iff.2 HO.out.ne);have HB:=z7 hB;clear hB;go_wp2_with fail;refine(Y6 m _ hm).mono ?_;rintro e w2 ⟨⟨g2,uG,rfl,ho⟩,xF⟩;have j0:=(xF.cell (p:=⟨w.heap.size,0,none⟩) uL).trans k0;have j1:=(xF.cell (p:=⟨w.heap.size,1,none⟩) uL).trans k1;have j2:=(xF.cell (p:=⟨w.heap.size,2,none⟩) uL).trans k2;have Zf:Below w.heap.size w w2:=Zv.trans (xF.mono (by omega));have Ky:=z7 (HB.out.below xF);have HB3:=z7 (qM ho rfl);have TW:=z7 (HH.out.below Zf);clear ho xF k0 k1 k2 Zv;have uO:=bj m;by_cases h1:x.1.length<(xI m).length
 ·have hc:cmpL x.1 (xI m) = -1:=by
   unfold cmpL;rw[if_pos (.inl h1)]
  have hf:KX x m = -1:=by
   unfold KX;rw[hc];rfl
  have HF:=z7 hf;have g1:((x.1.length:Int) - ((xI m).length:Int)==0)=false:=by simp;omega
  have om:decide ((x.1.length:Int) - ((xI m).length:Int)<0)=true:=by simp;omega
  clear hf hc;go_wp2;all_goals (first|(exfalso;omega)|skip)
  go_ret;exact⟨by rw[HF.out];rfl,Zf⟩
 ·by_cases h2:(xI m).length<x.1.length
  ·have hc:cmpL x.1 (xI m)=1:=by
    unfold cmpL;rw[if_neg (fun q=>q.elim h1 (fun q=>by omega)),if_neg (fun e=>by rw[e] at h2;omega)]
   have hf:KX x m=1:=by
    unfold KX;rw[hc];simp
   have HF:=z7 hf;have g1:((x.1.length:Int) - ((xI m).length:Int)==0)=false:=by simp;omega
   have om:decide ((x.1.length:Int) - ((xI m).length:Int)<0)=false:=by simp;omega
   have g3:decide (0<(x.1.length:Int) - ((xI m).length:Int))=true:=by simp;omega
   clear hf hc;go_wp2;all_goals (first|(exfalso;omega)|skip)
   go_ret;exact⟨by rw[HF.out];rfl,Zf⟩
  ·have he:x.1.length=(xI m).length:=by omega
   have g1:((x.1.length:Int) - ((xI m).length:Int)==0)=true:=by simp;omega
   have bV:=TA he;have DN:=Y7 x.1 (xI m) x.1.length ve (xI m).length uG p ⟨g2,0,none⟩ w2 rfl rfl Ky.out HB3.out he HO.out.eN (Xc m);have HBC:=z7 DN;obtain⟨r,hr⟩:=xX (EG x.1 (xI m));have jy:cmpL x.1 (xI m)=r:=by rw[←bV,hr]
   have dB:=TE x.1 (xI m);rw[jy] at dB;have vA:KX x m=if r<0 then -1 else if 0<r\/brk x.2=true then 1 else 0:=by unfold KX;rw[jy]
   have kM:=z7 vA;have HR:=z7 hr;clear DN hr jy bV vA he h1 h2;go_wp2_with fail;refine HBC.out.mono ?_;rw[HR.out];rintro e w3 ⟨rfl,rfl⟩;rcases dB with rfl|rfl|rfl
   ·have hf:=kM.out;rw[if_pos (by decide)] at hf;have HF:=z7 hf;clear hf;go_wp2;go_ret;exact⟨by rw[HF.out];rfl,Zf⟩
   ·have hf:=kM.out;rw[if_neg (by decide)] at hf;have ZU:=Mi.out w2 TW.out;obtain⟨q,hq⟩:=xX (brk x.2);rw[hq] at hf ZU;have HF:=z7 hf;have HBK:=z7 ZU;clear hf ZU hq;go_wp2_with fail;refine HBK.out.mono ?_;rintro e w4 ⟨rfl,uN⟩;have zof:Below w.heap.size w w4:=Zf.trans (uN.mono Zf.size)
    cases q
    ·go_wp2;go_ret;exact⟨by rw[HF.out];rfl,zof⟩
    ·go_wp2;go_ret;exact⟨by rw[HF.out];rfl,zof⟩
   ·have hf:=kM.out;rw[if_neg (by decide),if_pos (.inl (by decide))] at hf;have HF:=z7 hf;clear hf;go_wp2;go_ret;exact⟨by rw[HF.out];rfl,Zf⟩
end Go.Proofs.YthpldolmpinnhaaGreatDoor
