import Derived.Test.YthpldolmpinnhaaGreatDoorJG31
import Derived.Lib.Bytealg
set_option maxHeartbeats 64000000
open Go.Lib renaming hid→z7,bytesOf→z8,compareBytes→zk
open Go.Extern.Bytes renaming bytesOf→zy
open Go.Extern.BytealgCompare renaming compare→zx,cmp→zu
open List renaming getElem?_eq_some_iff→zv
open Go.Proofs.Tryz
namespace Go.Proofs.YthpldolmpinnhaaGreatDoor
open Go Go.RowKit
set_option maxRecDepth 10000
def EC(a b:List UInt8):Int:=if Op.bytesLess a b=true then -1 else if a=b then 0 else 1
theorem Fe{c:UInt8}(h:xF c=true):(((c.toNat:Int) - 48).toNat.toUInt8).toNat=c.toNat - 48:=by
 have h1:=(vW c).1 h;have h2:=c.toNat_lt;simp only[Nat.toUInt8,UInt8.toNat_ofNat'];omega
theorem QL:∀ (a b:List UInt8),a.length=b.length->a.all xF=true->b.all xF=true->zk (z8 (xl a)) (z8 (xl b))=EC a b
 | [],[],_,_,_=>rfl
 | c::a,d::b,hl,ha,hb=>by
  simp only[List.all_cons,Bool.and_eq_true] at ha hb;have ih:=QL a b (by simpa using hl) ha.2 hb.2;have h1:=Fe ha.1;have h2:=Fe hb.1;have e1:=(vW c).1 ha.1;have e2:=(vW d).1 hb.1;have hx:z8 (xl (c::a))=((c.toNat:Int) - 48).toNat.toUInt8::z8 (xl a):=rfl;have hy:z8 (xl (d::b))=((d.toNat:Int) - 48).toNat.toUInt8::z8 (xl b):=rfl;rw[hx,hy,zk,ih];unfold EC;rw[Op.bytesLess];simp only[UInt8.lt_iff_toNat_lt,h1,h2];by_cases q1:c.toNat<d.toNat
  .rw[if_pos (by omega),if_pos (by simp[q1])]
  .by_cases q2:d.toNat<c.toNat
   .have vy:¬c=d:=fun e=>by rw[e] at q2;omega
    rw[if_neg (by omega),if_pos (by omega),if_neg (by simp[q1,vy]),if_neg (by simp[vy])]
   .have heq:c=d:=UInt8.toNat_inj.1 (by omega);subst heq;rw[if_neg (by omega),if_neg (by omega)];simp
theorem C3(l:List UInt8)(n c:Nat)(a:Addr)(w:World)(hn:n=l.length)(h:xK w (some a) (xl l)):(zy (.slice (some a) n c)).run prog w = .ok ⟨(z8 (xl l)).toArray⟩ w:=by
 subst hn;have:=Lib.run_loadBytesX (P:=prog) w (xl l) a .empty (fun j x hx=>by
  have hj:=(zv.1 hx).1;obtain⟨b,hb,hc⟩:=h j hj
  cases hb;rw[hc];have:=(zv.1 hx).2;rw[this])
 rw[vV] at this;show(Extern.Bytes.loadBytes a l.length .empty).run prog w=_;rw[this];congr 2;simp
theorem Lc(l1 l2:List UInt8)(n1 c1 n2 c2:Nat)(a b:Addr)(w:World)(e1:n1=l1.length)(e2:n2=l2.length)(h1:xK w (some a) (xl l1))(h2:xK w (some b) (xl l2))(hl:l1.length=l2.length)(d1:l1.all xF=true)(d2:l2.all xF=true) :
  (callFunc 209 #[.slice (some a) n1 c1,.slice (some b) n2 c2]).run prog w = .ok (.value (.int .i64 (EC l1 l2))) w:=by
 rw[run_callFunc_extern func209 (by kernel_rfl) (by kernel_rfl) (by kernel_rfl) (e:=zx) (by kernel_rfl)];have:(zx #[.slice (some a) n1 c1,.slice (some b) n2 c2]).run prog w = .ok (.int .i64 (EC l1 l2)) w:=by
  change (Sem.run prog (do pure (goInt (zu (<-zy (.slice (some a) n1 c1)) (<-zy (.slice (some b) n2 c2))))) w)=_
  simp only[Sem.run_bind,C3 l1 n1 c1 a w e1 h1,Result.andThen,C3 l2 n2 c2 b w e2 h2,Lib.cmp_eq,QL l1 l2 hl d1 d2];rfl
 rw[this];rfl
theorem Yg(l1 l2:List UInt8)(n1 c1 n2 c2:Nat)(a b:Addr)(w:World)(e1:n1=l1.length)(e2:n2=l2.length)(h1:xK w (some a) (xl l1))(h2:xK w (some b) (xl l2))(hl:l1.length=l2.length)(d1:l1.all xF=true)(d2:l2.all xF=true) :
  Calls prog 168 #[.slice (some a) n1 c1,.slice (some b) n2 c2] w fun e w'=>e = .returned (.int .i64 (EC l1 l2))/\w=w':=by
 have xg8:=Lc l1 l2 n1 c1 n2 c2 a b w e1 e2 h1 h2 hl d1 d2;clear e1 e2 hl d1 d2 h1 h2;go_enter func168,ntmps168;go_wp2;go_ret;exact⟨rfl,rfl⟩
theorem Wy{a b:List UInt8}(h:a.length=b.length):EC a b=cmpL a b:=by
 unfold EC cmpL;rw[h];simp
theorem QM(b:Bool)(s k:Value)(w:World):(Instr.field 97 (.agg #[.bool b,s,k]) 1).run prog w = .ok s w:=by
 kernel_rfl
theorem JK(v:Value)(x:Dg)(m:Nat)(w:World)(h:uP w v x)(hm:m<=1000000000) :
  Calls prog 171 #[v,.int .i64 m] w fun e w'=>e = .returned (.int .i64 (KI x m))/\Below w.heap.size w w':=by
 have kZ:=h.ok;have DW:=kZ.FO;have HH:=z7 h;have HO:=z7 kZ;have YJ:=fun W (hW:uP W v x)=>Fa v x W hW
 have Me:=z7 YJ;have hW:=qA 9 m (by omega);obtain⟨b,g,go,cap,rfl,_,_,_,_,_⟩:=h;have iV:=QM;clear kZ YJ;go_enter func171,ntmps171;go_wp2_with fail;refine(EF _ x _ (HH.out.below ((Below.refl _ _).alloc (Nat.le_refl _) _))).mono ?_;rintro e w1 ⟨⟨YF,vw,rfl,qK,jT,hB⟩,xG⟩;have OO:(w.alloc (.cells #[.bool b,.slice (some ⟨g,go,none⟩) (x.1.length+x.2.length) cap,.int .i64 x.2.length] 97)).heap.size=w.heap.size+1:=by simp
 have k0:w1.cell? ⟨w.heap.size,0,none⟩=some (.bool b):=(xG.cell (by simp)).trans (xu _ _ _ _ _);have k1:w1.cell? ⟨w.heap.size,1,none⟩=some (.slice (some ⟨g,go,none⟩) (x.1.length+x.2.length) cap):=(xG.cell (by simp)).trans (xu _ _ _ _ _);have k2:w1.cell? ⟨w.heap.size,2,none⟩=some (.int .i64 x.2.length):=(xG.cell (by simp)).trans (xu _ _ _ _ _);have Zf:Below w.heap.size w w1:=((Below.refl _ _).alloc (Nat.le_refl _) _).trans (xG.mono (by simp));have uH:w.heap.size<w1.heap.size:=by have:=xG.size;rw[OO] at this;omega
 clear xG OO;obtain⟨p,rfl,_⟩:=hB 0 (by rw[vV];exact List.length_pos_iff.2 HO.out.ne);have HB:=z7 hB;clear hB;go_wp2_with fail;refine(Yj m _ hm).mono ?_;rintro e w2 ⟨⟨g2,uL,rfl,ho⟩,xJ⟩;have j0:=(xJ.cell (p:=⟨w.heap.size,0,none⟩) uH).trans k0;have j1:=(xJ.cell (p:=⟨w.heap.size,1,none⟩) uH).trans k1;have j2:=(xJ.cell (p:=⟨w.heap.size,2,none⟩) uH).trans k2;have ZZ:Below w.heap.size w w2:=Zf.trans (xJ.mono (by omega));have Gm:=z7 (HB.out.below xJ);have HB3:=z7 (qO ho rfl);have Wz:=z7 (HH.out.below ZZ);clear ho xJ k0 k1 k2 Zf;have uo:=bV m;by_cases h1:x.1.length<(xH m).length
 .have hc:cmpL x.1 (xH m) = -1:=by
   unfold cmpL;rw[if_pos (.inl h1)]
  have hf:KI x m = -1:=by
   unfold KI;rw[hc];rfl
  have HF:=z7 hf;have g1:((x.1.length:Int) - ((xH m).length:Int)==0)=false:=by simp;omega
  have ow:decide ((x.1.length:Int) - ((xH m).length:Int)<0)=true:=by simp;omega
  clear hf hc;go_wp2;all_goals (first|(exfalso;omega)|skip)
  go_ret;exact⟨by rw[HF.out];rfl,ZZ⟩
 .by_cases h2:(xH m).length<x.1.length
  .have hc:cmpL x.1 (xH m)=1:=by
    unfold cmpL;rw[if_neg (fun q=>q.elim h1 (fun q=>by omega)),if_neg (fun e=>by rw[e] at h2;omega)]
   have hf:KI x m=1:=by
    unfold KI;rw[hc];simp
   have HF:=z7 hf;have g1:((x.1.length:Int) - ((xH m).length:Int)==0)=false:=by simp;omega
   have ow:decide ((x.1.length:Int) - ((xH m).length:Int)<0)=false:=by simp;omega
   have g3:decide (0<(x.1.length:Int) - ((xH m).length:Int))=true:=by simp;omega
   clear hf hc;go_wp2;all_goals (first|(exfalso;omega)|skip)
   go_ret;exact⟨by rw[HF.out];rfl,ZZ⟩
  .have he:x.1.length=(xH m).length:=by omega
   have g1:((x.1.length:Int) - ((xH m).length:Int)==0)=true:=by simp;omega
   have Zd:=Wy he;have Dn:=Yg x.1 (xH m) x.1.length vw (xH m).length uL p ⟨g2,0,none⟩ w2 rfl rfl Gm.out HB3.out he HO.out.ig (Xo m);have HBC:=z7 Dn;obtain⟨r,hr⟩:=xX (EC x.1 (xH m));have jS:cmpL x.1 (xH m)=r:=by rw[<-Zd,hr]
   have dT:=Tc x.1 (xH m);rw[jS] at dT;have ve:KI x m=if r<0 then -1 else if 0<r\/we x.2=true then 1 else 0:=by unfold KI;rw[jS]
   have kW:=z7 ve;have HR:=z7 hr;clear Dn hr jS Zd ve he h1 h2;go_wp2_with fail;refine HBC.out.mono ?_;rw[HR.out];rintro e w3 ⟨rfl,rfl⟩;rcases dT with rfl|rfl|rfl
   .have hf:=kW.out;rw[if_pos (by decide)] at hf;have HF:=z7 hf;clear hf;go_wp2;go_ret;exact⟨by rw[HF.out];rfl,ZZ⟩
   .have hf:=kW.out;rw[if_neg (by decide)] at hf;have bP:=Me.out w2 Wz.out;obtain⟨q,hq⟩:=xX (we x.2);rw[hq] at hf bP;have HF:=z7 hf;have HBK:=z7 bP;clear hf bP hq;go_wp2_with fail;refine HBK.out.mono ?_;rintro e w4 ⟨rfl,ur⟩;have zoq:Below w.heap.size w w4:=ZZ.trans (ur.mono ZZ.size)
    cases q
    .go_wp2;go_ret;exact⟨by rw[HF.out];rfl,zoq⟩
    .go_wp2;go_ret;exact⟨by rw[HF.out];rfl,zoq⟩
   .have hf:=kW.out;rw[if_neg (by decide),if_pos (.inl (by decide))] at hf;have HF:=z7 hf;clear hf;go_wp2;go_ret;exact⟨by rw[HF.out];rfl,ZZ⟩
end Go.Proofs.YthpldolmpinnhaaGreatDoor
