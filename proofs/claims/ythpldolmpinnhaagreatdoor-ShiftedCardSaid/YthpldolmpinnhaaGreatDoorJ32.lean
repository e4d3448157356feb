import Derived.Test.YthpldolmpinnhaaGreatDoorJ31
import Derived.Lib.Bytealg
namespace Go.Proofs.YthpldolmpinnhaaGreatDoor
open Go Go.RowKit
set_option maxRecDepth 10000
def cmpB (a b:List UInt8):Int:=if Op.bytesLess a b=true then -1 else if a=b then 0 else 1
theorem byteOf_dig {c:UInt8} (h:isDig c=true):(((c.toNat:Int) - 48).toNat.toUInt8).toNat=c.toNat - 48:=by
 have h1:=(isDig_iff c).1 h;have h2:=c.toNat_lt;simp only [Nat.toUInt8,UInt8.toNat_ofNat'];omega
theorem compare_digs:∀ (a b:List UInt8),a.length=b.length->a.all isDig=true->b.all isDig=true->Lib.compareBytes (Lib.bytesOf (vals a)) (Lib.bytesOf (vals b))=cmpB a b
 | [],[],_,_,_=>rfl
 | c::a,d::b,hl,ha,hb=>by
  simp only [List.all_cons,Bool.and_eq_true] at ha hb;have ih:=compare_digs a b (by simpa using hl) ha.2 hb.2;have h1:=byteOf_dig ha.1;have h2:=byteOf_dig hb.1;have e1:=(isDig_iff c).1 ha.1;have e2:=(isDig_iff d).1 hb.1;have hx:Lib.bytesOf (vals (c::a))=((c.toNat:Int) - 48).toNat.toUInt8::Lib.bytesOf (vals a):=rfl;have hy:Lib.bytesOf (vals (d::b))=((d.toNat:Int) - 48).toNat.toUInt8::Lib.bytesOf (vals b):=rfl;rw [hx,hy,Lib.compareBytes,ih];unfold cmpB;rw [Op.bytesLess];simp only [UInt8.lt_iff_toNat_lt,h1,h2];by_cases q1:c.toNat<d.toNat
  ·rw [if_pos (by omega),if_pos (by simp [q1])]
  ·by_cases q2:d.toNat<c.toNat
   ·have hne:¬c=d:=fun e=>by rw [e] at q2;omega
    rw [if_neg (by omega),if_pos (by omega),if_neg (by simp [q1,hne]),if_neg (by simp [hne])]
   ·have heq:c=d:=UInt8.toNat_inj.1 (by omega);subst heq;rw [if_neg (by omega),if_neg (by omega)];simp
theorem load_digs (l:List UInt8) (n c:Nat) (a:Addr) (w:World) (hn:n=l.length) (h:BytesAt w (some a) (vals l)):(Extern.Bytes.bytesOf (.slice (some a) n c)).run Tryz.prog w = .ok ⟨(Lib.bytesOf (vals l)).toArray⟩ w:=by
 subst hn;have:=Lib.run_loadBytesX (P:=Tryz.prog) w (vals l) a .empty (fun j x hx=>by
  have hj:=(List.getElem?_eq_some_iff.1 hx).1;obtain ⟨b,hb,hc⟩:=h j hj
  cases hb;rw [hc];have:=(List.getElem?_eq_some_iff.1 hx).2;rw [this])
 rw [vals_length] at this;show (Extern.Bytes.loadBytes a l.length .empty).run Tryz.prog w=_;rw [this];congr 2;simp
theorem compare_law (l1 l2:List UInt8) (n1 c1 n2 c2:Nat) (a b:Addr) (w:World) (e1:n1=l1.length) (e2:n2=l2.length) (h1:BytesAt w (some a) (vals l1)) (h2:BytesAt w (some b) (vals l2)) (hl:l1.length=l2.length) (d1:l1.all isDig=true) (d2:l2.all isDig=true) :
  (callFunc 209 #[.slice (some a) n1 c1,.slice (some b) n2 c2]).run Tryz.prog w = .ok (.value (.int .i64 (cmpB l1 l2))) w:=by
 rw [run_callFunc_extern Tryz.func209 (by kernel_rfl) (by kernel_rfl) (by kernel_rfl) (e:=Extern.BytealgCompare.compare) (by kernel_rfl)];have:(Extern.BytealgCompare.compare #[.slice (some a) n1 c1,.slice (some b) n2 c2]).run Tryz.prog w = .ok (.int .i64 (cmpB l1 l2)) w:=by
  change (Sem.run Tryz.prog (do pure (goInt (Extern.BytealgCompare.cmp (←Extern.Bytes.bytesOf (.slice (some a) n1 c1)) (←Extern.Bytes.bytesOf (.slice (some b) n2 c2))))) w)=_
  simp only [Sem.run_bind,load_digs l1 n1 c1 a w e1 h1,Result.andThen,load_digs l2 n2 c2 b w e2 h2,Lib.cmp_eq,compare_digs l1 l2 hl d1 d2];rfl
 rw [this];rfl
set_option maxHeartbeats 1000000 in
theorem bytesCompare_any (l1 l2:List UInt8) (n1 c1 n2 c2:Nat) (a b:Addr) (w:World) (e1:n1=l1.length) (e2:n2=l2.length) (h1:BytesAt w (some a) (vals l1)) (h2:BytesAt w (some b) (vals l2)) (hl:l1.length=l2.length) (d1:l1.all isDig=true) (d2:l2.all isDig=true) :
  Calls Tryz.prog 168 #[.slice (some a) n1 c1,.slice (some b) n2 c2] w fun e w'=>e = .returned (.int .i64 (cmpB l1 l2))/\w=w':=by
 have hlaw:=compare_law l1 l2 n1 c1 n2 c2 a b w e1 e2 h1 h2 hl d1 d2;clear e1 e2 hl d1 d2 h1 h2;go_enter Tryz.func168,Tryz.ntmps168
 go_wp2
 go_ret
 exact ⟨rfl,rfl⟩
theorem cmpB_cmpL {a b:List UInt8} (h:a.length=b.length):cmpB a b=cmpL a b:=by
 unfold cmpB cmpL;rw [h];simp
theorem field_digits (b:Bool) (s k:Value) (w:World):(Instr.field 97 (.agg #[.bool b,s,k]) 1).run Tryz.prog w = .ok s w:=by
 kernel_rfl
set_option maxHeartbeats 1000000 in
theorem compare_any (v:Value) (x:Dg) (m:Nat) (w:World) (h:NumV w v x) (hm:m<=1000000000) :
  Calls Tryz.prog 171 #[v,.int .i64 m] w fun e w'=>e = .returned (.int .i64 (cmpT x m))/\Below w.heap.size w w':=by
 have hok:=h.ok;have hl1:=hok.len1;have HH:=Lib.hid h;have HO:=Lib.hid hok;have hbr:=fun W (hW:NumV W v x)=>broken_any v x W hW
 have HBR:=Lib.hid hbr;have hW:=decL_short 9 m (by omega);obtain ⟨b,g,go,cap,rfl,_,_,_,_,_⟩:=h;have hfd:=field_digits;clear hok hbr;go_enter Tryz.func171,Tryz.ntmps171
 go_wp2_with fail
 refine (int_num _ x _ (HH.out.below ((Below.refl _ _).alloc (Nat.le_refl _) _))).mono ?_;rintro e w1 ⟨⟨ad',cap',rfl,hc1,hc2,hB⟩,hb1⟩;have hbox:(w.alloc (.cells #[.bool b,.slice (some ⟨g,go,none⟩) (x.1.length+x.2.length) cap,.int .i64 x.2.length] 97)).heap.size=w.heap.size+1:=by simp
 have k0:w1.cell? ⟨w.heap.size,0,none⟩=some (.bool b):=(hb1.cell (by simp)).trans (cell_made _ _ _ _ _);have k1:w1.cell? ⟨w.heap.size,1,none⟩=some (.slice (some ⟨g,go,none⟩) (x.1.length+x.2.length) cap):=(hb1.cell (by simp)).trans (cell_made _ _ _ _ _);have k2:w1.cell? ⟨w.heap.size,2,none⟩=some (.int .i64 x.2.length):=(hb1.cell (by simp)).trans (cell_made _ _ _ _ _);have hbb:Below w.heap.size w w1:=((Below.refl _ _).alloc (Nat.le_refl _) _).trans (hb1.mono (by simp));have hs1:w.heap.size<w1.heap.size:=by have:=hb1.size;rw [hbox] at this;omega
 clear hb1 hbox;obtain ⟨p,rfl,_⟩:=hB 0 (by rw [vals_length];exact List.length_pos_iff.2 HO.out.ne);have HB:=Lib.hid hB;clear hB;go_wp2_with fail
 refine (whole_any m _ hm).mono ?_;rintro e w2 ⟨⟨g2,cap2,rfl,ho⟩,hb2⟩;have j0:=(hb2.cell (p:=⟨w.heap.size,0,none⟩) hs1).trans k0;have j1:=(hb2.cell (p:=⟨w.heap.size,1,none⟩) hs1).trans k1;have j2:=(hb2.cell (p:=⟨w.heap.size,2,none⟩) hs1).trans k2;have hbb2:Below w.heap.size w w2:=hbb.trans (hb2.mono (by omega));have HB2:=Lib.hid (HB.out.below hb2);have HB3:=Lib.hid (bytesAt_own ho rfl);have HNV:=Lib.hid (HH.out.below hbb2);clear ho hb2 k0 k1 k2 hbb;have hdl:=decL_ne m;by_cases h1:x.1.length<(decL m).length
 ·have hc:cmpL x.1 (decL m) = -1:=by
   unfold cmpL;rw [if_pos (.inl h1)]
  have hf:cmpT x m = -1:=by
   unfold cmpT;rw [hc];rfl
  have HF:=Lib.hid hf;have g1:((x.1.length:Int) - ((decL m).length:Int)==0)=false:=by simp;omega
  have g2':decide ((x.1.length:Int) - ((decL m).length:Int)<0)=true:=by simp;omega
  clear hf hc;go_wp2
  all_goals (first | (exfalso;omega) | skip)
  go_ret
  exact ⟨by rw [HF.out];rfl,hbb2⟩
 ·by_cases h2:(decL m).length<x.1.length
  ·have hc:cmpL x.1 (decL m)=1:=by
    unfold cmpL;rw [if_neg (fun q=>q.elim h1 (fun q=>by omega)),if_neg (fun e=>by rw [e] at h2;omega)]
   have hf:cmpT x m=1:=by
    unfold cmpT;rw [hc];simp
   have HF:=Lib.hid hf;have g1:((x.1.length:Int) - ((decL m).length:Int)==0)=false:=by simp;omega
   have g2':decide ((x.1.length:Int) - ((decL m).length:Int)<0)=false:=by simp;omega
   have g3:decide (0<(x.1.length:Int) - ((decL m).length:Int))=true:=by simp;omega
   clear hf hc;go_wp2
   all_goals (first | (exfalso;omega) | skip)
   go_ret
   exact ⟨by rw [HF.out];rfl,hbb2⟩
  ·have he:x.1.length=(decL m).length:=by omega
   have g1:((x.1.length:Int) - ((decL m).length:Int)==0)=true:=by simp;omega
   have hcl:=cmpB_cmpL he;have hbc:=bytesCompare_any x.1 (decL m) x.1.length cap' (decL m).length cap2 p ⟨g2,0,none⟩ w2 rfl rfl HB2.out HB3.out he HO.out.dig1 (decL_dig m);have HBC:=Lib.hid hbc;obtain ⟨r,hr⟩:∃ r,cmpB x.1 (decL m)=r:=⟨_,rfl⟩;have hcm:cmpL x.1 (decL m)=r:=by rw [←hcl,hr]
   have hcs:=cmp_cases x.1 (decL m);rw [hcm] at hcs;have hfin:cmpT x m=if r<0 then -1 else if 0<r\/brk x.2=true then 1 else 0:=by unfold cmpT;rw [hcm]
   have HFIN:=Lib.hid hfin;have HR:=Lib.hid hr;clear hbc hr hcm hcl hfin he h1 h2;go_wp2_with fail
   refine HBC.out.mono ?_;rw [HR.out];rintro e w3 ⟨rfl,rfl⟩;rcases hcs with rfl | rfl | rfl
   ·have hf:=HFIN.out;rw [if_pos (by decide)] at hf;have HF:=Lib.hid hf;clear hf;go_wp2
    go_ret
    exact ⟨by rw [HF.out];rfl,hbb2⟩
   ·have hf:=HFIN.out;rw [if_neg (by decide)] at hf;have hbk:=HBR.out w2 HNV.out;obtain ⟨q,hq⟩:∃ q,brk x.2=q:=⟨_,rfl⟩;rw [hq] at hf hbk;have HF:=Lib.hid hf;have HBK:=Lib.hid hbk;clear hf hbk hq;go_wp2_with fail
    refine HBK.out.mono ?_;rintro e w4 ⟨rfl,hb4⟩;have hbb4:Below w.heap.size w w4:=hbb2.trans (hb4.mono hbb2.size)
    cases q
    ·go_wp2
     go_ret
     exact ⟨by rw [HF.out];rfl,hbb4⟩
    ·go_wp2
     go_ret
     exact ⟨by rw [HF.out];rfl,hbb4⟩
   ·have hf:=HFIN.out;rw [if_neg (by decide),if_pos (.inl (by decide))] at hf;have HF:=Lib.hid hf;clear hf;go_wp2
    go_ret
    exact ⟨by rw [HF.out];rfl,hbb2⟩
end Go.Proofs.YthpldolmpinnhaaGreatDoor
