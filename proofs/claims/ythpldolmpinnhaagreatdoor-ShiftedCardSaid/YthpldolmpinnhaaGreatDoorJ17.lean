import Derived.Test.YthpldolmpinnhaaGreatDoorJ16
import Derived.Laws.EntriesVeiled
namespace Go.Proofs.YthpldolmpinnhaaGreatDoor
open Go Go.RowKit
set_option maxRecDepth 10000
theorem Fr.over {F F' G G':Nat->Prop} {w w1 w2:World} (h:Fr F F' w w1) (k:Fr G G' w1 w2) (hg:∀ q,G q->F q\/w.heap.size<=q):Fr F F' w w2 :=
 ⟨k.os.trans h.os,k.tape.trans h.tape,k.output.trans h.output,Nat.le_trans h.size k.size,fun i hi hn=>(k.keep i (Nat.lt_of_lt_of_le hi h.size) (fun q=>(hg i q).elim hn (by omega))).trans (h.keep i hi hn),h.fp⟩
structure MEnv (lo hi:Nat) (w0:World) (B:Nat) (w:World):Prop where
 keep:KeepR lo hi w0 w
 hB:hi<=B
 fo:FrmsAt w
 na:NamesAt w
 g1:2<B
 g2:0<B
theorem MEnv.fr {lo hi B:Nat} {w0 w w':World} {F F':Nat->Prop} (h:MEnv lo hi w0 B w) (hf:Fr F F' w w') (hF:∀ k,F k->B<=k):MEnv lo hi w0 B w':=by
 have hb:=h.hB;have hk:=h.keep;refine ⟨⟨Nat.le_trans hk.1 hf.size,fun k a b=>(hf.keep k (by have:=hk.1;omega) (fun q=>by have:=hF k q;omega)).trans (hk.2 k a b)⟩,hb,h.fo.fr hf hF h.g1,fun j hj=>hf.cell (h.na j hj) (fun q=>by have:=hF _ q;have:=h.g2;simp only at *;omega),h.g1,h.g2⟩
def MesC (lo hi:Nat) (w0:World) (f:Fo):Prop:=∀ p L s w a c vs,MkAt p L s w->MEnv lo hi w0 L.B w->RowC lo hi w0 a vs->NodesV lo hi w0 vs f->f.isMsg=true->f.wf 2000000=true->f.cok->f.len<=2000000->s.sz+f.cw<=900000 ->
 Calls Tryz.prog 80 #[.pointer (some ⟨p,0,none⟩),.slice a f.len c] w (MQ p L (MkS.mes f s) w)
structure BegC (N p:Nat) (s0:MkS) (keys:List Wd) (bg:Wd->MkS->MkS) (v:Value) (I:Lay->World->Prop):Prop where
 fn:∃ k cap,v = .func (.func k) #[] cap/\(∀ args w,(callFunc k args).run Tryz.prog w = .ok (.enter k args) w) /\
  ∀ L s W key (a:Nat) ma mn mc,MkAt p L s W->I L W->s0.le s->s.sz<=900000->key∈keys->Calls Tryz.prog k (#[.agg #[strv key,.int .i64 (a:Nat),.slice ma mn mc]]++cap) W (LeapQ p L (bg key s) W)
 fr:∀ L L' W W',I L W->Fr (L.has p) (L'.has p) W W'->I L' W'
 al:∀ L W W' F F',I L W->Fr F F' W W'->(∀ k,F k->N<=k)->I L W'
 le:∀ k s,s.le (bg k s)/\(bg k s).sz=s.sz
def LeapsAt (w:World) (p:Nat) (L:Lay) (s:MkS) (ls:List Nat) (bcs:List (Nat×Nat)):Prop :=
 bcs.length=ls.length/\∀ (n i:Nat) (x:Nat×Nat),ls[n]? = some i->bcs[n]? = some x->LeapAt w p i x.1 x.2/\¬L.has p x.1/\¬L.has p x.2/\∃ y,s.code[i]? = some y/\y.tg.length=1
theorem LeapAt.fr {w w':World} {F F':Nat->Prop} {p i b c:Nat} (h:LeapAt w p i b c) (hf:Fr F F' w w') (h1:¬F b) (h2:¬F c):LeapAt w' p i b c:=⟨hf.cell h.pb h1,hf.cell h.pc h2,(typ_keep (hf.keep b (World.block_lt_of_cell? w _ h.pb) h1)).trans h.tb,(typ_keep (hf.keep c (World.block_lt_of_cell? w _ h.pc) h2)).trans h.tc⟩
theorem LeapAt.lt {w:World} {p i b c:Nat} (h:LeapAt w p i b c):b<w.heap.size/\c<w.heap.size:=⟨World.block_lt_of_cell? w _ h.pb,World.block_lt_of_cell? w _ h.pc⟩
theorem LeapsAt.fr {w w':World} {p:Nat} {L L':Lay} {s s':MkS} {ls:List Nat} {bcs:List (Nat×Nat)} (h:LeapsAt w p L s ls bcs) (hf:Fr (L.has p) (L'.has p) w w') (hs:s.le s'):LeapsAt w' p L' s' ls bcs :=
 ⟨h.1,fun n i x h1 h2=>by
  obtain ⟨a,b,c,y,d,e⟩:=h.2 n i x h1 h2;obtain ⟨y2,d2,e2⟩:=hs i y d;exact ⟨a.fr hf b c,fun q=>(hf.fp _ q).elim b (by have:=a.lt;omega),fun q=>(hf.fp _ q).elim c (by have:=a.lt;omega),y2,d2,e2.trans e⟩⟩
theorem LeapsAt.ty {w w':World} {F F':Nat->Prop} {p:Nat} {L:Lay} {s:MkS} {ls:List Nat} {bcs:List (Nat×Nat)} (h:LeapsAt w p L s ls bcs) (hf:Fr F F' w w') (hF:∀ k,F k->typ w k=some 189):LeapsAt w' p L s ls bcs :=
 ⟨h.1,fun n i x h1 h2=>by
  obtain ⟨a,b,c,d⟩:=h.2 n i x h1 h2;exact ⟨a.fr hf (fun q=>by have:=hF _ q;rw [a.tb] at this;cases this) (fun q=>by have:=hF _ q;rw [a.tc] at this;cases this),b,c,d⟩⟩
theorem LeapsAt.al {w w':World} {p:Nat} {L:Lay} {s:MkS} {ls:List Nat} {bcs:List (Nat×Nat)} (h:LeapsAt w p L s ls bcs) (hf:Fr noF noF w w'):LeapsAt w' p L s ls bcs :=
 ⟨h.1,fun n i x h1 h2=>by
  obtain ⟨a,b,c,d⟩:=h.2 n i x h1 h2;exact ⟨a.fr hf id id,b,c,d⟩⟩
theorem LeapsAt.more {w:World} {p:Nat} {L:Lay} {s:MkS} {ls:List Nat} {bcs:List (Nat×Nat)} {i b c:Nat} {y:InL} (h:LeapsAt w p L s ls bcs) (hl:LeapAt w p i b c) (hb:¬L.has p b) (hc:¬L.has p c) (hy:s.code[i]? = some y) (h1:y.tg.length=1) :
  LeapsAt w p L s (ls++[i]) (bcs++[(b,c)]):=by
 refine ⟨by simp [h.1],fun n j x e1 e2=>?_⟩;by_cases hn:n<ls.length
 ·rw [List.getElem?_append_left hn] at e1;rw [List.getElem?_append_left (by have:=h.1;omega)] at e2;exact h.2 n j x e1 e2
 ·have hn2:n=ls.length:=by have:=(List.getElem?_eq_some_iff.1 e1).1;simp at this;omega
  rw [hn2,List.getElem?_append_right (Nat.le_refl _)] at e1;rw [hn2,List.getElem?_append_right (by have:=h.1;omega),h.1] at e2;simp at e1 e2;subst e1 e2;exact ⟨hl,hb,hc,y,hy,h1⟩
theorem elem_func:Elem Tryz.prog 325 189 .nilFunc 1 8 :=
 ⟨Tryz.underlying325,info_parts (by kernel_rfl),rfl,by decide,by decide⟩
def leapR (bcs:List (Nat×Nat)):List Value:=bcs.map fun x=>leapV x.1 x.2
theorem go_leg (k:Wd) (a:Nat) (m r:Fo) (bg:Wd->MkS->MkS) (s:MkS) (ls:List Nat) :
  MkS.goS (.leg k a m r) bg s ls=MkS.goS r bg ((MkS.mes m (bg k s)).put 11 0 [] [0]) (ls++[(MkS.mes m (bg k s)).code.length]):=rfl
theorem made_ints (n:Nat):(madeCells (Value.int .i64 0).cells (n*1)).toList=intC (List.replicate n 0):=by
 apply List.ext_getElem
 ·simp [madeCells,intC]
 ·intro j h1 h2;simp [madeCells,intC,Value.cells,Nat.mod_one]
theorem make_ints (n:Nat) (w:World) (hn:n<=1000000):∃ w',(Instr.makeSlice 39 (.int .i64 (n:Int)) (.int .i64 (n:Int))).run Tryz.prog w = .ok (.slice (some ⟨w.heap.size,0,none⟩) n n) w'/\NRow w' (.slice (some ⟨w.heap.size,0,none⟩) n n) (List.replicate n 0)/\Fr noF noF w w':=by
 obtain ⟨i,hi,hz,h2,h3⟩:=elem_ints.info;obtain ⟨w',hr,ho,hg⟩:=run_makeSlice_full (P:=Tryz.prog) (w:=w) 0 39 3 i _ 1 elem_ints.under hi hz h2 .i64 .i64 n (by omega) (by rw [h3];omega) (by unfold maxLen;omega) (Nat.zero_le _);rw [made_ints] at ho;refine ⟨w',hr,by simpa [NRow] using ho,hg.os,hg.tape,hg.output,hg.size,fun k hk _=>hg.block k hk (by simp),fun _ q=>q.elim⟩
theorem leg_cells {lo hi:Nat} {w0 w:World} {ba:Option Addr} {ws us vt:List Value} {k0:Wd} {a0 i ml mc:Nat} {ma:Option Addr} (hk:KeepR lo hi w0 w) (hrw:RowC lo hi w0 ba ws) (hus:us.length=i*3) (hws:ws=us++(strv k0 :: .int .i64 (a0:Nat) :: .slice ma ml mc::vt)) :
  ∃ g o,ba=some ⟨g,o,none⟩/\w.cell? ⟨g,o+i*3,none⟩=some (strv k0)/\w.cell? ⟨g,o+i*3+1,none⟩=some (.int .i64 (a0:Nat))/\w.cell? ⟨g,o+i*3+2,none⟩=some (.slice ma ml mc):=by
 have hat:∀ j v,[strv k0,.int .i64 (a0:Nat),.slice ma ml mc][j]? = some v->j<3->ws[i*3+j]? = some v:=by
  intro j v hj h3;rw [hws,←hus,List.getElem?_append_right (by omega),Nat.add_sub_cancel_left,←hj];match j,h3 with
  | 0,_=>rfl
  | 1,_=>rfl
  | 2,_=>rfl
 have hc:∀ j v,ws[i*3+j]? = some v->∃ g o,ba=some ⟨g,o,none⟩/\w.cell? ⟨g,o+(i*3+j),none⟩=some v:=fun j v h=>by
  obtain ⟨h1,h2⟩:=List.getElem?_eq_some_iff.1 h;obtain ⟨g,o,e,g1,g2,c⟩:=hrw _ h1;rw [h2] at c;exact ⟨g,o,e,keep_cell hk c g1 g2⟩
 obtain ⟨g,o,rfl,c0⟩:=hc 0 _ (hat 0 _ rfl (by omega));obtain ⟨g1,o1,e1,c1⟩:=hc 1 _ (hat 1 _ rfl (by omega));obtain ⟨g2,o2,e2,c2⟩:=hc 2 _ (hat 2 _ rfl (by omega))
 cases e1
 cases e2;exact ⟨g,o,rfl,c0,c1,c2⟩
def bodS (bs:Fo) (bg:Wd->MkS->MkS) (s:MkS):MkS:=(MkS.goS bs bg s []).2.foldl (fun s i=>s.leap i 0) (MkS.goS bs bg s []).1
set_option maxHeartbeats 20000000 in
theorem bodies_any {lo hi:Nat} {w0:World} (b0:Nat) (n:Wd) (a fo:Nat) (of:Wd) (cl:Nat) (bs:Fo) (p:Nat) (L:Lay) (s:MkS) (bg:Wd->MkS->MkS) (v:Value) (I:Lay->World->Prop) (w:World)
  (ih:∀ m:Fo,SizeOf.sizeOf m<SizeOf.sizeOf bs->MesC lo hi w0 m) (h:MkAt p L s w) (he:MEnv lo hi w0 L.B w)
  (hnd:NodesV lo hi w0 [.iface 177 (.pointer (some ⟨b0,0,none⟩))] (.br n a fo of cl bs .nil)) (hL:bs.isLegs=true) (hc:bs.cok) (hw:bs.wf 2000000=true) (hn:bs.len<=2000000) (hs:s.sz+bs.gw<=900000)
  (hb:BegC w.heap.size p s bs.keys bg v I) (hI:I L w) :
  Calls Tryz.prog 161 #[.pointer (some ⟨p,0,none⟩),.pointer (some ⟨b0,0,none⟩),v] w (MQ p L (bodS bs bg s) w):=by
 obtain ⟨vt,b',ba,bc,ws,hee,hb1,hb2,hc0,hc1,hc2,hc3,hc4,hc5,hrw,hbs,_⟩:=hnd
 cases hee;have c4:=keep_cell he.keep hc4 hb1 hb2;obtain ⟨k,cap,rfl,hent,hcall⟩:=hb.fn;have HH:=Lib.hid h;have HE:=Lib.hid he;have HRW:=Lib.hid hrw;have HBS:=Lib.hid hbs;have HL:=Lib.hid hL;have HC:=Lib.hid hc;have HW:=Lib.hid hw;have HB:=Lib.hid hb;have HI:=Lib.hid hI;have HCALL:=Lib.hid hcall;have HIH:=Lib.hid ih;have HS:=Lib.hid hs;obtain ⟨R,hR⟩:∃ R,MkS.goS bs bg s []=R:=⟨_,rfl⟩;have HR:=Lib.hid hR;have hbR:bodS bs bg s=R.2.foldl (fun s i=>s.leap i 0) R.1:=by unfold bodS;rw [hR]
 rw [hbR];obtain ⟨M,hM⟩:∃ M,bs.len=M:=⟨_,rfl⟩;have HM:=Lib.hid hM;rw [hM] at c4 hn;clear h he hrw hbs hL hc hw hb hI hcall ih hs hR hbR hM hc0 hc1 hc2 hc3 hc4 hc5;go_enter Tryz.func161,Tryz.ntmps161
 go_wp2_with fail
 go_loopw [6,16] (fun lv iv wr=>∃ i us xs r s1 L1 ls bcs,iv = .int .i64 (i:Nat)/\i<=M/\NodesV lo hi w0 xs r/\r.isLegs=true/\r.cok/\r.wf 2000000=true/\us.length=i*3/\ws=us++xs/\i+r.len=M/\SizeOf.sizeOf r<=SizeOf.sizeOf bs/\(∀ k∈r.keys,k∈bs.keys) /\
  MkAt p L1 s1 wr/\(L1.q=L.q/\L1.B=L.B)/\Fr (L.has p) (L1.has p) w wr/\I L1 wr/\s.le s1/\s1.sz+r.gw<=900000/\LeapsAt wr p L1 s1 ls bcs/\wr.ownsRow 0 189 1 lv ls.length (leapR bcs)/\(∀ g,rowF lv g->w.heap.size<=g/\¬L1.has p g)/\ls.length=i/\MkS.goS r bg s1 ls=R) (fun _ iv _=>M - (intOf iv).toNat)
 case atStart =>
  exact ⟨0,[],ws,bs,s,L,[],[],rfl,Nat.zero_le _,HBS.out,HL.out,HC.out,HW.out,rfl,rfl,by have:=HM.out;omega,Nat.le_refl _,fun _ q=>q,HH.out,⟨rfl,rfl⟩,Fr.refl _ _,HI.out,s.le_refl,HS.out,⟨rfl,fun n i x q=>by simp at q⟩,World.ownsRow_nil _ _ _ _,(fun g q=>by cases q),rfl,HR.out⟩
 case round =>
  obtain ⟨i,us,xs,r,s1,L1,ls,bcs,rfl,hiM,hnr,hlr,hcr,hwr,hus,hws,hln,hsz,hkk,hm1,⟨hq1,hB1⟩,hf1,hi1,hle1,hs1,hlp,hrow,hrg,hlsl,hgo⟩:=hrel;have he1:MEnv lo hi w0 L1.B wr:=by rw [hB1];exact HE.out.fr hf1 HH.out.lo
  obtain ⟨la,lc,rfl⟩:=own_slice hrow;by_cases hlt:i<M
  ·cases r with
   | nil=>exfalso;simp [Fo.len] at hln;omega
   | text t r=>cases hlr
   | hash r=>cases hlr
   | put n a r=>cases hlr
   | num n a r=>cases hlr
   | br n a fo of cl bs r=>cases hlr
   | leg k0 a0 m0 r0 =>
    obtain ⟨vt2,ma,mc,ms,rfl,hmrow,hmn,hnr3⟩:=hnr;obtain ⟨g2,o2,rfl,e0,e1,e2⟩:=leg_cells he1.keep HRW.out hus hws;have HM1:=Lib.hid hm1;have HE1:=Lib.hid he1;have HF1:=Lib.hid hf1;have HI1:=Lib.hid hi1;have HLE1:=Lib.hid hle1;have HLP:=Lib.hid hlp;have HROW:=Lib.hid hrow;have HRG:=Lib.hid hrg;have HGO:=Lib.hid hgo;have HLR:=Lib.hid hlr;have HCR:=Lib.hid hcr;have HWR:=Lib.hid hwr;have HUS:=Lib.hid hus;have HWS:=Lib.hid hws;have HKK:=Lib.hid hkk;have HMR:=Lib.hid hmrow;have HMN:=Lib.hid hmn;have HNR:=Lib.hid hnr3;have HLN:=Lib.hid hln;have HSZ:=Lib.hid hsz;have HS1:=Lib.hid hs1;have HLS:=Lib.hid hlsl;have k3:(i:Int)<(M:Int):=by omega
    have k4:decide ((i:Int)<(M:Int))=true:=by simp;omega
    clear hm1 he1 hf1 hi1 hle1 hlp hrow hrg hgo hlr hcr hwr hus hws hkk hmrow hmn hnr3 hln hsz hs1 hlsl;go_wp2_with fail
    obtain ⟨wA,hwA⟩:∃ wA,wr.alloc (.cells #[strv k0,.int .i64 (a0:Nat),.slice ma m0.len mc] 183)=wA:=⟨_,rfl⟩;have fA:Fr noF noF wr wA:=by rw [←hwA];exact (Fr.refl _ _).alloc _
    have cA:=cell_made wr #[strv k0,.int .i64 (a0:Nat),.slice ma m0.len mc] 183 (0,0) 2;rw [hwA] at cA ⊢;clear hwA;have hmA:=HM1.out.fr fA (fun _ q=>q.elim);have hkey:k0∈bs.keys:=HKK.out k0 (by simp [Fo.keys]);have hs1:=HS1.out;simp only [Fo.gw] at hs1;refine (HCALL.out L1 s1 wA k0 a0 ma m0.len mc hmA (HB.out.al _ _ _ _ _ HI1.out fA (fun _ q=>q.elim)) HLE1.out (by omega) hkey).mono ?_;rintro e w2 ⟨rfl,hm2,hf2⟩;obtain ⟨hbl,hbz⟩:=HB.out.le k0 s1;have nA:¬L1.has p wr.heap.size:=fun q=>Nat.lt_irrefl _ (HM1.out.lt q)
    have c2:=hf2.cell cA nA;have f12:Fr (L1.has p) (L1.has p) wr w2:=(fA.wide (fun _ q=>q.elim)).trans hf2;have he2:MEnv lo hi w0 L1.B w2:=HE1.out.fr f12 HM1.out.lo;have hcr:=HCR.out;have hwq:(decide (k0.length<=4000001) && m0.isMsg && decide (m0.len<=2000000) && m0.wf 2000000 && r0.wf 2000000)=true:=HWR.out;simp only [Bool.and_eq_true,decide_eq_true_eq] at hwq;have hszm:SizeOf.sizeOf m0<SizeOf.sizeOf bs:=by have:=HSZ.out;simp at this;omega
    have HMES:=Lib.hid (HIH.out m0 hszm p L1 (bg k0 s1) w2 ma mc ms hm2 he2 HMR.out HMN.out hwq.1.1.1.2 hwq.1.2 hcr.2.1 hwq.1.1.2 (by omega));have F12:=Lib.hid f12;have HWQ:=Lib.hid hwq.2;clear hm2 hf2 f12 he2 hcr hwq hszm cA fA hmA;go_wp2_with fail
    refine HMES.out.mono ?_;rintro e w3 ⟨rfl,L2,hm3,⟨hq2,hB2⟩,hf3⟩;have HM3:=Lib.hid hm3;have HF3:=Lib.hid hf3;clear hm3 hf3 HMES c2;obtain ⟨w4,hmk,hk4,hf4⟩:=make_ints 1 w3 (by omega);rw [show ((1:Nat):Int)=1 from rfl] at hmk;have hm4:=HM3.out.fr hf4 (fun _ q=>q.elim);have he3:MEnv lo hi w0 L2.B w3:=by
     have:=(HE1.out.fr F12.out HM1.out.lo).fr HF3.out HM1.out.lo;rw [hB2];exact this
    have he4:MEnv lo hi w0 L2.B w4:=he3.fr hf4 (fun _ q=>q.elim);obtain ⟨s2,hs2⟩:∃ s2,MkS.mes m0 (bg k0 s1)=s2:=⟨_,rfl⟩;rw [hs2] at hm4 HM3;have hmz:=mes_le m0 (bg k0 s1);rw [hs2] at hmz;have hx:(insX ⟨11,s2.pos,0,[],List.replicate 1 0⟩).length=3:=by simp [insX,frmL,insB,twoL]
    have hz2:s2.sz<=900000:=by omega
    unfold MkS.sz at hz2;have HP:=Lib.hid (put_any p L2 s2 11 0 [] (List.replicate 1 0) (.slice none 0 0) (.slice (some ⟨w3.heap.size,0,none⟩) 1 1) w4 hm4 (NRow.nil _) hk4 (fun g hg=>by cases hg) (fun g hg q=>by cases hg;exact Nat.lt_irrefl _ (HM3.out.lt q)) (fun g hg q=>by cases q)
     (fun g hg=>by rcases hg with hg | hg<;>cases hg;have:=HM3.out.base;show L2.B<=w3.heap.size;omega)
     ⟨(by decide:11<12),by simp,by simp,by simp,by simp,rfl⟩ he4.fo he4.g1 (by omega) (by omega) (by omega))
    have HF4:=Lib.hid hf4;have HHS2:=Lib.hid hs2;have HMZ:=Lib.hid hmz;clear hm4 he3 he4 hk4 hf4 hmz hx hs2;go_wp2_with fail
    refine HP.out.mono ?_;rintro e w5 ⟨b,c,rfl,hlp5,hb5,hc5,L3,hm5,⟨hq3,hB3⟩,hf5,nb5,nc5⟩;have HM5:=Lib.hid hm5;have HF5:=Lib.hid hf5;have HL5:=Lib.hid hlp5;clear HP hm5 hf5 hlp5;have FA:=Lib.hid (show Fr (L1.has p) (L3.has p) wr w5 from (((F12.out.trans HF3.out).trans (HF4.out.wide (fun _ q=>q.elim))).tr HF5.out (fun q hq=>by
     rcases hq with hq | hq | hq
     ·exact (F12.out.trans HF3.out).fp q hq
     ·cases hq
     ·cases hq;exact .inr (F12.out.trans HF3.out).size)))
    have hro:=FA.out.own HROW.out (fun g hg=>(HRG.out g hg).2);obtain ⟨ln,hln⟩:∃ ln,ls.length=ln:=⟨_,rfl⟩;rw [hln] at hro HROW HRG ⊢;have hlim:ln<=2000000:=by have:=HLS.out;omega
    have HRO:=Lib.hid hro;have HLN2:=Lib.hid hln;clear hro hln;go_wp2_with (at_builtin;refine app_new elem_func [_] 1 HRO.out (by omega) ?_)
    intro v6 w6 ho6 hf6;have n3:∀ g,rowF (.slice la ln lc) g->¬L3.has p g:=fun g hg q=>(FA.out.fp g q).elim (HRG.out g hg).2 (by have:=own_in HROW.out hg;omega)
    have hl1:s1.le s2:=MkS.le_trans (HB.out.le k0 s1).1 HMZ.out.1;have hl3:=MkS.le_trans hl1 (MkS.le_put s2 11 0 [] (List.replicate 1 0));have hz3:=sz_put s2 11 0 [] (List.replicate 1 0);have hx3:(insX ⟨11,s2.pos,0,[],List.replicate 1 0⟩).length=3:=by simp [insX,frmL,insB,twoL]
    have hzz:=HMZ.out.2;have G1:=Lib.hid (HM5.out.fr hf6 n3);have G2:=Lib.hid ((HF1.out.trans FA.out).over hf6 (fun q hq => .inr (HRG.out q hq).1));have G3:=Lib.hid (HB.out.al _ _ _ _ _ (HB.out.fr _ _ _ _ HI1.out FA.out) hf6 (fun q hq=>(HRG.out q hq).1));have G4:=Lib.hid (((HLP.out.fr FA.out hl3).more HL5.out nb5 nc5 (i:=s2.code.length) (y:=⟨11,s2.pos,0,[],List.replicate 1 0⟩) (by simp [MkS.put]) (by simp)).ty hf6 (fun q hq=>own_typ HRO.out hq));have G5:=Lib.hid (show ∀ g,rowF v6 g->w.heap.size<=g/\¬L3.has p g from fun g hg=>(hf6.fp g hg).elim (fun q=>⟨(HRG.out g q).1,n3 g q⟩) (fun q=>⟨Nat.le_trans (HF1.out.trans FA.out).size q,fun e=>by have:=HM5.out.lt e;omega⟩));obtain ⟨a6,c6,rfl⟩:=own_slice ho6;have HO6:=Lib.hid ho6;clear ho6 hf6 n3 hmk;have hzb:=(HB.out.le k0 s1).2;go_wp2
    go_roundw
    case rel =>
     refine ⟨i+1,us++[strv k0,.int .i64 (a0:Nat),.slice ma m0.len mc],vt2,r0,s2.put 11 0 [] (List.replicate 1 0),L3,ls++[s2.code.length],bcs++[(b,c)],by go_num,by omega,HNR.out,HLR.out,HCR.out.2.2,HWQ.out,by simp [HUS.out];omega,by rw [HWS.out];simp,by have:=HLN.out;simp only [Fo.len] at this;omega,by have:=HSZ.out;simp at this;omega,fun k hk=>HKK.out k (by simp [Fo.keys,hk]),G1.out,⟨by rw [hq3,hq2,hq1],by rw [hB3,hB2,hB1]⟩,G2.out,G3.out,MkS.le_trans HLE1.out hl3,by omega,G4.out,?_,G5.out,by rw [List.length_append,HLS.out];rfl,?_⟩
     ·have:=HO6.out;rw [←HLN2.out] at this ⊢;simpa [leapR] using this
     ·have:=HGO.out;rw [go_leg,HHS2.out] at this;exact this
    case measure=>simp only [intOf];omega
  ·have hr0:MkS.goS r bg s1 ls=(s1,ls):=by
    cases r with
    | nil=>rfl
    | text t r=>cases hlr
    | hash r=>cases hlr
    | put n a r=>cases hlr
    | num n a r=>cases hlr
    | br n a fo of cl bs r=>cases hlr
    | leg k0 a0 m0 r0=>exfalso;simp only [Fo.len] at hln;omega
   obtain rfl:(s1,ls)=R:=hr0.symm.trans hgo;have HM1:=Lib.hid hm1;have HF1:=Lib.hid hf1;have HLP:=Lib.hid hlp;have HROW:=Lib.hid hrow;have HRG:=Lib.hid hrg;have HS1:=Lib.hid hs1;obtain ⟨ln,hlnn⟩:∃ ln,ls.length=ln:=⟨_,rfl⟩;rw [hlnn] at HROW HRG ⊢;have hlim:ln<=2000000:=by omega
   have HLN:=Lib.hid hlnn;clear hm1 he1 hf1 hi1 hle1 hlp hrow hrg hgo hlr hcr hwr hus hws hkk hln hsz hs1 hnr hr0 hlnn hlsl;go_wp2_with fail
   go_loopw [37] (fun jv wr2=>∃ j s2,jv = .int .i64 (j:Nat)/\j<=ln/\MkAt p L1 s2 wr2/\Fr (L1.has p) (L1.has p) wr wr2/\s2=(ls.take j).foldl (fun s i=>s.leap i 0) s1/\LeapsAt wr2 p L1 s2 ls bcs/\s2.sz<=900000) (fun jv _=>ln - (intOf jv).toNat)
   case atStart=>exact ⟨0,s1,rfl,Nat.zero_le _,HM1.out,Fr.refl _ _,rfl,HLP.out,by have:=HS1.out;omega⟩
   case round =>
    obtain ⟨j,s2,rfl,hj,hm2,hf2,hs2,hl2,hz2⟩:=hrel;have HM2:=Lib.hid hm2;have HF2:=Lib.hid hf2;have HL2:=Lib.hid hl2;have HS2:=Lib.hid hs2;by_cases hlt2:j<ln
    ·obtain ⟨ij,hij⟩:∃ ij,ls[j]? = some ij:=⟨_,List.getElem?_eq_getElem (by have:=HLN.out;omega)⟩;obtain ⟨⟨b,c⟩,hbc⟩:∃ x,bcs[j]? = some x:=⟨_,List.getElem?_eq_getElem (by have:=HLN.out;have:=HLP.out.1;omega)⟩;obtain ⟨hla,-,-,y,hy,hy1⟩:=hl2.2 j ij (b,c) hij hbc;have hro:=hf2.own HROW.out (fun g hg=>(HRG.out g hg).2);obtain ⟨g,gc,hve,-,-,hcl⟩:=own_some hro (by omega)
     cases hve;have hc1:wr.cell? ⟨g,j,none⟩=some (leapV b c):=by
      rw [hcl j (by omega)];simp [leapR,hbc]
     have hcode:s2.code.length<=1000000:=by unfold MkS.sz at hz2;omega
     have HLA:=Lib.hid (leap_any p L1 s2 ij 0 b c y wr hm2 hla hy (by omega) hcode (by omega));have HIJ:=Lib.hid hij;have k3:(j:Int)<(ln:Int):=by omega
     have k4:decide ((j:Int)<(ln:Int))=true:=by simp;omega
     clear hm2 hf2 hl2 hs2 hla hy hro hcl hij hbc;go_wp2_with fail
     refine HLA.out.mono ?_;rintro e w3 ⟨rfl,hm3,hf3⟩;have HM3:=Lib.hid hm3;have HF3:=Lib.hid hf3;clear hm3 hf3 HLA;go_wp2
     go_roundw
     case rel =>
      refine ⟨j+1,s2.leap ij 0,by go_num,by omega,HM3.out,HF2.out.trans HF3.out,?_,HL2.out.fr HF3.out (s2.le_leap _ _),by rw [sz_leap];exact hz2⟩;rw [List.take_add_one,HIJ.out];simp [HS2.out]
     case measure=>simp only [intOf];omega
    ·have HE2:=Lib.hid (show s2=ls.foldl (fun s i=>s.leap i 0) s1 by rw [hs2,List.take_of_length_le (by have:=HLN.out;omega)]);have k3:¬(j:Int)<(ln:Int):=by omega
     have k4:decide ((j:Int)<(ln:Int))=false:=by simp;omega
     clear hm2 hf2 hl2 hs2;go_wp2
     refine bodyPost_ret (v := .tuple #[]) ?_ rfl ?_
     ·simp [results,Tryz.results161,go_sem]
     rw [←HE2.out];exact ⟨rfl,L1,HM2.out,⟨hq1,hB1⟩,HF1.out.trans HF2.out⟩
def MapZ (w:World) (b n:Nat) (f:Wd->Option Nat):Prop :=
 ∃ D:DataW Unit,w.ownsMap Tryz.prog 9 (plainElem Tryz.prog 3) b n D/\Maps.size D=n/\∀ m:Wd,Maps.has D (.string m)=(f m).isSome/\D.atKey (.string m) (.lit (.int .i64 0)) = .lit (.int .i64 (((f m).getD 0:Nat):Int))
theorem MapZ.g {w:World} {b n:Nat} {f:Wd->Option Nat} (h:MapZ w b n f):MapG 3 w b n f:=by
 obtain ⟨D,h1,-,h3⟩:=h;exact ⟨D,h1,h1.isMap,h3⟩
theorem MapZ.made (w:World):MapZ (w.alloc (.map #[] 0)) w.heap.size 0 (fun _=>none):=⟨.map [],World.ownsMap_made w _ _ _,rfl,fun m=>⟨rfl,rfl⟩⟩
theorem MapZ.fr {w w':World} {F F':Nat->Prop} {b n:Nat} {f:Wd->Option Nat} (h:MapZ w b n f) (hf:Fr F F' w w') (hb:¬F b):MapZ w' b n f:=by
 have hl:=h.g.lt;obtain ⟨D,⟨es,clock,ho,rest⟩,h2⟩:=h;exact ⟨D,⟨es,clock,(hf.keep b hl hb).trans ho,rest⟩,h2⟩
theorem MapZ.len {w:World} {b n:Nat} {f:Wd->Option Nat} (h:MapZ w b n f) (ty:TypeId):(Builtin.len_ #[185] ty #[.map (some b)]).run Tryz.prog w = .ok (.int .i64 (n:Nat)) w:=by
 obtain ⟨D,h1,rfl,_⟩:=h;exact h1.len Tryz.underlying185 ty
theorem MapZ.put {w:World} {b n:Nat} {f:Wd->Option Nat} (h:MapZ w b n f) (m:Wd) (hm:m.length<=5000000) (k:Nat) (hk:k<=1000000000) (hn:n<=1000000000) (hf:f m=none) :
  ∃ w',(Instr.mapUpdate 185 (.map (some b)) (strv m) (.int .i64 (k:Int))).run Tryz.prog w = .ok () w'/\MapZ w' b (n+1) (fun x=>if m=x then some k else f x)/\w.grownBy w' (some b):=by
 obtain ⟨D,h1,h2,h3⟩:=h;have hi:=h1.isMap;have hti:=h1.tidy (Maps.string_keyed Tryz.underlying9);obtain ⟨w',hrun,hown,hg⟩:=h1.update (Maps.string_keyed Tryz.underlying9) Tryz.underlying185 (by unfold maxLen;omega) (key:=strv m) (WideMaps.keyOf_string_mk (s:=⟨m.toArray⟩) Tryz.underlying9 (by rw [size_mk];unfold maxLen;omega))
  (plainElem_int Tryz.underlying3 (q := .i64) (a:=(k:Int)) (by simp [Lit.wf,IntKind.min,IntKind.max,IntKind.signed,IntKind.bits];omega))
 rw [toList_mk] at hown;refine ⟨w',hrun,⟨_,hown,?_,fun x=>?_⟩,hg⟩
 ·rw [Maps.size_put hti,(h3 m).1,hf];simp [h2]
 ·by_cases hx:m=x
  ·subst hx;simp only [↓reduceIte];exact ⟨by rw [Maps.has_put_same hi (show WideAt.IsKeyLit (.string m) from trivial)];simp,by rw [Maps.atKey_put_same hi (show WideAt.IsKeyLit (.string m) from trivial)];simp⟩
  ·simp only [hx,↓reduceIte];have hne:(Lit.string x) ≠ .string m:=fun q=>hx (by cases q;rfl)
   exact ⟨by rw [Maps.has_put_other hne];exact (h3 x).1,by rw [Maps.atKey_put_other hne];exact (h3 x).2⟩
structure SelI (N p i4 pb mb:Nat) (kv:Value) (acc:List Nat) (done:List Wd) (L:Lay) (w:World):Prop where
 k0:w.cell? ⟨i4,0,none⟩=some (.int .i64 10)
 k1:w.cell? ⟨i4,1,none⟩=some (.int .i64 0)
 k2:w.cell? ⟨i4,2,none⟩=some (.int .i64 0)
 k3:w.cell? ⟨i4,3,none⟩=some kv
 k4:w.cell? ⟨i4,4,none⟩=some (.slice none 0 0)
 z:∀ j,w.frozen? ⟨i4,j,none⟩=false
 pm:w.cell? ⟨pb,0,none⟩=some (.map (some mb))
 mp:MapZ w mb done.length (constF done)
 row:NRow w kv acc
 lo:N<=i4/\N<=pb/\N<=mb/\∀ g,rowF kv g->N<=g
 out:¬L.has p i4/\¬L.has p pb/\¬L.has p mb/\∀ g,rowF kv g->¬L.has p g
 ne:i4≠pb/\i4≠mb/\pb≠mb/\¬rowF kv i4/\¬rowF kv pb/\¬rowF kv mb
section
variable {N p i4 pb mb:Nat} {kv:Value} {acc:List Nat} {done:List Wd} {L L':Lay} {w w':World}
theorem SelI.lt (h:SelI N p i4 pb mb kv acc done L w):i4<w.heap.size/\pb<w.heap.size/\mb<w.heap.size:=⟨World.block_lt_of_cell? w _ h.k0,World.block_lt_of_cell? w _ h.pm,h.mp.g.lt⟩
theorem SelI.keep {F F':Nat->Prop} (h:SelI N p i4 pb mb kv acc done L w) (hf:Fr F F' w w') (hF:∀ g,(g=i4\/g=pb\/g=mb\/rowF kv g)->¬F g) (ho:∀ g,(g=i4\/g=pb\/g=mb\/rowF kv g)->¬L'.has p g):SelI N p i4 pb mb kv acc done L' w':=by
 have a:=hF i4 (.inl rfl);have b:=hF pb (.inr (.inl rfl));have c:=hF mb (.inr (.inr (.inl rfl)));exact ⟨hf.cell h.k0 a,hf.cell h.k1 a,hf.cell h.k2 a,hf.cell h.k3 a,hf.cell h.k4 a,fun j=>(hf.frozen h.lt.1 a).trans (h.z j),hf.cell h.pm b,h.mp.fr hf c,hf.own h.row (fun g hg=>hF g (.inr (.inr (.inr hg)))),h.lo,⟨ho i4 (.inl rfl),ho pb (.inr (.inl rfl)),ho mb (.inr (.inr (.inl rfl))),fun g hg=>ho g (.inr (.inr (.inr hg)))⟩,h.ne⟩
theorem SelI.all (h:SelI N p i4 pb mb kv acc done L w):∀ g,(g=i4\/g=pb\/g=mb\/rowF kv g)->¬L.has p g/\g<w.heap.size/\N<=g:=by
 rintro g (rfl | rfl | rfl | hg)
 ·exact ⟨h.out.1,h.lt.1,h.lo.1⟩
 ·exact ⟨h.out.2.1,h.lt.2.1,h.lo.2.1⟩
 ·exact ⟨h.out.2.2.1,h.lt.2.2,h.lo.2.2.1⟩
 ·exact ⟨h.out.2.2.2 g hg,own_in h.row hg,h.lo.2.2.2 g hg⟩
theorem SelI.fr (h:SelI N p i4 pb mb kv acc done L w) (hf:Fr (L.has p) (L'.has p) w w'):SelI N p i4 pb mb kv acc done L' w' :=
 h.keep hf (fun g hg=>(h.all g hg).1) (fun g hg q=>(hf.fp g q).elim (h.all g hg).1 (by have:=(h.all g hg).2.1;omega))
theorem SelI.al {F F':Nat->Prop} (h:SelI N p i4 pb mb kv acc done L w) (hf:Fr F F' w w') (hF:∀ g,F g->w.heap.size<=g):SelI N p i4 pb mb kv acc done L w' :=
 h.keep hf (fun g hg q=>by have:=hF g q;have:=(h.all g hg).2.1;omega) (fun g hg=>(h.all g hg).1)
theorem SelI.key {t:Wd} (h:SelI N p i4 pb mb kv acc done L w) (ht:t ∉ done) (hm:MapZ w' mb (done.length+1) (fun x=>if t=x then some done.length else constF done x)) (hg:w.grownBy w' (some mb)):SelI N p i4 pb mb kv acc (done++[t]) L w':=by
 have hf:Fr (fun k=>k=mb) (fun k=>k=mb) w w':=⟨hg.os,hg.tape,hg.output,hg.size,fun k hk hn=>hg.block k hk (fun e=>hn (Option.some.inj e)),fun _ q => .inl q⟩;obtain ⟨n1,n2,n3,n4,n5,n6⟩:=h.ne;rw [constF_more ht] at hm;exact ⟨hf.cell h.k0 n2,hf.cell h.k1 n2,hf.cell h.k2 n2,hf.cell h.k3 n2,hf.cell h.k4 n2,fun j=>(hf.frozen h.lt.1 n2).trans (h.z j),hf.cell h.pm n3,by simpa using hm,hf.own h.row (fun g hg e=>n6 (e▸hg)),h.lo,h.out,h.ne⟩
theorem SelI.num {kv':Value} {n:Nat} {w2:World} (h:SelI N p i4 pb mb kv acc done L w) (hr:NRow w2 kv' (acc++[n])) (hf:Fr (rowF kv) (rowF kv') w w2) (hL:∀ g,L.has p g->g<w.heap.size) (hN:N<=w.heap.size):SelI N p i4 pb mb kv' (acc++[n]) done L (w2.setCell ⟨i4,3,none⟩ kv'):=by
 obtain ⟨n1,n2,n3,n4,n5,n6⟩:=h.ne;have lv:∀ g,rowF kv' g->rowF kv g\/w.heap.size<=g:=hf.fp;have nv:∀ g,g<w.heap.size->¬rowF kv g->¬rowF kv' g:=fun g a b c=>(lv g c).elim b (by omega)
 have c:=fun (j:Nat) (v:Value) (hc:w.cell? ⟨i4,j,none⟩=some v) (hj:j≠3)=>(show (w2.setCell ⟨i4,3,none⟩ kv').cell? ⟨i4,j,none⟩=some v by rw [cellSet,if_neg (fun e=>hj (by cases e;rfl))];exact hf.cell hc n4)
 refine ⟨c 0 _ h.k0 (by decide),c 1 _ h.k1 (by decide),c 2 _ h.k2 (by decide),cell_put (hf.cell h.k3 n4) _,c 4 _ h.k4 (by decide),fun j=>by rw [World.frozen?_setCell];exact (hf.frozen h.lt.1 n4).trans (h.z j),cell_set (hf.cell h.pm n5) _ n1,
  (h.mp.fr hf n6).fr (show Fr (fun g=>g=i4) (fun g=>g=i4) w2 (w2.setCell ⟨i4,3,none⟩ kv') from (Fr.refl _ _).set _ (.inl rfl)) (fun e=>n2 e.symm),ownsRow_setCell_other hr (nv _ h.lt.1 n4) _,⟨h.lo.1,h.lo.2.1,h.lo.2.2.1,fun g hg=>(lv g hg).elim (h.lo.2.2.2 g) (by omega)⟩,
  ⟨h.out.1,h.out.2.1,h.out.2.2.1,fun g hg=>(lv g hg).elim (h.out.2.2.2 g) (fun a b=>by have:=hL g b;omega)⟩,n1,n2,n3,nv _ h.lt.1 n4,nv _ h.lt.2.1 n5,nv _ h.lt.2.2 n6⟩
end
structure TabI (N p idx tb b c pb mb n:Nat) (f:Wd->Option Nat) (L:Lay) (w:World):Prop where
 t:w.cell? ⟨tb,0,none⟩=some (leapV b c)
 l:LeapAt w p idx b c
 pm:w.cell? ⟨pb,0,none⟩=some (.map (some mb))
 mp:MapG 3 w mb n f
 out:¬L.has p tb/\¬L.has p b/\¬L.has p c/\¬L.has p pb/\¬L.has p mb
 lt:tb<N/\b<N/\c<N/\pb<N/\mb<N
section
variable {N p idx tb b c pb mb n:Nat} {f:Wd->Option Nat} {L L':Lay} {w w':World}
theorem TabI.keep {F F':Nat->Prop} (h:TabI N p idx tb b c pb mb n f L w) (hf:Fr F F' w w') (hF:∀ g,(g=tb\/g=b\/g=c\/g=pb\/g=mb)->¬F g/\¬L'.has p g):TabI N p idx tb b c pb mb n f L' w':=by
 have h1:=hF tb (.inl rfl);have h2:=hF b (.inr (.inl rfl));have h3:=hF c (.inr (.inr (.inl rfl)));have h4:=hF pb (.inr (.inr (.inr (.inl rfl))));have h5:=hF mb (.inr (.inr (.inr (.inr rfl))));exact ⟨hf.cell h.t h1.1,h.l.fr hf h2.1 h3.1,hf.cell h.pm h4.1,h.mp.fr hf h5.1,⟨h1.2,h2.2,h3.2,h4.2,h5.2⟩,h.lt⟩
theorem TabI.all (h:TabI N p idx tb b c pb mb n f L w):∀ g,(g=tb\/g=b\/g=c\/g=pb\/g=mb)->¬L.has p g/\g<N/\g<w.heap.size:=by
 obtain ⟨o1,o2,o3,o4,o5⟩:=h.out;obtain ⟨l1,l2,l3,l4,l5⟩:=h.lt;rintro g (rfl | rfl | rfl | rfl | rfl)
 ·exact ⟨o1,l1,World.block_lt_of_cell? w _ h.t⟩
 ·exact ⟨o2,l2,h.l.lt.1⟩
 ·exact ⟨o3,l3,h.l.lt.2⟩
 ·exact ⟨o4,l4,World.block_lt_of_cell? w _ h.pm⟩
 ·exact ⟨o5,l5,h.mp.lt⟩
theorem TabI.fr (h:TabI N p idx tb b c pb mb n f L w) (hf:Fr (L.has p) (L'.has p) w w'):TabI N p idx tb b c pb mb n f L' w' :=
 h.keep hf (fun g hg=>⟨(h.all g hg).1,fun q=>(hf.fp g q).elim (h.all g hg).1 (by have:=(h.all g hg).2.2;omega)⟩)
theorem TabI.al {F F':Nat->Prop} (h:TabI N p idx tb b c pb mb n f L w) (hf:Fr F F' w w') (hF:∀ g,F g->N<=g):TabI N p idx tb b c pb mb n f L w' :=
 h.keep hf (fun g hg=>⟨fun q=>by have:=hF g q;have:=(h.all g hg).2.1;omega,(h.all g hg).1⟩)
set_option maxHeartbeats 2000000 in
theorem tell_any (s:MkS) (x:InL) (key:Wd) (a:Nat) (ma:Option Addr) (mn mc:Nat) (hm:MkAt p L s w) (h:TabI N p idx tb b c pb mb n f L w) (hk:key.length<=17) (hx:s.code[idx]? = some x) (hj:(f key).getD 0<x.tg.length) (hl:x.tg.length<=1000000) (hs:s.code.length<=900000) :
  Calls Tryz.prog 162 #[.agg #[strv key,.int .i64 (a:Nat),.slice ma mn mc],.pointer (some ⟨tb,0,none⟩),.pointer (some ⟨pb,0,none⟩)] w (LeapQ p L (s.leap idx ((f key).getD 0)) w):=by
 obtain ⟨A,hA⟩:∃ A,w.alloc (.cells #[strv key,.int .i64 (a:Nat),.slice ma mn mc] 183)=A:=⟨_,rfl⟩;have fA:Fr noF noF w A:=by rw [←hA];exact (Fr.refl _ _).alloc _
 have hA2:=h.keep fA (L':=L) (fun g hg=>⟨id,(h.all g hg).1⟩);have hmA:=hm.fr fA (fun _ q=>q.elim);have cA:=cell_made w #[strv key,.int .i64 (a:Nat),.slice ma mn mc] 183 (0,0) 0;obtain ⟨j,hjj⟩:∃ j,(f key).getD 0=j:=⟨_,rfl⟩;have hlk:=hA2.mp.look1 mapt_i key (by omega);rw [hjj] at hlk hj ⊢;have ht:=hA2.t;have hp:=hA2.pm;have HL:=Lib.hid (leap_any p L s idx j b c x A hmA hA2.l hx hj (by omega) hl);have HFA:=Lib.hid fA;have HX:=Lib.hid hA;subst hA;clear h hm hA2 hmA hx hj hjj fA;go_enter Tryz.func162,Tryz.ntmps162
 go_wp2_with fail
 refine HL.out.mono ?_;rintro e w2 ⟨rfl,hm2,hf2⟩;have HM2:=Lib.hid hm2;have HF2:=Lib.hid hf2;clear HL hm2 hf2;go_wp2
 refine bodyPost_ret (v := .tuple #[]) ?_ rfl ?_
 ·simp [results,Tryz.results162,go_sem]
 exact ⟨rfl,HM2.out,(HFA.out.wide (fun _ q=>q.elim)).trans HF2.out⟩
end
theorem sel_start {p:Nat} {L:Lay} {s:MkS} {w:World} (h:MkAt p L s w) (n N:Nat) (hN:N<=w.heap.size) :
  ∃ W,W=(((w.alloc (.cells #[.int .i64 (n:Nat)] 3)).alloc (.cells #[.int .i64 10,.int .i64 0,.int .i64 0,.slice (some ⟨w.heap.size,0,none⟩) 1 1,.slice none 0 0] 128)).alloc (.map #[] 0)).alloc (.cells #[.map (some (w.heap.size+2))] 185) /\
   SelI N p (w.heap.size+1) (w.heap.size+3) (w.heap.size+2) (.slice (some ⟨w.heap.size,0,none⟩) 1 1) [n] [] L W/\Fr noF noF w W:=by
 obtain ⟨A,hA⟩:∃ A,w.alloc (.cells #[.int .i64 (n:Nat)] 3)=A:=⟨_,rfl⟩;have sA:A.heap.size=w.heap.size+1:=by rw [←hA];simp
 have rA:NRow A (.slice (some ⟨w.heap.size,0,none⟩) 1 1) [n]:=by rw [←hA];exact NRow.lit w [n] (by simp)
 have fA:Fr noF noF w A:=by rw [←hA];exact (Fr.refl _ _).alloc _
 rw [hA];clear hA;obtain ⟨B,hB⟩:∃ B,A.alloc (.cells #[.int .i64 10,.int .i64 0,.int .i64 0,.slice (some ⟨w.heap.size,0,none⟩) 1 1,.slice none 0 0] 128)=B:=⟨_,rfl⟩;have cB:=fun j=>cell_made A #[.int .i64 10,.int .i64 0,.int .i64 0,.slice (some ⟨w.heap.size,0,none⟩) 1 1,.slice none 0 0] 128 (0,0) j
 have zB:∀ j,B.frozen? ⟨w.heap.size+1,j,none⟩=false:=by intro j;rw [←hB,←sA];simp
 rw [hB,sA] at cB;have sB:B.heap.size=w.heap.size+2:=by rw [←hB];simp [sA]
 have fB:Fr noF noF A B:=by rw [←hB];exact (Fr.refl _ _).alloc _
 rw [hB];clear hB;obtain ⟨C,hC⟩:∃ C,B.alloc (.map #[] 0)=C:=⟨_,rfl⟩;have mC:=MapZ.made B;rw [hC,sB] at mC;have sC:C.heap.size=w.heap.size+3:=by rw [←hC];simp [sB]
 have fC:Fr noF noF B C:=by rw [←hC];exact (Fr.refl _ _).alloc _
 rw [hC];clear hC;have fD:Fr noF noF C (C.alloc (.cells #[.map (some (w.heap.size+2))] 185)):=(Fr.refl _ _).alloc _;have f:=fC.trans fD;have no:∀ g,w.heap.size<=g->¬L.has p g:=fun g hg q=>by have:=h.lt q;omega
 refine ⟨_,rfl,⟨f.cell (cB 0) id,f.cell (cB 1) id,f.cell (cB 2) id,f.cell (cB 3) id,f.cell (cB 4) id,fun j=>(f.frozen (show w.heap.size+1<_ by omega) id).trans (zB j),?_,mC.fr fD id,(fB.trans f).own rA (fun _ _=>id),⟨by omega,by omega,by omega,fun g hg=>by cases hg;exact hN⟩,
  ⟨no _ (by omega),no _ (by omega),no _ (by omega),fun g hg=>no g (by cases hg;exact Nat.le_refl _)⟩,⟨by omega,by omega,by omega,fun e=>?_,fun e=>?_,fun e=>?_⟩⟩,fA.trans (fB.trans f)⟩
 ·rw [←sC];exact cell_made C #[.map (some (w.heap.size+2))] _ _ _
 all_goals
  have e2:w.heap.size=_:=Option.some.inj e;omega
theorem place_eq (ks:List Wd) (k:Wd) (h:k∈ks):(constF (ks.filter (· ≠ othC)++[othC]) k).getD 0=MkS.place ks k/\MkS.place ks k<=(ks.filter (· ≠ othC)).length:=by
 unfold constF MkS.place;by_cases hk:k=othC
 ·subst hk;rw [if_pos (by simp),if_pos rfl];have:othC ∉ ks.filter (· ≠ othC):=by simp
  simp [List.idxOf_append,this,List.idxOf_cons]
 ·have hm:k∈ks.filter (· ≠ othC):=List.mem_filter.2 ⟨h,by simp [hk]⟩;rw [if_pos (by simp [h,hk]),if_neg hk,List.idxOf_append,if_pos hm];exact ⟨rfl,List.idxOf_le_length⟩
set_option maxHeartbeats 20000000 in
theorem selected_any {lo hi:Nat} {w0:World} (b0:Nat) (n:Wd) (a:Nat) (of:Wd) (cl:Nat) (bs:Fo) (p:Nat) (L:Lay) (s:MkS) (w:World)
  (ih:∀ m:Fo,SizeOf.sizeOf m<SizeOf.sizeOf bs->MesC lo hi w0 m) (h:MkAt p L s w) (he:MEnv lo hi w0 L.B w)
  (hnd:NodesV lo hi w0 [.iface 177 (.pointer (some ⟨b0,0,none⟩))] (.br n a 0 of cl bs .nil)) (hc:(Fo.br n a 0 of cl bs .nil).cok) (hwf:(Fo.br n a 0 of cl bs .nil).wf 2000000=true) (hs:s.sz+(40+bs.cw)<=900000) :
  Calls Tryz.prog 121 #[.pointer (some ⟨p,0,none⟩),.pointer (some ⟨b0,0,none⟩)] w (MQ p L (bodS bs (MkS.selB n bs s) (MkS.selS n bs s)) w):=by
 have hmm:=@run_makeMap Tryz.prog;have HND:=Lib.hid hnd;obtain ⟨vt,b',ba,bc,ws,hee,hb1,hb2,hc0,hc1,hc2,hc3,hc4,hc5,hrw,hbs,_⟩:=hnd
 cases hee;obtain ⟨hnl,-,-,hL,hnd2,hks,hbc,-⟩:=hc;have hwq:(decide (n.length<=4000001) && decide (0<3) && bs.isLegs && decide (bs.len<=2000000) && bs.wf 2000000 && Fo.nil.wf 2000000)=true:=hwf;simp only [Bool.and_eq_true,decide_eq_true_eq] at hwq;obtain ⟨⟨⟨-,hbn⟩,hbw⟩,-⟩:=hwq;have c0:=keep_cell he.keep hc0 hb1 hb2;have c4:=keep_cell he.keep hc4 hb1 hb2;have hsz:s.cs.length<=900000/\s.code.length<=900000/\s.pos<=900000:=by unfold MkS.sz at hs;omega
 have HC:=Lib.hid (const_any p L s n w h (by omega) (by omega));have HH:=Lib.hid h;have HE:=Lib.hid he;have HRW:=Lib.hid hrw;have HBS:=Lib.hid hbs;have HL:=Lib.hid hL;have HND2:=Lib.hid hnd2;have HKS:=Lib.hid hks;have HBC:=Lib.hid hbc;have HBW:=Lib.hid hbw;have HIH:=Lib.hid ih;have HS:=Lib.hid hs;obtain ⟨M,hM⟩:∃ M,bs.len=M:=⟨_,rfl⟩;have HM:=Lib.hid hM;rw [hM] at c4 hbn;obtain ⟨k0,hk0⟩:∃ k0,s.num n=k0:=⟨_,rfl⟩;rw [hk0] at HC;have HK0:=Lib.hid hk0;clear h he hrw hbs hL hnd2 hks hbc hbw ih hs hM hc0 hc1 hc2 hc3 hc4 hc5 hk0 hwf;go_enter Tryz.func121,Tryz.ntmps121
 go_wp2_with fail
 refine HC.out.mono ?_;rintro e w1 ⟨rfl,L1,hm1,⟨hq1,hB1⟩,hf1⟩;clear HC;obtain ⟨W,hW,hsel,hfw⟩:=sel_start hm1 k0 w.heap.size hf1.size;have c4:=hf1.cell (a:=⟨b0,4,none⟩) c4 (fun q=>by have:=HH.out.lo _ q;have:=HE.out.hB;simp only at *;omega);have c4a:=fun o1 o2 o3 o4=>cell_al (cell_al (cell_al (cell_al c4 o1) o2) o3) o4
 obtain ⟨R,hR⟩:∃ R,MkS.selK bs (s.const n) [k0]=R:=⟨_,rfl⟩;have HR:=Lib.hid hR;have z1:=(sz_const s n).1;go_wp2_with fail
 rw [←hW];obtain ⟨i4,hi4⟩:∃ i4,w1.heap.size+1=i4:=⟨_,rfl⟩;obtain ⟨pb,hpb⟩:∃ pb,w1.heap.size+3=pb:=⟨_,rfl⟩;obtain ⟨mb,hmb⟩:∃ mb,w1.heap.size+2=mb:=⟨_,rfl⟩;rw [hi4,show i4+1+1=pb by omega];go_loopw [24] (fun iv wr=>∃ i us xs r s1 L2 acc kv done pre,iv = .int .i64 (i:Nat)/\i<=M/\NodesV lo hi w0 xs r/\r.isLegs=true/\us.length=i*3/\ws=us++xs/\i+r.len=M/\bs.keys=pre++r.keys/\done=pre.filter (· ≠ othC) /\
  MkAt p L2 s1 wr/\(L2.q=L.q/\L2.B=L.B)/\Fr (L.has p) (L2.has p) w wr/\SelI w.heap.size p i4 pb mb kv acc done L2 wr/\MkS.selK r s1 acc=R/\done.length<=i/\(acc.length=done.length+1/\∀ x∈acc,x<=900000)/\s1.sz+r.keys.length<=899990) (fun iv _=>M - (intOf iv).toNat)
 case atStart =>
  rw [hi4,hpb,hmb] at hsel;exact ⟨0,[],ws,bs,s.const n,L1,[k0],_,[],[],rfl,Nat.zero_le _,HBS.out,HL.out,rfl,rfl,by have:=HM.out;omega,rfl,rfl,hm1.fr hfw (fun _ q=>q.elim),⟨hq1,hB1⟩,hf1.trans (hfw.wide (fun _ q=>q.elim)),hsel,HR.out,Nat.le_refl _,⟨rfl,by have:=num_le s n;have:=HK0.out;simp;omega⟩,by have:=HS.out;have:=Fo.gw_keys bs;omega⟩
 case round =>
  clear hW hsel hfw hm1 hf1 c4 c4a hR;obtain ⟨i,us,xs,r,s1,L2,acc,kv,done,pre,rfl,hiM,hnr,hlr,hus,hws,hln,hkeys,hdone,hm2,⟨hq2,hB2⟩,hf2,hsi,hgo,hdl,⟨hal,hax⟩,hs1⟩:=hrel;have HAX:=Lib.hid hax;have HAL:=Lib.hid hal;have hal3:acc.length<=i+1:=by omega
  clear hax hal;have he2:MEnv lo hi w0 L2.B wr:=by rw [hB2];exact HE.out.fr hf2 HH.out.lo
  have HM2:=Lib.hid hm2;have HE2:=Lib.hid he2;have HF2:=Lib.hid hf2;have HSI:=Lib.hid hsi;have HGO:=Lib.hid hgo;have HLR:=Lib.hid hlr;have HUS:=Lib.hid hus;have HWS:=Lib.hid hws;have HLN:=Lib.hid hln;have HKEY:=Lib.hid hkeys;have HDN:=Lib.hid hdone;have HS1:=Lib.hid hs1;by_cases hlt:i<M
  ·cases r with
   | nil=>exfalso;simp [Fo.len] at hln;omega
   | text t r=>cases hlr
   | hash r=>cases hlr
   | put n a r=>cases hlr
   | num n a r=>cases hlr
   | br n a fo of cl bs r=>cases hlr
   | leg k1 a0 m0 r0 =>
    obtain ⟨vt2,ma,mc,ms,rfl,hmrow,hmn,hnr3⟩:=hnr;obtain ⟨g2,o2,rfl,e0,e1,e2⟩:=leg_cells he2.keep HRW.out hus hws;have HNR:=Lib.hid hnr3;have k3:(i:Int)<(M:Int):=by omega
    have k4:decide ((i:Int)<(M:Int))=true:=by simp;omega
    clear hm2 he2 hf2 hgo hlr hus hws hmrow hmn hnr3 hln hkeys hdone hs1;have hfA:Fr noF noF wr (wr.alloc (.cells #[strv k1,.int .i64 (a0:Nat),.slice ma m0.len mc] 183)):=(Fr.refl _ _).alloc _;have hsA:=HSI.out.al hfA (fun _ q=>q.elim);have HSA:=Lib.hid hsA;have HFA:=Lib.hid (HF2.out.trans (hfA.wide (fun _ q=>q.elim)));have HMA:=Lib.hid (HM2.out.fr hfA (fun _ q=>q.elim));have hln2:=HLN.out;simp only [Fo.len] at hln2;have hs12:=HS1.out;simp only [Fo.keys,List.length_cons] at hs12;by_cases hko:k1=othC
    ·have kq:(k1==[111,116,104,101,114])=true:=by rw [hko];decide
     have HKO:=Lib.hid hko;clear hfA hsA hsi hko;go_wp2
     go_roundw
     case rel =>
      refine ⟨i+1,us++[strv k1,.int .i64 (a0:Nat),.slice ma m0.len mc],vt2,r0,s1,L2,acc,kv,done,pre++[k1],by go_num,by omega,HNR.out,HLR.out,by simp [HUS.out];omega,by rw [HWS.out];simp,by omega,by rw [HKEY.out];simp [Fo.keys],by rw [HDN.out,List.filter_append];simp [HKO.out],HMA.out,⟨hq2,hB2⟩,HFA.out,HSA.out,?_,by omega,⟨HAL.out,HAX.out⟩,by omega⟩;have:=HGO.out;rw [MkS.selK,if_pos HKO.out] at this;exact this
     case measure=>simp only [intOf];omega
    ·have kq:(k1==[111,116,104,101,114])=false:=by simpa [othC] using hko
     have HKO:=Lib.hid hko;have hkb:k1∈bs.keys:=by rw [HKEY.out];simp [Fo.keys]
     have hnin:k1 ∉ done:=by
      rw [HDN.out];intro q;have h1:=HND2.out;rw [HKEY.out] at h1;exact (List.nodup_append.1 h1).2.2 k1 (List.mem_filter.1 q).1 k1 (by simp [Fo.keys]) rfl
     have hk17:=(HKS.out k1 hkb).1;obtain ⟨dn,hdn⟩:∃ dn,done.length=dn:=⟨_,rfl⟩;have hln3:=hsA.mp.len;obtain ⟨wp,hput,hmp,hgp⟩:=hsA.mp.put k1 (by omega) done.length (by omega) (by omega) (by unfold constF;rw [if_neg hnin]);have pmA:=hsA.pm;have HK3:=Lib.hid (hsA.key hnin hmp hgp);have hfp:Fr (fun g=>g=mb) (fun g=>g=mb) (wr.alloc (.cells #[strv k1,.int .i64 (a0:Nat),.slice ma m0.len mc] 183)) wp:=⟨hgp.os,hgp.tape,hgp.output,hgp.size,fun k hk hn=>hgp.block k hk (fun e=>hn (Option.some.inj e)),fun _ q => .inl q⟩;rw [hdn] at hln3 hput hdl;have HFP:=Lib.hid hfp;have HGP:=Lib.hid (show wp.cell? ⟨wr.heap.size,0,none⟩=some (strv k1) from hfp.cell (cell_made _ _ _ _ _) (fun e=>by have:=HSI.out.lt.2.2;simp only at e;omega));clear hfA hsA hsi hfp hmp hgp hko;have hmp2:=HMA.out.fr HFP.out (by rintro g rfl;exact HSI.out.out.2.2.1);have hcs1:s1.cs.length<=1000000:=by unfold MkS.sz at hs12;omega
     have HCC:=Lib.hid (const_any p L2 s1 k1 wp.drew hmp2.drew (by omega) hcs1);have HMP:=Lib.hid hmp2;obtain ⟨kn,hkn⟩:∃ kn,s1.num k1=kn:=⟨_,rfl⟩;rw [hkn] at HCC;have HKN:=Lib.hid hkn;have HHL:=Lib.hid (show Fr (L.has p) (L2.has p) w wp from HFA.out.over HFP.out (by rintro g rfl;exact .inr HSI.out.lo.2.2.1));obtain ⟨ac,cc,rfl⟩:=own_slice HK3.out.row;have k3c:=HK3.out.k3;have kec:=HGP.out;have neb:¬L2.has p wr.heap.size:=fun q=>by have:=HM2.out.lt q;omega
     obtain ⟨an,han⟩:∃ an,acc.length=an:=⟨_,rfl⟩;rw [han] at k3c;have hal3:an<=i+1:=by omega
     have hrow:=HK3.out.row;rw [show NRow wp (.slice ac acc.length cc) acc=wp.ownsRow 0 3 1 (.slice ac acc.length cc) acc.length (intC acc) from rfl,han] at hrow;have HROW:=Lib.hid hrow;have HAN:=Lib.hid han;clear hmp2 hcs1 hkn hrow han;go_wp2_with fail
     clear hput hln3 pmA;refine rk (fun W':World=>W'.cell? ⟨i4,3,none⟩=some (.slice ac an cc)/\W'.cell? ⟨wr.heap.size,0,none⟩=some (strv k1)) 9 [0,1,2,3,4] 5 ⟨k3c,kec⟩ ?_;(iterate 5 (refine ty ?_;try simp only [pl]))
     refine takes_nil ?_;refine wpAnyK_only 5 (by kernel_rfl) rfl (fun J hJ=>?_);go_simp
     refine HCC.out.mono ?_;rintro e w5 ⟨rfl,L3,hm5,⟨hq3,hB3⟩,hf5⟩;have hf5:=hf5.und;have k5:=hf5.cell k3c HK3.out.out.1;have e5:=hf5.cell kec neb;have hS5:=HK3.out.fr hf5;refine hJ.out _ _ ⟨k5,e5⟩ fun _=>?_
     clear hJ J;refine wpAnyK_only 6 (by kernel_rfl) rfl (fun J hJ=>?_);go_simp
     refine hJ.out _ _ ⟨cell_al k5 _,cell_al e5 _⟩ fun _=>?_
     clear hJ J;refine wpAnyK_only 7 (by kernel_rfl) rfl (fun J hJ=>?_);rw [if_pos (by rfl)];refine app_newo elem_ints [_] 1 (hf5.own HROW.out (fun g hg=>HK3.out.out.2.2.2 g (by rw [HAN.out];exact hg))) (by omega) ?_;intro v6 w6 ho6 hf6;rw [HAN.out] at hS5;have hr6:NRow w6 v6 (acc++[kn]):=by
      show World.ownsRow _ _ _ _ _ (acc++[kn]).length _;rw [List.length_append,HAN.out];simpa [intC] using ho6
     have z6:=(hf6.frozen (a:=⟨i4,3,none⟩) hS5.lt.1 hS5.ne.2.2.2.1).trans (hS5.z 3);have HSN:=Lib.hid (hS5.num hr6 hf6 (fun g hg=>hm5.lt hg) (Nat.le_trans HF2.out.size (Nat.le_trans (by simp) (Nat.le_trans HFP.out.size hf5.size))));have HM6:=Lib.hid (hm5.fr hf6 (fun g hg=>hS5.out.2.2.2 g hg));have HF6:=Lib.hid ((HHL.out.trans hf5).over hf6 (fun g hg => .inr (hS5.lo.2.2.2 g hg)));have k6:=hf6.cell k5 hS5.ne.2.2.2.1;have hbo:¬rowF (.slice ac an cc) wr.heap.size:=fun q=>by
      have h1:=HSI.out.row;have h2:=HK3.out.ne;have:=own_in HSI.out.row (g:=wr.heap.size) (by rw [HAN.out];exact q);omega
     have e6:=hf6.cell e5 hbo;obtain ⟨a6,c6,rfl⟩:=own_slice ho6;clear hS5 hr6 ho6;go_simp
     refine hJ.out _ _ ⟨k6,e6⟩ fun _=>?_
     clear hJ J;refine wpAnyK_more [8] 1 rfl (by intro _ _ d _ _ h;cases d<;>exact h) (by kernel_rfl) (by kernel_rfl) ⟨k6,e6⟩ ?_;refine ty ?_;try simp only [pl]
     refine takes_nil ?_;refine wpAnyK_last 9 (by kernel_rfl) (by kernel_rfl) rfl (fun J hJ=>?_);go_simp
     refine hJ.out _ _ ?_;clear hJ J;refine wpAnyK_done (by kernel_rfl) ?_ _;have fst:∀ u,Fr (fun g=>g=i4) (fun g=>g=i4) w6 (w6.setCell ⟨i4,3,none⟩ u):=fun u=>(Fr.refl _ _).set _ (.inl rfl)
     have HFS:=Lib.hid (fst (.slice a6 (an+1) c6));have HLO:=Lib.hid HSI.out.lo;have HOU:=Lib.hid (show ¬L3.has p i4 from HSN.out.out.1);clear hf5 hf6 hm5 k5 e5 k6 e6 fst;go_wp2
     go_roundw
     case rel =>
      refine ⟨i+1,us++[strv k1,.int .i64 (a0:Nat),.slice ma m0.len mc],vt2,r0,s1.const k1,L3,acc++[kn],_,done++[k1],pre++[k1],by go_num,by omega,HNR.out,HLR.out,by simp [HUS.out];omega,by rw [HWS.out];simp,by omega,by rw [HKEY.out];simp [Fo.keys],?_,HM6.out.fr HFS.out (by rintro g rfl;exact HOU.out),⟨hq3.trans hq2,hB3.trans hB2⟩,HF6.out.over HFS.out (by rintro g rfl;exact .inr HLO.out.1),HSN.out,?_,by simp;omega,⟨by simp [HAL.out],?_⟩,?_⟩
      ·rw [HDN.out,List.filter_append];simp [HKO.out]
      ·have:=HGO.out;rw [MkS.selK,if_neg HKO.out,HKN.out] at this;exact this
      ·intro x hx;rcases List.mem_append.1 hx with hx | hx
       ·exact HAX.out x hx
       ·simp at hx;have:=num_le s1 k1;have:=HKN.out;unfold MkS.sz at hs12;omega
      ·have:=(sz_const s1 k1).1;omega
     case measure=>simp only [intOf];omega
  ·have hr0:r.keys=[]/\MkS.selK r s1 acc=(s1,acc):=by
    cases r with
    | nil=>exact ⟨rfl,rfl⟩
    | text t r=>cases hlr
    | hash r=>cases hlr
    | put n a r=>cases hlr
    | num n a r=>cases hlr
    | br n a fo of cl bs r=>cases hlr
    | leg k0 a0 m0 r0=>exfalso;simp only [Fo.len] at hln;omega
   have HRR:=Lib.hid (show R=(s1,acc) from hgo.symm.trans hr0.2);have HK1:=Lib.hid (show bs.keys=pre by rw [hkeys,hr0.1];simp);have hnin:othC ∉ done:=by rw [hdone];simp
   obtain ⟨dn,hdn⟩:∃ dn,done.length=dn:=⟨_,rfl⟩;have hln3:=hsi.mp.len;obtain ⟨wp,hput,hmp,hgp⟩:=hsi.mp.put othC (by decide) done.length (by omega) (by omega) (by unfold constF;rw [if_neg hnin]);have pmA:=hsi.pm;have HK3:=Lib.hid (hsi.key hnin hmp hgp);have hfp:Fr (fun g=>g=mb) (fun g=>g=mb) wr wp:=⟨hgp.os,hgp.tape,hgp.output,hgp.size,fun k hk hn=>hgp.block k hk (fun e=>hn (Option.some.inj e)),fun _ q => .inl q⟩;rw [hdn] at hln3 hput hdl;rw [show strv othC = .string ⟨#[111,116,104,101,114]⟩ from rfl] at hput;have hdn9:dn<=100000:=by
    have h1:done.length<=bs.keys.length:=by rw [HK1.out,hdone];exact List.length_filter_le ..
    have:=Fo.gw_keys bs;have:=HS.out;omega
   have HFP:=Lib.hid hfp;have k3:¬(i:Int)<(M:Int):=by omega
   have k4:decide ((i:Int)<(M:Int))=false:=by simp;omega
   have pmp:=HK3.out.pm;have hlp:=HK3.out.mp.len;rw [List.length_append,hdn] at hlp;have hlp2:∀ ty,(Builtin.len_ #[185] ty #[.map (some mb)]).run Tryz.prog wp = .ok (.int .i64 ((dn+1:Nat):Int)) wp:=hlp;obtain ⟨wm,hmk,hkm,hfm⟩:=make_ints (dn+1) wp (by omega);have HDN2:=Lib.hid hdn;clear hm2 he2 hf2 hsi hgo hlr hus hws hln hkeys hdone hs1 hnr hr0 hmp hgp hfp hlp hdn;rw [show ((dn+1:Nat):Int)=(dn:Int)+1 by omega] at hmk;have hS:=HK3.out.al hfm (fun _ q=>q.elim);obtain ⟨ac,ak,hkv⟩:=own_slice hS.row;have q0:=hS.k0;have q1:=hS.k1;have q2:=hS.k2;have q3:=hS.k3;have q4:=hS.k4;have z4:=hS.z 4;have FP:=HFP.out;have nmb:∀ g,L2.has p g->g≠mb:=by rintro g hg rfl;exact HSI.out.out.2.2.1 hg
   have fm2:Fr (fun g=>g=mb) (fun g=>g=mb) wr wm:=FP.trans (hfm.wide (fun _ q=>q.elim));have hmm2:=HM2.out.fr fm2 (by rintro g rfl hg;exact nmb _ hg rfl);have hSt:∀ u,Fr (fun g=>g=i4) (fun g=>g=i4) wm (wm.setCell ⟨i4,4,none⟩ u):=fun u=>(Fr.refl _ _).set _ (.inl rfl)
   have HM3:=Lib.hid (hmm2.fr (hSt (.slice (some ⟨wp.heap.size,0,none⟩) (dn+1) (dn+1))) (by rintro g rfl;exact HSI.out.out.1));have HEE:=Lib.hid ((HE2.out.fr fm2 (by rintro g rfl;have:=HSI.out.lo.2.2.1;have:=HM2.out.base;have:=HH.out.base;omega)).fr (hSt (.slice (some ⟨wp.heap.size,0,none⟩) (dn+1) (dn+1))) (by rintro g rfl;have:=HSI.out.lo.1;have:=HH.out.base;omega));have HS3:=Lib.hid hS;have HFM:=Lib.hid hfm;have HKM:=Lib.hid hkm;rw [hkv] at q3;clear hS FP fm2 hmm2 hSt hfm hkm nmb;go_wp2_with fail
   obtain ⟨wS,hwS⟩:∃ wS,wm.setCell ⟨i4,4,none⟩ (.slice (some ⟨wp.heap.size,0,none⟩) (dn+1) (dn+1))=wS:=⟨_,rfl⟩;rw [hwS] at HM3 HEE ⊢;have hal4:acc.length=dn+1:=by rw [HAL.out,HDN2.out]
   obtain ⟨x0,acc',hacc⟩:∃ x0 acc',acc=x0::acc':=by
    cases acc with
    | nil=>simp at hal4
    | cons a b=>exact ⟨a,b,rfl⟩
   have hS:=HS3.out;have lwp:∀ g,L2.has p g->g<wp.heap.size:=fun g hg=>by have:=HM2.out.lt hg;have:=HFP.out.size;omega
   have lkp:∀ g,rowF kv g->g<wp.heap.size:=fun g hg=>own_in HK3.out.row hg
   have rk1:NRow wS kv acc:=by rw [←hwS];exact ownsRow_setCell_other hS.row hS.ne.2.2.2.1 _
   have rt1:NRow wS (.slice (some ⟨wp.heap.size,0,none⟩) (dn+1) (dn+1)) (List.replicate (dn+1) 0):=by
    rw [←hwS];exact ownsRow_setCell_other HKM.out (fun e=>by have:=HK3.out.lt.1;have e2:wp.heap.size=i4:=Option.some.inj e;omega) _
   have hin:InsOk ⟨10,s1.pos,0,acc,List.replicate (dn+1) 0⟩:=by
    refine ⟨(by decide:10<12),by simp,fun x hx=>by have:=HAX.out x hx;omega,fun x hx=>by have:=List.eq_of_mem_replicate hx;omega,by show acc.length<=_;omega,?_⟩;show okB [110,42] acc.length (List.replicate (dn+1) 0).length=true;rw [hal4,List.length_replicate];simp [okB]
   have hxl:(insX ⟨10,s1.pos,0,acc,List.replicate (dn+1) 0⟩).length<=1000000:=by
    rw [hacc,sel_len];rw [hacc] at hal4;simp at hal4;omega
   have hss:=HS1.out;unfold MkS.sz at hss;have HP:=Lib.hid (put_any p L2 s1 10 0 acc (List.replicate (dn+1) 0) kv (.slice (some ⟨wp.heap.size,0,none⟩) (dn+1) (dn+1)) wS HM3.out rk1 rt1 (fun g hg=>hS.out.2.2.2 g hg) (fun g hg q=>by cases hg;exact Nat.lt_irrefl _ (lwp _ q)) (fun g hg q=>by cases hg;exact Nat.lt_irrefl _ (lkp _ q))
    (fun g hg=>by
     have h1:=HM2.out.base;have h2:=HH.out.base;have h3:=HF2.out.size;have h4:=HFP.out.size;rcases hg with hg | hg
     ·have:=hS.lo.2.2.2 g hg;omega
     ·cases hg;show L2.B<=wp.heap.size;omega) hin HEE.out.fo HEE.out.g1 (by omega) (by omega) hxl)
   have hSS:s1.put 10 0 acc (List.replicate (dn+1) 0)=MkS.selS n bs s:=by
    have h1:MkS.sel1 n bs s=(s1,acc):=by unfold MkS.sel1;rw [HK0.out,HR.out,HRR.out]
    unfold MkS.selS;rw [h1,hal4]
   have hidx:s1.code.length=(MkS.sel1 n bs s).1.code.length:=by
    have h1:MkS.sel1 n bs s=(s1,acc):=by unfold MkS.sel1;rw [HK0.out,HR.out,HRR.out]
    rw [h1]
   have HSS:=Lib.hid hSS;have HID:=Lib.hid hidx;have HTG:=Lib.hid (show ∃ x,(s1.put 10 0 acc (List.replicate (dn+1) 0)).code[s1.code.length]? = some x/\x.tg.length=dn+1 from ⟨_,by simp [MkS.put];rfl,by simp⟩);have HFW:=Lib.hid (show Fr (fun g=>g=i4) (fun g=>g=i4) wp wS from by rw [←hwS];exact (HFM.out.wide (fun _ q=>q.elim)).set _ (.inl rfl));clear rk1 rt1 hin hxl hss hSS hidx hS lwp lkp hacc hal4;rw [hkv] at HP;clear hwS;go_wp2_with fail
   refine HP.out.mono ?_;rintro e w5 ⟨b,c,rfl,hlp5,hb5,hc5,L3,hm5,⟨hq3,hB3⟩,hf5,nb5,nc5⟩;have HM5:=Lib.hid hm5;have HF5:=Lib.hid hf5;have HL5:=Lib.hid hlp5;clear HP hm5 hf5 hlp5;go_wp2_with fail
   obtain ⟨wT,hwT⟩:∃ wT,w5.alloc (.cells #[leapV b c] 189)=wT:=⟨_,rfl⟩;have hfT:Fr noF noF w5 wT:=by rw [←hwT];exact (Fr.refl _ _).alloc _
   have hcT:=cell_made w5 #[leapV b c] 189 (0,0) 0;have hsT:wT.heap.size=w5.heap.size+1:=by rw [←hwT];simp
   rw [hwT] at hcT;have ne:=HK3.out.ne;have lo:=HK3.out.lo;have ou:=HK3.out.out;have lt:=HK3.out.lt;have swr:=HF2.out.size;have swp:=HFP.out.size;have swS:=HFW.out.size;have sw5:=HF5.out.size;have hP:∀ g,g=pb\/g=mb->¬(L2.has p g\/rowF kv g\/rowF (.slice (some ⟨wp.heap.size,0,none⟩) (dn+1) (dn+1)) g):=by
    rintro g (rfl | rfl) (q | q | q)
    ·exact ou.2.1 q
    ·exact ne.2.2.2.2.1 q
    ·have:wp.heap.size=_:=Option.some.inj q;omega
    ·exact ou.2.2.1 q
    ·exact ne.2.2.2.2.2 q
    ·have:wp.heap.size=_:=Option.some.inj q;omega
   rw [←hkv] at HF5;have h3:∀ g,g=pb\/g=mb->¬L3.has p g:=fun g hg q=>(HF5.out.fp g q).elim (hP g hg) (fun q=>by rcases hg with rfl | rfl<;>omega)
   have gS:Fr (fun g=>g=i4) (fun g=>g=i4) wp wS:=HFW.out;have FA:Fr (L.has p) (L3.has p) w wT:=((((HF2.out.over HFP.out (by rintro g rfl;exact .inr lo.2.2.1)).over gS (by rintro g rfl;exact .inr lo.1)).tr HF5.out (by
    rintro g (q | q | q)
    ·exact HF2.out.fp g q
    ·exact .inr (lo.2.2.2 g q)
    ·have:wp.heap.size=g:=Option.some.inj q;exact .inr (by omega)))).trans (hfT.wide (fun _ q=>q.elim))
   have HI:TabI wT.heap.size p s1.code.length w5.heap.size b c pb mb (done++[othC]).length (constF (done++[othC])) L3 wT:=by
    have l5:=HL5.out.lt;refine ⟨hcT,HL5.out.fr hfT id id,hfT.cell (HF5.out.cell (gS.cell HK3.out.pm ne.1.symm) (hP pb (.inl rfl))) id,((HK3.out.mp.g.fr gS (fun e=>ne.2.1 e.symm)).fr HF5.out (hP mb (.inr rfl))).fr hfT id,
     ⟨fun q=>by have:=HM5.out.lt q;omega,nb5,nc5,h3 pb (.inl rfl),h3 mb (.inr rfl)⟩,⟨by omega,by omega,by omega,by omega,by omega⟩⟩
   obtain ⟨x,hx,hxt⟩:=HTG.out;have hdd:done=bs.keys.filter (· ≠ othC):=by rw [HK1.out];exact HDN.out
   have hB9:L3.B=L.B:=hB3.trans hB2;have HBEG:BegC wT.heap.size p (MkS.selS n bs s) bs.keys (MkS.selB n bs s) (.func (.func 162) #[] #[.pointer (some ⟨w5.heap.size,0,none⟩),.pointer (some ⟨pb,0,none⟩)]) (fun L W=>TabI wT.heap.size p s1.code.length w5.heap.size b c pb mb (done++[othC]).length (constF (done++[othC])) L W):=by
    refine ⟨⟨_,_,rfl,fun args w=>by first | rfl | simp [callFunc],fun L s' W key a ma mn mc hm hI hle hsz hkey=>?_⟩,fun L L' W W' h hf=>h.fr hf,fun L W W' F F' h hf hF=>h.al hf hF,fun k x=>MkS.selB_le n bs s k x⟩;obtain ⟨e1,e2⟩:=place_eq bs.keys key hkey;rw [←hdd] at e1 e2;rw [HSS.out] at hx;obtain ⟨y,hy,hyt⟩:=hle _ x hx;have hcl:s'.code.length<=900000:=by unfold MkS.sz at hsz;omega
    have:=tell_any s' y key a ma mn mc hm hI (HKS.out key hkey).1 hy (by rw [e1,hyt,hxt];have:=HDN2.out;omega) (by rw [hyt,hxt];omega) hcl;rw [e1,HID.out] at this;exact this
   have HBOD:=Lib.hid (bodies_any b0 n a 0 of cl bs p L3 (MkS.selS n bs s) (MkS.selB n bs s) _ _ wT HIH.out (by have:=HM5.out.fr hfT (fun _ q=>q.elim);rw [HSS.out] at this;exact this) (by rw [hB9];exact HE.out.fr FA HH.out.lo) HND.out HL.out HBC.out HBW.out (by rw [HM.out];exact hbn)
    (by have:=(MkS.selS_le n bs s).2;have:=Fo.gw_keys bs;have:=HS.out;omega) HBEG HI)
   have HFA:=Lib.hid FA;clear HBEG HI FA hx hfT hcT;rw [hwT];refine HBOD.out.mono ?_;rintro e w9 ⟨rfl,L4,hm9,⟨hq9,hB10⟩,hf9⟩;have HM9:=Lib.hid hm9;have HF9:=Lib.hid hf9;clear hm9 hf9 HBOD;go_wp2
   refine bodyPost_ret (v := .tuple #[]) ?_ rfl ?_
   ·simp [results,Tryz.results121,go_sem]
   exact ⟨rfl,L4,HM9.out,⟨by rw [hq9,hq3,hq2],by rw [hB10,hB9]⟩,HFA.out.trans HF9.out⟩
def AgrI (S:Nat->Prop) (p:Nat) (W0:World) (L:Lay) (W:World):Prop:=∀ g,S g->g<W0.heap.size/\¬L.has p g/\W.heap[g]? = W0.heap[g]?
section
variable {S:Nat->Prop} {p:Nat} {W0 W W':World} {L L':Lay}
theorem AgrI.lt (h:AgrI S p W0 L W) {g:Nat} (hg:S g):g<W.heap.size:=by
 obtain ⟨a,_,c⟩:=h g hg;rw [Array.getElem?_eq_getElem a] at c;exact (Array.getElem?_eq_some_iff.1 c).1
theorem AgrI.fr (h:AgrI S p W0 L W) (hf:Fr (L.has p) (L'.has p) W W'):AgrI S p W0 L' W':=fun g hg=>by
 obtain ⟨a,b,c⟩:=h g hg;have:=h.lt hg;exact ⟨a,fun q=>(hf.fp g q).elim b (by omega),(hf.keep g this b).trans c⟩
theorem AgrI.al {F F':Nat->Prop} (h:AgrI S p W0 L W) (hf:Fr F F' W W') (hF:∀ g,F g->W0.heap.size<=g):AgrI S p W0 L W':=fun g hg=>by
 obtain ⟨a,b,c⟩:=h g hg;exact ⟨a,b,(hf.keep g (h.lt hg) (fun q=>by have:=hF g q;omega)).trans c⟩
theorem AgrI.cell (h:AgrI S p W0 L W) {a:Addr} {v:Value} (hc:W0.cell? a=some v) (hg:S a.block):W.cell? a=some v:=(World.cell?_of_block (h _ hg).2.2).trans hc
theorem AgrI.leap (h:AgrI S p W0 L W) {i b c:Nat} (hl:LeapAt W0 p i b c) (hb:S b) (hc:S c):LeapAt W p i b c:=⟨h.cell hl.pb hb,h.cell hl.pc hc,(typ_keep (h b hb).2.2).trans hl.tb,(typ_keep (h c hc).2.2).trans hl.tc⟩
end
def fnR:Value->Option (DataW Unit×List MemPlace)
 | .func (.func k) first cap=>match first.toList,cap.toList with
  | [],[.pointer (some ⟨b,0,none⟩),.pointer (some ⟨c,0,none⟩)]=>if k=123 then some (.agg [.lit (.int .i64 (b:Nat)),.lit (.int .i64 (c:Nat))],[]) else none
  | _,_=>none
 | .nilFunc=>some (.agg [],[])
 | _=>none
theorem fnR_leap (b c:Nat):fnR (leapV b c)=some (.agg [.lit (.int .i64 (b:Nat)),.lit (.int .i64 (c:Nat))],[]):=by simp [fnR,leapV]
theorem fnR_inv {v:Value} {b c:Nat} {ps:List MemPlace} (h:fnR v=some (.agg [.lit (.int .i64 (b:Nat)),.lit (.int .i64 (c:Nat))],ps)):v=leapV b c:=by
 unfold fnR at h;split at h
 ·next k first cap =>
  split at h
  ·next b' c' h1 h2 =>
   split at h
   ·next hk =>
    simp at h;obtain ⟨⟨h3,h4⟩,_⟩:=h;have e1:first=#[]:=Array.toList_inj.1 h1;have e2:cap=#[.pointer (some ⟨b',0,none⟩),.pointer (some ⟨c',0,none⟩)]:=Array.toList_inj.1 h2;subst hk e1 e2;have h5:b'=b:=by omega
    have h6:c'=c:=by omega
    rw [h5,h6]
   ·cases h
  ·cases h
 ·simp at h
 ·cases h
def MapF (w:World) (b n:Nat) (f:Wd->Option (Nat×Nat)):Prop :=
 ∃ D:DataW Unit,w.ownsMap Tryz.prog 9 fnR b n D/\∀ m:Wd,Maps.has D (.string m)=(f m).isSome/\∀ x,f m=some x->D.atKey (.string m) (.agg []) = .agg [.lit (.int .i64 (x.1:Nat)),.lit (.int .i64 (x.2:Nat))]
theorem MapF.lt {w:World} {b n:Nat} {f:Wd->Option (Nat×Nat)} (h:MapF w b n f):b<w.heap.size:=by
 obtain ⟨D,⟨es,clock,ho,_⟩,_⟩:=h;exact (Array.getElem?_eq_some_iff.1 ho).1
theorem MapF.keep {w w':World} {b n:Nat} {f:Wd->Option (Nat×Nat)} (h:MapF w b n f) (hb:w'.heap[b]? = w.heap[b]?):MapF w' b n f:=by
 obtain ⟨D,⟨es,clock,ho,rest⟩,h2⟩:=h;exact ⟨D,⟨es,clock,hb.trans ho,rest⟩,h2⟩
theorem MapF.fr {w w':World} {F F':Nat->Prop} {b n:Nat} {f:Wd->Option (Nat×Nat)} (h:MapF w b n f) (hf:Fr F F' w w') (hb:¬F b):MapF w' b n f:=h.keep (hf.keep b h.lt hb)
theorem MapF.made (w:World):MapF (w.alloc (.map #[] 0)) w.heap.size 0 (fun _=>none):=⟨.map [],World.ownsMap_made w _ _ _,fun m=>⟨rfl,fun x hx=>by cases hx⟩⟩
theorem MapF.look {w:World} {b n:Nat} {f:Wd->Option (Nat×Nat)} (h:MapF w b n f) (m:Wd) (hm:m.length<=5000000) :
  ∃ v,(Instr.lookup 298 (.map (some b)) (strv m) true).run Tryz.prog w = .ok (.tuple #[v,.bool (f m).isSome]) w/\∀ x,f m=some x->v=leapV x.1 x.2:=by
 obtain ⟨D,h1,h3⟩:=h;obtain ⟨v,ps,hrun,hv⟩:=h1.look_ok (Maps.string_keyed Tryz.underlying9) Tryz.underlying298 (z := .nilFunc) (by first | rfl | simp [go_sem]) (zd := .agg []) (zp:=[]) rfl
  (key:=strv m) (WideMaps.keyOf_string_mk (s:=⟨m.toArray⟩) Tryz.underlying9 (by rw [size_mk];unfold maxLen;omega))
 rw [toList_mk] at hrun hv;rw [(h3 m).1] at hrun;exact ⟨v,hrun,fun x hx=>fnR_inv (ps:=ps) (by rw [hv,(h3 m).2 x hx])⟩
theorem MapF.put {w:World} {b n:Nat} {f:Wd->Option (Nat×Nat)} (h:MapF w b n f) (m:Wd) (hm:m.length<=5000000) (x:Nat×Nat) (hn:n<=1000000000) :
  ∃ w',(Instr.mapUpdate 298 (.map (some b)) (strv m) (leapV x.1 x.2)).run Tryz.prog w = .ok () w'/\MapF w' b (n+1) (fun k=>if m=k then some x else f k)/\w.grownBy w' (some b):=by
 obtain ⟨D,h1,h3⟩:=h;have hi:=h1.isMap;obtain ⟨w',hrun,hown,hg⟩:=h1.update (Maps.string_keyed Tryz.underlying9) Tryz.underlying298 (by unfold maxLen;omega) (key:=strv m) (WideMaps.keyOf_string_mk (s:=⟨m.toArray⟩) Tryz.underlying9 (by rw [size_mk];unfold maxLen;omega)) (fnR_leap x.1 x.2);rw [toList_mk] at hown;refine ⟨w',hrun,⟨_,hown,fun k=>?_⟩,hg⟩;by_cases hx:m=k
 ·subst hx;simp only [↓reduceIte];exact ⟨by rw [Maps.has_put_same hi (show WideAt.IsKeyLit (.string m) from trivial)];simp,fun y hy=>by cases hy;rw [Maps.atKey_put_same hi (show WideAt.IsKeyLit (.string m) from trivial)]⟩
 ·simp only [hx,↓reduceIte];have hne:(Lit.string k) ≠ .string m:=fun q=>hx (by cases q;rfl)
  exact ⟨by rw [Maps.has_put_other hne];exact (h3 k).1,fun y hy=>by rw [Maps.atKey_put_other hne];exact (h3 k).2 y hy⟩
def seenF (ks:List Wd) (k:Wd):Option Nat:=if k∈ks then some 1 else none
def catG (ks:List Wd) (t:Nat) (key:Wd) (s:MkS) (c:Nat):MkS:=if catC.getD c []=key\/key=othC/\catC.getD c [] ∉ ks then s.leap t c else s
structure PluI (S:Nat->Prop) (p ab am hb hm tb b c idx na nh:Nat) (ks:List Wd) (fa:Wd->Option (Nat×Nat)) (w:World):Prop where
 ca:w.cell? ⟨ab,0,none⟩=some (.map (some am))
 ma:MapF w am na fa
 ch:w.cell? ⟨hb,0,none⟩=some (.map (some hm))
 mh:MapG 3 w hm nh (seenF ks)
 ct:w.cell? ⟨tb,0,none⟩=some (leapV b c)
 l:LeapAt w p idx b c
 na:NamesAt w
 s:S ab/\S am/\S hb/\S hm/\S tb/\S b/\S c/\S 0
section
variable {S:Nat->Prop} {p ab am hb hm tb b c idx na nh:Nat} {ks:List Wd} {fa:Wd->Option (Nat×Nat)} {W0 W:World} {L L':Lay}
theorem PluI.at (h:PluI S p ab am hb hm tb b c idx na nh ks fa W0) (hI:AgrI S p W0 L W):PluI S p ab am hb hm tb b c idx na nh ks fa W:=by
 obtain ⟨s1,s2,s3,s4,s5,s6,s7,s8⟩:=h.s;exact ⟨hI.cell h.ca s1,h.ma.keep (hI _ s2).2.2,hI.cell h.ch s3,h.mh.keep (hI _ s4).2.2,hI.cell h.ct s5,hI.leap h.l s6 s7,fun j hj=>hI.cell (h.na j hj) s8,h.s⟩
set_option maxHeartbeats 8000000 in
theorem ptell_cat (s:MkS) (x:InL) (key:Wd) (a:Nat) (ma:Option Addr) (mn mc:Nat) (hmk:MkAt p L s W) (h:PluI S p ab am hb hm tb b c idx na nh ks fa W0) (hI:AgrI S p W0 L W) (hk:key.length<=17) (hx:s.code[idx]? = some x) (hj:x.tg.length=6) (hs:s.sz<=900000) (hf:fa key=none) :
  Calls Tryz.prog 164 #[.agg #[strv key,.int .i64 (a:Nat),.slice ma mn mc],.pointer (some ⟨ab,0,none⟩),.pointer (some ⟨hb,0,none⟩),.pointer (some ⟨tb,0,none⟩)] W (LeapQ p L (MkS.catS ks idx key s) W):=by
 obtain ⟨A,hA⟩:∃ A,W.alloc (.cells #[strv key,.int .i64 (a:Nat),.slice ma mn mc] 183)=A:=⟨_,rfl⟩;have fA:Fr noF noF W A:=by rw [←hA];exact (Fr.refl _ _).alloc _
 have hIA:=hI.al fA (fun _ q=>q.elim);have hPA:=h.at hIA;have hmA:=hmk.fr fA (fun _ q=>q.elim);have cA:=cell_made W #[strv key,.int .i64 (a:Nat),.slice ma mn mc] 183 (0,0) 0;obtain ⟨v,hlk,-⟩:=hPA.ma.look key (by omega);rw [hf] at hlk;have c1:=hPA.ca;have n0:=hPA.na 0 (by omega);have n1:=hPA.na 1 (by omega);have n2:=hPA.na 2 (by omega);have n3:=hPA.na 3 (by omega);have n4:=hPA.na 4 (by omega);have n5:=hPA.na 5 (by omega);simp only [catsB,List.getD_cons_zero,List.getD_cons_succ] at n0 n1 n2 n3 n4 n5;have hmW:=fun {g:Nat} (hg:L.has p g)=>hmk.lt hg
 have HI:=Lib.hid hI;have HH:=Lib.hid h;have HM:=Lib.hid hmA;have HFA:=Lib.hid fA;have HIA:=Lib.hid hIA;have HX:=Lib.hid hx;obtain ⟨R,hR⟩:∃ R,MkS.catS ks idx key s=R:=⟨_,rfl⟩;rw [hR];have HR:=Lib.hid (show (List.range 6).foldl (catG ks idx key) s=R from hR);subst hA;clear hI h hmk fA hIA hPA hmA hx hR hf;go_enter Tryz.func164,Tryz.ntmps164
 go_wp2_with fail
 go_loopw [20] (fun jv wr=>∃ j s',jv = .int .i64 (j:Nat)/\j<=6/\s'=(List.range j).foldl (catG ks idx key) s/\MkAt p L s' wr/\Fr (L.has p) (L.has p) W wr/\AgrI S p W0 L wr/\s.le s'/\s'.sz=s.sz/\wr.cell? ⟨W.heap.size,0,none⟩=some (strv key)) (fun jv _=>6 - (intOf jv).toNat)
 case atStart=>exact ⟨0,s,rfl,by omega,rfl,HM.out,HFA.out.wide (fun _ q=>q.elim),HIA.out,s.le_refl,rfl,cA⟩
 case round =>
  clear cA c1 hlk n0 n1 n2 n3 n4 n5;obtain ⟨j,s',rfl,hj6,hs',hm',hf',hI',hle,hsz,hkc⟩:=hrel;have hP':=HH.out.at hI';have nW:¬L.has p W.heap.size:=fun q=>by have:=HM.out;have h2:=hmW q;omega
  obtain ⟨y,hy,hyt⟩:=hle _ _ HX.out;have HS':=Lib.hid hs';have HM':=Lib.hid hm';have HF':=Lib.hid hf';have HI':=Lib.hid hI';have HLE:=Lib.hid hle;have HSZ:=Lib.hid hsz;by_cases hlt:j<6
  ·obtain ⟨t,ht⟩:∃ t,catC.getD j []=t:=⟨_,rfl⟩;have hix:∀ W:World,(Instr.index 138 (.agg #[.string ⟨#[122,101,114,111]⟩,.string ⟨#[111,110,101]⟩,.string ⟨#[116,119,111]⟩,.string ⟨#[102,101,119]⟩,.string ⟨#[109,97,110,121]⟩,.string ⟨#[111,116,104,101,114]⟩]) (.int .i64 (j:Int))).run Tryz.prog W = .ok (strv t) W:=by
    rw [←ht];match j,hlt with
    | 0,_=>exact fun W=>by kernel_rfl
    | 1,_=>exact fun W=>by kernel_rfl
    | 2,_=>exact fun W=>by kernel_rfl
    | 3,_=>exact fun W=>by kernel_rfl
    | 4,_=>exact fun W=>by kernel_rfl
    | 5,_=>exact fun W=>by kernel_rfl
   have htl:t.length<=5:=by
    rw [←ht];match j,hlt with
    | 0,_=>decide
    | 1,_=>decide
    | 2,_=>decide
    | 3,_=>decide
    | 4,_=>decide
    | 5,_=>decide
   have ch:=hP'.ch;have ct:=hP'.ct;have hlk:=hP'.mh.look1 mapt_i t (by omega);have HSTEP:=Lib.hid (show (List.range (j+1)).foldl (catG ks idx key) s=catG ks idx key s' j by rw [List.range_succ,List.foldl_append,←hs'];rfl);have HCG:=Lib.hid (show catG ks idx key s' j=if t=key\/key=othC/\t ∉ ks then s'.leap idx j else s' by unfold catG;rw [ht]);have hcl:s'.code.length<=900000:=by unfold MkS.sz at hsz hs;omega
   have HLV:=Lib.hid (leap_any p L s' idx j b c y wr hm' hP'.l hy (by omega) (by omega) (by omega));have k3:(j:Int)<6:=by omega
   clear hm' hf' hI' hP' hle hs' ht;by_cases hyes:t=key\/key=othC/\t ∉ ks
   ·have HG:=Lib.hid (show (List.range (j+1)).foldl (catG ks idx key) s=s'.leap idx j by rw [HSTEP.out,HCG.out,if_pos hyes]);rcases (show t=key\/¬t=key/\key=othC/\t ∉ ks by by_cases q:t=key;exact .inl q;exact .inr ⟨q,hyes.resolve_left q⟩) with ha | ⟨ha,hb,hc⟩
    ·have kA:(t==key)=true:=by simp [ha]
     clear ha hyes;go_wp2_with fail
     refine HLV.out.mono ?_;rintro e w3 ⟨rfl,hm3,hf3⟩;have HM3:=Lib.hid hm3;have HF3:=Lib.hid hf3;have hkc3:=hf3.cell hkc nW;clear hm3 hf3 HLV;go_wp2
     go_roundw
     case rel=>exact ⟨j+1,s'.leap idx j,by go_num,by omega,HG.out.symm,HM3.out,HF'.out.trans HF3.out,HI'.out.fr HF3.out,MkS.le_trans HLE.out (s'.le_leap _ _),by rw [sz_leap];exact HSZ.out,hkc3⟩
     case measure=>simp only [intOf];omega
    ·have kA:(t==key)=false:=by simp [ha]
     have kB:(key==[111,116,104,101,114])=true:=by rw [hb];decide
     rw [show seenF ks t=none from if_neg hc] at hlk;clear ha hb hc hyes;go_wp2_with fail
     refine HLV.out.mono ?_;rintro e w3 ⟨rfl,hm3,hf3⟩;have HM3:=Lib.hid hm3;have HF3:=Lib.hid hf3;have hkc3:=hf3.cell hkc nW;clear hm3 hf3 HLV;go_wp2
     go_roundw
     case rel=>exact ⟨j+1,s'.leap idx j,by go_num,by omega,HG.out.symm,HM3.out,HF'.out.trans HF3.out,HI'.out.fr HF3.out,MkS.le_trans HLE.out (s'.le_leap _ _),by rw [sz_leap];exact HSZ.out,hkc3⟩
     case measure=>simp only [intOf];omega
   ·have HG:=Lib.hid (show (List.range (j+1)).foldl (catG ks idx key) s=s' by rw [HSTEP.out,HCG.out,if_neg hyes]);have ha:¬t=key:=fun q=>hyes (.inl q)
    have kA:(t==key)=false:=by simp [ha]
    by_cases hb:key=othC
    ·have hc:t∈ks:=Classical.byContradiction fun q=>hyes (.inr ⟨hb,q⟩)
     have kB:(key==[111,116,104,101,114])=true:=by rw [hb];decide
     rw [show seenF ks t=some 1 from if_pos hc] at hlk;clear ha hb hc hyes;go_wp2
     go_roundw
     case rel=>exact ⟨j+1,s',by go_num,by omega,HG.out.symm,HM'.out,HF'.out,HI'.out,HLE.out,HSZ.out,hkc⟩
     case measure=>simp only [intOf];omega
    ·have kB:(key==[111,116,104,101,114])=false:=by simpa [othC] using hb
     clear ha hb hyes;go_wp2
     go_roundw
     case rel=>exact ⟨j+1,s',by go_num,by omega,HG.out.symm,HM'.out,HF'.out,HI'.out,HLE.out,HSZ.out,hkc⟩
     case measure=>simp only [intOf];omega
  ·have HF2:=Lib.hid (show s'=R by rw [hs',show j=6 by omega];exact HR.out);have k3:¬(j:Int)<6:=by omega
   clear hm' hf' hI' hP' hle hs';go_wp2
   refine bodyPost_ret (v := .tuple #[]) ?_ rfl ?_
   ·simp [results,Tryz.results164,go_sem]
   rw [←HF2.out];exact ⟨rfl,HM'.out,HF'.out⟩
set_option maxHeartbeats 4000000 in
theorem ptell_ask (s:MkS) (x:InL) (key:Wd) (a:Nat) (ma:Option Addr) (mn mc:Nat) (b1 c1 i1:Nat) (hmk:MkAt p L s W) (h:PluI S p ab am hb hm tb b c idx na nh ks fa W0) (hI:AgrI S p W0 L W) (hk:key.length<=17) (hl:LeapAt W0 p i1 b1 c1) (hb1:S b1) (hc1:S c1) (hx:s.code[i1]? = some x) (hj:x.tg.length=1) (hs:s.sz<=900000) (hf:fa key=some (b1,c1)) :
  Calls Tryz.prog 164 #[.agg #[strv key,.int .i64 (a:Nat),.slice ma mn mc],.pointer (some ⟨ab,0,none⟩),.pointer (some ⟨hb,0,none⟩),.pointer (some ⟨tb,0,none⟩)] W (LeapQ p L (s.leap i1 0) W):=by
 obtain ⟨A,hA⟩:∃ A,W.alloc (.cells #[strv key,.int .i64 (a:Nat),.slice ma mn mc] 183)=A:=⟨_,rfl⟩;have fA:Fr noF noF W A:=by rw [←hA];exact (Fr.refl _ _).alloc _
 have hIA:=hI.al fA (fun _ q=>q.elim);have hPA:=h.at hIA;have hmA:=hmk.fr fA (fun _ q=>q.elim);have cA:=cell_made W #[strv key,.int .i64 (a:Nat),.slice ma mn mc] 183 (0,0) 0;obtain ⟨v,hlk,hv⟩:=hPA.ma.look key (by omega);obtain rfl:=hv _ hf;rw [hf] at hlk;have c1':=hPA.ca;have hcl:s.code.length<=900000:=by unfold MkS.sz at hs;omega
 have HLV:=Lib.hid (leap_any p L s i1 0 b1 c1 x A hmA (hIA.leap hl hb1 hc1) hx (by omega) (by omega) (by omega));have HFA:=Lib.hid fA;subst hA;clear hI h hmk fA hIA hPA hmA hx hf hv hl;go_enter Tryz.func164,Tryz.ntmps164
 go_wp2_with fail
 refine HLV.out.mono ?_;rintro e w3 ⟨rfl,hm3,hf3⟩;have HM3:=Lib.hid hm3;have HF3:=Lib.hid hf3;clear hm3 hf3 HLV;go_wp2
 refine bodyPost_ret (v := .tuple #[]) ?_ rfl ?_
 ·simp [results,Tryz.results164,go_sem]
 exact ⟨rfl,HM3.out,(HFA.out.wide (fun _ q=>q.elim)).trans HF3.out⟩
end
abbrev AskL:=List (Wd×Nat×Nat×Nat)
def AskL.fn (al:AskL) (k:Wd):Option (Nat×Nat):=(al.lookup k).map (·.2)
def AskL.ix (al:AskL):List (Wd×Nat):=al.map fun e=>(e.1,e.2.1)
theorem ix_lookup:∀ (al:AskL) (k:Wd),al.ix.lookup k=(al.lookup k).map (·.1)
 | [],_=>rfl
 | (k1,i,bc)::al,k=>by
  have:=ix_lookup al k;simp only [AskL.ix,List.map_cons,List.lookup_cons] at this ⊢;split<;>simp_all
theorem lookup_mem:∀ (al:AskL) (k:Wd) (x:Nat×Nat×Nat),al.lookup k=some x->(k,x)∈al
 | [],_,_,h=>by cases h
 | (k1,y)::al,k,x,h=>by
  simp only [List.lookup_cons] at h;split at h
  ·next hk=>cases h;rw [eq_of_beq hk];exact List.mem_cons_self
  ·exact List.mem_cons_of_mem _ (lookup_mem al k x h)
theorem lookup_snoc (al:AskL) (m k:Wd) (x:Nat×Nat×Nat) (h:∀ e∈al,e.1≠m):(al++[(m,x)]).lookup k=if m=k then some x else al.lookup k:=by
 induction al with
 | nil =>
  simp only [List.nil_append,List.lookup_cons,List.lookup_nil];by_cases hk:m=k
  ·simp [hk]
  ·rw [if_neg hk,show (k==m)=false by simpa using fun e=>hk e.symm]
 | cons a al ih =>
  obtain ⟨k1,y⟩:=a;have h1:k1≠m:=h (k1,y) List.mem_cons_self;have ih:=ih (fun e he=>h e (List.mem_cons_of_mem _ he));simp only [List.cons_append,List.lookup_cons];by_cases hk:k=k1
  ·subst hk;rw [if_neg (fun e=>h1 e.symm)];simp
  ·rw [show (k==k1)=false by simpa using hk];exact ih
theorem seenF_more {ks:List Wd} {k:Wd}:(fun x=>if k=x then some 1 else seenF ks x)=seenF (ks++[k]):=by
 funext x;unfold seenF;by_cases hx:k=x
 ·simp [hx]
 ·have:¬x=k:=fun e=>hx e.symm
  simp [hx,this]
structure PluL (N p ab am hb hm:Nat) (pre:List Wd) (al:AskL) (s:MkS) (L:Lay) (w:World):Prop where
 ca:w.cell? ⟨ab,0,none⟩=some (.map (some am))
 ma:MapF w am al.length al.fn
 ch:w.cell? ⟨hb,0,none⟩=some (.map (some hm))
 mh:MapG 3 w hm pre.length (seenF pre)
 lo:N<=ab/\N<=am/\N<=hb/\N<=hm
 out:¬L.has p ab/\¬L.has p am/\¬L.has p hb/\¬L.has p hm
 ne:ab≠am/\ab≠hm/\am≠hb/\am≠hm/\hb≠hm
 lp:∀ e∈al,LeapAt w p e.2.1 e.2.2.1 e.2.2.2/\¬L.has p e.2.2.1/\¬L.has p e.2.2.2/\∃ y,s.code[e.2.1]? = some y/\y.tg.length=1
 ks:∀ e∈al,e.1∈pre
section
variable {N p ab am hb hm:Nat} {pre:List Wd} {al:AskL} {s s':MkS} {L L':Lay} {w w':World}
theorem PluL.lt (h:PluL N p ab am hb hm pre al s L w):ab<w.heap.size/\am<w.heap.size/\hb<w.heap.size/\hm<w.heap.size:=⟨World.block_lt_of_cell? w _ h.ca,h.ma.lt,World.block_lt_of_cell? w _ h.ch,h.mh.lt⟩
theorem PluL.fr (h:PluL N p ab am hb hm pre al s L w) (hf:Fr (L.has p) (L'.has p) w w') (hs:s.le s'):PluL N p ab am hb hm pre al s' L' w':=by
 obtain ⟨o1,o2,o3,o4⟩:=h.out;obtain ⟨l1,l2,l3,l4⟩:=h.lt;have no:∀ g,¬L.has p g->g<w.heap.size->¬L'.has p g:=fun g a b q=>(hf.fp g q).elim a (by omega)
 refine ⟨hf.cell h.ca o1,h.ma.fr hf o2,hf.cell h.ch o3,h.mh.fr hf o4,h.lo,⟨no _ o1 l1,no _ o2 l2,no _ o3 l3,no _ o4 l4⟩,h.ne,fun e he=>?_,h.ks⟩;obtain ⟨a,b,c,y,d,e2⟩:=h.lp e he;obtain ⟨y2,d2,e3⟩:=hs _ y d;exact ⟨a.fr hf b c,no _ b a.lt.1,no _ c a.lt.2,y2,d2,e3.trans e2⟩
theorem PluL.al' {F F':Nat->Prop} (h:PluL N p ab am hb hm pre al s L w) (hf:Fr F F' w w') (hF:∀ g,F g->w.heap.size<=g):PluL N p ab am hb hm pre al s L w':=by
 obtain ⟨l1,l2,l3,l4⟩:=h.lt;have nf:∀ g,g<w.heap.size->¬F g:=fun g a q=>by have:=hF g q;omega
 refine ⟨hf.cell h.ca (nf _ l1),h.ma.fr hf (nf _ l2),hf.cell h.ch (nf _ l3),h.mh.fr hf (nf _ l4),h.lo,h.out,h.ne,fun e he=>?_,h.ks⟩;obtain ⟨a,b,c,d⟩:=h.lp e he;exact ⟨a.fr hf (nf _ a.lt.1) (nf _ a.lt.2),b,c,d⟩
theorem PluL.leaps {m:Nat} (h:PluL N p ab am hb hm pre al s L w) (hg:w.grownBy w' (some m)) (hm:typ w m=none):∀ e∈al,LeapAt w' p e.2.1 e.2.2.1 e.2.2.2/\¬L.has p e.2.2.1/\¬L.has p e.2.2.2/\∃ y,s.code[e.2.1]? = some y/\y.tg.length=1:=fun e he=>by
 obtain ⟨a,b,c,d⟩:=h.lp e he;have hf:Fr (fun k=>k=m) (fun k=>k=m) w w':=⟨hg.os,hg.tape,hg.output,hg.size,fun k hk hn=>hg.block k hk (fun e=>hn (Option.some.inj e)),fun _ q => .inl q⟩;exact ⟨a.fr hf (fun e=>by have:=a.tb;rw [e,hm] at this;cases this) (fun e=>by have:=a.tc;rw [e,hm] at this;cases this),b,c,d⟩
theorem mapf_typ {w:World} {b n:Nat} {f:Wd->Option (Nat×Nat)} (h:MapF w b n f):typ w b=none:=by
 obtain ⟨D,⟨es,clock,ho,_⟩,_⟩:=h;simp [typ,ho]
theorem PluL.key {k:Wd} (h:PluL N p ab am hb hm pre al s L w) (hm2:MapG 3 w' hm (pre.length+1) (fun x=>if k=x then some 1 else seenF pre x)) (hg:w.grownBy w' (some hm)):PluL N p ab am hb hm (pre++[k]) al s L w':=by
 have hf:Fr (fun k=>k=hm) (fun k=>k=hm) w w':=⟨hg.os,hg.tape,hg.output,hg.size,fun k hk hn=>hg.block k hk (fun e=>hn (Option.some.inj e)),fun _ q => .inl q⟩;obtain ⟨n1,n2,n3,n4,n5⟩:=h.ne;rw [seenF_more] at hm2;exact ⟨hf.cell h.ca n2,h.ma.fr hf n4,hf.cell h.ch n5,by simpa using hm2,h.lo,h.out,h.ne,h.leaps hg (map_typ h.mh),fun e he=>List.mem_append_left _ (h.ks e he)⟩
theorem PluL.ask {k:Wd} {i b c:Nat} {y:InL} (h:PluL N p ab am hb hm pre al s L w) (hk:k∈pre) (hn:∀ e∈al,e.1≠k) (hm2:MapF w' am (al.length+1) (fun x=>if k=x then some (b,c) else al.fn x)) (hg:w.grownBy w' (some am))
  (hl:LeapAt w p i b c) (ob:¬L.has p b) (oc:¬L.has p c) (hy:s.code[i]? = some y) (h1:y.tg.length=1):PluL N p ab am hb hm pre (al++[(k,i,b,c)]) s L w':=by
 have hf:Fr (fun k=>k=am) (fun k=>k=am) w w':=⟨hg.os,hg.tape,hg.output,hg.size,fun k hk hn=>hg.block k hk (fun e=>hn (Option.some.inj e)),fun _ q => .inl q⟩;obtain ⟨n1,n2,n3,n4,n5⟩:=h.ne;have hty:=mapf_typ h.ma;have e1:(fun x=>if k=x then some (b,c) else al.fn x)=AskL.fn (al++[(k,i,b,c)]):=by
  funext x;unfold AskL.fn;rw [lookup_snoc al k x _ hn];split<;>rfl
 rw [e1] at hm2;refine ⟨hf.cell h.ca n1,by simpa using hm2,hf.cell h.ch n3.symm,h.mh.fr hf (fun e=>n4 e.symm),h.lo,h.out,h.ne,fun e he=>?_,fun e he=>?_⟩
 ·rcases List.mem_append.1 he with he | he
  ·exact h.leaps hg hty e he
  ·simp at he;subst he;exact ⟨hl.fr hf (fun e=>by have:=hl.tb;rw [e,hty] at this;cases this) (fun e=>by have:=hl.tc;rw [e,hty] at this;cases this),ob,oc,y,hy,h1⟩
 ·rcases List.mem_append.1 he with he | he
  ·exact h.ks e he
  ·simp at he;subst he;exact hk
end
def plG (ks:List Wd) (ix:List (Wd×Nat)) (t:Nat) (k:Wd) (x:MkS):MkS :=
 match ix.lookup k with
 | some i=>x.leap i 0
 | none=>MkS.catS ks t k x
def pluSet (ab am hb hm tb b c:Nat) (al:AskL) (g:Nat):Prop:=g=ab\/g=am\/g=hb\/g=hm\/g=tb\/g=b\/g=c\/g=0\/∃ e∈al,g=e.2.2.1\/g=e.2.2.2
theorem plu_beg {N p ab am hb hm idx b c:Nat} {pre:List Wd} {al:AskL} {s:MkS} {L:Lay} {w wT:World} {x:InL} (h:PluL N p ab am hb hm pre al s L w) (hl:LeapAt w p idx b c) (ob:¬L.has p b) (oc:¬L.has p c) (hna:NamesAt w) (hB:0<L.B) (hmk:MkAt p L s w)
  (hx:s.code[idx]? = some x) (hx6:x.tg.length=6) (hk:∀ k∈pre,k.length<=17) (hT:w.alloc (.cells #[leapV b c] 189)=wT) :
  BegC wT.heap.size p s pre (plG pre al.ix idx) (.func (.func 164) #[] #[.pointer (some ⟨ab,0,none⟩),.pointer (some ⟨hb,0,none⟩),.pointer (some ⟨w.heap.size,0,none⟩)]) (fun L W=>AgrI (pluSet ab am hb hm w.heap.size b c al) p wT L W)/\AgrI (pluSet ab am hb hm w.heap.size b c al) p wT L wT:=by
 have hfT:Fr noF noF w wT:=by rw [←hT];exact (Fr.refl _ _).alloc _
 have hcT:=cell_made w #[leapV b c] 189 (0,0) 0;rw [hT] at hcT;have hsT:wT.heap.size=w.heap.size+1:=by rw [←hT];simp
 have hp:=h.al' hfT (fun _ q=>q.elim);obtain ⟨l1,l2,l3,l4⟩:=h.lt;obtain ⟨o1,o2,o3,o4⟩:=h.out;have ll:=hl.lt;have hbs:=hmk.base;refine ⟨⟨⟨_,_,rfl,fun args w=>by first | rfl | simp [callFunc],fun L' s' W key a ma mn mc hm' hI hle hsz hkey=>?_⟩,fun L L' W W' h hf=>h.fr hf,fun L W W' F F' h hf hF=>h.al hf hF,fun k x=>?_⟩,fun g hg=>?_⟩
 ·have hP:PluI (pluSet ab am hb hm w.heap.size b c al) p ab am hb hm w.heap.size b c idx al.length pre.length pre al.fn wT :=
   ⟨hp.ca,hp.ma,hp.ch,hp.mh,hcT,hl.fr hfT id id,fun j hj=>hfT.cell (hna j hj) id,.inl rfl,.inr (.inl rfl),.inr (.inr (.inl rfl)),.inr (.inr (.inr (.inl rfl))),.inr (.inr (.inr (.inr (.inl rfl)))),.inr (.inr (.inr (.inr (.inr (.inl rfl))))),.inr (.inr (.inr (.inr (.inr (.inr (.inl rfl)))))),.inr (.inr (.inr (.inr (.inr (.inr (.inr (.inl rfl))))))) ⟩
  have hk17:=hk key hkey;unfold plG;rw [ix_lookup]
  cases hal:al.lookup key with
  | none =>
   obtain ⟨y,hy,hyt⟩:=hle _ x hx;exact ptell_cat s' y key a ma mn mc hm' hP hI hk17 hy (hyt.trans hx6) hsz (by unfold AskL.fn;rw [hal];rfl)
  | some e =>
   obtain ⟨i1,b1,c1⟩:=e;have hmem:=lookup_mem al key _ hal;obtain ⟨q1,q2,q3,y0,q4,q5⟩:=hp.lp _ hmem;obtain ⟨y,hy,hyt⟩:=hle _ y0 q4;exact ptell_ask s' y key a ma mn mc b1 c1 i1 hm' hP hI hk17 q1 (.inr (.inr (.inr (.inr (.inr (.inr (.inr (.inr ⟨_,hmem,.inl rfl⟩)))))))) (.inr (.inr (.inr (.inr (.inr (.inr (.inr (.inr ⟨_,hmem,.inr rfl⟩)))))))) hy (hyt.trans q5) hsz (by unfold AskL.fn;rw [hal];rfl)
 ·unfold plG;split
  ·exact ⟨x.le_leap _ _,sz_leap _ _ _⟩
  ·exact MkS.cat_le _ _ _ _
 ·have hlo:∀ k,L.has p k->L.B<=k:=hmk.lo;rcases hg with rfl | rfl | rfl | rfl | rfl | rfl | rfl | rfl | ⟨e,he,rfl | rfl⟩
  ·exact ⟨by omega,o1,rfl⟩
  ·exact ⟨by omega,o2,rfl⟩
  ·exact ⟨by omega,o3,rfl⟩
  ·exact ⟨by omega,o4,rfl⟩
  ·exact ⟨by omega,fun q=>by have:=hmk.lt q;omega,rfl⟩
  ·exact ⟨by omega,ob,rfl⟩
  ·exact ⟨by omega,oc,rfl⟩
  ·exact ⟨by omega,fun q=>by have:=hlo _ q;omega,rfl⟩
  ·obtain ⟨q1,q2,q3,-⟩:=h.lp e he;exact ⟨by have:=q1.lt;omega,q2,rfl⟩
  ·obtain ⟨q1,q2,q3,-⟩:=h.lp e he;exact ⟨by have:=q1.lt;omega,q3,rfl⟩
end Go.Proofs.YthpldolmpinnhaaGreatDoor
