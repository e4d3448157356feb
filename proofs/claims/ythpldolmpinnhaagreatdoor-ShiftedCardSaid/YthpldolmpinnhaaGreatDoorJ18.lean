import Derived.Test.YthpldolmpinnhaaGreatDoorJ17
namespace Go.Proofs.YthpldolmpinnhaaGreatDoor
open Go Go.RowKit
set_option maxRecDepth 10000
theorem plu_start {p:Nat} {L:Lay} {s:MkS} {w:World} (h:MkAt p L s w) (N:Nat) (hN:N<=w.heap.size) :
  ∃ W,W=(((w.alloc (.map #[] 0)).alloc (.cells #[.map (some w.heap.size)] 185)).alloc (.map #[] 0)).alloc (.cells #[.map (some (w.heap.size+2))] 298) /\
   PluL N p (w.heap.size+3) (w.heap.size+2) (w.heap.size+1) w.heap.size [] [] s L W/\Fr noF noF w W:=by
 obtain ⟨A,hA⟩:∃ A,w.alloc (.map #[] 0)=A:=⟨_,rfl⟩;have sA:A.heap.size=w.heap.size+1:=by rw [←hA];simp
 have mA:=MapG.made 3 w;have fA:Fr noF noF w A:=by rw [←hA];exact (Fr.refl _ _).alloc _
 rw [hA] at mA ⊢;clear hA;obtain ⟨B,hB⟩:∃ B,A.alloc (.cells #[.map (some w.heap.size)] 185)=B:=⟨_,rfl⟩;have sB:B.heap.size=w.heap.size+2:=by rw [←hB];simp [sA]
 have cB:=cell_made A #[.map (some w.heap.size)] 185 (0,0) 0;have fB:Fr noF noF A B:=by rw [←hB];exact (Fr.refl _ _).alloc _
 rw [hB,sA] at cB;rw [hB];clear hB;obtain ⟨C,hC⟩:∃ C,B.alloc (.map #[] 0)=C:=⟨_,rfl⟩;have mC:=MapF.made B;have sC:C.heap.size=w.heap.size+3:=by rw [←hC];simp [sB]
 have fC:Fr noF noF B C:=by rw [←hC];exact (Fr.refl _ _).alloc _
 rw [hC,sB] at mC;rw [hC];clear hC;have fD:Fr noF noF C (C.alloc (.cells #[.map (some (w.heap.size+2))] 298)):=(Fr.refl _ _).alloc _;have f:=fC.trans fD;have no:∀ g,w.heap.size<=g->¬L.has p g:=fun g hg q=>by have:=h.lt q;omega
 have e0:seenF []=fun _=>none:=by funext x;simp [seenF]
 refine ⟨_,rfl,⟨?_,mC.fr fD id,f.cell cB id,by rw [e0];exact mA.fr (fB.trans f) id,by omega,⟨no _ (by omega),no _ (by omega),no _ (by omega),no _ (by omega)⟩,by omega,(fun e he=>by cases he),(fun e he=>by cases he)⟩,fA.trans (fB.trans f)⟩;rw [←sC];exact cell_made C #[.map (some (w.heap.size+2))] _ _ _
theorem trim_eq (k:Wd) (h:k.head? = some 61):Lib.hasPrefix k [61]=true/\Lib.trimPrefix k [61]=k.tail:=by
 cases k with
 | nil=>cases h
 | cons c t=>simp at h;subst h;constructor<;>simp [Lib.hasPrefix,Lib.trimPrefix]
theorem trim_ne (k:Wd) (h:¬k.head? = some 61):Lib.hasPrefix k [61]=false/\Lib.trimPrefix k [61]=k:=by
 cases k with
 | nil=>constructor<;>simp [Lib.hasPrefix,Lib.trimPrefix]
 | cons c t =>
  have hc:¬c=61:=fun e=>h (by rw [e];rfl)
  have hc2:¬61=c:=fun e=>hc e.symm
  constructor<;>simp [Lib.hasPrefix,Lib.trimPrefix,List.isPrefixOf,hc,hc2]
theorem off_small (l:Wd) (h:l.length<=9) (hd:l.all isDig=true):offV l<=4000000000:=by
 have hb:∀ (l:Wd) (v:Nat),l.all isDig=true->l.foldl (fun v c=>10*v+(c.toNat - 48)) v<(v+1)*10 ^ l.length:=by
  intro l;induction l with
  | nil=>intro v _;simp
  | cons c t ih =>
   intro v h;simp only [List.all_cons,Bool.and_eq_true] at h;have hc:=(isDig_iff c).1 h.1;have:=ih (10*v+(c.toNat - 48)) h.2;rw [List.foldl_cons,List.length_cons];refine Nat.lt_of_lt_of_le this ?_;have h3:10*v+(c.toNat - 48)+1<=(v+1)*10:=by omega
   calc (10*v+(c.toNat - 48)+1)*10 ^ t.length<=((v+1)*10)*10 ^ t.length:=Nat.mul_le_mul_right _ h3
    _=(v+1)*10 ^ (t.length+1):=by rw [Nat.pow_succ,Nat.mul_assoc,Nat.mul_comm 10]
 have h1:=hb l 0 hd;have h2:10 ^ l.length<=10 ^ 9:=Nat.pow_le_pow_right (by decide) h;have h3:(10:Nat) ^ 9=1000000000:=by decide
 unfold offV;omega
set_option maxHeartbeats 20000000 in
theorem plural_any {lo hi:Nat} {w0:World} (b0:Nat) (n:Wd) (a fo:Nat) (of:Wd) (cl:Nat) (bs:Fo) (p:Nat) (L:Lay) (s:MkS) (w:World)
  (ih:∀ m:Fo,SizeOf.sizeOf m<SizeOf.sizeOf bs->MesC lo hi w0 m) (h:MkAt p L s w) (he:MEnv lo hi w0 L.B w) (hfo:fo≠0)
  (hnd:NodesV lo hi w0 [.iface 177 (.pointer (some ⟨b0,0,none⟩))] (.br n a fo of cl bs .nil)) (hc:(Fo.br n a fo of cl bs .nil).cok) (hwf:(Fo.br n a fo of cl bs .nil).wf 2000000=true) (hs:s.sz+(40+bs.cw)<=900000) :
  Calls Tryz.prog 122 #[.pointer (some ⟨p,0,none⟩),.pointer (some ⟨b0,0,none⟩)] w (MQ p L ((bodS bs (MkS.pluB n of bs s) (MkS.pluS n of fo bs s)).put 5 0 [] []) w):=by
 have hmm:=@run_makeMap Tryz.prog;have HND:=Lib.hid hnd;obtain ⟨vt,b',ba,bc,ws,hee,hb1,hb2,hc0,hc1,hc2,hc3,hc4,hc5,hrw,hbs,_⟩:=hnd
 cases hee;obtain ⟨hnl,hfl,hov,hL,hnd2,hks,hbc,-⟩:=hc;have hwq:(decide (n.length<=4000001) && decide (fo<3) && bs.isLegs && decide (bs.len<=2000000) && bs.wf 2000000 && Fo.nil.wf 2000000)=true:=hwf;simp only [Bool.and_eq_true,decide_eq_true_eq] at hwq;obtain ⟨⟨⟨-,hbn⟩,hbw⟩,-⟩:=hwq;have c0:=keep_cell he.keep hc0 hb1 hb2;have c1:=keep_cell he.keep hc1 hb1 hb2;have c2:=keep_cell he.keep hc3 hb1 hb2;have c4:=keep_cell he.keep hc4 hb1 hb2;have c3:=keep_cell he.keep hc2 hb1 hb2;have hsz:s.cs.length<=900000/\s.code.length<=900000/\s.pos<=900000:=by unfold MkS.sz at hs;omega
 have HC:=Lib.hid (const_any p L s n w.drew h.drew (by omega) (by omega));have HH:=Lib.hid h;have HE:=Lib.hid he;have HRW:=Lib.hid hrw;have HBS:=Lib.hid hbs;have HL:=Lib.hid hL;have HND2:=Lib.hid hnd2;have HKS:=Lib.hid hks;have HBC:=Lib.hid hbc;have HBW:=Lib.hid hbw;have HIH:=Lib.hid ih;have HS:=Lib.hid hs;obtain ⟨M,hM⟩:∃ M,bs.len=M:=⟨_,rfl⟩;have HM:=Lib.hid hM;rw [hM] at c4 hbn;obtain ⟨k0,hk0⟩:∃ k0,s.num n=k0:=⟨_,rfl⟩;rw [hk0] at HC;have HK0:=Lib.hid hk0;obtain ⟨ov,hov2⟩:∃ ov,offV of=ov:=⟨_,rfl⟩;rw [hov2] at c2 hov;have HOV:=Lib.hid hov2;clear h he hrw hbs hL hnd2 hks hbc hbw ih hs hM hc0 hc1 hc2 hc3 hc4 hc5 hk0 hwf hov2;go_enter Tryz.func122,Tryz.ntmps122
 go_wp2_with fail
 refine rt (fun W':World=>W'.cell? ⟨b0,0,none⟩=some (strv n)/\W'.cell? ⟨b0,3,none⟩=some (.int .i64 ov)) [0,1,2,3,4,5,6,9,10,11,12] 4 ⟨c0,c2⟩ ?_;(iterate 11 (refine ty ?_;try simp only [pl]))
 refine takes_nil ?_;refine wpAnyH_only 7 (by kernel_rfl) rfl (fun J hJ=>?_);go_simp
 refine HC.out.mono ?_;rintro e w1 ⟨rfl,L1,hm1,⟨hq1,hB1⟩,hf1⟩;clear HC;have hf1:=hf1.und;have nb0:¬L.has p b0:=fun q=>by have:=HH.out.lo _ q;have:=HE.out.hB;omega
 have d0:=hf1.cell c0 nb0;have d2:=hf1.cell c2 nb0;refine hJ.out _ _ ⟨d0,d2⟩ fun _=>?_
 clear hJ J;refine wpAnyH_only 8 (by kernel_rfl) rfl (fun J hJ=>?_);go_simp
 refine hJ.out _ _ ⟨cell_al d0 _,cell_al d2 _⟩ fun _=>?_
 clear hJ J;refine wpAnyH_more [13] 1 rfl (by intro _ _ d _ _ h;cases d<;>exact h) (by kernel_rfl) (by kernel_rfl) ⟨cell_al d0 _,cell_al d2 _⟩ ?_;refine ty ?_;try simp only [pl]
 refine takes_nil ?_;refine wpAnyH_only 14 (by kernel_rfl) rfl (fun J hJ=>?_);go_simp
 have hl1:=NRow.lit w1 [k0] (by simp);have hm1a:=hm1.alloc (.cells (intC [k0]).toArray 3);obtain ⟨z1,z2,z3⟩:=sz_const s n;have hk9:k0<=900000:=by have:=num_le s n;have:=HK0.out;omega
 have hx1:(insX ⟨4,(s.const n).pos,ov,[k0],[]⟩).length=7:=by simp [insX,frmL,insB,twoL,fourL]
 have hF1:FrmsAt (w1.alloc (.cells (intC [k0]).toArray 3)):=(HE.out.fo.fr hf1 HH.out.lo HE.out.g1).fr ((Fr.refl noF w1).alloc _) (fun _ q=>q.elim) HE.out.g1;have HP:=Lib.hid (put_any p L1 (s.const n) 4 ov [k0] [] (.slice (some ⟨w1.heap.size,0,none⟩) 1 1) (.slice none 0 0) (w1.alloc (.cells (intC [k0]).toArray 3)) hm1a hl1 (NRow.nil _) (fun g hg q=>by cases hg;exact Nat.lt_irrefl _ (hm1.lt q)) (fun g hg=>by cases hg) (fun g hg=>by cases hg)
  (fun g hg=>by rcases hg with hg | hg<;>cases hg;have:=hm1.base;show L1.B<=w1.heap.size;omega)
  ⟨(by decide:4<12),by show ov<=_;omega,by simp;omega,by simp,by simp,rfl⟩ hF1 (by rw [hB1];exact HE.out.g1) (by rw [z2];omega) (by rw [z3];omega) (by rw [hx1];omega))
 refine HP.out.mono ?_;rintro e w2 ⟨bx,cx,rfl,-,-,-,L2,hm2,⟨hq2,hB2⟩,hf2,-,-⟩;have fA:Fr noF noF w1 (w1.alloc (.cells (intC [k0]).toArray 3)):=(Fr.refl _ _).alloc _;have F2:Fr (L.has p) (L2.has p) w w2:=(hf1.trans (fA.wide (fun _ q=>q.elim))).tr hf2 (fun q hq=>by
  rcases hq with hq | hq | hq
  ·exact hf1.fp q hq
  ·cases hq;exact .inr hf1.size
  ·cases hq)
 obtain ⟨s2,hs2⟩:∃ s2,(s.const n).put 4 ov [k0] []=s2:=⟨_,rfl⟩;have hz2:s2.sz<=s.sz+9:=by rw [←hs2,sz_put,hx1];omega
 rw [hs2] at hm2;have d0:=F2.cell c0 nb0;have d2:=F2.cell c2 nb0;have d4:=F2.cell (a:=⟨b0,4,none⟩) c4 nb0;have d3:=F2.cell (a:=⟨b0,2,none⟩) c3 nb0;refine hJ.out _ _ ⟨d0,d2⟩ fun _=>?_
 clear hJ J;refine wpAnyH_done (by kernel_rfl) ?_ _;have HF2:=Lib.hid F2;have HM2:=Lib.hid hm2;have HS2:=Lib.hid hs2;obtain ⟨W,hW,hst,hfw⟩:=plu_start (s:=s2) hm2 w.heap.size F2.size;have c4a:=fun o1 o2 o3 o4=>cell_al (cell_al (cell_al (cell_al d4 o1) o2) o3) o4
 have hq12:L2.q=L.q/\L2.B=L.B:=⟨hq2.trans hq1,hB2.trans hB1⟩;have HQ:=Lib.hid hq12;clear hm1 hm1a hl1 hF1 HP hf1 hf2 fA F2 hm2 hs2 hq1 hq2 hB1 hB2 hq12 hx1 z1 z2 z3;go_wp2_with fail
 rw [show w2.heap.size+1+1+1=w2.heap.size+3 from rfl,show w2.heap.size+1+1=w2.heap.size+2 from rfl,←hW];obtain ⟨ab,hab⟩:∃ ab,w2.heap.size+3=ab:=⟨_,rfl⟩;obtain ⟨am,ham⟩:∃ am,w2.heap.size+2=am:=⟨_,rfl⟩;obtain ⟨hb,hhb⟩:∃ hb,w2.heap.size+1=hb:=⟨_,rfl⟩;obtain ⟨hm,hhm⟩:∃ hm,w2.heap.size=hm:=⟨_,rfl⟩;rw [hab,hhb];rw [hab,ham,hhb,hhm] at hst;obtain ⟨R,hR⟩:∃ R,MkS.askS bs s2 []=R:=⟨_,rfl⟩;have HR:=Lib.hid hR;clear hab ham hhb hhm hR hW;go_loopw [36] (fun iv wr=>∃ i us xs r s1 L3 al pre,iv = .int .i64 (i:Nat)/\i<=M/\NodesV lo hi w0 xs r/\r.isLegs=true/\us.length=i*3/\ws=us++xs/\i+r.len=M/\bs.keys=pre++r.keys /\
  MkAt p L3 s1 wr/\(L3.q=L.q/\L3.B=L.B)/\Fr (L.has p) (L3.has p) w wr/\PluL w.heap.size p ab am hb hm pre al s1 L3 wr/\MkS.askS r s1 al.ix=R/\pre.length=i/\al.length<=i/\s1.sz+8*r.keys.length<=899990) (fun iv _=>M - (intOf iv).toNat)
 case atStart =>
  exact ⟨0,[],ws,bs,s2,L2,[],[],rfl,Nat.zero_le _,HBS.out,HL.out,rfl,rfl,by have:=HM.out;omega,rfl,HM2.out.fr hfw (fun _ q=>q.elim),HQ.out,HF2.out.trans (hfw.wide (fun _ q=>q.elim)),hst,HR.out,rfl,Nat.le_refl _,by have:=HS.out;have:=Fo.gw_keys bs;omega⟩
 case round =>
  clear hst hfw c4a d0 d2 d3 d4;obtain ⟨i,us,xs,r,s1,L3,al,pre,rfl,hiM,hnr,hlr,hus,hws,hln,hkeys,hm3,⟨hq3,hB3⟩,hf3,hpl,hgo,hpre,hal,hs1⟩:=hrel;have he3:MEnv lo hi w0 L3.B wr:=by rw [hB3];exact HE.out.fr hf3 HH.out.lo
  have HM3:=Lib.hid hm3;have HE3:=Lib.hid he3;have HF3:=Lib.hid hf3;have HPL:=Lib.hid hpl;have HGO:=Lib.hid hgo;have HLR:=Lib.hid hlr;have HUS:=Lib.hid hus;have HWS:=Lib.hid hws;have HLN:=Lib.hid hln;have HKEY:=Lib.hid hkeys;have HS1:=Lib.hid hs1;have HPR:=Lib.hid hpre;by_cases hlt:i<M
  ·cases r with
   | nil=>exfalso;simp [Fo.len] at hln;omega
   | text t r=>cases hlr
   | hash r=>cases hlr
   | put n a r=>cases hlr
   | num n a r=>cases hlr
   | br n a fo of cl bs r=>cases hlr
   | leg k1 a0 m0 r0 =>
    obtain ⟨vt2,ma,mc,ms,rfl,hmrow,hmn,hnr3⟩:=hnr;obtain ⟨g2,o2,rfl,e0,e1,e2⟩:=leg_cells he3.keep HRW.out hus hws;have HNR:=Lib.hid hnr3;have k3:(i:Int)<(M:Int):=by omega
    have k4:decide ((i:Int)<(M:Int))=true:=by simp;omega
    have hfA:Fr noF noF wr (wr.alloc (.cells #[strv k1,.int .i64 (a0:Nat),.slice ma m0.len mc] 183)):=(Fr.refl _ _).alloc _;have hpA:=hpl.al' hfA (fun _ q=>q.elim);have hln2:=HLN.out;simp only [Fo.len] at hln2;have hs12:=HS1.out;simp only [Fo.keys,List.length_cons] at hs12;have hkb:k1∈bs.keys:=by rw [HKEY.out];simp [Fo.keys]
    have hnin:k1 ∉ pre:=fun q=>by
     have h1:=HND2.out;rw [HKEY.out] at h1;exact (List.nodup_append.1 h1).2.2 k1 q k1 (by simp [Fo.keys]) rfl
    have HNIN:=Lib.hid hnin;obtain ⟨hk17,hkeq⟩:=HKS.out k1 hkb;have hlk:=hpA.mh.look1 mapt_i k1 (by omega);rw [show seenF pre k1=none from if_neg hnin] at hlk;obtain ⟨wp,hput,hmp,hgp⟩:=hpA.mh.put mapt_i k1 (by omega) 1 1 rfl (by omega) (by omega);have HK3:=Lib.hid (hpA.key hmp hgp);have hfp:Fr (fun g=>g=hm) (fun g=>g=hm) (wr.alloc (.cells #[strv k1,.int .i64 (a0:Nat),.slice ma m0.len mc] 183)) wp:=⟨hgp.os,hgp.tape,hgp.output,hgp.size,fun k hk hn=>hgp.block k hk (fun e=>hn (Option.some.inj e)),fun _ q => .inl q⟩;have hcA:=hpA.ch;have HFP:=Lib.hid hfp;have kec:wp.cell? ⟨wr.heap.size,0,none⟩=some (strv k1):=hfp.cell (cell_made _ _ _ _ _) (fun e=>by have:=hpl.lt.2.2.2;simp only at e;omega);have HMP:=Lib.hid ((hm3.fr hfA (fun _ q=>q.elim)).fr hfp (by rintro g rfl;exact hpl.out.2.2.2));have HFW:=Lib.hid ((hf3.trans (hfA.wide (fun _ q=>q.elim))).over hfp (by rintro g rfl;exact .inr hpl.lo.2.2.2));have hcp0:=Tryz.strings_CutPrefix ⟨k1.toArray⟩ ⟨#[61]⟩ wp;rw [show (ByteArray.mk k1.toArray).data.toList=k1 by simp,show (ByteArray.mk #[61]).data.toList=[61] from rfl] at hcp0;clear hm3 he3 hf3 hgo hlr hus hws hmrow hmn hnr3 hln hkeys hs1 hpre hfA hpA hpl hnin hmp hgp hfp;by_cases hx:k1.head? = some 61
    ·rw [(trim_eq k1 hx).1,(trim_eq k1 hx).2] at hcp0;have HCP:=Lib.hid hcp0;obtain ⟨q1,q2,q3⟩:=hkeq hfo hx;have HAT:=Lib.hid (ato_any k1.tail wp q2 q3 q1);have HX:=Lib.hid hx;obtain ⟨kv,hkv⟩:∃ kv,offV k1.tail=kv:=⟨_,rfl⟩;obtain ⟨kt,hkt⟩:∃ kt,k1.tail=kt:=⟨_,rfl⟩;have hkv9:kv<=4000000000:=by rw [←hkv];exact off_small _ q2 q3
     rw [hkv,hkt] at HAT;rw [hkt] at HCP;have HKV:=Lib.hid hkv;clear hcp0 hx hkeq q1 q2 q3 hkv hkt;go_wp2_with fail
     refine HCP.out.mono ?_;rintro e w4 ⟨rfl,rfl⟩;go_wp2_with fail
     refine HAT.out.mono ?_;rintro e w5 ⟨rfl,hb5⟩;have f5:Fr noF noF w4 w5:=Fr.of hb5;clear HCP HAT hput hlk hcA;have ca5:=f5.cell HK3.out.ca id;have ke5:=f5.cell kec id;go_wp2_with fail
     refine rt (fun W':World=>W'.cell? ⟨ab,0,none⟩=some (.map (some am))/\W'.cell? ⟨wr.heap.size,0,none⟩=some (strv k1)) [0,1,2,3,4] 4 ⟨ca5,ke5⟩ ?_;(iterate 5 (refine ty ?_;try simp only [pl]))
     refine takes_nil ?_;refine wpAnyH_only 5 (by kernel_rfl) rfl (fun J hJ=>?_);obtain ⟨w6,hmk,hk6,hf6⟩:=make_ints 1 w5.drew (by omega);rw [show ((1:Nat):Int)=1 from rfl] at hmk;have hf6:=hf6.und;have ca6:=hf6.cell ca5 id;have ke6:=hf6.cell ke5 id;go_simp
     refine hJ.out _ _ ⟨ca6,ke6⟩ fun _=>?_
     clear hJ J;refine wpAnyH_more [6] 2 rfl (by intro _ _ d _ _ h;cases d<;>exact h) (by kernel_rfl) (by kernel_rfl) ⟨ca6,ke6⟩ ?_;refine ty ?_;try simp only [pl]
     refine takes_nil ?_;refine wpAnyH_only 7 (by kernel_rfl) rfl (fun J hJ=>?_);go_simp
     have f46:Fr noF noF w4 w6:=f5.trans hf6;have hm6:=HMP.out.fr f46 (fun _ q=>q.elim);have hp6:=HK3.out.al' f46 (fun _ q=>q.elim);have hss:=hs12;unfold MkS.sz at hss;have h8:(insX ⟨7,s1.pos,kv,[],List.replicate 1 0⟩).length=7:=by simp [insX,frmL,insB,twoL,fourL]
     have he6:MEnv lo hi w0 L3.B w6:=by rw [hB3];exact (HE.out.fr HFW.out HH.out.lo).fr f46 (fun _ q=>q.elim)
     have HP:=Lib.hid (put_any p L3 s1 7 kv [] (List.replicate 1 0) (.slice none 0 0) (.slice (some ⟨w5.heap.size,0,none⟩) 1 1) w6 hm6 (NRow.nil _) hk6 (fun g hg=>by cases hg) (fun g hg q=>by cases hg;have h1:=HMP.out.lt q;have h2:=f5.size;exact absurd h1 (by show ¬w5.heap.size<w4.heap.size;omega)) (fun g hg q=>by cases q)
      (fun g hg=>by rcases hg with hg | hg<;>cases hg;have h1:=HMP.out.base;have h2:=f5.size;show L3.B<=w5.heap.size;omega)
      ⟨(by decide:7<12),by show kv<=_;omega,by simp,by simp,by simp,rfl⟩ he6.fo he6.g1 (by omega) (by omega) (by omega))
     refine HP.out.mono ?_;rintro e w7 ⟨b,c,rfl,hlp7,hb7,hc7,L4,hm7,⟨hq7,hB7⟩,hf7,nb7,nc7⟩;have f47:Fr (L3.has p) (L4.has p) w4 w7:=(f46.wide (fun _ q=>q.elim)).tr hf7 (fun q hq=>by
      rcases hq with hq | hq | hq
      ·exact .inl hq
      ·cases hq
      ·cases hq;exact .inr f5.size)
     have nk1:¬L3.has p wr.heap.size:=fun q=>by have:=HM3.out.lt q;omega
     have ca7:=f47.cell HK3.out.ca HK3.out.out.1;have ke7:=f47.cell kec nk1;have hp7:=HK3.out.fr f47 (MkS.le_put s1 7 kv [] (List.replicate 1 0));obtain ⟨w8,hput8,hma8,hgr8⟩:=hp7.ma.put k1 (by omega) (b,c) (by omega);have HP8:=Lib.hid (hp7.ask (k:=k1) (by simp) (fun e he q=>HNIN.out (by rw [←q];exact HPL.out.ks e he)) hma8 hgr8 hlp7 nb7 nc7 (i:=s1.code.length) (y:=⟨7,s1.pos,kv,[],List.replicate 1 0⟩) (by simp [MkS.put]) (by simp));have hf8:Fr (fun g=>g=am) (fun g=>g=am) w7 w8:=⟨hgr8.os,hgr8.tape,hgr8.output,hgr8.size,fun k hk hn=>hgr8.block k hk (fun e=>hn (Option.some.inj e)),fun _ q => .inl q⟩;have HM8:=Lib.hid (hm7.fr hf8 (by rintro g rfl;exact hp7.out.2.1));have HF8:=Lib.hid ((HFW.out.trans f47).over hf8 (by rintro g rfl;exact .inr hp7.lo.2.1));have ca8:=hf8.cell ca7 hp7.ne.1;have ke8:=hf8.cell ke7 (fun e=>by have:=HPL.out.lt.2.1;have e2:wr.heap.size=am:=e;omega);have hz8:=sz_put s1 7 kv [] (List.replicate 1 0);refine hJ.out _ _ ⟨ca7,ke7⟩ fun _=>?_
     clear hJ J;refine wpAnyH_only 8 (by kernel_rfl) rfl (fun J hJ=>?_);go_simp
     refine hJ.out _ _ ⟨ca8,ke8⟩ fun _=>?_
     clear hJ J;refine wpAnyH_done (by kernel_rfl) ?_ _;have hq9:=hq7;clear hput8 hp7 hma8 hgr8 hm7 hf7 f47 f46 hm6 hp6 he6 HP hmk;go_wp2
     go_roundw
     case rel =>
      refine ⟨i+1,us++[strv k1,.int .i64 (a0:Nat),.slice ma m0.len mc],vt2,r0,s1.put 7 kv [] (List.replicate 1 0),L4,al++[(k1,s1.code.length,b,c)],pre++[k1],by go_num,by omega,HNR.out,HLR.out,by simp [HUS.out];omega,by rw [HWS.out];simp,by omega,by rw [HKEY.out];simp [Fo.keys],HM8.out,⟨hq7.trans hq3,hB7.trans hB3⟩,HF8.out,HP8.out,?_,by simp [HPR.out],by simp;omega,by omega⟩;have:=HGO.out;rw [MkS.askS,if_pos HX.out,HKV.out] at this;simpa [AskL.ix] using this
     case measure=>simp only [intOf];omega
    ·rw [(trim_ne k1 hx).1,(trim_ne k1 hx).2] at hcp0;have HCP:=Lib.hid hcp0;have HX:=Lib.hid hx;clear hcp0 hx hkeq;go_wp2_with fail
     refine HCP.out.mono ?_;rintro e w4 ⟨rfl,rfl⟩;clear HCP hput hlk hcA;go_wp2
     go_roundw
     case rel =>
      refine ⟨i+1,us++[strv k1,.int .i64 (a0:Nat),.slice ma m0.len mc],vt2,r0,s1,L3,al,pre++[k1],by go_num,by omega,HNR.out,HLR.out,by simp [HUS.out];omega,by rw [HWS.out];simp,by omega,by rw [HKEY.out];simp [Fo.keys],HMP.out,⟨hq3,hB3⟩,HFW.out,HK3.out,?_,by simp [HPR.out],by omega,by omega⟩;have:=HGO.out;rw [MkS.askS,if_neg HX.out] at this;exact this
     case measure=>simp only [intOf];omega
  ·have hr0:r.keys=[]/\MkS.askS r s1 al.ix=(s1,al.ix):=by
    cases r with
    | nil=>exact ⟨rfl,rfl⟩
    | text t r=>cases hlr
    | hash r=>cases hlr
    | put n a r=>cases hlr
    | num n a r=>cases hlr
    | br n a fo of cl bs r=>cases hlr
    | leg k0 a0 m0 r0=>exfalso;simp only [Fo.len] at hln;omega
   have hP1:MkS.plu1 n of bs s=(s1,al.ix):=by
    unfold MkS.plu1;rw [HK0.out,HOV.out,HS2.out,HR.out];exact hgo.symm.trans hr0.2
   have HP1:=Lib.hid hP1;have HK1:=Lib.hid (show bs.keys=pre by rw [hkeys,hr0.1];simp);have k3:¬(i:Int)<(M:Int):=by omega
   have k4:decide ((i:Int)<(M:Int))=false:=by simp;omega
   obtain ⟨wm,hmk,hkm,hfm⟩:=make_ints 6 wr (by omega);rw [show ((6:Nat):Int)=6 from rfl] at hmk;have hmm3:=hm3.fr hfm (fun _ q=>q.elim);have hem:=he3.fr hfm (fun _ q=>q.elim);have hpm:=hpl.al' hfm (fun _ q=>q.elim);have f3m:Fr (L.has p) (L3.has p) w wm:=hf3.trans (hfm.wide (fun _ q=>q.elim));have c3m:=hf3.cell (a:=⟨b0,2,none⟩) c3 nb0;have HMM:=Lib.hid hmm3;have HEM:=Lib.hid hem;have HPM:=Lib.hid hpm;have H3M:=Lib.hid f3m;have HKM:=Lib.hid hkm;have HFM:=Lib.hid hfm;have hss:=hs1;unfold MkS.sz at hss;have hs9:s1.sz<=899990:=by omega
   obtain ⟨op,hop⟩:∃ op,(if fo=2 then 9 else 8)=op:=⟨_,rfl⟩;have HSS:=Lib.hid (show s1.put op 0 [] (List.replicate 6 0)=MkS.pluS n of fo bs s by unfold MkS.pluS;rw [hP1,hop]);have lwr:=hm3.base.2;clear hm3 he3 hf3 hpl hgo hlr hus hws hln hkeys hs1 hnr hr0 hpre hP1 hmm3 hem hpm f3m hkm;have hopc:(((fo:Int)==2)=true/\9=op)\/(((fo:Int)==2)=false/\8=op):=by
    by_cases q:fo=2
    ·left;rw [if_pos q] at hop;exact ⟨by simp [q],hop⟩
    ·right;rw [if_neg q] at hop;exact ⟨by simp;omega,hop⟩
   clear hop;have ho1:op<12:=by omega
   have ho2:okB (frmL op) 0 6=true:=by rcases hopc with ⟨-,rfl⟩ | ⟨-,rfl⟩<;>rfl
   have ho3:(insX ⟨op,s1.pos,0,[],List.replicate 6 0⟩).length<=1000000:=by rcases hopc with ⟨-,rfl⟩ | ⟨-,rfl⟩<;>simp [insX,frmL,insB,twoL]
   have HP:=Lib.hid (put_any p L3 s1 op 0 [] (List.replicate 6 0) (.slice none 0 0) (.slice (some ⟨wr.heap.size,0,none⟩) 6 6) wm HMM.out (NRow.nil _) HKM.out (fun g hg=>by cases hg) (fun g hg q=>by cases hg;exact Nat.lt_irrefl _ (HM3.out.lt q)) (fun g hg q=>by cases q)
    (fun g hg=>by rcases hg with hg | hg<;>cases hg;have h1:=HM3.out.base;show L3.B<=wr.heap.size;omega)
    ⟨ho1,by simp,by simp,by simp,by simp,ho2⟩ HEM.out.fo HEM.out.g1 (by omega) (by omega) ho3)
   have HI6:=Lib.hid (show ∃ x,(s1.put op 0 [] (List.replicate 6 0)).code[s1.code.length]? = some x/\x.tg.length=6 from ⟨_,by simp [MkS.put];rfl,by simp⟩);have HLE:=Lib.hid (MkS.le_put s1 op 0 [] (List.replicate 6 0));clear ho1 ho2 ho3;rcases hopc with ⟨kf,rfl⟩ | ⟨kf,rfl⟩;all_goals
    go_wp2_with fail
    refine HP.out.mono ?_;rintro e w5 ⟨b,c,rfl,hlp5,-,-,L4,hm5,⟨hq5,hB5⟩,hf5,nb5,nc5⟩;have f35:Fr (L3.has p) (L4.has p) wr w5:=(HFM.out.wide (fun _ q=>q.elim)).tr hf5 (fun q hq=>by
     rcases hq with hq | hq | hq
     ·exact .inl hq
     ·cases hq
     ·cases hq;exact .inr (Nat.le_refl _))
    have fw5:Fr (L.has p) (L4.has p) w w5:=HF3.out.trans f35;have he5:MEnv lo hi w0 L4.B w5:=by rw [hB5,hB3];exact HE.out.fr fw5 HH.out.lo
    have hp5:=HPL.out.fr f35 HLE.out;obtain ⟨x,hx,hx6⟩:=HI6.out;have hkk:∀ k∈pre,k.length<=17:=fun k hk=>(HKS.out k (by rw [HK1.out];exact hk)).1
    obtain ⟨wT,hwT⟩:∃ wT,w5.alloc (.cells #[leapV b c] 189)=wT:=⟨_,rfl⟩;obtain ⟨hbeg,hI⟩:=plu_beg hp5 hlp5 nb5 nc5 he5.na he5.g2 hm5 hx hx6 hkk hwT;have hfT:Fr noF noF w5 wT:=by rw [←hwT];exact (Fr.refl _ _).alloc _
    have hbg:MkS.pluB n of bs s=plG pre al.ix s1.code.length:=by
     funext k x;unfold MkS.pluB plG;rw [HP1.out,HK1.out];rfl
    rw [←hbg,HSS.out,←HK1.out] at hbeg;have hmT:=hm5.fr hfT (fun _ q=>q.elim);rw [HSS.out] at hmT;have hzp:=(MkS.pluS_le n of fo bs s).2;have hgk:=Fo.gw_keys bs;have hsb:=HS.out;have HBOD:=Lib.hid (bodies_any b0 n a fo of cl bs p L4 (MkS.pluS n of fo bs s) (MkS.pluB n of bs s) _ _ wT HIH.out hmT (he5.fr hfT (fun _ q=>q.elim)) HND.out HL.out HBC.out HBW.out (by rw [HM.out];exact hbn) (by omega) hbeg hI);have HWT:=Lib.hid (fw5.trans (hfT.wide (fun _ q=>q.elim)));have hz9:(bodS bs (MkS.pluB n of bs s) (MkS.pluS n of fo bs s)).sz<=900000:=by
     obtain ⟨-,q⟩:=MkS.go_le bs (MkS.pluB n of bs s) (MkS.pluS n of fo bs s) [] (fun k x=>MkS.pluB_le n of bs s k x);unfold bodS;rw [MkS.sz_foldl _ (fun s i=>sz_leap s i 0)];omega
    obtain ⟨s9,hs9⟩:∃ s9,bodS bs (MkS.pluB n of bs s) (MkS.pluS n of fo bs s)=s9:=⟨_,rfl⟩;rw [hs9] at HBOD hz9;have HS9:=Lib.hid hs9;unfold MkS.sz at hz9;clear hs9 hbeg hI hmT hx hp5 he5 fw5 f35 hf5 hm5 hlp5 hbg hkk hfT;go_wp2_with fail
    refine HBOD.out.mono ?_;rintro e w9 ⟨rfl,L9,hm9,⟨hq9,hB9⟩,hf9⟩;have hw9:=HWT.out.trans hf9;have he9:MEnv lo hi w0 L9.B w9:=by rw [hB9,hB5,hB3];exact HE.out.fr hw9 HH.out.lo
    have HPP:=Lib.hid (put_any p L9 s9 5 0 [] [] (.slice none 0 0) (.slice none 0 0) w9 hm9 (NRow.nil _) (NRow.nil _) (fun g hg=>by cases hg) (fun g hg=>by cases hg) (fun g hg=>by cases hg) (fun g hg=>by rcases hg with hg | hg<;>cases hg)
     ⟨(by decide:5<12),by simp,by simp,by simp,by simp,rfl⟩ he9.fo he9.g1 (by omega) (by omega) (by simp [insX,frmL,insB]))
    have HW9:=Lib.hid hw9;clear hm9 hf9 hw9 he9 HBOD hwT;go_wp2_with fail
    refine HPP.out.mono ?_;rintro e wX ⟨b9,c9,rfl,-,-,-,LX,hmX,⟨hqX,hBX⟩,hfX,-,-⟩;have HMX:=Lib.hid hmX;have HFX:=Lib.hid hfX;clear hmX hfX HPP;go_wp2
    refine bodyPost_ret (v := .tuple #[]) ?_ rfl ?_
    ·simp [results,Tryz.results122,go_sem]
    rw [HS9.out];refine ⟨rfl,LX,HMX.out,⟨by rw [hqX,hq9,hq5,hq3],by rw [hBX,hB9,hB5,hB3]⟩,HW9.out.tr HFX.out (fun q hq=>?_)⟩;rcases hq with hq | hq | hq
    ·exact HW9.out.fp q hq
    ·cases hq
    ·cases hq
section
variable (b:Nat) (t:Wd) (w:World)
theorem at_text:(Instr.typeAssert (.iface 262 (strv t)) 112 262 true).run Tryz.prog w = .ok (.tuple #[strv t,.bool true]) w:=by rfl
theorem at_hash_t:(Instr.typeAssert (.iface 264 (.agg #[])) 112 262 true).run Tryz.prog w = .ok (.tuple #[.string ⟨#[]⟩,.bool false]) w:=by rfl
theorem at_hash:(Instr.typeAssert (.iface 264 (.agg #[])) 112 264 true).run Tryz.prog w = .ok (.tuple #[.agg #[],.bool true]) w:=by rfl
theorem at_put_t:(Instr.typeAssert (.iface 172 (.pointer (some ⟨b,0,none⟩))) 112 262 true).run Tryz.prog w = .ok (.tuple #[.string ⟨#[]⟩,.bool false]) w:=by rfl
theorem at_put_h:(Instr.typeAssert (.iface 172 (.pointer (some ⟨b,0,none⟩))) 112 264 true).run Tryz.prog w = .ok (.tuple #[.agg #[],.bool false]) w:=by rfl
theorem at_num_t:(Instr.typeAssert (.iface 175 (.pointer (some ⟨b,0,none⟩))) 112 262 true).run Tryz.prog w = .ok (.tuple #[.string ⟨#[]⟩,.bool false]) w:=by rfl
theorem at_num_h:(Instr.typeAssert (.iface 175 (.pointer (some ⟨b,0,none⟩))) 112 264 true).run Tryz.prog w = .ok (.tuple #[.agg #[],.bool false]) w:=by rfl
theorem at_br_t:(Instr.typeAssert (.iface 177 (.pointer (some ⟨b,0,none⟩))) 112 262 true).run Tryz.prog w = .ok (.tuple #[.string ⟨#[]⟩,.bool false]) w:=by rfl
theorem at_br_h:(Instr.typeAssert (.iface 177 (.pointer (some ⟨b,0,none⟩))) 112 264 true).run Tryz.prog w = .ok (.tuple #[.agg #[],.bool false]) w:=by rfl
end
set_option maxHeartbeats 20000000 in
theorem mes_step {lo hi:Nat} {w0:World} (f:Fo) (ih:∀ m:Fo,SizeOf.sizeOf m<SizeOf.sizeOf f->MesC lo hi w0 m):MesC lo hi w0 f:=by
 intro p L s w a c vs h he hrow hnod hm hw hc hl hs;obtain ⟨M,hM⟩:∃ M,f.len=M:=⟨_,rfl⟩;rw [hM];have hvl:vs.length=M:=(NodesV.count f vs hnod hm).trans hM;obtain ⟨R,hR⟩:∃ R,MkS.mes f s=R:=⟨_,rfl⟩;rw [hR];have HH:=Lib.hid h;have HE:=Lib.hid he;have HROW:=Lib.hid hrow;have HNOD:=Lib.hid hnod;have HM:=Lib.hid hm;have HC:=Lib.hid hc;have HW:=Lib.hid hw;have HR:=Lib.hid hR;have HIH:=Lib.hid ih;have HVL:=Lib.hid hvl;have HL:=Lib.hid hM;have HS:=Lib.hid hs;have hL2:M<=2000000:=by omega
 clear h he hrow hnod hm hc hw hR ih hvl hM hs hl;go_enter Tryz.func80,Tryz.ntmps80
 go_wp2_with fail
 go_loopw [13] (fun iv wr=>∃ i us xs r s1 L1,iv = .int .i64 (i:Nat)/\i<=M/\NodesV lo hi w0 xs r/\r.isMsg=true/\r.cok/\r.wf 2000000=true/\us.length=i/\vs=us++xs/\i+r.len=M/\SizeOf.sizeOf r<=SizeOf.sizeOf f /\
  MkAt p L1 s1 wr/\(L1.q=L.q/\L1.B=L.B)/\Fr (L.has p) (L1.has p) w wr/\MkS.mes r s1=R/\s1.sz+r.cw<=900000) (fun iv _=>M - (intOf iv).toNat)
 case atStart=>exact ⟨0,[],vs,f,s,L,rfl,Nat.zero_le _,HNOD.out,HM.out,HC.out,HW.out,rfl,rfl,by have:=HL.out;omega,Nat.le_refl _,HH.out,⟨rfl,rfl⟩,Fr.refl _ _,HR.out,HS.out⟩
 case round =>
  obtain ⟨i,us,xs,r,s1,L1,rfl,hiL,hnr,hmr,hcr,hwr,hus,hvs,hln,hsz,hm1,⟨hq1,hB1⟩,hf1,hr1,hs1⟩:=hrel;have he1:MEnv lo hi w0 L1.B wr:=by rw [hB1];exact HE.out.fr hf1 HH.out.lo
  have HN:=Lib.hid hnr;have HMR:=Lib.hid hmr;have HCR:=Lib.hid hcr;have HWR:=Lib.hid hwr;have HVS:=Lib.hid hvs;have HUS:=Lib.hid hus;have HM1:=Lib.hid hm1;have HE1:=Lib.hid he1;have HF1:=Lib.hid hf1;have HR1:=Lib.hid hr1;have HS1:=Lib.hid hs1;have HLN:=Lib.hid hln;have HSZ:=Lib.hid hsz;clear hnr hmr hcr hwr hvs hus hm1 he1 hf1 hr1 hs1;by_cases hlt:i<M
  ·obtain ⟨x0,xt,hxs⟩:∃ x0 xt,xs=x0::xt:=by
    cases xs with
    | nil=>have h1:=HVL.out;rw [HVS.out] at h1;have:=HUS.out;simp at h1;omega
    | cons a b=>exact ⟨a,b,rfl⟩
   subst hxs;obtain ⟨g,o,rfl,hg1,hg2,hcell⟩:=HROW.out i (by have:=HVL.out;omega);have hx0:vs[i]'(by have:=HVL.out;omega)=x0:=by
    have h1:vs[i]? = some x0:=by rw [HVS.out,←HUS.out];simp
    rw [List.getElem?_eq_getElem (by have:=HVL.out;omega)] at h1;exact Option.some.inj h1
   rw [hx0] at hcell;have hc1:=keep_cell HE1.out.keep hcell hg1 hg2;have k1:(i:Int)<(M:Int):=by omega
   have k2:decide ((i:Int)<(M:Int))=true:=by simp;omega
   clear hcell hx0 hln hsz;have hrel2:∀ (x:Value) (xt:List Value) (r':Fo) (s2:MkS) (L2:Lay) (w2:World),x0=x->vs=us++x::xt->NodesV lo hi w0 xt r'->r'.isMsg=true->r'.cok->r'.wf 2000000=true->i+(r'.len+1)=M->SizeOf.sizeOf r'<=SizeOf.sizeOf f->MkAt p L2 s2 w2->(L2.q=L1.q/\L2.B=L1.B)->Fr (L1.has p) (L2.has p) wr w2->MkS.mes r' s2=R->s2.sz+r'.cw<=900000 ->
     ∃ i' us' xs' r s1 L1,(Value.int .i64 ((i:Int)+1)) = .int .i64 (i':Nat)/\i'<=M/\NodesV lo hi w0 xs' r/\r.isMsg=true/\r.cok/\r.wf 2000000=true/\us'.length=i'/\vs=us'++xs'/\i'+r.len=M/\SizeOf.sizeOf r<=SizeOf.sizeOf f /\
      MkAt p L1 s1 w2/\(L1.q=L.q/\L1.B=L.B)/\Fr (L.has p) (L1.has p) w w2/\MkS.mes r s1=R/\s1.sz+r.cw<=900000 :=
    fun x xt r' s2 L2 w2 e1 e2 e3 e4 e5 e6 e7 e8 e9 e10 e11 e12 e13=>⟨i+1,us++[x],xt,r',s2,L2,by simp,by omega,e3,e4,e5,e6,by simp [HUS.out],by rw [e2];simp,by omega,e8,e9,⟨e10.1.trans hq1,e10.2.trans hB1⟩,HF1.out.trans e11,e12,e13⟩
   have HREL:=Lib.hid hrel2;clear hrel2
   cases r with
   | nil =>
    have:=HN.out
    cases this
   | leg k0 a0 m0 r0=>have:=HMR.out;cases this
   | text t r =>
    obtain ⟨vt,hee,hnr⟩:=HN.out
    cases hee;have a1:=at_text t;have HNR:=Lib.hid hnr;have hcq:=HCR.out;have hss:=HS1.out;have hso:=s1.sz_one 1 t (.inl rfl);simp only [Fo.cw] at hss;have HONE:=Lib.hid (one_any p L1 s1 1 t wr HM1.out (.inl rfl) hcq.1 (by omega) HE1.out.fo HE1.out.g1);clear hnr hcq;go_wp2_with fail
    refine HONE.out.mono ?_;rintro e w2 ⟨rfl,L2,hm2,hq2,hf2⟩;have HM2:=Lib.hid hm2;have HF2:=Lib.hid hf2;clear hm2 hf2 HONE;go_wp2
    go_roundw
    case rel=>exact HREL.out _ _ r (s1.one 1 t) L2 w2 rfl HVS.out HNR.out HMR.out HCR.out.2 HWR.out HLN.out (by have:=HSZ.out;simp at this;omega) HM2.out hq2 HF2.out HR1.out (by omega)
    case measure=>simp only [intOf];omega
   | hash r =>
    obtain ⟨vt,hee,hnr⟩:=HN.out
    cases hee;have a1:=at_hash_t;have a2:=at_hash;have HNR:=Lib.hid hnr;have hss:=HS1.out;simp only [Fo.cw] at hss;have hss2:=hss;unfold MkS.sz at hss2;have hfA:Fr noF noF wr (wr.alloc (.cells #[] 264)):=(Fr.refl _ _).alloc _;have hx:(insX ⟨6,s1.pos,0,[],[]⟩).length=1:=by simp [insX,frmL,insB]
    have hzz:=sz_put s1 6 0 [] [];have heA:=HE1.out.fr hfA (fun _ q=>q.elim);have HPP:=Lib.hid (put_any p L1 s1 6 0 [] [] (.slice none 0 0) (.slice none 0 0) (wr.alloc (.cells #[] 264)) (HM1.out.fr hfA (fun _ q=>q.elim)) (NRow.nil _) (NRow.nil _) (fun g hg=>by cases hg) (fun g hg=>by cases hg) (fun g hg=>by cases hg) (fun g hg=>by rcases hg with hg | hg<;>cases hg)
     ⟨(by decide:6<12),by simp,by simp,by simp,by simp,rfl⟩ heA.fo heA.g1 (by omega) (by omega) (by rw [hx];omega))
    have HFA:=Lib.hid hfA;clear hnr hfA heA;go_wp2_with fail
    refine HPP.out.mono ?_;rintro e w2 ⟨b9,c9,rfl,-,-,-,L2,hm2,hq2,hf2,-,-⟩;have HM2:=Lib.hid hm2;have HF2:=Lib.hid (show Fr (L1.has p) (L2.has p) wr w2 from (HFA.out.wide (fun _ q=>q.elim)).tr hf2 (fun q hq=>by
     rcases hq with hq | hq | hq
     ·exact .inl hq
     ·cases hq
     ·cases hq))
    clear hm2 hf2 HPP;go_wp2
    go_roundw
    case rel=>exact HREL.out _ _ r (s1.put 6 0 [] []) L2 w2 rfl HVS.out HNR.out HMR.out HCR.out HWR.out HLN.out (by have:=HSZ.out;simp at this;omega) HM2.out hq2 HF2.out HR1.out (by omega)
    case measure=>simp only [intOf];omega
   | put n a r =>
    obtain ⟨vt,b0,hee,hb1,hb2,hc0,-,hnr⟩:=HN.out
    cases hee;have hh0:=keep_cell HE1.out.keep hc0 hb1 hb2;have a1:=at_put_t b0;have a2:=at_put_h b0;have a3:=as_put_put b0;have HNR:=Lib.hid hnr;have hcq:=HCR.out;have hss:=HS1.out;have hso:=s1.sz_one 2 n (by omega);simp only [Fo.cw] at hss;have hwq:(decide (n.length<=4000001) && r.wf 2000000)=true:=HWR.out;simp only [Bool.and_eq_true,decide_eq_true_eq] at hwq;have HWQ:=Lib.hid hwq.2;have HONE:=Lib.hid (one_any p L1 s1 2 n wr HM1.out (by omega) (by have:=hcq.1;omega) (by omega) HE1.out.fo HE1.out.g1);clear hnr hcq hc0 hwq;go_wp2_with fail
    refine HONE.out.mono ?_;rintro e w2 ⟨rfl,L2,hm2,hq2,hf2⟩;have HM2:=Lib.hid hm2;have HF2:=Lib.hid hf2;clear hm2 hf2 HONE;go_wp2
    go_roundw
    case rel=>exact HREL.out _ _ r (s1.one 2 n) L2 w2 rfl HVS.out HNR.out HMR.out HCR.out.2 HWQ.out HLN.out (by have:=HSZ.out;simp at this;omega) HM2.out hq2 HF2.out HR1.out (by omega)
    case measure=>simp only [intOf];omega
   | num n a r =>
    obtain ⟨vt,b0,hee,hb1,hb2,hc0,-,hnr⟩:=HN.out
    cases hee;have hh0:=keep_cell HE1.out.keep hc0 hb1 hb2;have a1:=at_num_t b0;have a2:=at_num_h b0;have a3:=as_num_put b0;have a4:=as_num_num b0;have HNR:=Lib.hid hnr;have hcq:=HCR.out;have hss:=HS1.out;have hso:=s1.sz_one 3 n (by omega);simp only [Fo.cw] at hss;have hwq:(decide (n.length<=4000001) && r.wf 2000000)=true:=HWR.out;simp only [Bool.and_eq_true,decide_eq_true_eq] at hwq;have HWQ:=Lib.hid hwq.2;have HONE:=Lib.hid (one_any p L1 s1 3 n wr HM1.out (by omega) (by have:=hcq.1;omega) (by omega) HE1.out.fo HE1.out.g1);clear hnr hcq hc0 hwq;go_wp2_with fail
    refine HONE.out.mono ?_;rintro e w2 ⟨rfl,L2,hm2,hq2,hf2⟩;have HM2:=Lib.hid hm2;have HF2:=Lib.hid hf2;clear hm2 hf2 HONE;go_wp2
    go_roundw
    case rel=>exact HREL.out _ _ r (s1.one 3 n) L2 w2 rfl HVS.out HNR.out HMR.out HCR.out.2 HWQ.out HLN.out (by have:=HSZ.out;simp at this;omega) HM2.out hq2 HF2.out HR1.out (by omega)
    case measure=>simp only [intOf];omega
   | br n a fo of cl bs r =>
    obtain ⟨vt,b0,ba,bc,ws,hee,hb1,hb2,hd0,hd1,hd2,hd3,hd4,hd5,hrw,hbs,hnr⟩:=HN.out
    cases hee;have hh2:=keep_cell HE1.out.keep hd2 hb1 hb2;have a1:=at_br_t b0;have a2:=at_br_h b0;have a3:=as_br_put b0;have a4:=as_br_num b0;have a5:=as_br_br b0;have HNR:=Lib.hid hnr;have hnd:NodesV lo hi w0 [.iface 177 (.pointer (some ⟨b0,0,none⟩))] (.br n a fo of cl bs .nil):=⟨[],b0,ba,bc,ws,rfl,hb1,hb2,hd0,hd1,hd2,hd3,hd4,hd5,hrw,hbs,rfl⟩;obtain ⟨k1',k2',k3',k4',k5',k6',k7',k8'⟩:=HCR.out;have hck:(Fo.br n a fo of cl bs .nil).cok:=⟨k1',k2',k3',k4',k5',k6',k7',trivial⟩;have hwq:(decide (n.length<=4000001) && decide (fo<3) && bs.isLegs && decide (bs.len<=2000000) && bs.wf 2000000 && r.wf 2000000)=true:=HWR.out;have hwk:(Fo.br n a fo of cl bs .nil).wf 2000000=true:=by
     simp only [Bool.and_eq_true] at hwq;simp only [Fo.wf,Bool.and_eq_true];exact ⟨hwq.1,trivial⟩
    simp only [Bool.and_eq_true,decide_eq_true_eq] at hwq;have HWQ:=Lib.hid hwq.2;have hss:=HS1.out;simp only [Fo.cw] at hss;have hih:∀ m:Fo,SizeOf.sizeOf m<SizeOf.sizeOf bs->MesC lo hi w0 m:=fun m hm=>HIH.out m (by have:=HSZ.out;simp at this;omega)
    by_cases hfo:fo=0
    ·have kf:((fo:Int)==0)=true:=by simp [hfo]
     have HGO:=Lib.hid (show MkS.mes r (bodS bs (MkS.selB n bs s1) (MkS.selS n bs s1))=R by
      have:=HR1.out;unfold MkS.mes at this ⊢;rw [MkS.goS,if_pos hfo] at this;exact this)
     have hzb:(bodS bs (MkS.selB n bs s1) (MkS.selS n bs s1)).sz+r.cw<=900000:=by
      obtain ⟨-,q⟩:=MkS.go_le bs (MkS.selB n bs s1) (MkS.selS n bs s1) [] (fun k x=>MkS.selB_le n bs s1 k x);have:=(MkS.selS_le n bs s1).2;unfold bodS;rw [MkS.sz_foldl _ (fun s i=>sz_leap s i 0)];omega
     subst hfo;have HBR:=Lib.hid (selected_any b0 n a of cl bs p L1 s1 wr hih HM1.out HE1.out hnd hck hwk (by omega));clear hnr hnd hck hwk hih hd0 hd1 hd2 hd3 hd4 hd5 hrw hbs k1' k2' k3' k4' k5' k6' k7' k8' hwq;go_wp2_with fail
     refine HBR.out.mono ?_;rintro e w2 ⟨rfl,L2,hm2,hq2,hf2⟩;have HM2:=Lib.hid hm2;have HF2:=Lib.hid hf2;clear hm2 hf2 HBR;go_wp2
     go_roundw
     case rel=>exact HREL.out _ _ r _ L2 w2 rfl HVS.out HNR.out HMR.out HCR.out.2.2.2.2.2.2.2 HWQ.out HLN.out (by have:=HSZ.out;simp at this;omega) HM2.out hq2 HF2.out HGO.out (by omega)
     case measure=>simp only [intOf];omega
    ·have kf:((fo:Int)==0)=false:=by simp;omega
     have HGO:=Lib.hid (show MkS.mes r ((bodS bs (MkS.pluB n of bs s1) (MkS.pluS n of fo bs s1)).put 5 0 [] [])=R by
      have:=HR1.out;unfold MkS.mes at this ⊢;rw [MkS.goS,if_neg hfo] at this;exact this)
     have hzb:((bodS bs (MkS.pluB n of bs s1) (MkS.pluS n of fo bs s1)).put 5 0 [] []).sz+r.cw<=900000:=by
      obtain ⟨-,q⟩:=MkS.go_le bs (MkS.pluB n of bs s1) (MkS.pluS n of fo bs s1) [] (fun k x=>MkS.pluB_le n of bs s1 k x);have:=(MkS.pluS_le n of fo bs s1).2;have hx:∀ p,(insX ⟨5,p,0,[],[]⟩).length=1:=fun p=>by simp [insX,frmL,insB]
      rw [sz_put,hx];unfold bodS;rw [MkS.sz_foldl _ (fun s i=>sz_leap s i 0)];omega
     have HBR:=Lib.hid (plural_any b0 n a fo of cl bs p L1 s1 wr hih HM1.out HE1.out hfo hnd hck hwk (by omega));clear hnr hnd hck hwk hih hd0 hd1 hd2 hd3 hd4 hd5 hrw hbs k1' k2' k3' k4' k5' k6' k7' k8' hwq;go_wp2_with fail
     refine HBR.out.mono ?_;rintro e w2 ⟨rfl,L2,hm2,hq2,hf2⟩;have HM2:=Lib.hid hm2;have HF2:=Lib.hid hf2;clear hm2 hf2 HBR;go_wp2
     go_roundw
     case rel=>exact HREL.out _ _ r _ L2 w2 rfl HVS.out HNR.out HMR.out HCR.out.2.2.2.2.2.2.2 HWQ.out HLN.out (by have:=HSZ.out;simp at this;omega) HM2.out hq2 HF2.out HGO.out (by omega)
     case measure=>simp only [intOf];omega
  ·have hr0:r = .nil:=by
    have:=HLN.out;have:=HMR.out
    cases r with
    | nil=>rfl
    | leg k a m r=>cases this
    | _=>simp only [Fo.len] at *;omega
   have HX:=Lib.hid (show s1=R by rw [←HR1.out,hr0];rfl);have k1:¬(i:Int)<(M:Int):=by omega
   have k2:decide ((i:Int)<(M:Int))=false:=by simp;omega
   clear hr0;go_wp2
   refine bodyPost_ret (v := .tuple #[]) ?_ rfl ?_
   ·simp [results,Tryz.results80,go_sem]
   rw [←HX.out];exact ⟨rfl,L1,HM1.out,⟨hq1,hB1⟩,HF1.out⟩
theorem mes_any {lo hi:Nat} {w0:World}:∀ f:Fo,MesC lo hi w0 f:=by
 have key:∀ n (f:Fo),SizeOf.sizeOf f<n->MesC lo hi w0 f:=by
  intro n;induction n with
  | zero=>intro f h;omega
  | succ n ih=>intro f h;exact mes_step f (fun m hm=>ih m (by omega))
 intro f;exact key _ f (Nat.lt_succ_self _)
def MapI (w:World) (b n:Nat) (f:Nat->Option Nat):Prop :=
 ∃ D:DataW Unit,w.ownsMap Tryz.prog 3 (plainElem Tryz.prog 3) b n D/\∀ m:Nat,Maps.has D (.int .i64 (m:Int))=(f m).isSome/\D.atKey (.int .i64 (m:Int)) (.lit (.int .i64 0)) = .lit (.int .i64 (((f m).getD 0:Nat):Int))
theorem MapI.lt {w:World} {b n:Nat} {f:Nat->Option Nat} (h:MapI w b n f):b<w.heap.size:=by
 obtain ⟨D,⟨es,clock,ho,_⟩,_⟩:=h;exact (Array.getElem?_eq_some_iff.1 ho).1
theorem MapI.keep {w w':World} {b n:Nat} {f:Nat->Option Nat} (h:MapI w b n f) (hb:w'.heap[b]? = w.heap[b]?):MapI w' b n f:=by
 obtain ⟨D,⟨es,clock,ho,rest⟩,h2⟩:=h;exact ⟨D,⟨es,clock,hb.trans ho,rest⟩,h2⟩
theorem MapI.made (w:World):MapI (w.alloc (.map #[] 0)) w.heap.size 0 (fun _=>none):=⟨.map [],World.ownsMap_made w _ _ _,fun m=>⟨rfl,rfl⟩⟩
theorem wf_nat {m:Nat} (hm:m<=4000000000):(Lit.int .i64 (m:Int)).wf=true:=by simp [Lit.wf,IntKind.min,IntKind.max,IntKind.signed,IntKind.bits];omega
theorem MapI.look {w:World} {b n:Nat} {f:Nat->Option Nat} (h:MapI w b n f) (m:Nat) (hm:m<=4000000000) :
  (Instr.lookup 124 (.map (some b)) (.int .i64 (m:Int)) true).run Tryz.prog w = .ok (.tuple #[.int .i64 (((f m).getD 0:Nat):Int),.bool (f m).isSome]) w:=by
 obtain ⟨D,h1,h3⟩:=h;obtain ⟨v,ps,hrun,hv⟩:=h1.look_ok (Maps.int_keyed Tryz.underlying3) Tryz.underlying124 (z := .int .i64 0) (by first | rfl | simp [go_sem]) (plainElem_int Tryz.underlying3 (by decide))
  (key := .int .i64 (m:Int)) (Maps.keyOf_int_mk Tryz.underlying3 (wf_nat hm))
 rw [(h3 m).1] at hrun;rw [(h3 m).2] at hv;obtain ⟨c,rfl,hc,_⟩:=plainElem_int_inv Tryz.underlying3 hv;simp only [Prod.mk.injEq,DataW.lit.injEq,Lit.int.injEq] at hc;rw [hrun,←hc.1.2]
theorem MapI.put {w:World} {b n:Nat} {f:Nat->Option Nat} (h:MapI w b n f) (m:Nat) (hm:m<=4000000000) (k:Nat) (hk:k<=4000000000) (hn:n<=1000000000) :
  ∃ w',(Instr.mapUpdate 124 (.map (some b)) (.int .i64 (m:Int)) (.int .i64 (k:Int))).run Tryz.prog w = .ok () w'/\MapI w' b (n+1) (fun x=>if m=x then some k else f x)/\w.grownBy w' (some b):=by
 obtain ⟨D,h1,h3⟩:=h;have hi:=h1.isMap;obtain ⟨w',hrun,hown,hg⟩:=h1.update (Maps.int_keyed Tryz.underlying3) Tryz.underlying124 (by unfold maxLen;omega) (key := .int .i64 (m:Int)) (Maps.keyOf_int_mk Tryz.underlying3 (wf_nat hm))
  (plainElem_int Tryz.underlying3 (q := .i64) (a:=(k:Int)) (wf_nat hk))
 refine ⟨w',hrun,⟨_,hown,fun x=>?_⟩,hg⟩;by_cases hx:m=x
 ·subst hx;simp only [↓reduceIte];exact ⟨by rw [Maps.has_put_same hi (show WideAt.IsKeyLit (.int .i64 (m:Int)) from trivial)];simp,by rw [Maps.atKey_put_same hi (show WideAt.IsKeyLit (.int .i64 (m:Int)) from trivial)];simp⟩
 ·simp only [hx,↓reduceIte];have hne:(Lit.int .i64 (x:Int)) ≠ .int .i64 (m:Int):=fun q=>hx (by cases q;rfl)
  exact ⟨by rw [Maps.has_put_other hne];exact (h3 x).1,by rw [Maps.atKey_put_other hne];exact (h3 x).2⟩
def posN (code:List InL):Nat->Nat->Option Nat
 | 0,_=>none
 | k+1,x=>if (code[k]?.map (·.pos))=some x then some k else posN code k x
theorem make_hint (t:TypeId) (k e:TypeId) (ht:Tryz.prog.underlying t=some (.map k e)) (n:Nat) (w:World):(Instr.makeMap t (some (.int .i64 (n:Int)))).run Tryz.prog w = .ok (.map (some w.heap.size)) (w.alloc (.map #[] 0)):=by
 simp [Instr.makeMap,run_underlying ht,asInt,go_sem]
def IndQ (p:Nat) (L:Lay) (s:MkS) (w:World) (e:Ending) (w':World):Prop :=
 e = .returned (.tuple #[])/\∃ mb,w.heap.size<=mb/\w'.cell? ⟨L.q,0,none⟩=some L.vC/\w'.cell? ⟨L.q,1,none⟩=some L.vI/\w'.cell? ⟨L.q,2,none⟩=some (.map (some mb))/\MapI w' mb s.code.length (posN s.code s.code.length)/\Fr (fun g=>g=L.q) (fun g=>g=L.q\/g=mb) w w'
set_option maxHeartbeats 8000000 in
theorem index_any (p:Nat) (L:Lay) (s:MkS) (w:World) (h:MkAt p L s w) (hl:s.code.length<=1000000) (hp:∀ x∈s.code,x.pos<=4000000000) :
  Calls Tryz.prog 82 #[.pointer (some ⟨L.q,0,none⟩)] w (IndQ p L s w):=by
 have HH:=Lib.hid h;have HP:=Lib.hid hp;obtain ⟨ia,ic,hvI⟩:=own_slice h.cI;obtain ⟨n,hn⟩:∃ n,s.code.length=n:=⟨_,rfl⟩;have q1:=h.q1;rw [hvI,hn] at q1;have q1a:=fun o=>cell_al q1 o
 have q2:=h.q2;have q2a:=fun o=>cell_al q2 o
 have lq:=typ_lt h.tq;have zqa:∀ o j,(w.alloc o).frozen? ⟨L.q,j,none⟩=false:=fun o j=>(World.frozen?_of_block (Below.heap_alloc _ _ _ lq)).trans (h.zq j)
 have hmh:=make_hint 124 _ _ Tryz.underlying124 n;obtain ⟨A,hA⟩:∃ A,(w.alloc (.map #[] 0)).setCell ⟨L.q,2,none⟩ (.map (some w.heap.size))=A:=⟨_,rfl⟩;have fA:Fr (fun g=>g=L.q) (fun g=>g=L.q) w A:=by rw [←hA];exact ((Fr.refl _ _).alloc _).set _ (.inl rfl)
 have a0:A.cell? ⟨L.q,0,none⟩=some L.vC:=by rw [←hA,cellSet,if_neg (by simp)];exact cell_al h.q0 _
 have a1:A.cell? ⟨L.q,1,none⟩=some L.vI:=by rw [←hA,cellSet,if_neg (by simp)];exact cell_al h.q1 _
 have a2:A.cell? ⟨L.q,2,none⟩=some (.map (some w.heap.size)):=by rw [←hA];exact cell_put (cell_al h.q2 _) _
 have aM:MapI A w.heap.size 0 (fun _=>none):=by
  rw [←hA];exact (MapI.made w).keep (Below.heap_setCell _ _ _ _ (by show w.heap.size≠L.q;omega))
 have hown:w.ownsRow 0 128 5 L.vI n (insR s.code L.rs):=by rw [←hn];exact h.cI
 obtain ⟨mb,hmb⟩:∃ mb,w.heap.size=mb:=⟨_,rfl⟩;have HOWN:=Lib.hid hown;have hl1:n<=1000000:=by rw [←hn];exact hl
 have HN:=Lib.hid hn;have HFA:=Lib.hid fA;have HVI:=Lib.hid hvI;have nI:∀ g,rowF L.vI g->g≠L.q:=fun g hg=>(h.nI hg).2.1
 have ltI:∀ g,rowF L.vI g->g<mb:=fun g hg=>by rw [←hmb];exact own_in h.cI hg
 rw [hvI,hn] at a1;rw [hmb] at a2 aM;clear h hp fA hown hn hvI;go_enter Tryz.func82,Tryz.ntmps82
 go_wp2_with fail
 have hA2:(w.alloc (.map #[] 0)).setCell ⟨L.q,2,none⟩ (.map (some mb))=A:=by rw [←hmb];exact hA
 rw [hA2];have HMB:=Lib.hid hmb;clear hA hA2 hmb q1 q1a q2 q2a zqa hmh;go_loopw [17] (fun kv wr=>∃ k,kv = .int .i64 (k:Nat)/\k<=n/\MapI wr mb k (posN s.code k)/\Fr (fun g=>g=L.q) (fun g=>g=L.q\/g=mb) w wr/\wr.cell? ⟨L.q,0,none⟩=some L.vC/\wr.cell? ⟨L.q,1,none⟩=some (.slice ia n ic)/\wr.cell? ⟨L.q,2,none⟩=some (.map (some mb))) (fun kv _=>n - (intOf kv).toNat)
 case atStart=>exact ⟨0,rfl,Nat.zero_le _,aM,HFA.out.tg (fun g hg=>hg.elim .inl (fun e => .inr (by rw [e,HMB.out];exact Nat.le_refl _))),a0,a1,a2⟩
 case round =>
  clear aM a0 a1 a2;obtain ⟨k,rfl,hk,hmp,hf,c0,c1,c2⟩:=hrel;have HF:=Lib.hid hf;by_cases hlt:k<n
  ·obtain ⟨x,hx⟩:∃ x,s.code[k]? = some x:=⟨_,List.getElem?_eq_getElem (by rw [HN.out];exact hlt)⟩;obtain ⟨r,hr⟩:∃ r,L.rs[k]? = some r:=⟨_,List.getElem?_eq_getElem (by have:=HH.out.rows.len;have:=HN.out;omega)⟩;obtain ⟨I,ic2,hv,-,hI,hcl⟩:=own_some HOWN.out (by omega);have hv2:ia=some ⟨I,0,none⟩:=by have:=HVI.out;rw [hv] at this;cases this;rfl
   subst hv2;have rI:rowF L.vI I:=by rw [HVI.out];rfl
   have d1:w.cell? ⟨I,k*5+1,none⟩=some (.int .i64 x.pos):=by
    rw [hcl _ (by omega),insR_at _ _ HH.out.rows.len k 1 x r hx hr (by omega)];rfl
   have d2:=hf.cell d1 (nI I rI);have hxp:=HP.out x (List.mem_of_getElem? hx);obtain ⟨w2,hput,hmp2,hg2⟩:=(hmp.keep (w':=wr.drew) rfl).put x.pos hxp k (by omega) (by omega);have hpos:(fun y=>if x.pos=y then some k else posN s.code k y)=posN s.code (k+1):=by
    funext y;simp only [posN,hx,Option.map_some,Option.some.injEq]
   rw [hpos] at hmp2;have hf2:Fr (fun g=>g=mb) (fun g=>g=mb) wr w2:=(show Fr (fun g=>g=mb) (fun g=>g=mb) wr.drew w2 from ⟨hg2.os,hg2.tape,hg2.output,hg2.size,fun k hk hn=>hg2.block k hk (fun e=>hn (Option.some.inj e)),fun _ q => .inl q⟩).und;have hq:L.q≠mb:=by have:=HMB.out;omega
   have HMP:=Lib.hid hmp2;have HF2:=Lib.hid (hf.over hf2 (by rintro g rfl;exact .inr (by rw [HMB.out];exact Nat.le_refl _)));have e0:=hf2.cell c0 hq;have e1:=hf2.cell c1 hq;have e2:=hf2.cell c2 hq;have d3:=hf2.cell d2 (show I≠mb by have:=ltI I rI;omega);have k3:(k:Int)<(n:Int):=by omega
   have k4:decide ((k:Int)<(n:Int))=true:=by simp;omega
   clear hf hmp hmp2 hg2 hf2 hcl hx hr hv d1;go_wp2_with fail
   refine rt (fun W':World=>W'.cell? ⟨L.q,1,none⟩=some (.slice (some ⟨I,0,none⟩) n ic)/\W'.cell? ⟨L.q,2,none⟩=some (.map (some mb))/\W'.cell? ⟨I,k*5+1,none⟩=some (.int .i64 x.pos)) (List.range 13) 1 ⟨c1,c2,d2⟩ ?_;(iterate 13 (refine ty ?_;try simp only [pl]))
   refine takes_nil ?_;refine wpAnyH_only 13 (by kernel_rfl) rfl (fun J hJ=>?_);go_simp
   refine hJ.out _ _ ⟨e1,e2,d3⟩ fun _=>?_
   clear hJ J;refine wpAnyH_done (by kernel_rfl) ?_ _;clear hput;go_wp2
   go_roundw
   case rel=>exact ⟨k+1,by go_num,by omega,HMP.out,HF2.out,e0,e1,e2⟩
   case measure=>simp only [intOf];omega
  ·have hkn:k=n:=by omega
   have HK:=Lib.hid (show MapI wr mb s.code.length (posN s.code s.code.length) by rw [HN.out];rw [hkn] at hmp;exact hmp);have k3:¬(k:Int)<(n:Int):=by omega
   have k4:decide ((k:Int)<(n:Int))=false:=by simp;omega
   clear hf hmp hkn;go_wp2
   refine bodyPost_ret (v := .tuple #[]) ?_ rfl ?_
   ·simp [results,Tryz.results82,go_sem]
   exact ⟨rfl,mb,by rw [HMB.out];exact Nat.le_refl _,c0,by rw [HVI.out,HN.out];exact c1,c2,HK.out,HF.out⟩
theorem MkS.foldl_inv {α:Type} (P:MkS->Prop) (g:MkS->α->MkS) (hg:∀ s a,P s->P (g s a)):∀ (l:List α) (s:MkS),P s->P (l.foldl g s)
 | [],_,h=>h
 | a::l,s,h=>MkS.foldl_inv P g hg l _ (hg s a h)
structure MkInv (P:MkS->Prop):Prop where
 put:∀ s op v k tg,P s->P (s.put op v k tg)
 const:∀ s t,P s->P (s.const t)
 leap:∀ s i j,P s->P (s.leap i j)
section
variable {P:MkS->Prop} (I:MkInv P)
include I
theorem MkInv.one {s:MkS} (op:Nat) (t:Wd) (h:P s):P (s.one op t):=I.put _ _ _ _ _ (I.const _ _ h)
theorem MkInv.selK:∀ (f:Fo) (s:MkS) (acc:List Nat),P s->P (MkS.selK f s acc).1
 | .leg k _ _ r,s,acc,h=>by
  rw [MkS.selK];split
  ·exact MkInv.selK r s acc h
  ·exact MkInv.selK r _ _ (I.const _ _ h)
 | .nil,_,_,h=>h
 | .text _ _,_,_,h=>h
 | .hash _,_,_,h=>h
 | .put _ _ _,_,_,h=>h
 | .num _ _ _,_,_,h=>h
 | .br _ _ _ _ _ _ _,_,_,h=>h
theorem MkInv.askS:∀ (f:Fo) (s:MkS) (acc:List (Wd×Nat)),P s->P (MkS.askS f s acc).1
 | .leg k _ _ r,s,acc,h=>by
  rw [MkS.askS];split
  ·exact MkInv.askS r _ _ (I.put _ _ _ _ _ h)
  ·exact MkInv.askS r s acc h
 | .nil,_,_,h=>h
 | .text _ _,_,_,h=>h
 | .hash _,_,_,h=>h
 | .put _ _ _,_,_,h=>h
 | .num _ _ _,_,_,h=>h
 | .br _ _ _ _ _ _ _,_,_,h=>h
theorem MkInv.plu {s:MkS} (n o:Wd) (bs:Fo) (s0:MkS) (k:Wd) (h:P s):P (MkS.pluB n o bs s0 k s):=by
 unfold MkS.pluB;split
 ·exact I.leap _ _ _ h
 ·exact MkS.foldl_inv P _ (fun s c h=>by split;exact I.leap _ _ _ h;exact h) _ _ h
theorem MkInv.go:∀ (f:Fo) (bg:Wd->MkS->MkS) (s:MkS) (ls:List Nat),(∀ k s,P s->P (bg k s))->P s->P (MkS.goS f bg s ls).1
 | .nil,_,_,_,_,h=>h
 | .text t r,bg,s,ls,hb,h=>MkInv.go r bg _ ls hb (I.one _ _ h)
 | .hash r,bg,s,ls,hb,h=>MkInv.go r bg _ ls hb (I.put _ _ _ _ _ h)
 | .put n _ r,bg,s,ls,hb,h=>MkInv.go r bg _ ls hb (I.one _ _ h)
 | .num n _ r,bg,s,ls,hb,h=>MkInv.go r bg _ ls hb (I.one _ _ h)
 | .br n _ f o _ bs r,bg,s,ls,hb,h=>by
  rw [MkS.goS];split
  ·exact MkInv.go r bg _ ls hb (MkS.foldl_inv P _ (fun s i h=>I.leap _ _ _ h) _ _ (MkInv.go bs _ _ _ (fun k x hx=>I.leap _ _ _ hx) (I.put _ _ _ _ _ (I.selK bs _ _ (I.const _ _ h)))))
  ·exact MkInv.go r bg _ ls hb (I.put _ _ _ _ _ (MkS.foldl_inv P _ (fun s i h=>I.leap _ _ _ h) _ _ (MkInv.go bs _ _ _ (fun k x hx=>I.plu n o bs s k hx) (I.put _ _ _ _ _ (I.askS bs _ _ (I.put _ _ _ _ _ (I.const _ _ h)))))))
 | .leg k _ m r,bg,s,ls,hb,h=>MkInv.go r bg _ _ hb (I.put _ _ _ _ _ (MkInv.go m _ _ _ (fun _ _ h=>h) (hb k s h)))
theorem MkInv.all (f:Fo) (h:P MkS.start):P (MkS.all f):=I.put _ _ _ _ _ (I.go f _ _ _ (fun _ _ h=>h) h)
end
theorem pos_inv:MkInv fun s=>∀ x∈s.code,x.pos<=s.pos:=by
 refine ⟨fun s op v k tg h x hx=>?_,fun s t h=>?_,fun s i j h x hx=>?_⟩
 ·simp only [MkS.put,List.mem_append,List.mem_singleton] at hx ⊢;rcases hx with hx | rfl
  ·have:=h x hx;omega
  ·show s.pos<=_;omega
 ·obtain ⟨-,z2,z3⟩:=sz_const s t;rw [z2,z3];exact h
 ·simp only [MkS.leap] at hx ⊢;obtain ⟨n,hn,e⟩:=List.mem_iff_getElem.1 hx;have h1:(s.code.modify i fun x=>{ x with tg:=x.tg.set j s.pos })[n]? = some x:=by rw [List.getElem?_eq_getElem hn,e]
  rw [List.getElem?_modify] at h1
  cases hc:s.code[n]? with
  | none=>rw [hc] at h1;cases h1
  | some y =>
   rw [hc] at h1;have:=h y (List.mem_of_getElem? hc);simp at h1;subst h1;split<;>exact this
structure ProgAt (q:Nat) (s:MkS) (vC vI:Value) (rs:List (Value×Value)) (mb:Nat) (w:World):Prop where
 q0:w.cell? ⟨q,0,none⟩=some vC
 q1:w.cell? ⟨q,1,none⟩=some vI
 q2:w.cell? ⟨q,2,none⟩=some (.map (some mb))
 cC:w.ownsRow 0 9 1 vC s.cs.length (s.cs.map strv)
 cI:w.ownsRow 0 128 5 vI s.code.length (insR s.code rs)
 rows:RowsAt w s.code rs
 mp:MapI w mb s.code.length (posN s.code s.code.length)
def ProgQ (s:MkS) (w:World) (e:Ending) (w':World):Prop:=∃ q vC vI rs mb,e = .returned (.pointer (some ⟨q,0,none⟩))/\ProgAt q s vC vI rs mb w'/\w.heap.size<=q/\Below w.heap.size w w'
theorem mk_start (w:World):∃ W,W=((w.alloc (.cells #[.slice none 0 0,.slice none 0 0,.map none] 126)).alloc (.map #[] 0)).alloc (.cells #[.pointer (some ⟨w.heap.size,0,none⟩),.int .i64 0,.map (some (w.heap.size+1))] 187) /\
  MkAt (w.heap.size+2) ⟨w.heap.size,w.heap.size,w.heap.size+1,.slice none 0 0,.slice none 0 0,[]⟩ MkS.start W/\Fr noF noF w W:=by
 obtain ⟨A,hA⟩:∃ A,w.alloc (.cells #[.slice none 0 0,.slice none 0 0,.map none] 126)=A:=⟨_,rfl⟩;have sA:A.heap.size=w.heap.size+1:=by rw [←hA];simp
 have cA:=fun j=>cell_made w #[.slice none 0 0,.slice none 0 0,.map none] 126 (0,0) j
 have zA:∀ j,A.frozen? ⟨w.heap.size,j,none⟩=false:=by intro j;rw [←hA];simp
 have tA:typ A w.heap.size=some 126:=by rw [←hA];exact typ_made _ _ _
 have fA:Fr noF noF w A:=by rw [←hA];exact (Fr.refl _ _).alloc _
 rw [hA] at cA ⊢;clear hA;obtain ⟨B,hB⟩:∃ B,A.alloc (.map #[] 0)=B:=⟨_,rfl⟩;have sB:B.heap.size=w.heap.size+2:=by rw [←hB];simp [sA]
 have mB:=MapG.made 3 A;have fB:Fr noF noF A B:=by rw [←hB];exact (Fr.refl _ _).alloc _
 rw [hB,sA] at mB;rw [hB];clear hB;obtain ⟨C,hC⟩:∃ C,B.alloc (.cells #[.pointer (some ⟨w.heap.size,0,none⟩),.int .i64 0,.map (some (w.heap.size+1))] 187)=C:=⟨_,rfl⟩;have cC:=fun j=>cell_made B #[.pointer (some ⟨w.heap.size,0,none⟩),.int .i64 0,.map (some (w.heap.size+1))] 187 (0,0) j
 have zC:∀ j,C.frozen? ⟨w.heap.size+2,j,none⟩=false:=by intro j;rw [←hC,←sB];simp
 have tC:typ C (w.heap.size+2)=some 187:=by rw [←hC,←sB];exact typ_made _ _ _
 have fC:Fr noF noF B C:=by rw [←hC];exact (Fr.refl _ _).alloc _
 rw [hC,sB] at cC;rw [hC];clear hC;have f:=fB.trans fC;have e0:constF []=fun _=>none:=by funext x;simp [constF]
 refine ⟨C,rfl,⟨cC 0,cC 1,cC 2,f.cell (cA 0) id,f.cell (cA 1) id,f.cell (cA 2) id,zC,fun j=>(f.frozen (show w.heap.size<_ by omega) id).trans (zA j),tC,(typ_keep (f.keep w.heap.size (by omega) id)).trans tA,?_,World.ownsRow_nil _ _ _ _,World.ownsRow_nil _ _ _ _,⟨rfl,fun n i r h=>by simp [MkS.start] at h,fun n m r r' h=>by simp at h⟩,?_⟩,fA.trans f⟩
 ·show MapG _ _ _ 0 (constF []);rw [e0];exact mB.fr fC id
 ·rintro k (rfl | rfl | rfl | hk | hk | ⟨r,hr,-⟩)
  ·show w.heap.size<=w.heap.size+2;omega
  ·exact Nat.le_refl _
  ·show w.heap.size<=w.heap.size+1;omega
  ·cases hk
  ·cases hk
  ·cases hr
set_option maxHeartbeats 1000000 in
theorem prog_any {lo hi:Nat} (f:Fo) (w:World) (a:Option Addr) (c:Nat) (vs:List Value) (hr:RowC lo hi w a vs) (hnd:NodesV lo hi w vs f) (hhi:hi<=w.heap.size) (hm:f.isMsg=true) (hw:f.wf 2000000=true) (hc:f.cok) (hl:f.len<=2000000) (hs:f.cw<=890000)
  (hF:FrmsAt w) (hN:NamesAt w):Calls Tryz.prog 51 #[.slice a f.len c] w (ProgQ (MkS.all f) w):=by
 have hmm:=@run_makeMap Tryz.prog;obtain ⟨W,hW,hst,hfw⟩:=mk_start w;have g1:=World.block_lt_of_cell? w _ (hF 0 (by omega));have g2:=World.block_lt_of_cell? w _ (hN 0 (by omega));have henv:MEnv lo hi w w.heap.size W:=⟨⟨Nat.le_trans hhi hfw.size,fun k h1 h2=>hfw.keep k (by omega) id⟩,hhi,hF.fr hfw (fun _ q=>q.elim) g1,fun j hj=>hfw.cell (hN j hj) id,g1,g2⟩;have HMES:=Lib.hid (mes_any f _ _ MkS.start W a c vs hst henv hr hnd hm hw hc hl (by show 0+_<=_;omega));have HENV:=Lib.hid henv;have HST:=Lib.hid hst;have HFW:=Lib.hid hfw;clear hr hnd hm hw hc hl hF hN henv hst hfw;go_enter Tryz.func51,Tryz.ntmps51
 go_wp2_with fail
 rw [←hW];obtain ⟨P,hP⟩:∃ P,w.heap.size+2=P:=⟨_,rfl⟩;rw [show w.heap.size+1+1=P from hP];rw [hP] at HMES HST;clear hP;refine HMES.out.mono ?_;rintro e w1 ⟨rfl,L1,hm1,⟨hq1,hB1⟩,hf1⟩;dsimp only at hq1 hB1;obtain ⟨s1,hs1⟩:∃ s1,MkS.mes f MkS.start=s1:=⟨_,rfl⟩;have hz1:=(mes_le f MkS.start).2;rw [hs1] at hm1 hz1;have hz2:s1.sz<=890000:=by have:MkS.start.sz=0:=rfl;omega
 unfold MkS.sz at hz2;have he1:MEnv lo hi w L1.B w1:=by rw [hB1];exact HENV.out.fr hf1 HST.out.lo
 have hx1:(insX ⟨0,s1.pos,0,[],[]⟩).length=1:=by simp [insX,frmL,insB]
 have HPP:=Lib.hid (put_any P L1 s1 0 0 [] [] (.slice none 0 0) (.slice none 0 0) w1 hm1 (NRow.nil _) (NRow.nil _) (fun g hg=>by cases hg) (fun g hg=>by cases hg) (fun g hg=>by cases hg) (fun g hg=>by rcases hg with hg | hg<;>cases hg)
  ⟨(by decide:0<12),by simp,by simp,by simp,by simp,rfl⟩ he1.fo he1.g1 (by omega) (by omega) (by rw [hx1];omega))
 have hall:s1.put 0 0 [] []=MkS.all f:=by unfold MkS.all;rw [hs1]
 rw [hall] at HPP;have HPOS:=Lib.hid (pos_inv.all f (fun x hx=>by cases hx));have hza:(MkS.all f).code.length<=900000/\(MkS.all f).pos<=900000:=by
  rw [←hall];have:=sz_put s1 0 0 [] [];rw [hx1] at this;unfold MkS.sz at this;omega
 have HF1:=Lib.hid hf1;clear hW hm1 hf1 HMES hs1 hz1 he1 hall;go_wp2_with fail
 refine HPP.out.mono ?_;rintro e w2 ⟨b9,c9,rfl,-,-,-,L2,hm2,⟨hq2,hB2⟩,hf2,-,-⟩;have p0:=hm2.p0;have HIX:=Lib.hid (index_any _ L2 (MkS.all f) w2 hm2 (by omega) (fun x hx=>by have:=HPOS.out x hx;omega));have HM2:=Lib.hid hm2;have HF2:=Lib.hid hf2;have HNP:=Lib.hid (show L2.q=w.heap.size from hq2.trans hq1);clear hm2 hf2 HPP hq1 hq2 hB1 hB2;go_wp2_with fail
 refine HIX.out.mono ?_;rintro e w3 ⟨rfl,mb,hmb,q0,q1,q2,hmi,hf3⟩;have nq:∀ g,L2.has P g->typ w2 g≠some 126->g≠L2.q:=by rintro g - hg rfl;exact hg HM2.out.tq
 have hcC:=hf3.own HM2.out.cC (fun g hg=>(HM2.out.nC hg).2.1);have hcI:=hf3.own HM2.out.cI (fun g hg=>(HM2.out.nI hg).2.1);have hrw:=HM2.out.rows.fr hf3 (by rintro g rfl;rw [HM2.out.tq];simp);have p03:=hf3.cell p0 HM2.out.nP.1;have hqq:L2.q=w.heap.size:=HNP.out;have hbel:Below w.heap.size w w3:=by
  have f12:Fr (fun g=>w.heap.size<=g) (fun g=>w.heap.size<=g) W w2:=((HF1.out.wide (G:=fun g=>w.heap.size<=g) (fun g hg=>HST.out.lo g hg)).trans (HF2.out.wide (G:=fun g=>w.heap.size<=g) (fun g hg=>by
   rcases hg with hg | hg | hg
   ·have h1:=HF1.out.fp g hg;rcases h1 with h1 | h1
    ·exact HST.out.lo g h1
    ·have:=HFW.out.size;omega
   ·cases hg
   ·cases hg)))
  have f13:=f12.trans (hf3.wide (G:=fun g=>w.heap.size<=g) (by rintro g rfl;show w.heap.size<=L2.q;omega));have:=((HFW.out.wide (G:=fun g=>w.heap.size<=g) (fun _ q=>q.elim)).trans f13);exact this.low (fun k hk=>hk) (Nat.le_refl _)
 have HPA:=Lib.hid (show ProgAt L2.q (MkS.all f) L2.vC L2.vI L2.rs mb w3 from ⟨q0,q1,q2,hcC,hcI,hrw,hmi⟩);have HBE:=Lib.hid hbel;clear hcC hcI hrw hbel hmi q0 q1 q2 hf3 HIX nq hqq p0;go_wp2
 go_ret
 exact ⟨_,_,_,_,mb,rfl,HPA.out,by rw [HNP.out];exact Nat.le_refl _,HBE.out⟩
end Go.Proofs.YthpldolmpinnhaaGreatDoor
