import Derived.Test.YthpldolmpinnhaaGreatDoorJP16
import Derived.Laws.EntriesVeiled
set_option maxHeartbeats 64000000
open Go.Lib renaming hid→z7,trimPrefix→zJ,hasPrefix→zF
open List renaming replicate→z8,getElem?_eq_getElem→zj,getElem?_append_right→zQ,lookup_cons→zD,range→zE,mem_append→zH,length_append→zP,length_cons→zW,getElem?_eq_some_iff→zc,getElem?_append_left→ze,mem_of_getElem?→zi,mem_cons_of_mem→zl,mem_cons_self→zm,filter_append→zn,nodup_append→zt,idxOf_append→zh,mem_filter→yx
open Go.World renaming block_lt_of_cell?→zy,ownsMap_made→zN,ownsRow_nil→zR
open SizeOf renaming sizeOf→zx
open Option.some renaming inj→zv
open Go.Instr renaming typeAssert→zu,mapUpdate→za,makeMap→yf
open Bool renaming and_eq_true→zk
open Nat renaming le_refl→zg,le_trans→zZ,lt_irrefl→zY,zero_le→zX,lt_of_lt_of_le→zo
open Go.WideAt renaming IsKeyLit→zf
open Array renaming getElem?_eq_some_iff→zV,toList_inj→yy
open Go.WideMaps renaming keyOf_string_mk→zU
open Go.Maps renaming string_keyed→zG,atKey_put_other→zL,atKey_put_same→zM,has_put_other→zO,has_put_same→zS,keyOf_int_mk→zr,int_keyed→yq,has→yk
open Go.IntKind renaming signed→zw,bits→yv,min→yj,max→yg
open ByteArray renaming mk→yz
open Go.Builtin renaming len_→yu
open Go.Proofs.Tryz
namespace Go.Proofs.YthpldolmpinnhaaGreatDoor
open Go Go.RowKit
set_option maxRecDepth 10000
theorem Fr.over{F F' G G':Nat->Prop}{w w1 w2:World}(h:Fr F F' w w1)(k:Fr G G' w1 w2)(hg:∀ q,G q->F q\/w.heap.size<=q):Fr F F' w w2 :=
 ⟨k.os.trans h.os,k.tape.trans h.tape,k.output.trans h.output,zZ h.size k.size,fun i hi hn=>(k.keep i (zo hi h.size) (fun q=>(hg i q).elim hn (by omega))).trans (h.keep i hi hn),h.fp⟩
structure YE(lo hi:Nat)(w0:World)(B:Nat)(w:World):Prop where
 keep:vK lo hi w0 w
 hB:hi<=B
 fo:jr w
 na:qP w
 g1:2<B
 g2:0<B
theorem YE.fr{lo hi B:Nat}{w0 w w':World}{F F':Nat->Prop}(h:YE lo hi w0 B w)(hf:Fr F F' w w')(hF:∀ k,F k->B<=k):YE lo hi w0 B w':=by
 have hb:=h.hB;have hk:=h.keep;refine⟨⟨zZ hk.1 hf.size,fun k a b=>(hf.keep k (by have:=hk.1;omega) (fun q=>by have:=hF k q;omega)).trans (hk.2 k a b)⟩,hb,h.fo.fr hf hF h.g1,fun j hj=>hf.cell (h.na j hj) (fun q=>by have:=hF _ q;have:=h.g2;simp only at *;omega),h.g1,h.g2⟩
def I7(lo hi:Nat)(w0:World)(f:Fo):Prop:=∀ p L s w a c vs,ug p L s w->YE lo hi w0 L.B w->Vn lo hi w0 a vs->xV lo hi w0 vs f->f.vD=true->f.wf 2000000=true->f.Uo->f.len<=2000000->s.sz+f.cw<=900000 ->
 Calls prog 80 #[.pointer (some ⟨p,0,none⟩),.slice a f.len c] w (MQ p L (MkS.dM f s) w)
structure zv1(N p:Nat)(s0:MkS)(keys:List Wd)(bg:Wd->MkS->MkS)(v:Value)(I:dW->World->Prop):Prop where
 fn:∃ k cap,v = .func (.func k) #[] cap/\(∀ args w,(callFunc k args).run prog w = .ok (.enter k args) w) /\
  ∀ L s W key (a:Nat) ma mn mc,ug p L s W->I L W->s0.le s->s.sz<=900000->key∈keys->Calls prog k (#[.agg #[xf key,.int .i64 (a:Nat),.slice ma mn mc]]++cap) W (Ep p L (bg key s) W)
 fr:∀ L L' W W',I L W->Fr (L.has p) (L'.has p) W W'->I L' W'
 al:∀ L W W' F F',I L W->Fr F F' W W'->(∀ k,F k->N<=k)->I L W'
 le:∀ k s,s.le (bg k s)/\(bg k s).sz=s.sz
def j9(w:World)(p:Nat)(L:dW)(s:MkS)(ls:List Nat)(GK:List (Nat×Nat)):Prop :=
 GK.length=ls.length/\∀ (n i:Nat) (x:Nat×Nat),ls[n]? = some i->GK[n]? = some x->kh w p i x.1 x.2/\¬L.has p x.1/\¬L.has p x.2/\∃ y,s.code[i]? = some y/\y.tg.length=1
theorem kh.fr{w w':World}{F F':Nat->Prop}{p i b c:Nat}(h:kh w p i b c)(hf:Fr F F' w w')(h1:¬F b)(h2:¬F c):kh w' p i b c:=⟨hf.cell h.pb h1,hf.cell h.pc h2,(uS (hf.keep b (zy w _ h.pb) h1)).trans h.tb,(uS (hf.keep c (zy w _ h.pc) h2)).trans h.tc⟩
theorem kh.lt{w:World}{p i b c:Nat}(h:kh w p i b c):b<w.heap.size/\c<w.heap.size:=⟨zy w _ h.pb,zy w _ h.pc⟩
theorem j9.fr{w w':World}{p:Nat}{L L':dW}{s s':MkS}{ls:List Nat}{GK:List (Nat×Nat)}(h:j9 w p L s ls GK)(hf:Fr (L.has p) (L'.has p) w w')(hs:s.le s'):j9 w' p L' s' ls GK :=
 ⟨h.1,fun n i x h1 h2=>by
  obtain⟨a,b,c,y,d,e⟩:=h.2 n i x h1 h2;obtain⟨y2,d2,e2⟩:=hs i y d;exact⟨a.fr hf b c,fun q=>(hf.fp _ q).elim b (by have:=a.lt;omega),fun q=>(hf.fp _ q).elim c (by have:=a.lt;omega),y2,d2,e2.trans e⟩⟩
theorem j9.ty{w w':World}{F F':Nat->Prop}{p:Nat}{L:dW}{s:MkS}{ls:List Nat}{GK:List (Nat×Nat)}(h:j9 w p L s ls GK)(hf:Fr F F' w w')(hF:∀ k,F k->VF w k=some 189):j9 w' p L s ls GK :=
 ⟨h.1,fun n i x h1 h2=>by
  obtain⟨a,b,c,d⟩:=h.2 n i x h1 h2;exact⟨a.fr hf (fun q=>by have:=hF _ q;rw[a.tb] at this;cases this) (fun q=>by have:=hF _ q;rw[a.tc] at this;cases this),b,c,d⟩⟩
theorem j9.al{w w':World}{p:Nat}{L:dW}{s:MkS}{ls:List Nat}{GK:List (Nat×Nat)}(h:j9 w p L s ls GK)(hf:Fr xS xS w w'):j9 w' p L s ls GK :=
 ⟨h.1,fun n i x h1 h2=>by
  obtain⟨a,b,c,d⟩:=h.2 n i x h1 h2;exact⟨a.fr hf id id,b,c,d⟩⟩
theorem j9.more{w:World}{p:Nat}{L:dW}{s:MkS}{ls:List Nat}{GK:List (Nat×Nat)}{i b c:Nat}{y:jC}(h:j9 w p L s ls GK)(hl:kh w p i b c)(hb:¬L.has p b)(hc:¬L.has p c)(hy:s.code[i]? = some y)(h1:y.tg.length=1) :
  j9 w p L s (ls++[i]) (GK++[(b,c)]):=by
 refine⟨by simp[h.1],fun n j x e1 e2=>?_⟩;by_cases hn:n<ls.length
 ·rw[ze hn] at e1;rw[ze (by have:=h.1;omega)] at e2;exact h.2 n j x e1 e2
 ·have dE:n=ls.length:=by have:=(zc.1 e1).1;simp at this;omega
  rw[dE,zQ (zg _)] at e1;rw[dE,zQ (by have:=h.1;omega),h.1] at e2;simp at e1 e2;subst e1 e2;exact⟨hl,hb,hc,y,hy,h1⟩
theorem S6:ZN prog 325 189 .nilFunc 1 8 :=
 ⟨underlying325,info_parts (by kernel_rfl),rfl,by decide,by decide⟩
def AS(GK:List (Nat×Nat)):List Value:=GK.map fun x=>bN x.1 x.2
theorem go_leg(k:Wd)(a:Nat)(m r:Fo)(bg:Wd->MkS->MkS)(s:MkS)(ls:List Nat) :
  MkS.qZ (.uq k a m r) bg s ls=MkS.qZ r bg ((MkS.dM m (bg k s)).put 11 0 [] [0]) (ls++[(MkS.dM m (bg k s)).code.length]):=rfl
theorem S7(n:Nat):(madeCells (Value.int .i64 0).cells (n*1)).toList=Zf (z8 n 0):=by
 apply List.ext_getElem
 ·simp[madeCells,Zf]
 ·intro j h1 h2;simp[madeCells,Zf,Value.cells,Nat.mod_one]
theorem V9(n:Nat)(w:World)(hn:n<=1000000):∃ w',(Instr.makeSlice 39 (.int .i64 (n:Int)) (.int .i64 (n:Int))).run prog w = .ok (.slice (some ⟨w.heap.size,0,none⟩) n n) w'/\qV w' (.slice (some ⟨w.heap.size,0,none⟩) n n) (z8 n 0)/\Fr xS xS w w':=by
 obtain⟨i,hi,hz,h2,h3⟩:=QA.info;obtain⟨w',hr,ho,hg⟩:=run_makeSlice_full (P:=prog) (w:=w) 0 39 3 i _ 1 QA.under hi hz h2 .i64 .i64 n (by omega) (by rw[h3];omega) (by unfold maxLen;omega) (zX _);rw[S7] at ho;refine⟨w',hr,by simpa[qV] using ho,hg.os,hg.tape,hg.output,hg.size,fun k hk _=>hg.block k hk (by simp),fun _ q=>q.elim⟩
theorem Kz{lo hi:Nat}{w0 w:World}{ba:Option Addr}{ws us vt:List Value}{k0:Wd}{a0 i ml mc:Nat}{ma:Option Addr}(hk:vK lo hi w0 w)(K9:Vn lo hi w0 ba ws)(VL:us.length=i*3)(VN:ws=us++(xf k0 :: .int .i64 (a0:Nat) :: .slice ma ml mc::vt)) :
  ∃ g o,ba=some ⟨g,o,none⟩/\w.cell? ⟨g,o+i*3,none⟩=some (xf k0)/\w.cell? ⟨g,o+i*3+1,none⟩=some (.int .i64 (a0:Nat))/\w.cell? ⟨g,o+i*3+2,none⟩=some (.slice ma ml mc):=by
 have UX:∀ j v,[xf k0,.int .i64 (a0:Nat),.slice ma ml mc][j]? = some v->j<3->ws[i*3+j]? = some v:=by
  intro j v hj h3;rw[VN,←VL,zQ (by omega),Nat.add_sub_cancel_left,←hj];match j,h3 with
  | 0,_=>rfl
  | 1,_=>rfl
  | 2,_=>rfl
 have hc:∀ j v,ws[i*3+j]? = some v->∃ g o,ba=some ⟨g,o,none⟩/\w.cell? ⟨g,o+(i*3+j),none⟩=some v:=fun j v h=>by
  obtain⟨h1,h2⟩:=zc.1 h;obtain⟨g,o,e,g1,g2,c⟩:=K9 _ h1;rw[h2] at c;exact⟨g,o,e,xp hk c g1 g2⟩
 obtain⟨g,o,rfl,c0⟩:=hc 0 _ (UX 0 _ rfl (by omega));obtain⟨g1,o1,e1,c1⟩:=hc 1 _ (UX 1 _ rfl (by omega));obtain⟨g2,o2,e2,c2⟩:=hc 2 _ (UX 2 _ rfl (by omega))
 cases e1
 cases e2;exact⟨g,o,rfl,c0,c1,c2⟩
def Uh(bs:Fo)(bg:Wd->MkS->MkS)(s:MkS):MkS:=(MkS.qZ bs bg s []).2.foldl (fun s i=>s.uv i 0) (MkS.qZ bs bg s []).1
theorem GJ{lo hi:Nat}{w0:World}(b0:Nat)(n:Wd)(a fo:Nat)(of:Wd)(cl:Nat)(bs:Fo)(p:Nat)(L:dW)(s:MkS)(bg:Wd->MkS->MkS)(v:Value)(I:dW->World->Prop)(w:World)
  (ih:∀ m:Fo,zx m<zx bs->I7 lo hi w0 m) (h:ug p L s w) (he:YE lo hi w0 L.B w)
  (XG:xV lo hi w0 [.iface 177 (.pointer (some ⟨b0,0,none⟩))] (.br n a fo of cl bs .nil)) (hL:bs.ub=true) (hc:bs.Uo) (hw:bs.wf 2000000=true) (hn:bs.len<=2000000) (hs:s.sz+bs.gw<=900000)
  (hb:zv1 w.heap.size p s bs.keys bg v I) (hI:I L w) :
  Calls prog 161 #[.pointer (some ⟨p,0,none⟩),.pointer (some ⟨b0,0,none⟩),v] w (MQ p L (Uh bs bg s) w):=by
 obtain⟨vt,b',ba,bc,ws,N8,xH,xB,fk,qD,jJ,Mv,B2,Mu,K9,UQ,_⟩:=XG
 cases N8;have c4:=xp he.keep B2 xH xB;obtain⟨k,cap,rfl,C5,vE⟩:=hb.fn;have HH:=z7 h;have HE:=z7 he;have Mq:=z7 K9;have nO:=z7 UQ;have HL:=z7 hL;have HC:=z7 hc;have HW:=z7 hw;have HB:=z7 hb;have HI:=z7 hI;have qC:=z7 vE;have nN:=z7 ih;have HS:=z7 hs;obtain⟨R,hR⟩:∃ R,MkS.qZ bs bg s []=R:=⟨_,rfl⟩;have HR:=z7 hR;have hbR:Uh bs bg s=R.2.foldl (fun s i=>s.uv i 0) R.1:=by unfold Uh;rw[hR]
 rw[hbR];obtain⟨M,hM⟩:∃ M,bs.len=M:=⟨_,rfl⟩;have HM:=z7 hM;rw[hM] at c4 hn;clear h he K9 UQ hL hc hw hb hI vE ih hs hR hbR hM fk qD jJ Mv B2 Mu;go_enter func161,ntmps161;go_wp2_with fail;go_loopw [6,16] (fun lv iv wr=>∃ i us xs r s1 L1 ls GK,iv = .int .i64 (i:Nat)/\i<=M/\xV lo hi w0 xs r/\r.ub=true/\r.Uo/\r.wf 2000000=true/\us.length=i*3/\ws=us++xs/\i+r.len=M/\zx r<=zx bs/\(∀ k∈r.keys,k∈bs.keys) /\
  ug p L1 s1 wr/\(L1.q=L.q/\L1.B=L.B)/\Fr (L.has p) (L1.has p) w wr/\I L1 wr/\s.le s1/\s1.sz+r.gw<=900000/\j9 wr p L1 s1 ls GK/\wr.ownsRow 0 189 1 lv ls.length (AS GK)/\(∀ g,xU lv g->w.heap.size<=g/\¬L1.has p g)/\ls.length=i/\MkS.qZ r bg s1 ls=R) (fun _ iv _=>M - (intOf iv).toNat)
 case atStart =>
  exact⟨0,[],ws,bs,s,L,[],[],rfl,zX _,nO.out,HL.out,HC.out,HW.out,rfl,rfl,by have:=HM.out;omega,zg _,fun _ q=>q,HH.out,⟨rfl,rfl⟩,Fr.refl _ _,HI.out,s.le_refl,HS.out,⟨rfl,fun n i x q=>by simp at q⟩,zR _ _ _ _,(fun g q=>by cases q),rfl,HR.out⟩
 case round =>
  obtain⟨i,us,xs,r,s1,L1,ls,GK,rfl,hiM,fu,ZC,Py,EL,VL,VN,jq,qs,Uc,V6,⟨Ql,Xj⟩,uZ,Vc,zv2,uT,tV,vL,tU,zv3,jR⟩:=hrel;have CK:YE lo hi w0 L1.B wr:=by rw[Xj];exact HE.out.fr uZ HH.out.lo
  obtain⟨la,lc,rfl⟩:=xY vL;by_cases xC:i<M
  ·cases r with
   | nil=>exfalso;simp[Fo.len] at jq;omega
   | text t r=>cases ZC
   | hash r=>cases ZC
   | put n a r=>cases ZC
   | num n a r=>cases ZC
   | br n a fo of cl bs r=>cases ZC
   | uq k0 a0 m0 r0 =>
    obtain⟨PC,ma,mc,ms,rfl,XJ,AP,Ut⟩:=fu;obtain⟨g2,o2,rfl,e0,e1,e2⟩:=Kz CK.keep Mq.out VL VN;have DQ:=z7 V6;have Dm:=z7 CK;have UU:=z7 uZ;have K8:=z7 Vc;have zi1:=z7 zv2;have HLP:=z7 tV;have qB:=z7 vL;have o6:=z7 tU;have bu:=z7 jR;have HLR:=z7 ZC;have S8:=z7 Py;have Us:=z7 EL;have CU:=z7 VL;have WJ:=z7 VN;have o7:=z7 Uc;have K7:=z7 XJ;have HMN:=z7 AP;have QN:=z7 Ut;have Xv:=z7 jq;have dQ:=z7 qs;have gM:=z7 uT;have HLS:=z7 zv3;have k3:(i:Int)<(M:Int):=by omega
    have k4:decide ((i:Int)<(M:Int))=true:=by simp;omega
    clear V6 CK uZ Vc zv2 tV vL tU jR ZC Py EL VL VN Uc XJ AP Ut jq qs uT zv3;go_wp2_with fail;obtain⟨wA,hwA⟩:∃ wA,wr.alloc (.cells #[xf k0,.int .i64 (a0:Nat),.slice ma m0.len mc] 183)=wA:=⟨_,rfl⟩;have fA:Fr xS xS wr wA:=by rw[←hwA];exact(Fr.refl _ _).alloc _
    have cA:=xq wr #[xf k0,.int .i64 (a0:Nat),.slice ma m0.len mc] 183 (0,0) 2;rw[hwA] at cA ⊢;clear hwA;have AT:=DQ.out.fr fA (fun _ q=>q.elim);have Uw:k0∈bs.keys:=o7.out k0 (by simp[Fo.keys]);have uT:=gM.out;simp only[Fo.gw] at uT;refine(qC.out L1 s1 wA k0 a0 ma m0.len mc AT (HB.out.al _ _ _ _ _ K8.out fA (fun _ q=>q.elim)) zi1.out (by omega) Uw).mono ?_;rintro e w2 ⟨rfl,jH,vF⟩;obtain⟨Wr,hbz⟩:=HB.out.le k0 s1;have nA:¬L1.has p wr.heap.size:=fun q=>zY _ (DQ.out.lt q)
    have c2:=vF.cell cA nA;have f12:Fr (L1.has p) (L1.has p) wr w2:=(fA.wide (fun _ q=>q.elim)).trans vF;have CQ:YE lo hi w0 L1.B w2:=Dm.out.fr f12 DQ.out.lo;have Py:=S8.out;have bQ:(decide (k0.length<=4000001) && m0.vD && decide (m0.len<=2000000) && m0.wf 2000000 && r0.wf 2000000)=true:=Us.out;simp only[zk,decide_eq_true_eq] at bQ;have zi2:zx m0<zx bs:=by have:=dQ.out;simp at this;omega
    have S9:=z7 (nN.out m0 zi2 p L1 (bg k0 s1) w2 ma mc ms jH CQ K7.out HMN.out bQ.1.1.1.2 bQ.1.2 Py.2.1 bQ.1.1.2 (by omega));have F12:=z7 f12;have mV:=z7 bQ.2;clear jH vF f12 CQ Py bQ zi2 cA fA AT;go_wp2_with fail;refine S9.out.mono ?_;rintro e w3 ⟨rfl,L2,KN,⟨ju,Jv⟩,gY⟩;have D5:=z7 KN;have Vi:=z7 gY;clear KN gY S9 c2;obtain⟨w4,B3,du,VD⟩:=V9 1 w3 (by omega);rw[show((1:Nat):Int)=1 from rfl] at B3;have KM:=D5.out.fr VD (fun _ q=>q.elim);have tQ:YE lo hi w0 L2.B w3:=by
     have:=(Dm.out.fr F12.out DQ.out.lo).fr Vi.out DQ.out.lo;rw[Jv];exact this
    have he4:YE lo hi w0 L2.B w4:=tQ.fr VD (fun _ q=>q.elim);obtain⟨s2,qU⟩:∃ s2,MkS.dM m0 (bg k0 s1)=s2:=⟨_,rfl⟩;rw[qU] at KM D5;have hmz:=N3 m0 (bg k0 s1);rw[qU] at hmz;have hx:(uG ⟨11,s2.pos,0,[],z8 1 0⟩).length=3:=by simp[uG,fJ,jx,jy]
    have VO:s2.sz<=900000:=by omega
    unfold MkS.sz at VO;have HP:=z7 (b8 p L2 s2 11 0 [] (z8 1 0) (.slice none 0 0) (.slice (some ⟨w3.heap.size,0,none⟩) 1 1) w4 KM (qV.nil _) du (fun g hg=>by cases hg) (fun g hg q=>by cases hg;exact zY _ (D5.out.lt q)) (fun g hg q=>by cases q)
     (fun g hg=>by rcases hg with hg|hg<;>cases hg;have:=D5.out.base;show L2.B<=w3.heap.size;omega)
     ⟨(by decide:11<12),by simp,by simp,by simp,by simp,rfl⟩ he4.fo he4.g1 (by omega) (by omega) (by omega))
    have Wm:=z7 VD;have yj9:=z7 qU;have HMZ:=z7 hmz;clear KM tQ he4 du VD hmz hx qU;go_wp2_with fail;refine HP.out.mono ?_;rintro e w5 ⟨b,c,rfl,I8,jw,Mu,L3,JD,⟨XY,DK⟩,JB,nb5,nc5⟩;have RP:=z7 JD;have RR:=z7 JB;have Jk:=z7 I8;clear HP JD JB I8;have FA:=z7 (show Fr (L1.has p) (L3.has p) wr w5 from(((F12.out.trans Vi.out).trans (Wm.out.wide (fun _ q=>q.elim))).tr RR.out (fun q hq=>by
     rcases hq with hq|hq|hq
     ·exact(F12.out.trans Vi.out).fp q hq
     ·cases hq
     ·cases hq;exact .inr (F12.out.trans Vi.out).size)))
    have hro:=FA.out.own qB.out (fun g hg=>(o6.out g hg).2);obtain⟨ln,jq⟩:∃ ln,ls.length=ln:=⟨_,rfl⟩;rw[jq] at hro qB o6 ⊢;have yjz:ln<=2000000:=by have:=HLS.out;omega
    have JM:=z7 hro;have AO:=z7 jq;clear hro jq;go_wp2_with (at_builtin;refine C0 S6 [_] 1 JM.out (by omega) ?_);intro v6 w6 QO ZO;have n3:∀ g,xU (.slice la ln lc) g->¬L3.has p g:=fun g hg q=>(FA.out.fp g q).elim (o6.out g hg).2 (by have:=ur qB.out hg;omega)
    have Dz:s1.le s2:=MkS.le_trans (HB.out.le k0 s1).1 HMZ.out.1;have hl3:=MkS.le_trans Dz (MkS.bn s2 11 0 [] (z8 1 0));have CJ:=jt s2 11 0 [] (z8 1 0);have Hy:(uG ⟨11,s2.pos,0,[],z8 1 0⟩).length=3:=by simp[uG,fJ,jx,jy]
    have Mk:=HMZ.out.2;have G1:=z7 (RP.out.fr ZO n3);have G2:=z7 ((UU.out.trans FA.out).over ZO (fun q hq => .inr (o6.out q hq).1));have G3:=z7 (HB.out.al _ _ _ _ _ (HB.out.fr _ _ _ _ K8.out FA.out) ZO (fun q hq=>(o6.out q hq).1));have G4:=z7 (((HLP.out.fr FA.out hl3).more Jk.out nb5 nc5 (i:=s2.code.length) (y:=⟨11,s2.pos,0,[],z8 1 0⟩) (by simp[MkS.put]) (by simp)).ty ZO (fun q hq=>jK JM.out hq));have G5:=z7 (show ∀ g,xU v6 g->w.heap.size<=g/\¬L3.has p g from fun g hg=>(ZO.fp g hg).elim (fun q=>⟨(o6.out g q).1,n3 g q⟩) (fun q=>⟨zZ (UU.out.trans FA.out).size q,fun e=>by have:=RP.out.lt e;omega⟩));obtain⟨a6,c6,rfl⟩:=xY QO;have sH:=z7 QO;clear QO ZO n3 B3;have hzb:=(HB.out.le k0 s1).2;go_wp2;go_roundw
    case rel =>
     refine⟨i+1,us++[xf k0,.int .i64 (a0:Nat),.slice ma m0.len mc],PC,r0,s2.put 11 0 [] (z8 1 0),L3,ls++[s2.code.length],GK++[(b,c)],by go_num,by omega,QN.out,HLR.out,S8.out.2.2,mV.out,by simp[CU.out];omega,by rw[WJ.out];simp,by have:=Xv.out;simp only[Fo.len] at this;omega,by have:=dQ.out;simp at this;omega,fun k hk=>o7.out k (by simp[Fo.keys,hk]),G1.out,⟨by rw[XY,ju,Ql],by rw[DK,Jv,Xj]⟩,G2.out,G3.out,MkS.le_trans zi1.out hl3,by omega,G4.out,?_,G5.out,by rw[zP,HLS.out];rfl,?_⟩
     ·have:=sH.out;rw[←AO.out] at this ⊢;simpa[AS] using this
     ·have:=bu.out;rw[go_leg,yj9.out] at this;exact this
    case measure=>simp only[intOf];omega
  ·have vZ:MkS.qZ r bg s1 ls=(s1,ls):=by
    cases r with
    | nil=>rfl
    | text t r=>cases ZC
    | hash r=>cases ZC
    | put n a r=>cases ZC
    | num n a r=>cases ZC
    | br n a fo of cl bs r=>cases ZC
    | uq k0 a0 m0 r0=>exfalso;simp only[Fo.len] at jq;omega
   obtain rfl:(s1,ls)=R:=vZ.symm.trans jR;have DQ:=z7 V6;have UU:=z7 uZ;have HLP:=z7 tV;have qB:=z7 vL;have o6:=z7 tU;have gM:=z7 uT;obtain⟨ln,zv6⟩:∃ ln,ls.length=ln:=⟨_,rfl⟩;rw[zv6] at qB o6 ⊢;have yjz:ln<=2000000:=by omega
   have Xv:=z7 zv6;clear V6 CK uZ Vc zv2 tV vL tU jR ZC Py EL VL VN Uc jq qs uT fu vZ zv6 zv3;go_wp2_with fail;go_loopw [37] (fun jv wr2=>∃ j s2,jv = .int .i64 (j:Nat)/\j<=ln/\ug p L1 s2 wr2/\Fr (L1.has p) (L1.has p) wr wr2/\s2=(ls.take j).foldl (fun s i=>s.uv i 0) s1/\j9 wr2 p L1 s2 ls GK/\s2.sz<=900000) (fun jv _=>ln - (intOf jv).toNat)
   case atStart=>exact⟨0,s1,rfl,zX _,DQ.out,Fr.refl _ _,rfl,HLP.out,by have:=gM.out;omega⟩
   case round =>
    obtain⟨j,s2,rfl,hj,jH,vF,qU,Px,VO⟩:=hrel;have YJ:=z7 jH;have dI:=z7 vF;have my:=z7 Px;have di:=z7 qU;by_cases Zg:j<ln
    ·obtain⟨ij,hij⟩:∃ ij,ls[j]? = some ij:=⟨_,zj (by have:=Xv.out;omega)⟩;obtain⟨⟨b,c⟩,Dd⟩:∃ x,GK[j]? = some x:=⟨_,zj (by have:=Xv.out;have:=HLP.out.1;omega)⟩;obtain⟨B4,-,-,y,hy,hy1⟩:=Px.2 j ij (b,c) hij Dd;have hro:=vF.own qB.out (fun g hg=>(o6.out g hg).2);obtain⟨g,gc,hve,-,-,ZG⟩:=vQ hro (by omega)
     cases hve;have qD:wr.cell? ⟨g,j,none⟩=some (bN b c):=by
      rw[ZG j (by omega)];simp[AS,Dd]
     have zi7:s2.code.length<=1000000:=by unfold MkS.sz at VO;omega
     have HLA:=z7 (UI p L1 s2 ij 0 b c y wr jH B4 hy (by omega) zi7 (by omega));have HIJ:=z7 hij;have k3:(j:Int)<(ln:Int):=by omega
     have k4:decide ((j:Int)<(ln:Int))=true:=by simp;omega
     clear jH vF Px qU B4 hy hro ZG hij Dd;go_wp2_with fail;refine HLA.out.mono ?_;rintro e w3 ⟨rfl,KN,gY⟩;have D5:=z7 KN;have Vi:=z7 gY;clear KN gY HLA;go_wp2;go_roundw
     case rel =>
      refine⟨j+1,s2.uv ij 0,by go_num,by omega,D5.out,dI.out.trans Vi.out,?_,my.out.fr Vi.out (s2.ZB _ _),by rw[gO];exact VO⟩;rw[List.take_add_one,HIJ.out];simp[di.out]
     case measure=>simp only[intOf];omega
    ·have HE2:=z7 (show s2=ls.foldl (fun s i=>s.uv i 0) s1 by rw[qU,List.take_of_length_le (by have:=Xv.out;omega)]);have k3:¬(j:Int)<(ln:Int):=by omega
     have k4:decide ((j:Int)<(ln:Int))=false:=by simp;omega
     clear jH vF Px qU;go_wp2;refine bodyPost_ret (v := .tuple #[]) ?_ rfl ?_
     ·simp[results,results161,go_sem]
     rw[←HE2.out];exact⟨rfl,L1,YJ.out,⟨Ql,Xj⟩,UU.out.trans dI.out⟩
def U6(w:World)(b n:Nat)(f:Wd->Option Nat):Prop :=
 ∃ D:DataW Unit,w.ownsMap prog 9 (plainElem prog 3) b n D/\Maps.size D=n/\∀ m:Wd,yk D (.string m)=(f m).isSome/\D.atKey (.string m) (.lit (.int .i64 0)) = .lit (.int .i64 (((f m).getD 0:Nat):Int))
theorem U6.g{w:World}{b n:Nat}{f:Wd->Option Nat}(h:U6 w b n f):km 3 w b n f:=by
 obtain⟨D,h1,-,h3⟩:=h;exact⟨D,h1,h1.isMap,h3⟩
theorem U6.made(w:World):U6 (w.alloc (.map #[] 0)) w.heap.size 0 (fun _=>none):=⟨.map [],zN w _ _ _,rfl,fun m=>⟨rfl,rfl⟩⟩
theorem U6.fr{w w':World}{F F':Nat->Prop}{b n:Nat}{f:Wd->Option Nat}(h:U6 w b n f)(hf:Fr F F' w w')(hb:¬F b):U6 w' b n f:=by
 have hl:=h.g.lt;obtain⟨D,⟨es,clock,ho,rest⟩,h2⟩:=h;exact⟨D,⟨es,clock,(hf.keep b hl hb).trans ho,rest⟩,h2⟩
theorem U6.len{w:World}{b n:Nat}{f:Wd->Option Nat}(h:U6 w b n f)(ty:TypeId):(yu #[185] ty #[.map (some b)]).run prog w = .ok (.int .i64 (n:Nat)) w:=by
 obtain⟨D,h1,rfl,_⟩:=h;exact h1.len underlying185 ty
theorem U6.put{w:World}{b n:Nat}{f:Wd->Option Nat}(h:U6 w b n f)(m:Wd)(hm:m.length<=5000000)(k:Nat)(hk:k<=1000000000)(hn:n<=1000000000)(hf:f m=none) :
  ∃ w',(za 185 (.map (some b)) (xf m) (.int .i64 (k:Int))).run prog w = .ok () w'/\U6 w' b (n+1) (fun x=>if m=x then some k else f x)/\w.grownBy w' (some b):=by
 obtain⟨D,h1,h2,h3⟩:=h;have hi:=h1.isMap;have hti:=h1.tidy (zG underlying9);obtain⟨w',vH,xJ,hg⟩:=h1.update (zG underlying9) underlying185 (by unfold maxLen;omega) (key:=xf m) (zU (s:=⟨m.toArray⟩) underlying9 (by rw[size_mk];unfold maxLen;omega))
  (plainElem_int underlying3 (q := .i64) (a:=(k:Int)) (by simp[Lit.wf,yj,yg,zw,yv];omega))
 rw[toList_mk] at xJ;refine⟨w',vH,⟨_,xJ,?_,fun x=>?_⟩,hg⟩
 ·rw[Maps.size_put hti,(h3 m).1,hf];simp[h2]
 ·by_cases hx:m=x
  ·subst hx;simp only[↓reduceIte];exact⟨by rw[zS hi (show zf (.string m) from trivial)];simp,by rw[zM hi (show zf (.string m) from trivial)];simp⟩
  ·simp only[hx,↓reduceIte];have xw:(Lit.string x) ≠ .string m:=fun q=>hx (by cases q;rfl)
   exact⟨by rw[zO xw];exact(h3 x).1,by rw[zL xw];exact(h3 x).2⟩
structure ZS(N p i4 pb mb:Nat)(kv:Value)(acc:List Nat)(done:List Wd)(L:dW)(w:World):Prop where
 k0:w.cell? ⟨i4,0,none⟩=some (.int .i64 10)
 k1:w.cell? ⟨i4,1,none⟩=some (.int .i64 0)
 k2:w.cell? ⟨i4,2,none⟩=some (.int .i64 0)
 k3:w.cell? ⟨i4,3,none⟩=some kv
 k4:w.cell? ⟨i4,4,none⟩=some (.slice none 0 0)
 z:∀ j,w.frozen? ⟨i4,j,none⟩=false
 pm:w.cell? ⟨pb,0,none⟩=some (.map (some mb))
 mp:U6 w mb done.length (kG done)
 row:qV w kv acc
 lo:N<=i4/\N<=pb/\N<=mb/\∀ g,xU kv g->N<=g
 out:¬L.has p i4/\¬L.has p pb/\¬L.has p mb/\∀ g,xU kv g->¬L.has p g
 ne:i4≠pb/\i4≠mb/\pb≠mb/\¬xU kv i4/\¬xU kv pb/\¬xU kv mb
section
variable {N p i4 pb mb:Nat} {kv:Value} {acc:List Nat} {done:List Wd} {L L':dW} {w w':World}
theorem ZS.lt(h:ZS N p i4 pb mb kv acc done L w):i4<w.heap.size/\pb<w.heap.size/\mb<w.heap.size:=⟨zy w _ h.k0,zy w _ h.pm,h.mp.g.lt⟩
theorem ZS.keep{F F':Nat->Prop}(h:ZS N p i4 pb mb kv acc done L w)(hf:Fr F F' w w')(hF:∀ g,(g=i4\/g=pb\/g=mb\/xU kv g)->¬F g)(ho:∀ g,(g=i4\/g=pb\/g=mb\/xU kv g)->¬L'.has p g):ZS N p i4 pb mb kv acc done L' w':=by
 have a:=hF i4 (.inl rfl);have b:=hF pb (.inr (.inl rfl));have c:=hF mb (.inr (.inr (.inl rfl)));exact⟨hf.cell h.k0 a,hf.cell h.k1 a,hf.cell h.k2 a,hf.cell h.k3 a,hf.cell h.k4 a,fun j=>(hf.frozen h.lt.1 a).trans (h.z j),hf.cell h.pm b,h.mp.fr hf c,hf.own h.row (fun g hg=>hF g (.inr (.inr (.inr hg)))),h.lo,⟨ho i4 (.inl rfl),ho pb (.inr (.inl rfl)),ho mb (.inr (.inr (.inl rfl))),fun g hg=>ho g (.inr (.inr (.inr hg)))⟩,h.ne⟩
theorem ZS.all(h:ZS N p i4 pb mb kv acc done L w):∀ g,(g=i4\/g=pb\/g=mb\/xU kv g)->¬L.has p g/\g<w.heap.size/\N<=g:=by
 rintro g (rfl|rfl|rfl|hg)
 ·exact⟨h.out.1,h.lt.1,h.lo.1⟩
 ·exact⟨h.out.2.1,h.lt.2.1,h.lo.2.1⟩
 ·exact⟨h.out.2.2.1,h.lt.2.2,h.lo.2.2.1⟩
 ·exact⟨h.out.2.2.2 g hg,ur h.row hg,h.lo.2.2.2 g hg⟩
theorem ZS.fr(h:ZS N p i4 pb mb kv acc done L w)(hf:Fr (L.has p) (L'.has p) w w'):ZS N p i4 pb mb kv acc done L' w' :=
 h.keep hf (fun g hg=>(h.all g hg).1) (fun g hg q=>(hf.fp g q).elim (h.all g hg).1 (by have:=(h.all g hg).2.1;omega))
theorem ZS.al{F F':Nat->Prop}(h:ZS N p i4 pb mb kv acc done L w)(hf:Fr F F' w w')(hF:∀ g,F g->w.heap.size<=g):ZS N p i4 pb mb kv acc done L w' :=
 h.keep hf (fun g hg q=>by have:=hF g q;have:=(h.all g hg).2.1;omega) (fun g hg=>(h.all g hg).1)
theorem ZS.key{t:Wd}(h:ZS N p i4 pb mb kv acc done L w)(ht:t ∉ done)(hm:U6 w' mb (done.length+1) (fun x=>if t=x then some done.length else kG done x))(hg:w.grownBy w' (some mb)):ZS N p i4 pb mb kv acc (done++[t]) L w':=by
 have hf:Fr (fun k=>k=mb) (fun k=>k=mb) w w':=⟨hg.os,hg.tape,hg.output,hg.size,fun k hk hn=>hg.block k hk (fun e=>hn (zv e)),fun _ q => .inl q⟩;obtain⟨n1,n2,n3,n4,n5,n6⟩:=h.ne;rw[KL ht] at hm;exact⟨hf.cell h.k0 n2,hf.cell h.k1 n2,hf.cell h.k2 n2,hf.cell h.k3 n2,hf.cell h.k4 n2,fun j=>(hf.frozen h.lt.1 n2).trans (h.z j),hf.cell h.pm n3,by simpa using hm,hf.own h.row (fun g hg e=>n6 (e▸hg)),h.lo,h.out,h.ne⟩
theorem ZS.num{o8:Value}{n:Nat}{w2:World}(h:ZS N p i4 pb mb kv acc done L w)(hr:qV w2 o8 (acc++[n]))(hf:Fr (xU kv) (xU o8) w w2)(hL:∀ g,L.has p g->g<w.heap.size)(hN:N<=w.heap.size):ZS N p i4 pb mb o8 (acc++[n]) done L (w2.setCell ⟨i4,3,none⟩ o8):=by
 obtain⟨n1,n2,n3,n4,n5,n6⟩:=h.ne;have lv:∀ g,xU o8 g->xU kv g\/w.heap.size<=g:=hf.fp;have nv:∀ g,g<w.heap.size->¬xU kv g->¬xU o8 g:=fun g a b c=>(lv g c).elim b (by omega)
 have c:=fun (j:Nat) (v:Value) (hc:w.cell? ⟨i4,j,none⟩=some v) (hj:j≠3)=>(show(w2.setCell ⟨i4,3,none⟩ o8).cell? ⟨i4,j,none⟩=some v by rw[xd,if_neg (fun e=>hj (by cases e;rfl))];exact hf.cell hc n4)
 refine⟨c 0 _ h.k0 (by decide),c 1 _ h.k1 (by decide),c 2 _ h.k2 (by decide),uj (hf.cell h.k3 n4) _,c 4 _ h.k4 (by decide),fun j=>by rw[World.frozen?_setCell];exact(hf.frozen h.lt.1 n4).trans (h.z j),uJ (hf.cell h.pm n5) _ n1,
  (h.mp.fr hf n6).fr (show Fr (fun g=>g=i4) (fun g=>g=i4) w2 (w2.setCell ⟨i4,3,none⟩ o8) from(Fr.refl _ _).set _ (.inl rfl)) (fun e=>n2 e.symm),ownsRow_setCell_other hr (nv _ h.lt.1 n4) _,⟨h.lo.1,h.lo.2.1,h.lo.2.2.1,fun g hg=>(lv g hg).elim (h.lo.2.2.2 g) (by omega)⟩,
  ⟨h.out.1,h.out.2.1,h.out.2.2.1,fun g hg=>(lv g hg).elim (h.out.2.2.2 g) (fun a b=>by have:=hL g b;omega)⟩,n1,n2,n3,nv _ h.lt.1 n4,nv _ h.lt.2.1 n5,nv _ h.lt.2.2 n6⟩
end
structure Q5(N p idx tb b c pb mb n:Nat)(f:Wd->Option Nat)(L:dW)(w:World):Prop where
 t:w.cell? ⟨tb,0,none⟩=some (bN b c)
 l:kh w p idx b c
 pm:w.cell? ⟨pb,0,none⟩=some (.map (some mb))
 mp:km 3 w mb n f
 out:¬L.has p tb/\¬L.has p b/\¬L.has p c/\¬L.has p pb/\¬L.has p mb
 lt:tb<N/\b<N/\c<N/\pb<N/\mb<N
section
variable {N p idx tb b c pb mb n:Nat} {f:Wd->Option Nat} {L L':dW} {w w':World}
theorem Q5.keep{F F':Nat->Prop}(h:Q5 N p idx tb b c pb mb n f L w)(hf:Fr F F' w w')(hF:∀ g,(g=tb\/g=b\/g=c\/g=pb\/g=mb)->¬F g/\¬L'.has p g):Q5 N p idx tb b c pb mb n f L' w':=by
 have h1:=hF tb (.inl rfl);have h2:=hF b (.inr (.inl rfl));have h3:=hF c (.inr (.inr (.inl rfl)));have h4:=hF pb (.inr (.inr (.inr (.inl rfl))));have h5:=hF mb (.inr (.inr (.inr (.inr rfl))));exact⟨hf.cell h.t h1.1,h.l.fr hf h2.1 h3.1,hf.cell h.pm h4.1,h.mp.fr hf h5.1,⟨h1.2,h2.2,h3.2,h4.2,h5.2⟩,h.lt⟩
theorem Q5.all(h:Q5 N p idx tb b c pb mb n f L w):∀ g,(g=tb\/g=b\/g=c\/g=pb\/g=mb)->¬L.has p g/\g<N/\g<w.heap.size:=by
 obtain⟨o1,o2,o3,o4,o5⟩:=h.out;obtain⟨l1,l2,l3,l4,l5⟩:=h.lt;rintro g (rfl|rfl|rfl|rfl|rfl)
 ·exact⟨o1,l1,zy w _ h.t⟩
 ·exact⟨o2,l2,h.l.lt.1⟩
 ·exact⟨o3,l3,h.l.lt.2⟩
 ·exact⟨o4,l4,zy w _ h.pm⟩
 ·exact⟨o5,l5,h.mp.lt⟩
theorem Q5.fr(h:Q5 N p idx tb b c pb mb n f L w)(hf:Fr (L.has p) (L'.has p) w w'):Q5 N p idx tb b c pb mb n f L' w' :=
 h.keep hf (fun g hg=>⟨(h.all g hg).1,fun q=>(hf.fp g q).elim (h.all g hg).1 (by have:=(h.all g hg).2.2;omega)⟩)
theorem Q5.al{F F':Nat->Prop}(h:Q5 N p idx tb b c pb mb n f L w)(hf:Fr F F' w w')(hF:∀ g,F g->N<=g):Q5 N p idx tb b c pb mb n f L w' :=
 h.keep hf (fun g hg=>⟨fun q=>by have:=hF g q;have:=(h.all g hg).2.1;omega,(h.all g hg).1⟩)
theorem AW(s:MkS)(x:jC)(key:Wd)(a:Nat)(ma:Option Addr)(mn mc:Nat)(hm:ug p L s w)(h:Q5 N p idx tb b c pb mb n f L w)(hk:key.length<=17)(hx:s.code[idx]? = some x)(hj:(f key).getD 0<x.tg.length)(hl:x.tg.length<=1000000)(hs:s.code.length<=900000) :
  Calls prog 162 #[.agg #[xf key,.int .i64 (a:Nat),.slice ma mn mc],.pointer (some ⟨tb,0,none⟩),.pointer (some ⟨pb,0,none⟩)] w (Ep p L (s.uv idx ((f key).getD 0)) w):=by
 obtain⟨A,hA⟩:∃ A,w.alloc (.cells #[xf key,.int .i64 (a:Nat),.slice ma mn mc] 183)=A:=⟨_,rfl⟩;have fA:Fr xS xS w A:=by rw[←hA];exact(Fr.refl _ _).alloc _
 have PE:=h.keep fA (L':=L) (fun g hg=>⟨id,(h.all g hg).1⟩);have AT:=hm.fr fA (fun _ q=>q.elim);have cA:=xq w #[xf key,.int .i64 (a:Nat),.slice ma mn mc] 183 (0,0) 0;obtain⟨j,hjj⟩:∃ j,(f key).getD 0=j:=⟨_,rfl⟩;have Vd:=PE.mp.KI Qi key (by omega);rw[hjj] at Vd hj ⊢;have ht:=PE.t;have hp:=PE.pm;have HL:=z7 (UI p L s idx j b c x A AT PE.l hx hj (by omega) hl);have PH:=z7 fA;have HX:=z7 hA;subst hA;clear h hm PE AT hx hj hjj fA;go_enter func162,ntmps162;go_wp2_with fail;refine HL.out.mono ?_;rintro e w2 ⟨rfl,jH,vF⟩;have YJ:=z7 jH;have dI:=z7 vF;clear HL jH vF;go_wp2;refine bodyPost_ret (v := .tuple #[]) ?_ rfl ?_
 ·simp[results,results162,go_sem]
 exact⟨rfl,YJ.out,(PH.out.wide (fun _ q=>q.elim)).trans dI.out⟩
end
theorem Sz{p:Nat}{L:dW}{s:MkS}{w:World}(h:ug p L s w)(n N:Nat)(hN:N<=w.heap.size) :
  ∃ W,W=(((w.alloc (.cells #[.int .i64 (n:Nat)] 3)).alloc (.cells #[.int .i64 10,.int .i64 0,.int .i64 0,.slice (some ⟨w.heap.size,0,none⟩) 1 1,.slice none 0 0] 128)).alloc (.map #[] 0)).alloc (.cells #[.map (some (w.heap.size+2))] 185) /\
   ZS N p (w.heap.size+1) (w.heap.size+3) (w.heap.size+2) (.slice (some ⟨w.heap.size,0,none⟩) 1 1) [n] [] L W/\Fr xS xS w W:=by
 obtain⟨A,hA⟩:∃ A,w.alloc (.cells #[.int .i64 (n:Nat)] 3)=A:=⟨_,rfl⟩;have sA:A.heap.size=w.heap.size+1:=by rw[←hA];simp
 have rA:qV A (.slice (some ⟨w.heap.size,0,none⟩) 1 1) [n]:=by rw[←hA];exact qV.lit w [n] (by simp)
 have fA:Fr xS xS w A:=by rw[←hA];exact(Fr.refl _ _).alloc _
 rw[hA];clear hA;obtain⟨B,hB⟩:∃ B,A.alloc (.cells #[.int .i64 10,.int .i64 0,.int .i64 0,.slice (some ⟨w.heap.size,0,none⟩) 1 1,.slice none 0 0] 128)=B:=⟨_,rfl⟩;have cB:=fun j=>xq A #[.int .i64 10,.int .i64 0,.int .i64 0,.slice (some ⟨w.heap.size,0,none⟩) 1 1,.slice none 0 0] 128 (0,0) j
 have zB:∀ j,B.frozen? ⟨w.heap.size+1,j,none⟩=false:=by intro j;rw[←hB,←sA];simp
 rw[hB,sA] at cB;have sB:B.heap.size=w.heap.size+2:=by rw[←hB];simp[sA]
 have fB:Fr xS xS A B:=by rw[←hB];exact(Fr.refl _ _).alloc _
 rw[hB];clear hB;obtain⟨C,hC⟩:∃ C,B.alloc (.map #[] 0)=C:=⟨_,rfl⟩;have mC:=U6.made B;rw[hC,sB] at mC;have sC:C.heap.size=w.heap.size+3:=by rw[←hC];simp[sB]
 have fC:Fr xS xS B C:=by rw[←hC];exact(Fr.refl _ _).alloc _
 rw[hC];clear hC;have fD:Fr xS xS C (C.alloc (.cells #[.map (some (w.heap.size+2))] 185)):=(Fr.refl _ _).alloc _;have f:=fC.trans fD;have no:∀ g,w.heap.size<=g->¬L.has p g:=fun g hg q=>by have:=h.lt q;omega
 refine⟨_,rfl,⟨f.cell (cB 0) id,f.cell (cB 1) id,f.cell (cB 2) id,f.cell (cB 3) id,f.cell (cB 4) id,fun j=>(f.frozen (show w.heap.size+1<_ by omega) id).trans (zB j),?_,mC.fr fD id,(fB.trans f).own rA (fun _ _=>id),⟨by omega,by omega,by omega,fun g hg=>by cases hg;exact hN⟩,
  ⟨no _ (by omega),no _ (by omega),no _ (by omega),fun g hg=>no g (by cases hg;exact zg _)⟩,⟨by omega,by omega,by omega,fun e=>?_,fun e=>?_,fun e=>?_⟩⟩,fA.trans (fB.trans f)⟩
 ·rw[←sC];exact xq C #[.map (some (w.heap.size+2))] _ _ _
 all_goals
  have e2:w.heap.size=_:=zv e;omega
theorem AA(ks:List Wd)(k:Wd)(h:k∈ks):(kG (ks.filter (· ≠ qb)++[qb]) k).getD 0=MkS.place ks k/\MkS.place ks k<=(ks.filter (· ≠ qb)).length:=by
 unfold kG MkS.place;by_cases hk:k=qb
 ·subst hk;rw[if_pos (by simp),if_pos rfl];have:qb ∉ ks.filter (· ≠ qb):=by simp
  simp[zh,this,List.idxOf_cons]
 ·have hm:k∈ks.filter (· ≠ qb):=yx.2 ⟨h,by simp[hk]⟩;rw[if_pos (by simp[h,hk]),if_neg hk,zh,if_pos hm];exact⟨rfl,List.idxOf_le_length⟩
theorem CG{lo hi:Nat}{w0:World}(b0:Nat)(n:Wd)(a:Nat)(of:Wd)(cl:Nat)(bs:Fo)(p:Nat)(L:dW)(s:MkS)(w:World)
  (ih:∀ m:Fo,zx m<zx bs->I7 lo hi w0 m) (h:ug p L s w) (he:YE lo hi w0 L.B w)
  (XG:xV lo hi w0 [.iface 177 (.pointer (some ⟨b0,0,none⟩))] (.br n a 0 of cl bs .nil)) (hc:(Fo.br n a 0 of cl bs .nil).Uo) (JO:(Fo.br n a 0 of cl bs .nil).wf 2000000=true) (hs:s.sz+(40+bs.cw)<=900000) :
  Calls prog 121 #[.pointer (some ⟨p,0,none⟩),.pointer (some ⟨b0,0,none⟩)] w (MQ p L (Uh bs (MkS.bz n bs s) (MkS.kV n bs s)) w):=by
 have M4:=@run_makeMap prog;have HND:=z7 XG;obtain⟨vt,b',ba,bc,ws,N8,xH,xB,fk,qD,jJ,Mv,B2,Mu,K9,UQ,_⟩:=XG
 cases N8;obtain⟨hnl,-,-,hL,Aa,tu,Dd,-⟩:=hc;have bQ:(decide (n.length<=4000001) && decide (0<3) && bs.ub && decide (bs.len<=2000000) && bs.wf 2000000 && Fo.nil.wf 2000000)=true:=JO;simp only[zk,decide_eq_true_eq] at bQ;obtain⟨⟨⟨-,I3⟩,qI⟩,-⟩:=bQ;have c0:=xp he.keep fk xH xB;have c4:=xp he.keep B2 xH xB;have qs:s.cs.length<=900000/\s.code.length<=900000/\s.pos<=900000:=by unfold MkS.sz at hs;omega
 have HC:=z7 (V4 p L s n w h (by omega) (by omega));have HH:=z7 h;have HE:=z7 he;have Mq:=z7 K9;have nO:=z7 UQ;have HL:=z7 hL;have N9:=z7 Aa;have HKS:=z7 tu;have HBC:=z7 Dd;have I4:=z7 qI;have nN:=z7 ih;have HS:=z7 hs;obtain⟨M,hM⟩:∃ M,bs.len=M:=⟨_,rfl⟩;have HM:=z7 hM;rw[hM] at c4 I3;obtain⟨k0,CF⟩:∃ k0,s.num n=k0:=⟨_,rfl⟩;rw[CF] at HC;have PI:=z7 CF;clear h he K9 UQ hL Aa tu Dd qI ih hs hM fk qD jJ Mv B2 Mu CF JO;go_enter func121,ntmps121;go_wp2_with fail;refine HC.out.mono ?_;rintro e w1 ⟨rfl,L1,V6,⟨Ql,Xj⟩,uZ⟩;clear HC;obtain⟨W,hW,RL,Jt⟩:=Sz V6 k0 w.heap.size uZ.size;have c4:=uZ.cell (a:=⟨b0,4,none⟩) c4 (fun q=>by have:=HH.out.lo _ q;have:=HE.out.hB;simp only at *;omega);have c4a:=fun o1 o2 o3 o4=>xG (xG (xG (xG c4 o1) o2) o3) o4
 obtain⟨R,hR⟩:∃ R,MkS.j4 bs (s.const n) [k0]=R:=⟨_,rfl⟩;have HR:=z7 hR;have z1:=(vY s n).1;go_wp2_with fail;rw[←hW];obtain⟨i4,hi4⟩:∃ i4,w1.heap.size+1=i4:=⟨_,rfl⟩;obtain⟨pb,o9⟩:∃ pb,w1.heap.size+3=pb:=⟨_,rfl⟩;obtain⟨mb,EM⟩:∃ mb,w1.heap.size+2=mb:=⟨_,rfl⟩;rw[hi4,show i4+1+1=pb by omega];go_loopw [24] (fun iv wr=>∃ i us xs r s1 L2 acc kv done pre,iv = .int .i64 (i:Nat)/\i<=M/\xV lo hi w0 xs r/\r.ub=true/\us.length=i*3/\ws=us++xs/\i+r.len=M/\bs.keys=pre++r.keys/\done=pre.filter (· ≠ qb) /\
  ug p L2 s1 wr/\(L2.q=L.q/\L2.B=L.B)/\Fr (L.has p) (L2.has p) w wr/\ZS w.heap.size p i4 pb mb kv acc done L2 wr/\MkS.j4 r s1 acc=R/\done.length<=i/\(acc.length=done.length+1/\∀ x∈acc,x<=900000)/\s1.sz+r.keys.length<=899990) (fun iv _=>M - (intOf iv).toNat)
 case atStart =>
  rw[hi4,o9,EM] at RL;exact⟨0,[],ws,bs,s.const n,L1,[k0],_,[],[],rfl,zX _,nO.out,HL.out,rfl,rfl,by have:=HM.out;omega,rfl,rfl,V6.fr Jt (fun _ q=>q.elim),⟨Ql,Xj⟩,uZ.trans (Jt.wide (fun _ q=>q.elim)),RL,HR.out,zg _,⟨rfl,by have:=C3 s n;have:=PI.out;simp;omega⟩,by have:=HS.out;have:=Fo.YC bs;omega⟩
 case round =>
  clear hW RL Jt V6 uZ c4 c4a hR;obtain⟨i,us,xs,r,s1,L2,acc,kv,done,pre,rfl,hiM,fu,ZC,VL,VN,jq,Q6,I9,jH,⟨ju,Jv⟩,vF,tK,jR,qz,⟨qd,hax⟩,uT⟩:=hrel;have HAX:=z7 hax;have mU:=z7 qd;have yjq:acc.length<=i+1:=by omega
  clear hax qd;have CQ:YE lo hi w0 L2.B wr:=by rw[Jv];exact HE.out.fr vF HH.out.lo
  have YJ:=z7 jH;have HE2:=z7 CQ;have dI:=z7 vF;have Ac:=z7 tK;have bu:=z7 jR;have HLR:=z7 ZC;have CU:=z7 VL;have WJ:=z7 VN;have Xv:=z7 jq;have CD:=z7 Q6;have HDN:=z7 I9;have gM:=z7 uT;by_cases xC:i<M
  ·cases r with
   | nil=>exfalso;simp[Fo.len] at jq;omega
   | text t r=>cases ZC
   | hash r=>cases ZC
   | put n a r=>cases ZC
   | num n a r=>cases ZC
   | br n a fo of cl bs r=>cases ZC
   | uq k1 a0 m0 r0 =>
    obtain⟨PC,ma,mc,ms,rfl,XJ,AP,Ut⟩:=fu;obtain⟨g2,o2,rfl,e0,e1,e2⟩:=Kz CQ.keep Mq.out VL VN;have QN:=z7 Ut;have k3:(i:Int)<(M:Int):=by omega
    have k4:decide ((i:Int)<(M:Int))=true:=by simp;omega
    clear jH CQ vF jR ZC VL VN XJ AP Ut jq Q6 I9 uT;have Nz:Fr xS xS wr (wr.alloc (.cells #[xf k1,.int .i64 (a0:Nat),.slice ma m0.len mc] 183)):=(Fr.refl _ _).alloc _;have Ny:=Ac.out.al Nz (fun _ q=>q.elim);have HSA:=z7 Ny;have PH:=z7 (dI.out.trans (Nz.wide (fun _ q=>q.elim)));have HMA:=z7 (YJ.out.fr Nz (fun _ q=>q.elim));have N5:=Xv.out;simp only[Fo.len] at N5;have Nx:=gM.out;simp only[Fo.keys,zW] at Nx;by_cases hko:k1=qb
    ·have kq:(k1==[111,116,104,101,114])=true:=by rw[hko];decide
     have HKO:=z7 hko;clear Nz Ny tK hko;go_wp2;go_roundw
     case rel =>
      refine⟨i+1,us++[xf k1,.int .i64 (a0:Nat),.slice ma m0.len mc],PC,r0,s1,L2,acc,kv,done,pre++[k1],by go_num,by omega,QN.out,HLR.out,by simp[CU.out];omega,by rw[WJ.out];simp,by omega,by rw[CD.out];simp[Fo.keys],by rw[HDN.out,zn];simp[HKO.out],HMA.out,⟨ju,Jv⟩,PH.out,HSA.out,?_,by omega,⟨mU.out,HAX.out⟩,by omega⟩;have:=bu.out;rw[MkS.j4,if_pos HKO.out] at this;exact this
     case measure=>simp only[intOf];omega
    ·have kq:(k1==[111,116,104,101,114])=false:=by simpa[qb] using hko
     have HKO:=z7 hko;have hkb:k1∈bs.keys:=by rw[CD.out];simp[Fo.keys]
     have CB:k1 ∉ done:=by
      rw[HDN.out];intro q;have h1:=N9.out;rw[CD.out] at h1;exact(zt.1 h1).2.2 k1 (yx.1 q).1 k1 (by simp[Fo.keys]) rfl
     have oz:=(HKS.out k1 hkb).1;obtain⟨dn,hdn⟩:∃ dn,done.length=dn:=⟨_,rfl⟩;have oy:=Ny.mp.len;obtain⟨wp,Xk,V5,KP⟩:=Ny.mp.put k1 (by omega) done.length (by omega) (by omega) (by unfold kG;rw[if_neg CB]);have pmA:=Ny.pm;have Ke:=z7 (Ny.key CB V5 KP);have WG:Fr (fun g=>g=mb) (fun g=>g=mb) (wr.alloc (.cells #[xf k1,.int .i64 (a0:Nat),.slice ma m0.len mc] 183)) wp:=⟨KP.os,KP.tape,KP.output,KP.size,fun k hk hn=>KP.block k hk (fun e=>hn (zv e)),fun _ q => .inl q⟩;rw[hdn] at oy Xk qz;have mQ:=z7 WG;have HGP:=z7 (show wp.cell? ⟨wr.heap.size,0,none⟩=some (xf k1) from WG.cell (xq _ _ _ _ _) (fun e=>by have:=Ac.out.lt.2.2;simp only at e;omega));clear Nz Ny tK WG V5 KP hko;have Nv:=HMA.out.fr mQ.out (by rintro g rfl;exact Ac.out.out.2.2.1);have ziz:s1.cs.length<=1000000:=by unfold MkS.sz at Nx;omega
     have WQ:=z7 (V4 p L2 s1 k1 wp.drew Nv.drew (by omega) ziz);have Iz:=z7 Nv;obtain⟨kn,DA⟩:∃ kn,s1.num k1=kn:=⟨_,rfl⟩;rw[DA] at WQ;have WW:=z7 DA;have HHL:=z7 (show Fr (L.has p) (L2.has p) w wp from PH.out.over mQ.out (by rintro g rfl;exact .inr Ac.out.lo.2.2.1));obtain⟨ac,cc,rfl⟩:=xY Ke.out.row;have k3c:=Ke.out.k3;have kec:=HGP.out;have neb:¬L2.has p wr.heap.size:=fun q=>by have:=YJ.out.lt q;omega
     obtain⟨an,han⟩:∃ an,acc.length=an:=⟨_,rfl⟩;rw[han] at k3c;have yjq:an<=i+1:=by omega
     have vL:=Ke.out.row;rw[show qV wp (.slice ac acc.length cc) acc=wp.ownsRow 0 3 1 (.slice ac acc.length cc) acc.length (Zf acc) from rfl,han] at vL;have qB:=z7 vL;have HAN:=z7 han;clear Nv ziz DA vL han;go_wp2_with fail;clear Xk oy pmA;refine rk (fun W':World=>W'.cell? ⟨i4,3,none⟩=some (.slice ac an cc)/\W'.cell? ⟨wr.heap.size,0,none⟩=some (xf k1)) 9 [0,1,2,3,4] 5 ⟨k3c,kec⟩ ?_;(iterate 5 (refine ty ?_;try simp only[pl]))
     refine xk ?_;refine xM 5 (by kernel_rfl) rfl (fun J hJ=>?_);go_simp;refine WQ.out.mono ?_;rintro e w5 ⟨rfl,L3,JD,⟨XY,DK⟩,JB⟩;have JB:=JB.und;have k5:=JB.cell k3c Ke.out.out.1;have e5:=JB.cell kec neb;have oq:=Ke.out.fr JB;refine hJ.out _ _ ⟨k5,e5⟩ fun _=>?_
     clear hJ J;refine xM 6 (by kernel_rfl) rfl (fun J hJ=>?_);go_simp;refine hJ.out _ _ ⟨xG k5 _,xG e5 _⟩ fun _=>?_
     clear hJ J;refine xM 7 (by kernel_rfl) rfl (fun J hJ=>?_);rw[if_pos (by rfl)];refine Xu QA [_] 1 (JB.own qB.out (fun g hg=>Ke.out.out.2.2.2 g (by rw[HAN.out];exact hg))) (by omega) ?_;intro v6 w6 QO ZO;rw[HAN.out] at oq;have Vf:qV w6 v6 (acc++[kn]):=by
      show World.ownsRow _ _ _ _ _ (acc++[kn]).length _;rw[zP,HAN.out];simpa[Zf] using QO
     have z6:=(ZO.frozen (a:=⟨i4,3,none⟩) oq.lt.1 oq.ne.2.2.2.1).trans (oq.z 3);have og:=z7 (oq.num Vf ZO (fun g hg=>JD.lt hg) (zZ dI.out.size (zZ (by simp) (zZ mQ.out.size JB.size))));have HM6:=z7 (JD.fr ZO (fun g hg=>oq.out.2.2.2 g hg));have HF6:=z7 ((HHL.out.trans JB).over ZO (fun g hg => .inr (oq.lo.2.2.2 g hg)));have k6:=ZO.cell k5 oq.ne.2.2.2.1;have hbo:¬xU (.slice ac an cc) wr.heap.size:=fun q=>by
      have h1:=Ac.out.row;have h2:=Ke.out.ne;have:=ur Ac.out.row (g:=wr.heap.size) (by rw[HAN.out];exact q);omega
     have e6:=ZO.cell e5 hbo;obtain⟨a6,c6,rfl⟩:=xY QO;clear oq Vf QO;go_simp;refine hJ.out _ _ ⟨k6,e6⟩ fun _=>?_
     clear hJ J;refine kU [8] 1 rfl (by intro _ _ d _ _ h;cases d<;>exact h) (by kernel_rfl) (by kernel_rfl) ⟨k6,e6⟩ ?_;refine ty ?_;try simp only[pl]
     refine xk ?_;refine vu 9 (by kernel_rfl) (by kernel_rfl) rfl (fun J hJ=>?_);go_simp;refine hJ.out _ _ ?_;clear hJ J;refine vq (by kernel_rfl) ?_ _;have fst:∀ u,Fr (fun g=>g=i4) (fun g=>g=i4) w6 (w6.setCell ⟨i4,3,none⟩ u):=fun u=>(Fr.refl _ _).set _ (.inl rfl)
     have HFS:=z7 (fst (.slice a6 (an+1) c6));have HLO:=z7 Ac.out.lo;have HOU:=z7 (show ¬L3.has p i4 from og.out.out.1);clear JB ZO JD k5 e5 k6 e6 fst;go_wp2;go_roundw
     case rel =>
      refine⟨i+1,us++[xf k1,.int .i64 (a0:Nat),.slice ma m0.len mc],PC,r0,s1.const k1,L3,acc++[kn],_,done++[k1],pre++[k1],by go_num,by omega,QN.out,HLR.out,by simp[CU.out];omega,by rw[WJ.out];simp,by omega,by rw[CD.out];simp[Fo.keys],?_,HM6.out.fr HFS.out (by rintro g rfl;exact HOU.out),⟨XY.trans ju,DK.trans Jv⟩,HF6.out.over HFS.out (by rintro g rfl;exact .inr HLO.out.1),og.out,?_,by simp;omega,⟨by simp[mU.out],?_⟩,?_⟩
      ·rw[HDN.out,zn];simp[HKO.out]
      ·have:=bu.out;rw[MkS.j4,if_neg HKO.out,WW.out] at this;exact this
      ·intro x hx;rcases zH.1 hx with hx|hx
       ·exact HAX.out x hx
       ·simp at hx;have:=C3 s1 k1;have:=WW.out;unfold MkS.sz at Nx;omega
      ·have:=(vY s1 k1).1;omega
     case measure=>simp only[intOf];omega
  ·have vZ:r.keys=[]/\MkS.j4 r s1 acc=(s1,acc):=by
    cases r with
    | nil=>exact⟨rfl,rfl⟩
    | text t r=>cases ZC
    | hash r=>cases ZC
    | put n a r=>cases ZC
    | num n a r=>cases ZC
    | br n a fo of cl bs r=>cases ZC
    | uq k0 a0 m0 r0=>exfalso;simp only[Fo.len] at jq;omega
   have gI:=z7 (show R=(s1,acc) from jR.symm.trans vZ.2);have HK1:=z7 (show bs.keys=pre by rw[Q6,vZ.1];simp);have CB:qb ∉ done:=by rw[I9];simp
   obtain⟨dn,hdn⟩:∃ dn,done.length=dn:=⟨_,rfl⟩;have oy:=tK.mp.len;obtain⟨wp,Xk,V5,KP⟩:=tK.mp.put qb (by decide) done.length (by omega) (by omega) (by unfold kG;rw[if_neg CB]);have pmA:=tK.pm;have Ke:=z7 (tK.key CB V5 KP);have WG:Fr (fun g=>g=mb) (fun g=>g=mb) wr wp:=⟨KP.os,KP.tape,KP.output,KP.size,fun k hk hn=>KP.block k hk (fun e=>hn (zv e)),fun _ q => .inl q⟩;rw[hdn] at oy Xk qz;rw[show xf qb = .string ⟨#[111,116,104,101,114]⟩ from rfl] at Xk;have xxu:dn<=100000:=by
    have h1:done.length<=bs.keys.length:=by rw[HK1.out,I9];exact List.length_filter_le ..
    have:=Fo.YC bs;have:=HS.out;omega
   have mQ:=z7 WG;have k3:¬(i:Int)<(M:Int):=by omega
   have k4:decide ((i:Int)<(M:Int))=false:=by simp;omega
   have pmp:=Ke.out.pm;have tV:=Ke.out.mp.len;rw[zP,hdn] at tV;have xxq:∀ ty,(yu #[185] ty #[.map (some mb)]).run prog wp = .ok (.int .i64 ((dn+1:Nat):Int)) wp:=tV;obtain⟨wm,B3,oZ,Vt⟩:=V9 (dn+1) wp (by omega);have zix:=z7 hdn;clear jH CQ vF tK jR ZC VL VN jq Q6 I9 uT fu vZ V5 KP WG tV hdn;rw[show((dn+1:Nat):Int)=(dn:Int)+1 by omega] at B3;have hS:=Ke.out.al Vt (fun _ q=>q.elim);obtain⟨ac,ak,Qa⟩:=xY hS.row;have q0:=hS.k0;have q1:=hS.k1;have q2:=hS.k2;have q3:=hS.k3;have q4:=hS.k4;have z4:=hS.z 4;have FP:=mQ.out;have nmb:∀ g,L2.has p g->g≠mb:=by rintro g hg rfl;exact Ac.out.out.2.2.1 hg
   have fm2:Fr (fun g=>g=mb) (fun g=>g=mb) wr wm:=FP.trans (Vt.wide (fun _ q=>q.elim));have ziv:=YJ.out.fr fm2 (by rintro g rfl hg;exact nmb _ hg rfl);have hSt:∀ u,Fr (fun g=>g=i4) (fun g=>g=i4) wm (wm.setCell ⟨i4,4,none⟩ u):=fun u=>(Fr.refl _ _).set _ (.inl rfl)
   have D5:=z7 (ziv.fr (hSt (.slice (some ⟨wp.heap.size,0,none⟩) (dn+1) (dn+1))) (by rintro g rfl;exact Ac.out.out.1));have HEE:=z7 ((HE2.out.fr fm2 (by rintro g rfl;have:=Ac.out.lo.2.2.1;have:=YJ.out.base;have:=HH.out.base;omega)).fr (hSt (.slice (some ⟨wp.heap.size,0,none⟩) (dn+1) (dn+1))) (by rintro g rfl;have:=Ac.out.lo.1;have:=HH.out.base;omega));have VC:=z7 hS;have HFM:=z7 Vt;have HKM:=z7 oZ;rw[Qa] at q3;clear hS FP fm2 ziv hSt Vt oZ nmb;go_wp2_with fail;obtain⟨wS,hwS⟩:∃ wS,wm.setCell ⟨i4,4,none⟩ (.slice (some ⟨wp.heap.size,0,none⟩) (dn+1) (dn+1))=wS:=⟨_,rfl⟩;rw[hwS] at D5 HEE ⊢;have DJ:acc.length=dn+1:=by rw[mU.out,zix.out]
   obtain⟨x0,ziq,Db⟩:∃ x0 ziq,acc=x0::ziq:=by
    cases acc with
    | nil=>simp at DJ
    | cons a b=>exact⟨a,b,rfl⟩
   have hS:=VC.out;have lwp:∀ g,L2.has p g->g<wp.heap.size:=fun g hg=>by have:=YJ.out.lt hg;have:=mQ.out.size;omega
   have lkp:∀ g,xU kv g->g<wp.heap.size:=fun g hg=>ur Ke.out.row hg
   have rk1:qV wS kv acc:=by rw[←hwS];exact ownsRow_setCell_other hS.row hS.ne.2.2.2.1 _
   have rt1:qV wS (.slice (some ⟨wp.heap.size,0,none⟩) (dn+1) (dn+1)) (z8 (dn+1) 0):=by
    rw[←hwS];exact ownsRow_setCell_other HKM.out (fun e=>by have:=Ke.out.lt.1;have e2:wp.heap.size=i4:=zv e;omega) _
   have b7:Ow ⟨10,s1.pos,0,acc,z8 (dn+1) 0⟩:=by
    refine⟨(by decide:10<12),by simp,fun x hx=>by have:=HAX.out x hx;omega,fun x hx=>by have:=List.eq_of_mem_replicate hx;omega,by show acc.length<=_;omega,?_⟩;show okB [110,42] acc.length (z8 (dn+1) 0).length=true;rw[DJ,List.length_replicate];simp[okB]
   have mS:(uG ⟨10,s1.pos,0,acc,z8 (dn+1) 0⟩).length<=1000000:=by
    rw[Db,PF];rw[Db] at DJ;simp at DJ;omega
   have DU:=gM.out;unfold MkS.sz at DU;have HP:=z7 (b8 p L2 s1 10 0 acc (z8 (dn+1) 0) kv (.slice (some ⟨wp.heap.size,0,none⟩) (dn+1) (dn+1)) wS D5.out rk1 rt1 (fun g hg=>hS.out.2.2.2 g hg) (fun g hg q=>by cases hg;exact zY _ (lwp _ q)) (fun g hg q=>by cases hg;exact zY _ (lkp _ q))
    (fun g hg=>by
     have h1:=YJ.out.base;have h2:=HH.out.base;have h3:=dI.out.size;have h4:=mQ.out.size;rcases hg with hg|hg
     ·have:=hS.lo.2.2.2 g hg;omega
     ·cases hg;show L2.B<=wp.heap.size;omega) b7 HEE.out.fo HEE.out.g1 (by omega) (by omega) mS)
   have hSS:s1.put 10 0 acc (z8 (dn+1) 0)=MkS.kV n bs s:=by
    have h1:MkS.ff n bs s=(s1,acc):=by unfold MkS.ff;rw[PI.out,HR.out,gI.out]
    unfold MkS.kV;rw[h1,DJ]
   have oY:s1.code.length=(MkS.ff n bs s).1.code.length:=by
    have h1:MkS.ff n bs s=(s1,acc):=by unfold MkS.ff;rw[PI.out,HR.out,gI.out]
    rw[h1]
   have HSS:=z7 hSS;have HID:=z7 oY;have HTG:=z7 (show ∃ x,(s1.put 10 0 acc (z8 (dn+1) 0)).code[s1.code.length]? = some x/\x.tg.length=dn+1 from⟨_,by simp[MkS.put];rfl,by simp⟩);have D6:=z7 (show Fr (fun g=>g=i4) (fun g=>g=i4) wp wS from by rw[←hwS];exact(HFM.out.wide (fun _ q=>q.elim)).set _ (.inl rfl));clear rk1 rt1 b7 mS DU hSS oY hS lwp lkp Db DJ;rw[Qa] at HP;clear hwS;go_wp2_with fail;refine HP.out.mono ?_;rintro e w5 ⟨b,c,rfl,I8,jw,Mu,L3,JD,⟨XY,DK⟩,JB,nb5,nc5⟩;have RP:=z7 JD;have RR:=z7 JB;have Jk:=z7 I8;clear HP JD JB I8;go_wp2_with fail;obtain⟨wT,tJ⟩:∃ wT,w5.alloc (.cells #[bN b c] 189)=wT:=⟨_,rfl⟩;have Nu:Fr xS xS w5 wT:=by rw[←tJ];exact(Fr.refl _ _).alloc _
   have hcT:=xq w5 #[bN b c] 189 (0,0) 0;have hsT:wT.heap.size=w5.heap.size+1:=by rw[←tJ];simp
   rw[tJ] at hcT;have ne:=Ke.out.ne;have lo:=Ke.out.lo;have ou:=Ke.out.out;have lt:=Ke.out.lt;have swr:=dI.out.size;have swp:=mQ.out.size;have swS:=D6.out.size;have sw5:=RR.out.size;have hP:∀ g,g=pb\/g=mb->¬(L2.has p g\/xU kv g\/xU (.slice (some ⟨wp.heap.size,0,none⟩) (dn+1) (dn+1)) g):=by
    rintro g (rfl|rfl) (q|q|q)
    ·exact ou.2.1 q
    ·exact ne.2.2.2.2.1 q
    ·have:wp.heap.size=_:=zv q;omega
    ·exact ou.2.2.1 q
    ·exact ne.2.2.2.2.2 q
    ·have:wp.heap.size=_:=zv q;omega
   rw[←Qa] at RR;have h3:∀ g,g=pb\/g=mb->¬L3.has p g:=fun g hg q=>(RR.out.fp g q).elim (hP g hg) (fun q=>by rcases hg with rfl|rfl<;>omega)
   have gS:Fr (fun g=>g=i4) (fun g=>g=i4) wp wS:=D6.out;have FA:Fr (L.has p) (L3.has p) w wT:=((((dI.out.over mQ.out (by rintro g rfl;exact .inr lo.2.2.1)).over gS (by rintro g rfl;exact .inr lo.1)).tr RR.out (by
    rintro g (q|q|q)
    ·exact dI.out.fp g q
    ·exact .inr (lo.2.2.2 g q)
    ·have:wp.heap.size=g:=zv q;exact .inr (by omega)))).trans (Nu.wide (fun _ q=>q.elim))
   have HI:Q5 wT.heap.size p s1.code.length w5.heap.size b c pb mb (done++[qb]).length (kG (done++[qb])) L3 wT:=by
    have l5:=Jk.out.lt;refine⟨hcT,Jk.out.fr Nu id id,Nu.cell (RR.out.cell (gS.cell Ke.out.pm ne.1.symm) (hP pb (.inl rfl))) id,((Ke.out.mp.g.fr gS (fun e=>ne.2.1 e.symm)).fr RR.out (hP mb (.inr rfl))).fr Nu id,
     ⟨fun q=>by have:=RP.out.lt q;omega,nb5,nc5,h3 pb (.inl rfl),h3 mb (.inr rfl)⟩,⟨by omega,by omega,by omega,by omega,by omega⟩⟩
   obtain⟨x,hx,hxt⟩:=HTG.out;have hdd:done=bs.keys.filter (· ≠ qb):=by rw[HK1.out];exact HDN.out
   have tG:L3.B=L.B:=DK.trans Jv;have zik:zv1 wT.heap.size p (MkS.kV n bs s) bs.keys (MkS.bz n bs s) (.func (.func 162) #[] #[.pointer (some ⟨w5.heap.size,0,none⟩),.pointer (some ⟨pb,0,none⟩)]) (fun L W=>Q5 wT.heap.size p s1.code.length w5.heap.size b c pb mb (done++[qb]).length (kG (done++[qb])) L W):=by
    refine⟨⟨_,_,rfl,fun args w=>by first|rfl|simp[callFunc],fun L s' W key a ma mn mc hm hI hle qs Uw=>?_⟩,fun L L' W W' h hf=>h.fr hf,fun L W W' F F' h hf hF=>h.al hf hF,fun k x=>MkS.Cf n bs s k x⟩;obtain⟨e1,e2⟩:=AA bs.keys key Uw;rw[←hdd] at e1 e2;rw[HSS.out] at hx;obtain⟨y,hy,hyt⟩:=hle _ x hx;have ZG:s'.code.length<=900000:=by unfold MkS.sz at qs;omega
    have:=AW s' y key a ma mn mc hm hI (HKS.out key Uw).1 hy (by rw[e1,hyt,hxt];have:=zix.out;omega) (by rw[hyt,hxt];omega) ZG;rw[e1,HID.out] at this;exact this
   have Sy:=z7 (GJ b0 n a 0 of cl bs p L3 (MkS.kV n bs s) (MkS.bz n bs s) _ _ wT nN.out (by have:=RP.out.fr Nu (fun _ q=>q.elim);rw[HSS.out] at this;exact this) (by rw[tG];exact HE.out.fr FA HH.out.lo) HND.out HL.out HBC.out I4.out (by rw[HM.out];exact I3)
    (by have:=(MkS.CZ n bs s).2;have:=Fo.YC bs;have:=HS.out;omega) zik HI)
   have PH:=z7 FA;clear zik HI FA hx Nu hcT;rw[tJ];refine Sy.out.mono ?_;rintro e w9 ⟨rfl,L4,hm9,⟨hq9,yg3⟩,hf9⟩;have HM9:=z7 hm9;have HF9:=z7 hf9;clear hm9 hf9 Sy;go_wp2;refine bodyPost_ret (v := .tuple #[]) ?_ rfl ?_
   ·simp[results,results121,go_sem]
   exact⟨rfl,L4,HM9.out,⟨by rw[hq9,XY,ju],by rw[yg3,tG]⟩,PH.out.trans HF9.out⟩
def X2(S:Nat->Prop)(p:Nat)(W0:World)(L:dW)(W:World):Prop:=∀ g,S g->g<W0.heap.size/\¬L.has p g/\W.heap[g]? = W0.heap[g]?
section
variable {S:Nat->Prop} {p:Nat} {W0 W W':World} {L L':dW}
theorem X2.lt(h:X2 S p W0 L W){g:Nat}(hg:S g):g<W.heap.size:=by
 obtain⟨a,_,c⟩:=h g hg;rw[Array.getElem?_eq_getElem a] at c;exact(zV.1 c).1
theorem X2.fr(h:X2 S p W0 L W)(hf:Fr (L.has p) (L'.has p) W W'):X2 S p W0 L' W':=fun g hg=>by
 obtain⟨a,b,c⟩:=h g hg;have:=h.lt hg;exact⟨a,fun q=>(hf.fp g q).elim b (by omega),(hf.keep g this b).trans c⟩
theorem X2.al{F F':Nat->Prop}(h:X2 S p W0 L W)(hf:Fr F F' W W')(hF:∀ g,F g->W0.heap.size<=g):X2 S p W0 L W':=fun g hg=>by
 obtain⟨a,b,c⟩:=h g hg;exact⟨a,b,(hf.keep g (h.lt hg) (fun q=>by have:=hF g q;omega)).trans c⟩
theorem X2.cell(h:X2 S p W0 L W){a:Addr}{v:Value}(hc:W0.cell? a=some v)(hg:S a.block):W.cell? a=some v:=(World.cell?_of_block (h _ hg).2.2).trans hc
theorem X2.uv(h:X2 S p W0 L W){i b c:Nat}(hl:kh W0 p i b c)(hb:S b)(hc:S c):kh W p i b c:=⟨h.cell hl.pb hb,h.cell hl.pc hc,(uS (h b hb).2.2).trans hl.tb,(uS (h c hc).2.2).trans hl.tc⟩
end
def fnR:Value->Option (DataW Unit×List MemPlace)
 | .func (.func k) first cap=>match first.toList,cap.toList with
  | [],[.pointer (some ⟨b,0,none⟩),.pointer (some ⟨c,0,none⟩)]=>if k=123 then some (.agg [.lit (.int .i64 (b:Nat)),.lit (.int .i64 (c:Nat))],[]) else none
  | _,_=>none
 | .nilFunc=>some (.agg [],[])
 | _=>none
theorem Ae(b c:Nat):fnR (bN b c)=some (.agg [.lit (.int .i64 (b:Nat)),.lit (.int .i64 (c:Nat))],[]):=by simp[fnR,bN]
theorem oX{v:Value}{b c:Nat}{ps:List MemPlace}(h:fnR v=some (.agg [.lit (.int .i64 (b:Nat)),.lit (.int .i64 (c:Nat))],ps)):v=bN b c:=by
 unfold fnR at h;split at h
 ·next k first cap =>
  split at h
  ·next b' c' h1 h2 =>
   split at h
   ·next hk =>
    simp at h;obtain⟨⟨h3,h4⟩,_⟩:=h;have e1:first=#[]:=yy.1 h1;have e2:cap=#[.pointer (some ⟨b',0,none⟩),.pointer (some ⟨c',0,none⟩)]:=yy.1 h2;subst hk e1 e2;have h5:b'=b:=by omega
    have h6:c'=c:=by omega
    rw[h5,h6]
   ·cases h
  ·cases h
 ·simp at h
 ·cases h
def Y4(w:World)(b n:Nat)(f:Wd->Option (Nat×Nat)):Prop :=
 ∃ D:DataW Unit,w.ownsMap prog 9 fnR b n D/\∀ m:Wd,yk D (.string m)=(f m).isSome/\∀ x,f m=some x->D.atKey (.string m) (.agg []) = .agg [.lit (.int .i64 (x.1:Nat)),.lit (.int .i64 (x.2:Nat))]
theorem Y4.lt{w:World}{b n:Nat}{f:Wd->Option (Nat×Nat)}(h:Y4 w b n f):b<w.heap.size:=by
 obtain⟨D,⟨es,clock,ho,_⟩,_⟩:=h;exact(zV.1 ho).1
theorem Y4.keep{w w':World}{b n:Nat}{f:Wd->Option (Nat×Nat)}(h:Y4 w b n f)(hb:w'.heap[b]? = w.heap[b]?):Y4 w' b n f:=by
 obtain⟨D,⟨es,clock,ho,rest⟩,h2⟩:=h;exact⟨D,⟨es,clock,hb.trans ho,rest⟩,h2⟩
theorem Y4.fr{w w':World}{F F':Nat->Prop}{b n:Nat}{f:Wd->Option (Nat×Nat)}(h:Y4 w b n f)(hf:Fr F F' w w')(hb:¬F b):Y4 w' b n f:=h.keep (hf.keep b h.lt hb)
theorem Y4.made(w:World):Y4 (w.alloc (.map #[] 0)) w.heap.size 0 (fun _=>none):=⟨.map [],zN w _ _ _,fun m=>⟨rfl,fun x hx=>by cases hx⟩⟩
theorem Y4.look{w:World}{b n:Nat}{f:Wd->Option (Nat×Nat)}(h:Y4 w b n f)(m:Wd)(hm:m.length<=5000000) :
  ∃ v,(Instr.lookup 298 (.map (some b)) (xf m) true).run prog w = .ok (.tuple #[v,.bool (f m).isSome]) w/\∀ x,f m=some x->v=bN x.1 x.2:=by
 obtain⟨D,h1,h3⟩:=h;obtain⟨v,ps,vH,hv⟩:=h1.look_ok (zG underlying9) underlying298 (z := .nilFunc) (by first|rfl|simp[go_sem]) (zd := .agg []) (zp:=[]) rfl
  (key:=xf m) (zU (s:=⟨m.toArray⟩) underlying9 (by rw[size_mk];unfold maxLen;omega))
 rw[toList_mk] at vH hv;rw[(h3 m).1] at vH;exact⟨v,vH,fun x hx=>oX (ps:=ps) (by rw[hv,(h3 m).2 x hx])⟩
theorem Y4.put{w:World}{b n:Nat}{f:Wd->Option (Nat×Nat)}(h:Y4 w b n f)(m:Wd)(hm:m.length<=5000000)(x:Nat×Nat)(hn:n<=1000000000) :
  ∃ w',(za 298 (.map (some b)) (xf m) (bN x.1 x.2)).run prog w = .ok () w'/\Y4 w' b (n+1) (fun k=>if m=k then some x else f k)/\w.grownBy w' (some b):=by
 obtain⟨D,h1,h3⟩:=h;have hi:=h1.isMap;obtain⟨w',vH,xJ,hg⟩:=h1.update (zG underlying9) underlying298 (by unfold maxLen;omega) (key:=xf m) (zU (s:=⟨m.toArray⟩) underlying9 (by rw[size_mk];unfold maxLen;omega)) (Ae x.1 x.2);rw[toList_mk] at xJ;refine⟨w',vH,⟨_,xJ,fun k=>?_⟩,hg⟩;by_cases hx:m=k
 ·subst hx;simp only[↓reduceIte];exact⟨by rw[zS hi (show zf (.string m) from trivial)];simp,fun y hy=>by cases hy;rw[zM hi (show zf (.string m) from trivial)]⟩
 ·simp only[hx,↓reduceIte];have xw:(Lit.string k) ≠ .string m:=fun q=>hx (by cases q;rfl)
  exact⟨by rw[zO xw];exact(h3 k).1,fun y hy=>by rw[zL xw];exact(h3 k).2 y hy⟩
def XF(ks:List Wd)(k:Wd):Option Nat:=if k∈ks then some 1 else none
def Iy(ks:List Wd)(t:Nat)(key:Wd)(s:MkS)(c:Nat):MkS:=if Un.getD c []=key\/key=qb/\Un.getD c [] ∉ ks then s.uv t c else s
structure Sv(S:Nat->Prop)(p ab am hb hm tb b c idx na nh:Nat)(ks:List Wd)(fa:Wd->Option (Nat×Nat))(w:World):Prop where
 ca:w.cell? ⟨ab,0,none⟩=some (.map (some am))
 ma:Y4 w am na fa
 ch:w.cell? ⟨hb,0,none⟩=some (.map (some hm))
 mh:km 3 w hm nh (XF ks)
 ct:w.cell? ⟨tb,0,none⟩=some (bN b c)
 l:kh w p idx b c
 na:qP w
 s:S ab/\S am/\S hb/\S hm/\S tb/\S b/\S c/\S 0
section
variable {S:Nat->Prop} {p ab am hb hm tb b c idx na nh:Nat} {ks:List Wd} {fa:Wd->Option (Nat×Nat)} {W0 W:World} {L L':dW}
theorem Sv.at(h:Sv S p ab am hb hm tb b c idx na nh ks fa W0)(hI:X2 S p W0 L W):Sv S p ab am hb hm tb b c idx na nh ks fa W:=by
 obtain⟨s1,s2,s3,s4,s5,s6,s7,s8⟩:=h.s;exact⟨hI.cell h.ca s1,h.ma.keep (hI _ s2).2.2,hI.cell h.ch s3,h.mh.keep (hI _ s4).2.2,hI.cell h.ct s5,hI.uv h.l s6 s7,fun j hj=>hI.cell (h.na j hj) s8,h.s⟩
theorem Su(s:MkS)(x:jC)(key:Wd)(a:Nat)(ma:Option Addr)(mn mc:Nat)(B3:ug p L s W)(h:Sv S p ab am hb hm tb b c idx na nh ks fa W0)(hI:X2 S p W0 L W)(hk:key.length<=17)(hx:s.code[idx]? = some x)(hj:x.tg.length=6)(hs:s.sz<=900000)(hf:fa key=none) :
  Calls prog 164 #[.agg #[xf key,.int .i64 (a:Nat),.slice ma mn mc],.pointer (some ⟨ab,0,none⟩),.pointer (some ⟨hb,0,none⟩),.pointer (some ⟨tb,0,none⟩)] W (Ep p L (MkS.I0 ks idx key s) W):=by
 obtain⟨A,hA⟩:∃ A,W.alloc (.cells #[xf key,.int .i64 (a:Nat),.slice ma mn mc] 183)=A:=⟨_,rfl⟩;have fA:Fr xS xS W A:=by rw[←hA];exact(Fr.refl _ _).alloc _
 have hIA:=hI.al fA (fun _ q=>q.elim);have Sq:=h.at hIA;have AT:=B3.fr fA (fun _ q=>q.elim);have cA:=xq W #[xf key,.int .i64 (a:Nat),.slice ma mn mc] 183 (0,0) 0;obtain⟨v,Vd,-⟩:=Sq.ma.look key (by omega);rw[hf] at Vd;have c1:=Sq.ca;have n0:=Sq.na 0 (by omega);have n1:=Sq.na 1 (by omega);have n2:=Sq.na 2 (by omega);have n3:=Sq.na 3 (by omega);have n4:=Sq.na 4 (by omega);have n5:=Sq.na 5 (by omega);simp only[Xb,List.getD_cons_zero,List.getD_cons_succ] at n0 n1 n2 n3 n4 n5;have hmW:=fun {g:Nat} (hg:L.has p g)=>B3.lt hg
 have HI:=z7 hI;have HH:=z7 h;have HM:=z7 AT;have PH:=z7 fA;have HIA:=z7 hIA;have HX:=z7 hx;obtain⟨R,hR⟩:∃ R,MkS.I0 ks idx key s=R:=⟨_,rfl⟩;rw[hR];have HR:=z7 (show(zE 6).foldl (Iy ks idx key) s=R from hR);subst hA;clear hI h B3 fA hIA Sq AT hx hR hf;go_enter func164,ntmps164;go_wp2_with fail;go_loopw [20] (fun jv wr=>∃ j s',jv = .int .i64 (j:Nat)/\j<=6/\s'=(zE j).foldl (Iy ks idx key) s/\ug p L s' wr/\Fr (L.has p) (L.has p) W wr/\X2 S p W0 L wr/\s.le s'/\s'.sz=s.sz/\wr.cell? ⟨W.heap.size,0,none⟩=some (xf key)) (fun jv _=>6 - (intOf jv).toNat)
 case atStart=>exact⟨0,s,rfl,by omega,rfl,HM.out,PH.out.wide (fun _ q=>q.elim),HIA.out,s.le_refl,rfl,cA⟩
 case round =>
  clear cA c1 Vd n0 n1 n2 n3 n4 n5;obtain⟨j,s',rfl,hj6,WD,mJ,hf',mG,hle,qs,WB⟩:=hrel;have hP':=HH.out.at mG;have nW:¬L.has p W.heap.size:=fun q=>by have:=HM.out;have h2:=hmW q;omega
  obtain⟨y,hy,hyt⟩:=hle _ _ HX.out;have HS':=z7 WD;have HM':=z7 mJ;have HF':=z7 hf';have HI':=z7 mG;have Ai:=z7 hle;have dQ:=z7 qs;by_cases xC:j<6
  ·obtain⟨t,ht⟩:∃ t,Un.getD j []=t:=⟨_,rfl⟩;have Sk:∀ W:World,(Instr.index 138 (.agg #[.string ⟨#[122,101,114,111]⟩,.string ⟨#[111,110,101]⟩,.string ⟨#[116,119,111]⟩,.string ⟨#[102,101,119]⟩,.string ⟨#[109,97,110,121]⟩,.string ⟨#[111,116,104,101,114]⟩]) (.int .i64 (j:Int))).run prog W = .ok (xf t) W:=by
    rw[←ht];match j,xC with
    | 0,_=>exact fun W=>by kernel_rfl
    | 1,_=>exact fun W=>by kernel_rfl
    | 2,_=>exact fun W=>by kernel_rfl
    | 3,_=>exact fun W=>by kernel_rfl
    | 4,_=>exact fun W=>by kernel_rfl
    | 5,_=>exact fun W=>by kernel_rfl
   have JC:t.length<=5:=by
    rw[←ht];match j,xC with
    | 0,_=>decide
    | 1,_=>decide
    | 2,_=>decide
    | 3,_=>decide
    | 4,_=>decide
    | 5,_=>decide
   have ch:=hP'.ch;have ct:=hP'.ct;have Vd:=hP'.mh.KI Qi t (by omega);have kd:=z7 (show(zE (j+1)).foldl (Iy ks idx key) s=Iy ks idx key s' j by rw[List.range_succ,List.foldl_append,←WD];rfl);have HCG:=z7 (show Iy ks idx key s' j=if t=key\/key=qb/\t ∉ ks then s'.uv idx j else s' by unfold Iy;rw[ht]);have ZG:s'.code.length<=900000:=by unfold MkS.sz at qs hs;omega
   have WC:=z7 (UI p L s' idx j b c y wr mJ hP'.l hy (by omega) (by omega) (by omega));have k3:(j:Int)<6:=by omega
   clear mJ hf' mG hP' hle WD ht;by_cases CC:t=key\/key=qb/\t ∉ ks
   ·have HG:=z7 (show(zE (j+1)).foldl (Iy ks idx key) s=s'.uv idx j by rw[kd.out,HCG.out,if_pos CC]);rcases (show t=key\/¬t=key/\key=qb/\t ∉ ks by by_cases q:t=key;exact .inl q;exact .inr ⟨q,CC.resolve_left q⟩) with ha|⟨ha,hb,hc⟩
    ·have kA:(t==key)=true:=by simp[ha]
     clear ha CC;go_wp2_with fail;refine WC.out.mono ?_;rintro e w3 ⟨rfl,KN,gY⟩;have D5:=z7 KN;have Vi:=z7 gY;have zvy:=gY.cell WB nW;clear KN gY WC;go_wp2;go_roundw
     case rel=>exact⟨j+1,s'.uv idx j,by go_num,by omega,HG.out.symm,D5.out,HF'.out.trans Vi.out,HI'.out.fr Vi.out,MkS.le_trans Ai.out (s'.ZB _ _),by rw[gO];exact dQ.out,zvy⟩
     case measure=>simp only[intOf];omega
    ·have kA:(t==key)=false:=by simp[ha]
     have kB:(key==[111,116,104,101,114])=true:=by rw[hb];decide
     rw[show XF ks t=none from if_neg hc] at Vd;clear ha hb hc CC;go_wp2_with fail;refine WC.out.mono ?_;rintro e w3 ⟨rfl,KN,gY⟩;have D5:=z7 KN;have Vi:=z7 gY;have zvy:=gY.cell WB nW;clear KN gY WC;go_wp2;go_roundw
     case rel=>exact⟨j+1,s'.uv idx j,by go_num,by omega,HG.out.symm,D5.out,HF'.out.trans Vi.out,HI'.out.fr Vi.out,MkS.le_trans Ai.out (s'.ZB _ _),by rw[gO];exact dQ.out,zvy⟩
     case measure=>simp only[intOf];omega
   ·have HG:=z7 (show(zE (j+1)).foldl (Iy ks idx key) s=s' by rw[kd.out,HCG.out,if_neg CC]);have ha:¬t=key:=fun q=>CC (.inl q)
    have kA:(t==key)=false:=by simp[ha]
    by_cases hb:key=qb
    ·have hc:t∈ks:=Classical.byContradiction fun q=>CC (.inr ⟨hb,q⟩)
     have kB:(key==[111,116,104,101,114])=true:=by rw[hb];decide
     rw[show XF ks t=some 1 from if_pos hc] at Vd;clear ha hb hc CC;go_wp2;go_roundw
     case rel=>exact⟨j+1,s',by go_num,by omega,HG.out.symm,HM'.out,HF'.out,HI'.out,Ai.out,dQ.out,WB⟩
     case measure=>simp only[intOf];omega
    ·have kB:(key==[111,116,104,101,114])=false:=by simpa[qb] using hb
     clear ha hb CC;go_wp2;go_roundw
     case rel=>exact⟨j+1,s',by go_num,by omega,HG.out.symm,HM'.out,HF'.out,HI'.out,Ai.out,dQ.out,WB⟩
     case measure=>simp only[intOf];omega
  ·have dI:=z7 (show s'=R by rw[WD,show j=6 by omega];exact HR.out);have k3:¬(j:Int)<6:=by omega
   clear mJ hf' mG hP' hle WD;go_wp2;refine bodyPost_ret (v := .tuple #[]) ?_ rfl ?_
   ·simp[results,results164,go_sem]
   rw[←dI.out];exact⟨rfl,HM'.out,HF'.out⟩
theorem Sj(s:MkS)(x:jC)(key:Wd)(a:Nat)(ma:Option Addr)(mn mc:Nat)(b1 c1 i1:Nat)(B3:ug p L s W)(h:Sv S p ab am hb hm tb b c idx na nh ks fa W0)(hI:X2 S p W0 L W)(hk:key.length<=17)(hl:kh W0 p i1 b1 c1)(xH:S b1)(qD:S c1)(hx:s.code[i1]? = some x)(hj:x.tg.length=1)(hs:s.sz<=900000)(hf:fa key=some (b1,c1)) :
  Calls prog 164 #[.agg #[xf key,.int .i64 (a:Nat),.slice ma mn mc],.pointer (some ⟨ab,0,none⟩),.pointer (some ⟨hb,0,none⟩),.pointer (some ⟨tb,0,none⟩)] W (Ep p L (s.uv i1 0) W):=by
 obtain⟨A,hA⟩:∃ A,W.alloc (.cells #[xf key,.int .i64 (a:Nat),.slice ma mn mc] 183)=A:=⟨_,rfl⟩;have fA:Fr xS xS W A:=by rw[←hA];exact(Fr.refl _ _).alloc _
 have hIA:=hI.al fA (fun _ q=>q.elim);have Sq:=h.at hIA;have AT:=B3.fr fA (fun _ q=>q.elim);have cA:=xq W #[xf key,.int .i64 (a:Nat),.slice ma mn mc] 183 (0,0) 0;obtain⟨v,Vd,hv⟩:=Sq.ma.look key (by omega);obtain rfl:=hv _ hf;rw[hf] at Vd;have c1':=Sq.ca;have ZG:s.code.length<=900000:=by unfold MkS.sz at hs;omega
 have WC:=z7 (UI p L s i1 0 b1 c1 x A AT (hIA.uv hl xH qD) hx (by omega) (by omega) (by omega));have PH:=z7 fA;subst hA;clear hI h B3 fA hIA Sq AT hx hf hv hl;go_enter func164,ntmps164;go_wp2_with fail;refine WC.out.mono ?_;rintro e w3 ⟨rfl,KN,gY⟩;have D5:=z7 KN;have Vi:=z7 gY;clear KN gY WC;go_wp2;refine bodyPost_ret (v := .tuple #[]) ?_ rfl ?_
 ·simp[results,results164,go_sem]
 exact⟨rfl,D5.out,(PH.out.wide (fun _ q=>q.elim)).trans Vi.out⟩
end
abbrev XD:=List (Wd×Nat×Nat×Nat)
def XD.fn(al:XD)(k:Wd):Option (Nat×Nat):=(al.lookup k).map (·.2)
def XD.ix(al:XD):List (Wd×Nat):=al.map fun e=>(e.1,e.2.1)
theorem B5:∀ (al:XD) (k:Wd),al.ix.lookup k=(al.lookup k).map (·.1)
 | [],_=>rfl
 |(k1,i,bc)::al,k=>by
  have:=B5 al k;simp only[XD.ix,List.map_cons,zD] at this ⊢;split<;>simp_all
theorem GG:∀ (al:XD) (k:Wd) (x:Nat×Nat×Nat),al.lookup k=some x->(k,x)∈al
 | [],_,_,h=>by cases h
 |(k1,y)::al,k,x,h=>by
  simp only[zD] at h;split at h
  ·next hk=>cases h;rw[eq_of_beq hk];exact zm
  ·exact zl _ (GG al k x h)
theorem Ix(al:XD)(m k:Wd)(x:Nat×Nat×Nat)(h:∀ e∈al,e.1≠m):(al++[(m,x)]).lookup k=if m=k then some x else al.lookup k:=by
 induction al with
 | nil =>
  simp only[List.nil_append,zD,List.lookup_nil];by_cases hk:m=k
  ·simp[hk]
  ·rw[if_neg hk,show(k==m)=false by simpa using fun e=>hk e.symm]
 | cons a al ih =>
  obtain⟨k1,y⟩:=a;have h1:k1≠m:=h (k1,y) zm;have ih:=ih (fun e he=>h e (zl _ he));simp only[List.cons_append,zD];by_cases hk:k=k1
  ·subst hk;rw[if_neg (fun e=>h1 e.symm)];simp
  ·rw[show(k==k1)=false by simpa using hk];exact ih
theorem Nq{ks:List Wd}{k:Wd}:(fun x=>if k=x then some 1 else XF ks x)=XF (ks++[k]):=by
 funext x;unfold XF;by_cases hx:k=x
 ·simp[hx]
 ·have:¬x=k:=fun e=>hx e.symm
  simp[hx,this]
structure YH(N p ab am hb hm:Nat)(pre:List Wd)(al:XD)(s:MkS)(L:dW)(w:World):Prop where
 ca:w.cell? ⟨ab,0,none⟩=some (.map (some am))
 ma:Y4 w am al.length al.fn
 ch:w.cell? ⟨hb,0,none⟩=some (.map (some hm))
 mh:km 3 w hm pre.length (XF pre)
 lo:N<=ab/\N<=am/\N<=hb/\N<=hm
 out:¬L.has p ab/\¬L.has p am/\¬L.has p hb/\¬L.has p hm
 ne:ab≠am/\ab≠hm/\am≠hb/\am≠hm/\hb≠hm
 lp:∀ e∈al,kh w p e.2.1 e.2.2.1 e.2.2.2/\¬L.has p e.2.2.1/\¬L.has p e.2.2.2/\∃ y,s.code[e.2.1]? = some y/\y.tg.length=1
 ks:∀ e∈al,e.1∈pre
section
variable {N p ab am hb hm:Nat} {pre:List Wd} {al:XD} {s s':MkS} {L L':dW} {w w':World}
theorem YH.lt(h:YH N p ab am hb hm pre al s L w):ab<w.heap.size/\am<w.heap.size/\hb<w.heap.size/\hm<w.heap.size:=⟨zy w _ h.ca,h.ma.lt,zy w _ h.ch,h.mh.lt⟩
theorem YH.fr(h:YH N p ab am hb hm pre al s L w)(hf:Fr (L.has p) (L'.has p) w w')(hs:s.le s'):YH N p ab am hb hm pre al s' L' w':=by
 obtain⟨o1,o2,o3,o4⟩:=h.out;obtain⟨l1,l2,l3,l4⟩:=h.lt;have no:∀ g,¬L.has p g->g<w.heap.size->¬L'.has p g:=fun g a b q=>(hf.fp g q).elim a (by omega)
 refine⟨hf.cell h.ca o1,h.ma.fr hf o2,hf.cell h.ch o3,h.mh.fr hf o4,h.lo,⟨no _ o1 l1,no _ o2 l2,no _ o3 l3,no _ o4 l4⟩,h.ne,fun e he=>?_,h.ks⟩;obtain⟨a,b,c,y,d,e2⟩:=h.lp e he;obtain⟨y2,d2,e3⟩:=hs _ y d;exact⟨a.fr hf b c,no _ b a.lt.1,no _ c a.lt.2,y2,d2,e3.trans e2⟩
theorem YH.al'{F F':Nat->Prop}(h:YH N p ab am hb hm pre al s L w)(hf:Fr F F' w w')(hF:∀ g,F g->w.heap.size<=g):YH N p ab am hb hm pre al s L w':=by
 obtain⟨l1,l2,l3,l4⟩:=h.lt;have nf:∀ g,g<w.heap.size->¬F g:=fun g a q=>by have:=hF g q;omega
 refine⟨hf.cell h.ca (nf _ l1),h.ma.fr hf (nf _ l2),hf.cell h.ch (nf _ l3),h.mh.fr hf (nf _ l4),h.lo,h.out,h.ne,fun e he=>?_,h.ks⟩;obtain⟨a,b,c,d⟩:=h.lp e he;exact⟨a.fr hf (nf _ a.lt.1) (nf _ a.lt.2),b,c,d⟩
theorem YH.uX{m:Nat}(h:YH N p ab am hb hm pre al s L w)(hg:w.grownBy w' (some m))(hm:VF w m=none):∀ e∈al,kh w' p e.2.1 e.2.2.1 e.2.2.2/\¬L.has p e.2.2.1/\¬L.has p e.2.2.2/\∃ y,s.code[e.2.1]? = some y/\y.tg.length=1:=fun e he=>by
 obtain⟨a,b,c,d⟩:=h.lp e he;have hf:Fr (fun k=>k=m) (fun k=>k=m) w w':=⟨hg.os,hg.tape,hg.output,hg.size,fun k hk hn=>hg.block k hk (fun e=>hn (zv e)),fun _ q => .inl q⟩;exact⟨a.fr hf (fun e=>by have:=a.tb;rw[e,hm] at this;cases this) (fun e=>by have:=a.tc;rw[e,hm] at this;cases this),b,c,d⟩
theorem Al{w:World}{b n:Nat}{f:Wd->Option (Nat×Nat)}(h:Y4 w b n f):VF w b=none:=by
 obtain⟨D,⟨es,clock,ho,_⟩,_⟩:=h;simp[VF,ho]
theorem YH.key{k:Wd}(h:YH N p ab am hb hm pre al s L w)(jH:km 3 w' hm (pre.length+1) (fun x=>if k=x then some 1 else XF pre x))(hg:w.grownBy w' (some hm)):YH N p ab am hb hm (pre++[k]) al s L w':=by
 have hf:Fr (fun k=>k=hm) (fun k=>k=hm) w w':=⟨hg.os,hg.tape,hg.output,hg.size,fun k hk hn=>hg.block k hk (fun e=>hn (zv e)),fun _ q => .inl q⟩;obtain⟨n1,n2,n3,n4,n5⟩:=h.ne;rw[Nq] at jH;exact⟨hf.cell h.ca n2,h.ma.fr hf n4,hf.cell h.ch n5,by simpa using jH,h.lo,h.out,h.ne,h.uX hg (YK h.mh),fun e he=>List.mem_append_left _ (h.ks e he)⟩
theorem YH.ask{k:Wd}{i b c:Nat}{y:jC}(h:YH N p ab am hb hm pre al s L w)(hk:k∈pre)(hn:∀ e∈al,e.1≠k)(jH:Y4 w' am (al.length+1) (fun x=>if k=x then some (b,c) else al.fn x))(hg:w.grownBy w' (some am))
  (hl:kh w p i b c) (ob:¬L.has p b) (oc:¬L.has p c) (hy:s.code[i]? = some y) (h1:y.tg.length=1):YH N p ab am hb hm pre (al++[(k,i,b,c)]) s L w':=by
 have hf:Fr (fun k=>k=am) (fun k=>k=am) w w':=⟨hg.os,hg.tape,hg.output,hg.size,fun k hk hn=>hg.block k hk (fun e=>hn (zv e)),fun _ q => .inl q⟩;obtain⟨n1,n2,n3,n4,n5⟩:=h.ne;have M3:=Al h.ma;have e1:(fun x=>if k=x then some (b,c) else al.fn x)=XD.fn (al++[(k,i,b,c)]):=by
  funext x;unfold XD.fn;rw[Ix al k x _ hn];split<;>rfl
 rw[e1] at jH;refine⟨hf.cell h.ca n1,by simpa using jH,hf.cell h.ch n3.symm,h.mh.fr hf (fun e=>n4 e.symm),h.lo,h.out,h.ne,fun e he=>?_,fun e he=>?_⟩
 ·rcases zH.1 he with he|he
  ·exact h.uX hg M3 e he
  ·simp at he;subst he;exact⟨hl.fr hf (fun e=>by have:=hl.tb;rw[e,M3] at this;cases this) (fun e=>by have:=hl.tc;rw[e,M3] at this;cases this),ob,oc,y,hy,h1⟩
 ·rcases zH.1 he with he|he
  ·exact h.ks e he
  ·simp at he;subst he;exact hk
end
def plG(ks:List Wd)(ix:List (Wd×Nat))(t:Nat)(k:Wd)(x:MkS):MkS :=
 match ix.lookup k with
 | some i=>x.uv i 0
 | none=>MkS.I0 ks t k x
def Nk(ab am hb hm tb b c:Nat)(al:XD)(g:Nat):Prop:=g=ab\/g=am\/g=hb\/g=hm\/g=tb\/g=b\/g=c\/g=0\/∃ e∈al,g=e.2.2.1\/g=e.2.2.2
theorem oV{N p ab am hb hm idx b c:Nat}{pre:List Wd}{al:XD}{s:MkS}{L:dW}{w wT:World}{x:jC}(h:YH N p ab am hb hm pre al s L w)(hl:kh w p idx b c)(ob:¬L.has p b)(oc:¬L.has p c)(hna:qP w)(hB:0<L.B)(B3:ug p L s w)
  (hx:s.code[idx]? = some x) (sP:x.tg.length=6) (hk:∀ k∈pre,k.length<=17) (hT:w.alloc (.cells #[bN b c] 189)=wT) :
  zv1 wT.heap.size p s pre (plG pre al.ix idx) (.func (.func 164) #[] #[.pointer (some ⟨ab,0,none⟩),.pointer (some ⟨hb,0,none⟩),.pointer (some ⟨w.heap.size,0,none⟩)]) (fun L W=>X2 (Nk ab am hb hm w.heap.size b c al) p wT L W)/\X2 (Nk ab am hb hm w.heap.size b c al) p wT L wT:=by
 have Nu:Fr xS xS w wT:=by rw[←hT];exact(Fr.refl _ _).alloc _
 have hcT:=xq w #[bN b c] 189 (0,0) 0;rw[hT] at hcT;have hsT:wT.heap.size=w.heap.size+1:=by rw[←hT];simp
 have hp:=h.al' Nu (fun _ q=>q.elim);obtain⟨l1,l2,l3,l4⟩:=h.lt;obtain⟨o1,o2,o3,o4⟩:=h.out;have ll:=hl.lt;have UQ:=B3.base;refine⟨⟨⟨_,_,rfl,fun args w=>by first|rfl|simp[callFunc],fun L' s' W key a ma mn mc mJ hI hle qs Uw=>?_⟩,fun L L' W W' h hf=>h.fr hf,fun L W W' F F' h hf hF=>h.al hf hF,fun k x=>?_⟩,fun g hg=>?_⟩
 ·have hP:Sv (Nk ab am hb hm w.heap.size b c al) p ab am hb hm w.heap.size b c idx al.length pre.length pre al.fn wT :=
   ⟨hp.ca,hp.ma,hp.ch,hp.mh,hcT,hl.fr Nu id id,fun j hj=>Nu.cell (hna j hj) id,.inl rfl,.inr (.inl rfl),.inr (.inr (.inl rfl)),.inr (.inr (.inr (.inl rfl))),.inr (.inr (.inr (.inr (.inl rfl)))),.inr (.inr (.inr (.inr (.inr (.inl rfl))))),.inr (.inr (.inr (.inr (.inr (.inr (.inl rfl)))))),.inr (.inr (.inr (.inr (.inr (.inr (.inr (.inl rfl))))))) ⟩
  have oz:=hk key Uw;unfold plG;rw[B5]
  cases qd:al.lookup key with
  | none =>
   obtain⟨y,hy,hyt⟩:=hle _ x hx;exact Su s' y key a ma mn mc mJ hP hI oz hy (hyt.trans sP) qs (by unfold XD.fn;rw[qd];rfl)
  | some e =>
   obtain⟨i1,b1,c1⟩:=e;have zvx:=GG al key _ qd;obtain⟨q1,q2,q3,y0,q4,q5⟩:=hp.lp _ zvx;obtain⟨y,hy,hyt⟩:=hle _ y0 q4;exact Sj s' y key a ma mn mc b1 c1 i1 mJ hP hI oz q1 (.inr (.inr (.inr (.inr (.inr (.inr (.inr (.inr ⟨_,zvx,.inl rfl⟩)))))))) (.inr (.inr (.inr (.inr (.inr (.inr (.inr (.inr ⟨_,zvx,.inr rfl⟩)))))))) hy (hyt.trans q5) qs (by unfold XD.fn;rw[qd];rfl)
 ·unfold plG;split
  ·exact⟨x.ZB _ _,gO _ _ _⟩
  ·exact MkS.AI _ _ _ _
 ·have ED:∀ k,L.has p k->L.B<=k:=B3.lo;rcases hg with rfl|rfl|rfl|rfl|rfl|rfl|rfl|rfl|⟨e,he,rfl|rfl⟩
  ·exact⟨by omega,o1,rfl⟩
  ·exact⟨by omega,o2,rfl⟩
  ·exact⟨by omega,o3,rfl⟩
  ·exact⟨by omega,o4,rfl⟩
  ·exact⟨by omega,fun q=>by have:=B3.lt q;omega,rfl⟩
  ·exact⟨by omega,ob,rfl⟩
  ·exact⟨by omega,oc,rfl⟩
  ·exact⟨by omega,fun q=>by have:=ED _ q;omega,rfl⟩
  ·obtain⟨q1,q2,q3,-⟩:=h.lp e he;exact⟨by have:=q1.lt;omega,q2,rfl⟩
  ·obtain⟨q1,q2,q3,-⟩:=h.lp e he;exact⟨by have:=q1.lt;omega,q3,rfl⟩
theorem Sg{p:Nat}{L:dW}{s:MkS}{w:World}(h:ug p L s w)(N:Nat)(hN:N<=w.heap.size) :
  ∃ W,W=(((w.alloc (.map #[] 0)).alloc (.cells #[.map (some w.heap.size)] 185)).alloc (.map #[] 0)).alloc (.cells #[.map (some (w.heap.size+2))] 298) /\
   YH N p (w.heap.size+3) (w.heap.size+2) (w.heap.size+1) w.heap.size [] [] s L W/\Fr xS xS w W:=by
 obtain⟨A,hA⟩:∃ A,w.alloc (.map #[] 0)=A:=⟨_,rfl⟩;have sA:A.heap.size=w.heap.size+1:=by rw[←hA];simp
 have mA:=km.made 3 w;have fA:Fr xS xS w A:=by rw[←hA];exact(Fr.refl _ _).alloc _
 rw[hA] at mA ⊢;clear hA;obtain⟨B,hB⟩:∃ B,A.alloc (.cells #[.map (some w.heap.size)] 185)=B:=⟨_,rfl⟩;have sB:B.heap.size=w.heap.size+2:=by rw[←hB];simp[sA]
 have cB:=xq A #[.map (some w.heap.size)] 185 (0,0) 0;have fB:Fr xS xS A B:=by rw[←hB];exact(Fr.refl _ _).alloc _
 rw[hB,sA] at cB;rw[hB];clear hB;obtain⟨C,hC⟩:∃ C,B.alloc (.map #[] 0)=C:=⟨_,rfl⟩;have mC:=Y4.made B;have sC:C.heap.size=w.heap.size+3:=by rw[←hC];simp[sB]
 have fC:Fr xS xS B C:=by rw[←hC];exact(Fr.refl _ _).alloc _
 rw[hC,sB] at mC;rw[hC];clear hC;have fD:Fr xS xS C (C.alloc (.cells #[.map (some (w.heap.size+2))] 298)):=(Fr.refl _ _).alloc _;have f:=fC.trans fD;have no:∀ g,w.heap.size<=g->¬L.has p g:=fun g hg q=>by have:=h.lt q;omega
 have e0:XF []=fun _=>none:=by funext x;simp[XF]
 refine⟨_,rfl,⟨?_,mC.fr fD id,f.cell cB id,by rw[e0];exact mA.fr (fB.trans f) id,by omega,⟨no _ (by omega),no _ (by omega),no _ (by omega),no _ (by omega)⟩,by omega,(fun e he=>by cases he),(fun e he=>by cases he)⟩,fA.trans (fB.trans f)⟩;rw[←sC];exact xq C #[.map (some (w.heap.size+2))] _ _ _
theorem PL(k:Wd)(h:k.head? = some 61):zF k [61]=true/\zJ k [61]=k.tail:=by
 cases k with
 | nil=>cases h
 | cons c t=>simp at h;subst h;constructor<;>simp[zF,zJ]
theorem PM(k:Wd)(h:¬k.head? = some 61):zF k [61]=false/\zJ k [61]=k:=by
 cases k with
 | nil=>constructor<;>simp[zF,zJ]
 | cons c t =>
  have hc:¬c=61:=fun e=>h (by rw[e];rfl)
  have jJ:¬61=c:=fun e=>hc e.symm
  constructor<;>simp[zF,zJ,List.isPrefixOf,hc,jJ]
theorem Sf(l:Wd)(h:l.length<=9)(hd:l.all xQ=true):xL l<=4000000000:=by
 have hb:∀ (l:Wd) (v:Nat),l.all xQ=true->l.foldl (fun v c=>10*v+(c.toNat - 48)) v<(v+1)*10 ^ l.length:=by
  intro l;induction l with
  | nil=>intro v _;simp
  | cons c t ih =>
   intro v h;simp only[List.all_cons,zk] at h;have hc:=(vM c).1 h.1;have:=ih (10*v+(c.toNat - 48)) h.2;rw[List.foldl_cons,zW];refine zo this ?_;have h3:10*v+(c.toNat - 48)+1<=(v+1)*10:=by omega
   calc (10*v+(c.toNat - 48)+1)*10 ^ t.length<=((v+1)*10)*10 ^ t.length:=Nat.mul_le_mul_right _ h3
    _=(v+1)*10 ^ (t.length+1):=by rw[Nat.pow_succ,Nat.mul_assoc,Nat.mul_comm 10]
 have h1:=hb l 0 hd;have h2:10 ^ l.length<=10 ^ 9:=Nat.pow_le_pow_right (by decide) h;have h3:(10:Nat) ^ 9=1000000000:=by decide
 unfold xL;omega
theorem Nj{lo hi:Nat}{w0:World}(b0:Nat)(n:Wd)(a fo:Nat)(of:Wd)(cl:Nat)(bs:Fo)(p:Nat)(L:dW)(s:MkS)(w:World)
  (ih:∀ m:Fo,zx m<zx bs->I7 lo hi w0 m) (h:ug p L s w) (he:YE lo hi w0 L.B w) (KA:fo≠0)
  (XG:xV lo hi w0 [.iface 177 (.pointer (some ⟨b0,0,none⟩))] (.br n a fo of cl bs .nil)) (hc:(Fo.br n a fo of cl bs .nil).Uo) (JO:(Fo.br n a fo of cl bs .nil).wf 2000000=true) (hs:s.sz+(40+bs.cw)<=900000) :
  Calls prog 122 #[.pointer (some ⟨p,0,none⟩),.pointer (some ⟨b0,0,none⟩)] w (MQ p L ((Uh bs (MkS.jD n of bs s) (MkS.qW n of fo bs s)).put 5 0 [] []) w):=by
 have M4:=@run_makeMap prog;have HND:=z7 XG;obtain⟨vt,b',ba,bc,ws,N8,xH,xB,fk,qD,jJ,Mv,B2,Mu,K9,UQ,_⟩:=XG
 cases N8;obtain⟨hnl,WV,PY,hL,Aa,tu,Dd,-⟩:=hc;have bQ:(decide (n.length<=4000001) && decide (fo<3) && bs.ub && decide (bs.len<=2000000) && bs.wf 2000000 && Fo.nil.wf 2000000)=true:=JO;simp only[zk,decide_eq_true_eq] at bQ;obtain⟨⟨⟨-,I3⟩,qI⟩,-⟩:=bQ;have c0:=xp he.keep fk xH xB;have c1:=xp he.keep qD xH xB;have c2:=xp he.keep Mv xH xB;have c4:=xp he.keep B2 xH xB;have c3:=xp he.keep jJ xH xB;have qs:s.cs.length<=900000/\s.code.length<=900000/\s.pos<=900000:=by unfold MkS.sz at hs;omega
 have HC:=z7 (V4 p L s n w.drew h.drew (by omega) (by omega));have HH:=z7 h;have HE:=z7 he;have Mq:=z7 K9;have nO:=z7 UQ;have HL:=z7 hL;have N9:=z7 Aa;have HKS:=z7 tu;have HBC:=z7 Dd;have I4:=z7 qI;have nN:=z7 ih;have HS:=z7 hs;obtain⟨M,hM⟩:∃ M,bs.len=M:=⟨_,rfl⟩;have HM:=z7 hM;rw[hM] at c4 I3;obtain⟨k0,CF⟩:∃ k0,s.num n=k0:=⟨_,rfl⟩;rw[CF] at HC;have PI:=z7 CF;obtain⟨ov,zvv⟩:∃ ov,xL of=ov:=⟨_,rfl⟩;rw[zvv] at c2 PY;have HOV:=z7 zvv;clear h he K9 UQ hL Aa tu Dd qI ih hs hM fk qD jJ Mv B2 Mu CF JO zvv;go_enter func122,ntmps122;go_wp2_with fail;refine rt (fun W':World=>W'.cell? ⟨b0,0,none⟩=some (xf n)/\W'.cell? ⟨b0,3,none⟩=some (.int .i64 ov)) [0,1,2,3,4,5,6,9,10,11,12] 4 ⟨c0,c2⟩ ?_;(iterate 11 (refine ty ?_;try simp only[pl]))
 refine xk ?_;refine xg 7 (by kernel_rfl) rfl (fun J hJ=>?_);go_simp;refine HC.out.mono ?_;rintro e w1 ⟨rfl,L1,V6,⟨Ql,Xj⟩,uZ⟩;clear HC;have uZ:=uZ.und;have nb0:¬L.has p b0:=fun q=>by have:=HH.out.lo _ q;have:=HE.out.hB;omega
 have d0:=uZ.cell c0 nb0;have d2:=uZ.cell c2 nb0;refine hJ.out _ _ ⟨d0,d2⟩ fun _=>?_
 clear hJ J;refine xg 8 (by kernel_rfl) rfl (fun J hJ=>?_);go_simp;refine hJ.out _ _ ⟨xG d0 _,xG d2 _⟩ fun _=>?_
 clear hJ J;refine xE [13] 1 rfl (by intro _ _ d _ _ h;cases d<;>exact h) (by kernel_rfl) (by kernel_rfl) ⟨xG d0 _,xG d2 _⟩ ?_;refine ty ?_;try simp only[pl]
 refine xk ?_;refine xg 14 (by kernel_rfl) rfl (fun J hJ=>?_);go_simp;have Dz:=qV.lit w1 [k0] (by simp);have zl0:=V6.alloc (.cells (Zf [k0]).toArray 3);obtain⟨z1,z2,z3⟩:=vY s n;have hk9:k0<=900000:=by have:=C3 s n;have:=PI.out;omega
 have dH:(uG ⟨4,(s.const n).pos,ov,[k0],[]⟩).length=7:=by simp[uG,fJ,jx,jy,Xq]
 have hF1:jr (w1.alloc (.cells (Zf [k0]).toArray 3)):=(HE.out.fo.fr uZ HH.out.lo HE.out.g1).fr ((Fr.refl xS w1).alloc _) (fun _ q=>q.elim) HE.out.g1;have HP:=z7 (b8 p L1 (s.const n) 4 ov [k0] [] (.slice (some ⟨w1.heap.size,0,none⟩) 1 1) (.slice none 0 0) (w1.alloc (.cells (Zf [k0]).toArray 3)) zl0 Dz (qV.nil _) (fun g hg q=>by cases hg;exact zY _ (V6.lt q)) (fun g hg=>by cases hg) (fun g hg=>by cases hg)
  (fun g hg=>by rcases hg with hg|hg<;>cases hg;have:=V6.base;show L1.B<=w1.heap.size;omega)
  ⟨(by decide:4<12),by show ov<=_;omega,by simp;omega,by simp,by simp,rfl⟩ hF1 (by rw[Xj];exact HE.out.g1) (by rw[z2];omega) (by rw[z3];omega) (by rw[dH];omega))
 refine HP.out.mono ?_;rintro e w2 ⟨bx,cx,rfl,-,-,-,L2,jH,⟨ju,Jv⟩,vF,-,-⟩;have fA:Fr xS xS w1 (w1.alloc (.cells (Zf [k0]).toArray 3)):=(Fr.refl _ _).alloc _;have F2:Fr (L.has p) (L2.has p) w w2:=(uZ.trans (fA.wide (fun _ q=>q.elim))).tr vF (fun q hq=>by
  rcases hq with hq|hq|hq
  ·exact uZ.fp q hq
  ·cases hq;exact .inr uZ.size
  ·cases hq)
 obtain⟨s2,qU⟩:∃ s2,(s.const n).put 4 ov [k0] []=s2:=⟨_,rfl⟩;have VO:s2.sz<=s.sz+9:=by rw[←qU,jt,dH];omega
 rw[qU] at jH;have d0:=F2.cell c0 nb0;have d2:=F2.cell c2 nb0;have d4:=F2.cell (a:=⟨b0,4,none⟩) c4 nb0;have d3:=F2.cell (a:=⟨b0,2,none⟩) c3 nb0;refine hJ.out _ _ ⟨d0,d2⟩ fun _=>?_
 clear hJ J;refine wpAnyH_done (by kernel_rfl) ?_ _;have dI:=z7 F2;have YJ:=z7 jH;have di:=z7 qU;obtain⟨W,hW,vR,Jt⟩:=Sg (s:=s2) jH w.heap.size F2.size;have c4a:=fun o1 o2 o3 o4=>xG (xG (xG (xG d4 o1) o2) o3) o4
 have zl1:L2.q=L.q/\L2.B=L.B:=⟨ju.trans Ql,Jv.trans Xj⟩;have HQ:=z7 zl1;clear V6 zl0 Dz hF1 HP uZ vF fA F2 jH qU Ql ju Xj Jv zl1 dH z1 z2 z3;go_wp2_with fail;rw[show w2.heap.size+1+1+1=w2.heap.size+3 from rfl,show w2.heap.size+1+1=w2.heap.size+2 from rfl,←hW];obtain⟨ab,hab⟩:∃ ab,w2.heap.size+3=ab:=⟨_,rfl⟩;obtain⟨am,ham⟩:∃ am,w2.heap.size+2=am:=⟨_,rfl⟩;obtain⟨hb,hhb⟩:∃ hb,w2.heap.size+1=hb:=⟨_,rfl⟩;obtain⟨hm,hhm⟩:∃ hm,w2.heap.size=hm:=⟨_,rfl⟩;rw[hab,hhb];rw[hab,ham,hhb,hhm] at vR;obtain⟨R,hR⟩:∃ R,MkS.qH bs s2 []=R:=⟨_,rfl⟩;have HR:=z7 hR;clear hab ham hhb hhm hR hW;go_loopw [36] (fun iv wr=>∃ i us xs r s1 L3 al pre,iv = .int .i64 (i:Nat)/\i<=M/\xV lo hi w0 xs r/\r.ub=true/\us.length=i*3/\ws=us++xs/\i+r.len=M/\bs.keys=pre++r.keys /\
  ug p L3 s1 wr/\(L3.q=L.q/\L3.B=L.B)/\Fr (L.has p) (L3.has p) w wr/\YH w.heap.size p ab am hb hm pre al s1 L3 wr/\MkS.qH r s1 al.ix=R/\pre.length=i/\al.length<=i/\s1.sz+8*r.keys.length<=899990) (fun iv _=>M - (intOf iv).toNat)
 case atStart =>
  exact⟨0,[],ws,bs,s2,L2,[],[],rfl,zX _,nO.out,HL.out,rfl,rfl,by have:=HM.out;omega,rfl,YJ.out.fr Jt (fun _ q=>q.elim),HQ.out,dI.out.trans (Jt.wide (fun _ q=>q.elim)),vR,HR.out,rfl,zg _,by have:=HS.out;have:=Fo.YC bs;omega⟩
 case round =>
  clear vR Jt c4a d0 d2 d3 d4;obtain⟨i,us,xs,r,s1,L3,al,pre,rfl,hiM,fu,ZC,VL,VN,jq,Q6,KN,⟨XY,DK⟩,gY,Ng,jR,Iv,qd,uT⟩:=hrel;have tQ:YE lo hi w0 L3.B wr:=by rw[DK];exact HE.out.fr gY HH.out.lo
  have D5:=z7 KN;have HE3:=z7 tQ;have Vi:=z7 gY;have HPL:=z7 Ng;have bu:=z7 jR;have HLR:=z7 ZC;have CU:=z7 VL;have WJ:=z7 VN;have Xv:=z7 jq;have CD:=z7 Q6;have gM:=z7 uT;have HPR:=z7 Iv;by_cases xC:i<M
  ·cases r with
   | nil=>exfalso;simp[Fo.len] at jq;omega
   | text t r=>cases ZC
   | hash r=>cases ZC
   | put n a r=>cases ZC
   | num n a r=>cases ZC
   | br n a fo of cl bs r=>cases ZC
   | uq k1 a0 m0 r0 =>
    obtain⟨PC,ma,mc,ms,rfl,XJ,AP,Ut⟩:=fu;obtain⟨g2,o2,rfl,e0,e1,e2⟩:=Kz tQ.keep Mq.out VL VN;have QN:=z7 Ut;have k3:(i:Int)<(M:Int):=by omega
    have k4:decide ((i:Int)<(M:Int))=true:=by simp;omega
    have Nz:Fr xS xS wr (wr.alloc (.cells #[xf k1,.int .i64 (a0:Nat),.slice ma m0.len mc] 183)):=(Fr.refl _ _).alloc _;have hpA:=Ng.al' Nz (fun _ q=>q.elim);have N5:=Xv.out;simp only[Fo.len] at N5;have Nx:=gM.out;simp only[Fo.keys,zW] at Nx;have hkb:k1∈bs.keys:=by rw[CD.out];simp[Fo.keys]
    have CB:k1 ∉ pre:=fun q=>by
     have h1:=N9.out;rw[CD.out] at h1;exact(zt.1 h1).2.2 k1 q k1 (by simp[Fo.keys]) rfl
    have yg7:=z7 CB;obtain⟨oz,zvq⟩:=HKS.out k1 hkb;have Vd:=hpA.mh.KI Qi k1 (by omega);rw[show XF pre k1=none from if_neg CB] at Vd;obtain⟨wp,Xk,V5,KP⟩:=hpA.mh.put Qi k1 (by omega) 1 1 rfl (by omega) (by omega);have Ke:=z7 (hpA.key V5 KP);have WG:Fr (fun g=>g=hm) (fun g=>g=hm) (wr.alloc (.cells #[xf k1,.int .i64 (a0:Nat),.slice ma m0.len mc] 183)) wp:=⟨KP.os,KP.tape,KP.output,KP.size,fun k hk hn=>KP.block k hk (fun e=>hn (zv e)),fun _ q => .inl q⟩;have Vw:=hpA.ch;have mQ:=z7 WG;have kec:wp.cell? ⟨wr.heap.size,0,none⟩=some (xf k1):=WG.cell (xq _ _ _ _ _) (fun e=>by have:=Ng.lt.2.2.2;simp only at e;omega);have Iz:=z7 ((KN.fr Nz (fun _ q=>q.elim)).fr WG (by rintro g rfl;exact Ng.out.2.2.2));have D6:=z7 ((gY.trans (Nz.wide (fun _ q=>q.elim))).over WG (by rintro g rfl;exact .inr Ng.lo.2.2.2));have Nf:=Tryz.strings_CutPrefix ⟨k1.toArray⟩ ⟨#[61]⟩ wp;rw[show(yz k1.toArray).data.toList=k1 by simp,show(yz #[61]).data.toList=[61] from rfl] at Nf;clear KN tQ gY jR ZC VL VN XJ AP Ut jq Q6 uT Iv Nz hpA Ng CB V5 KP WG;by_cases hx:k1.head? = some 61
    ·rw[(PL k1 hx).1,(PL k1 hx).2] at Nf;have B6:=z7 Nf;obtain⟨q1,q2,q3⟩:=zvq KA hx;have QL:=z7 (Pk k1.tail wp q2 q3 q1);have HX:=z7 hx;obtain⟨kv,Qa⟩:∃ kv,xL k1.tail=kv:=⟨_,rfl⟩;obtain⟨kt,hkt⟩:∃ kt,k1.tail=kt:=⟨_,rfl⟩;have xv0:kv<=4000000000:=by rw[←Qa];exact Sf _ q2 q3
     rw[Qa,hkt] at QL;rw[hkt] at B6;have Nd:=z7 Qa;clear Nf hx zvq q1 q2 q3 Qa hkt;go_wp2_with fail;refine B6.out.mono ?_;rintro e w4 ⟨rfl,rfl⟩;go_wp2_with fail;refine QL.out.mono ?_;rintro e w5 ⟨rfl,jw⟩;have f5:Fr xS xS w4 w5:=Fr.of jw;clear B6 QL Xk Vd Vw;have ca5:=f5.cell Ke.out.ca id;have ke5:=f5.cell kec id;go_wp2_with fail;refine rt (fun W':World=>W'.cell? ⟨ab,0,none⟩=some (.map (some am))/\W'.cell? ⟨wr.heap.size,0,none⟩=some (xf k1)) [0,1,2,3,4] 4 ⟨ca5,ke5⟩ ?_;(iterate 5 (refine ty ?_;try simp only[pl]))
     refine xk ?_;refine xg 5 (by kernel_rfl) rfl (fun J hJ=>?_);obtain⟨w6,B3,hk6,ZO⟩:=V9 1 w5.drew (by omega);rw[show((1:Nat):Int)=1 from rfl] at B3;have ZO:=ZO.und;have ca6:=ZO.cell ca5 id;have ke6:=ZO.cell ke5 id;go_simp;refine hJ.out _ _ ⟨ca6,ke6⟩ fun _=>?_
     clear hJ J;refine xE [6] 2 rfl (by intro _ _ d _ _ h;cases d<;>exact h) (by kernel_rfl) (by kernel_rfl) ⟨ca6,ke6⟩ ?_;refine ty ?_;try simp only[pl]
     refine xk ?_;refine xg 7 (by kernel_rfl) rfl (fun J hJ=>?_);go_simp;have f46:Fr xS xS w4 w6:=f5.trans ZO;have hm6:=Iz.out.fr f46 (fun _ q=>q.elim);have Sd:=Ke.out.al' f46 (fun _ q=>q.elim);have DU:=Nx;unfold MkS.sz at DU;have h8:(uG ⟨7,s1.pos,kv,[],z8 1 0⟩).length=7:=by simp[uG,fJ,jx,jy,Xq]
     have he6:YE lo hi w0 L3.B w6:=by rw[DK];exact(HE.out.fr D6.out HH.out.lo).fr f46 (fun _ q=>q.elim)
     have HP:=z7 (b8 p L3 s1 7 kv [] (z8 1 0) (.slice none 0 0) (.slice (some ⟨w5.heap.size,0,none⟩) 1 1) w6 hm6 (qV.nil _) hk6 (fun g hg=>by cases hg) (fun g hg q=>by cases hg;have h1:=Iz.out.lt q;have h2:=f5.size;exact absurd h1 (by show ¬w5.heap.size<w4.heap.size;omega)) (fun g hg q=>by cases q)
      (fun g hg=>by rcases hg with hg|hg<;>cases hg;have h1:=Iz.out.base;have h2:=f5.size;show L3.B<=w5.heap.size;omega)
      ⟨(by decide:7<12),by show kv<=_;omega,by simp,by simp,by simp,rfl⟩ he6.fo he6.g1 (by omega) (by omega) (by omega))
     refine HP.out.mono ?_;rintro e w7 ⟨b,c,rfl,yg9,jI,hc7,L4,hm7,⟨hq7,hB7⟩,hf7,nb7,nc7⟩;have f47:Fr (L3.has p) (L4.has p) w4 w7:=(f46.wide (fun _ q=>q.elim)).tr hf7 (fun q hq=>by
      rcases hq with hq|hq|hq
      ·exact .inl hq
      ·cases hq
      ·cases hq;exact .inr f5.size)
     have nk1:¬L3.has p wr.heap.size:=fun q=>by have:=D5.out.lt q;omega
     have ca7:=f47.cell Ke.out.ca Ke.out.out.1;have ke7:=f47.cell kec nk1;have EN:=Ke.out.fr f47 (MkS.bn s1 7 kv [] (z8 1 0));obtain⟨w8,zl4,zl5,Nb⟩:=EN.ma.put k1 (by omega) (b,c) (by omega);have HP8:=z7 (EN.ask (k:=k1) (by simp) (fun e he q=>yg7.out (by rw[←q];exact HPL.out.ks e he)) zl5 Nb yg9 nb7 nc7 (i:=s1.code.length) (y:=⟨7,s1.pos,kv,[],z8 1 0⟩) (by simp[MkS.put]) (by simp));have hf8:Fr (fun g=>g=am) (fun g=>g=am) w7 w8:=⟨Nb.os,Nb.tape,Nb.output,Nb.size,fun k hk hn=>Nb.block k hk (fun e=>hn (zv e)),fun _ q => .inl q⟩;have HM8:=z7 (hm7.fr hf8 (by rintro g rfl;exact EN.out.2.1));have HF8:=z7 ((D6.out.trans f47).over hf8 (by rintro g rfl;exact .inr EN.lo.2.1));have ca8:=hf8.cell ca7 EN.ne.1;have ke8:=hf8.cell ke7 (fun e=>by have:=HPL.out.lt.2.1;have e2:wr.heap.size=am:=e;omega);have hz8:=jt s1 7 kv [] (z8 1 0);refine hJ.out _ _ ⟨ca7,ke7⟩ fun _=>?_
     clear hJ J;refine xg 8 (by kernel_rfl) rfl (fun J hJ=>?_);go_simp;refine hJ.out _ _ ⟨ca8,ke8⟩ fun _=>?_
     clear hJ J;refine wpAnyH_done (by kernel_rfl) ?_ _;have hq9:=hq7;clear zl4 EN zl5 Nb hm7 hf7 f47 f46 hm6 Sd he6 HP B3;go_wp2;go_roundw
     case rel =>
      refine⟨i+1,us++[xf k1,.int .i64 (a0:Nat),.slice ma m0.len mc],PC,r0,s1.put 7 kv [] (z8 1 0),L4,al++[(k1,s1.code.length,b,c)],pre++[k1],by go_num,by omega,QN.out,HLR.out,by simp[CU.out];omega,by rw[WJ.out];simp,by omega,by rw[CD.out];simp[Fo.keys],HM8.out,⟨hq7.trans XY,hB7.trans DK⟩,HF8.out,HP8.out,?_,by simp[HPR.out],by simp;omega,by omega⟩;have:=bu.out;rw[MkS.qH,if_pos HX.out,Nd.out] at this;simpa[XD.ix] using this
     case measure=>simp only[intOf];omega
    ·rw[(PM k1 hx).1,(PM k1 hx).2] at Nf;have B6:=z7 Nf;have HX:=z7 hx;clear Nf hx zvq;go_wp2_with fail;refine B6.out.mono ?_;rintro e w4 ⟨rfl,rfl⟩;clear B6 Xk Vd Vw;go_wp2;go_roundw
     case rel =>
      refine⟨i+1,us++[xf k1,.int .i64 (a0:Nat),.slice ma m0.len mc],PC,r0,s1,L3,al,pre++[k1],by go_num,by omega,QN.out,HLR.out,by simp[CU.out];omega,by rw[WJ.out];simp,by omega,by rw[CD.out];simp[Fo.keys],Iz.out,⟨XY,DK⟩,D6.out,Ke.out,?_,by simp[HPR.out],by omega,by omega⟩;have:=bu.out;rw[MkS.qH,if_neg HX.out] at this;exact this
     case measure=>simp only[intOf];omega
  ·have vZ:r.keys=[]/\MkS.qH r s1 al.ix=(s1,al.ix):=by
    cases r with
    | nil=>exact⟨rfl,rfl⟩
    | text t r=>cases ZC
    | hash r=>cases ZC
    | put n a r=>cases ZC
    | num n a r=>cases ZC
    | br n a fo of cl bs r=>cases ZC
    | uq k0 a0 m0 r0=>exfalso;simp only[Fo.len] at jq;omega
   have oU:MkS.kP n of bs s=(s1,al.ix):=by
    unfold MkS.kP;rw[PI.out,HOV.out,di.out,HR.out];exact jR.symm.trans vZ.2
   have Ki:=z7 oU;have HK1:=z7 (show bs.keys=pre by rw[Q6,vZ.1];simp);have k3:¬(i:Int)<(M:Int):=by omega
   have k4:decide ((i:Int)<(M:Int))=false:=by simp;omega
   obtain⟨wm,B3,oZ,Vt⟩:=V9 6 wr (by omega);rw[show((6:Nat):Int)=6 from rfl] at B3;have zl6:=KN.fr Vt (fun _ q=>q.elim);have tF:=tQ.fr Vt (fun _ q=>q.elim);have hpm:=Ng.al' Vt (fun _ q=>q.elim);have f3m:Fr (L.has p) (L3.has p) w wm:=gY.trans (Vt.wide (fun _ q=>q.elim));have c3m:=gY.cell (a:=⟨b0,2,none⟩) c3 nb0;have HMM:=z7 zl6;have HEM:=z7 tF;have HPM:=z7 hpm;have H3M:=z7 f3m;have HKM:=z7 oZ;have HFM:=z7 Vt;have DU:=uT;unfold MkS.sz at DU;have hs9:s1.sz<=899990:=by omega
   obtain⟨op,uR⟩:∃ op,(if fo=2 then 9 else 8)=op:=⟨_,rfl⟩;have HSS:=z7 (show s1.put op 0 [] (z8 6 0)=MkS.qW n of fo bs s by unfold MkS.qW;rw[oU,uR]);have lwr:=KN.base.2;clear KN tQ gY Ng jR ZC VL VN jq Q6 uT fu vZ Iv oU zl6 tF hpm f3m oZ;have zvj:(((fo:Int)==2)=true/\9=op)\/(((fo:Int)==2)=false/\8=op):=by
    by_cases q:fo=2
    ·left;rw[if_pos q] at uR;exact⟨by simp[q],uR⟩
    ·right;rw[if_neg q] at uR;exact⟨by simp;omega,uR⟩
   clear uR;have DY:op<12:=by omega
   have QH:okB (fJ op) 0 6=true:=by rcases zvj with⟨-,rfl⟩|⟨-,rfl⟩<;>rfl
   have Sb:(uG ⟨op,s1.pos,0,[],z8 6 0⟩).length<=1000000:=by rcases zvj with⟨-,rfl⟩|⟨-,rfl⟩<;>simp[uG,fJ,jx,jy]
   have HP:=z7 (b8 p L3 s1 op 0 [] (z8 6 0) (.slice none 0 0) (.slice (some ⟨wr.heap.size,0,none⟩) 6 6) wm HMM.out (qV.nil _) HKM.out (fun g hg=>by cases hg) (fun g hg q=>by cases hg;exact zY _ (D5.out.lt q)) (fun g hg q=>by cases q)
    (fun g hg=>by rcases hg with hg|hg<;>cases hg;have h1:=D5.out.base;show L3.B<=wr.heap.size;omega)
    ⟨DY,by simp,by simp,by simp,by simp,QH⟩ HEM.out.fo HEM.out.g1 (by omega) (by omega) Sb)
   have HI6:=z7 (show ∃ x,(s1.put op 0 [] (z8 6 0)).code[s1.code.length]? = some x/\x.tg.length=6 from⟨_,by simp[MkS.put];rfl,by simp⟩);have Ai:=z7 (MkS.bn s1 op 0 [] (z8 6 0));clear DY QH Sb;rcases zvj with⟨kf,rfl⟩|⟨kf,rfl⟩;all_goals
    go_wp2_with fail;refine HP.out.mono ?_;rintro e w5 ⟨b,c,rfl,I8,-,-,L4,JD,⟨hq5,hB5⟩,JB,nb5,nc5⟩;have f35:Fr (L3.has p) (L4.has p) wr w5:=(HFM.out.wide (fun _ q=>q.elim)).tr JB (fun q hq=>by
     rcases hq with hq|hq|hq
     ·exact .inl hq
     ·cases hq
     ·cases hq;exact .inr (zg _))
    have fw5:Fr (L.has p) (L4.has p) w w5:=Vi.out.trans f35;have he5:YE lo hi w0 L4.B w5:=by rw[hB5,DK];exact HE.out.fr fw5 HH.out.lo
    have Iu:=HPL.out.fr f35 Ai.out;obtain⟨x,hx,sP⟩:=HI6.out;have Uc:∀ k∈pre,k.length<=17:=fun k hk=>(HKS.out k (by rw[HK1.out];exact hk)).1
    obtain⟨wT,tJ⟩:∃ wT,w5.alloc (.cells #[bN b c] 189)=wT:=⟨_,rfl⟩;obtain⟨zvf,hI⟩:=oV Iu I8 nb5 nc5 he5.na he5.g2 JD hx sP Uc tJ;have Nu:Fr xS xS w5 wT:=by rw[←tJ];exact(Fr.refl _ _).alloc _
    have Dj:MkS.jD n of bs s=plG pre al.ix s1.code.length:=by
     funext k x;unfold MkS.jD plG;rw[Ki.out,HK1.out];rfl
    rw[←Dj,HSS.out,←HK1.out] at zvf;have hmT:=JD.fr Nu (fun _ q=>q.elim);rw[HSS.out] at hmT;have hzp:=(MkS.CY n of fo bs s).2;have hgk:=Fo.YC bs;have ZT:=HS.out;have Sy:=z7 (GJ b0 n a fo of cl bs p L4 (MkS.qW n of fo bs s) (MkS.jD n of bs s) _ _ wT nN.out hmT (he5.fr Nu (fun _ q=>q.elim)) HND.out HL.out HBC.out I4.out (by rw[HM.out];exact I3) (by omega) zvf hI);have HWT:=z7 (fw5.trans (Nu.wide (fun _ q=>q.elim)));have hz9:(Uh bs (MkS.jD n of bs s) (MkS.qW n of fo bs s)).sz<=900000:=by
     obtain⟨-,q⟩:=MkS.go_le bs (MkS.jD n of bs s) (MkS.qW n of fo bs s) [] (fun k x=>MkS.Cd n of bs s k x);unfold Uh;rw[MkS.Y3 _ (fun s i=>gO s i 0)];omega
    obtain⟨s9,hs9⟩:∃ s9,Uh bs (MkS.jD n of bs s) (MkS.qW n of fo bs s)=s9:=⟨_,rfl⟩;rw[hs9] at Sy hz9;have HS9:=z7 hs9;unfold MkS.sz at hz9;clear hs9 zvf hI hmT hx Iu he5 fw5 f35 JB JD I8 Dj Uc Nu;go_wp2_with fail;refine Sy.out.mono ?_;rintro e w9 ⟨rfl,L9,hm9,⟨hq9,tG⟩,hf9⟩;have hw9:=HWT.out.trans hf9;have he9:YE lo hi w0 L9.B w9:=by rw[tG,hB5,DK];exact HE.out.fr hw9 HH.out.lo
    have Ky:=z7 (b8 p L9 s9 5 0 [] [] (.slice none 0 0) (.slice none 0 0) w9 hm9 (qV.nil _) (qV.nil _) (fun g hg=>by cases hg) (fun g hg=>by cases hg) (fun g hg=>by cases hg) (fun g hg=>by rcases hg with hg|hg<;>cases hg)
     ⟨(by decide:5<12),by simp,by simp,by simp,by simp,rfl⟩ he9.fo he9.g1 (by omega) (by omega) (by simp[uG,fJ,jx]))
    have HW9:=z7 hw9;clear hm9 hf9 hw9 he9 Sy tJ;go_wp2_with fail;refine Ky.out.mono ?_;rintro e wX ⟨b9,c9,rfl,-,-,-,LX,hmX,⟨hqX,hBX⟩,hfX,-,-⟩;have HMX:=z7 hmX;have HFX:=z7 hfX;clear hmX hfX Ky;go_wp2;refine bodyPost_ret (v := .tuple #[]) ?_ rfl ?_
    ·simp[results,results122,go_sem]
    rw[HS9.out];refine⟨rfl,LX,HMX.out,⟨by rw[hqX,hq9,hq5,XY],by rw[hBX,tG,hB5,DK]⟩,HW9.out.tr HFX.out (fun q hq=>?_)⟩;rcases hq with hq|hq|hq
    ·exact HW9.out.fp q hq
    ·cases hq
    ·cases hq
section
variable (b:Nat) (t:Wd) (w:World)
theorem oQ:(zu (.iface 262 (xf t)) 112 262 true).run prog w = .ok (.tuple #[xf t,.bool true]) w:=by rfl
theorem SZ:(zu (.iface 264 (.agg #[])) 112 262 true).run prog w = .ok (.tuple #[.string ⟨#[]⟩,.bool false]) w:=by rfl
theorem oK:(zu (.iface 264 (.agg #[])) 112 264 true).run prog w = .ok (.tuple #[.agg #[],.bool true]) w:=by rfl
theorem Am:(zu (.iface 172 (.pointer (some ⟨b,0,none⟩))) 112 262 true).run prog w = .ok (.tuple #[.string ⟨#[]⟩,.bool false]) w:=by rfl
theorem An:(zu (.iface 172 (.pointer (some ⟨b,0,none⟩))) 112 264 true).run prog w = .ok (.tuple #[.agg #[],.bool false]) w:=by rfl
theorem Ao:(zu (.iface 175 (.pointer (some ⟨b,0,none⟩))) 112 262 true).run prog w = .ok (.tuple #[.string ⟨#[]⟩,.bool false]) w:=by rfl
theorem Ap:(zu (.iface 175 (.pointer (some ⟨b,0,none⟩))) 112 264 true).run prog w = .ok (.tuple #[.agg #[],.bool false]) w:=by rfl
theorem oJ:(zu (.iface 177 (.pointer (some ⟨b,0,none⟩))) 112 262 true).run prog w = .ok (.tuple #[.string ⟨#[]⟩,.bool false]) w:=by rfl
theorem oG:(zu (.iface 177 (.pointer (some ⟨b,0,none⟩))) 112 264 true).run prog w = .ok (.tuple #[.agg #[],.bool false]) w:=by rfl
end
theorem Ar{lo hi:Nat}{w0:World}(f:Fo)(ih:∀ m:Fo,zx m<zx f->I7 lo hi w0 m):I7 lo hi w0 f:=by
 intro p L s w a c vs h he vL kO hm hw hc hl hs;obtain⟨M,hM⟩:∃ M,f.len=M:=⟨_,rfl⟩;rw[hM];have DX:vs.length=M:=(xV.count f vs kO hm).trans hM;obtain⟨R,hR⟩:∃ R,MkS.dM f s=R:=⟨_,rfl⟩;rw[hR];have HH:=z7 h;have HE:=z7 he;have qB:=z7 vL;have YG:=z7 kO;have HM:=z7 hm;have HC:=z7 hc;have HW:=z7 hw;have HR:=z7 hR;have nN:=z7 ih;have CV:=z7 DX;have HL:=z7 hM;have HS:=z7 hs;have hL2:M<=2000000:=by omega
 clear h he vL kO hm hc hw hR ih DX hM hs hl;go_enter func80,ntmps80;go_wp2_with fail;go_loopw [13] (fun iv wr=>∃ i us xs r s1 L1,iv = .int .i64 (i:Nat)/\i<=M/\xV lo hi w0 xs r/\r.vD=true/\r.Uo/\r.wf 2000000=true/\us.length=i/\vs=us++xs/\i+r.len=M/\zx r<=zx f /\
  ug p L1 s1 wr/\(L1.q=L.q/\L1.B=L.B)/\Fr (L.has p) (L1.has p) w wr/\MkS.dM r s1=R/\s1.sz+r.cw<=900000) (fun iv _=>M - (intOf iv).toNat)
 case atStart=>exact⟨0,[],vs,f,s,L,rfl,zX _,YG.out,HM.out,HC.out,HW.out,rfl,rfl,by have:=HL.out;omega,zg _,HH.out,⟨rfl,rfl⟩,Fr.refl _ _,HR.out,HS.out⟩
 case round =>
  obtain⟨i,us,xs,r,s1,L1,rfl,hiL,fu,tY,Py,EL,VL,tX,jq,qs,V6,⟨Ql,Xj⟩,uZ,Vg,uT⟩:=hrel;have CK:YE lo hi w0 L1.B wr:=by rw[Xj];exact HE.out.fr uZ HH.out.lo
  have HN:=z7 fu;have K7:=z7 tY;have S8:=z7 Py;have Us:=z7 EL;have My:=z7 tX;have CU:=z7 VL;have DQ:=z7 V6;have Dm:=z7 CK;have UU:=z7 uZ;have dY:=z7 Vg;have gM:=z7 uT;have Xv:=z7 jq;have dQ:=z7 qs;clear fu tY Py EL tX VL V6 CK uZ Vg uT;by_cases xC:i<M
  ·obtain⟨x0,xt,PD⟩:∃ x0 xt,xs=x0::xt:=by
    cases xs with
    | nil=>have h1:=CV.out;rw[My.out] at h1;have:=CU.out;simp at h1;omega
    | cons a b=>exact⟨a,b,rfl⟩
   subst PD;obtain⟨g,o,rfl,Zp,dy,vU⟩:=qB.out i (by have:=CV.out;omega);have Ju:vs[i]'(by have:=CV.out;omega)=x0:=by
    have h1:vs[i]? = some x0:=by rw[My.out,←CU.out];simp
    rw[zj (by have:=CV.out;omega)] at h1;exact zv h1
   rw[Ju] at vU;have qD:=xp Dm.out.keep vU Zp dy;have k1:(i:Int)<(M:Int):=by omega
   have k2:decide ((i:Int)<(M:Int))=true:=by simp;omega
   clear vU Ju jq qs;have tD:∀ (x:Value) (xt:List Value) (r':Fo) (s2:MkS) (L2:dW) (w2:World),x0=x->vs=us++x::xt->xV lo hi w0 xt r'->r'.vD=true->r'.Uo->r'.wf 2000000=true->i+(r'.len+1)=M->zx r'<=zx f->ug p L2 s2 w2->(L2.q=L1.q/\L2.B=L1.B)->Fr (L1.has p) (L2.has p) wr w2->MkS.dM r' s2=R->s2.sz+r'.cw<=900000 ->
     ∃ i' us' xs' r s1 L1,(Value.int .i64 ((i:Int)+1)) = .int .i64 (i':Nat)/\i'<=M/\xV lo hi w0 xs' r/\r.vD=true/\r.Uo/\r.wf 2000000=true/\us'.length=i'/\vs=us'++xs'/\i'+r.len=M/\zx r<=zx f /\
      ug p L1 s1 w2/\(L1.q=L.q/\L1.B=L.B)/\Fr (L.has p) (L1.has p) w w2/\MkS.dM r s1=R/\s1.sz+r.cw<=900000 :=
    fun x xt r' s2 L2 w2 e1 e2 e3 e4 e5 e6 e7 e8 e9 e10 e11 e12 e13=>⟨i+1,us++[x],xt,r',s2,L2,by simp,by omega,e3,e4,e5,e6,by simp[CU.out],by rw[e2];simp,by omega,e8,e9,⟨e10.1.trans Ql,e10.2.trans Xj⟩,UU.out.trans e11,e12,e13⟩
   have SY:=z7 tD;clear tD
   cases r with
   | nil =>
    have:=HN.out
    cases this
   | uq k0 a0 m0 r0=>have:=K7.out;cases this
   | text t r =>
    obtain⟨vt,N8,fu⟩:=HN.out
    cases N8;have a1:=oQ t;have QN:=z7 fu;have tB:=S8.out;have DU:=gM.out;have At:=s1.K6 1 t (.inl rfl);simp only[Fo.cw] at DU;have GF:=z7 (C4 p L1 s1 1 t wr DQ.out (.inl rfl) tB.1 (by omega) Dm.out.fo Dm.out.g1);clear fu tB;go_wp2_with fail;refine GF.out.mono ?_;rintro e w2 ⟨rfl,L2,jH,ju,vF⟩;have YJ:=z7 jH;have dI:=z7 vF;clear jH vF GF;go_wp2;go_roundw
    case rel=>exact SY.out _ _ r (s1.one 1 t) L2 w2 rfl My.out QN.out K7.out S8.out.2 Us.out Xv.out (by have:=dQ.out;simp at this;omega) YJ.out ju dI.out dY.out (by omega)
    case measure=>simp only[intOf];omega
   | hash r =>
    obtain⟨vt,N8,fu⟩:=HN.out
    cases N8;have a1:=SZ;have a2:=oK;have QN:=z7 fu;have DU:=gM.out;simp only[Fo.cw] at DU;have ygj:=DU;unfold MkS.sz at ygj;have Nz:Fr xS xS wr (wr.alloc (.cells #[] 264)):=(Fr.refl _ _).alloc _;have hx:(uG ⟨6,s1.pos,0,[],[]⟩).length=1:=by simp[uG,fJ,jx]
    have Mk:=jt s1 6 0 [] [];have heA:=Dm.out.fr Nz (fun _ q=>q.elim);have Ky:=z7 (b8 p L1 s1 6 0 [] [] (.slice none 0 0) (.slice none 0 0) (wr.alloc (.cells #[] 264)) (DQ.out.fr Nz (fun _ q=>q.elim)) (qV.nil _) (qV.nil _) (fun g hg=>by cases hg) (fun g hg=>by cases hg) (fun g hg=>by cases hg) (fun g hg=>by rcases hg with hg|hg<;>cases hg)
     ⟨(by decide:6<12),by simp,by simp,by simp,by simp,rfl⟩ heA.fo heA.g1 (by omega) (by omega) (by rw[hx];omega))
    have PH:=z7 Nz;clear fu Nz heA;go_wp2_with fail;refine Ky.out.mono ?_;rintro e w2 ⟨b9,c9,rfl,-,-,-,L2,jH,ju,vF,-,-⟩;have YJ:=z7 jH;have dI:=z7 (show Fr (L1.has p) (L2.has p) wr w2 from(PH.out.wide (fun _ q=>q.elim)).tr vF (fun q hq=>by
     rcases hq with hq|hq|hq
     ·exact .inl hq
     ·cases hq
     ·cases hq))
    clear jH vF Ky;go_wp2;go_roundw
    case rel=>exact SY.out _ _ r (s1.put 6 0 [] []) L2 w2 rfl My.out QN.out K7.out S8.out Us.out Xv.out (by have:=dQ.out;simp at this;omega) YJ.out ju dI.out dY.out (by omega)
    case measure=>simp only[intOf];omega
   | put n a r =>
    obtain⟨vt,b0,N8,xH,xB,fk,-,fu⟩:=HN.out
    cases N8;have Mx:=xp Dm.out.keep fk xH xB;have a1:=Am b0;have a2:=An b0;have a3:=GV b0;have QN:=z7 fu;have tB:=S8.out;have DU:=gM.out;have At:=s1.K6 2 n (by omega);simp only[Fo.cw] at DU;have bQ:(decide (n.length<=4000001) && r.wf 2000000)=true:=Us.out;simp only[zk,decide_eq_true_eq] at bQ;have mV:=z7 bQ.2;have GF:=z7 (C4 p L1 s1 2 n wr DQ.out (by omega) (by have:=tB.1;omega) (by omega) Dm.out.fo Dm.out.g1);clear fu tB fk bQ;go_wp2_with fail;refine GF.out.mono ?_;rintro e w2 ⟨rfl,L2,jH,ju,vF⟩;have YJ:=z7 jH;have dI:=z7 vF;clear jH vF GF;go_wp2;go_roundw
    case rel=>exact SY.out _ _ r (s1.one 2 n) L2 w2 rfl My.out QN.out K7.out S8.out.2 mV.out Xv.out (by have:=dQ.out;simp at this;omega) YJ.out ju dI.out dY.out (by omega)
    case measure=>simp only[intOf];omega
   | num n a r =>
    obtain⟨vt,b0,N8,xH,xB,fk,-,fu⟩:=HN.out
    cases N8;have Mx:=xp Dm.out.keep fk xH xB;have a1:=Ao b0;have a2:=Ap b0;have a3:=GU b0;have a4:=U2 b0;have QN:=z7 fu;have tB:=S8.out;have DU:=gM.out;have At:=s1.K6 3 n (by omega);simp only[Fo.cw] at DU;have bQ:(decide (n.length<=4000001) && r.wf 2000000)=true:=Us.out;simp only[zk,decide_eq_true_eq] at bQ;have mV:=z7 bQ.2;have GF:=z7 (C4 p L1 s1 3 n wr DQ.out (by omega) (by have:=tB.1;omega) (by omega) Dm.out.fo Dm.out.g1);clear fu tB fk bQ;go_wp2_with fail;refine GF.out.mono ?_;rintro e w2 ⟨rfl,L2,jH,ju,vF⟩;have YJ:=z7 jH;have dI:=z7 vF;clear jH vF GF;go_wp2;go_roundw
    case rel=>exact SY.out _ _ r (s1.one 3 n) L2 w2 rfl My.out QN.out K7.out S8.out.2 mV.out Xv.out (by have:=dQ.out;simp at this;omega) YJ.out ju dI.out dY.out (by omega)
    case measure=>simp only[intOf];omega
   | br n a fo of cl bs r =>
    obtain⟨vt,b0,ba,bc,ws,N8,xH,xB,Ah,EB,D0,hd3,hd4,hd5,K9,UQ,fu⟩:=HN.out
    cases N8;have hh2:=xp Dm.out.keep D0 xH xB;have a1:=oJ b0;have a2:=oG b0;have a3:=B0 b0;have a4:=K4 b0;have a5:=Um b0;have QN:=z7 fu;have XG:xV lo hi w0 [.iface 177 (.pointer (some ⟨b0,0,none⟩))] (.br n a fo of cl bs .nil):=⟨[],b0,ba,bc,ws,rfl,xH,xB,Ah,EB,D0,hd3,hd4,hd5,K9,UQ,rfl⟩;obtain⟨oF,k2',k3',k4',k5',k6',k7',k8'⟩:=S8.out;have mF:(Fo.br n a fo of cl bs .nil).Uo:=⟨oF,k2',k3',k4',k5',k6',k7',trivial⟩;have bQ:(decide (n.length<=4000001) && decide (fo<3) && bs.ub && decide (bs.len<=2000000) && bs.wf 2000000 && r.wf 2000000)=true:=Us.out;have hwk:(Fo.br n a fo of cl bs .nil).wf 2000000=true:=by
     simp only[zk] at bQ;simp only[Fo.wf,zk];exact⟨bQ.1,trivial⟩
    simp only[zk,decide_eq_true_eq] at bQ;have mV:=z7 bQ.2;have DU:=gM.out;simp only[Fo.cw] at DU;have hih:∀ m:Fo,zx m<zx bs->I7 lo hi w0 m:=fun m hm=>nN.out m (by have:=dQ.out;simp at this;omega)
    by_cases KA:fo=0
    ·have kf:((fo:Int)==0)=true:=by simp[KA]
     have bu:=z7 (show MkS.dM r (Uh bs (MkS.bz n bs s1) (MkS.kV n bs s1))=R by
      have:=dY.out;unfold MkS.dM at this ⊢;rw[MkS.qZ,if_pos KA] at this;exact this)
     have hzb:(Uh bs (MkS.bz n bs s1) (MkS.kV n bs s1)).sz+r.cw<=900000:=by
      obtain⟨-,q⟩:=MkS.go_le bs (MkS.bz n bs s1) (MkS.kV n bs s1) [] (fun k x=>MkS.Cf n bs s1 k x);have:=(MkS.CZ n bs s1).2;unfold Uh;rw[MkS.Y3 _ (fun s i=>gO s i 0)];omega
     subst KA;have M8:=z7 (CG b0 n a of cl bs p L1 s1 wr hih DQ.out Dm.out XG mF hwk (by omega));clear fu XG mF hwk hih Ah EB D0 hd3 hd4 hd5 K9 UQ oF k2' k3' k4' k5' k6' k7' k8' bQ;go_wp2_with fail;refine M8.out.mono ?_;rintro e w2 ⟨rfl,L2,jH,ju,vF⟩;have YJ:=z7 jH;have dI:=z7 vF;clear jH vF M8;go_wp2;go_roundw
     case rel=>exact SY.out _ _ r _ L2 w2 rfl My.out QN.out K7.out S8.out.2.2.2.2.2.2.2 mV.out Xv.out (by have:=dQ.out;simp at this;omega) YJ.out ju dI.out bu.out (by omega)
     case measure=>simp only[intOf];omega
    ·have kf:((fo:Int)==0)=false:=by simp;omega
     have bu:=z7 (show MkS.dM r ((Uh bs (MkS.jD n of bs s1) (MkS.qW n of fo bs s1)).put 5 0 [] [])=R by
      have:=dY.out;unfold MkS.dM at this ⊢;rw[MkS.qZ,if_neg KA] at this;exact this)
     have hzb:((Uh bs (MkS.jD n of bs s1) (MkS.qW n of fo bs s1)).put 5 0 [] []).sz+r.cw<=900000:=by
      obtain⟨-,q⟩:=MkS.go_le bs (MkS.jD n of bs s1) (MkS.qW n of fo bs s1) [] (fun k x=>MkS.Cd n of bs s1 k x);have:=(MkS.CY n of fo bs s1).2;have hx:∀ p,(uG ⟨5,p,0,[],[]⟩).length=1:=fun p=>by simp[uG,fJ,jx]
      rw[jt,hx];unfold Uh;rw[MkS.Y3 _ (fun s i=>gO s i 0)];omega
     have M8:=z7 (Nj b0 n a fo of cl bs p L1 s1 wr hih DQ.out Dm.out KA XG mF hwk (by omega));clear fu XG mF hwk hih Ah EB D0 hd3 hd4 hd5 K9 UQ oF k2' k3' k4' k5' k6' k7' k8' bQ;go_wp2_with fail;refine M8.out.mono ?_;rintro e w2 ⟨rfl,L2,jH,ju,vF⟩;have YJ:=z7 jH;have dI:=z7 vF;clear jH vF M8;go_wp2;go_roundw
     case rel=>exact SY.out _ _ r _ L2 w2 rfl My.out QN.out K7.out S8.out.2.2.2.2.2.2.2 mV.out Xv.out (by have:=dQ.out;simp at this;omega) YJ.out ju dI.out bu.out (by omega)
     case measure=>simp only[intOf];omega
  ·have vZ:r = .nil:=by
    have:=Xv.out;have:=K7.out
    cases r with
    | nil=>rfl
    | uq k a m r=>cases this
    | _=>simp only[Fo.len] at *;omega
   have HX:=z7 (show s1=R by rw[←dY.out,vZ];rfl);have k1:¬(i:Int)<(M:Int):=by omega
   have k2:decide ((i:Int)<(M:Int))=false:=by simp;omega
   clear vZ;go_wp2;refine bodyPost_ret (v := .tuple #[]) ?_ rfl ?_
   ·simp[results,results80,go_sem]
   rw[←HX.out];exact⟨rfl,L1,DQ.out,⟨Ql,Xj⟩,UU.out⟩
theorem oD{lo hi:Nat}{w0:World}:∀ f:Fo,I7 lo hi w0 f:=by
 have key:∀ n (f:Fo),zx f<n->I7 lo hi w0 f:=by
  intro n;induction n with
  | zero=>intro f h;omega
  | succ n ih=>intro f h;exact Ar f (fun m hm=>ih m (by omega))
 intro f;exact key _ f (Nat.lt_succ_self _)
def ZV(w:World)(b n:Nat)(f:Nat->Option Nat):Prop :=
 ∃ D:DataW Unit,w.ownsMap prog 3 (plainElem prog 3) b n D/\∀ m:Nat,yk D (.int .i64 (m:Int))=(f m).isSome/\D.atKey (.int .i64 (m:Int)) (.lit (.int .i64 0)) = .lit (.int .i64 (((f m).getD 0:Nat):Int))
theorem ZV.lt{w:World}{b n:Nat}{f:Nat->Option Nat}(h:ZV w b n f):b<w.heap.size:=by
 obtain⟨D,⟨es,clock,ho,_⟩,_⟩:=h;exact(zV.1 ho).1
theorem ZV.keep{w w':World}{b n:Nat}{f:Nat->Option Nat}(h:ZV w b n f)(hb:w'.heap[b]? = w.heap[b]?):ZV w' b n f:=by
 obtain⟨D,⟨es,clock,ho,rest⟩,h2⟩:=h;exact⟨D,⟨es,clock,hb.trans ho,rest⟩,h2⟩
theorem ZV.made(w:World):ZV (w.alloc (.map #[] 0)) w.heap.size 0 (fun _=>none):=⟨.map [],zN w _ _ _,fun m=>⟨rfl,rfl⟩⟩
theorem NZ{m:Nat}(hm:m<=4000000000):(Lit.int .i64 (m:Int)).wf=true:=by simp[Lit.wf,IntKind.min,IntKind.max,IntKind.signed,IntKind.bits];omega
theorem ZV.look{w:World}{b n:Nat}{f:Nat->Option Nat}(h:ZV w b n f)(m:Nat)(hm:m<=4000000000) :
  (Instr.lookup 124 (.map (some b)) (.int .i64 (m:Int)) true).run prog w = .ok (.tuple #[.int .i64 (((f m).getD 0:Nat):Int),.bool (f m).isSome]) w:=by
 obtain⟨D,h1,h3⟩:=h;obtain⟨v,ps,vH,hv⟩:=h1.look_ok (yq underlying3) underlying124 (z := .int .i64 0) (by first|rfl|simp[go_sem]) (plainElem_int underlying3 (by decide))
  (key := .int .i64 (m:Int)) (zr underlying3 (NZ hm))
 rw[(h3 m).1] at vH;rw[(h3 m).2] at hv;obtain⟨c,rfl,hc,_⟩:=plainElem_int_inv underlying3 hv;simp only[Prod.mk.injEq,DataW.lit.injEq,Lit.int.injEq] at hc;rw[vH,←hc.1.2]
theorem ZV.put{w:World}{b n:Nat}{f:Nat->Option Nat}(h:ZV w b n f)(m:Nat)(hm:m<=4000000000)(k:Nat)(hk:k<=4000000000)(hn:n<=1000000000) :
  ∃ w',(za 124 (.map (some b)) (.int .i64 (m:Int)) (.int .i64 (k:Int))).run prog w = .ok () w'/\ZV w' b (n+1) (fun x=>if m=x then some k else f x)/\w.grownBy w' (some b):=by
 obtain⟨D,h1,h3⟩:=h;have hi:=h1.isMap;obtain⟨w',vH,xJ,hg⟩:=h1.update (yq underlying3) underlying124 (by unfold maxLen;omega) (key := .int .i64 (m:Int)) (zr underlying3 (NZ hm))
  (plainElem_int underlying3 (q := .i64) (a:=(k:Int)) (NZ hk))
 refine⟨w',vH,⟨_,xJ,fun x=>?_⟩,hg⟩;by_cases hx:m=x
 ·subst hx;simp only[↓reduceIte];exact⟨by rw[zS hi (show zf (.int .i64 (m:Int)) from trivial)];simp,by rw[zM hi (show zf (.int .i64 (m:Int)) from trivial)];simp⟩
 ·simp only[hx,↓reduceIte];have xw:(Lit.int .i64 (x:Int)) ≠ .int .i64 (m:Int):=fun q=>hx (by cases q;rfl)
  exact⟨by rw[zO xw];exact(h3 x).1,by rw[zL xw];exact(h3 x).2⟩
def dK(code:List jC):Nat->Nat->Option Nat
 | 0,_=>none
 | k+1,x=>if (code[k]?.map (·.pos))=some x then some k else dK code k x
theorem SX(t:TypeId)(k e:TypeId)(ht:prog.underlying t=some (.map k e))(n:Nat)(w:World):(yf t (some (.int .i64 (n:Int)))).run prog w = .ok (.map (some w.heap.size)) (w.alloc (.map #[] 0)):=by
 simp[yf,run_underlying ht,asInt,go_sem]
def yf5(p:Nat)(L:dW)(s:MkS)(w:World)(e:Ending)(w':World):Prop :=
 e = .returned (.tuple #[])/\∃ mb,w.heap.size<=mb/\w'.cell? ⟨L.q,0,none⟩=some L.vC/\w'.cell? ⟨L.q,1,none⟩=some L.vI/\w'.cell? ⟨L.q,2,none⟩=some (.map (some mb))/\ZV w' mb s.code.length (dK s.code s.code.length)/\Fr (fun g=>g=L.q) (fun g=>g=L.q\/g=mb) w w'
theorem SV(p:Nat)(L:dW)(s:MkS)(w:World)(h:ug p L s w)(hl:s.code.length<=1000000)(hp:∀ x∈s.code,x.pos<=4000000000) :
  Calls prog 82 #[.pointer (some ⟨L.q,0,none⟩)] w (yf5 p L s w):=by
 have HH:=z7 h;have HP:=z7 hp;obtain⟨ia,ic,Js⟩:=xY h.cI;obtain⟨n,hn⟩:∃ n,s.code.length=n:=⟨_,rfl⟩;have q1:=h.q1;rw[Js,hn] at q1;have q1a:=fun o=>xG q1 o
 have q2:=h.q2;have q2a:=fun o=>xG q2 o
 have lq:=bM h.tq;have zqa:∀ o j,(w.alloc o).frozen? ⟨L.q,j,none⟩=false:=fun o j=>(World.frozen?_of_block (Below.heap_alloc _ _ _ lq)).trans (h.zq j)
 have hmh:=SX 124 _ _ underlying124 n;obtain⟨A,hA⟩:∃ A,(w.alloc (.map #[] 0)).setCell ⟨L.q,2,none⟩ (.map (some w.heap.size))=A:=⟨_,rfl⟩;have fA:Fr (fun g=>g=L.q) (fun g=>g=L.q) w A:=by rw[←hA];exact((Fr.refl _ _).alloc _).set _ (.inl rfl)
 have a0:A.cell? ⟨L.q,0,none⟩=some L.vC:=by rw[←hA,xd,if_neg (by simp)];exact xG h.q0 _
 have a1:A.cell? ⟨L.q,1,none⟩=some L.vI:=by rw[←hA,xd,if_neg (by simp)];exact xG h.q1 _
 have a2:A.cell? ⟨L.q,2,none⟩=some (.map (some w.heap.size)):=by rw[←hA];exact uj (xG h.q2 _) _
 have aM:ZV A w.heap.size 0 (fun _=>none):=by
  rw[←hA];exact(ZV.made w).keep (Below.heap_setCell _ _ _ _ (by show w.heap.size≠L.q;omega))
 have xJ:w.ownsRow 0 128 5 L.vI n (b6 s.code L.rs):=by rw[←hn];exact h.cI
 obtain⟨mb,EM⟩:∃ mb,w.heap.size=mb:=⟨_,rfl⟩;have Vb:=z7 xJ;have Dz:n<=1000000:=by rw[←hn];exact hl
 have HN:=z7 hn;have PH:=z7 fA;have HVI:=z7 Js;have nI:∀ g,xU L.vI g->g≠L.q:=fun g hg=>(h.nI hg).2.1
 have ltI:∀ g,xU L.vI g->g<mb:=fun g hg=>by rw[←EM];exact ur h.cI hg
 rw[Js,hn] at a1;rw[EM] at a2 aM;clear h hp fA xJ hn Js;go_enter func82,ntmps82;go_wp2_with fail;have PE:(w.alloc (.map #[] 0)).setCell ⟨L.q,2,none⟩ (.map (some mb))=A:=by rw[←EM];exact hA
 rw[PE];have NY:=z7 EM;clear hA PE EM q1 q1a q2 q2a zqa hmh;go_loopw [17] (fun kv wr=>∃ k,kv = .int .i64 (k:Nat)/\k<=n/\ZV wr mb k (dK s.code k)/\Fr (fun g=>g=L.q) (fun g=>g=L.q\/g=mb) w wr/\wr.cell? ⟨L.q,0,none⟩=some L.vC/\wr.cell? ⟨L.q,1,none⟩=some (.slice ia n ic)/\wr.cell? ⟨L.q,2,none⟩=some (.map (some mb))) (fun kv _=>n - (intOf kv).toNat)
 case atStart=>exact⟨0,rfl,zX _,aM,PH.out.tg (fun g hg=>hg.elim .inl (fun e => .inr (by rw[e,NY.out];exact zg _))),a0,a1,a2⟩
 case round =>
  clear aM a0 a1 a2;obtain⟨k,rfl,hk,V5,hf,c0,c1,c2⟩:=hrel;have HF:=z7 hf;by_cases xC:k<n
  ·obtain⟨x,hx⟩:∃ x,s.code[k]? = some x:=⟨_,zj (by rw[HN.out];exact xC)⟩;obtain⟨r,hr⟩:∃ r,L.rs[k]? = some r:=⟨_,zj (by have:=HH.out.rows.len;have:=HN.out;omega)⟩;obtain⟨I,ic2,hv,-,hI,ZG⟩:=vQ Vb.out (by omega);have PX:ia=some ⟨I,0,none⟩:=by have:=HVI.out;rw[hv] at this;cases this;rfl
   subst PX;have rI:xU L.vI I:=by rw[HVI.out];rfl
   have d1:w.cell? ⟨I,k*5+1,none⟩=some (.int .i64 x.pos):=by
    rw[ZG _ (by omega),UC _ _ HH.out.rows.len k 1 x r hx hr (by omega)];rfl
   have d2:=hf.cell d1 (nI I rI);have hxp:=HP.out x (zi hx);obtain⟨w2,Xk,Nv,dy⟩:=(V5.keep (w':=wr.drew) rfl).put x.pos hxp k (by omega) (by omega);have js:(fun y=>if x.pos=y then some k else dK s.code k y)=dK s.code (k+1):=by
    funext y;simp only[dK,hx,Option.map_some,Option.some.injEq]
   rw[js] at Nv;have vF:Fr (fun g=>g=mb) (fun g=>g=mb) wr w2:=(show Fr (fun g=>g=mb) (fun g=>g=mb) wr.drew w2 from⟨dy.os,dy.tape,dy.output,dy.size,fun k hk hn=>dy.block k hk (fun e=>hn (zv e)),fun _ q => .inl q⟩).und;have hq:L.q≠mb:=by have:=NY.out;omega
   have Iz:=z7 Nv;have dI:=z7 (hf.over vF (by rintro g rfl;exact .inr (by rw[NY.out];exact zg _)));have e0:=vF.cell c0 hq;have e1:=vF.cell c1 hq;have e2:=vF.cell c2 hq;have d3:=vF.cell d2 (show I≠mb by have:=ltI I rI;omega);have k3:(k:Int)<(n:Int):=by omega
   have k4:decide ((k:Int)<(n:Int))=true:=by simp;omega
   clear hf V5 Nv dy vF ZG hx hr hv d1;go_wp2_with fail;refine rt (fun W':World=>W'.cell? ⟨L.q,1,none⟩=some (.slice (some ⟨I,0,none⟩) n ic)/\W'.cell? ⟨L.q,2,none⟩=some (.map (some mb))/\W'.cell? ⟨I,k*5+1,none⟩=some (.int .i64 x.pos)) (zE 13) 1 ⟨c1,c2,d2⟩ ?_;(iterate 13 (refine ty ?_;try simp only[pl]))
   refine xk ?_;refine xg 13 (by kernel_rfl) rfl (fun J hJ=>?_);go_simp;refine hJ.out _ _ ⟨e1,e2,d3⟩ fun _=>?_
   clear hJ J;refine wpAnyH_done (by kernel_rfl) ?_ _;clear Xk;go_wp2;go_roundw
   case rel=>exact⟨k+1,by go_num,by omega,Iz.out,dI.out,e0,e1,e2⟩
   case measure=>simp only[intOf];omega
  ·have DA:k=n:=by omega
   have HK:=z7 (show ZV wr mb s.code.length (dK s.code s.code.length) by rw[HN.out];rw[DA] at V5;exact V5);have k3:¬(k:Int)<(n:Int):=by omega
   have k4:decide ((k:Int)<(n:Int))=false:=by simp;omega
   clear hf V5 DA;go_wp2;refine bodyPost_ret (v := .tuple #[]) ?_ rfl ?_
   ·simp[results,results82,go_sem]
   exact⟨rfl,mb,by rw[NY.out];exact zg _,c0,by rw[HVI.out,HN.out];exact c1,c2,HK.out,HF.out⟩
theorem MkS.fE{α:Type}(P:MkS->Prop)(g:MkS->α->MkS)(hg:∀ s a,P s->P (g s a)):∀ (l:List α) (s:MkS),P s->P (l.foldl g s)
 | [],_,h=>h
 | a::l,s,h=>MkS.fE P g hg l _ (hg s a h)
structure qp(P:MkS->Prop):Prop where
 put:∀ s op v k tg,P s->P (s.put op v k tg)
 const:∀ s t,P s->P (s.const t)
 uv:∀ s i j,P s->P (s.uv i j)
section
variable {P:MkS->Prop} (I:qp P)
include I
theorem qp.one{s:MkS}(op:Nat)(t:Wd)(h:P s):P (s.one op t):=I.put _ _ _ _ _ (I.const _ _ h)
theorem qp.j4:∀ (f:Fo) (s:MkS) (acc:List Nat),P s->P (MkS.j4 f s acc).1
 | .uq k _ _ r,s,acc,h=>by
  rw[MkS.j4];split
  ·exact qp.j4 r s acc h
  ·exact qp.j4 r _ _ (I.const _ _ h)
 | .nil,_,_,h=>h
 | .text _ _,_,_,h=>h
 | .hash _,_,_,h=>h
 | .put _ _ _,_,_,h=>h
 | .num _ _ _,_,_,h=>h
 | .br _ _ _ _ _ _ _,_,_,h=>h
theorem qp.qH:∀ (f:Fo) (s:MkS) (acc:List (Wd×Nat)),P s->P (MkS.qH f s acc).1
 | .uq k _ _ r,s,acc,h=>by
  rw[MkS.qH];split
  ·exact qp.qH r _ _ (I.put _ _ _ _ _ h)
  ·exact qp.qH r s acc h
 | .nil,_,_,h=>h
 | .text _ _,_,_,h=>h
 | .hash _,_,_,h=>h
 | .put _ _ _,_,_,h=>h
 | .num _ _ _,_,_,h=>h
 | .br _ _ _ _ _ _ _,_,_,h=>h
theorem qp.plu{s:MkS}(n o:Wd)(bs:Fo)(s0:MkS)(k:Wd)(h:P s):P (MkS.jD n o bs s0 k s):=by
 unfold MkS.jD;split
 ·exact I.uv _ _ _ h
 ·exact MkS.fE P _ (fun s c h=>by split;exact I.uv _ _ _ h;exact h) _ _ h
theorem qp.go:∀ (f:Fo) (bg:Wd->MkS->MkS) (s:MkS) (ls:List Nat),(∀ k s,P s->P (bg k s))->P s->P (MkS.qZ f bg s ls).1
 | .nil,_,_,_,_,h=>h
 | .text t r,bg,s,ls,hb,h=>qp.go r bg _ ls hb (I.one _ _ h)
 | .hash r,bg,s,ls,hb,h=>qp.go r bg _ ls hb (I.put _ _ _ _ _ h)
 | .put n _ r,bg,s,ls,hb,h=>qp.go r bg _ ls hb (I.one _ _ h)
 | .num n _ r,bg,s,ls,hb,h=>qp.go r bg _ ls hb (I.one _ _ h)
 | .br n _ f o _ bs r,bg,s,ls,hb,h=>by
  rw[MkS.qZ];split
  ·exact qp.go r bg _ ls hb (MkS.fE P _ (fun s i h=>I.uv _ _ _ h) _ _ (qp.go bs _ _ _ (fun k x hx=>I.uv _ _ _ hx) (I.put _ _ _ _ _ (I.j4 bs _ _ (I.const _ _ h)))))
  ·exact qp.go r bg _ ls hb (I.put _ _ _ _ _ (MkS.fE P _ (fun s i h=>I.uv _ _ _ h) _ _ (qp.go bs _ _ _ (fun k x hx=>I.plu n o bs s k hx) (I.put _ _ _ _ _ (I.qH bs _ _ (I.put _ _ _ _ _ (I.const _ _ h)))))))
 | .uq k _ m r,bg,s,ls,hb,h=>qp.go r bg _ _ hb (I.put _ _ _ _ _ (qp.go m _ _ _ (fun _ _ h=>h) (hb k s h)))
theorem qp.all(f:Fo)(h:P MkS.start):P (MkS.all f):=I.put _ _ _ _ _ (I.go f _ _ _ (fun _ _ h=>h) h)
end
theorem oB:qp fun s=>∀ x∈s.code,x.pos<=s.pos:=by
 refine⟨fun s op v k tg h x hx=>?_,fun s t h=>?_,fun s i j h x hx=>?_⟩
 ·simp only[MkS.put,zH,List.mem_singleton] at hx ⊢;rcases hx with hx|rfl
  ·have:=h x hx;omega
  ·show s.pos<=_;omega
 ·obtain⟨-,z2,z3⟩:=vY s t;rw[z2,z3];exact h
 ·simp only[MkS.uv] at hx ⊢;obtain⟨n,hn,e⟩:=List.mem_iff_getElem.1 hx;have h1:(s.code.modify i fun x=>{ x with tg:=x.tg.set j s.pos })[n]? = some x:=by rw[zj hn,e]
  rw[List.getElem?_modify] at h1
  cases hc:s.code[n]? with
  | none=>rw[hc] at h1;cases h1
  | some y =>
   rw[hc] at h1;have:=h y (zi hc);simp at h1;subst h1;split<;>exact this
structure jZ(q:Nat)(s:MkS)(vC vI:Value)(rs:List (Value×Value))(mb:Nat)(w:World):Prop where
 q0:w.cell? ⟨q,0,none⟩=some vC
 q1:w.cell? ⟨q,1,none⟩=some vI
 q2:w.cell? ⟨q,2,none⟩=some (.map (some mb))
 cC:w.ownsRow 0 9 1 vC s.cs.length (s.cs.map xf)
 cI:w.ownsRow 0 128 5 vI s.code.length (b6 s.code rs)
 rows:Jr w s.code rs
 mp:ZV w mb s.code.length (dK s.code s.code.length)
def zl7(s:MkS)(w:World)(e:Ending)(w':World):Prop:=∃ q vC vI rs mb,e = .returned (.pointer (some ⟨q,0,none⟩))/\jZ q s vC vI rs mb w'/\w.heap.size<=q/\Below w.heap.size w w'
theorem Aw(w:World):∃ W,W=((w.alloc (.cells #[.slice none 0 0,.slice none 0 0,.map none] 126)).alloc (.map #[] 0)).alloc (.cells #[.pointer (some ⟨w.heap.size,0,none⟩),.int .i64 0,.map (some (w.heap.size+1))] 187) /\
  ug (w.heap.size+2) ⟨w.heap.size,w.heap.size,w.heap.size+1,.slice none 0 0,.slice none 0 0,[]⟩ MkS.start W/\Fr xS xS w W:=by
 obtain⟨A,hA⟩:∃ A,w.alloc (.cells #[.slice none 0 0,.slice none 0 0,.map none] 126)=A:=⟨_,rfl⟩;have sA:A.heap.size=w.heap.size+1:=by rw[←hA];simp
 have cA:=fun j=>xq w #[.slice none 0 0,.slice none 0 0,.map none] 126 (0,0) j
 have zA:∀ j,A.frozen? ⟨w.heap.size,j,none⟩=false:=by intro j;rw[←hA];simp
 have tA:VF A w.heap.size=some 126:=by rw[←hA];exact UE _ _ _
 have fA:Fr xS xS w A:=by rw[←hA];exact(Fr.refl _ _).alloc _
 rw[hA] at cA ⊢;clear hA;obtain⟨B,hB⟩:∃ B,A.alloc (.map #[] 0)=B:=⟨_,rfl⟩;have sB:B.heap.size=w.heap.size+2:=by rw[←hB];simp[sA]
 have mB:=km.made 3 A;have fB:Fr xS xS A B:=by rw[←hB];exact(Fr.refl _ _).alloc _
 rw[hB,sA] at mB;rw[hB];clear hB;obtain⟨C,hC⟩:∃ C,B.alloc (.cells #[.pointer (some ⟨w.heap.size,0,none⟩),.int .i64 0,.map (some (w.heap.size+1))] 187)=C:=⟨_,rfl⟩;have cC:=fun j=>xq B #[.pointer (some ⟨w.heap.size,0,none⟩),.int .i64 0,.map (some (w.heap.size+1))] 187 (0,0) j
 have zC:∀ j,C.frozen? ⟨w.heap.size+2,j,none⟩=false:=by intro j;rw[←hC,←sB];simp
 have tC:VF C (w.heap.size+2)=some 187:=by rw[←hC,←sB];exact UE _ _ _
 have fC:Fr xS xS B C:=by rw[←hC];exact(Fr.refl _ _).alloc _
 rw[hC,sB] at cC;rw[hC];clear hC;have f:=fB.trans fC;have e0:kG []=fun _=>none:=by funext x;simp[kG]
 refine⟨C,rfl,⟨cC 0,cC 1,cC 2,f.cell (cA 0) id,f.cell (cA 1) id,f.cell (cA 2) id,zC,fun j=>(f.frozen (show w.heap.size<_ by omega) id).trans (zA j),tC,(uS (f.keep w.heap.size (by omega) id)).trans tA,?_,zR _ _ _ _,zR _ _ _ _,⟨rfl,fun n i r h=>by simp[MkS.start] at h,fun n m r r' h=>by simp at h⟩,?_⟩,fA.trans f⟩
 ·show km _ _ _ 0 (kG []);rw[e0];exact mB.fr fC id
 ·rintro k (rfl|rfl|rfl|hk|hk|⟨r,hr,-⟩)
  ·show w.heap.size<=w.heap.size+2;omega
  ·exact zg _
  ·show w.heap.size<=w.heap.size+1;omega
  ·cases hk
  ·cases hk
  ·cases hr
theorem az{lo hi:Nat}(f:Fo)(w:World)(a:Option Addr)(c:Nat)(vs:List Value)(hr:Vn lo hi w a vs)(XG:xV lo hi w vs f)(YI:hi<=w.heap.size)(hm:f.vD=true)(hw:f.wf 2000000=true)(hc:f.Uo)(hl:f.len<=2000000)(hs:f.cw<=890000)
  (hF:jr w) (hN:qP w):Calls prog 51 #[.slice a f.len c] w (zl7 (MkS.all f) w):=by
 have M4:=@run_makeMap prog;obtain⟨W,hW,vR,Jt⟩:=Aw w;have g1:=zy w _ (hF 0 (by omega));have g2:=zy w _ (hN 0 (by omega));have U1:YE lo hi w w.heap.size W:=⟨⟨zZ YI Jt.size,fun k h1 h2=>Jt.keep k (by omega) id⟩,YI,hF.fr Jt (fun _ q=>q.elim) g1,fun j hj=>Jt.cell (hN j hj) id,g1,g2⟩;have S9:=z7 (oD f _ _ MkS.start W a c vs vR U1 hr XG hm hw hc hl (by show 0+_<=_;omega));have G9:=z7 U1;have jN:=z7 vR;have D6:=z7 Jt;clear hr XG hm hw hc hl hF hN U1 vR Jt;go_enter func51,ntmps51;go_wp2_with fail;rw[←hW];obtain⟨P,hP⟩:∃ P,w.heap.size+2=P:=⟨_,rfl⟩;rw[show w.heap.size+1+1=P from hP];rw[hP] at S9 jN;clear hP;refine S9.out.mono ?_;rintro e w1 ⟨rfl,L1,V6,⟨Ql,Xj⟩,uZ⟩;dsimp only at Ql Xj;obtain⟨s1,uT⟩:∃ s1,MkS.dM f MkS.start=s1:=⟨_,rfl⟩;have Ul:=(N3 f MkS.start).2;rw[uT] at V6 Ul;have VO:s1.sz<=890000:=by have:MkS.start.sz=0:=rfl;omega
 unfold MkS.sz at VO;have CK:YE lo hi w L1.B w1:=by rw[Xj];exact G9.out.fr uZ jN.out.lo
 have dH:(uG ⟨0,s1.pos,0,[],[]⟩).length=1:=by simp[uG,fJ,jx]
 have Ky:=z7 (b8 P L1 s1 0 0 [] [] (.slice none 0 0) (.slice none 0 0) w1 V6 (qV.nil _) (qV.nil _) (fun g hg=>by cases hg) (fun g hg=>by cases hg) (fun g hg=>by cases hg) (fun g hg=>by rcases hg with hg|hg<;>cases hg)
  ⟨(by decide:0<12),by simp,by simp,by simp,by simp,rfl⟩ CK.fo CK.g1 (by omega) (by omega) (by rw[dH];omega))
 have uN:s1.put 0 0 [] []=MkS.all f:=by unfold MkS.all;rw[uT]
 rw[uN] at Ky;have zxz:=z7 (oB.all f (fun x hx=>by cases hx));have hza:(MkS.all f).code.length<=900000/\(MkS.all f).pos<=900000:=by
  rw[←uN];have:=jt s1 0 0 [] [];rw[dH] at this;unfold MkS.sz at this;omega
 have UU:=z7 uZ;clear hW V6 uZ S9 uT Ul CK uN;go_wp2_with fail;refine Ky.out.mono ?_;rintro e w2 ⟨b9,c9,rfl,-,-,-,L2,jH,⟨ju,Jv⟩,vF,-,-⟩;have p0:=jH.p0;have WK:=z7 (SV _ L2 (MkS.all f) w2 jH (by omega) (fun x hx=>by have:=zxz.out x hx;omega));have YJ:=z7 jH;have dI:=z7 vF;have HNP:=z7 (show L2.q=w.heap.size from ju.trans Ql);clear jH vF Ky Ql ju Xj Jv;go_wp2_with fail;refine WK.out.mono ?_;rintro e w3 ⟨rfl,mb,EM,q0,q1,q2,hmi,gY⟩;have nq:∀ g,L2.has P g->VF w2 g≠some 126->g≠L2.q:=by rintro g - hg rfl;exact hg YJ.out.tq
 have hcC:=gY.own YJ.out.cC (fun g hg=>(YJ.out.nC hg).2.1);have hcI:=gY.own YJ.out.cI (fun g hg=>(YJ.out.nI hg).2.1);have K9:=YJ.out.rows.fr gY (by rintro g rfl;rw[YJ.out.tq];simp);have p03:=gY.cell p0 YJ.out.nP.1;have mz:L2.q=w.heap.size:=HNP.out;have CX:Below w.heap.size w w3:=by
  have f12:Fr (fun g=>w.heap.size<=g) (fun g=>w.heap.size<=g) W w2:=((UU.out.wide (G:=fun g=>w.heap.size<=g) (fun g hg=>jN.out.lo g hg)).trans (dI.out.wide (G:=fun g=>w.heap.size<=g) (fun g hg=>by
   rcases hg with hg|hg|hg
   ·have h1:=UU.out.fp g hg;rcases h1 with h1|h1
    ·exact jN.out.lo g h1
    ·have:=D6.out.size;omega
   ·cases hg
   ·cases hg)))
  have f13:=f12.trans (gY.wide (G:=fun g=>w.heap.size<=g) (by rintro g rfl;show w.heap.size<=L2.q;omega));have:=((D6.out.wide (G:=fun g=>w.heap.size<=g) (fun _ q=>q.elim)).trans f13);exact this.low (fun k hk=>hk) (zg _)
 have HPA:=z7 (show jZ L2.q (MkS.all f) L2.vC L2.vI L2.rs mb w3 from⟨q0,q1,q2,hcC,hcI,K9,hmi⟩);have NV:=z7 CX;clear hcC hcI K9 CX hmi q0 q1 q2 gY WK nq mz p0;go_wp2;go_ret;exact⟨_,_,_,_,mb,rfl,HPA.out,by rw[HNP.out];exact zg _,NV.out⟩
end Go.Proofs.YthpldolmpinnhaaGreatDoor
