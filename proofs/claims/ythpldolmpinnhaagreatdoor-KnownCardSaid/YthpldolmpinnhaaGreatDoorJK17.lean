import Derived.Test.YthpldolmpinnhaaGreatDoorJK16
import Derived.Laws.EntriesVeiled
set_option maxHeartbeats 64000000
open Go.Lib renaming hid→z7,trimPrefix→zJ,hasPrefix→zF
open List renaming replicate→z8,getElem?_eq_getElem→zj,getElem?_append_right→zQ,lookup_cons→zD,range→zE,length_append→zN,length_cons→zP,mem_append→zS,getElem?_eq_some_iff→zW,getElem?_append_left→za,mem_cons_of_mem→zc,mem_cons_self→ze,filter_append→zi,nodup_append→zn,idxOf_append→zo,mem_filter→zw
open SizeOf renaming sizeOf→zy
open Go.World renaming block_lt_of_cell?→zx,ownsMap_made→zL
open Option.some renaming inj→zv
open Go.Instr renaming typeAssert→zu,mapUpdate→zR,makeMap→yk
open Bool renaming and_eq_true→zk
open Nat renaming le_refl→zg,lt_irrefl→zZ,zero_le→zY,le_trans→zX,lt_of_lt_of_le→zl
open Go.WideAt renaming IsKeyLit→zf
open Array renaming getElem?_eq_some_iff→zV,toList_inj→zh
open Go.WideMaps renaming keyOf_string_mk→zU
open Go.Maps renaming string_keyed→zG,atKey_put_other→zH,atKey_put_same→zI,has_put_other→zM,has_put_same→zO,keyOf_int_mk→zm,int_keyed→yx,has→yv
open Go.IntKind renaming signed→zr,bits→yz,min→yu,max→yq
open ByteArray renaming mk→zt
open Go.Builtin renaming len_→yy
open Go.Proofs.Tryz
namespace Go.Proofs.YthpldolmpinnhaaGreatDoor
open Go Go.RowKit
set_option maxRecDepth 10000
theorem Fr.over{F F' G G':Nat->Prop}{w w1 w2:World}(h:Fr F F' w w1)(k:Fr G G' w1 w2)(hg:∀ q,G q->F q\/w.heap.size<=q):Fr F F' w w2 :=
 ⟨k.os.trans h.os,k.tape.trans h.tape,k.output.trans h.output,zX h.size k.size,fun i hi hn=>(k.keep i (zl hi h.size) (fun q=>(hg i q).elim hn (by omega))).trans (h.keep i hi hn),h.fp⟩
structure Yq(lo hi:Nat)(w0:World)(B:Nat)(w:World):Prop where
 keep:vQ lo hi w0 w
 hB:hi<=B
 fo:jc w
 na:ui w
 g1:2<B
 g2:0<B
theorem Yq.fr{lo hi B:Nat}{w0 w w':World}{F F':Nat->Prop}(h:Yq lo hi w0 B w)(hf:Fr F F' w w')(hF:∀ k,F k->B<=k):Yq lo hi w0 B w':=by
 have hb:=h.hB;have hk:=h.keep;refine⟨⟨zX hk.1 hf.size,fun k a b=>(hf.keep k (by have:=hk.1;omega) (fun q=>by have:=hF k q;omega)).trans (hk.2 k a b)⟩,hb,h.fo.fr hf hF h.g1,fun j hj=>hf.cell (h.na j hj) (fun q=>by have:=hF _ q;have:=h.g2;simp only at *;omega),h.g1,h.g2⟩
def Hb(lo hi:Nat)(w0:World)(f:Fo):Prop:=∀ p L s w a c vs,uz p L s w->Yq lo hi w0 L.B w->VH lo hi w0 a vs->xY lo hi w0 vs f->f.vD=true->f.wf 2000000=true->f.UN->f.len<=2000000->s.sz+f.cw<=900000 ->
 Calls prog 80 #[.pointer (some ⟨p,0,none⟩),.slice a f.len c] w (MQ p L (MkS.dD f s) w)
structure zzu(N p:Nat)(s0:MkS)(keys:List Wd)(bg:Wd->MkS->MkS)(v:Value)(I:dE->World->Prop):Prop where
 fn:∃ k cap,v = .func (.func k) #[] cap/\(∀ args w,(callFunc k args).run prog w = .ok (.enter k args) w) /\
  ∀ L s W key (a:Nat) ma mn mc,uz p L s W->I L W->s0.le s->s.sz<=900000->key∈keys->Calls prog k (#[.agg #[xk key,.int .i64 (a:Nat),.slice ma mn mc]]++cap) W (EL p L (bg key s) W)
 fr:∀ L L' W W',I L W->Fr (L.has p) (L'.has p) W W'->I L' W'
 al:∀ L W W' F F',I L W->Fr F F' W W'->(∀ k,F k->N<=k)->I L W'
 le:∀ k s,s.le (bg k s)/\(bg k s).sz=s.sz
def gB(w:World)(p:Nat)(L:dE)(s:MkS)(ls:List Nat)(DA:List (Nat×Nat)):Prop :=
 DA.length=ls.length/\∀ (n i:Nat) (x:Nat×Nat),ls[n]? = some i->DA[n]? = some x->kR w p i x.1 x.2/\¬L.has p x.1/\¬L.has p x.2/\∃ y,s.code[i]? = some y/\y.tg.length=1
theorem kR.fr{w w':World}{F F':Nat->Prop}{p i b c:Nat}(h:kR w p i b c)(hf:Fr F F' w w')(h1:¬F b)(h2:¬F c):kR w' p i b c:=⟨hf.cell h.pb h1,hf.cell h.pc h2,(uE (hf.keep b (zx w _ h.pb) h1)).trans h.tb,(uE (hf.keep c (zx w _ h.pc) h2)).trans h.tc⟩
theorem kR.lt{w:World}{p i b c:Nat}(h:kR w p i b c):b<w.heap.size/\c<w.heap.size:=⟨zx w _ h.pb,zx w _ h.pc⟩
theorem gB.fr{w w':World}{p:Nat}{L L':dE}{s s':MkS}{ls:List Nat}{DA:List (Nat×Nat)}(h:gB w p L s ls DA)(hf:Fr (L.has p) (L'.has p) w w')(hs:s.le s'):gB w' p L' s' ls DA :=
 ⟨h.1,fun n i x h1 h2=>by
  obtain⟨a,b,c,y,d,e⟩:=h.2 n i x h1 h2;obtain⟨y2,d2,e2⟩:=hs i y d;exact⟨a.fr hf b c,fun q=>(hf.fp _ q).elim b (by have:=a.lt;omega),fun q=>(hf.fp _ q).elim c (by have:=a.lt;omega),y2,d2,e2.trans e⟩⟩
theorem gB.ty{w w':World}{F F':Nat->Prop}{p:Nat}{L:dE}{s:MkS}{ls:List Nat}{DA:List (Nat×Nat)}(h:gB w p L s ls DA)(hf:Fr F F' w w')(hF:∀ k,F k->Vj w k=some 189):gB w' p L s ls DA :=
 ⟨h.1,fun n i x h1 h2=>by
  obtain⟨a,b,c,d⟩:=h.2 n i x h1 h2;exact⟨a.fr hf (fun q=>by have:=hF _ q;rw[a.tb] at this;cases this) (fun q=>by have:=hF _ q;rw[a.tc] at this;cases this),b,c,d⟩⟩
theorem gB.more{w:World}{p:Nat}{L:dE}{s:MkS}{ls:List Nat}{DA:List (Nat×Nat)}{i b c:Nat}{y:jf}(h:gB w p L s ls DA)(hl:kR w p i b c)(hb:¬L.has p b)(hc:¬L.has p c)(hy:s.code[i]? = some y)(h1:y.tg.length=1) :
  gB w p L s (ls++[i]) (DA++[(b,c)]):=by
 refine⟨by simp[h.1],fun n j x e1 e2=>?_⟩;by_cases hn:n<ls.length
 ·rw[za hn] at e1;rw[za (by have:=h.1;omega)] at e2;exact h.2 n j x e1 e2
 ·have dy:n=ls.length:=by have:=(zW.1 e1).1;simp at this;omega
  rw[dy,zQ (zg _)] at e1;rw[dy,zQ (by have:=h.1;omega),h.1] at e2;simp at e1 e2;subst e1 e2;exact⟨hl,hb,hc,y,hy,h1⟩
theorem RU:ZV prog 325 189 .nilFunc 1 8 :=
 ⟨underlying325,info_parts (by kernel_rfl),rfl,by decide,by decide⟩
def A2(DA:List (Nat×Nat)):List Value:=DA.map fun x=>bV x.1 x.2
theorem go_leg(k:Wd)(a:Nat)(m r:Fo)(bg:Wd->MkS->MkS)(s:MkS)(ls:List Nat) :
  MkS.qv (.ug k a m r) bg s ls=MkS.qv r bg ((MkS.dD m (bg k s)).put 11 0 [] [0]) (ls++[(MkS.dD m (bg k s)).code.length]):=rfl
theorem RQ(n:Nat):(madeCells (Value.int .i64 0).cells (n*1)).toList=Z2 (z8 n 0):=by
 apply List.ext_getElem
 ·simp[madeCells,Z2]
 ·intro j h1 h2;simp[madeCells,Z2,Value.cells,Nat.mod_one]
theorem Xr(n:Nat)(w:World)(hn:n<=1000000):∃ w',(Instr.makeSlice 39 (.int .i64 (n:Int)) (.int .i64 (n:Int))).run prog w = .ok (.slice (some ⟨w.heap.size,0,none⟩) n n) w'/\qq w' (.slice (some ⟨w.heap.size,0,none⟩) n n) (z8 n 0)/\Fr xN xN w w':=by
 obtain⟨i,hi,hz,h2,h3⟩:=QC.info;obtain⟨w',hr,ho,hg⟩:=run_makeSlice_full (P:=prog) (w:=w) 0 39 3 i _ 1 QC.under hi hz h2 .i64 .i64 n (by omega) (by rw[h3];omega) (by unfold maxLen;omega) (zY _);rw[RQ] at ho;refine⟨w',hr,by simpa[qq] using ho,hg.os,hg.tape,hg.output,hg.size,fun k hk _=>hg.block k hk (by simp),fun _ q=>q.elim⟩
theorem Qm{lo hi:Nat}{w0 w:World}{ba:Option Addr}{ws us vt:List Value}{k0:Wd}{a0 i ml mc:Nat}{ma:Option Addr}(hk:vQ lo hi w0 w)(Ql:VH lo hi w0 ba ws)(VY:us.length=i*3)(VV:ws=us++(xk k0 :: .int .i64 (a0:Nat) :: .slice ma ml mc::vt)) :
  ∃ g o,ba=some ⟨g,o,none⟩/\w.cell? ⟨g,o+i*3,none⟩=some (xk k0)/\w.cell? ⟨g,o+i*3+1,none⟩=some (.int .i64 (a0:Nat))/\w.cell? ⟨g,o+i*3+2,none⟩=some (.slice ma ml mc):=by
 have U9:∀ j v,[xk k0,.int .i64 (a0:Nat),.slice ma ml mc][j]? = some v->j<3->ws[i*3+j]? = some v:=by
  intro j v hj h3;rw[VV,←VY,zQ (by omega),Nat.add_sub_cancel_left,←hj];match j,h3 with
  | 0,_=>rfl
  | 1,_=>rfl
  | 2,_=>rfl
 have hc:∀ j v,ws[i*3+j]? = some v->∃ g o,ba=some ⟨g,o,none⟩/\w.cell? ⟨g,o+(i*3+j),none⟩=some v:=fun j v h=>by
  obtain⟨h1,h2⟩:=zW.1 h;obtain⟨g,o,e,g1,g2,c⟩:=Ql _ h1;rw[h2] at c;exact⟨g,o,e,xA hk c g1 g2⟩
 obtain⟨g,o,rfl,c0⟩:=hc 0 _ (U9 0 _ rfl (by omega));obtain⟨g1,o1,e1,c1⟩:=hc 1 _ (U9 1 _ rfl (by omega));obtain⟨g2,o2,e2,c2⟩:=hc 2 _ (U9 2 _ rfl (by omega))
 cases e1
 cases e2;exact⟨g,o,rfl,c0,c1,c2⟩
def UW(bs:Fo)(bg:Wd->MkS->MkS)(s:MkS):MkS:=(MkS.qv bs bg s []).2.foldl (fun s i=>s.u7 i 0) (MkS.qv bs bg s []).1
theorem Gu{lo hi:Nat}{w0:World}(b0:Nat)(n:Wd)(a fo:Nat)(of:Wd)(cl:Nat)(bs:Fo)(p:Nat)(L:dE)(s:MkS)(bg:Wd->MkS->MkS)(v:Value)(I:dE->World->Prop)(w:World)
  (ih:∀ m:Fo,zy m<zy bs->Hb lo hi w0 m) (h:uz p L s w) (he:Yq lo hi w0 L.B w)
  (Xq:xY lo hi w0 [.iface 177 (.pointer (some ⟨b0,0,none⟩))] (.br n a fo of cl bs .nil)) (hL:bs.ux=true) (hc:bs.UN) (hw:bs.wf 2000000=true) (hn:bs.len<=2000000) (hs:s.sz+bs.gw<=900000)
  (hb:zzu w.heap.size p s bs.keys bg v I) (hI:I L w) :
  Calls prog 161 #[.pointer (some ⟨p,0,none⟩),.pointer (some ⟨b0,0,none⟩),v] w (MQ p L (UW bs bg s) w):=by
 obtain⟨vt,b',ba,bc,ws,MR,xB,xD,gP,qY,jD,La,DW,Lc,Ql,Uy,_⟩:=Xq
 cases MR;have c4:=xA he.keep DW xB xD;obtain⟨k,cap,rfl,Bc,vF⟩:=hb.fn;have HH:=z7 h;have HE:=z7 he;have Le:=z7 Ql;have mY:=z7 Uy;have HL:=z7 hL;have HC:=z7 hc;have HW:=z7 hw;have HB:=z7 hb;have HI:=z7 hI;have qU:=z7 vF;have mZ:=z7 ih;have HS:=z7 hs;obtain⟨R,hR⟩:∃ R,MkS.qv bs bg s []=R:=⟨_,rfl⟩;have HR:=z7 hR;have hbR:UW bs bg s=R.2.foldl (fun s i=>s.u7 i 0) R.1:=by unfold UW;rw[hR]
 rw[hbR];obtain⟨M,hM⟩:∃ M,bs.len=M:=⟨_,rfl⟩;have HM:=z7 hM;rw[hM] at c4 hn;clear h he Ql Uy hL hc hw hb hI vF ih hs hR hbR hM gP qY jD La DW Lc;go_enter func161,ntmps161;go_wp2_with fail;go_loopw [6,16] (fun lv iv wr=>∃ i us xs r s1 L1 ls DA,iv = .int .i64 (i:Nat)/\i<=M/\xY lo hi w0 xs r/\r.ux=true/\r.UN/\r.wf 2000000=true/\us.length=i*3/\ws=us++xs/\i+r.len=M/\zy r<=zy bs/\(∀ k∈r.keys,k∈bs.keys) /\
  uz p L1 s1 wr/\(L1.q=L.q/\L1.B=L.B)/\Fr (L.has p) (L1.has p) w wr/\I L1 wr/\s.le s1/\s1.sz+r.gw<=900000/\gB wr p L1 s1 ls DA/\wr.ownsRow 0 189 1 lv ls.length (A2 DA)/\(∀ g,xX lv g->w.heap.size<=g/\¬L1.has p g)/\ls.length=i/\MkS.qv r bg s1 ls=R) (fun _ iv _=>M - (intOf iv).toNat)
 case atStart =>
  exact⟨0,[],ws,bs,s,L,[],[],rfl,zY _,mY.out,HL.out,HC.out,HW.out,rfl,rfl,by have:=HM.out;omega,zg _,fun _ q=>q,HH.out,⟨rfl,rfl⟩,Fr.refl _ _,HI.out,s.le_refl,HS.out,⟨rfl,fun n i x q=>by simp at q⟩,World.ownsRow_nil _ _ _ _,(fun g q=>by cases q),rfl,HR.out⟩
 case round =>
  obtain⟨i,us,xs,r,s1,L1,ls,DA,rfl,hiM,gO,Zj,OJ,Eg,VY,VV,j5,qa,UH,Vf,⟨QL,Yh⟩,uq,U8,zzq,uF,rH,vE,rL,zzk,jH⟩:=hrel;have Cx:Yq lo hi w0 L1.B wr:=by rw[Yh];exact HE.out.fr uq HH.out.lo
  obtain⟨la,lc,rfl⟩:=xZ vE;by_cases xC:i<M
  ·cases r with
   | nil=>exfalso;simp[Fo.len] at j5;omega
   | text t r=>cases Zj
   | hash r=>cases Zj
   | put n a r=>cases Zj
   | num n a r=>cases Zj
   | br n a fo of cl bs r=>cases Zj
   | ug k0 a0 m0 r0 =>
    obtain⟨Ol,ma,mc,ms,rfl,Xu,Ww,UT⟩:=gO;obtain⟨g2,o2,rfl,e0,e1,e2⟩:=Qm Cx.keep Le.out VY VV;have D8:=z7 Vf;have DH:=z7 Cx;have Uz:=z7 uq;have Qi:=z7 U8;have za3:=z7 zzq;have HLP:=z7 rH;have qV:=z7 vE;have mG:=z7 rL;have dP:=z7 jH;have HLR:=z7 Zj;have RJ:=z7 OJ;have UR:=z7 Eg;have Cz:=z7 VY;have TH:=z7 VV;have mF:=z7 UH;have Qe:=z7 Xu;have HMN:=z7 Ww;have QU:=z7 UT;have Yp:=z7 j5;have fS:=z7 qa;have gQ:=z7 uF;have HLS:=z7 zzk;have k3:(i:Int)<(M:Int):=by omega
    have k4:decide ((i:Int)<(M:Int))=true:=by simp;omega
    clear Vf Cx uq U8 zzq rH vE rL jH Zj OJ Eg VY VV UH Xu Ww UT j5 qa uF zzk;go_wp2_with fail;obtain⟨wA,hwA⟩:∃ wA,wr.alloc (.cells #[xk k0,.int .i64 (a0:Nat),.slice ma m0.len mc] 183)=wA:=⟨_,rfl⟩;have fA:Fr xN xN wr wA:=by rw[←hwA];exact(Fr.refl _ _).alloc _
    have cA:=xu wr #[xk k0,.int .i64 (a0:Nat),.slice ma m0.len mc] 183 (0,0) 2;rw[hwA] at cA ⊢;clear hwA;have A3:=D8.out.fr fA (fun _ q=>q.elim);have Kt:k0∈bs.keys:=mF.out k0 (by simp[Fo.keys]);have uF:=gQ.out;simp only[Fo.gw] at uF;refine(qU.out L1 s1 wA k0 a0 ma m0.len mc A3 (HB.out.al _ _ _ _ _ Qi.out fA (fun _ q=>q.elim)) za3.out (by omega) Kt).mono ?_;rintro e w2 ⟨rfl,jC,vG⟩;obtain⟨Wy,hbz⟩:=HB.out.le k0 s1;have nA:¬L1.has p wr.heap.size:=fun q=>zZ _ (D8.out.lt q)
    have c2:=vG.cell cA nA;have f12:Fr (L1.has p) (L1.has p) wr w2:=(fA.wide (fun _ q=>q.elim)).trans vG;have Cy:Yq lo hi w0 L1.B w2:=DH.out.fr f12 D8.out.lo;have OJ:=RJ.out;have Zv:(decide (k0.length<=4000001) && m0.vD && decide (m0.len<=2000000) && m0.wf 2000000 && r0.wf 2000000)=true:=UR.out;simp only[zk,decide_eq_true_eq] at Zv;have za4:zy m0<zy bs:=by have:=fS.out;simp at this;omega
    have RG:=z7 (mZ.out m0 za4 p L1 (bg k0 s1) w2 ma mc ms jC Cy Qe.out HMN.out Zv.1.1.1.2 Zv.1.2 OJ.2.1 Zv.1.1.2 (by omega));have F12:=z7 f12;have rM:=z7 Zv.2;clear jC vG f12 Cy OJ Zv za4 cA fA A3;go_wp2_with fail;refine RG.out.mono ?_;rintro e w3 ⟨rfl,L2,KV,⟨j4,Ki⟩,jw⟩;have FM:=z7 KV;have VB:=z7 jw;clear KV jw RG c2;obtain⟨w4,Da,fM,Vg⟩:=Xr 1 w3 (by omega);rw[show((1:Nat):Int)=1 from rfl] at Da;have KX:=FM.out.fr Vg (fun _ q=>q.elim);have rN:Yq lo hi w0 L2.B w3:=by
     have:=(DH.out.fr F12.out D8.out.lo).fr VB.out D8.out.lo;rw[Ki];exact this
    have he4:Yq lo hi w0 L2.B w4:=rN.fr Vg (fun _ q=>q.elim);obtain⟨s2,uw⟩:∃ s2,MkS.dD m0 (bg k0 s1)=s2:=⟨_,rfl⟩;rw[uw] at KX FM;have hmz:=ML m0 (bg k0 s1);rw[uw] at hmz;have hx:(uU ⟨11,s2.pos,0,[],z8 1 0⟩).length=3:=by simp[uU,gR,j8,kh]
    have QQ:s2.sz<=900000:=by omega
    unfold MkS.sz at QQ;have HP:=z7 (dL p L2 s2 11 0 [] (z8 1 0) (.slice none 0 0) (.slice (some ⟨w3.heap.size,0,none⟩) 1 1) w4 KX (qq.nil _) fM (fun g hg=>by cases hg) (fun g hg q=>by cases hg;exact zZ _ (FM.out.lt q)) (fun g hg q=>by cases q)
     (fun g hg=>by rcases hg with hg|hg<;>cases hg;have:=FM.out.base;show L2.B<=w3.heap.size;omega)
     ⟨(by decide:11<12),by simp,by simp,by simp,by simp,rfl⟩ he4.fo he4.g1 (by omega) (by omega) (by omega))
    have Tt:=z7 Vg;have yu3:=z7 uw;have HMZ:=z7 hmz;clear KX rN he4 fM Vg hmz hx uw;go_wp2_with fail;refine HP.out.mono ?_;rintro e w5 ⟨b,c,rfl,Ha,kZ,Lc,L3,Jg,⟨X3,D9⟩,Jf,nb5,nc5⟩;have Ph:=z7 Jg;have Pw:=z7 Jf;have Kn:=z7 Ha;clear HP Jg Jf Ha;have FA:=z7 (show Fr (L1.has p) (L3.has p) wr w5 from(((F12.out.trans VB.out).trans (Tt.out.wide (fun _ q=>q.elim))).tr Pw.out (fun q hq=>by
     rcases hq with hq|hq|hq
     ·exact(F12.out.trans VB.out).fp q hq
     ·cases hq
     ·cases hq;exact .inr (F12.out.trans VB.out).size)))
    have hro:=FA.out.own qV.out (fun g hg=>(mG.out g hg).2);obtain⟨ln,j5⟩:∃ ln,ls.length=ln:=⟨_,rfl⟩;rw[j5] at hro qV mG ⊢;have yu4:ln<=2000000:=by have:=HLS.out;omega
    have JV:=z7 hro;have Wh:=z7 j5;clear hro j5;go_wp2_with (at_builtin;refine BR RU [_] 1 JV.out (by omega) ?_);intro v6 w6 QK ZU;have n3:∀ g,xX (.slice la ln lc) g->¬L3.has p g:=fun g hg q=>(FA.out.fp g q).elim (mG.out g hg).2 (by have:=uS qV.out hg;omega)
    have Fe:s1.le s2:=MkS.le_trans (HB.out.le k0 s1).1 HMZ.out.1;have hl3:=MkS.le_trans Fe (MkS.bC s2 11 0 [] (z8 1 0));have Li:=ji s2 11 0 [] (z8 1 0);have Ec:(uU ⟨11,s2.pos,0,[],z8 1 0⟩).length=3:=by simp[uU,gR,j8,kh]
    have Ll:=HMZ.out.2;have G1:=z7 (Ph.out.fr ZU n3);have G2:=z7 ((Uz.out.trans FA.out).over ZU (fun q hq => .inr (mG.out q hq).1));have G3:=z7 (HB.out.al _ _ _ _ _ (HB.out.fr _ _ _ _ Qi.out FA.out) ZU (fun q hq=>(mG.out q hq).1));have G4:=z7 (((HLP.out.fr FA.out hl3).more Kn.out nb5 nc5 (i:=s2.code.length) (y:=⟨11,s2.pos,0,[],z8 1 0⟩) (by simp[MkS.put]) (by simp)).ty ZU (fun q hq=>jd JV.out hq));have G5:=z7 (show ∀ g,xX v6 g->w.heap.size<=g/\¬L3.has p g from fun g hg=>(ZU.fp g hg).elim (fun q=>⟨(mG.out g q).1,n3 g q⟩) (fun q=>⟨zX (Uz.out.trans FA.out).size q,fun e=>by have:=Ph.out.lt e;omega⟩));obtain⟨a6,c6,rfl⟩:=xZ QK;have ru:=z7 QK;clear QK ZU n3 Da;have hzb:=(HB.out.le k0 s1).2;go_wp2;go_roundw
    case rel =>
     refine⟨i+1,us++[xk k0,.int .i64 (a0:Nat),.slice ma m0.len mc],Ol,r0,s2.put 11 0 [] (z8 1 0),L3,ls++[s2.code.length],DA++[(b,c)],by go_num,by omega,QU.out,HLR.out,RJ.out.2.2,rM.out,by simp[Cz.out];omega,by rw[TH.out];simp,by have:=Yp.out;simp only[Fo.len] at this;omega,by have:=fS.out;simp at this;omega,fun k hk=>mF.out k (by simp[Fo.keys,hk]),G1.out,⟨by rw[X3,j4,QL],by rw[D9,Ki,Yh]⟩,G2.out,G3.out,MkS.le_trans za3.out hl3,by omega,G4.out,?_,G5.out,by rw[zN,HLS.out];rfl,?_⟩
     ·have:=ru.out;rw[←Wh.out] at this ⊢;simpa[A2] using this
     ·have:=dP.out;rw[go_leg,yu3.out] at this;exact this
    case measure=>simp only[intOf];omega
  ·have vu:MkS.qv r bg s1 ls=(s1,ls):=by
    cases r with
    | nil=>rfl
    | text t r=>cases Zj
    | hash r=>cases Zj
    | put n a r=>cases Zj
    | num n a r=>cases Zj
    | br n a fo of cl bs r=>cases Zj
    | ug k0 a0 m0 r0=>exfalso;simp only[Fo.len] at j5;omega
   obtain rfl:(s1,ls)=R:=vu.symm.trans jH;have D8:=z7 Vf;have Uz:=z7 uq;have HLP:=z7 rH;have qV:=z7 vE;have mG:=z7 rL;have gQ:=z7 uF;obtain⟨ln,zzf⟩:∃ ln,ls.length=ln:=⟨_,rfl⟩;rw[zzf] at qV mG ⊢;have yu4:ln<=2000000:=by omega
   have Yp:=z7 zzf;clear Vf Cx uq U8 zzq rH vE rL jH Zj OJ Eg VY VV UH j5 qa uF gO vu zzf zzk;go_wp2_with fail;go_loopw [37] (fun jv tI=>∃ j s2,jv = .int .i64 (j:Nat)/\j<=ln/\uz p L1 s2 tI/\Fr (L1.has p) (L1.has p) wr tI/\s2=(ls.take j).foldl (fun s i=>s.u7 i 0) s1/\gB tI p L1 s2 ls DA/\s2.sz<=900000) (fun jv _=>ln - (intOf jv).toNat)
   case atStart=>exact⟨0,s1,rfl,zY _,D8.out,Fr.refl _ _,rfl,HLP.out,by have:=gQ.out;omega⟩
   case round =>
    obtain⟨j,s2,rfl,hj,jC,vG,uw,OG,QQ⟩:=hrel;have Y8:=z7 jC;have dY:=z7 vG;have iP:=z7 OG;have dN:=z7 uw;by_cases Z1:j<ln
    ·obtain⟨ij,hij⟩:∃ ij,ls[j]? = some ij:=⟨_,zj (by have:=Yp.out;omega)⟩;obtain⟨⟨b,c⟩,D0⟩:∃ x,DA[j]? = some x:=⟨_,zj (by have:=Yp.out;have:=HLP.out.1;omega)⟩;obtain⟨Dc,-,-,y,hy,hy1⟩:=OG.2 j ij (b,c) hij D0;have hro:=vG.own qV.out (fun g hg=>(mG.out g hg).2);obtain⟨g,gc,hve,-,-,Z0⟩:=vU hro (by omega)
     cases hve;have qY:wr.cell? ⟨g,j,none⟩=some (bV b c):=by
      rw[Z0 j (by omega)];simp[A2,D0]
     have za9:s2.code.length<=1000000:=by unfold MkS.sz at QQ;omega
     have HLA:=z7 (UZ p L1 s2 ij 0 b c y wr jC Dc hy (by omega) za9 (by omega));have HIJ:=z7 hij;have k3:(j:Int)<(ln:Int):=by omega
     have k4:decide ((j:Int)<(ln:Int))=true:=by simp;omega
     clear jC vG OG uw Dc hy hro Z0 hij D0;go_wp2_with fail;refine HLA.out.mono ?_;rintro e w3 ⟨rfl,KV,jw⟩;have FM:=z7 KV;have VB:=z7 jw;clear KV jw HLA;go_wp2;go_roundw
     case rel =>
      refine⟨j+1,s2.u7 ij 0,by go_num,by omega,FM.out,dY.out.trans VB.out,?_,iP.out.fr VB.out (s2.Zk _ _),by rw[gJ];exact QQ⟩;rw[List.take_add_one,HIJ.out];simp[dN.out]
     case measure=>simp only[intOf];omega
    ·have tW:=z7 (show s2=ls.foldl (fun s i=>s.u7 i 0) s1 by rw[uw,List.take_of_length_le (by have:=Yp.out;omega)]);have k3:¬(j:Int)<(ln:Int):=by omega
     have k4:decide ((j:Int)<(ln:Int))=false:=by simp;omega
     clear jC vG OG uw;go_wp2;refine bodyPost_ret (v := .tuple #[]) ?_ rfl ?_
     ·simp[results,results161,go_sem]
     rw[←tW.out];exact⟨rfl,L1,Y8.out,⟨QL,Yh⟩,Uz.out.trans dY.out⟩
def Ve(w:World)(b n:Nat)(f:Wd->Option Nat):Prop :=
 ∃ D:DataW Unit,w.ownsMap prog 9 (plainElem prog 3) b n D/\Maps.size D=n/\∀ m:Wd,yv D (.string m)=(f m).isSome/\D.atKey (.string m) (.lit (.int .i64 0)) = .lit (.int .i64 (((f m).getD 0:Nat):Int))
theorem Ve.g{w:World}{b n:Nat}{f:Wd->Option Nat}(h:Ve w b n f):kP 3 w b n f:=by
 obtain⟨D,h1,-,h3⟩:=h;exact⟨D,h1,h1.isMap,h3⟩
theorem Ve.made(w:World):Ve (w.alloc (.map #[] 0)) w.heap.size 0 (fun _=>none):=⟨.map [],zL w _ _ _,rfl,fun m=>⟨rfl,rfl⟩⟩
theorem Ve.fr{w w':World}{F F':Nat->Prop}{b n:Nat}{f:Wd->Option Nat}(h:Ve w b n f)(hf:Fr F F' w w')(hb:¬F b):Ve w' b n f:=by
 have hl:=h.g.lt;obtain⟨D,⟨es,clock,ho,rest⟩,h2⟩:=h;exact⟨D,⟨es,clock,(hf.keep b hl hb).trans ho,rest⟩,h2⟩
theorem Ve.len{w:World}{b n:Nat}{f:Wd->Option Nat}(h:Ve w b n f)(ty:TypeId):(yy #[185] ty #[.map (some b)]).run prog w = .ok (.int .i64 (n:Nat)) w:=by
 obtain⟨D,h1,rfl,_⟩:=h;exact h1.len underlying185 ty
theorem Ve.put{w:World}{b n:Nat}{f:Wd->Option Nat}(h:Ve w b n f)(m:Wd)(hm:m.length<=5000000)(k:Nat)(hk:k<=1000000000)(hn:n<=1000000000)(hf:f m=none) :
  ∃ w',(zR 185 (.map (some b)) (xk m) (.int .i64 (k:Int))).run prog w = .ok () w'/\Ve w' b (n+1) (fun x=>if m=x then some k else f x)/\w.grownBy w' (some b):=by
 obtain⟨D,h1,h2,h3⟩:=h;have hi:=h1.isMap;have hti:=h1.tidy (zG underlying9);obtain⟨w',vB,xV,hg⟩:=h1.update (zG underlying9) underlying185 (by unfold maxLen;omega) (key:=xk m) (zU (s:=⟨m.toArray⟩) underlying9 (by rw[size_mk];unfold maxLen;omega))
  (plainElem_int underlying3 (q := .i64) (a:=(k:Int)) (by simp[Lit.wf,yu,yq,zr,yz];omega))
 rw[toList_mk] at xV;refine⟨w',vB,⟨_,xV,?_,fun x=>?_⟩,hg⟩
 ·rw[Maps.size_put hti,(h3 m).1,hf];simp[h2]
 ·by_cases hx:m=x
  ·subst hx;simp only[↓reduceIte];exact⟨by rw[zO hi (show zf (.string m) from trivial)];simp,by rw[zI hi (show zf (.string m) from trivial)];simp⟩
  ·simp only[hx,↓reduceIte];have vx:(Lit.string x) ≠ .string m:=fun q=>hx (by cases q;rfl)
   exact⟨by rw[zM vx];exact(h3 x).1,by rw[zH vx];exact(h3 x).2⟩
structure ZK(N p i4 pb mb:Nat)(kv:Value)(acc:List Nat)(done:List Wd)(L:dE)(w:World):Prop where
 k0:w.cell? ⟨i4,0,none⟩=some (.int .i64 10)
 k1:w.cell? ⟨i4,1,none⟩=some (.int .i64 0)
 k2:w.cell? ⟨i4,2,none⟩=some (.int .i64 0)
 k3:w.cell? ⟨i4,3,none⟩=some kv
 k4:w.cell? ⟨i4,4,none⟩=some (.slice none 0 0)
 z:∀ j,w.frozen? ⟨i4,j,none⟩=false
 pm:w.cell? ⟨pb,0,none⟩=some (.map (some mb))
 mp:Ve w mb done.length (kg done)
 row:qq w kv acc
 lo:N<=i4/\N<=pb/\N<=mb/\∀ g,xX kv g->N<=g
 out:¬L.has p i4/\¬L.has p pb/\¬L.has p mb/\∀ g,xX kv g->¬L.has p g
 ne:i4≠pb/\i4≠mb/\pb≠mb/\¬xX kv i4/\¬xX kv pb/\¬xX kv mb
section
variable {N p i4 pb mb:Nat} {kv:Value} {acc:List Nat} {done:List Wd} {L L':dE} {w w':World}
theorem ZK.lt(h:ZK N p i4 pb mb kv acc done L w):i4<w.heap.size/\pb<w.heap.size/\mb<w.heap.size:=⟨zx w _ h.k0,zx w _ h.pm,h.mp.g.lt⟩
theorem ZK.keep{F F':Nat->Prop}(h:ZK N p i4 pb mb kv acc done L w)(hf:Fr F F' w w')(hF:∀ g,(g=i4\/g=pb\/g=mb\/xX kv g)->¬F g)(ho:∀ g,(g=i4\/g=pb\/g=mb\/xX kv g)->¬L'.has p g):ZK N p i4 pb mb kv acc done L' w':=by
 have a:=hF i4 (.inl rfl);have b:=hF pb (.inr (.inl rfl));have c:=hF mb (.inr (.inr (.inl rfl)));exact⟨hf.cell h.k0 a,hf.cell h.k1 a,hf.cell h.k2 a,hf.cell h.k3 a,hf.cell h.k4 a,fun j=>(hf.frozen h.lt.1 a).trans (h.z j),hf.cell h.pm b,h.mp.fr hf c,hf.own h.row (fun g hg=>hF g (.inr (.inr (.inr hg)))),h.lo,⟨ho i4 (.inl rfl),ho pb (.inr (.inl rfl)),ho mb (.inr (.inr (.inl rfl))),fun g hg=>ho g (.inr (.inr (.inr hg)))⟩,h.ne⟩
theorem ZK.all(h:ZK N p i4 pb mb kv acc done L w):∀ g,(g=i4\/g=pb\/g=mb\/xX kv g)->¬L.has p g/\g<w.heap.size/\N<=g:=by
 rintro g (rfl|rfl|rfl|hg)
 ·exact⟨h.out.1,h.lt.1,h.lo.1⟩
 ·exact⟨h.out.2.1,h.lt.2.1,h.lo.2.1⟩
 ·exact⟨h.out.2.2.1,h.lt.2.2,h.lo.2.2.1⟩
 ·exact⟨h.out.2.2.2 g hg,uS h.row hg,h.lo.2.2.2 g hg⟩
theorem ZK.fr(h:ZK N p i4 pb mb kv acc done L w)(hf:Fr (L.has p) (L'.has p) w w'):ZK N p i4 pb mb kv acc done L' w' :=
 h.keep hf (fun g hg=>(h.all g hg).1) (fun g hg q=>(hf.fp g q).elim (h.all g hg).1 (by have:=(h.all g hg).2.1;omega))
theorem ZK.al{F F':Nat->Prop}(h:ZK N p i4 pb mb kv acc done L w)(hf:Fr F F' w w')(hF:∀ g,F g->w.heap.size<=g):ZK N p i4 pb mb kv acc done L w' :=
 h.keep hf (fun g hg q=>by have:=hF g q;have:=(h.all g hg).2.1;omega) (fun g hg=>(h.all g hg).1)
theorem ZK.key{t:Wd}(h:ZK N p i4 pb mb kv acc done L w)(ht:t ∉ done)(hm:Ve w' mb (done.length+1) (fun x=>if t=x then some done.length else kg done x))(hg:w.grownBy w' (some mb)):ZK N p i4 pb mb kv acc (done++[t]) L w':=by
 have hf:Fr (fun k=>k=mb) (fun k=>k=mb) w w':=⟨hg.os,hg.tape,hg.output,hg.size,fun k hk hn=>hg.block k hk (fun e=>hn (zv e)),fun _ q => .inl q⟩;obtain⟨n1,n2,n3,n4,n5,n6⟩:=h.ne;rw[KY ht] at hm;exact⟨hf.cell h.k0 n2,hf.cell h.k1 n2,hf.cell h.k2 n2,hf.cell h.k3 n2,hf.cell h.k4 n2,fun j=>(hf.frozen h.lt.1 n2).trans (h.z j),hf.cell h.pm n3,by simpa using hm,hf.own h.row (fun g hg e=>n6 (e▸hg)),h.lo,h.out,h.ne⟩
theorem ZK.num{mD:Value}{n:Nat}{w2:World}(h:ZK N p i4 pb mb kv acc done L w)(hr:qq w2 mD (acc++[n]))(hf:Fr (xX kv) (xX mD) w w2)(hL:∀ g,L.has p g->g<w.heap.size)(hN:N<=w.heap.size):ZK N p i4 pb mb mD (acc++[n]) done L (w2.setCell ⟨i4,3,none⟩ mD):=by
 obtain⟨n1,n2,n3,n4,n5,n6⟩:=h.ne;have lv:∀ g,xX mD g->xX kv g\/w.heap.size<=g:=hf.fp;have nv:∀ g,g<w.heap.size->¬xX kv g->¬xX mD g:=fun g a b c=>(lv g c).elim b (by omega)
 have c:=fun (j:Nat) (v:Value) (hc:w.cell? ⟨i4,j,none⟩=some v) (hj:j≠3)=>(show(w2.setCell ⟨i4,3,none⟩ mD).cell? ⟨i4,j,none⟩=some v by rw[xf,if_neg (fun e=>hj (by cases e;rfl))];exact hf.cell hc n4)
 refine⟨c 0 _ h.k0 (by decide),c 1 _ h.k1 (by decide),c 2 _ h.k2 (by decide),u9 (hf.cell h.k3 n4) _,c 4 _ h.k4 (by decide),fun j=>by rw[World.frozen?_setCell];exact(hf.frozen h.lt.1 n4).trans (h.z j),ub (hf.cell h.pm n5) _ n1,
  (h.mp.fr hf n6).fr (show Fr (fun g=>g=i4) (fun g=>g=i4) w2 (w2.setCell ⟨i4,3,none⟩ mD) from(Fr.refl _ _).set _ (.inl rfl)) (fun e=>n2 e.symm),ownsRow_setCell_other hr (nv _ h.lt.1 n4) _,⟨h.lo.1,h.lo.2.1,h.lo.2.2.1,fun g hg=>(lv g hg).elim (h.lo.2.2.2 g) (by omega)⟩,
  ⟨h.out.1,h.out.2.1,h.out.2.2.1,fun g hg=>(lv g hg).elim (h.out.2.2.2 g) (fun a b=>by have:=hL g b;omega)⟩,n1,n2,n3,nv _ h.lt.1 n4,nv _ h.lt.2.1 n5,nv _ h.lt.2.2 n6⟩
end
structure UA(N p idx tb b c pb mb n:Nat)(f:Wd->Option Nat)(L:dE)(w:World):Prop where
 t:w.cell? ⟨tb,0,none⟩=some (bV b c)
 l:kR w p idx b c
 pm:w.cell? ⟨pb,0,none⟩=some (.map (some mb))
 mp:kP 3 w mb n f
 out:¬L.has p tb/\¬L.has p b/\¬L.has p c/\¬L.has p pb/\¬L.has p mb
 lt:tb<N/\b<N/\c<N/\pb<N/\mb<N
section
variable {N p idx tb b c pb mb n:Nat} {f:Wd->Option Nat} {L L':dE} {w w':World}
theorem UA.keep{F F':Nat->Prop}(h:UA N p idx tb b c pb mb n f L w)(hf:Fr F F' w w')(hF:∀ g,(g=tb\/g=b\/g=c\/g=pb\/g=mb)->¬F g/\¬L'.has p g):UA N p idx tb b c pb mb n f L' w':=by
 have h1:=hF tb (.inl rfl);have h2:=hF b (.inr (.inl rfl));have h3:=hF c (.inr (.inr (.inl rfl)));have h4:=hF pb (.inr (.inr (.inr (.inl rfl))));have h5:=hF mb (.inr (.inr (.inr (.inr rfl))));exact⟨hf.cell h.t h1.1,h.l.fr hf h2.1 h3.1,hf.cell h.pm h4.1,h.mp.fr hf h5.1,⟨h1.2,h2.2,h3.2,h4.2,h5.2⟩,h.lt⟩
theorem UA.all(h:UA N p idx tb b c pb mb n f L w):∀ g,(g=tb\/g=b\/g=c\/g=pb\/g=mb)->¬L.has p g/\g<N/\g<w.heap.size:=by
 obtain⟨o1,o2,o3,o4,o5⟩:=h.out;obtain⟨l1,l2,l3,l4,l5⟩:=h.lt;rintro g (rfl|rfl|rfl|rfl|rfl)
 ·exact⟨o1,l1,zx w _ h.t⟩
 ·exact⟨o2,l2,h.l.lt.1⟩
 ·exact⟨o3,l3,h.l.lt.2⟩
 ·exact⟨o4,l4,zx w _ h.pm⟩
 ·exact⟨o5,l5,h.mp.lt⟩
theorem UA.fr(h:UA N p idx tb b c pb mb n f L w)(hf:Fr (L.has p) (L'.has p) w w'):UA N p idx tb b c pb mb n f L' w' :=
 h.keep hf (fun g hg=>⟨(h.all g hg).1,fun q=>(hf.fp g q).elim (h.all g hg).1 (by have:=(h.all g hg).2.2;omega)⟩)
theorem UA.al{F F':Nat->Prop}(h:UA N p idx tb b c pb mb n f L w)(hf:Fr F F' w w')(hF:∀ g,F g->N<=g):UA N p idx tb b c pb mb n f L w' :=
 h.keep hf (fun g hg=>⟨fun q=>by have:=hF g q;have:=(h.all g hg).2.1;omega,(h.all g hg).1⟩)
theorem A4(s:MkS)(x:jf)(key:Wd)(a:Nat)(ma:Option Addr)(mn mc:Nat)(hm:uz p L s w)(h:UA N p idx tb b c pb mb n f L w)(hk:key.length<=17)(hx:s.code[idx]? = some x)(hj:(f key).getD 0<x.tg.length)(hl:x.tg.length<=1000000)(hs:s.code.length<=900000) :
  Calls prog 162 #[.agg #[xk key,.int .i64 (a:Nat),.slice ma mn mc],.pointer (some ⟨tb,0,none⟩),.pointer (some ⟨pb,0,none⟩)] w (EL p L (s.u7 idx ((f key).getD 0)) w):=by
 obtain⟨A,hA⟩:∃ A,w.alloc (.cells #[xk key,.int .i64 (a:Nat),.slice ma mn mc] 183)=A:=⟨_,rfl⟩;have fA:Fr xN xN w A:=by rw[←hA];exact(Fr.refl _ _).alloc _
 have Om:=h.keep fA (L':=L) (fun g hg=>⟨id,(h.all g hg).1⟩);have A3:=hm.fr fA (fun _ q=>q.elim);have cA:=xu w #[xk key,.int .i64 (a:Nat),.slice ma mn mc] 183 (0,0) 0;obtain⟨j,hjj⟩:∃ j,(f key).getD 0=j:=⟨_,rfl⟩;have V4:=Om.mp.KZ QI key (by omega);rw[hjj] at V4 hj ⊢;have ht:=Om.t;have hp:=Om.pm;have HL:=z7 (UZ p L s idx j b c x A A3 Om.l hx hj (by omega) hl);have On:=z7 fA;have HX:=z7 hA;subst hA;clear h hm Om A3 hx hj hjj fA;go_enter func162,ntmps162;go_wp2_with fail;refine HL.out.mono ?_;rintro e w2 ⟨rfl,jC,vG⟩;have Y8:=z7 jC;have dY:=z7 vG;clear HL jC vG;go_wp2;refine bodyPost_ret (v := .tuple #[]) ?_ rfl ?_
 ·simp[results,results162,go_sem]
 exact⟨rfl,Y8.out,(On.out.wide (fun _ q=>q.elim)).trans dY.out⟩
end
theorem RF{p:Nat}{L:dE}{s:MkS}{w:World}(h:uz p L s w)(n N:Nat)(hN:N<=w.heap.size) :
  ∃ W,W=(((w.alloc (.cells #[.int .i64 (n:Nat)] 3)).alloc (.cells #[.int .i64 10,.int .i64 0,.int .i64 0,.slice (some ⟨w.heap.size,0,none⟩) 1 1,.slice none 0 0] 128)).alloc (.map #[] 0)).alloc (.cells #[.map (some (w.heap.size+2))] 185) /\
   ZK N p (w.heap.size+1) (w.heap.size+3) (w.heap.size+2) (.slice (some ⟨w.heap.size,0,none⟩) 1 1) [n] [] L W/\Fr xN xN w W:=by
 obtain⟨A,hA⟩:∃ A,w.alloc (.cells #[.int .i64 (n:Nat)] 3)=A:=⟨_,rfl⟩;have sA:A.heap.size=w.heap.size+1:=by rw[←hA];simp
 have rA:qq A (.slice (some ⟨w.heap.size,0,none⟩) 1 1) [n]:=by rw[←hA];exact qq.lit w [n] (by simp)
 have fA:Fr xN xN w A:=by rw[←hA];exact(Fr.refl _ _).alloc _
 rw[hA];clear hA;obtain⟨B,hB⟩:∃ B,A.alloc (.cells #[.int .i64 10,.int .i64 0,.int .i64 0,.slice (some ⟨w.heap.size,0,none⟩) 1 1,.slice none 0 0] 128)=B:=⟨_,rfl⟩;have cB:=fun j=>xu A #[.int .i64 10,.int .i64 0,.int .i64 0,.slice (some ⟨w.heap.size,0,none⟩) 1 1,.slice none 0 0] 128 (0,0) j
 have zB:∀ j,B.frozen? ⟨w.heap.size+1,j,none⟩=false:=by intro j;rw[←hB,←sA];simp
 rw[hB,sA] at cB;have sB:B.heap.size=w.heap.size+2:=by rw[←hB];simp[sA]
 have fB:Fr xN xN A B:=by rw[←hB];exact(Fr.refl _ _).alloc _
 rw[hB];clear hB;obtain⟨C,hC⟩:∃ C,B.alloc (.map #[] 0)=C:=⟨_,rfl⟩;have mC:=Ve.made B;rw[hC,sB] at mC;have sC:C.heap.size=w.heap.size+3:=by rw[←hC];simp[sB]
 have fC:Fr xN xN B C:=by rw[←hC];exact(Fr.refl _ _).alloc _
 rw[hC];clear hC;have fD:Fr xN xN C (C.alloc (.cells #[.map (some (w.heap.size+2))] 185)):=(Fr.refl _ _).alloc _;have f:=fC.trans fD;have no:∀ g,w.heap.size<=g->¬L.has p g:=fun g hg q=>by have:=h.lt q;omega
 refine⟨_,rfl,⟨f.cell (cB 0) id,f.cell (cB 1) id,f.cell (cB 2) id,f.cell (cB 3) id,f.cell (cB 4) id,fun j=>(f.frozen (show w.heap.size+1<_ by omega) id).trans (zB j),?_,mC.fr fD id,(fB.trans f).own rA (fun _ _=>id),⟨by omega,by omega,by omega,fun g hg=>by cases hg;exact hN⟩,
  ⟨no _ (by omega),no _ (by omega),no _ (by omega),fun g hg=>no g (by cases hg;exact zg _)⟩,⟨by omega,by omega,by omega,fun e=>?_,fun e=>?_,fun e=>?_⟩⟩,fA.trans (fB.trans f)⟩
 ·rw[←sC];exact xu C #[.map (some (w.heap.size+2))] _ _ _
 all_goals
  have e2:w.heap.size=_:=zv e;omega
theorem A5(ks:List Wd)(k:Wd)(h:k∈ks):(kg (ks.filter (· ≠ qy)++[qy]) k).getD 0=MkS.place ks k/\MkS.place ks k<=(ks.filter (· ≠ qy)).length:=by
 unfold kg MkS.place;by_cases hk:k=qy
 ·subst hk;rw[if_pos (by simp),if_pos rfl];have:qy ∉ ks.filter (· ≠ qy):=by simp
  simp[zo,this,List.idxOf_cons]
 ·have hm:k∈ks.filter (· ≠ qy):=zw.2 ⟨h,by simp[hk]⟩;rw[if_pos (by simp[h,hk]),if_neg hk,zo,if_pos hm];exact⟨rfl,List.idxOf_le_length⟩
theorem Cv{lo hi:Nat}{w0:World}(b0:Nat)(n:Wd)(a:Nat)(of:Wd)(cl:Nat)(bs:Fo)(p:Nat)(L:dE)(s:MkS)(w:World)
  (ih:∀ m:Fo,zy m<zy bs->Hb lo hi w0 m) (h:uz p L s w) (he:Yq lo hi w0 L.B w)
  (Xq:xY lo hi w0 [.iface 177 (.pointer (some ⟨b0,0,none⟩))] (.br n a 0 of cl bs .nil)) (hc:(Fo.br n a 0 of cl bs .nil).UN) (Gq:(Fo.br n a 0 of cl bs .nil).wf 2000000=true) (hs:s.sz+(40+bs.cw)<=900000) :
  Calls prog 121 #[.pointer (some ⟨p,0,none⟩),.pointer (some ⟨b0,0,none⟩)] w (MQ p L (UW bs (MkS.dO n bs s) (MkS.ky n bs s)) w):=by
 have LI:=@run_makeMap prog;have HND:=z7 Xq;obtain⟨vt,b',ba,bc,ws,MR,xB,xD,gP,qY,jD,La,DW,Lc,Ql,Uy,_⟩:=Xq
 cases MR;obtain⟨hnl,-,-,hL,A6,rJ,D0,-⟩:=hc;have Zv:(decide (n.length<=4000001) && decide (0<3) && bs.ux && decide (bs.len<=2000000) && bs.wf 2000000 && Fo.nil.wf 2000000)=true:=Gq;simp only[zk,decide_eq_true_eq] at Zv;obtain⟨⟨⟨-,Hg⟩,qG⟩,-⟩:=Zv;have c0:=xA he.keep gP xB xD;have c4:=xA he.keep DW xB xD;have qa:s.cs.length<=900000/\s.code.length<=900000/\s.pos<=900000:=by unfold MkS.sz at hs;omega
 have HC:=z7 (Xl p L s n w h (by omega) (by omega));have HH:=z7 h;have HE:=z7 he;have Le:=z7 Ql;have mY:=z7 Uy;have HL:=z7 hL;have MS:=z7 A6;have HKS:=z7 rJ;have HBC:=z7 D0;have US:=z7 qG;have mZ:=z7 ih;have HS:=z7 hs;obtain⟨M,hM⟩:∃ M,bs.len=M:=⟨_,rfl⟩;have HM:=z7 hM;rw[hM] at c4 Hg;obtain⟨k0,Cu⟩:∃ k0,s.num n=k0:=⟨_,rfl⟩;rw[Cu] at HC;have Oo:=z7 Cu;clear h he Ql Uy hL A6 rJ D0 qG ih hs hM gP qY jD La DW Lc Cu Gq;go_enter func121,ntmps121;go_wp2_with fail;refine HC.out.mono ?_;rintro e w1 ⟨rfl,L1,Vf,⟨QL,Yh⟩,uq⟩;clear HC;obtain⟨W,hW,Pp,JR⟩:=RF Vf k0 w.heap.size uq.size;have c4:=uq.cell (a:=⟨b0,4,none⟩) c4 (fun q=>by have:=HH.out.lo _ q;have:=HE.out.hB;simp only at *;omega);have c4a:=fun o1 o2 o3 o4=>xQ (xQ (xQ (xQ c4 o1) o2) o3) o4
 obtain⟨R,hR⟩:∃ R,MkS.kS bs (s.const n) [k0]=R:=⟨_,rfl⟩;have HR:=z7 hR;have z1:=(vq s n).1;go_wp2_with fail;rw[←hW];obtain⟨i4,hi4⟩:∃ i4,w1.heap.size+1=i4:=⟨_,rfl⟩;obtain⟨pb,mH⟩:∃ pb,w1.heap.size+3=pb:=⟨_,rfl⟩;obtain⟨mb,Ef⟩:∃ mb,w1.heap.size+2=mb:=⟨_,rfl⟩;rw[hi4,show i4+1+1=pb by omega];go_loopw [24] (fun iv wr=>∃ i us xs r s1 L2 acc kv done pre,iv = .int .i64 (i:Nat)/\i<=M/\xY lo hi w0 xs r/\r.ux=true/\us.length=i*3/\ws=us++xs/\i+r.len=M/\bs.keys=pre++r.keys/\done=pre.filter (· ≠ qy) /\
  uz p L2 s1 wr/\(L2.q=L.q/\L2.B=L.B)/\Fr (L.has p) (L2.has p) w wr/\ZK w.heap.size p i4 pb mb kv acc done L2 wr/\MkS.kS r s1 acc=R/\done.length<=i/\(acc.length=done.length+1/\∀ x∈acc,x<=900000)/\s1.sz+r.keys.length<=899990) (fun iv _=>M - (intOf iv).toNat)
 case atStart =>
  rw[hi4,mH,Ef] at Pp;exact⟨0,[],ws,bs,s.const n,L1,[k0],_,[],[],rfl,zY _,mY.out,HL.out,rfl,rfl,by have:=HM.out;omega,rfl,rfl,Vf.fr JR (fun _ q=>q.elim),⟨QL,Yh⟩,uq.trans (JR.wide (fun _ q=>q.elim)),Pp,HR.out,zg _,⟨rfl,by have:=BA s n;have:=Oo.out;simp;omega⟩,by have:=HS.out;have:=Fo.Yu bs;omega⟩
 case round =>
  clear hW Pp JR Vf uq c4 c4a hR;obtain⟨i,us,xs,r,s1,L2,acc,kv,done,pre,rfl,hiM,gO,Zj,VY,VV,j5,Ua,Hc,jC,⟨j4,Ki⟩,vG,rO,jH,uA,⟨qz,hax⟩,uF⟩:=hrel;have HAX:=z7 hax;have im:=z7 qz;have yu9:acc.length<=i+1:=by omega
  clear hax qz;have Cy:Yq lo hi w0 L2.B wr:=by rw[Ki];exact HE.out.fr vG HH.out.lo
  have Y8:=z7 jC;have tW:=z7 Cy;have dY:=z7 vG;have A7:=z7 rO;have dP:=z7 jH;have HLR:=z7 Zj;have Cz:=z7 VY;have TH:=z7 VV;have Yp:=z7 j5;have Cq:=z7 Ua;have HDN:=z7 Hc;have gQ:=z7 uF;by_cases xC:i<M
  ·cases r with
   | nil=>exfalso;simp[Fo.len] at j5;omega
   | text t r=>cases Zj
   | hash r=>cases Zj
   | put n a r=>cases Zj
   | num n a r=>cases Zj
   | br n a fo of cl bs r=>cases Zj
   | ug k1 a0 m0 r0 =>
    obtain⟨Ol,ma,mc,ms,rfl,Xu,Ww,UT⟩:=gO;obtain⟨g2,o2,rfl,e0,e1,e2⟩:=Qm Cy.keep Le.out VY VV;have QU:=z7 UT;have k3:(i:Int)<(M:Int):=by omega
    have k4:decide ((i:Int)<(M:Int))=true:=by simp;omega
    clear jC Cy vG jH Zj VY VV Xu Ww UT j5 Ua Hc uF;have MT:Fr xN xN wr (wr.alloc (.cells #[xk k1,.int .i64 (a0:Nat),.slice ma m0.len mc] 183)):=(Fr.refl _ _).alloc _;have MW:=A7.out.al MT (fun _ q=>q.elim);have HSA:=z7 MW;have On:=z7 (dY.out.trans (MT.wide (fun _ q=>q.elim)));have HMA:=z7 (Y8.out.fr MT (fun _ q=>q.elim));have MN:=Yp.out;simp only[Fo.len] at MN;have MA:=gQ.out;simp only[Fo.keys,zP] at MA;by_cases hko:k1=qy
    ·have kq:(k1==[111,116,104,101,114])=true:=by rw[hko];decide
     have HKO:=z7 hko;clear MT MW rO hko;go_wp2;go_roundw
     case rel =>
      refine⟨i+1,us++[xk k1,.int .i64 (a0:Nat),.slice ma m0.len mc],Ol,r0,s1,L2,acc,kv,done,pre++[k1],by go_num,by omega,QU.out,HLR.out,by simp[Cz.out];omega,by rw[TH.out];simp,by omega,by rw[Cq.out];simp[Fo.keys],by rw[HDN.out,zi];simp[HKO.out],HMA.out,⟨j4,Ki⟩,On.out,HSA.out,?_,by omega,⟨im.out,HAX.out⟩,by omega⟩;have:=dP.out;rw[MkS.kS,if_pos HKO.out] at this;exact this
     case measure=>simp only[intOf];omega
    ·have kq:(k1==[111,116,104,101,114])=false:=by simpa[qy] using hko
     have HKO:=z7 hko;have hkb:k1∈bs.keys:=by rw[Cq.out];simp[Fo.keys]
     have Ck:k1 ∉ done:=by
      rw[HDN.out];intro q;have h1:=MS.out;rw[Cq.out] at h1;exact(zn.1 h1).2.2 k1 (zw.1 q).1 k1 (by simp[Fo.keys]) rfl
     have mL:=(HKS.out k1 hkb).1;obtain⟨dn,hdn⟩:∃ dn,done.length=dn:=⟨_,rfl⟩;have mM:=MW.mp.len;obtain⟨wp,Yt,Xm,KK⟩:=MW.mp.put k1 (by omega) done.length (by omega) (by omega) (by unfold kg;rw[if_neg Ck]);have pmA:=MW.pm;have KH:=z7 (MW.key Ck Xm KK);have TI:Fr (fun g=>g=mb) (fun g=>g=mb) (wr.alloc (.cells #[xk k1,.int .i64 (a0:Nat),.slice ma m0.len mc] 183)) wp:=⟨KK.os,KK.tape,KK.output,KK.size,fun k hk hn=>KK.block k hk (fun e=>hn (zv e)),fun _ q => .inl q⟩;rw[hdn] at mM Yt uA;have ir:=z7 TI;have HGP:=z7 (show wp.cell? ⟨wr.heap.size,0,none⟩=some (xk k1) from TI.cell (xu _ _ _ _ _) (fun e=>by have:=A7.out.lt.2.2;simp only at e;omega));clear MT MW rO TI Xm KK hko;have Ma:=HMA.out.fr ir.out (by rintro g rfl;exact A7.out.out.2.2.1);have zax:s1.cs.length<=1000000:=by unfold MkS.sz at MA;omega
     have TE:=z7 (Xl p L2 s1 k1 wp.drew Ma.drew (by omega) zax);have He:=z7 Ma;obtain⟨kn,DJ⟩:∃ kn,s1.num k1=kn:=⟨_,rfl⟩;rw[DJ] at TE;have Ti:=z7 DJ;have HHL:=z7 (show Fr (L.has p) (L2.has p) w wp from On.out.over ir.out (by rintro g rfl;exact .inr A7.out.lo.2.2.1));obtain⟨ac,cc,rfl⟩:=xZ KH.out.row;have k3c:=KH.out.k3;have kec:=HGP.out;have neb:¬L2.has p wr.heap.size:=fun q=>by have:=Y8.out.lt q;omega
     obtain⟨an,han⟩:∃ an,acc.length=an:=⟨_,rfl⟩;rw[han] at k3c;have yu9:an<=i+1:=by omega
     have vE:=KH.out.row;rw[show qq wp (.slice ac acc.length cc) acc=wp.ownsRow 0 3 1 (.slice ac acc.length cc) acc.length (Z2 acc) from rfl,han] at vE;have qV:=z7 vE;have HAN:=z7 han;clear Ma zax DJ vE han;go_wp2_with fail;clear Yt mM pmA;refine rk (fun W':World=>W'.cell? ⟨i4,3,none⟩=some (.slice ac an cc)/\W'.cell? ⟨wr.heap.size,0,none⟩=some (xk k1)) 9 [0,1,2,3,4] 5 ⟨k3c,kec⟩ ?_;(iterate 5 (refine ty ?_;try simp only[pl]))
     refine xq ?_;refine xI 5 (by kernel_rfl) rfl (fun J hJ=>?_);go_simp;refine TE.out.mono ?_;rintro e w5 ⟨rfl,L3,Jg,⟨X3,D9⟩,Jf⟩;have Jf:=Jf.und;have k5:=Jf.cell k3c KH.out.out.1;have e5:=Jf.cell kec neb;have Hl:=KH.out.fr Jf;refine hJ.out _ _ ⟨k5,e5⟩ fun _=>?_
     clear hJ J;refine xI 6 (by kernel_rfl) rfl (fun J hJ=>?_);go_simp;refine hJ.out _ _ ⟨xQ k5 _,xQ e5 _⟩ fun _=>?_
     clear hJ J;refine xI 7 (by kernel_rfl) rfl (fun J hJ=>?_);rw[if_pos (by rfl)];refine Yr QC [_] 1 (Jf.own qV.out (fun g hg=>KH.out.out.2.2.2 g (by rw[HAN.out];exact hg))) (by omega) ?_;intro v6 w6 QK ZU;rw[HAN.out] at Hl;have V3:qq w6 v6 (acc++[kn]):=by
      show World.ownsRow _ _ _ _ _ (acc++[kn]).length _;rw[zN,HAN.out];simpa[Z2] using QK
     have z6:=(ZU.frozen (a:=⟨i4,3,none⟩) Hl.lt.1 Hl.ne.2.2.2.1).trans (Hl.z 3);have mN:=z7 (Hl.num V3 ZU (fun g hg=>Jg.lt hg) (zX dY.out.size (zX (by simp) (zX ir.out.size Jf.size))));have HM6:=z7 (Jg.fr ZU (fun g hg=>Hl.out.2.2.2 g hg));have HF6:=z7 ((HHL.out.trans Jf).over ZU (fun g hg => .inr (Hl.lo.2.2.2 g hg)));have k6:=ZU.cell k5 Hl.ne.2.2.2.1;have hbo:¬xX (.slice ac an cc) wr.heap.size:=fun q=>by
      have h1:=A7.out.row;have h2:=KH.out.ne;have:=uS A7.out.row (g:=wr.heap.size) (by rw[HAN.out];exact q);omega
     have e6:=ZU.cell e5 hbo;obtain⟨a6,c6,rfl⟩:=xZ QK;clear Hl V3 QK;go_simp;refine hJ.out _ _ ⟨k6,e6⟩ fun _=>?_
     clear hJ J;refine kx [8] 1 rfl (by intro _ _ d _ _ h;cases d<;>exact h) (by kernel_rfl) (by kernel_rfl) ⟨k6,e6⟩ ?_;refine ty ?_;try simp only[pl]
     refine xq ?_;refine xw 9 (by kernel_rfl) (by kernel_rfl) rfl (fun J hJ=>?_);go_simp;refine hJ.out _ _ ?_;clear hJ J;refine vz (by kernel_rfl) ?_ _;have fst:∀ u,Fr (fun g=>g=i4) (fun g=>g=i4) w6 (w6.setCell ⟨i4,3,none⟩ u):=fun u=>(Fr.refl _ _).set _ (.inl rfl)
     have HFS:=z7 (fst (.slice a6 (an+1) c6));have HLO:=z7 A7.out.lo;have HOU:=z7 (show ¬L3.has p i4 from mN.out.out.1);clear Jf ZU Jg k5 e5 k6 e6 fst;go_wp2;go_roundw
     case rel =>
      refine⟨i+1,us++[xk k1,.int .i64 (a0:Nat),.slice ma m0.len mc],Ol,r0,s1.const k1,L3,acc++[kn],_,done++[k1],pre++[k1],by go_num,by omega,QU.out,HLR.out,by simp[Cz.out];omega,by rw[TH.out];simp,by omega,by rw[Cq.out];simp[Fo.keys],?_,HM6.out.fr HFS.out (by rintro g rfl;exact HOU.out),⟨X3.trans j4,D9.trans Ki⟩,HF6.out.over HFS.out (by rintro g rfl;exact .inr HLO.out.1),mN.out,?_,by simp;omega,⟨by simp[im.out],?_⟩,?_⟩
      ·rw[HDN.out,zi];simp[HKO.out]
      ·have:=dP.out;rw[MkS.kS,if_neg HKO.out,Ti.out] at this;exact this
      ·intro x hx;rcases zS.1 hx with hx|hx
       ·exact HAX.out x hx
       ·simp at hx;have:=BA s1 k1;have:=Ti.out;unfold MkS.sz at MA;omega
      ·have:=(vq s1 k1).1;omega
     case measure=>simp only[intOf];omega
  ·have vu:r.keys=[]/\MkS.kS r s1 acc=(s1,acc):=by
    cases r with
    | nil=>exact⟨rfl,rfl⟩
    | text t r=>cases Zj
    | hash r=>cases Zj
    | put n a r=>cases Zj
    | num n a r=>cases Zj
    | br n a fo of cl bs r=>cases Zj
    | ug k0 a0 m0 r0=>exfalso;simp only[Fo.len] at j5;omega
   have gV:=z7 (show R=(s1,acc) from jH.symm.trans vu.2);have HK1:=z7 (show bs.keys=pre by rw[Ua,vu.1];simp);have Ck:qy ∉ done:=by rw[Hc];simp
   obtain⟨dn,hdn⟩:∃ dn,done.length=dn:=⟨_,rfl⟩;have mM:=rO.mp.len;obtain⟨wp,Yt,Xm,KK⟩:=rO.mp.put qy (by decide) done.length (by omega) (by omega) (by unfold kg;rw[if_neg Ck]);have pmA:=rO.pm;have KH:=z7 (rO.key Ck Xm KK);have TI:Fr (fun g=>g=mb) (fun g=>g=mb) wr wp:=⟨KK.os,KK.tape,KK.output,KK.size,fun k hk hn=>KK.block k hk (fun e=>hn (zv e)),fun _ q => .inl q⟩;rw[hdn] at mM Yt uA;rw[show xk qy = .string ⟨#[111,116,104,101,114]⟩ from rfl] at Yt;have yrq:dn<=100000:=by
    have h1:done.length<=bs.keys.length:=by rw[HK1.out,Hc];exact List.length_filter_le ..
    have:=Fo.Yu bs;have:=HS.out;omega
   have ir:=z7 TI;have k3:¬(i:Int)<(M:Int):=by omega
   have k4:decide ((i:Int)<(M:Int))=false:=by simp;omega
   have pmp:=KH.out.pm;have rH:=KH.out.mp.len;rw[zN,hdn] at rH;have yrk:∀ ty,(yy #[185] ty #[.map (some mb)]).run prog wp = .ok (.int .i64 ((dn+1:Nat):Int)) wp:=rH;obtain⟨wm,Da,mO,VO⟩:=Xr (dn+1) wp (by omega);have zau:=z7 hdn;clear jC Cy vG rO jH Zj VY VV j5 Ua Hc uF gO vu Xm KK TI rH hdn;rw[show((dn+1:Nat):Int)=(dn:Int)+1 by omega] at Da;have hS:=KH.out.al VO (fun _ q=>q.elim);obtain⟨ac,ak,QE⟩:=xZ hS.row;have q0:=hS.k0;have q1:=hS.k1;have q2:=hS.k2;have q3:=hS.k3;have q4:=hS.k4;have z4:=hS.z 4;have FP:=ir.out;have nmb:∀ g,L2.has p g->g≠mb:=by rintro g hg rfl;exact A7.out.out.2.2.1 hg
   have fm2:Fr (fun g=>g=mb) (fun g=>g=mb) wr wm:=FP.trans (VO.wide (fun _ q=>q.elim));have zaq:=Y8.out.fr fm2 (by rintro g rfl hg;exact nmb _ hg rfl);have hSt:∀ u,Fr (fun g=>g=i4) (fun g=>g=i4) wm (wm.setCell ⟨i4,4,none⟩ u):=fun u=>(Fr.refl _ _).set _ (.inl rfl)
   have FM:=z7 (zaq.fr (hSt (.slice (some ⟨wp.heap.size,0,none⟩) (dn+1) (dn+1))) (by rintro g rfl;exact A7.out.out.1));have HEE:=z7 ((tW.out.fr fm2 (by rintro g rfl;have:=A7.out.lo.2.2.1;have:=Y8.out.base;have:=HH.out.base;omega)).fr (hSt (.slice (some ⟨wp.heap.size,0,none⟩) (dn+1) (dn+1))) (by rintro g rfl;have:=A7.out.lo.1;have:=HH.out.base;omega));have UK:=z7 hS;have HFM:=z7 VO;have HKM:=z7 mO;rw[QE] at q3;clear hS FP fm2 zaq hSt VO mO nmb;go_wp2_with fail;obtain⟨wS,hwS⟩:∃ wS,wm.setCell ⟨i4,4,none⟩ (.slice (some ⟨wp.heap.size,0,none⟩) (dn+1) (dn+1))=wS:=⟨_,rfl⟩;rw[hwS] at FM HEE ⊢;have Dz:acc.length=dn+1:=by rw[im.out,zau.out]
   obtain⟨x0,zaj,D1⟩:∃ x0 zaj,acc=x0::zaj:=by
    cases acc with
    | nil=>simp at Dz
    | cons a b=>exact⟨a,b,rfl⟩
   have hS:=UK.out;have lwp:∀ g,L2.has p g->g<wp.heap.size:=fun g hg=>by have:=Y8.out.lt hg;have:=ir.out.size;omega
   have lkp:∀ g,xX kv g->g<wp.heap.size:=fun g hg=>uS KH.out.row hg
   have rk1:qq wS kv acc:=by rw[←hwS];exact ownsRow_setCell_other hS.row hS.ne.2.2.2.1 _
   have rt1:qq wS (.slice (some ⟨wp.heap.size,0,none⟩) (dn+1) (dn+1)) (z8 (dn+1) 0):=by
    rw[←hwS];exact ownsRow_setCell_other HKM.out (fun e=>by have:=KH.out.lt.1;have e2:wp.heap.size=i4:=zv e;omega) _
   have dI:OY ⟨10,s1.pos,0,acc,z8 (dn+1) 0⟩:=by
    refine⟨(by decide:10<12),by simp,fun x hx=>by have:=HAX.out x hx;omega,fun x hx=>by have:=List.eq_of_mem_replicate hx;omega,by show acc.length<=_;omega,?_⟩;show okB [110,42] acc.length (z8 (dn+1) 0).length=true;rw[Dz,List.length_replicate];simp[okB]
   have lX:(uU ⟨10,s1.pos,0,acc,z8 (dn+1) 0⟩).length<=1000000:=by
    rw[D1,Oe];rw[D1] at Dz;simp at Dz;omega
   have D7:=gQ.out;unfold MkS.sz at D7;have HP:=z7 (dL p L2 s1 10 0 acc (z8 (dn+1) 0) kv (.slice (some ⟨wp.heap.size,0,none⟩) (dn+1) (dn+1)) wS FM.out rk1 rt1 (fun g hg=>hS.out.2.2.2 g hg) (fun g hg q=>by cases hg;exact zZ _ (lwp _ q)) (fun g hg q=>by cases hg;exact zZ _ (lkp _ q))
    (fun g hg=>by
     have h1:=Y8.out.base;have h2:=HH.out.base;have h3:=dY.out.size;have h4:=ir.out.size;rcases hg with hg|hg
     ·have:=hS.lo.2.2.2 g hg;omega
     ·cases hg;show L2.B<=wp.heap.size;omega) dI HEE.out.fo HEE.out.g1 (by omega) (by omega) lX)
   have hSS:s1.put 10 0 acc (z8 (dn+1) 0)=MkS.ky n bs s:=by
    have h1:MkS.gD n bs s=(s1,acc):=by unfold MkS.gD;rw[Oo.out,HR.out,gV.out]
    unfold MkS.ky;rw[h1,Dz]
   have zag:s1.code.length=(MkS.gD n bs s).1.code.length:=by
    have h1:MkS.gD n bs s=(s1,acc):=by unfold MkS.gD;rw[Oo.out,HR.out,gV.out]
    rw[h1]
   have HSS:=z7 hSS;have HID:=z7 zag;have HTG:=z7 (show ∃ x,(s1.put 10 0 acc (z8 (dn+1) 0)).code[s1.code.length]? = some x/\x.tg.length=dn+1 from⟨_,by simp[MkS.put];rfl,by simp⟩);have FN:=z7 (show Fr (fun g=>g=i4) (fun g=>g=i4) wp wS from by rw[←hwS];exact(HFM.out.wide (fun _ q=>q.elim)).set _ (.inl rfl));clear rk1 rt1 dI lX D7 hSS zag hS lwp lkp D1 Dz;rw[QE] at HP;clear hwS;go_wp2_with fail;refine HP.out.mono ?_;rintro e w5 ⟨b,c,rfl,Ha,kZ,Lc,L3,Jg,⟨X3,D9⟩,Jf,nb5,nc5⟩;have Ph:=z7 Jg;have Pw:=z7 Jf;have Kn:=z7 Ha;clear HP Jg Jf Ha;go_wp2_with fail;obtain⟨wT,rP⟩:∃ wT,w5.alloc (.cells #[bV b c] 189)=wT:=⟨_,rfl⟩;have Mc:Fr xN xN w5 wT:=by rw[←rP];exact(Fr.refl _ _).alloc _
   have hcT:=xu w5 #[bV b c] 189 (0,0) 0;have hsT:wT.heap.size=w5.heap.size+1:=by rw[←rP];simp
   rw[rP] at hcT;have ne:=KH.out.ne;have lo:=KH.out.lo;have ou:=KH.out.out;have lt:=KH.out.lt;have swr:=dY.out.size;have swp:=ir.out.size;have swS:=FN.out.size;have sw5:=Pw.out.size;have hP:∀ g,g=pb\/g=mb->¬(L2.has p g\/xX kv g\/xX (.slice (some ⟨wp.heap.size,0,none⟩) (dn+1) (dn+1)) g):=by
    rintro g (rfl|rfl) (q|q|q)
    ·exact ou.2.1 q
    ·exact ne.2.2.2.2.1 q
    ·have:wp.heap.size=_:=zv q;omega
    ·exact ou.2.2.1 q
    ·exact ne.2.2.2.2.2 q
    ·have:wp.heap.size=_:=zv q;omega
   rw[←QE] at Pw;have h3:∀ g,g=pb\/g=mb->¬L3.has p g:=fun g hg q=>(Pw.out.fp g q).elim (hP g hg) (fun q=>by rcases hg with rfl|rfl<;>omega)
   have gS:Fr (fun g=>g=i4) (fun g=>g=i4) wp wS:=FN.out;have FA:Fr (L.has p) (L3.has p) w wT:=((((dY.out.over ir.out (by rintro g rfl;exact .inr lo.2.2.1)).over gS (by rintro g rfl;exact .inr lo.1)).tr Pw.out (by
    rintro g (q|q|q)
    ·exact dY.out.fp g q
    ·exact .inr (lo.2.2.2 g q)
    ·have:wp.heap.size=g:=zv q;exact .inr (by omega)))).trans (Mc.wide (fun _ q=>q.elim))
   have HI:UA wT.heap.size p s1.code.length w5.heap.size b c pb mb (done++[qy]).length (kg (done++[qy])) L3 wT:=by
    have l5:=Kn.out.lt;refine⟨hcT,Kn.out.fr Mc id id,Mc.cell (Pw.out.cell (gS.cell KH.out.pm ne.1.symm) (hP pb (.inl rfl))) id,((KH.out.mp.g.fr gS (fun e=>ne.2.1 e.symm)).fr Pw.out (hP mb (.inr rfl))).fr Mc id,
     ⟨fun q=>by have:=Ph.out.lt q;omega,nb5,nc5,h3 pb (.inl rfl),h3 mb (.inr rfl)⟩,⟨by omega,by omega,by omega,by omega,by omega⟩⟩
   obtain⟨x,hx,hxt⟩:=HTG.out;have hdd:done=bs.keys.filter (· ≠ qy):=by rw[HK1.out];exact HDN.out
   have rR:L3.B=L.B:=D9.trans Ki;have zaf:zzu wT.heap.size p (MkS.ky n bs s) bs.keys (MkS.dO n bs s) (.func (.func 162) #[] #[.pointer (some ⟨w5.heap.size,0,none⟩),.pointer (some ⟨pb,0,none⟩)]) (fun L W=>UA wT.heap.size p s1.code.length w5.heap.size b c pb mb (done++[qy]).length (kg (done++[qy])) L W):=by
    refine⟨⟨_,_,rfl,fun args w=>by first|rfl|simp[callFunc],fun L s' W key a ma mn mc hm hI hle qa Kt=>?_⟩,fun L L' W W' h hf=>h.fr hf,fun L W W' F F' h hf hF=>h.al hf hF,fun k x=>MkS.C3 n bs s k x⟩;obtain⟨e1,e2⟩:=A5 bs.keys key Kt;rw[←hdd] at e1 e2;rw[HSS.out] at hx;obtain⟨y,hy,hyt⟩:=hle _ x hx;have Z0:s'.code.length<=900000:=by unfold MkS.sz at qa;omega
    have:=A4 s' y key a ma mn mc hm hI (HKS.out key Kt).1 hy (by rw[e1,hyt,hxt];have:=zau.out;omega) (by rw[hyt,hxt];omega) Z0;rw[e1,HID.out] at this;exact this
   have RD:=z7 (Gu b0 n a 0 of cl bs p L3 (MkS.ky n bs s) (MkS.dO n bs s) _ _ wT mZ.out (by have:=Ph.out.fr Mc (fun _ q=>q.elim);rw[HSS.out] at this;exact this) (by rw[rR];exact HE.out.fr FA HH.out.lo) HND.out HL.out HBC.out US.out (by rw[HM.out];exact Hg)
    (by have:=(MkS.C6 n bs s).2;have:=Fo.Yu bs;have:=HS.out;omega) zaf HI)
   have On:=z7 FA;clear zaf HI FA hx Mc hcT;rw[rP];refine RD.out.mono ?_;rintro e w9 ⟨rfl,L4,hm9,⟨hq9,yuf⟩,hf9⟩;have HM9:=z7 hm9;have HF9:=z7 hf9;clear hm9 hf9 RD;go_wp2;refine bodyPost_ret (v := .tuple #[]) ?_ rfl ?_
   ·simp[results,results121,go_sem]
   exact⟨rfl,L4,HM9.out,⟨by rw[hq9,X3,j4],by rw[yuf,rR]⟩,On.out.trans HF9.out⟩
def Yi(S:Nat->Prop)(p:Nat)(W0:World)(L:dE)(W:World):Prop:=∀ g,S g->g<W0.heap.size/\¬L.has p g/\W.heap[g]? = W0.heap[g]?
section
variable {S:Nat->Prop} {p:Nat} {W0 W W':World} {L L':dE}
theorem Yi.lt(h:Yi S p W0 L W){g:Nat}(hg:S g):g<W.heap.size:=by
 obtain⟨a,_,c⟩:=h g hg;rw[Array.getElem?_eq_getElem a] at c;exact(zV.1 c).1
theorem Yi.fr(h:Yi S p W0 L W)(hf:Fr (L.has p) (L'.has p) W W'):Yi S p W0 L' W':=fun g hg=>by
 obtain⟨a,b,c⟩:=h g hg;have:=h.lt hg;exact⟨a,fun q=>(hf.fp g q).elim b (by omega),(hf.keep g this b).trans c⟩
theorem Yi.al{F F':Nat->Prop}(h:Yi S p W0 L W)(hf:Fr F F' W W')(hF:∀ g,F g->W0.heap.size<=g):Yi S p W0 L W':=fun g hg=>by
 obtain⟨a,b,c⟩:=h g hg;exact⟨a,b,(hf.keep g (h.lt hg) (fun q=>by have:=hF g q;omega)).trans c⟩
theorem Yi.cell(h:Yi S p W0 L W){a:Addr}{v:Value}(hc:W0.cell? a=some v)(hg:S a.block):W.cell? a=some v:=(World.cell?_of_block (h _ hg).2.2).trans hc
theorem Yi.u7(h:Yi S p W0 L W){i b c:Nat}(hl:kR W0 p i b c)(hb:S b)(hc:S c):kR W p i b c:=⟨h.cell hl.pb hb,h.cell hl.pc hc,(uE (h b hb).2.2).trans hl.tb,(uE (h c hc).2.2).trans hl.tc⟩
end
def fnR:Value->Option (DataW Unit×List MemPlace)
 | .func (.func k) first cap=>match first.toList,cap.toList with
  | [],[.pointer (some ⟨b,0,none⟩),.pointer (some ⟨c,0,none⟩)]=>if k=123 then some (.agg [.lit (.int .i64 (b:Nat)),.lit (.int .i64 (c:Nat))],[]) else none
  | _,_=>none
 | .nilFunc=>some (.agg [],[])
 | _=>none
theorem A8(b c:Nat):fnR (bV b c)=some (.agg [.lit (.int .i64 (b:Nat)),.lit (.int .i64 (c:Nat))],[]):=by simp[fnR,bV]
theorem mP{v:Value}{b c:Nat}{ps:List MemPlace}(h:fnR v=some (.agg [.lit (.int .i64 (b:Nat)),.lit (.int .i64 (c:Nat))],ps)):v=bV b c:=by
 unfold fnR at h;split at h
 ·next k first cap =>
  split at h
  ·next b' c' h1 h2 =>
   split at h
   ·next hk =>
    simp at h;obtain⟨⟨h3,h4⟩,_⟩:=h;have e1:first=#[]:=zh.1 h1;have e2:cap=#[.pointer (some ⟨b',0,none⟩),.pointer (some ⟨c',0,none⟩)]:=zh.1 h2;subst hk e1 e2;have h5:b'=b:=by omega
    have h6:c'=c:=by omega
    rw[h5,h6]
   ·cases h
  ·cases h
 ·simp at h
 ·cases h
def ZW(w:World)(b n:Nat)(f:Wd->Option (Nat×Nat)):Prop :=
 ∃ D:DataW Unit,w.ownsMap prog 9 fnR b n D/\∀ m:Wd,yv D (.string m)=(f m).isSome/\∀ x,f m=some x->D.atKey (.string m) (.agg []) = .agg [.lit (.int .i64 (x.1:Nat)),.lit (.int .i64 (x.2:Nat))]
theorem ZW.lt{w:World}{b n:Nat}{f:Wd->Option (Nat×Nat)}(h:ZW w b n f):b<w.heap.size:=by
 obtain⟨D,⟨es,clock,ho,_⟩,_⟩:=h;exact(zV.1 ho).1
theorem ZW.keep{w w':World}{b n:Nat}{f:Wd->Option (Nat×Nat)}(h:ZW w b n f)(hb:w'.heap[b]? = w.heap[b]?):ZW w' b n f:=by
 obtain⟨D,⟨es,clock,ho,rest⟩,h2⟩:=h;exact⟨D,⟨es,clock,hb.trans ho,rest⟩,h2⟩
theorem ZW.fr{w w':World}{F F':Nat->Prop}{b n:Nat}{f:Wd->Option (Nat×Nat)}(h:ZW w b n f)(hf:Fr F F' w w')(hb:¬F b):ZW w' b n f:=h.keep (hf.keep b h.lt hb)
theorem ZW.made(w:World):ZW (w.alloc (.map #[] 0)) w.heap.size 0 (fun _=>none):=⟨.map [],zL w _ _ _,fun m=>⟨rfl,fun x hx=>by cases hx⟩⟩
theorem ZW.look{w:World}{b n:Nat}{f:Wd->Option (Nat×Nat)}(h:ZW w b n f)(m:Wd)(hm:m.length<=5000000) :
  ∃ v,(Instr.lookup 298 (.map (some b)) (xk m) true).run prog w = .ok (.tuple #[v,.bool (f m).isSome]) w/\∀ x,f m=some x->v=bV x.1 x.2:=by
 obtain⟨D,h1,h3⟩:=h;obtain⟨v,ps,vB,hv⟩:=h1.look_ok (zG underlying9) underlying298 (z := .nilFunc) (by first|rfl|simp[go_sem]) (zd := .agg []) (zp:=[]) rfl
  (key:=xk m) (zU (s:=⟨m.toArray⟩) underlying9 (by rw[size_mk];unfold maxLen;omega))
 rw[toList_mk] at vB hv;rw[(h3 m).1] at vB;exact⟨v,vB,fun x hx=>mP (ps:=ps) (by rw[hv,(h3 m).2 x hx])⟩
theorem ZW.put{w:World}{b n:Nat}{f:Wd->Option (Nat×Nat)}(h:ZW w b n f)(m:Wd)(hm:m.length<=5000000)(x:Nat×Nat)(hn:n<=1000000000) :
  ∃ w',(zR 298 (.map (some b)) (xk m) (bV x.1 x.2)).run prog w = .ok () w'/\ZW w' b (n+1) (fun k=>if m=k then some x else f k)/\w.grownBy w' (some b):=by
 obtain⟨D,h1,h3⟩:=h;have hi:=h1.isMap;obtain⟨w',vB,xV,hg⟩:=h1.update (zG underlying9) underlying298 (by unfold maxLen;omega) (key:=xk m) (zU (s:=⟨m.toArray⟩) underlying9 (by rw[size_mk];unfold maxLen;omega)) (A8 x.1 x.2);rw[toList_mk] at xV;refine⟨w',vB,⟨_,xV,fun k=>?_⟩,hg⟩;by_cases hx:m=k
 ·subst hx;simp only[↓reduceIte];exact⟨by rw[zO hi (show zf (.string m) from trivial)];simp,fun y hy=>by cases hy;rw[zI hi (show zf (.string m) from trivial)]⟩
 ·simp only[hx,↓reduceIte];have vx:(Lit.string k) ≠ .string m:=fun q=>hx (by cases q;rfl)
  exact⟨by rw[zM vx];exact(h3 k).1,fun y hy=>by rw[zH vx];exact(h3 k).2 y hy⟩
def Xk(ks:List Wd)(k:Wd):Option Nat:=if k∈ks then some 1 else none
def Hm(ks:List Wd)(t:Nat)(key:Wd)(s:MkS)(c:Nat):MkS:=if QW.getD c []=key\/key=qy/\QW.getD c [] ∉ ks then s.u7 t c else s
structure RB(S:Nat->Prop)(p ab am hb hm tb b c idx na nh:Nat)(ks:List Wd)(fa:Wd->Option (Nat×Nat))(w:World):Prop where
 ca:w.cell? ⟨ab,0,none⟩=some (.map (some am))
 ma:ZW w am na fa
 ch:w.cell? ⟨hb,0,none⟩=some (.map (some hm))
 mh:kP 3 w hm nh (Xk ks)
 ct:w.cell? ⟨tb,0,none⟩=some (bV b c)
 l:kR w p idx b c
 na:ui w
 s:S ab/\S am/\S hb/\S hm/\S tb/\S b/\S c/\S 0
section
variable {S:Nat->Prop} {p ab am hb hm tb b c idx na nh:Nat} {ks:List Wd} {fa:Wd->Option (Nat×Nat)} {W0 W:World} {L L':dE}
theorem RB.at(h:RB S p ab am hb hm tb b c idx na nh ks fa W0)(hI:Yi S p W0 L W):RB S p ab am hb hm tb b c idx na nh ks fa W:=by
 obtain⟨s1,s2,s3,s4,s5,s6,s7,s8⟩:=h.s;exact⟨hI.cell h.ca s1,h.ma.keep (hI _ s2).2.2,hI.cell h.ch s3,h.mh.keep (hI _ s4).2.2,hI.cell h.ct s5,hI.u7 h.l s6 s7,fun j hj=>hI.cell (h.na j hj) s8,h.s⟩
theorem RE(s:MkS)(x:jf)(key:Wd)(a:Nat)(ma:Option Addr)(mn mc:Nat)(Da:uz p L s W)(h:RB S p ab am hb hm tb b c idx na nh ks fa W0)(hI:Yi S p W0 L W)(hk:key.length<=17)(hx:s.code[idx]? = some x)(hj:x.tg.length=6)(hs:s.sz<=900000)(hf:fa key=none) :
  Calls prog 164 #[.agg #[xk key,.int .i64 (a:Nat),.slice ma mn mc],.pointer (some ⟨ab,0,none⟩),.pointer (some ⟨hb,0,none⟩),.pointer (some ⟨tb,0,none⟩)] W (EL p L (MkS.Hj ks idx key s) W):=by
 obtain⟨A,hA⟩:∃ A,W.alloc (.cells #[xk key,.int .i64 (a:Nat),.slice ma mn mc] 183)=A:=⟨_,rfl⟩;have fA:Fr xN xN W A:=by rw[←hA];exact(Fr.refl _ _).alloc _
 have hIA:=hI.al fA (fun _ q=>q.elim);have RH:=h.at hIA;have A3:=Da.fr fA (fun _ q=>q.elim);have cA:=xu W #[xk key,.int .i64 (a:Nat),.slice ma mn mc] 183 (0,0) 0;obtain⟨v,V4,-⟩:=RH.ma.look key (by omega);rw[hf] at V4;have c1:=RH.ca;have n0:=RH.na 0 (by omega);have n1:=RH.na 1 (by omega);have n2:=RH.na 2 (by omega);have n3:=RH.na 3 (by omega);have n4:=RH.na 4 (by omega);have n5:=RH.na 5 (by omega);simp only[Zx,List.getD_cons_zero,List.getD_cons_succ] at n0 n1 n2 n3 n4 n5;have hmW:=fun {g:Nat} (hg:L.has p g)=>Da.lt hg
 have HI:=z7 hI;have HH:=z7 h;have HM:=z7 A3;have On:=z7 fA;have HIA:=z7 hIA;have HX:=z7 hx;obtain⟨R,hR⟩:∃ R,MkS.Hj ks idx key s=R:=⟨_,rfl⟩;rw[hR];have HR:=z7 (show(zE 6).foldl (Hm ks idx key) s=R from hR);subst hA;clear hI h Da fA hIA RH A3 hx hR hf;go_enter func164,ntmps164;go_wp2_with fail;go_loopw [20] (fun jv wr=>∃ j s',jv = .int .i64 (j:Nat)/\j<=6/\s'=(zE j).foldl (Hm ks idx key) s/\uz p L s' wr/\Fr (L.has p) (L.has p) W wr/\Yi S p W0 L wr/\s.le s'/\s'.sz=s.sz/\wr.cell? ⟨W.heap.size,0,none⟩=some (xk key)) (fun jv _=>6 - (intOf jv).toNat)
 case atStart=>exact⟨0,s,rfl,by omega,rfl,HM.out,On.out.wide (fun _ q=>q.elim),HIA.out,s.le_refl,rfl,cA⟩
 case round =>
  clear cA c1 V4 n0 n1 n2 n3 n4 n5;obtain⟨j,s',rfl,hj6,TL,iw,hf',l8,hle,qa,TM⟩:=hrel;have hP':=HH.out.at l8;have nW:¬L.has p W.heap.size:=fun q=>by have:=HM.out;have h2:=hmW q;omega
  obtain⟨y,hy,hyt⟩:=hle _ _ HX.out;have HS':=z7 TL;have HM':=z7 iw;have HF':=z7 hf';have HI':=z7 l8;have A9:=z7 hle;have fS:=z7 qa;by_cases xC:j<6
  ·obtain⟨t,ht⟩:∃ t,QW.getD j []=t:=⟨_,rfl⟩;have Hn:∀ W:World,(Instr.index 138 (.agg #[.string ⟨#[122,101,114,111]⟩,.string ⟨#[111,110,101]⟩,.string ⟨#[116,119,111]⟩,.string ⟨#[102,101,119]⟩,.string ⟨#[109,97,110,121]⟩,.string ⟨#[111,116,104,101,114]⟩]) (.int .i64 (j:Int))).run prog W = .ok (xk t) W:=by
    rw[←ht];match j,xC with
    | 0,_=>exact fun W=>by kernel_rfl
    | 1,_=>exact fun W=>by kernel_rfl
    | 2,_=>exact fun W=>by kernel_rfl
    | 3,_=>exact fun W=>by kernel_rfl
    | 4,_=>exact fun W=>by kernel_rfl
    | 5,_=>exact fun W=>by kernel_rfl
   have Jd:t.length<=5:=by
    rw[←ht];match j,xC with
    | 0,_=>decide
    | 1,_=>decide
    | 2,_=>decide
    | 3,_=>decide
    | 4,_=>decide
    | 5,_=>decide
   have ch:=hP'.ch;have ct:=hP'.ct;have V4:=hP'.mh.KZ QI t (by omega);have qs:=z7 (show(zE (j+1)).foldl (Hm ks idx key) s=Hm ks idx key s' j by rw[List.range_succ,List.foldl_append,←TL];rfl);have HCG:=z7 (show Hm ks idx key s' j=if t=key\/key=qy/\t ∉ ks then s'.u7 idx j else s' by unfold Hm;rw[ht]);have Z0:s'.code.length<=900000:=by unfold MkS.sz at qa hs;omega
   have TN:=z7 (UZ p L s' idx j b c y wr iw hP'.l hy (by omega) (by omega) (by omega));have k3:(j:Int)<6:=by omega
   clear iw hf' l8 hP' hle TL ht;by_cases Cj:t=key\/key=qy/\t ∉ ks
   ·have HG:=z7 (show(zE (j+1)).foldl (Hm ks idx key) s=s'.u7 idx j by rw[qs.out,HCG.out,if_pos Cj]);rcases (show t=key\/¬t=key/\key=qy/\t ∉ ks by by_cases q:t=key;exact .inl q;exact .inr ⟨q,Cj.resolve_left q⟩) with ha|⟨ha,hb,hc⟩
    ·have kA:(t==key)=true:=by simp[ha]
     clear ha Cj;go_wp2_with fail;refine TN.out.mono ?_;rintro e w3 ⟨rfl,KV,jw⟩;have FM:=z7 KV;have VB:=z7 jw;have zy2:=jw.cell TM nW;clear KV jw TN;go_wp2;go_roundw
     case rel=>exact⟨j+1,s'.u7 idx j,by go_num,by omega,HG.out.symm,FM.out,HF'.out.trans VB.out,HI'.out.fr VB.out,MkS.le_trans A9.out (s'.Zk _ _),by rw[gJ];exact fS.out,zy2⟩
     case measure=>simp only[intOf];omega
    ·have kA:(t==key)=false:=by simp[ha]
     have kB:(key==[111,116,104,101,114])=true:=by rw[hb];decide
     rw[show Xk ks t=none from if_neg hc] at V4;clear ha hb hc Cj;go_wp2_with fail;refine TN.out.mono ?_;rintro e w3 ⟨rfl,KV,jw⟩;have FM:=z7 KV;have VB:=z7 jw;have zy2:=jw.cell TM nW;clear KV jw TN;go_wp2;go_roundw
     case rel=>exact⟨j+1,s'.u7 idx j,by go_num,by omega,HG.out.symm,FM.out,HF'.out.trans VB.out,HI'.out.fr VB.out,MkS.le_trans A9.out (s'.Zk _ _),by rw[gJ];exact fS.out,zy2⟩
     case measure=>simp only[intOf];omega
   ·have HG:=z7 (show(zE (j+1)).foldl (Hm ks idx key) s=s' by rw[qs.out,HCG.out,if_neg Cj]);have ha:¬t=key:=fun q=>Cj (.inl q)
    have kA:(t==key)=false:=by simp[ha]
    by_cases hb:key=qy
    ·have hc:t∈ks:=Classical.byContradiction fun q=>Cj (.inr ⟨hb,q⟩)
     have kB:(key==[111,116,104,101,114])=true:=by rw[hb];decide
     rw[show Xk ks t=some 1 from if_pos hc] at V4;clear ha hb hc Cj;go_wp2;go_roundw
     case rel=>exact⟨j+1,s',by go_num,by omega,HG.out.symm,HM'.out,HF'.out,HI'.out,A9.out,fS.out,TM⟩
     case measure=>simp only[intOf];omega
    ·have kB:(key==[111,116,104,101,114])=false:=by simpa[qy] using hb
     clear ha hb Cj;go_wp2;go_roundw
     case rel=>exact⟨j+1,s',by go_num,by omega,HG.out.symm,HM'.out,HF'.out,HI'.out,A9.out,fS.out,TM⟩
     case measure=>simp only[intOf];omega
  ·have dY:=z7 (show s'=R by rw[TL,show j=6 by omega];exact HR.out);have k3:¬(j:Int)<6:=by omega
   clear iw hf' l8 hP' hle TL;go_wp2;refine bodyPost_ret (v := .tuple #[]) ?_ rfl ?_
   ·simp[results,results164,go_sem]
   rw[←dY.out];exact⟨rfl,HM'.out,HF'.out⟩
theorem RI(s:MkS)(x:jf)(key:Wd)(a:Nat)(ma:Option Addr)(mn mc:Nat)(b1 c1 i1:Nat)(Da:uz p L s W)(h:RB S p ab am hb hm tb b c idx na nh ks fa W0)(hI:Yi S p W0 L W)(hk:key.length<=17)(hl:kR W0 p i1 b1 c1)(xB:S b1)(qY:S c1)(hx:s.code[i1]? = some x)(hj:x.tg.length=1)(hs:s.sz<=900000)(hf:fa key=some (b1,c1)) :
  Calls prog 164 #[.agg #[xk key,.int .i64 (a:Nat),.slice ma mn mc],.pointer (some ⟨ab,0,none⟩),.pointer (some ⟨hb,0,none⟩),.pointer (some ⟨tb,0,none⟩)] W (EL p L (s.u7 i1 0) W):=by
 obtain⟨A,hA⟩:∃ A,W.alloc (.cells #[xk key,.int .i64 (a:Nat),.slice ma mn mc] 183)=A:=⟨_,rfl⟩;have fA:Fr xN xN W A:=by rw[←hA];exact(Fr.refl _ _).alloc _
 have hIA:=hI.al fA (fun _ q=>q.elim);have RH:=h.at hIA;have A3:=Da.fr fA (fun _ q=>q.elim);have cA:=xu W #[xk key,.int .i64 (a:Nat),.slice ma mn mc] 183 (0,0) 0;obtain⟨v,V4,hv⟩:=RH.ma.look key (by omega);obtain rfl:=hv _ hf;rw[hf] at V4;have c1':=RH.ca;have Z0:s.code.length<=900000:=by unfold MkS.sz at hs;omega
 have TN:=z7 (UZ p L s i1 0 b1 c1 x A A3 (hIA.u7 hl xB qY) hx (by omega) (by omega) (by omega));have On:=z7 fA;subst hA;clear hI h Da fA hIA RH A3 hx hf hv hl;go_enter func164,ntmps164;go_wp2_with fail;refine TN.out.mono ?_;rintro e w3 ⟨rfl,KV,jw⟩;have FM:=z7 KV;have VB:=z7 jw;clear KV jw TN;go_wp2;refine bodyPost_ret (v := .tuple #[]) ?_ rfl ?_
 ·simp[results,results164,go_sem]
 exact⟨rfl,FM.out,(On.out.wide (fun _ q=>q.elim)).trans VB.out⟩
end
abbrev Xj:=List (Wd×Nat×Nat×Nat)
def Xj.fn(al:Xj)(k:Wd):Option (Nat×Nat):=(al.lookup k).map (·.2)
def Xj.ix(al:Xj):List (Wd×Nat):=al.map fun e=>(e.1,e.2.1)
theorem De:∀ (al:Xj) (k:Wd),al.ix.lookup k=(al.lookup k).map (·.1)
 | [],_=>rfl
 |(k1,i,bc)::al,k=>by
  have:=De al k;simp only[Xj.ix,List.map_cons,zD] at this ⊢;split<;>simp_all
theorem Gk:∀ (al:Xj) (k:Wd) (x:Nat×Nat×Nat),al.lookup k=some x->(k,x)∈al
 | [],_,_,h=>by cases h
 |(k1,y)::al,k,x,h=>by
  simp only[zD] at h;split at h
  ·next hk=>cases h;rw[eq_of_beq hk];exact ze
  ·exact zc _ (Gk al k x h)
theorem Ho(al:Xj)(m k:Wd)(x:Nat×Nat×Nat)(h:∀ e∈al,e.1≠m):(al++[(m,x)]).lookup k=if m=k then some x else al.lookup k:=by
 induction al with
 | nil =>
  simp only[List.nil_append,zD,List.lookup_nil];by_cases hk:m=k
  ·simp[hk]
  ·rw[if_neg hk,show(k==m)=false by simpa using fun e=>hk e.symm]
 | cons a al ih =>
  obtain⟨k1,y⟩:=a;have h1:k1≠m:=h (k1,y) ze;have ih:=ih (fun e he=>h e (zc _ he));simp only[List.cons_append,zD];by_cases hk:k=k1
  ·subst hk;rw[if_neg (fun e=>h1 e.symm)];simp
  ·rw[show(k==k1)=false by simpa using hk];exact ih
theorem Me{ks:List Wd}{k:Wd}:(fun x=>if k=x then some 1 else Xk ks x)=Xk (ks++[k]):=by
 funext x;unfold Xk;by_cases hx:k=x
 ·simp[hx]
 ·have:¬x=k:=fun e=>hx e.symm
  simp[hx,this]
structure Yk(N p ab am hb hm:Nat)(pre:List Wd)(al:Xj)(s:MkS)(L:dE)(w:World):Prop where
 ca:w.cell? ⟨ab,0,none⟩=some (.map (some am))
 ma:ZW w am al.length al.fn
 ch:w.cell? ⟨hb,0,none⟩=some (.map (some hm))
 mh:kP 3 w hm pre.length (Xk pre)
 lo:N<=ab/\N<=am/\N<=hb/\N<=hm
 out:¬L.has p ab/\¬L.has p am/\¬L.has p hb/\¬L.has p hm
 ne:ab≠am/\ab≠hm/\am≠hb/\am≠hm/\hb≠hm
 lp:∀ e∈al,kR w p e.2.1 e.2.2.1 e.2.2.2/\¬L.has p e.2.2.1/\¬L.has p e.2.2.2/\∃ y,s.code[e.2.1]? = some y/\y.tg.length=1
 ks:∀ e∈al,e.1∈pre
section
variable {N p ab am hb hm:Nat} {pre:List Wd} {al:Xj} {s s':MkS} {L L':dE} {w w':World}
theorem Yk.lt(h:Yk N p ab am hb hm pre al s L w):ab<w.heap.size/\am<w.heap.size/\hb<w.heap.size/\hm<w.heap.size:=⟨zx w _ h.ca,h.ma.lt,zx w _ h.ch,h.mh.lt⟩
theorem Yk.fr(h:Yk N p ab am hb hm pre al s L w)(hf:Fr (L.has p) (L'.has p) w w')(hs:s.le s'):Yk N p ab am hb hm pre al s' L' w':=by
 obtain⟨o1,o2,o3,o4⟩:=h.out;obtain⟨l1,l2,l3,l4⟩:=h.lt;have no:∀ g,¬L.has p g->g<w.heap.size->¬L'.has p g:=fun g a b q=>(hf.fp g q).elim a (by omega)
 refine⟨hf.cell h.ca o1,h.ma.fr hf o2,hf.cell h.ch o3,h.mh.fr hf o4,h.lo,⟨no _ o1 l1,no _ o2 l2,no _ o3 l3,no _ o4 l4⟩,h.ne,fun e he=>?_,h.ks⟩;obtain⟨a,b,c,y,d,e2⟩:=h.lp e he;obtain⟨y2,d2,e3⟩:=hs _ y d;exact⟨a.fr hf b c,no _ b a.lt.1,no _ c a.lt.2,y2,d2,e3.trans e2⟩
theorem Yk.al'{F F':Nat->Prop}(h:Yk N p ab am hb hm pre al s L w)(hf:Fr F F' w w')(hF:∀ g,F g->w.heap.size<=g):Yk N p ab am hb hm pre al s L w':=by
 obtain⟨l1,l2,l3,l4⟩:=h.lt;have nf:∀ g,g<w.heap.size->¬F g:=fun g a q=>by have:=hF g q;omega
 refine⟨hf.cell h.ca (nf _ l1),h.ma.fr hf (nf _ l2),hf.cell h.ch (nf _ l3),h.mh.fr hf (nf _ l4),h.lo,h.out,h.ne,fun e he=>?_,h.ks⟩;obtain⟨a,b,c,d⟩:=h.lp e he;exact⟨a.fr hf (nf _ a.lt.1) (nf _ a.lt.2),b,c,d⟩
theorem Yk.uk{m:Nat}(h:Yk N p ab am hb hm pre al s L w)(hg:w.grownBy w' (some m))(hm:Vj w m=none):∀ e∈al,kR w' p e.2.1 e.2.2.1 e.2.2.2/\¬L.has p e.2.2.1/\¬L.has p e.2.2.2/\∃ y,s.code[e.2.1]? = some y/\y.tg.length=1:=fun e he=>by
 obtain⟨a,b,c,d⟩:=h.lp e he;have hf:Fr (fun k=>k=m) (fun k=>k=m) w w':=⟨hg.os,hg.tape,hg.output,hg.size,fun k hk hn=>hg.block k hk (fun e=>hn (zv e)),fun _ q => .inl q⟩;exact⟨a.fr hf (fun e=>by have:=a.tb;rw[e,hm] at this;cases this) (fun e=>by have:=a.tc;rw[e,hm] at this;cases this),b,c,d⟩
theorem Az{w:World}{b n:Nat}{f:Wd->Option (Nat×Nat)}(h:ZW w b n f):Vj w b=none:=by
 obtain⟨D,⟨es,clock,ho,_⟩,_⟩:=h;simp[Vj,ho]
theorem Yk.key{k:Wd}(h:Yk N p ab am hb hm pre al s L w)(jC:kP 3 w' hm (pre.length+1) (fun x=>if k=x then some 1 else Xk pre x))(hg:w.grownBy w' (some hm)):Yk N p ab am hb hm (pre++[k]) al s L w':=by
 have hf:Fr (fun k=>k=hm) (fun k=>k=hm) w w':=⟨hg.os,hg.tape,hg.output,hg.size,fun k hk hn=>hg.block k hk (fun e=>hn (zv e)),fun _ q => .inl q⟩;obtain⟨n1,n2,n3,n4,n5⟩:=h.ne;rw[Me] at jC;exact⟨hf.cell h.ca n2,h.ma.fr hf n4,hf.cell h.ch n5,by simpa using jC,h.lo,h.out,h.ne,h.uk hg (Y7 h.mh),fun e he=>List.mem_append_left _ (h.ks e he)⟩
theorem Yk.ask{k:Wd}{i b c:Nat}{y:jf}(h:Yk N p ab am hb hm pre al s L w)(hk:k∈pre)(hn:∀ e∈al,e.1≠k)(jC:ZW w' am (al.length+1) (fun x=>if k=x then some (b,c) else al.fn x))(hg:w.grownBy w' (some am))
  (hl:kR w p i b c) (ob:¬L.has p b) (oc:¬L.has p c) (hy:s.code[i]? = some y) (h1:y.tg.length=1):Yk N p ab am hb hm pre (al++[(k,i,b,c)]) s L w':=by
 have hf:Fr (fun k=>k=am) (fun k=>k=am) w w':=⟨hg.os,hg.tape,hg.output,hg.size,fun k hk hn=>hg.block k hk (fun e=>hn (zv e)),fun _ q => .inl q⟩;obtain⟨n1,n2,n3,n4,n5⟩:=h.ne;have LH:=Az h.ma;have e1:(fun x=>if k=x then some (b,c) else al.fn x)=Xj.fn (al++[(k,i,b,c)]):=by
  funext x;unfold Xj.fn;rw[Ho al k x _ hn];split<;>rfl
 rw[e1] at jC;refine⟨hf.cell h.ca n1,by simpa using jC,hf.cell h.ch n3.symm,h.mh.fr hf (fun e=>n4 e.symm),h.lo,h.out,h.ne,fun e he=>?_,fun e he=>?_⟩
 ·rcases zS.1 he with he|he
  ·exact h.uk hg LH e he
  ·simp at he;subst he;exact⟨hl.fr hf (fun e=>by have:=hl.tb;rw[e,LH] at this;cases this) (fun e=>by have:=hl.tc;rw[e,LH] at this;cases this),ob,oc,y,hy,h1⟩
 ·rcases zS.1 he with he|he
  ·exact h.ks e he
  ·simp at he;subst he;exact hk
end
def plG(ks:List Wd)(ix:List (Wd×Nat))(t:Nat)(k:Wd)(x:MkS):MkS :=
 match ix.lookup k with
 | some i=>x.u7 i 0
 | none=>MkS.Hj ks t k x
def Mi(ab am hb hm tb b c:Nat)(al:Xj)(g:Nat):Prop:=g=ab\/g=am\/g=hb\/g=hm\/g=tb\/g=b\/g=c\/g=0\/∃ e∈al,g=e.2.2.1\/g=e.2.2.2
theorem mR{N p ab am hb hm idx b c:Nat}{pre:List Wd}{al:Xj}{s:MkS}{L:dE}{w wT:World}{x:jf}(h:Yk N p ab am hb hm pre al s L w)(hl:kR w p idx b c)(ob:¬L.has p b)(oc:¬L.has p c)(hna:ui w)(hB:0<L.B)(Da:uz p L s w)
  (hx:s.code[idx]? = some x) (rY:x.tg.length=6) (hk:∀ k∈pre,k.length<=17) (hT:w.alloc (.cells #[bV b c] 189)=wT) :
  zzu wT.heap.size p s pre (plG pre al.ix idx) (.func (.func 164) #[] #[.pointer (some ⟨ab,0,none⟩),.pointer (some ⟨hb,0,none⟩),.pointer (some ⟨w.heap.size,0,none⟩)]) (fun L W=>Yi (Mi ab am hb hm w.heap.size b c al) p wT L W)/\Yi (Mi ab am hb hm w.heap.size b c al) p wT L wT:=by
 have Mc:Fr xN xN w wT:=by rw[←hT];exact(Fr.refl _ _).alloc _
 have hcT:=xu w #[bV b c] 189 (0,0) 0;rw[hT] at hcT;have hsT:wT.heap.size=w.heap.size+1:=by rw[←hT];simp
 have hp:=h.al' Mc (fun _ q=>q.elim);obtain⟨l1,l2,l3,l4⟩:=h.lt;obtain⟨o1,o2,o3,o4⟩:=h.out;have ll:=hl.lt;have Uy:=Da.base;refine⟨⟨⟨_,_,rfl,fun args w=>by first|rfl|simp[callFunc],fun L' s' W key a ma mn mc iw hI hle qa Kt=>?_⟩,fun L L' W W' h hf=>h.fr hf,fun L W W' F F' h hf hF=>h.al hf hF,fun k x=>?_⟩,fun g hg=>?_⟩
 ·have hP:RB (Mi ab am hb hm w.heap.size b c al) p ab am hb hm w.heap.size b c idx al.length pre.length pre al.fn wT :=
   ⟨hp.ca,hp.ma,hp.ch,hp.mh,hcT,hl.fr Mc id id,fun j hj=>Mc.cell (hna j hj) id,.inl rfl,.inr (.inl rfl),.inr (.inr (.inl rfl)),.inr (.inr (.inr (.inl rfl))),.inr (.inr (.inr (.inr (.inl rfl)))),.inr (.inr (.inr (.inr (.inr (.inl rfl))))),.inr (.inr (.inr (.inr (.inr (.inr (.inl rfl)))))),.inr (.inr (.inr (.inr (.inr (.inr (.inr (.inl rfl))))))) ⟩
  have mL:=hk key Kt;unfold plG;rw[De]
  cases qz:al.lookup key with
  | none =>
   obtain⟨y,hy,hyt⟩:=hle _ x hx;exact RE s' y key a ma mn mc iw hP hI mL hy (hyt.trans rY) qa (by unfold Xj.fn;rw[qz];rfl)
  | some e =>
   obtain⟨i1,b1,c1⟩:=e;have zy3:=Gk al key _ qz;obtain⟨q1,q2,q3,y0,q4,q5⟩:=hp.lp _ zy3;obtain⟨y,hy,hyt⟩:=hle _ y0 q4;exact RI s' y key a ma mn mc b1 c1 i1 iw hP hI mL q1 (.inr (.inr (.inr (.inr (.inr (.inr (.inr (.inr ⟨_,zy3,.inl rfl⟩)))))))) (.inr (.inr (.inr (.inr (.inr (.inr (.inr (.inr ⟨_,zy3,.inr rfl⟩)))))))) hy (hyt.trans q5) qa (by unfold Xj.fn;rw[qz];rfl)
 ·unfold plG;split
  ·exact⟨x.Zk _ _,gJ _ _ _⟩
  ·exact MkS.Wp _ _ _ _
 ·have Ex:∀ k,L.has p k->L.B<=k:=Da.lo;rcases hg with rfl|rfl|rfl|rfl|rfl|rfl|rfl|rfl|⟨e,he,rfl|rfl⟩
  ·exact⟨by omega,o1,rfl⟩
  ·exact⟨by omega,o2,rfl⟩
  ·exact⟨by omega,o3,rfl⟩
  ·exact⟨by omega,o4,rfl⟩
  ·exact⟨by omega,fun q=>by have:=Da.lt q;omega,rfl⟩
  ·exact⟨by omega,ob,rfl⟩
  ·exact⟨by omega,oc,rfl⟩
  ·exact⟨by omega,fun q=>by have:=Ex _ q;omega,rfl⟩
  ·obtain⟨q1,q2,q3,-⟩:=h.lp e he;exact⟨by have:=q1.lt;omega,q2,rfl⟩
  ·obtain⟨q1,q2,q3,-⟩:=h.lp e he;exact⟨by have:=q1.lt;omega,q3,rfl⟩
theorem RL{p:Nat}{L:dE}{s:MkS}{w:World}(h:uz p L s w)(N:Nat)(hN:N<=w.heap.size) :
  ∃ W,W=(((w.alloc (.map #[] 0)).alloc (.cells #[.map (some w.heap.size)] 185)).alloc (.map #[] 0)).alloc (.cells #[.map (some (w.heap.size+2))] 298) /\
   Yk N p (w.heap.size+3) (w.heap.size+2) (w.heap.size+1) w.heap.size [] [] s L W/\Fr xN xN w W:=by
 obtain⟨A,hA⟩:∃ A,w.alloc (.map #[] 0)=A:=⟨_,rfl⟩;have sA:A.heap.size=w.heap.size+1:=by rw[←hA];simp
 have mA:=kP.made 3 w;have fA:Fr xN xN w A:=by rw[←hA];exact(Fr.refl _ _).alloc _
 rw[hA] at mA ⊢;clear hA;obtain⟨B,hB⟩:∃ B,A.alloc (.cells #[.map (some w.heap.size)] 185)=B:=⟨_,rfl⟩;have sB:B.heap.size=w.heap.size+2:=by rw[←hB];simp[sA]
 have cB:=xu A #[.map (some w.heap.size)] 185 (0,0) 0;have fB:Fr xN xN A B:=by rw[←hB];exact(Fr.refl _ _).alloc _
 rw[hB,sA] at cB;rw[hB];clear hB;obtain⟨C,hC⟩:∃ C,B.alloc (.map #[] 0)=C:=⟨_,rfl⟩;have mC:=ZW.made B;have sC:C.heap.size=w.heap.size+3:=by rw[←hC];simp[sB]
 have fC:Fr xN xN B C:=by rw[←hC];exact(Fr.refl _ _).alloc _
 rw[hC,sB] at mC;rw[hC];clear hC;have fD:Fr xN xN C (C.alloc (.cells #[.map (some (w.heap.size+2))] 298)):=(Fr.refl _ _).alloc _;have f:=fC.trans fD;have no:∀ g,w.heap.size<=g->¬L.has p g:=fun g hg q=>by have:=h.lt q;omega
 have e0:Xk []=fun _=>none:=by funext x;simp[Xk]
 refine⟨_,rfl,⟨?_,mC.fr fD id,f.cell cB id,by rw[e0];exact mA.fr (fB.trans f) id,by omega,⟨no _ (by omega),no _ (by omega),no _ (by omega),no _ (by omega)⟩,by omega,(fun e he=>by cases he),(fun e he=>by cases he)⟩,fA.trans (fB.trans f)⟩;rw[←sC];exact xu C #[.map (some (w.heap.size+2))] _ _ _
theorem Ot(k:Wd)(h:k.head? = some 61):zF k [61]=true/\zJ k [61]=k.tail:=by
 cases k with
 | nil=>cases h
 | cons c t=>simp at h;subst h;constructor<;>simp[zF,zJ]
theorem Oh(k:Wd)(h:¬k.head? = some 61):zF k [61]=false/\zJ k [61]=k:=by
 cases k with
 | nil=>constructor<;>simp[zF,zJ]
 | cons c t =>
  have hc:¬c=61:=fun e=>h (by rw[e];rfl)
  have jD:¬61=c:=fun e=>hc e.symm
  constructor<;>simp[zF,zJ,List.isPrefixOf,hc,jD]
theorem RM(l:Wd)(h:l.length<=9)(hd:l.all xF=true):xH l<=4000000000:=by
 have hb:∀ (l:Wd) (v:Nat),l.all xF=true->l.foldl (fun v c=>10*v+(c.toNat - 48)) v<(v+1)*10 ^ l.length:=by
  intro l;induction l with
  | nil=>intro v _;simp
  | cons c t ih =>
   intro v h;simp only[List.all_cons,zk] at h;have hc:=(vw c).1 h.1;have:=ih (10*v+(c.toNat - 48)) h.2;rw[List.foldl_cons,zP];refine zl this ?_;have h3:10*v+(c.toNat - 48)+1<=(v+1)*10:=by omega
   calc (10*v+(c.toNat - 48)+1)*10 ^ t.length<=((v+1)*10)*10 ^ t.length:=Nat.mul_le_mul_right _ h3
    _=(v+1)*10 ^ (t.length+1):=by rw[Nat.pow_succ,Nat.mul_assoc,Nat.mul_comm 10]
 have h1:=hb l 0 hd;have h2:10 ^ l.length<=10 ^ 9:=Nat.pow_le_pow_right (by decide) h;have h3:(10:Nat) ^ 9=1000000000:=by decide
 unfold xH;omega
theorem Ml{lo hi:Nat}{w0:World}(b0:Nat)(n:Wd)(a fo:Nat)(of:Wd)(cl:Nat)(bs:Fo)(p:Nat)(L:dE)(s:MkS)(w:World)
  (ih:∀ m:Fo,zy m<zy bs->Hb lo hi w0 m) (h:uz p L s w) (he:Yq lo hi w0 L.B w) (KB:fo≠0)
  (Xq:xY lo hi w0 [.iface 177 (.pointer (some ⟨b0,0,none⟩))] (.br n a fo of cl bs .nil)) (hc:(Fo.br n a fo of cl bs .nil).UN) (Gq:(Fo.br n a fo of cl bs .nil).wf 2000000=true) (hs:s.sz+(40+bs.cw)<=900000) :
  Calls prog 122 #[.pointer (some ⟨p,0,none⟩),.pointer (some ⟨b0,0,none⟩)] w (MQ p L ((UW bs (MkS.jY n of bs s) (MkS.qH n of fo bs s)).put 5 0 [] []) w):=by
 have LI:=@run_makeMap prog;have HND:=z7 Xq;obtain⟨vt,b',ba,bc,ws,MR,xB,xD,gP,qY,jD,La,DW,Lc,Ql,Uy,_⟩:=Xq
 cases MR;obtain⟨hnl,TB,OR,hL,A6,rJ,D0,-⟩:=hc;have Zv:(decide (n.length<=4000001) && decide (fo<3) && bs.ux && decide (bs.len<=2000000) && bs.wf 2000000 && Fo.nil.wf 2000000)=true:=Gq;simp only[zk,decide_eq_true_eq] at Zv;obtain⟨⟨⟨-,Hg⟩,qG⟩,-⟩:=Zv;have c0:=xA he.keep gP xB xD;have c1:=xA he.keep qY xB xD;have c2:=xA he.keep La xB xD;have c4:=xA he.keep DW xB xD;have c3:=xA he.keep jD xB xD;have qa:s.cs.length<=900000/\s.code.length<=900000/\s.pos<=900000:=by unfold MkS.sz at hs;omega
 have HC:=z7 (Xl p L s n w.drew h.drew (by omega) (by omega));have HH:=z7 h;have HE:=z7 he;have Le:=z7 Ql;have mY:=z7 Uy;have HL:=z7 hL;have MS:=z7 A6;have HKS:=z7 rJ;have HBC:=z7 D0;have US:=z7 qG;have mZ:=z7 ih;have HS:=z7 hs;obtain⟨M,hM⟩:∃ M,bs.len=M:=⟨_,rfl⟩;have HM:=z7 hM;rw[hM] at c4 Hg;obtain⟨k0,Cu⟩:∃ k0,s.num n=k0:=⟨_,rfl⟩;rw[Cu] at HC;have Oo:=z7 Cu;obtain⟨ov,zy4⟩:∃ ov,xH of=ov:=⟨_,rfl⟩;rw[zy4] at c2 OR;have HOV:=z7 zy4;clear h he Ql Uy hL A6 rJ D0 qG ih hs hM gP qY jD La DW Lc Cu Gq zy4;go_enter func122,ntmps122;go_wp2_with fail;refine rt (fun W':World=>W'.cell? ⟨b0,0,none⟩=some (xk n)/\W'.cell? ⟨b0,3,none⟩=some (.int .i64 ov)) [0,1,2,3,4,5,6,9,10,11,12] 4 ⟨c0,c2⟩ ?_;(iterate 11 (refine ty ?_;try simp only[pl]))
 refine xq ?_;refine xg 7 (by kernel_rfl) rfl (fun J hJ=>?_);go_simp;refine HC.out.mono ?_;rintro e w1 ⟨rfl,L1,Vf,⟨QL,Yh⟩,uq⟩;clear HC;have uq:=uq.und;have nb0:¬L.has p b0:=fun q=>by have:=HH.out.lo _ q;have:=HE.out.hB;omega
 have d0:=uq.cell c0 nb0;have d2:=uq.cell c2 nb0;refine hJ.out _ _ ⟨d0,d2⟩ fun _=>?_
 clear hJ J;refine xg 8 (by kernel_rfl) rfl (fun J hJ=>?_);go_simp;refine hJ.out _ _ ⟨xQ d0 _,xQ d2 _⟩ fun _=>?_
 clear hJ J;refine xG [13] 1 rfl (by intro _ _ d _ _ h;cases d<;>exact h) (by kernel_rfl) (by kernel_rfl) ⟨xQ d0 _,xQ d2 _⟩ ?_;refine ty ?_;try simp only[pl]
 refine xq ?_;refine xg 14 (by kernel_rfl) rfl (fun J hJ=>?_);go_simp;have Fe:=qq.lit w1 [k0] (by simp);have zc3:=Vf.alloc (.cells (Z2 [k0]).toArray 3);obtain⟨z1,z2,z3⟩:=vq s n;have hk9:k0<=900000:=by have:=BA s n;have:=Oo.out;omega
 have du:(uU ⟨4,(s.const n).pos,ov,[k0],[]⟩).length=7:=by simp[uU,gR,j8,kh,Ys]
 have hF1:jc (w1.alloc (.cells (Z2 [k0]).toArray 3)):=(HE.out.fo.fr uq HH.out.lo HE.out.g1).fr ((Fr.refl xN w1).alloc _) (fun _ q=>q.elim) HE.out.g1;have HP:=z7 (dL p L1 (s.const n) 4 ov [k0] [] (.slice (some ⟨w1.heap.size,0,none⟩) 1 1) (.slice none 0 0) (w1.alloc (.cells (Z2 [k0]).toArray 3)) zc3 Fe (qq.nil _) (fun g hg q=>by cases hg;exact zZ _ (Vf.lt q)) (fun g hg=>by cases hg) (fun g hg=>by cases hg)
  (fun g hg=>by rcases hg with hg|hg<;>cases hg;have:=Vf.base;show L1.B<=w1.heap.size;omega)
  ⟨(by decide:4<12),by show ov<=_;omega,by simp;omega,by simp,by simp,rfl⟩ hF1 (by rw[Yh];exact HE.out.g1) (by rw[z2];omega) (by rw[z3];omega) (by rw[du];omega))
 refine HP.out.mono ?_;rintro e w2 ⟨bx,cx,rfl,-,-,-,L2,jC,⟨j4,Ki⟩,vG,-,-⟩;have fA:Fr xN xN w1 (w1.alloc (.cells (Z2 [k0]).toArray 3)):=(Fr.refl _ _).alloc _;have F2:Fr (L.has p) (L2.has p) w w2:=(uq.trans (fA.wide (fun _ q=>q.elim))).tr vG (fun q hq=>by
  rcases hq with hq|hq|hq
  ·exact uq.fp q hq
  ·cases hq;exact .inr uq.size
  ·cases hq)
 obtain⟨s2,uw⟩:∃ s2,(s.const n).put 4 ov [k0] []=s2:=⟨_,rfl⟩;have QQ:s2.sz<=s.sz+9:=by rw[←uw,ji,du];omega
 rw[uw] at jC;have d0:=F2.cell c0 nb0;have d2:=F2.cell c2 nb0;have d4:=F2.cell (a:=⟨b0,4,none⟩) c4 nb0;have d3:=F2.cell (a:=⟨b0,2,none⟩) c3 nb0;refine hJ.out _ _ ⟨d0,d2⟩ fun _=>?_
 clear hJ J;refine wpAnyH_done (by kernel_rfl) ?_ _;have dY:=z7 F2;have Y8:=z7 jC;have dN:=z7 uw;obtain⟨W,hW,vL,JR⟩:=RL (s:=s2) jC w.heap.size F2.size;have c4a:=fun o1 o2 o3 o4=>xQ (xQ (xQ (xQ d4 o1) o2) o3) o4
 have zc4:L2.q=L.q/\L2.B=L.B:=⟨j4.trans QL,Ki.trans Yh⟩;have HQ:=z7 zc4;clear Vf zc3 Fe hF1 HP uq vG fA F2 jC uw QL j4 Yh Ki zc4 du z1 z2 z3;go_wp2_with fail;rw[show w2.heap.size+1+1+1=w2.heap.size+3 from rfl,show w2.heap.size+1+1=w2.heap.size+2 from rfl,←hW];obtain⟨ab,hab⟩:∃ ab,w2.heap.size+3=ab:=⟨_,rfl⟩;obtain⟨am,ham⟩:∃ am,w2.heap.size+2=am:=⟨_,rfl⟩;obtain⟨hb,hhb⟩:∃ hb,w2.heap.size+1=hb:=⟨_,rfl⟩;obtain⟨hm,hhm⟩:∃ hm,w2.heap.size=hm:=⟨_,rfl⟩;rw[hab,hhb];rw[hab,ham,hhb,hhm] at vL;obtain⟨R,hR⟩:∃ R,MkS.qJ bs s2 []=R:=⟨_,rfl⟩;have HR:=z7 hR;clear hab ham hhb hhm hR hW;go_loopw [36] (fun iv wr=>∃ i us xs r s1 L3 al pre,iv = .int .i64 (i:Nat)/\i<=M/\xY lo hi w0 xs r/\r.ux=true/\us.length=i*3/\ws=us++xs/\i+r.len=M/\bs.keys=pre++r.keys /\
  uz p L3 s1 wr/\(L3.q=L.q/\L3.B=L.B)/\Fr (L.has p) (L3.has p) w wr/\Yk w.heap.size p ab am hb hm pre al s1 L3 wr/\MkS.qJ r s1 al.ix=R/\pre.length=i/\al.length<=i/\s1.sz+8*r.keys.length<=899990) (fun iv _=>M - (intOf iv).toNat)
 case atStart =>
  exact⟨0,[],ws,bs,s2,L2,[],[],rfl,zY _,mY.out,HL.out,rfl,rfl,by have:=HM.out;omega,rfl,Y8.out.fr JR (fun _ q=>q.elim),HQ.out,dY.out.trans (JR.wide (fun _ q=>q.elim)),vL,HR.out,rfl,zg _,by have:=HS.out;have:=Fo.Yu bs;omega⟩
 case round =>
  clear vL JR c4a d0 d2 d3 d4;obtain⟨i,us,xs,r,s1,L3,al,pre,rfl,hiM,gO,Zj,VY,VV,j5,Ua,KV,⟨X3,D9⟩,jw,Mm,jH,Hp,qz,uF⟩:=hrel;have rN:Yq lo hi w0 L3.B wr:=by rw[D9];exact HE.out.fr jw HH.out.lo
  have FM:=z7 KV;have HE3:=z7 rN;have VB:=z7 jw;have HPL:=z7 Mm;have dP:=z7 jH;have HLR:=z7 Zj;have Cz:=z7 VY;have TH:=z7 VV;have Yp:=z7 j5;have Cq:=z7 Ua;have gQ:=z7 uF;have HPR:=z7 Hp;by_cases xC:i<M
  ·cases r with
   | nil=>exfalso;simp[Fo.len] at j5;omega
   | text t r=>cases Zj
   | hash r=>cases Zj
   | put n a r=>cases Zj
   | num n a r=>cases Zj
   | br n a fo of cl bs r=>cases Zj
   | ug k1 a0 m0 r0 =>
    obtain⟨Ol,ma,mc,ms,rfl,Xu,Ww,UT⟩:=gO;obtain⟨g2,o2,rfl,e0,e1,e2⟩:=Qm rN.keep Le.out VY VV;have QU:=z7 UT;have k3:(i:Int)<(M:Int):=by omega
    have k4:decide ((i:Int)<(M:Int))=true:=by simp;omega
    have MT:Fr xN xN wr (wr.alloc (.cells #[xk k1,.int .i64 (a0:Nat),.slice ma m0.len mc] 183)):=(Fr.refl _ _).alloc _;have hpA:=Mm.al' MT (fun _ q=>q.elim);have MN:=Yp.out;simp only[Fo.len] at MN;have MA:=gQ.out;simp only[Fo.keys,zP] at MA;have hkb:k1∈bs.keys:=by rw[Cq.out];simp[Fo.keys]
    have Ck:k1 ∉ pre:=fun q=>by
     have h1:=MS.out;rw[Cq.out] at h1;exact(zn.1 h1).2.2 k1 q k1 (by simp[Fo.keys]) rfl
    have yq1:=z7 Ck;obtain⟨mL,zy6⟩:=HKS.out k1 hkb;have V4:=hpA.mh.KZ QI k1 (by omega);rw[show Xk pre k1=none from if_neg Ck] at V4;obtain⟨wp,Yt,Xm,KK⟩:=hpA.mh.put QI k1 (by omega) 1 1 rfl (by omega) (by omega);have KH:=z7 (hpA.key Xm KK);have TI:Fr (fun g=>g=hm) (fun g=>g=hm) (wr.alloc (.cells #[xk k1,.int .i64 (a0:Nat),.slice ma m0.len mc] 183)) wp:=⟨KK.os,KK.tape,KK.output,KK.size,fun k hk hn=>KK.block k hk (fun e=>hn (zv e)),fun _ q => .inl q⟩;have VR:=hpA.ch;have ir:=z7 TI;have kec:wp.cell? ⟨wr.heap.size,0,none⟩=some (xk k1):=TI.cell (xu _ _ _ _ _) (fun e=>by have:=Mm.lt.2.2.2;simp only at e;omega);have He:=z7 ((KV.fr MT (fun _ q=>q.elim)).fr TI (by rintro g rfl;exact Mm.out.2.2.2));have FN:=z7 ((jw.trans (MT.wide (fun _ q=>q.elim))).over TI (by rintro g rfl;exact .inr Mm.lo.2.2.2));have Mn:=Tryz.strings_CutPrefix ⟨k1.toArray⟩ ⟨#[61]⟩ wp;rw[show(zt k1.toArray).data.toList=k1 by simp,show(zt #[61]).data.toList=[61] from rfl] at Mn;clear KV rN jw jH Zj VY VV Xu Ww UT j5 Ua uF Hp MT hpA Mm Ck Xm KK TI;by_cases hx:k1.head? = some 61
    ·rw[(Ot k1 hx).1,(Ot k1 hx).2] at Mn;have Di:=z7 Mn;obtain⟨q1,q2,q3⟩:=zy6 KB hx;have QX:=z7 (OE k1.tail wp q2 q3 q1);have HX:=z7 hx;obtain⟨kv,QE⟩:∃ kv,xH k1.tail=kv:=⟨_,rfl⟩;obtain⟨kt,hkt⟩:∃ kt,k1.tail=kt:=⟨_,rfl⟩;have xz1:kv<=4000000000:=by rw[←QE];exact RM _ q2 q3
     rw[QE,hkt] at QX;rw[hkt] at Di;have Mo:=z7 QE;clear Mn hx zy6 q1 q2 q3 QE hkt;go_wp2_with fail;refine Di.out.mono ?_;rintro e w4 ⟨rfl,rfl⟩;go_wp2_with fail;refine QX.out.mono ?_;rintro e w5 ⟨rfl,kZ⟩;have f5:Fr xN xN w4 w5:=Fr.of kZ;clear Di QX Yt V4 VR;have ca5:=f5.cell KH.out.ca id;have ke5:=f5.cell kec id;go_wp2_with fail;refine rt (fun W':World=>W'.cell? ⟨ab,0,none⟩=some (.map (some am))/\W'.cell? ⟨wr.heap.size,0,none⟩=some (xk k1)) [0,1,2,3,4] 4 ⟨ca5,ke5⟩ ?_;(iterate 5 (refine ty ?_;try simp only[pl]))
     refine xq ?_;refine xg 5 (by kernel_rfl) rfl (fun J hJ=>?_);obtain⟨w6,Da,hk6,ZU⟩:=Xr 1 w5.drew (by omega);rw[show((1:Nat):Int)=1 from rfl] at Da;have ZU:=ZU.und;have ca6:=ZU.cell ca5 id;have ke6:=ZU.cell ke5 id;go_simp;refine hJ.out _ _ ⟨ca6,ke6⟩ fun _=>?_
     clear hJ J;refine xG [6] 2 rfl (by intro _ _ d _ _ h;cases d<;>exact h) (by kernel_rfl) (by kernel_rfl) ⟨ca6,ke6⟩ ?_;refine ty ?_;try simp only[pl]
     refine xq ?_;refine xg 7 (by kernel_rfl) rfl (fun J hJ=>?_);go_simp;have f46:Fr xN xN w4 w6:=f5.trans ZU;have hm6:=He.out.fr f46 (fun _ q=>q.elim);have RN:=KH.out.al' f46 (fun _ q=>q.elim);have D7:=MA;unfold MkS.sz at D7;have h8:(uU ⟨7,s1.pos,kv,[],z8 1 0⟩).length=7:=by simp[uU,gR,j8,kh,Ys]
     have he6:Yq lo hi w0 L3.B w6:=by rw[D9];exact(HE.out.fr FN.out HH.out.lo).fr f46 (fun _ q=>q.elim)
     have HP:=z7 (dL p L3 s1 7 kv [] (z8 1 0) (.slice none 0 0) (.slice (some ⟨w5.heap.size,0,none⟩) 1 1) w6 hm6 (qq.nil _) hk6 (fun g hg=>by cases hg) (fun g hg q=>by cases hg;have h1:=He.out.lt q;have h2:=f5.size;exact absurd h1 (by show ¬w5.heap.size<w4.heap.size;omega)) (fun g hg q=>by cases q)
      (fun g hg=>by rcases hg with hg|hg<;>cases hg;have h1:=He.out.base;have h2:=f5.size;show L3.B<=w5.heap.size;omega)
      ⟨(by decide:7<12),by show kv<=_;omega,by simp,by simp,by simp,rfl⟩ he6.fo he6.g1 (by omega) (by omega) (by omega))
     refine HP.out.mono ?_;rintro e w7 ⟨b,c,rfl,yq3,jQ,hc7,L4,hm7,⟨hq7,hB7⟩,hf7,nb7,nc7⟩;have f47:Fr (L3.has p) (L4.has p) w4 w7:=(f46.wide (fun _ q=>q.elim)).tr hf7 (fun q hq=>by
      rcases hq with hq|hq|hq
      ·exact .inl hq
      ·cases hq
      ·cases hq;exact .inr f5.size)
     have nk1:¬L3.has p wr.heap.size:=fun q=>by have:=FM.out.lt q;omega
     have ca7:=f47.cell KH.out.ca KH.out.out.1;have ke7:=f47.cell kec nk1;have Ed:=KH.out.fr f47 (MkS.bC s1 7 kv [] (z8 1 0));obtain⟨w8,zc7,zc8,Mp⟩:=Ed.ma.put k1 (by omega) (b,c) (by omega);have HP8:=z7 (Ed.ask (k:=k1) (by simp) (fun e he q=>yq1.out (by rw[←q];exact HPL.out.ks e he)) zc8 Mp yq3 nb7 nc7 (i:=s1.code.length) (y:=⟨7,s1.pos,kv,[],z8 1 0⟩) (by simp[MkS.put]) (by simp));have hf8:Fr (fun g=>g=am) (fun g=>g=am) w7 w8:=⟨Mp.os,Mp.tape,Mp.output,Mp.size,fun k hk hn=>Mp.block k hk (fun e=>hn (zv e)),fun _ q => .inl q⟩;have HM8:=z7 (hm7.fr hf8 (by rintro g rfl;exact Ed.out.2.1));have HF8:=z7 ((FN.out.trans f47).over hf8 (by rintro g rfl;exact .inr Ed.lo.2.1));have ca8:=hf8.cell ca7 Ed.ne.1;have ke8:=hf8.cell ke7 (fun e=>by have:=HPL.out.lt.2.1;have e2:wr.heap.size=am:=e;omega);have hz8:=ji s1 7 kv [] (z8 1 0);refine hJ.out _ _ ⟨ca7,ke7⟩ fun _=>?_
     clear hJ J;refine xg 8 (by kernel_rfl) rfl (fun J hJ=>?_);go_simp;refine hJ.out _ _ ⟨ca8,ke8⟩ fun _=>?_
     clear hJ J;refine wpAnyH_done (by kernel_rfl) ?_ _;have hq9:=hq7;clear zc7 Ed zc8 Mp hm7 hf7 f47 f46 hm6 RN he6 HP Da;go_wp2;go_roundw
     case rel =>
      refine⟨i+1,us++[xk k1,.int .i64 (a0:Nat),.slice ma m0.len mc],Ol,r0,s1.put 7 kv [] (z8 1 0),L4,al++[(k1,s1.code.length,b,c)],pre++[k1],by go_num,by omega,QU.out,HLR.out,by simp[Cz.out];omega,by rw[TH.out];simp,by omega,by rw[Cq.out];simp[Fo.keys],HM8.out,⟨hq7.trans X3,hB7.trans D9⟩,HF8.out,HP8.out,?_,by simp[HPR.out],by simp;omega,by omega⟩;have:=dP.out;rw[MkS.qJ,if_pos HX.out,Mo.out] at this;simpa[Xj.ix] using this
     case measure=>simp only[intOf];omega
    ·rw[(Oh k1 hx).1,(Oh k1 hx).2] at Mn;have Di:=z7 Mn;have HX:=z7 hx;clear Mn hx zy6;go_wp2_with fail;refine Di.out.mono ?_;rintro e w4 ⟨rfl,rfl⟩;clear Di Yt V4 VR;go_wp2;go_roundw
     case rel =>
      refine⟨i+1,us++[xk k1,.int .i64 (a0:Nat),.slice ma m0.len mc],Ol,r0,s1,L3,al,pre++[k1],by go_num,by omega,QU.out,HLR.out,by simp[Cz.out];omega,by rw[TH.out];simp,by omega,by rw[Cq.out];simp[Fo.keys],He.out,⟨X3,D9⟩,FN.out,KH.out,?_,by simp[HPR.out],by omega,by omega⟩;have:=dP.out;rw[MkS.qJ,if_neg HX.out] at this;exact this
     case measure=>simp only[intOf];omega
  ·have vu:r.keys=[]/\MkS.qJ r s1 al.ix=(s1,al.ix):=by
    cases r with
    | nil=>exact⟨rfl,rfl⟩
    | text t r=>cases Zj
    | hash r=>cases Zj
    | put n a r=>cases Zj
    | num n a r=>cases Zj
    | br n a fo of cl bs r=>cases Zj
    | ug k0 a0 m0 r0=>exfalso;simp only[Fo.len] at j5;omega
   have mS:MkS.kE n of bs s=(s1,al.ix):=by
    unfold MkS.kE;rw[Oo.out,HOV.out,dN.out,HR.out];exact jH.symm.trans vu.2
   have KI:=z7 mS;have HK1:=z7 (show bs.keys=pre by rw[Ua,vu.1];simp);have k3:¬(i:Int)<(M:Int):=by omega
   have k4:decide ((i:Int)<(M:Int))=false:=by simp;omega
   obtain⟨wm,Da,mO,VO⟩:=Xr 6 wr (by omega);rw[show((6:Nat):Int)=6 from rfl] at Da;have zc9:=KV.fr VO (fun _ q=>q.elim);have hem:=rN.fr VO (fun _ q=>q.elim);have wa:=Mm.al' VO (fun _ q=>q.elim);have f3m:Fr (L.has p) (L3.has p) w wm:=jw.trans (VO.wide (fun _ q=>q.elim));have c3m:=jw.cell (a:=⟨b0,2,none⟩) c3 nb0;have HMM:=z7 zc9;have HEM:=z7 hem;have HPM:=z7 wa;have H3M:=z7 f3m;have HKM:=z7 mO;have HFM:=z7 VO;have D7:=uF;unfold MkS.sz at D7;have hs9:s1.sz<=899990:=by omega
   obtain⟨op,uC⟩:∃ op,(if fo=2 then 9 else 8)=op:=⟨_,rfl⟩;have HSS:=z7 (show s1.put op 0 [] (z8 6 0)=MkS.qH n of fo bs s by unfold MkS.qH;rw[mS,uC]);have lwr:=KV.base.2;clear KV rN jw Mm jH Zj VY VV j5 Ua uF gO vu Hp mS zc9 hem wa f3m mO;have zy8:(((fo:Int)==2)=true/\9=op)\/(((fo:Int)==2)=false/\8=op):=by
    by_cases q:fo=2
    ·left;rw[if_pos q] at uC;exact⟨by simp[q],uC⟩
    ·right;rw[if_neg q] at uC;exact⟨by simp;omega,uC⟩
   clear uC;have D3:op<12:=by omega
   have QZ:okB (gR op) 0 6=true:=by rcases zy8 with⟨-,rfl⟩|⟨-,rfl⟩<;>rfl
   have RO:(uU ⟨op,s1.pos,0,[],z8 6 0⟩).length<=1000000:=by rcases zy8 with⟨-,rfl⟩|⟨-,rfl⟩<;>simp[uU,gR,j8,kh]
   have HP:=z7 (dL p L3 s1 op 0 [] (z8 6 0) (.slice none 0 0) (.slice (some ⟨wr.heap.size,0,none⟩) 6 6) wm HMM.out (qq.nil _) HKM.out (fun g hg=>by cases hg) (fun g hg q=>by cases hg;exact zZ _ (FM.out.lt q)) (fun g hg q=>by cases q)
    (fun g hg=>by rcases hg with hg|hg<;>cases hg;have h1:=FM.out.base;show L3.B<=wr.heap.size;omega)
    ⟨D3,by simp,by simp,by simp,by simp,QZ⟩ HEM.out.fo HEM.out.g1 (by omega) (by omega) RO)
   have HI6:=z7 (show ∃ x,(s1.put op 0 [] (z8 6 0)).code[s1.code.length]? = some x/\x.tg.length=6 from⟨_,by simp[MkS.put];rfl,by simp⟩);have A9:=z7 (MkS.bC s1 op 0 [] (z8 6 0));clear D3 QZ RO;rcases zy8 with⟨kf,rfl⟩|⟨kf,rfl⟩;all_goals
    go_wp2_with fail;refine HP.out.mono ?_;rintro e w5 ⟨b,c,rfl,Ha,-,-,L4,Jg,⟨hq5,hB5⟩,Jf,nb5,nc5⟩;have f35:Fr (L3.has p) (L4.has p) wr w5:=(HFM.out.wide (fun _ q=>q.elim)).tr Jf (fun q hq=>by
     rcases hq with hq|hq|hq
     ·exact .inl hq
     ·cases hq
     ·cases hq;exact .inr (zg _))
    have fw5:Fr (L.has p) (L4.has p) w w5:=VB.out.trans f35;have he5:Yq lo hi w0 L4.B w5:=by rw[hB5,D9];exact HE.out.fr fw5 HH.out.lo
    have Hr:=HPL.out.fr f35 A9.out;obtain⟨x,hx,rY⟩:=HI6.out;have UH:∀ k∈pre,k.length<=17:=fun k hk=>(HKS.out k (by rw[HK1.out];exact hk)).1
    obtain⟨wT,rP⟩:∃ wT,w5.alloc (.cells #[bV b c] 189)=wT:=⟨_,rfl⟩;obtain⟨zyz,hI⟩:=mR Hr Ha nb5 nc5 he5.na he5.g2 Jg hx rY UH rP;have Mc:Fr xN xN w5 wT:=by rw[←rP];exact(Fr.refl _ _).alloc _
    have Fh:MkS.jY n of bs s=plG pre al.ix s1.code.length:=by
     funext k x;unfold MkS.jY plG;rw[KI.out,HK1.out];rfl
    rw[←Fh,HSS.out,←HK1.out] at zyz;have hmT:=Jg.fr Mc (fun _ q=>q.elim);rw[HSS.out] at hmT;have hzp:=(MkS.C7 n of fo bs s).2;have hgk:=Fo.Yu bs;have ZJ:=HS.out;have RD:=z7 (Gu b0 n a fo of cl bs p L4 (MkS.qH n of fo bs s) (MkS.jY n of bs s) _ _ wT mZ.out hmT (he5.fr Mc (fun _ q=>q.elim)) HND.out HL.out HBC.out US.out (by rw[HM.out];exact Hg) (by omega) zyz hI);have HWT:=z7 (fw5.trans (Mc.wide (fun _ q=>q.elim)));have hz9:(UW bs (MkS.jY n of bs s) (MkS.qH n of fo bs s)).sz<=900000:=by
     obtain⟨-,q⟩:=MkS.go_le bs (MkS.jY n of bs s) (MkS.qH n of fo bs s) [] (fun k x=>MkS.C4 n of bs s k x);unfold UW;rw[MkS.ZT _ (fun s i=>gJ s i 0)];omega
    obtain⟨s9,hs9⟩:∃ s9,UW bs (MkS.jY n of bs s) (MkS.qH n of fo bs s)=s9:=⟨_,rfl⟩;rw[hs9] at RD hz9;have HS9:=z7 hs9;unfold MkS.sz at hz9;clear hs9 zyz hI hmT hx Hr he5 fw5 f35 Jf Jg Ha Fh UH Mc;go_wp2_with fail;refine RD.out.mono ?_;rintro e w9 ⟨rfl,L9,hm9,⟨hq9,rR⟩,hf9⟩;have hw9:=HWT.out.trans hf9;have he9:Yq lo hi w0 L9.B w9:=by rw[rR,hB5,D9];exact HE.out.fr hw9 HH.out.lo
    have Qn:=z7 (dL p L9 s9 5 0 [] [] (.slice none 0 0) (.slice none 0 0) w9 hm9 (qq.nil _) (qq.nil _) (fun g hg=>by cases hg) (fun g hg=>by cases hg) (fun g hg=>by cases hg) (fun g hg=>by rcases hg with hg|hg<;>cases hg)
     ⟨(by decide:5<12),by simp,by simp,by simp,by simp,rfl⟩ he9.fo he9.g1 (by omega) (by omega) (by simp[uU,gR,j8]))
    have HW9:=z7 hw9;clear hm9 hf9 hw9 he9 RD rP;go_wp2_with fail;refine Qn.out.mono ?_;rintro e wX ⟨b9,c9,rfl,-,-,-,LX,hmX,⟨hqX,hBX⟩,hfX,-,-⟩;have HMX:=z7 hmX;have HFX:=z7 hfX;clear hmX hfX Qn;go_wp2;refine bodyPost_ret (v := .tuple #[]) ?_ rfl ?_
    ·simp[results,results122,go_sem]
    rw[HS9.out];refine⟨rfl,LX,HMX.out,⟨by rw[hqX,hq9,hq5,X3],by rw[hBX,rR,hB5,D9]⟩,HW9.out.tr HFX.out (fun q hq=>?_)⟩;rcases hq with hq|hq|hq
    ·exact HW9.out.fp q hq
    ·cases hq
    ·cases hq
section
variable (b:Nat) (t:Wd) (w:World)
theorem mT:(zu (.iface 262 (xk t)) 112 262 true).run prog w = .ok (.tuple #[xk t,.bool true]) w:=by rfl
theorem RP:(zu (.iface 264 (.agg #[])) 112 262 true).run prog w = .ok (.tuple #[.string ⟨#[]⟩,.bool false]) w:=by rfl
theorem mW:(zu (.iface 264 (.agg #[])) 112 264 true).run prog w = .ok (.tuple #[.agg #[],.bool true]) w:=by rfl
theorem Ay:(zu (.iface 172 (.pointer (some ⟨b,0,none⟩))) 112 262 true).run prog w = .ok (.tuple #[.string ⟨#[]⟩,.bool false]) w:=by rfl
theorem Ax:(zu (.iface 172 (.pointer (some ⟨b,0,none⟩))) 112 264 true).run prog w = .ok (.tuple #[.agg #[],.bool false]) w:=by rfl
theorem Av:(zu (.iface 175 (.pointer (some ⟨b,0,none⟩))) 112 262 true).run prog w = .ok (.tuple #[.string ⟨#[]⟩,.bool false]) w:=by rfl
theorem Au:(zu (.iface 175 (.pointer (some ⟨b,0,none⟩))) 112 264 true).run prog w = .ok (.tuple #[.agg #[],.bool false]) w:=by rfl
theorem mr:(zu (.iface 177 (.pointer (some ⟨b,0,none⟩))) 112 262 true).run prog w = .ok (.tuple #[.string ⟨#[]⟩,.bool false]) w:=by rfl
theorem n7:(zu (.iface 177 (.pointer (some ⟨b,0,none⟩))) 112 264 true).run prog w = .ok (.tuple #[.agg #[],.bool false]) w:=by rfl
end
theorem Aq{lo hi:Nat}{w0:World}(f:Fo)(ih:∀ m:Fo,zy m<zy f->Hb lo hi w0 m):Hb lo hi w0 f:=by
 intro p L s w a c vs h he vE kD hm hw hc hl hs;obtain⟨M,hM⟩:∃ M,f.len=M:=⟨_,rfl⟩;rw[hM];have D5:vs.length=M:=(xY.count f vs kD hm).trans hM;obtain⟨R,hR⟩:∃ R,MkS.dD f s=R:=⟨_,rfl⟩;rw[hR];have HH:=z7 h;have HE:=z7 he;have qV:=z7 vE;have Yz:=z7 kD;have HM:=z7 hm;have HC:=z7 hc;have HW:=z7 hw;have HR:=z7 hR;have mZ:=z7 ih;have C9:=z7 D5;have HL:=z7 hM;have HS:=z7 hs;have hL2:M<=2000000:=by omega
 clear h he vE kD hm hc hw hR ih D5 hM hs hl;go_enter func80,ntmps80;go_wp2_with fail;go_loopw [13] (fun iv wr=>∃ i us xs r s1 L1,iv = .int .i64 (i:Nat)/\i<=M/\xY lo hi w0 xs r/\r.vD=true/\r.UN/\r.wf 2000000=true/\us.length=i/\vs=us++xs/\i+r.len=M/\zy r<=zy f /\
  uz p L1 s1 wr/\(L1.q=L.q/\L1.B=L.B)/\Fr (L.has p) (L1.has p) w wr/\MkS.dD r s1=R/\s1.sz+r.cw<=900000) (fun iv _=>M - (intOf iv).toNat)
 case atStart=>exact⟨0,[],vs,f,s,L,rfl,zY _,Yz.out,HM.out,HC.out,HW.out,rfl,rfl,by have:=HL.out;omega,zg _,HH.out,⟨rfl,rfl⟩,Fr.refl _ _,HR.out,HS.out⟩
 case round =>
  obtain⟨i,us,xs,r,s1,L1,rfl,hiL,gO,rB,OJ,Eg,VY,rC,j5,qa,Vf,⟨QL,Yh⟩,uq,V2,uF⟩:=hrel;have Cx:Yq lo hi w0 L1.B wr:=by rw[Yh];exact HE.out.fr uq HH.out.lo
  have HN:=z7 gO;have Qe:=z7 rB;have RJ:=z7 OJ;have UR:=z7 Eg;have LW:=z7 rC;have Cz:=z7 VY;have D8:=z7 Vf;have DH:=z7 Cx;have Uz:=z7 uq;have fP:=z7 V2;have gQ:=z7 uF;have Yp:=z7 j5;have fS:=z7 qa;clear gO rB OJ Eg rC VY Vf Cx uq V2 uF;by_cases xC:i<M
  ·obtain⟨x0,xt,Oi⟩:∃ x0 xt,xs=x0::xt:=by
    cases xs with
    | nil=>have h1:=C9.out;rw[LW.out] at h1;have:=Cz.out;simp at h1;omega
    | cons a b=>exact⟨a,b,rfl⟩
   subst Oi;obtain⟨g,o,rfl,Y9,dV,vX⟩:=qV.out i (by have:=C9.out;omega);have Kl:vs[i]'(by have:=C9.out;omega)=x0:=by
    have h1:vs[i]? = some x0:=by rw[LW.out,←Cz.out];simp
    rw[zj (by have:=C9.out;omega)] at h1;exact zv h1
   rw[Kl] at vX;have qY:=xA DH.out.keep vX Y9 dV;have k1:(i:Int)<(M:Int):=by omega
   have k2:decide ((i:Int)<(M:Int))=true:=by simp;omega
   clear vX Kl j5 qa;have rS:∀ (x:Value) (xt:List Value) (r':Fo) (s2:MkS) (L2:dE) (w2:World),x0=x->vs=us++x::xt->xY lo hi w0 xt r'->r'.vD=true->r'.UN->r'.wf 2000000=true->i+(r'.len+1)=M->zy r'<=zy f->uz p L2 s2 w2->(L2.q=L1.q/\L2.B=L1.B)->Fr (L1.has p) (L2.has p) wr w2->MkS.dD r' s2=R->s2.sz+r'.cw<=900000 ->
     ∃ i' us' xs' r s1 L1,(Value.int .i64 ((i:Int)+1)) = .int .i64 (i':Nat)/\i'<=M/\xY lo hi w0 xs' r/\r.vD=true/\r.UN/\r.wf 2000000=true/\us'.length=i'/\vs=us'++xs'/\i'+r.len=M/\zy r<=zy f /\
      uz p L1 s1 w2/\(L1.q=L.q/\L1.B=L.B)/\Fr (L.has p) (L1.has p) w w2/\MkS.dD r s1=R/\s1.sz+r.cw<=900000 :=
    fun x xt r' s2 L2 w2 e1 e2 e3 e4 e5 e6 e7 e8 e9 e10 e11 e12 e13=>⟨i+1,us++[x],xt,r',s2,L2,by simp,by omega,e3,e4,e5,e6,by simp[Cz.out],by rw[e2];simp,by omega,e8,e9,⟨e10.1.trans QL,e10.2.trans Yh⟩,Uz.out.trans e11,e12,e13⟩
   have RR:=z7 rS;clear rS
   cases r with
   | nil =>
    have:=HN.out
    cases this
   | ug k0 a0 m0 r0=>have:=Qe.out;cases this
   | text t r =>
    obtain⟨vt,MR,gO⟩:=HN.out
    cases MR;have a1:=mT t;have QU:=z7 gO;have rT:=RJ.out;have D7:=gQ.out;have Ak:=s1.Qa 1 t (.inl rfl);simp only[Fo.cw] at D7;have Gj:=z7 (Ba p L1 s1 1 t wr D8.out (.inl rfl) rT.1 (by omega) DH.out.fo DH.out.g1);clear gO rT;go_wp2_with fail;refine Gj.out.mono ?_;rintro e w2 ⟨rfl,L2,jC,j4,vG⟩;have Y8:=z7 jC;have dY:=z7 vG;clear jC vG Gj;go_wp2;go_roundw
    case rel=>exact RR.out _ _ r (s1.one 1 t) L2 w2 rfl LW.out QU.out Qe.out RJ.out.2 UR.out Yp.out (by have:=fS.out;simp at this;omega) Y8.out j4 dY.out fP.out (by omega)
    case measure=>simp only[intOf];omega
   | hash r =>
    obtain⟨vt,MR,gO⟩:=HN.out
    cases MR;have a1:=RP;have a2:=mW;have QU:=z7 gO;have D7:=gQ.out;simp only[Fo.cw] at D7;have yqy:=D7;unfold MkS.sz at yqy;have MT:Fr xN xN wr (wr.alloc (.cells #[] 264)):=(Fr.refl _ _).alloc _;have hx:(uU ⟨6,s1.pos,0,[],[]⟩).length=1:=by simp[uU,gR,j8]
    have Ll:=ji s1 6 0 [] [];have heA:=DH.out.fr MT (fun _ q=>q.elim);have Qn:=z7 (dL p L1 s1 6 0 [] [] (.slice none 0 0) (.slice none 0 0) (wr.alloc (.cells #[] 264)) (D8.out.fr MT (fun _ q=>q.elim)) (qq.nil _) (qq.nil _) (fun g hg=>by cases hg) (fun g hg=>by cases hg) (fun g hg=>by cases hg) (fun g hg=>by rcases hg with hg|hg<;>cases hg)
     ⟨(by decide:6<12),by simp,by simp,by simp,by simp,rfl⟩ heA.fo heA.g1 (by omega) (by omega) (by rw[hx];omega))
    have On:=z7 MT;clear gO MT heA;go_wp2_with fail;refine Qn.out.mono ?_;rintro e w2 ⟨b9,c9,rfl,-,-,-,L2,jC,j4,vG,-,-⟩;have Y8:=z7 jC;have dY:=z7 (show Fr (L1.has p) (L2.has p) wr w2 from(On.out.wide (fun _ q=>q.elim)).tr vG (fun q hq=>by
     rcases hq with hq|hq|hq
     ·exact .inl hq
     ·cases hq
     ·cases hq))
    clear jC vG Qn;go_wp2;go_roundw
    case rel=>exact RR.out _ _ r (s1.put 6 0 [] []) L2 w2 rfl LW.out QU.out Qe.out RJ.out UR.out Yp.out (by have:=fS.out;simp at this;omega) Y8.out j4 dY.out fP.out (by omega)
    case measure=>simp only[intOf];omega
   | put n a r =>
    obtain⟨vt,b0,MR,xB,xD,gP,-,gO⟩:=HN.out
    cases MR;have LA:=xA DH.out.keep gP xB xD;have a1:=Ay b0;have a2:=Ax b0;have a3:=Gy b0;have QU:=z7 gO;have rT:=RJ.out;have D7:=gQ.out;have Ak:=s1.Qa 2 n (by omega);simp only[Fo.cw] at D7;have Zv:(decide (n.length<=4000001) && r.wf 2000000)=true:=UR.out;simp only[zk,decide_eq_true_eq] at Zv;have rM:=z7 Zv.2;have Gj:=z7 (Ba p L1 s1 2 n wr D8.out (by omega) (by have:=rT.1;omega) (by omega) DH.out.fo DH.out.g1);clear gO rT gP Zv;go_wp2_with fail;refine Gj.out.mono ?_;rintro e w2 ⟨rfl,L2,jC,j4,vG⟩;have Y8:=z7 jC;have dY:=z7 vG;clear jC vG Gj;go_wp2;go_roundw
    case rel=>exact RR.out _ _ r (s1.one 2 n) L2 w2 rfl LW.out QU.out Qe.out RJ.out.2 rM.out Yp.out (by have:=fS.out;simp at this;omega) Y8.out j4 dY.out fP.out (by omega)
    case measure=>simp only[intOf];omega
   | num n a r =>
    obtain⟨vt,b0,MR,xB,xD,gP,-,gO⟩:=HN.out
    cases MR;have LA:=xA DH.out.keep gP xB xD;have a1:=Av b0;have a2:=Au b0;have a3:=Gx b0;have a4:=VW b0;have QU:=z7 gO;have rT:=RJ.out;have D7:=gQ.out;have Ak:=s1.Qa 3 n (by omega);simp only[Fo.cw] at D7;have Zv:(decide (n.length<=4000001) && r.wf 2000000)=true:=UR.out;simp only[zk,decide_eq_true_eq] at Zv;have rM:=z7 Zv.2;have Gj:=z7 (Ba p L1 s1 3 n wr D8.out (by omega) (by have:=rT.1;omega) (by omega) DH.out.fo DH.out.g1);clear gO rT gP Zv;go_wp2_with fail;refine Gj.out.mono ?_;rintro e w2 ⟨rfl,L2,jC,j4,vG⟩;have Y8:=z7 jC;have dY:=z7 vG;clear jC vG Gj;go_wp2;go_roundw
    case rel=>exact RR.out _ _ r (s1.one 3 n) L2 w2 rfl LW.out QU.out Qe.out RJ.out.2 rM.out Yp.out (by have:=fS.out;simp at this;omega) Y8.out j4 dY.out fP.out (by omega)
    case measure=>simp only[intOf];omega
   | br n a fo of cl bs r =>
    obtain⟨vt,b0,ba,bc,ws,MR,xB,xD,Aj,Ev,FE,hd3,hd4,hd5,Ql,Uy,gO⟩:=HN.out
    cases MR;have hh2:=xA DH.out.keep FE xB xD;have a1:=mr b0;have a2:=n7 b0;have a3:=DS b0;have a4:=QT b0;have a5:=UM b0;have QU:=z7 gO;have Xq:xY lo hi w0 [.iface 177 (.pointer (some ⟨b0,0,none⟩))] (.br n a fo of cl bs .nil):=⟨[],b0,ba,bc,ws,rfl,xB,xD,Aj,Ev,FE,hd3,hd4,hd5,Ql,Uy,rfl⟩;obtain⟨nz,k2',k3',k4',k5',k6',k7',k8'⟩:=RJ.out;have l9:(Fo.br n a fo of cl bs .nil).UN:=⟨nz,k2',k3',k4',k5',k6',k7',trivial⟩;have Zv:(decide (n.length<=4000001) && decide (fo<3) && bs.ux && decide (bs.len<=2000000) && bs.wf 2000000 && r.wf 2000000)=true:=UR.out;have hwk:(Fo.br n a fo of cl bs .nil).wf 2000000=true:=by
     simp only[zk] at Zv;simp only[Fo.wf,zk];exact⟨Zv.1,trivial⟩
    simp only[zk,decide_eq_true_eq] at Zv;have rM:=z7 Zv.2;have D7:=gQ.out;simp only[Fo.cw] at D7;have hih:∀ m:Fo,zy m<zy bs->Hb lo hi w0 m:=fun m hm=>mZ.out m (by have:=fS.out;simp at this;omega)
    by_cases KB:fo=0
    ·have kf:((fo:Int)==0)=true:=by simp[KB]
     have dP:=z7 (show MkS.dD r (UW bs (MkS.dO n bs s1) (MkS.ky n bs s1))=R by
      have:=fP.out;unfold MkS.dD at this ⊢;rw[MkS.qv,if_pos KB] at this;exact this)
     have hzb:(UW bs (MkS.dO n bs s1) (MkS.ky n bs s1)).sz+r.cw<=900000:=by
      obtain⟨-,q⟩:=MkS.go_le bs (MkS.dO n bs s1) (MkS.ky n bs s1) [] (fun k x=>MkS.C3 n bs s1 k x);have:=(MkS.C6 n bs s1).2;unfold UW;rw[MkS.ZT _ (fun s i=>gJ s i 0)];omega
     subst KB;have LP:=z7 (Cv b0 n a of cl bs p L1 s1 wr hih D8.out DH.out Xq l9 hwk (by omega));clear gO Xq l9 hwk hih Aj Ev FE hd3 hd4 hd5 Ql Uy nz k2' k3' k4' k5' k6' k7' k8' Zv;go_wp2_with fail;refine LP.out.mono ?_;rintro e w2 ⟨rfl,L2,jC,j4,vG⟩;have Y8:=z7 jC;have dY:=z7 vG;clear jC vG LP;go_wp2;go_roundw
     case rel=>exact RR.out _ _ r _ L2 w2 rfl LW.out QU.out Qe.out RJ.out.2.2.2.2.2.2.2 rM.out Yp.out (by have:=fS.out;simp at this;omega) Y8.out j4 dY.out dP.out (by omega)
     case measure=>simp only[intOf];omega
    ·have kf:((fo:Int)==0)=false:=by simp;omega
     have dP:=z7 (show MkS.dD r ((UW bs (MkS.jY n of bs s1) (MkS.qH n of fo bs s1)).put 5 0 [] [])=R by
      have:=fP.out;unfold MkS.dD at this ⊢;rw[MkS.qv,if_neg KB] at this;exact this)
     have hzb:((UW bs (MkS.jY n of bs s1) (MkS.qH n of fo bs s1)).put 5 0 [] []).sz+r.cw<=900000:=by
      obtain⟨-,q⟩:=MkS.go_le bs (MkS.jY n of bs s1) (MkS.qH n of fo bs s1) [] (fun k x=>MkS.C4 n of bs s1 k x);have:=(MkS.C7 n of fo bs s1).2;have hx:∀ p,(uU ⟨5,p,0,[],[]⟩).length=1:=fun p=>by simp[uU,gR,j8]
      rw[ji,hx];unfold UW;rw[MkS.ZT _ (fun s i=>gJ s i 0)];omega
     have LP:=z7 (Ml b0 n a fo of cl bs p L1 s1 wr hih D8.out DH.out KB Xq l9 hwk (by omega));clear gO Xq l9 hwk hih Aj Ev FE hd3 hd4 hd5 Ql Uy nz k2' k3' k4' k5' k6' k7' k8' Zv;go_wp2_with fail;refine LP.out.mono ?_;rintro e w2 ⟨rfl,L2,jC,j4,vG⟩;have Y8:=z7 jC;have dY:=z7 vG;clear jC vG LP;go_wp2;go_roundw
     case rel=>exact RR.out _ _ r _ L2 w2 rfl LW.out QU.out Qe.out RJ.out.2.2.2.2.2.2.2 rM.out Yp.out (by have:=fS.out;simp at this;omega) Y8.out j4 dY.out dP.out (by omega)
     case measure=>simp only[intOf];omega
  ·have vu:r = .nil:=by
    have:=Yp.out;have:=Qe.out
    cases r with
    | nil=>rfl
    | ug k a m r=>cases this
    | _=>simp only[Fo.len] at *;omega
   have HX:=z7 (show s1=R by rw[←fP.out,vu];rfl);have k1:¬(i:Int)<(M:Int):=by omega
   have k2:decide ((i:Int)<(M:Int))=false:=by simp;omega
   clear vu;go_wp2;refine bodyPost_ret (v := .tuple #[]) ?_ rfl ?_
   ·simp[results,results80,go_sem]
   rw[←HX.out];exact⟨rfl,L1,D8.out,⟨QL,Yh⟩,Uz.out⟩
theorem ny{lo hi:Nat}{w0:World}:∀ f:Fo,Hb lo hi w0 f:=by
 have key:∀ n (f:Fo),zy f<n->Hb lo hi w0 f:=by
  intro n;induction n with
  | zero=>intro f h;omega
  | succ n ih=>intro f h;exact Aq f (fun m hm=>ih m (by omega))
 intro f;exact key _ f (Nat.lt_succ_self _)
def Z7(w:World)(b n:Nat)(f:Nat->Option Nat):Prop :=
 ∃ D:DataW Unit,w.ownsMap prog 3 (plainElem prog 3) b n D/\∀ m:Nat,yv D (.int .i64 (m:Int))=(f m).isSome/\D.atKey (.int .i64 (m:Int)) (.lit (.int .i64 0)) = .lit (.int .i64 (((f m).getD 0:Nat):Int))
theorem Z7.lt{w:World}{b n:Nat}{f:Nat->Option Nat}(h:Z7 w b n f):b<w.heap.size:=by
 obtain⟨D,⟨es,clock,ho,_⟩,_⟩:=h;exact(zV.1 ho).1
theorem Z7.keep{w w':World}{b n:Nat}{f:Nat->Option Nat}(h:Z7 w b n f)(hb:w'.heap[b]? = w.heap[b]?):Z7 w' b n f:=by
 obtain⟨D,⟨es,clock,ho,rest⟩,h2⟩:=h;exact⟨D,⟨es,clock,hb.trans ho,rest⟩,h2⟩
theorem Z7.made(w:World):Z7 (w.alloc (.map #[] 0)) w.heap.size 0 (fun _=>none):=⟨.map [],zL w _ _ _,fun m=>⟨rfl,rfl⟩⟩
theorem Mr{m:Nat}(hm:m<=4000000000):(Lit.int .i64 (m:Int)).wf=true:=by simp[Lit.wf,IntKind.min,IntKind.max,IntKind.signed,IntKind.bits];omega
theorem Z7.look{w:World}{b n:Nat}{f:Nat->Option Nat}(h:Z7 w b n f)(m:Nat)(hm:m<=4000000000) :
  (Instr.lookup 124 (.map (some b)) (.int .i64 (m:Int)) true).run prog w = .ok (.tuple #[.int .i64 (((f m).getD 0:Nat):Int),.bool (f m).isSome]) w:=by
 obtain⟨D,h1,h3⟩:=h;obtain⟨v,ps,vB,hv⟩:=h1.look_ok (yx underlying3) underlying124 (z := .int .i64 0) (by first|rfl|simp[go_sem]) (plainElem_int underlying3 (by decide))
  (key := .int .i64 (m:Int)) (zm underlying3 (Mr hm))
 rw[(h3 m).1] at vB;rw[(h3 m).2] at hv;obtain⟨c,rfl,hc,_⟩:=plainElem_int_inv underlying3 hv;simp only[Prod.mk.injEq,DataW.lit.injEq,Lit.int.injEq] at hc;rw[vB,←hc.1.2]
theorem Z7.put{w:World}{b n:Nat}{f:Nat->Option Nat}(h:Z7 w b n f)(m:Nat)(hm:m<=4000000000)(k:Nat)(hk:k<=4000000000)(hn:n<=1000000000) :
  ∃ w',(zR 124 (.map (some b)) (.int .i64 (m:Int)) (.int .i64 (k:Int))).run prog w = .ok () w'/\Z7 w' b (n+1) (fun x=>if m=x then some k else f x)/\w.grownBy w' (some b):=by
 obtain⟨D,h1,h3⟩:=h;have hi:=h1.isMap;obtain⟨w',vB,xV,hg⟩:=h1.update (yx underlying3) underlying124 (by unfold maxLen;omega) (key := .int .i64 (m:Int)) (zm underlying3 (Mr hm))
  (plainElem_int underlying3 (q := .i64) (a:=(k:Int)) (Mr hk))
 refine⟨w',vB,⟨_,xV,fun x=>?_⟩,hg⟩;by_cases hx:m=x
 ·subst hx;simp only[↓reduceIte];exact⟨by rw[zO hi (show zf (.int .i64 (m:Int)) from trivial)];simp,by rw[zI hi (show zf (.int .i64 (m:Int)) from trivial)];simp⟩
 ·simp only[hx,↓reduceIte];have vx:(Lit.int .i64 (x:Int)) ≠ .int .i64 (m:Int):=fun q=>hx (by cases q;rfl)
  exact⟨by rw[zM vx];exact(h3 x).1,by rw[zH vx];exact(h3 x).2⟩
def fW(code:List jf):Nat->Nat->Option Nat
 | 0,_=>none
 | k+1,x=>if (code[k]?.map (·.pos))=some x then some k else fW code k x
theorem RS(t:TypeId)(k e:TypeId)(ht:prog.underlying t=some (.map k e))(n:Nat)(w:World):(yk t (some (.int .i64 (n:Int)))).run prog w = .ok (.map (some w.heap.size)) (w.alloc (.map #[] 0)):=by
 simp[yk,run_underlying ht,asInt,go_sem]
def yqb(p:Nat)(L:dE)(s:MkS)(w:World)(e:Ending)(w':World):Prop :=
 e = .returned (.tuple #[])/\∃ mb,w.heap.size<=mb/\w'.cell? ⟨L.q,0,none⟩=some L.vC/\w'.cell? ⟨L.q,1,none⟩=some L.vI/\w'.cell? ⟨L.q,2,none⟩=some (.map (some mb))/\Z7 w' mb s.code.length (fW s.code s.code.length)/\Fr (fun g=>g=L.q) (fun g=>g=L.q\/g=mb) w w'
theorem RA(p:Nat)(L:dE)(s:MkS)(w:World)(h:uz p L s w)(hl:s.code.length<=1000000)(hp:∀ x∈s.code,x.pos<=4000000000) :
  Calls prog 82 #[.pointer (some ⟨L.q,0,none⟩)] w (yqb p L s w):=by
 have HH:=z7 h;have HP:=z7 hp;obtain⟨ia,ic,JP⟩:=xZ h.cI;obtain⟨n,hn⟩:∃ n,s.code.length=n:=⟨_,rfl⟩;have q1:=h.q1;rw[JP,hn] at q1;have q1a:=fun o=>xQ q1 o
 have q2:=h.q2;have q2a:=fun o=>xQ q2 o
 have lq:=bX h.tq;have zqa:∀ o j,(w.alloc o).frozen? ⟨L.q,j,none⟩=false:=fun o j=>(World.frozen?_of_block (Below.heap_alloc _ _ _ lq)).trans (h.zq j)
 have hmh:=RS 124 _ _ underlying124 n;obtain⟨A,hA⟩:∃ A,(w.alloc (.map #[] 0)).setCell ⟨L.q,2,none⟩ (.map (some w.heap.size))=A:=⟨_,rfl⟩;have fA:Fr (fun g=>g=L.q) (fun g=>g=L.q) w A:=by rw[←hA];exact((Fr.refl _ _).alloc _).set _ (.inl rfl)
 have a0:A.cell? ⟨L.q,0,none⟩=some L.vC:=by rw[←hA,xf,if_neg (by simp)];exact xQ h.q0 _
 have a1:A.cell? ⟨L.q,1,none⟩=some L.vI:=by rw[←hA,xf,if_neg (by simp)];exact xQ h.q1 _
 have a2:A.cell? ⟨L.q,2,none⟩=some (.map (some w.heap.size)):=by rw[←hA];exact u9 (xQ h.q2 _) _
 have aM:Z7 A w.heap.size 0 (fun _=>none):=by
  rw[←hA];exact(Z7.made w).keep (Below.heap_setCell _ _ _ _ (by show w.heap.size≠L.q;omega))
 have xV:w.ownsRow 0 128 5 L.vI n (dH s.code L.rs):=by rw[←hn];exact h.cI
 obtain⟨mb,Ef⟩:∃ mb,w.heap.size=mb:=⟨_,rfl⟩;have V5:=z7 xV;have Fe:n<=1000000:=by rw[←hn];exact hl
 have HN:=z7 hn;have On:=z7 fA;have HVI:=z7 JP;have nI:∀ g,xX L.vI g->g≠L.q:=fun g hg=>(h.nI hg).2.1
 have ltI:∀ g,xX L.vI g->g<mb:=fun g hg=>by rw[←Ef];exact uS h.cI hg
 rw[JP,hn] at a1;rw[Ef] at a2 aM;clear h hp fA xV hn JP;go_enter func82,ntmps82;go_wp2_with fail;have Om:(w.alloc (.map #[] 0)).setCell ⟨L.q,2,none⟩ (.map (some mb))=A:=by rw[←Ef];exact hA
 rw[Om];have Ms:=z7 Ef;clear hA Om Ef q1 q1a q2 q2a zqa hmh;go_loopw [17] (fun kv wr=>∃ k,kv = .int .i64 (k:Nat)/\k<=n/\Z7 wr mb k (fW s.code k)/\Fr (fun g=>g=L.q) (fun g=>g=L.q\/g=mb) w wr/\wr.cell? ⟨L.q,0,none⟩=some L.vC/\wr.cell? ⟨L.q,1,none⟩=some (.slice ia n ic)/\wr.cell? ⟨L.q,2,none⟩=some (.map (some mb))) (fun kv _=>n - (intOf kv).toNat)
 case atStart=>exact⟨0,rfl,zY _,aM,On.out.tg (fun g hg=>hg.elim .inl (fun e => .inr (by rw[e,Ms.out];exact zg _))),a0,a1,a2⟩
 case round =>
  clear aM a0 a1 a2;obtain⟨k,rfl,hk,Xm,hf,c0,c1,c2⟩:=hrel;have HF:=z7 hf;by_cases xC:k<n
  ·obtain⟨x,hx⟩:∃ x,s.code[k]? = some x:=⟨_,zj (by rw[HN.out];exact xC)⟩;obtain⟨r,hr⟩:∃ r,L.rs[k]? = some r:=⟨_,zj (by have:=HH.out.rows.len;have:=HN.out;omega)⟩;obtain⟨I,ic2,hv,-,hI,Z0⟩:=vU V5.out (by omega);have OS:ia=some ⟨I,0,none⟩:=by have:=HVI.out;rw[hv] at this;cases this;rfl
   subst OS;have rI:xX L.vI I:=by rw[HVI.out];rfl
   have d1:w.cell? ⟨I,k*5+1,none⟩=some (.int .i64 x.pos):=by
    rw[Z0 _ (by omega),Uf _ _ HH.out.rows.len k 1 x r hx hr (by omega)];rfl
   have d2:=hf.cell d1 (nI I rI);have hxp:=HP.out x (List.mem_of_getElem? hx);obtain⟨w2,Yt,Ma,dV⟩:=(Xm.keep (w':=wr.drew) rfl).put x.pos hxp k (by omega) (by omega);have je:(fun y=>if x.pos=y then some k else fW s.code k y)=fW s.code (k+1):=by
    funext y;simp only[fW,hx,Option.map_some,Option.some.injEq]
   rw[je] at Ma;have vG:Fr (fun g=>g=mb) (fun g=>g=mb) wr w2:=(show Fr (fun g=>g=mb) (fun g=>g=mb) wr.drew w2 from⟨dV.os,dV.tape,dV.output,dV.size,fun k hk hn=>dV.block k hk (fun e=>hn (zv e)),fun _ q => .inl q⟩).und;have hq:L.q≠mb:=by have:=Ms.out;omega
   have He:=z7 Ma;have dY:=z7 (hf.over vG (by rintro g rfl;exact .inr (by rw[Ms.out];exact zg _)));have e0:=vG.cell c0 hq;have e1:=vG.cell c1 hq;have e2:=vG.cell c2 hq;have d3:=vG.cell d2 (show I≠mb by have:=ltI I rI;omega);have k3:(k:Int)<(n:Int):=by omega
   have k4:decide ((k:Int)<(n:Int))=true:=by simp;omega
   clear hf Xm Ma dV vG Z0 hx hr hv d1;go_wp2_with fail;refine rt (fun W':World=>W'.cell? ⟨L.q,1,none⟩=some (.slice (some ⟨I,0,none⟩) n ic)/\W'.cell? ⟨L.q,2,none⟩=some (.map (some mb))/\W'.cell? ⟨I,k*5+1,none⟩=some (.int .i64 x.pos)) (zE 13) 1 ⟨c1,c2,d2⟩ ?_;(iterate 13 (refine ty ?_;try simp only[pl]))
   refine xq ?_;refine xg 13 (by kernel_rfl) rfl (fun J hJ=>?_);go_simp;refine hJ.out _ _ ⟨e1,e2,d3⟩ fun _=>?_
   clear hJ J;refine wpAnyH_done (by kernel_rfl) ?_ _;clear Yt;go_wp2;go_roundw
   case rel=>exact⟨k+1,by go_num,by omega,He.out,dY.out,e0,e1,e2⟩
   case measure=>simp only[intOf];omega
  ·have DJ:k=n:=by omega
   have HK:=z7 (show Z7 wr mb s.code.length (fW s.code s.code.length) by rw[HN.out];rw[DJ] at Xm;exact Xm);have k3:¬(k:Int)<(n:Int):=by omega
   have k4:decide ((k:Int)<(n:Int))=false:=by simp;omega
   clear hf Xm DJ;go_wp2;refine bodyPost_ret (v := .tuple #[]) ?_ rfl ?_
   ·simp[results,results82,go_sem]
   exact⟨rfl,mb,by rw[Ms.out];exact zg _,c0,by rw[HVI.out,HN.out];exact c1,c2,HK.out,HF.out⟩
end Go.Proofs.YthpldolmpinnhaaGreatDoor
