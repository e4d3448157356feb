import Derived.Test.YthpldolmpinnhaaGreatDoorJF16
import Derived.Laws.EntriesVeiled
set_option maxHeartbeats 64000000
open Go.Lib renaming hid→z7,trimPrefix→zJ,hasPrefix→zF
open List renaming replicate→z8,getElem?_eq_getElem→zj,getElem?_append_right→zQ,lookup_cons→zD,range→zE,length_append→zN,length_cons→zP,mem_append→zS,getElem?_eq_some_iff→zW,getElem?_append_left→za,mem_cons_of_mem→zc,mem_cons_self→ze,filter_append→zi,nodup_append→zn,idxOf_append→zo,mem_filter→zw
open SizeOf renaming sizeOf→zy
open Go.World renaming block_lt_of_cell?→zx,ownsMap_made→zL
open Option.some renaming inj→zv
open Go.Instr renaming typeAssert→zu,mapUpdate→zR,makeMap→yk
open Bool renaming and_eq_true→zk
open Nat renaming le_refl→zg,lt_irrefl→zZ,zero_le→zY,le_trans→zX,lt_of_lt_of_le→zl
open Go.WideAt renaming IsKeyLit→zf
open Array renaming getElem?_eq_some_iff→zV,toList_inj→zh
open Go.WideMaps renaming keyOf_string_mk→zU
open Go.Maps renaming string_keyed→zG,atKey_put_other→zH,atKey_put_same→zI,has_put_other→zM,has_put_same→zO,keyOf_int_mk→zm,int_keyed→yx,has→yv
open Go.IntKind renaming signed→zr,bits→yz,min→yu,max→yq
open ByteArray renaming mk→zt
open Go.Builtin renaming len_→yy
open Go.Proofs.Tryz
namespace Go.Proofs.YthpldolmpinnhaaGreatDoor
open Go Go.RowKit
set_option maxRecDepth 10000
theorem Fr.over{F F' G G':Nat->Prop}{w w1 w2:World}(h:Fr F F' w w1)(k:Fr G G' w1 w2)(hg:∀ q,G q->F q\/w.heap.size<=q):Fr F F' w w2 :=
 ⟨k.os.trans h.os,k.tape.trans h.tape,k.output.trans h.output,zX h.size k.size,fun i hi hn=>(k.keep i (zl hi h.size) (fun q=>(hg i q).elim hn (by omega))).trans (h.keep i hi hn),h.fp⟩
structure YB(lo hi:Nat)(w0:World)(B:Nat)(w:World):Prop where
 keep:vQ lo hi w0 w
 hB:hi<=B
 fo:jk w
 na:qd w
 g1:2<B
 g2:0<B
theorem YB.fr{lo hi B:Nat}{w0 w w':World}{F F':Nat->Prop}(h:YB lo hi w0 B w)(hf:Fr F F' w w')(hF:∀ k,F k->B<=k):YB lo hi w0 B w':=by
 have hb:=h.hB;have hk:=h.keep;refine⟨⟨zX hk.1 hf.size,fun k a b=>(hf.keep k (by have:=hk.1;omega) (fun q=>by have:=hF k q;omega)).trans (hk.2 k a b)⟩,hb,h.fo.fr hf hF h.g1,fun j hj=>hf.cell (h.na j hj) (fun q=>by have:=hF _ q;have:=h.g2;simp only at *;omega),h.g1,h.g2⟩
def Ia(lo hi:Nat)(w0:World)(f:Fo):Prop:=∀ p L s w a c vs,uz p L s w->YB lo hi w0 L.B w->U5 lo hi w0 a vs->xY lo hi w0 vs f->f.vG=true->f.wf 2000000=true->f.YF->f.len<=2000000->s.sz+f.cw<=900000 ->
 Calls prog 80 #[.pointer (some ⟨p,0,none⟩),.slice a f.len c] w (MQ p L (MkS.dS f s) w)
structure zuq(N p:Nat)(s0:MkS)(keys:List Wd)(bg:Wd->MkS->MkS)(v:Value)(I:di->World->Prop):Prop where
 fn:∃ k cap,v = .func (.func k) #[] cap/\(∀ args w,(callFunc k args).run prog w = .ok (.enter k args) w) /\
  ∀ L s W key (a:Nat) ma mn mc,uz p L s W->I L W->s0.le s->s.sz<=900000->key∈keys->Calls prog k (#[.agg #[xk key,.int .i64 (a:Nat),.slice ma mn mc]]++cap) W (I3 p L (bg key s) W)
 fr:∀ L L' W W',I L W->Fr (L.has p) (L'.has p) W W'->I L' W'
 al:∀ L W W' F F',I L W->Fr F F' W W'->(∀ k,F k->N<=k)->I L W'
 le:∀ k s,s.le (bg k s)/\(bg k s).sz=s.sz
def gN(w:World)(p:Nat)(L:di)(s:MkS)(ls:List Nat)(BX:List (Nat×Nat)):Prop :=
 BX.length=ls.length/\∀ (n i:Nat) (x:Nat×Nat),ls[n]? = some i->BX[n]? = some x->ke w p i x.1 x.2/\¬L.has p x.1/\¬L.has p x.2/\∃ y,s.code[i]? = some y/\y.tg.length=1
theorem ke.fr{w w':World}{F F':Nat->Prop}{p i b c:Nat}(h:ke w p i b c)(hf:Fr F F' w w')(h1:¬F b)(h2:¬F c):ke w' p i b c:=⟨hf.cell h.pb h1,hf.cell h.pc h2,(uX (hf.keep b (zx w _ h.pb) h1)).trans h.tb,(uX (hf.keep c (zx w _ h.pc) h2)).trans h.tc⟩
theorem ke.lt{w:World}{p i b c:Nat}(h:ke w p i b c):b<w.heap.size/\c<w.heap.size:=⟨zx w _ h.pb,zx w _ h.pc⟩
theorem gN.fr{w w':World}{p:Nat}{L L':di}{s s':MkS}{ls:List Nat}{BX:List (Nat×Nat)}(h:gN w p L s ls BX)(hf:Fr (L.has p) (L'.has p) w w')(hs:s.le s'):gN w' p L' s' ls BX :=
 ⟨h.1,fun n i x h1 h2=>by
  obtain⟨a,b,c,y,d,e⟩:=h.2 n i x h1 h2;obtain⟨y2,d2,e2⟩:=hs i y d;exact⟨a.fr hf b c,fun q=>(hf.fp _ q).elim b (by have:=a.lt;omega),fun q=>(hf.fp _ q).elim c (by have:=a.lt;omega),y2,d2,e2.trans e⟩⟩
theorem gN.ty{w w':World}{F F':Nat->Prop}{p:Nat}{L:di}{s:MkS}{ls:List Nat}{BX:List (Nat×Nat)}(h:gN w p L s ls BX)(hf:Fr F F' w w')(hF:∀ k,F k->Zc w k=some 189):gN w' p L s ls BX :=
 ⟨h.1,fun n i x h1 h2=>by
  obtain⟨a,b,c,d⟩:=h.2 n i x h1 h2;exact⟨a.fr hf (fun q=>by have:=hF _ q;rw[a.tb] at this;cases this) (fun q=>by have:=hF _ q;rw[a.tc] at this;cases this),b,c,d⟩⟩
theorem gN.more{w:World}{p:Nat}{L:di}{s:MkS}{ls:List Nat}{BX:List (Nat×Nat)}{i b c:Nat}{y:j8}(h:gN w p L s ls BX)(hl:ke w p i b c)(hb:¬L.has p b)(hc:¬L.has p c)(hy:s.code[i]? = some y)(h1:y.tg.length=1) :
  gN w p L s (ls++[i]) (BX++[(b,c)]):=by
 refine⟨by simp[h.1],fun n j x e1 e2=>?_⟩;by_cases hn:n<ls.length
 ·rw[za hn] at e1;rw[za (by have:=h.1;omega)] at e2;exact h.2 n j x e1 e2
 ·have dC:n=ls.length:=by have:=(zW.1 e1).1;simp at this;omega
  rw[dC,zQ (zg _)] at e1;rw[dC,zQ (by have:=h.1;omega),h.1] at e2;simp at e1 e2;subst e1 e2;exact⟨hl,hb,hc,y,hy,h1⟩
theorem SL:Zq prog 325 189 .nilFunc 1 8 :=
 ⟨underlying325,info_parts (by kernel_rfl),rfl,by decide,by decide⟩
def ag(BX:List (Nat×Nat)):List Value:=BX.map fun x=>bM x.1 x.2
theorem go_leg(k:Wd)(a:Nat)(m r:Fo)(bg:Wd->MkS->MkS)(s:MkS)(ls:List Nat) :
  MkS.qx (.uf k a m r) bg s ls=MkS.qx r bg ((MkS.dS m (bg k s)).put 11 0 [] [0]) (ls++[(MkS.dS m (bg k s)).code.length]):=rfl
theorem SM(n:Nat):(madeCells (Value.int .i64 0).cells (n*1)).toList=Zg (z8 n 0):=by
 apply List.ext_getElem
 ·simp[madeCells,Zg]
 ·intro j h1 h2;simp[madeCells,Zg,Value.cells,Nat.mod_one]
theorem VZ(n:Nat)(w:World)(hn:n<=1000000):∃ w',(Instr.makeSlice 39 (.int .i64 (n:Int)) (.int .i64 (n:Int))).run prog w = .ok (.slice (some ⟨w.heap.size,0,none⟩) n n) w'/\uo w' (.slice (some ⟨w.heap.size,0,none⟩) n n) (z8 n 0)/\Fr xH xH w w':=by
 obtain⟨i,hi,hz,h2,h3⟩:=Qw.info;obtain⟨w',hr,ho,hg⟩:=run_makeSlice_full (P:=prog) (w:=w) 0 39 3 i _ 1 Qw.under hi hz h2 .i64 .i64 n (by omega) (by rw[h3];omega) (by unfold maxLen;omega) (zY _);rw[SM] at ho;refine⟨w',hr,by simpa[uo] using ho,hg.os,hg.tape,hg.output,hg.size,fun k hk _=>hg.block k hk (by simp),fun _ q=>q.elim⟩
theorem Kb{lo hi:Nat}{w0 w:World}{ba:Option Addr}{ws us vt:List Value}{k0:Wd}{a0 i ml mc:Nat}{ma:Option Addr}(hk:vQ lo hi w0 w)(Kd:U5 lo hi w0 ba ws)(Vl:us.length=i*3)(Vn:ws=us++(xk k0 :: .int .i64 (a0:Nat) :: .slice ma ml mc::vt)) :
  ∃ g o,ba=some ⟨g,o,none⟩/\w.cell? ⟨g,o+i*3,none⟩=some (xk k0)/\w.cell? ⟨g,o+i*3+1,none⟩=some (.int .i64 (a0:Nat))/\w.cell? ⟨g,o+i*3+2,none⟩=some (.slice ma ml mc):=by
 have VG:∀ j v,[xk k0,.int .i64 (a0:Nat),.slice ma ml mc][j]? = some v->j<3->ws[i*3+j]? = some v:=by
  intro j v hj h3;rw[Vn,←Vl,zQ (by omega),Nat.add_sub_cancel_left,←hj];match j,h3 with
  | 0,_=>rfl
  | 1,_=>rfl
  | 2,_=>rfl
 have hc:∀ j v,ws[i*3+j]? = some v->∃ g o,ba=some ⟨g,o,none⟩/\w.cell? ⟨g,o+(i*3+j),none⟩=some v:=fun j v h=>by
  obtain⟨h1,h2⟩:=zW.1 h;obtain⟨g,o,e,g1,g2,c⟩:=Kd _ h1;rw[h2] at c;exact⟨g,o,e,xS hk c g1 g2⟩
 obtain⟨g,o,rfl,c0⟩:=hc 0 _ (VG 0 _ rfl (by omega));obtain⟨g1,o1,e1,c1⟩:=hc 1 _ (VG 1 _ rfl (by omega));obtain⟨g2,o2,e2,c2⟩:=hc 2 _ (VG 2 _ rfl (by omega))
 cases e1
 cases e2;exact⟨g,o,rfl,c0,c1,c2⟩
def Qv(bs:Fo)(bg:Wd->MkS->MkS)(s:MkS):MkS:=(MkS.qx bs bg s []).2.foldl (fun s i=>s.u7 i 0) (MkS.qx bs bg s []).1
theorem Ge{lo hi:Nat}{w0:World}(b0:Nat)(n:Wd)(a fo:Nat)(of:Wd)(cl:Nat)(bs:Fo)(p:Nat)(L:di)(s:MkS)(bg:Wd->MkS->MkS)(v:Value)(I:di->World->Prop)(w:World)
  (ih:∀ m:Fo,zy m<zy bs->Ia lo hi w0 m) (h:uz p L s w) (he:YB lo hi w0 L.B w)
  (XI:xY lo hi w0 [.iface 177 (.pointer (some ⟨b0,0,none⟩))] (.br n a fo of cl bs .nil)) (hL:bs.uv=true) (hc:bs.YF) (hw:bs.wf 2000000=true) (hn:bs.len<=2000000) (hs:s.sz+bs.gw<=900000)
  (hb:zuq w.heap.size p s bs.keys bg v I) (hI:I L w) :
  Calls prog 161 #[.pointer (some ⟨p,0,none⟩),.pointer (some ⟨b0,0,none⟩),v] w (MQ p L (Qv bs bg s) w):=by
 obtain⟨vt,b',ba,bc,ws,Nl,xB,xF,gh,qX,jJ,Cn,DZ,Mo,Kd,UP,_⟩:=XI
 cases Nl;have c4:=xS he.keep DZ xB xF;obtain⟨k,cap,rfl,CQ,vY⟩:=hb.fn;have HH:=z7 h;have HE:=z7 he;have Mp:=z7 Kd;have Wn:=z7 UP;have HL:=z7 hL;have HC:=z7 hc;have HW:=z7 hw;have HB:=z7 hb;have HI:=z7 hI;have ur:=z7 vY;have oW:=z7 ih;have HS:=z7 hs;obtain⟨R,hR⟩:=xX (MkS.qx bs bg s []);have HR:=z7 hR;have hbR:Qv bs bg s=R.2.foldl (fun s i=>s.u7 i 0) R.1:=by unfold Qv;rw[hR]
 rw[hbR];obtain⟨M,hM⟩:=xX bs.len;have HM:=z7 hM;rw[hM] at c4 hn;clear h he Kd UP hL hc hw hb hI vY ih hs hR hbR hM gh qX jJ Cn DZ Mo;go_enter func161,ntmps161;go_wp2_with fail;go_loopw [6,16] (fun lv iv wr=>∃ i us xs r s1 L1 ls BX,iv = .int .i64 (i:Nat)/\i<=M/\xY lo hi w0 xs r/\r.uv=true/\r.YF/\r.wf 2000000=true/\us.length=i*3/\ws=us++xs/\i+r.len=M/\zy r<=zy bs/\(∀ k∈r.keys,k∈bs.keys) /\
  uz p L1 s1 wr/\(L1.q=L.q/\L1.B=L.B)/\Fr (L.has p) (L1.has p) w wr/\I L1 wr/\s.le s1/\s1.sz+r.gw<=900000/\gN wr p L1 s1 ls BX/\wr.ownsRow 0 189 1 lv ls.length (ag BX)/\(∀ g,xZ lv g->w.heap.size<=g/\¬L1.has p g)/\ls.length=i/\MkS.qx r bg s1 ls=R) (fun _ iv _=>M - (intOf iv).toNat)
 case atStart =>
  exact⟨0,[],ws,bs,s,L,[],[],rfl,zY _,Wn.out,HL.out,HC.out,HW.out,rfl,rfl,by have:=HM.out;omega,zg _,fun _ q=>q,HH.out,⟨rfl,rfl⟩,Fr.refl _ _,HI.out,s.le_refl,HS.out,⟨rfl,fun n i x q=>by simp at q⟩,World.ownsRow_nil _ _ _ _,(fun g q=>by cases q),rfl,HR.out⟩
 case round =>
  obtain⟨i,us,xs,r,s1,L1,ls,BX,rfl,hiM,gp,ZD,PT,Cl,Vl,Vn,kS,qP,Q5,Vc,⟨K6,XX⟩,uy,UN,zuk,uL,wI,vD,wL,zuj,jM⟩:=hrel;have Cp:YB lo hi w0 L1.B wr:=by rw[XX];exact HE.out.fr uy HH.out.lo
  obtain⟨la,lc,rfl⟩:=xd vD;by_cases xD:i<M
  ·cases r with
   | nil=>exfalso;simp[Fo.len] at kS;omega
   | text t r=>cases ZD
   | hash r=>cases ZD
   | put n a r=>cases ZD
   | num n a r=>cases ZD
   | br n a fo of cl bs r=>cases ZD
   | uf k0 a0 m0 r0 =>
    obtain⟨R5,ma,mc,ms,rfl,XH,aq,Qx⟩:=gp;obtain⟨g2,o2,rfl,e0,e1,e2⟩:=Kb Cp.keep Mp.out Vl Vn;have Dc:=z7 Vc;have Bv:=z7 Cp;have VD:=z7 uy;have Kf:=z7 UN;have zlq:=z7 zuk;have HLP:=z7 wI;have qV:=z7 vD;have p7:=z7 wL;have b8:=z7 jM;have HLR:=z7 ZD;have SN:=z7 PT;have Qz:=z7 Cl;have Cm:=z7 Vl;have Wo:=z7 Vn;have p8:=z7 Q5;have Kg:=z7 XH;have HMN:=z7 aq;have Ql:=z7 Qx;have Xj:=z7 kS;have du:=z7 qP;have gC:=z7 uL;have HLS:=z7 zuj;have k3:(i:Int)<(M:Int):=by omega
    have k4:decide ((i:Int)<(M:Int))=true:=by simp;omega
    clear Vc Cp uy UN zuk wI vD wL jM ZD PT Cl Vl Vn Q5 XH aq Qx kS qP uL zuj;go_wp2_with fail;obtain⟨wA,hwA⟩:=xX (wr.alloc (.cells #[xk k0,.int .i64 (a0:Nat),.slice ma m0.len mc] 183));have fA:Fr xH xH wr wA:=by rw[←hwA];exact(Fr.refl _ _).alloc _
    have cA:=xu wr #[xk k0,.int .i64 (a0:Nat),.slice ma m0.len mc] 183 (0,0) 2;rw[hwA] at cA ⊢;clear hwA;have af:=Dc.out.fr fA (fun _ q=>q.elim);have JC:k0∈bs.keys:=p8.out k0 (by simp[Fo.keys]);have uL:=gC.out;simp only[Fo.gw] at uL;refine(ur.out L1 s1 wA k0 a0 ma m0.len mc af (HB.out.al _ _ _ _ _ Kf.out fA (fun _ q=>q.elim)) zlq.out (by omega) JC).mono ?_;rintro e w2 ⟨rfl,jI,vu⟩;obtain⟨N7,hbz⟩:=HB.out.le k0 s1;have nA:¬L1.has p wr.heap.size:=fun q=>zZ _ (Dc.out.lt q)
    have c2:=vu.cell cA nA;have f12:Fr (L1.has p) (L1.has p) wr w2:=(fA.wide (fun _ q=>q.elim)).trans vu;have Co:YB lo hi w0 L1.B w2:=Bv.out.fr f12 Dc.out.lo;have PT:=SN.out;have ZK:(decide (k0.length<=4000001) && m0.vG && decide (m0.len<=2000000) && m0.wf 2000000 && r0.wf 2000000)=true:=Qz.out;simp only[zk,decide_eq_true_eq] at ZK;have zlk:zy m0<zy bs:=by have:=du.out;simp at this;omega
    have SP:=z7 (oW.out m0 zlk p L1 (bg k0 s1) w2 ma mc ms jI Co Kg.out HMN.out ZK.1.1.1.2 ZK.1.2 PT.2.1 ZK.1.1.2 (by omega));have F12:=z7 f12;have wM:=z7 ZK.2;clear jI vu f12 Co PT ZK zlk cA fA af;go_wp2_with fail;refine SP.out.mono ?_;rintro e w3 ⟨rfl,L2,Ke,⟨j9,JV⟩,jx⟩;have DY:=z7 Ke;have XY:=z7 jx;clear Ke jx SP c2;obtain⟨w4,BV,fw,YY⟩:=VZ 1 w3 (by omega);rw[show((1:Nat):Int)=1 from rfl] at BV;have Kc:=DY.out.fr YY (fun _ q=>q.elim);have wN:YB lo hi w0 L2.B w3:=by
     have:=(Bv.out.fr F12.out Dc.out.lo).fr XY.out Dc.out.lo;rw[JV];exact this
    have he4:YB lo hi w0 L2.B w4:=wN.fr YY (fun _ q=>q.elim);obtain⟨s2,ue⟩:=xX (MkS.dS m0 (bg k0 s1));rw[ue] at Kc DY;have hmz:=NW m0 (bg k0 s1);rw[ue] at hmz;have hx:(uq ⟨11,s2.pos,0,[],z8 1 0⟩).length=3:=by simp[uq,gB,kG,uY]
    have Uf:s2.sz<=900000:=by omega
    unfold MkS.sz at Uf;have HP:=z7 (dh p L2 s2 11 0 [] (z8 1 0) (.slice none 0 0) (.slice (some ⟨w3.heap.size,0,none⟩) 1 1) w4 Kc (uo.nil _) fw (fun g hg=>by cases hg) (fun g hg q=>by cases hg;exact zZ _ (DY.out.lt q)) (fun g hg q=>by cases q)
     (fun g hg=>by rcases hg with hg|hg<;>cases hg;have:=DY.out.base;show L2.B<=w3.heap.size;omega)
     ⟨(by decide:11<12),by simp,by simp,by simp,by simp,rfl⟩ he4.fo he4.g1 (by omega) (by omega) (by omega))
    have N5:=z7 YY;have yf6:=z7 ue;have HMZ:=z7 hmz;clear Kc wN he4 fw YY hmz hx ue;go_wp2_with fail;refine HP.out.mono ?_;rintro e w5 ⟨b,c,rfl,Ic,ju,Mo,L3,JW,⟨XJ,De⟩,JA,nb5,nc5⟩;have Su:=z7 JW;have Sq:=z7 JA;have JF:=z7 Ic;clear HP JW JA Ic;have FA:=z7 (show Fr (L1.has p) (L3.has p) wr w5 from(((F12.out.trans XY.out).trans (N5.out.wide (fun _ q=>q.elim))).tr Sq.out (fun q hq=>by
     rcases hq with hq|hq|hq
     ·exact(F12.out.trans XY.out).fp q hq
     ·cases hq
     ·cases hq;exact .inr (F12.out.trans XY.out).size)))
    have hro:=FA.out.own qV.out (fun g hg=>(p7.out g hg).2);obtain⟨ln,kS⟩:=xX ls.length;rw[kS] at hro qV p7 ⊢;have yf7:ln<=2000000:=by have:=HLS.out;omega
    have Jn:=z7 hro;have au:=z7 kS;clear hro kS;go_wp2_with (at_builtin;refine CY SL [_] 1 Jn.out (by omega) ?_);intro v6 w6 Qm bL;have n3:∀ g,xZ (.slice la ln lc) g->¬L3.has p g:=fun g hg q=>(FA.out.fp g q).elim (p7.out g hg).2 (by have:=ud qV.out hg;omega)
    have DD:s1.le s2:=MkS.le_trans (HB.out.le k0 s1).1 HMZ.out.1;have hl3:=MkS.le_trans DD (MkS.bA s2 11 0 [] (z8 1 0));have Mr:=jn s2 11 0 [] (z8 1 0);have Iq:(uq ⟨11,s2.pos,0,[],z8 1 0⟩).length=3:=by simp[uq,gB,kG,uY]
    have Ms:=HMZ.out.2;have G1:=z7 (Su.out.fr bL n3);have G2:=z7 ((VD.out.trans FA.out).over bL (fun q hq => .inr (p7.out q hq).1));have G3:=z7 (HB.out.al _ _ _ _ _ (HB.out.fr _ _ _ _ Kf.out FA.out) bL (fun q hq=>(p7.out q hq).1));have G4:=z7 (((HLP.out.fr FA.out hl3).more JF.out nb5 nc5 (i:=s2.code.length) (y:=⟨11,s2.pos,0,[],z8 1 0⟩) (by simp[MkS.put]) (by simp)).ty bL (fun q hq=>qf Jn.out hq));have G5:=z7 (show ∀ g,xZ v6 g->w.heap.size<=g/\¬L3.has p g from fun g hg=>(bL.fp g hg).elim (fun q=>⟨(p7.out g q).1,n3 g q⟩) (fun q=>⟨zX (VD.out.trans FA.out).size q,fun e=>by have:=Su.out.lt e;omega⟩));obtain⟨a6,c6,rfl⟩:=xd Qm;have wx:=z7 Qm;clear Qm bL n3 BV;have hzb:=(HB.out.le k0 s1).2;go_wp2;go_roundw
    case rel =>
     refine⟨i+1,us++[xk k0,.int .i64 (a0:Nat),.slice ma m0.len mc],R5,r0,s2.put 11 0 [] (z8 1 0),L3,ls++[s2.code.length],BX++[(b,c)],by go_num,by omega,Ql.out,HLR.out,SN.out.2.2,wM.out,by simp[Cm.out];omega,by rw[Wo.out];simp,by have:=Xj.out;simp only[Fo.len] at this;omega,by have:=du.out;simp at this;omega,fun k hk=>p8.out k (by simp[Fo.keys,hk]),G1.out,⟨by rw[XJ,j9,K6],by rw[De,JV,XX]⟩,G2.out,G3.out,MkS.le_trans zlq.out hl3,by omega,G4.out,?_,G5.out,by rw[zN,HLS.out];rfl,?_⟩
     ·have:=wx.out;rw[←au.out] at this ⊢;simpa[ag] using this
     ·have:=b8.out;rw[go_leg,yf6.out] at this;exact this
    case measure=>simp only[intOf];omega
  ·have vv:MkS.qx r bg s1 ls=(s1,ls):=by
    cases r with
    | nil=>rfl
    | text t r=>cases ZD
    | hash r=>cases ZD
    | put n a r=>cases ZD
    | num n a r=>cases ZD
    | br n a fo of cl bs r=>cases ZD
    | uf k0 a0 m0 r0=>exfalso;simp only[Fo.len] at kS;omega
   obtain rfl:(s1,ls)=R:=vv.symm.trans jM;have Dc:=z7 Vc;have VD:=z7 uy;have HLP:=z7 wI;have qV:=z7 vD;have p7:=z7 wL;have gC:=z7 uL;obtain⟨ln,zud⟩:=xX ls.length;rw[zud] at qV p7 ⊢;have yf7:ln<=2000000:=by omega
   have Xj:=z7 zud;clear Vc Cp uy UN zuk wI vD wL jM ZD PT Cl Vl Vn Q5 kS qP uL gp vv zud zuj;go_wp2_with fail;go_loopw [37] (fun jv wr2=>∃ j s2,jv = .int .i64 (j:Nat)/\j<=ln/\uz p L1 s2 wr2/\Fr (L1.has p) (L1.has p) wr wr2/\s2=(ls.take j).foldl (fun s i=>s.u7 i 0) s1/\gN wr2 p L1 s2 ls BX/\s2.sz<=900000) (fun jv _=>ln - (intOf jv).toNat)
   case atStart=>exact⟨0,s1,rfl,zY _,Dc.out,Fr.refl _ _,rfl,HLP.out,by have:=gC.out;omega⟩
   case round =>
    obtain⟨j,s2,rfl,hj,jI,vu,ue,PW,Uf⟩:=hrel;have YZ:=z7 jI;have fy:=z7 vu;have nE:=z7 PW;have dv:=z7 ue;by_cases Zj:j<ln
    ·obtain⟨ij,hij⟩:∃ ij,ls[j]? = some ij:=⟨_,zj (by have:=Xj.out;omega)⟩;obtain⟨⟨b,c⟩,DN⟩:∃ x,BX[j]? = some x:=⟨_,zj (by have:=Xj.out;have:=HLP.out.1;omega)⟩;obtain⟨BU,-,-,y,hy,hy1⟩:=PW.2 j ij (b,c) hij DN;have hro:=vu.own qV.out (fun g hg=>(p7.out g hg).2);obtain⟨g,gc,hve,-,-,bV⟩:=xl hro (by omega)
     cases hve;have qX:wr.cell? ⟨g,j,none⟩=some (bM b c):=by
      rw[bV j (by omega)];simp[ag,DN]
     have zlb:s2.code.length<=1000000:=by unfold MkS.sz at Uf;omega
     have HLA:=z7 (Uc p L1 s2 ij 0 b c y wr jI BU hy (by omega) zlb (by omega));have HIJ:=z7 hij;have k3:(j:Int)<(ln:Int):=by omega
     have k4:decide ((j:Int)<(ln:Int))=true:=by simp;omega
     clear jI vu PW ue BU hy hro bV hij DN;go_wp2_with fail;refine HLA.out.mono ?_;rintro e w3 ⟨rfl,Ke,jx⟩;have DY:=z7 Ke;have XY:=z7 jx;clear Ke jx HLA;go_wp2;go_roundw
     case rel =>
      refine⟨j+1,s2.u7 ij 0,by go_num,by omega,DY.out,fy.out.trans XY.out,?_,nE.out.fr XY.out (s2.ZF _ _),by rw[gI];exact Uf⟩;rw[List.take_add_one,HIJ.out];simp[dv.out]
     case measure=>simp only[intOf];omega
    ·have HE2:=z7 (show s2=ls.foldl (fun s i=>s.u7 i 0) s1 by rw[ue,List.take_of_length_le (by have:=Xj.out;omega)]);have k3:¬(j:Int)<(ln:Int):=by omega
     have k4:decide ((j:Int)<(ln:Int))=false:=by simp;omega
     clear jI vu PW ue;go_wp2;refine bodyPost_ret (v := .tuple #[]) ?_ rfl ?_
     ·simp[results,results161,go_sem]
     rw[←HE2.out];exact⟨rfl,L1,YZ.out,⟨K6,XX⟩,VD.out.trans fy.out⟩
def Ud(w:World)(b n:Nat)(f:Wd->Option Nat):Prop :=
 ∃ D:DataW Unit,w.ownsMap prog 9 (plainElem prog 3) b n D/\Maps.size D=n/\∀ m:Wd,yv D (.string m)=(f m).isSome/\D.atKey (.string m) (.lit (.int .i64 0)) = .lit (.int .i64 (((f m).getD 0:Nat):Int))
theorem Ud.g{w:World}{b n:Nat}{f:Wd->Option Nat}(h:Ud w b n f):kW 3 w b n f:=by
 obtain⟨D,h1,-,h3⟩:=h;exact⟨D,h1,h1.isMap,h3⟩
theorem Ud.made(w:World):Ud (w.alloc (.map #[] 0)) w.heap.size 0 (fun _=>none):=⟨.map [],zL w _ _ _,rfl,fun m=>⟨rfl,rfl⟩⟩
theorem Ud.fr{w w':World}{F F':Nat->Prop}{b n:Nat}{f:Wd->Option Nat}(h:Ud w b n f)(hf:Fr F F' w w')(hb:¬F b):Ud w' b n f:=by
 have hl:=h.g.lt;obtain⟨D,⟨es,clock,ho,rest⟩,h2⟩:=h;exact⟨D,⟨es,clock,(hf.keep b hl hb).trans ho,rest⟩,h2⟩
theorem Ud.len{w:World}{b n:Nat}{f:Wd->Option Nat}(h:Ud w b n f)(ty:TypeId):(yy #[185] ty #[.map (some b)]).run prog w = .ok (.int .i64 (n:Nat)) w:=by
 obtain⟨D,h1,rfl,_⟩:=h;exact h1.len underlying185 ty
theorem Ud.put{w:World}{b n:Nat}{f:Wd->Option Nat}(h:Ud w b n f)(m:Wd)(hm:m.length<=5000000)(k:Nat)(hk:k<=1000000000)(hn:n<=1000000000)(hf:f m=none) :
  ∃ w',(zR 185 (.map (some b)) (xk m) (.int .i64 (k:Int))).run prog w = .ok () w'/\Ud w' b (n+1) (fun x=>if m=x then some k else f x)/\w.grownBy w' (some b):=by
 obtain⟨D,h1,h2,h3⟩:=h;have hi:=h1.isMap;have hti:=h1.tidy (zG underlying9);obtain⟨w',vF,xV,hg⟩:=h1.update (zG underlying9) underlying185 (by unfold maxLen;omega) (key:=xk m) (zU (s:=⟨m.toArray⟩) underlying9 (by rw[size_mk];unfold maxLen;omega))
  (plainElem_int underlying3 (q := .i64) (a:=(k:Int)) (by simp[Lit.wf,yu,yq,zr,yz];omega))
 rw[toList_mk] at xV;refine⟨w',vF,⟨_,xV,?_,fun x=>?_⟩,hg⟩
 ·rw[Maps.size_put hti,(h3 m).1,hf];simp[h2]
 ·by_cases hx:m=x
  ·subst hx;simp only[↓reduceIte];exact⟨by rw[zO hi (show zf (.string m) from trivial)];simp,by rw[zI hi (show zf (.string m) from trivial)];simp⟩
  ·simp only[hx,↓reduceIte];have xc:(Lit.string x) ≠ .string m:=fun q=>hx (by cases q;rfl)
   exact⟨by rw[zM xc];exact(h3 x).1,by rw[zH xc];exact(h3 x).2⟩
structure ZN(N p i4 pb mb:Nat)(kv:Value)(acc:List Nat)(done:List Wd)(L:di)(w:World):Prop where
 k0:w.cell? ⟨i4,0,none⟩=some (.int .i64 10)
 k1:w.cell? ⟨i4,1,none⟩=some (.int .i64 0)
 k2:w.cell? ⟨i4,2,none⟩=some (.int .i64 0)
 k3:w.cell? ⟨i4,3,none⟩=some kv
 k4:w.cell? ⟨i4,4,none⟩=some (.slice none 0 0)
 z:∀ j,w.frozen? ⟨i4,j,none⟩=false
 pm:w.cell? ⟨pb,0,none⟩=some (.map (some mb))
 mp:Ud w mb done.length (kg done)
 row:uo w kv acc
 lo:N<=i4/\N<=pb/\N<=mb/\∀ g,xZ kv g->N<=g
 out:¬L.has p i4/\¬L.has p pb/\¬L.has p mb/\∀ g,xZ kv g->¬L.has p g
 ne:i4≠pb/\i4≠mb/\pb≠mb/\¬xZ kv i4/\¬xZ kv pb/\¬xZ kv mb
section
variable {N p i4 pb mb:Nat} {kv:Value} {acc:List Nat} {done:List Wd} {L L':di} {w w':World}
theorem ZN.lt(h:ZN N p i4 pb mb kv acc done L w):i4<w.heap.size/\pb<w.heap.size/\mb<w.heap.size:=⟨zx w _ h.k0,zx w _ h.pm,h.mp.g.lt⟩
theorem ZN.keep{F F':Nat->Prop}(h:ZN N p i4 pb mb kv acc done L w)(hf:Fr F F' w w')(hF:∀ g,(g=i4\/g=pb\/g=mb\/xZ kv g)->¬F g)(ho:∀ g,(g=i4\/g=pb\/g=mb\/xZ kv g)->¬L'.has p g):ZN N p i4 pb mb kv acc done L' w':=by
 have a:=hF i4 (.inl rfl);have b:=hF pb (.inr (.inl rfl));have c:=hF mb (.inr (.inr (.inl rfl)));exact⟨hf.cell h.k0 a,hf.cell h.k1 a,hf.cell h.k2 a,hf.cell h.k3 a,hf.cell h.k4 a,fun j=>(hf.frozen h.lt.1 a).trans (h.z j),hf.cell h.pm b,h.mp.fr hf c,hf.own h.row (fun g hg=>hF g (.inr (.inr (.inr hg)))),h.lo,⟨ho i4 (.inl rfl),ho pb (.inr (.inl rfl)),ho mb (.inr (.inr (.inl rfl))),fun g hg=>ho g (.inr (.inr (.inr hg)))⟩,h.ne⟩
theorem ZN.all(h:ZN N p i4 pb mb kv acc done L w):∀ g,(g=i4\/g=pb\/g=mb\/xZ kv g)->¬L.has p g/\g<w.heap.size/\N<=g:=by
 rintro g (rfl|rfl|rfl|hg)
 ·exact⟨h.out.1,h.lt.1,h.lo.1⟩
 ·exact⟨h.out.2.1,h.lt.2.1,h.lo.2.1⟩
 ·exact⟨h.out.2.2.1,h.lt.2.2,h.lo.2.2.1⟩
 ·exact⟨h.out.2.2.2 g hg,ud h.row hg,h.lo.2.2.2 g hg⟩
theorem ZN.fr(h:ZN N p i4 pb mb kv acc done L w)(hf:Fr (L.has p) (L'.has p) w w'):ZN N p i4 pb mb kv acc done L' w' :=
 h.keep hf (fun g hg=>(h.all g hg).1) (fun g hg q=>(hf.fp g q).elim (h.all g hg).1 (by have:=(h.all g hg).2.1;omega))
theorem ZN.al{F F':Nat->Prop}(h:ZN N p i4 pb mb kv acc done L w)(hf:Fr F F' w w')(hF:∀ g,F g->w.heap.size<=g):ZN N p i4 pb mb kv acc done L w' :=
 h.keep hf (fun g hg q=>by have:=hF g q;have:=(h.all g hg).2.1;omega) (fun g hg=>(h.all g hg).1)
theorem ZN.key{t:Wd}(h:ZN N p i4 pb mb kv acc done L w)(ht:t ∉ done)(hm:Ud w' mb (done.length+1) (fun x=>if t=x then some done.length else kg done x))(hg:w.grownBy w' (some mb)):ZN N p i4 pb mb kv acc (done++[t]) L w':=by
 have hf:Fr (fun k=>k=mb) (fun k=>k=mb) w w':=⟨hg.os,hg.tape,hg.output,hg.size,fun k hk hn=>hg.block k hk (fun e=>hn (zv e)),fun _ q => .inl q⟩;obtain⟨n1,n2,n3,n4,n5,n6⟩:=h.ne;rw[KA ht] at hm;exact⟨hf.cell h.k0 n2,hf.cell h.k1 n2,hf.cell h.k2 n2,hf.cell h.k3 n2,hf.cell h.k4 n2,fun j=>(hf.frozen h.lt.1 n2).trans (h.z j),hf.cell h.pm n3,by simpa using hm,hf.own h.row (fun g hg e=>n6 (e▸hg)),h.lo,h.out,h.ne⟩
theorem ZN.num{p9:Value}{n:Nat}{w2:World}(h:ZN N p i4 pb mb kv acc done L w)(hr:uo w2 p9 (acc++[n]))(hf:Fr (xZ kv) (xZ p9) w w2)(hL:∀ g,L.has p g->g<w.heap.size)(hN:N<=w.heap.size):ZN N p i4 pb mb p9 (acc++[n]) done L (w2.setCell ⟨i4,3,none⟩ p9):=by
 obtain⟨n1,n2,n3,n4,n5,n6⟩:=h.ne;have lv:∀ g,xZ p9 g->xZ kv g\/w.heap.size<=g:=hf.fp;have nv:∀ g,g<w.heap.size->¬xZ kv g->¬xZ p9 g:=fun g a b c=>(lv g c).elim b (by omega)
 have c:=fun (j:Nat) (v:Value) (hc:w.cell? ⟨i4,j,none⟩=some v) (hj:j≠3)=>(show(w2.setCell ⟨i4,3,none⟩ p9).cell? ⟨i4,j,none⟩=some v by rw[xg,if_neg (fun e=>hj (by cases e;rfl))];exact hf.cell hc n4)
 refine⟨c 0 _ h.k0 (by decide),c 1 _ h.k1 (by decide),c 2 _ h.k2 (by decide),vB (hf.cell h.k3 n4) _,c 4 _ h.k4 (by decide),fun j=>by rw[World.frozen?_setCell];exact(hf.frozen h.lt.1 n4).trans (h.z j),uZ (hf.cell h.pm n5) _ n1,
  (h.mp.fr hf n6).fr (show Fr (fun g=>g=i4) (fun g=>g=i4) w2 (w2.setCell ⟨i4,3,none⟩ p9) from(Fr.refl _ _).set _ (.inl rfl)) (fun e=>n2 e.symm),ownsRow_setCell_other hr (nv _ h.lt.1 n4) _,⟨h.lo.1,h.lo.2.1,h.lo.2.2.1,fun g hg=>(lv g hg).elim (h.lo.2.2.2 g) (by omega)⟩,
  ⟨h.out.1,h.out.2.1,h.out.2.2.1,fun g hg=>(lv g hg).elim (h.out.2.2.2 g) (fun a b=>by have:=hL g b;omega)⟩,n1,n2,n3,nv _ h.lt.1 n4,nv _ h.lt.2.1 n5,nv _ h.lt.2.2 n6⟩
end
structure Qu(N p idx tb b c pb mb n:Nat)(f:Wd->Option Nat)(L:di)(w:World):Prop where
 t:w.cell? ⟨tb,0,none⟩=some (bM b c)
 l:ke w p idx b c
 pm:w.cell? ⟨pb,0,none⟩=some (.map (some mb))
 mp:kW 3 w mb n f
 out:¬L.has p tb/\¬L.has p b/\¬L.has p c/\¬L.has p pb/\¬L.has p mb
 lt:tb<N/\b<N/\c<N/\pb<N/\mb<N
section
variable {N p idx tb b c pb mb n:Nat} {f:Wd->Option Nat} {L L':di} {w w':World}
theorem Qu.keep{F F':Nat->Prop}(h:Qu N p idx tb b c pb mb n f L w)(hf:Fr F F' w w')(hF:∀ g,(g=tb\/g=b\/g=c\/g=pb\/g=mb)->¬F g/\¬L'.has p g):Qu N p idx tb b c pb mb n f L' w':=by
 have h1:=hF tb (.inl rfl);have h2:=hF b (.inr (.inl rfl));have h3:=hF c (.inr (.inr (.inl rfl)));have h4:=hF pb (.inr (.inr (.inr (.inl rfl))));have h5:=hF mb (.inr (.inr (.inr (.inr rfl))));exact⟨hf.cell h.t h1.1,h.l.fr hf h2.1 h3.1,hf.cell h.pm h4.1,h.mp.fr hf h5.1,⟨h1.2,h2.2,h3.2,h4.2,h5.2⟩,h.lt⟩
theorem Qu.all(h:Qu N p idx tb b c pb mb n f L w):∀ g,(g=tb\/g=b\/g=c\/g=pb\/g=mb)->¬L.has p g/\g<N/\g<w.heap.size:=by
 obtain⟨o1,o2,o3,o4,o5⟩:=h.out;obtain⟨l1,l2,l3,l4,l5⟩:=h.lt;rintro g (rfl|rfl|rfl|rfl|rfl)
 ·exact⟨o1,l1,zx w _ h.t⟩
 ·exact⟨o2,l2,h.l.lt.1⟩
 ·exact⟨o3,l3,h.l.lt.2⟩
 ·exact⟨o4,l4,zx w _ h.pm⟩
 ·exact⟨o5,l5,h.mp.lt⟩
theorem Qu.fr(h:Qu N p idx tb b c pb mb n f L w)(hf:Fr (L.has p) (L'.has p) w w'):Qu N p idx tb b c pb mb n f L' w' :=
 h.keep hf (fun g hg=>⟨(h.all g hg).1,fun q=>(hf.fp g q).elim (h.all g hg).1 (by have:=(h.all g hg).2.2;omega)⟩)
theorem Qu.al{F F':Nat->Prop}(h:Qu N p idx tb b c pb mb n f L w)(hf:Fr F F' w w')(hF:∀ g,F g->N<=g):Qu N p idx tb b c pb mb n f L w' :=
 h.keep hf (fun g hg=>⟨fun q=>by have:=hF g q;have:=(h.all g hg).2.1;omega,(h.all g hg).1⟩)
theorem aZ(s:MkS)(x:j8)(key:Wd)(a:Nat)(ma:Option Addr)(mn mc:Nat)(hm:uz p L s w)(h:Qu N p idx tb b c pb mb n f L w)(hk:key.length<=17)(hx:s.code[idx]? = some x)(hj:(f key).getD 0<x.tg.length)(hl:x.tg.length<=1000000)(hs:s.code.length<=900000) :
  Calls prog 162 #[.agg #[xk key,.int .i64 (a:Nat),.slice ma mn mc],.pointer (some ⟨tb,0,none⟩),.pointer (some ⟨pb,0,none⟩)] w (I3 p L (s.u7 idx ((f key).getD 0)) w):=by
 obtain⟨A,hA⟩:=xX (w.alloc (.cells #[xk key,.int .i64 (a:Nat),.slice ma mn mc] 183));have fA:Fr xH xH w A:=by rw[←hA];exact(Fr.refl _ _).alloc _
 have R6:=h.keep fA (L':=L) (fun g hg=>⟨id,(h.all g hg).1⟩);have af:=hm.fr fA (fun _ q=>q.elim);have cA:=xu w #[xk key,.int .i64 (a:Nat),.slice ma mn mc] 183 (0,0) 0;obtain⟨j,hjj⟩:=xX ((f key).getD 0);have VF:=R6.mp.KW K5 key (by omega);rw[hjj] at VF hj ⊢;have ht:=R6.t;have hp:=R6.pm;have HL:=z7 (Uc p L s idx j b c x A af R6.l hx hj (by omega) hl);have DX:=z7 fA;have HX:=z7 hA;subst hA;clear h hm R6 af hx hj hjj fA;go_enter func162,ntmps162;go_wp2_with fail;refine HL.out.mono ?_;rintro e w2 ⟨rfl,jI,vu⟩;have YZ:=z7 jI;have fy:=z7 vu;clear HL jI vu;go_wp2;refine bodyPost_ret (v := .tuple #[]) ?_ rfl ?_
 ·simp[results,results162,go_sem]
 exact⟨rfl,YZ.out,(DX.out.wide (fun _ q=>q.elim)).trans fy.out⟩
end
theorem SR{p:Nat}{L:di}{s:MkS}{w:World}(h:uz p L s w)(n N:Nat)(hN:N<=w.heap.size) :
  ∃ W,W=(((w.alloc (.cells #[.int .i64 (n:Nat)] 3)).alloc (.cells #[.int .i64 10,.int .i64 0,.int .i64 0,.slice (some ⟨w.heap.size,0,none⟩) 1 1,.slice none 0 0] 128)).alloc (.map #[] 0)).alloc (.cells #[.map (some (w.heap.size+2))] 185) /\
   ZN N p (w.heap.size+1) (w.heap.size+3) (w.heap.size+2) (.slice (some ⟨w.heap.size,0,none⟩) 1 1) [n] [] L W/\Fr xH xH w W:=by
 obtain⟨A,hA⟩:=xX (w.alloc (.cells #[.int .i64 (n:Nat)] 3));have sA:A.heap.size=w.heap.size+1:=by rw[←hA];simp
 have rA:uo A (.slice (some ⟨w.heap.size,0,none⟩) 1 1) [n]:=by rw[←hA];exact uo.lit w [n] (by simp)
 have fA:Fr xH xH w A:=by rw[←hA];exact(Fr.refl _ _).alloc _
 rw[hA];clear hA;obtain⟨B,hB⟩:=xX (A.alloc (.cells #[.int .i64 10,.int .i64 0,.int .i64 0,.slice (some ⟨w.heap.size,0,none⟩) 1 1,.slice none 0 0] 128));have cB:=fun j=>xu A #[.int .i64 10,.int .i64 0,.int .i64 0,.slice (some ⟨w.heap.size,0,none⟩) 1 1,.slice none 0 0] 128 (0,0) j
 have zB:∀ j,B.frozen? ⟨w.heap.size+1,j,none⟩=false:=by intro j;rw[←hB,←sA];simp
 rw[hB,sA] at cB;have sB:B.heap.size=w.heap.size+2:=by rw[←hB];simp[sA]
 have fB:Fr xH xH A B:=by rw[←hB];exact(Fr.refl _ _).alloc _
 rw[hB];clear hB;obtain⟨C,hC⟩:=xX (B.alloc (.map #[] 0));have mC:=Ud.made B;rw[hC,sB] at mC;have sC:C.heap.size=w.heap.size+3:=by rw[←hC];simp[sB]
 have fC:Fr xH xH B C:=by rw[←hC];exact(Fr.refl _ _).alloc _
 rw[hC];clear hC;have fD:Fr xH xH C (C.alloc (.cells #[.map (some (w.heap.size+2))] 185)):=(Fr.refl _ _).alloc _;have f:=fC.trans fD;have no:∀ g,w.heap.size<=g->¬L.has p g:=fun g hg q=>by have:=h.lt q;omega
 refine⟨_,rfl,⟨f.cell (cB 0) id,f.cell (cB 1) id,f.cell (cB 2) id,f.cell (cB 3) id,f.cell (cB 4) id,fun j=>(f.frozen (show w.heap.size+1<_ by omega) id).trans (zB j),?_,mC.fr fD id,(fB.trans f).own rA (fun _ _=>id),⟨by omega,by omega,by omega,fun g hg=>by cases hg;exact hN⟩,
  ⟨no _ (by omega),no _ (by omega),no _ (by omega),fun g hg=>no g (by cases hg;exact zg _)⟩,⟨by omega,by omega,by omega,fun e=>?_,fun e=>?_,fun e=>?_⟩⟩,fA.trans (fB.trans f)⟩
 ·rw[←sC];exact xu C #[.map (some (w.heap.size+2))] _ _ _
 all_goals
  have e2:w.heap.size=_:=zv e;omega
theorem aY(ks:List Wd)(k:Wd)(h:k∈ks):(kg (ks.filter (· ≠ qz)++[qz]) k).getD 0=MkS.place ks k/\MkS.place ks k<=(ks.filter (· ≠ qz)).length:=by
 unfold kg MkS.place;by_cases hk:k=qz
 ·subst hk;rw[if_pos (by simp),if_pos rfl];have:qz ∉ ks.filter (· ≠ qz):=by simp
  simp[zo,this,List.idxOf_cons]
 ·have hm:k∈ks.filter (· ≠ qz):=zw.2 ⟨h,by simp[hk]⟩;rw[if_pos (by simp[h,hk]),if_neg hk,zo,if_pos hm];exact⟨rfl,List.idxOf_le_length⟩
theorem Cr{lo hi:Nat}{w0:World}(b0:Nat)(n:Wd)(a:Nat)(of:Wd)(cl:Nat)(bs:Fo)(p:Nat)(L:di)(s:MkS)(w:World)
  (ih:∀ m:Fo,zy m<zy bs->Ia lo hi w0 m) (h:uz p L s w) (he:YB lo hi w0 L.B w)
  (XI:xY lo hi w0 [.iface 177 (.pointer (some ⟨b0,0,none⟩))] (.br n a 0 of cl bs .nil)) (hc:(Fo.br n a 0 of cl bs .nil).YF) (Jp:(Fo.br n a 0 of cl bs .nil).wf 2000000=true) (hs:s.sz+(40+bs.cw)<=900000) :
  Calls prog 121 #[.pointer (some ⟨p,0,none⟩),.pointer (some ⟨b0,0,none⟩)] w (MQ p L (Qv bs (MkS.b7 n bs s) (MkS.ky n bs s)) w):=by
 have MA:=@run_makeMap prog;have HND:=z7 XI;obtain⟨vt,b',ba,bc,ws,Nl,xB,xF,gh,qX,jJ,Cn,DZ,Mo,Kd,UP,_⟩:=XI
 cases Nl;obtain⟨oA,-,-,hL,aX,wJ,DN,-⟩:=hc;have ZK:(decide (n.length<=4000001) && decide (0<3) && bs.uv && decide (bs.len<=2000000) && bs.wf 2000000 && Fo.nil.wf 2000000)=true:=Jp;simp only[zk,decide_eq_true_eq] at ZK;obtain⟨⟨⟨-,IN⟩,qG⟩,-⟩:=ZK;have c0:=xS he.keep gh xB xF;have c4:=xS he.keep DZ xB xF;have qP:s.cs.length<=900000/\s.code.length<=900000/\s.pos<=900000:=by unfold MkS.sz at hs;omega
 have HC:=z7 (Vj p L s n w h (by omega) (by omega));have HH:=z7 h;have HE:=z7 he;have Mp:=z7 Kd;have Wn:=z7 UP;have HL:=z7 hL;have Nn:=z7 aX;have HKS:=z7 wJ;have HBC:=z7 DN;have IP:=z7 qG;have oW:=z7 ih;have HS:=z7 hs;obtain⟨M,hM⟩:=xX bs.len;have HM:=z7 hM;rw[hM] at c4 IN;obtain⟨k0,Cs⟩:=xX (s.num n);rw[Cs] at HC;have R7:=z7 Cs;clear h he Kd UP hL aX wJ DN qG ih hs hM gh qX jJ Cn DZ Mo Cs Jp;go_enter func121,ntmps121;go_wp2_with fail;refine HC.out.mono ?_;rintro e w1 ⟨rfl,L1,Vc,⟨K6,XX⟩,uy⟩;clear HC;obtain⟨W,hW,S9,Xq⟩:=SR Vc k0 w.heap.size uy.size;have c4:=uy.cell (a:=⟨b0,4,none⟩) c4 (fun q=>by have:=HH.out.lo _ q;have:=HE.out.hB;simp only at *;omega);have c4a:=fun o1 o2 o3 o4=>xQ (xQ (xQ (xQ c4 o1) o2) o3) o4
 obtain⟨R,hR⟩:=xX (MkS.ki bs (s.const n) [k0]);have HR:=z7 hR;have z1:=(vz s n).1;go_wp2_with fail;rw[←hW];obtain⟨i4,hi4⟩:=xX (w1.heap.size+1);obtain⟨pb,pz⟩:=xX (w1.heap.size+3);obtain⟨mb,Hy⟩:=xX (w1.heap.size+2);rw[hi4,show i4+1+1=pb by omega];go_loopw [24] (fun iv wr=>∃ i us xs r s1 L2 acc kv done pre,iv = .int .i64 (i:Nat)/\i<=M/\xY lo hi w0 xs r/\r.uv=true/\us.length=i*3/\ws=us++xs/\i+r.len=M/\bs.keys=pre++r.keys/\done=pre.filter (· ≠ qz) /\
  uz p L2 s1 wr/\(L2.q=L.q/\L2.B=L.B)/\Fr (L.has p) (L2.has p) w wr/\ZN w.heap.size p i4 pb mb kv acc done L2 wr/\MkS.ki r s1 acc=R/\done.length<=i/\(acc.length=done.length+1/\∀ x∈acc,x<=900000)/\s1.sz+r.keys.length<=899990) (fun iv _=>M - (intOf iv).toNat)
 case atStart =>
  rw[hi4,pz,Hy] at S9;exact⟨0,[],ws,bs,s.const n,L1,[k0],_,[],[],rfl,zY _,Wn.out,HL.out,rfl,rfl,by have:=HM.out;omega,rfl,rfl,Vc.fr Xq (fun _ q=>q.elim),⟨K6,XX⟩,uy.trans (Xq.wide (fun _ q=>q.elim)),S9,HR.out,zg _,⟨rfl,by have:=CV s n;have:=R7.out;simp;omega⟩,by have:=HS.out;have:=Fo.YD bs;omega⟩
 case round =>
  clear hW S9 Xq Vc uy c4 c4a hR;obtain⟨i,us,xs,r,s1,L2,acc,kv,done,pre,rfl,hiM,gp,ZD,Vl,Vn,kS,Qq,Ie,jI,⟨j9,JV⟩,vu,wO,jM,uO,⟨um,hax⟩,uL⟩:=hrel;have HAX:=z7 hax;have nR:=z7 um;have yfx:acc.length<=i+1:=by omega
  clear hax um;have Co:YB lo hi w0 L2.B wr:=by rw[JV];exact HE.out.fr vu HH.out.lo
  have YZ:=z7 jI;have HE2:=z7 Co;have fy:=z7 vu;have aV:=z7 wO;have b8:=z7 jM;have HLR:=z7 ZD;have Cm:=z7 Vl;have Wo:=z7 Vn;have Xj:=z7 kS;have Ct:=z7 Qq;have HDN:=z7 Ie;have gC:=z7 uL;by_cases xD:i<M
  ·cases r with
   | nil=>exfalso;simp[Fo.len] at kS;omega
   | text t r=>cases ZD
   | hash r=>cases ZD
   | put n a r=>cases ZD
   | num n a r=>cases ZD
   | br n a fo of cl bs r=>cases ZD
   | uf k1 a0 m0 r0 =>
    obtain⟨R5,ma,mc,ms,rfl,XH,aq,Qx⟩:=gp;obtain⟨g2,o2,rfl,e0,e1,e2⟩:=Kb Co.keep Mp.out Vl Vn;have Ql:=z7 Qx;have k3:(i:Int)<(M:Int):=by omega
    have k4:decide ((i:Int)<(M:Int))=true:=by simp;omega
    clear jI Co vu jM ZD Vl Vn XH aq Qx kS Qq Ie uL;have Np:Fr xH xH wr (wr.alloc (.cells #[xk k1,.int .i64 (a0:Nat),.slice ma m0.len mc] 183)):=(Fr.refl _ _).alloc _;have Nr:=aV.out.al Np (fun _ q=>q.elim);have HSA:=z7 Nr;have DX:=z7 (fy.out.trans (Np.wide (fun _ q=>q.elim)));have HMA:=z7 (YZ.out.fr Np (fun _ q=>q.elim));have Na:=Xj.out;simp only[Fo.len] at Na;have Ns:=gC.out;simp only[Fo.keys,zP] at Ns;by_cases hko:k1=qz
    ·have kq:(k1==[111,116,104,101,114])=true:=by rw[hko];decide
     have HKO:=z7 hko;clear Np Nr wO hko;go_wp2;go_roundw
     case rel =>
      refine⟨i+1,us++[xk k1,.int .i64 (a0:Nat),.slice ma m0.len mc],R5,r0,s1,L2,acc,kv,done,pre++[k1],by go_num,by omega,Ql.out,HLR.out,by simp[Cm.out];omega,by rw[Wo.out];simp,by omega,by rw[Ct.out];simp[Fo.keys],by rw[HDN.out,zi];simp[HKO.out],HMA.out,⟨j9,JV⟩,DX.out,HSA.out,?_,by omega,⟨nR.out,HAX.out⟩,by omega⟩;have:=b8.out;rw[MkS.ki,if_pos HKO.out] at this;exact this
     case measure=>simp only[intOf];omega
    ·have kq:(k1==[111,116,104,101,114])=false:=by simpa[qz] using hko
     have HKO:=z7 hko;have hkb:k1∈bs.keys:=by rw[Ct.out];simp[Fo.keys]
     have Ch:k1 ∉ done:=by
      rw[HDN.out];intro q;have h1:=Nn.out;rw[Ct.out] at h1;exact(zn.1 h1).2.2 k1 (zw.1 q).1 k1 (by simp[Fo.keys]) rfl
     have py:=(HKS.out k1 hkb).1;obtain⟨dn,hdn⟩:=xX done.length;have px:=Nr.mp.len;obtain⟨wp,XZ,Vg,Kl⟩:=Nr.mp.put k1 (by omega) done.length (by omega) (by omega) (by unfold kg;rw[if_neg Ch]);have pmA:=Nr.pm;have Kh:=z7 (Nr.key Ch Vg Kl);have Wp:Fr (fun g=>g=mb) (fun g=>g=mb) (wr.alloc (.cells #[xk k1,.int .i64 (a0:Nat),.slice ma m0.len mc] 183)) wp:=⟨Kl.os,Kl.tape,Kl.output,Kl.size,fun k hk hn=>Kl.block k hk (fun e=>hn (zv e)),fun _ q => .inl q⟩;rw[hdn] at px XZ uO;have nS:=z7 Wp;have HGP:=z7 (show wp.cell? ⟨wr.heap.size,0,none⟩=some (xk k1) from Wp.cell (xu _ _ _ _ _) (fun e=>by have:=aV.out.lt.2.2;simp only at e;omega));clear Np Nr wO Wp Vg Kl hko;have Nt:=HMA.out.fr nS.out (by rintro g rfl;exact aV.out.out.2.2.1);have zm2:s1.cs.length<=1000000:=by unfold MkS.sz at Ns;omega
     have Wm:=z7 (Vj p L2 s1 k1 wp.drew Nt.drew (by omega) zm2);have Ii:=z7 Nt;obtain⟨kn,UA⟩:=xX (s1.num k1);rw[UA] at Wm;have A9:=z7 UA;have HHL:=z7 (show Fr (L.has p) (L2.has p) w wp from DX.out.over nS.out (by rintro g rfl;exact .inr aV.out.lo.2.2.1));obtain⟨ac,cc,rfl⟩:=xd Kh.out.row;have k3c:=Kh.out.k3;have kec:=HGP.out;have neb:¬L2.has p wr.heap.size:=fun q=>by have:=YZ.out.lt q;omega
     obtain⟨an,han⟩:=xX acc.length;rw[han] at k3c;have yfx:an<=i+1:=by omega
     have vD:=Kh.out.row;rw[show uo wp (.slice ac acc.length cc) acc=wp.ownsRow 0 3 1 (.slice ac acc.length cc) acc.length (Zg acc) from rfl,han] at vD;have qV:=z7 vD;have HAN:=z7 han;clear Nt zm2 UA vD han;go_wp2_with fail;clear XZ px pmA;refine rk (fun W':World=>W'.cell? ⟨i4,3,none⟩=some (.slice ac an cc)/\W'.cell? ⟨wr.heap.size,0,none⟩=some (xk k1)) 9 [0,1,2,3,4] 5 ⟨k3c,kec⟩ ?_;(iterate 5 (refine ty ?_;try simp only[pl]))
     refine xq ?_;refine Xf 5 (fun J hJ=>?_);go_simp;refine Wm.out.mono ?_;rintro e w5 ⟨rfl,L3,JW,⟨XJ,De⟩,JA⟩;have JA:=JA.und;have k5:=JA.cell k3c Kh.out.out.1;have e5:=JA.cell kec neb;have pq:=Kh.out.fr JA;refine hJ.out _ _ ⟨k5,e5⟩ fun _=>?_
     clear hJ J;refine Xf 6 (fun J hJ=>?_);go_simp;refine hJ.out _ _ ⟨xQ k5 _,xQ e5 _⟩ fun _=>?_
     clear hJ J;refine Xf 7 (fun J hJ=>?_);rw[if_pos (by rfl)];refine Xg Qw [_] 1 (JA.own qV.out (fun g hg=>Kh.out.out.2.2.2 g (by rw[HAN.out];exact hg))) (by omega) ?_;intro v6 w6 Qm bL;rw[HAN.out] at pq;have Xu:uo w6 v6 (acc++[kn]):=by
      show World.ownsRow _ _ _ _ _ (acc++[kn]).length _;rw[zN,HAN.out];simpa[Zg] using Qm
     have z6:=(bL.frozen (a:=⟨i4,3,none⟩) pq.lt.1 pq.ne.2.2.2.1).trans (pq.z 3);have pj:=z7 (pq.num Xu bL (fun g hg=>JW.lt hg) (zX fy.out.size (zX (by simp) (zX nS.out.size JA.size))));have HM6:=z7 (JW.fr bL (fun g hg=>pq.out.2.2.2 g hg));have HF6:=z7 ((HHL.out.trans JA).over bL (fun g hg => .inr (pq.lo.2.2.2 g hg)));have k6:=bL.cell k5 pq.ne.2.2.2.1;have hbo:¬xZ (.slice ac an cc) wr.heap.size:=fun q=>by
      have h1:=aV.out.row;have h2:=Kh.out.ne;have:=ud aV.out.row (g:=wr.heap.size) (by rw[HAN.out];exact q);omega
     have e6:=bL.cell e5 hbo;obtain⟨a6,c6,rfl⟩:=xd Qm;clear pq Xu Qm;go_simp;refine hJ.out _ _ ⟨k6,e6⟩ fun _=>?_
     clear hJ J;refine kx [8] 1 rfl (by intro _ _ d _ _ h;cases d<;>exact h) (by kernel_rfl) (by kernel_rfl) ⟨k6,e6⟩ ?_;refine ty ?_;try simp only[pl]
     refine xq ?_;refine DJ 9 (fun J hJ=>?_);go_simp;refine hJ.out _ _ ?_;clear hJ J;refine DG ?_ _;have fst:∀ u,Fr (fun g=>g=i4) (fun g=>g=i4) w6 (w6.setCell ⟨i4,3,none⟩ u):=fun u=>(Fr.refl _ _).set _ (.inl rfl)
     have HFS:=z7 (fst (.slice a6 (an+1) c6));have HLO:=z7 aV.out.lo;have HOU:=z7 (show ¬L3.has p i4 from pj.out.out.1);clear JA bL JW k5 e5 k6 e6 fst;go_wp2;go_roundw
     case rel =>
      refine⟨i+1,us++[xk k1,.int .i64 (a0:Nat),.slice ma m0.len mc],R5,r0,s1.const k1,L3,acc++[kn],_,done++[k1],pre++[k1],by go_num,by omega,Ql.out,HLR.out,by simp[Cm.out];omega,by rw[Wo.out];simp,by omega,by rw[Ct.out];simp[Fo.keys],?_,HM6.out.fr HFS.out (by rintro g rfl;exact HOU.out),⟨XJ.trans j9,De.trans JV⟩,HF6.out.over HFS.out (by rintro g rfl;exact .inr HLO.out.1),pj.out,?_,by simp;omega,⟨by simp[nR.out],?_⟩,?_⟩
      ·rw[HDN.out,zi];simp[HKO.out]
      ·have:=b8.out;rw[MkS.ki,if_neg HKO.out,A9.out] at this;exact this
      ·intro x hx;rcases zS.1 hx with hx|hx
       ·exact HAX.out x hx
       ·simp at hx;have:=CV s1 k1;have:=A9.out;unfold MkS.sz at Ns;omega
      ·have:=(vz s1 k1).1;omega
     case measure=>simp only[intOf];omega
  ·have vv:r.keys=[]/\MkS.ki r s1 acc=(s1,acc):=by
    cases r with
    | nil=>exact⟨rfl,rfl⟩
    | text t r=>cases ZD
    | hash r=>cases ZD
    | put n a r=>cases ZD
    | num n a r=>cases ZD
    | br n a fo of cl bs r=>cases ZD
    | uf k0 a0 m0 r0=>exfalso;simp only[Fo.len] at kS;omega
   have gG:=z7 (show R=(s1,acc) from jM.symm.trans vv.2);have wP:=z7 (show bs.keys=pre by rw[Qq,vv.1];simp);have Ch:qz ∉ done:=by rw[Ie];simp
   obtain⟨dn,hdn⟩:=xX done.length;have px:=wO.mp.len;obtain⟨wp,XZ,Vg,Kl⟩:=wO.mp.put qz (by decide) done.length (by omega) (by omega) (by unfold kg;rw[if_neg Ch]);have pmA:=wO.pm;have Kh:=z7 (wO.key Ch Vg Kl);have Wp:Fr (fun g=>g=mb) (fun g=>g=mb) wr wp:=⟨Kl.os,Kl.tape,Kl.output,Kl.size,fun k hk hn=>Kl.block k hk (fun e=>hn (zv e)),fun _ q => .inl q⟩;rw[hdn] at px XZ uO;rw[show xk qz = .string ⟨#[111,116,104,101,114]⟩ from rfl] at XZ;have xq6:dn<=100000:=by
    have h1:done.length<=bs.keys.length:=by rw[wP.out,Ie];exact List.length_filter_le ..
    have:=Fo.YD bs;have:=HS.out;omega
   have nS:=z7 Wp;have k3:¬(i:Int)<(M:Int):=by omega
   have k4:decide ((i:Int)<(M:Int))=false:=by simp;omega
   have pmp:=Kh.out.pm;have wI:=Kh.out.mp.len;rw[zN,hdn] at wI;have xq7:∀ ty,(yy #[185] ty #[.map (some mb)]).run prog wp = .ok (.int .i64 ((dn+1:Nat):Int)) wp:=wI;obtain⟨wm,BV,pg,Uz⟩:=VZ (dn+1) wp (by omega);have zm4:=z7 hdn;clear jI Co vu wO jM ZD Vl Vn kS Qq Ie uL gp vv Vg Kl Wp wI hdn;rw[show((dn+1:Nat):Int)=(dn:Int)+1 by omega] at BV;have hS:=Kh.out.al Uz (fun _ q=>q.elim);obtain⟨ac,ak,VA⟩:=xd hS.row;have q0:=hS.k0;have q1:=hS.k1;have q2:=hS.k2;have q3:=hS.k3;have q4:=hS.k4;have z4:=hS.z 4;have FP:=nS.out;have nmb:∀ g,L2.has p g->g≠mb:=by rintro g hg rfl;exact aV.out.out.2.2.1 hg
   have fm2:Fr (fun g=>g=mb) (fun g=>g=mb) wr wm:=FP.trans (Uz.wide (fun _ q=>q.elim));have zm5:=YZ.out.fr fm2 (by rintro g rfl hg;exact nmb _ hg rfl);have hSt:∀ u,Fr (fun g=>g=i4) (fun g=>g=i4) wm (wm.setCell ⟨i4,4,none⟩ u):=fun u=>(Fr.refl _ _).set _ (.inl rfl)
   have DY:=z7 (zm5.fr (hSt (.slice (some ⟨wp.heap.size,0,none⟩) (dn+1) (dn+1))) (by rintro g rfl;exact aV.out.out.1));have HEE:=z7 ((HE2.out.fr fm2 (by rintro g rfl;have:=aV.out.lo.2.2.1;have:=YZ.out.base;have:=HH.out.base;omega)).fr (hSt (.slice (some ⟨wp.heap.size,0,none⟩) (dn+1) (dn+1))) (by rintro g rfl;have:=aV.out.lo.1;have:=HH.out.base;omega));have UO:=z7 hS;have HFM:=z7 Uz;have HKM:=z7 pg;rw[VA] at q3;clear hS FP fm2 zm5 hSt Uz pg nmb;go_wp2_with fail;obtain⟨wS,hwS⟩:=xX (wm.setCell ⟨i4,4,none⟩ (.slice (some ⟨wp.heap.size,0,none⟩) (dn+1) (dn+1)));rw[hwS] at DY HEE ⊢;have Di:acc.length=dn+1:=by rw[nR.out,zm4.out]
   obtain⟨x0,zm7,DO⟩:∃ x0 zm7,acc=x0::zm7:=by
    cases acc with
    | nil=>simp at Di
    | cons a b=>exact⟨a,b,rfl⟩
   have hS:=UO.out;have lwp:∀ g,L2.has p g->g<wp.heap.size:=fun g hg=>by have:=YZ.out.lt hg;have:=nS.out.size;omega
   have lkp:∀ g,xZ kv g->g<wp.heap.size:=fun g hg=>ud Kh.out.row hg
   have rk1:uo wS kv acc:=by rw[←hwS];exact ownsRow_setCell_other hS.row hS.ne.2.2.2.1 _
   have rt1:uo wS (.slice (some ⟨wp.heap.size,0,none⟩) (dn+1) (dn+1)) (z8 (dn+1) 0):=by
    rw[←hwS];exact ownsRow_setCell_other HKM.out (fun e=>by have:=Kh.out.lt.1;have e2:wp.heap.size=i4:=zv e;omega) _
   have dp:B7 ⟨10,s1.pos,0,acc,z8 (dn+1) 0⟩:=by
    refine⟨(by decide:10<12),by simp,fun x hx=>by have:=HAX.out x hx;omega,fun x hx=>by have:=List.eq_of_mem_replicate hx;omega,by show acc.length<=_;omega,?_⟩;show okB [110,42] acc.length (z8 (dn+1) 0).length=true;rw[Di,List.length_replicate];simp[okB]
   have oY:(uq ⟨10,s1.pos,0,acc,z8 (dn+1) 0⟩).length<=1000000:=by
    rw[DO,R3];rw[DO] at Di;simp at Di;omega
   have Da:=gC.out;unfold MkS.sz at Da;have HP:=z7 (dh p L2 s1 10 0 acc (z8 (dn+1) 0) kv (.slice (some ⟨wp.heap.size,0,none⟩) (dn+1) (dn+1)) wS DY.out rk1 rt1 (fun g hg=>hS.out.2.2.2 g hg) (fun g hg q=>by cases hg;exact zZ _ (lwp _ q)) (fun g hg q=>by cases hg;exact zZ _ (lkp _ q))
    (fun g hg=>by
     have h1:=YZ.out.base;have h2:=HH.out.base;have h3:=fy.out.size;have h4:=nS.out.size;rcases hg with hg|hg
     ·have:=hS.lo.2.2.2 g hg;omega
     ·cases hg;show L2.B<=wp.heap.size;omega) dp HEE.out.fo HEE.out.g1 (by omega) (by omega) oY)
   have hSS:s1.put 10 0 acc (z8 (dn+1) 0)=MkS.ky n bs s:=by
    have h1:MkS.gM n bs s=(s1,acc):=by unfold MkS.gM;rw[R7.out,HR.out,gG.out]
    unfold MkS.ky;rw[h1,Di]
   have zm8:s1.code.length=(MkS.gM n bs s).1.code.length:=by
    have h1:MkS.gM n bs s=(s1,acc):=by unfold MkS.gM;rw[R7.out,HR.out,gG.out]
    rw[h1]
   have HSS:=z7 hSS;have HID:=z7 zm8;have HTG:=z7 (show ∃ x,(s1.put 10 0 acc (z8 (dn+1) 0)).code[s1.code.length]? = some x/\x.tg.length=dn+1 from⟨_,by simp[MkS.put];rfl,by simp⟩);have Vo:=z7 (show Fr (fun g=>g=i4) (fun g=>g=i4) wp wS from by rw[←hwS];exact(HFM.out.wide (fun _ q=>q.elim)).set _ (.inl rfl));clear rk1 rt1 dp oY Da hSS zm8 hS lwp lkp DO Di;rw[VA] at HP;clear hwS;go_wp2_with fail;refine HP.out.mono ?_;rintro e w5 ⟨b,c,rfl,Ic,ju,Mo,L3,JW,⟨XJ,De⟩,JA,nb5,nc5⟩;have Su:=z7 JW;have Sq:=z7 JA;have JF:=z7 Ic;clear HP JW JA Ic;go_wp2_with fail;obtain⟨wT,wR⟩:=xX (w5.alloc (.cells #[bM b c] 189));have Nh:Fr xH xH w5 wT:=by rw[←wR];exact(Fr.refl _ _).alloc _
   have hcT:=xu w5 #[bM b c] 189 (0,0) 0;have hsT:wT.heap.size=w5.heap.size+1:=by rw[←wR];simp
   rw[wR] at hcT;have ne:=Kh.out.ne;have lo:=Kh.out.lo;have ou:=Kh.out.out;have lt:=Kh.out.lt;have swr:=fy.out.size;have swp:=nS.out.size;have swS:=Vo.out.size;have sw5:=Sq.out.size;have hP:∀ g,g=pb\/g=mb->¬(L2.has p g\/xZ kv g\/xZ (.slice (some ⟨wp.heap.size,0,none⟩) (dn+1) (dn+1)) g):=by
    rintro g (rfl|rfl) (q|q|q)
    ·exact ou.2.1 q
    ·exact ne.2.2.2.2.1 q
    ·have:wp.heap.size=_:=zv q;omega
    ·exact ou.2.2.1 q
    ·exact ne.2.2.2.2.2 q
    ·have:wp.heap.size=_:=zv q;omega
   rw[←VA] at Sq;have h3:∀ g,g=pb\/g=mb->¬L3.has p g:=fun g hg q=>(Sq.out.fp g q).elim (hP g hg) (fun q=>by rcases hg with rfl|rfl<;>omega)
   have gS:Fr (fun g=>g=i4) (fun g=>g=i4) wp wS:=Vo.out;have FA:Fr (L.has p) (L3.has p) w wT:=((((fy.out.over nS.out (by rintro g rfl;exact .inr lo.2.2.1)).over gS (by rintro g rfl;exact .inr lo.1)).tr Sq.out (by
    rintro g (q|q|q)
    ·exact fy.out.fp g q
    ·exact .inr (lo.2.2.2 g q)
    ·have:wp.heap.size=g:=zv q;exact .inr (by omega)))).trans (Nh.wide (fun _ q=>q.elim))
   have HI:Qu wT.heap.size p s1.code.length w5.heap.size b c pb mb (done++[qz]).length (kg (done++[qz])) L3 wT:=by
    have l5:=JF.out.lt;refine⟨hcT,JF.out.fr Nh id id,Nh.cell (Sq.out.cell (gS.cell Kh.out.pm ne.1.symm) (hP pb (.inl rfl))) id,((Kh.out.mp.g.fr gS (fun e=>ne.2.1 e.symm)).fr Sq.out (hP mb (.inr rfl))).fr Nh id,
     ⟨fun q=>by have:=Su.out.lt q;omega,nb5,nc5,h3 pb (.inl rfl),h3 mb (.inr rfl)⟩,⟨by omega,by omega,by omega,by omega,by omega⟩⟩
   obtain⟨x,hx,hxt⟩:=HTG.out;have hdd:done=bs.keys.filter (· ≠ qz):=by rw[wP.out];exact HDN.out
   have wW:L3.B=L.B:=De.trans JV;have zm9:zuq wT.heap.size p (MkS.ky n bs s) bs.keys (MkS.b7 n bs s) (.func (.func 162) #[] #[.pointer (some ⟨w5.heap.size,0,none⟩),.pointer (some ⟨pb,0,none⟩)]) (fun L W=>Qu wT.heap.size p s1.code.length w5.heap.size b c pb mb (done++[qz]).length (kg (done++[qz])) L W):=by
    refine⟨⟨_,_,rfl,fun args w=>by first|rfl|simp[callFunc],fun L s' W key a ma mn mc hm hI hle qP JC=>?_⟩,fun L L' W W' h hf=>h.fr hf,fun L W W' F F' h hf hF=>h.al hf hF,fun k x=>MkS.CT n bs s k x⟩;obtain⟨e1,e2⟩:=aY bs.keys key JC;rw[←hdd] at e1 e2;rw[HSS.out] at hx;obtain⟨y,hy,hyt⟩:=hle _ x hx;have bV:s'.code.length<=900000:=by unfold MkS.sz at qP;omega
    have:=aZ s' y key a ma mn mc hm hI (HKS.out key JC).1 hy (by rw[e1,hyt,hxt];have:=zm4.out;omega) (by rw[hyt,hxt];omega) bV;rw[e1,HID.out] at this;exact this
   have SS:=z7 (Ge b0 n a 0 of cl bs p L3 (MkS.ky n bs s) (MkS.b7 n bs s) _ _ wT oW.out (by have:=Su.out.fr Nh (fun _ q=>q.elim);rw[HSS.out] at this;exact this) (by rw[wW];exact HE.out.fr FA HH.out.lo) HND.out HL.out HBC.out IP.out (by rw[HM.out];exact IN)
    (by have:=(MkS.Ca n bs s).2;have:=Fo.YD bs;have:=HS.out;omega) zm9 HI)
   have DX:=z7 FA;clear zm9 HI FA hx Nh hcT;rw[wR];refine SS.out.mono ?_;rintro e w9 ⟨rfl,L4,hm9,⟨hq9,yd0⟩,hf9⟩;have HM9:=z7 hm9;have HF9:=z7 hf9;clear hm9 hf9 SS;go_wp2;refine bodyPost_ret (v := .tuple #[]) ?_ rfl ?_
   ·simp[results,results121,go_sem]
   exact⟨rfl,L4,HM9.out,⟨by rw[hq9,XJ,j9],by rw[yd0,wW]⟩,DX.out.trans HF9.out⟩
def X9(S:Nat->Prop)(p:Nat)(W0:World)(L:di)(W:World):Prop:=∀ g,S g->g<W0.heap.size/\¬L.has p g/\W.heap[g]? = W0.heap[g]?
section
variable {S:Nat->Prop} {p:Nat} {W0 W W':World} {L L':di}
theorem X9.lt(h:X9 S p W0 L W){g:Nat}(hg:S g):g<W.heap.size:=by
 obtain⟨a,_,c⟩:=h g hg;rw[Array.getElem?_eq_getElem a] at c;exact(zV.1 c).1
theorem X9.fr(h:X9 S p W0 L W)(hf:Fr (L.has p) (L'.has p) W W'):X9 S p W0 L' W':=fun g hg=>by
 obtain⟨a,b,c⟩:=h g hg;have:=h.lt hg;exact⟨a,fun q=>(hf.fp g q).elim b (by omega),(hf.keep g this b).trans c⟩
theorem X9.al{F F':Nat->Prop}(h:X9 S p W0 L W)(hf:Fr F F' W W')(hF:∀ g,F g->W0.heap.size<=g):X9 S p W0 L W':=fun g hg=>by
 obtain⟨a,b,c⟩:=h g hg;exact⟨a,b,(hf.keep g (h.lt hg) (fun q=>by have:=hF g q;omega)).trans c⟩
theorem X9.cell(h:X9 S p W0 L W){a:Addr}{v:Value}(hc:W0.cell? a=some v)(hg:S a.block):W.cell? a=some v:=(World.cell?_of_block (h _ hg).2.2).trans hc
theorem X9.u7(h:X9 S p W0 L W){i b c:Nat}(hl:ke W0 p i b c)(hb:S b)(hc:S c):ke W p i b c:=⟨h.cell hl.pb hb,h.cell hl.pc hc,(uX (h b hb).2.2).trans hl.tb,(uX (h c hc).2.2).trans hl.tc⟩
end
def fnR:Value->Option (DataW Unit×List MemPlace)
 | .func (.func k) first cap=>match first.toList,cap.toList with
  | [],[.pointer (some ⟨b,0,none⟩),.pointer (some ⟨c,0,none⟩)]=>if k=123 then some (.agg [.lit (.int .i64 (b:Nat)),.lit (.int .i64 (c:Nat))],[]) else none
  | _,_=>none
 | .nilFunc=>some (.agg [],[])
 | _=>none
theorem aU(b c:Nat):fnR (bM b c)=some (.agg [.lit (.int .i64 (b:Nat)),.lit (.int .i64 (c:Nat))],[]):=by simp[fnR,bM]
theorem pd{v:Value}{b c:Nat}{ps:List MemPlace}(h:fnR v=some (.agg [.lit (.int .i64 (b:Nat)),.lit (.int .i64 (c:Nat))],ps)):v=bM b c:=by
 unfold fnR at h;split at h
 ·next k first cap =>
  split at h
  ·next b' c' h1 h2 =>
   split at h
   ·next hk =>
    simp at h;obtain⟨⟨h3,h4⟩,_⟩:=h;have e1:first=#[]:=zh.1 h1;have e2:cap=#[.pointer (some ⟨b',0,none⟩),.pointer (some ⟨c',0,none⟩)]:=zh.1 h2;subst hk e1 e2;have h5:b'=b:=by omega
    have h6:c'=c:=by omega
    rw[h5,h6]
   ·cases h
  ·cases h
 ·simp at h
 ·cases h
def Zw(w:World)(b n:Nat)(f:Wd->Option (Nat×Nat)):Prop :=
 ∃ D:DataW Unit,w.ownsMap prog 9 fnR b n D/\∀ m:Wd,yv D (.string m)=(f m).isSome/\∀ x,f m=some x->D.atKey (.string m) (.agg []) = .agg [.lit (.int .i64 (x.1:Nat)),.lit (.int .i64 (x.2:Nat))]
theorem Zw.lt{w:World}{b n:Nat}{f:Wd->Option (Nat×Nat)}(h:Zw w b n f):b<w.heap.size:=by
 obtain⟨D,⟨es,clock,ho,_⟩,_⟩:=h;exact(zV.1 ho).1
theorem Zw.keep{w w':World}{b n:Nat}{f:Wd->Option (Nat×Nat)}(h:Zw w b n f)(hb:w'.heap[b]? = w.heap[b]?):Zw w' b n f:=by
 obtain⟨D,⟨es,clock,ho,rest⟩,h2⟩:=h;exact⟨D,⟨es,clock,hb.trans ho,rest⟩,h2⟩
theorem Zw.fr{w w':World}{F F':Nat->Prop}{b n:Nat}{f:Wd->Option (Nat×Nat)}(h:Zw w b n f)(hf:Fr F F' w w')(hb:¬F b):Zw w' b n f:=h.keep (hf.keep b h.lt hb)
theorem Zw.made(w:World):Zw (w.alloc (.map #[] 0)) w.heap.size 0 (fun _=>none):=⟨.map [],zL w _ _ _,fun m=>⟨rfl,fun x hx=>by cases hx⟩⟩
theorem Zw.look{w:World}{b n:Nat}{f:Wd->Option (Nat×Nat)}(h:Zw w b n f)(m:Wd)(hm:m.length<=5000000) :
  ∃ v,(Instr.lookup 298 (.map (some b)) (xk m) true).run prog w = .ok (.tuple #[v,.bool (f m).isSome]) w/\∀ x,f m=some x->v=bM x.1 x.2:=by
 obtain⟨D,h1,h3⟩:=h;obtain⟨v,ps,vF,hv⟩:=h1.look_ok (zG underlying9) underlying298 (z := .nilFunc) (by first|rfl|simp[go_sem]) (zd := .agg []) (zp:=[]) rfl
  (key:=xk m) (zU (s:=⟨m.toArray⟩) underlying9 (by rw[size_mk];unfold maxLen;omega))
 rw[toList_mk] at vF hv;rw[(h3 m).1] at vF;exact⟨v,vF,fun x hx=>pd (ps:=ps) (by rw[hv,(h3 m).2 x hx])⟩
theorem Zw.put{w:World}{b n:Nat}{f:Wd->Option (Nat×Nat)}(h:Zw w b n f)(m:Wd)(hm:m.length<=5000000)(x:Nat×Nat)(hn:n<=1000000000) :
  ∃ w',(zR 298 (.map (some b)) (xk m) (bM x.1 x.2)).run prog w = .ok () w'/\Zw w' b (n+1) (fun k=>if m=k then some x else f k)/\w.grownBy w' (some b):=by
 obtain⟨D,h1,h3⟩:=h;have hi:=h1.isMap;obtain⟨w',vF,xV,hg⟩:=h1.update (zG underlying9) underlying298 (by unfold maxLen;omega) (key:=xk m) (zU (s:=⟨m.toArray⟩) underlying9 (by rw[size_mk];unfold maxLen;omega)) (aU x.1 x.2);rw[toList_mk] at xV;refine⟨w',vF,⟨_,xV,fun k=>?_⟩,hg⟩;by_cases hx:m=k
 ·subst hx;simp only[↓reduceIte];exact⟨by rw[zO hi (show zf (.string m) from trivial)];simp,fun y hy=>by cases hy;rw[zI hi (show zf (.string m) from trivial)]⟩
 ·simp only[hx,↓reduceIte];have xc:(Lit.string k) ≠ .string m:=fun q=>hx (by cases q;rfl)
  exact⟨by rw[zM xc];exact(h3 k).1,fun y hy=>by rw[zH xc];exact(h3 k).2 y hy⟩
def XL(ks:List Wd)(k:Wd):Option Nat:=if k∈ks then some 1 else none
def Il(ks:List Wd)(t:Nat)(key:Wd)(s:MkS)(c:Nat):MkS:=if Kq.getD c []=key\/key=qz/\Kq.getD c [] ∉ ks then s.u7 t c else s
structure SW(S:Nat->Prop)(p ab am hb hm tb b c idx na nh:Nat)(ks:List Wd)(fa:Wd->Option (Nat×Nat))(w:World):Prop where
 ca:w.cell? ⟨ab,0,none⟩=some (.map (some am))
 ma:Zw w am na fa
 ch:w.cell? ⟨hb,0,none⟩=some (.map (some hm))
 mh:kW 3 w hm nh (XL ks)
 ct:w.cell? ⟨tb,0,none⟩=some (bM b c)
 l:ke w p idx b c
 na:qd w
 s:S ab/\S am/\S hb/\S hm/\S tb/\S b/\S c/\S 0
section
variable {S:Nat->Prop} {p ab am hb hm tb b c idx na nh:Nat} {ks:List Wd} {fa:Wd->Option (Nat×Nat)} {W0 W:World} {L L':di}
theorem SW.at(h:SW S p ab am hb hm tb b c idx na nh ks fa W0)(hI:X9 S p W0 L W):SW S p ab am hb hm tb b c idx na nh ks fa W:=by
 obtain⟨s1,s2,s3,s4,s5,s6,s7,s8⟩:=h.s;exact⟨hI.cell h.ca s1,h.ma.keep (hI _ s2).2.2,hI.cell h.ch s3,h.mh.keep (hI _ s4).2.2,hI.cell h.ct s5,hI.u7 h.l s6 s7,fun j hj=>hI.cell (h.na j hj) s8,h.s⟩
theorem SA(s:MkS)(x:j8)(key:Wd)(a:Nat)(ma:Option Addr)(mn mc:Nat)(BV:uz p L s W)(h:SW S p ab am hb hm tb b c idx na nh ks fa W0)(hI:X9 S p W0 L W)(hk:key.length<=17)(hx:s.code[idx]? = some x)(hj:x.tg.length=6)(hs:s.sz<=900000)(hf:fa key=none) :
  Calls prog 164 #[.agg #[xk key,.int .i64 (a:Nat),.slice ma mn mc],.pointer (some ⟨ab,0,none⟩),.pointer (some ⟨hb,0,none⟩),.pointer (some ⟨tb,0,none⟩)] W (I3 p L (MkS.IM ks idx key s) W):=by
 obtain⟨A,hA⟩:=xX (W.alloc (.cells #[xk key,.int .i64 (a:Nat),.slice ma mn mc] 183));have fA:Fr xH xH W A:=by rw[←hA];exact(Fr.refl _ _).alloc _
 have hIA:=hI.al fA (fun _ q=>q.elim);have Sa:=h.at hIA;have af:=BV.fr fA (fun _ q=>q.elim);have cA:=xu W #[xk key,.int .i64 (a:Nat),.slice ma mn mc] 183 (0,0) 0;obtain⟨v,VF,-⟩:=Sa.ma.look key (by omega);rw[hf] at VF;have c1:=Sa.ca;have n0:=Sa.na 0 (by omega);have n1:=Sa.na 1 (by omega);have n2:=Sa.na 2 (by omega);have n3:=Sa.na 3 (by omega);have n4:=Sa.na 4 (by omega);have n5:=Sa.na 5 (by omega);simp only[ZQ,List.getD_cons_zero,List.getD_cons_succ] at n0 n1 n2 n3 n4 n5;have hmW:=fun {g:Nat} (hg:L.has p g)=>BV.lt hg
 have HI:=z7 hI;have HH:=z7 h;have HM:=z7 af;have DX:=z7 fA;have HIA:=z7 hIA;have HX:=z7 hx;obtain⟨R,hR⟩:=xX (MkS.IM ks idx key s);rw[hR];have HR:=z7 (show(zE 6).foldl (Il ks idx key) s=R from hR);subst hA;clear hI h BV fA hIA Sa af hx hR hf;go_enter func164,ntmps164;go_wp2_with fail;go_loopw [20] (fun jv wr=>∃ j s',jv = .int .i64 (j:Nat)/\j<=6/\s'=(zE j).foldl (Il ks idx key) s/\uz p L s' wr/\Fr (L.has p) (L.has p) W wr/\X9 S p W0 L wr/\s.le s'/\s'.sz=s.sz/\wr.cell? ⟨W.heap.size,0,none⟩=some (xk key)) (fun jv _=>6 - (intOf jv).toNat)
 case atStart=>exact⟨0,s,rfl,by omega,rfl,HM.out,DX.out.wide (fun _ q=>q.elim),HIA.out,s.le_refl,rfl,cA⟩
 case round =>
  clear cA c1 VF n0 n1 n2 n3 n4 n5;obtain⟨j,s',rfl,hj6,Wr,Ws,hf',nT,hle,qP,Wt⟩:=hrel;have hP':=HH.out.at nT;have nW:¬L.has p W.heap.size:=fun q=>by have:=HM.out;have h2:=hmW q;omega
  obtain⟨y,hy,hyt⟩:=hle _ _ HX.out;have HS':=z7 Wr;have HM':=z7 Ws;have HF':=z7 hf';have HI':=z7 nT;have aQ:=z7 hle;have du:=z7 qP;by_cases xD:j<6
  ·obtain⟨t,ht⟩:=xX (Kq.getD j []);have Im:∀ W:World,(Instr.index 138 (.agg #[.string ⟨#[122,101,114,111]⟩,.string ⟨#[111,110,101]⟩,.string ⟨#[116,119,111]⟩,.string ⟨#[102,101,119]⟩,.string ⟨#[109,97,110,121]⟩,.string ⟨#[111,116,104,101,114]⟩]) (.int .i64 (j:Int))).run prog W = .ok (xk t) W:=by
    rw[←ht];match j,xD with
    | 0,_=>exact fun W=>by kernel_rfl
    | 1,_=>exact fun W=>by kernel_rfl
    | 2,_=>exact fun W=>by kernel_rfl
    | 3,_=>exact fun W=>by kernel_rfl
    | 4,_=>exact fun W=>by kernel_rfl
    | 5,_=>exact fun W=>by kernel_rfl
   have Ja:t.length<=5:=by
    rw[←ht];match j,xD with
    | 0,_=>decide
    | 1,_=>decide
    | 2,_=>decide
    | 3,_=>decide
    | 4,_=>decide
    | 5,_=>decide
   have ch:=hP'.ch;have ct:=hP'.ct;have VF:=hP'.mh.KW K5 t (by omega);have qs:=z7 (show(zE (j+1)).foldl (Il ks idx key) s=Il ks idx key s' j by rw[List.range_succ,List.foldl_append,←Wr];rfl);have HCG:=z7 (show Il ks idx key s' j=if t=key\/key=qz/\t ∉ ks then s'.u7 idx j else s' by unfold Il;rw[ht]);have bV:s'.code.length<=900000:=by unfold MkS.sz at qP hs;omega
   have Wh:=z7 (Uc p L s' idx j b c y wr Ws hP'.l hy (by omega) (by omega) (by omega));have k3:(j:Int)<6:=by omega
   clear Ws hf' nT hP' hle Wr ht;by_cases Cw:t=key\/key=qz/\t ∉ ks
   ·have HG:=z7 (show(zE (j+1)).foldl (Il ks idx key) s=s'.u7 idx j by rw[qs.out,HCG.out,if_pos Cw]);rcases (show t=key\/¬t=key/\key=qz/\t ∉ ks by by_cases q:t=key;exact .inl q;exact .inr ⟨q,Cw.resolve_left q⟩) with ha|⟨ha,hb,hc⟩
    ·have kA:(t==key)=true:=by simp[ha]
     clear ha Cw;go_wp2_with fail;refine Wh.out.mono ?_;rintro e w3 ⟨rfl,Ke,jx⟩;have DY:=z7 Ke;have XY:=z7 jx;have zq3:=jx.cell Wt nW;clear Ke jx Wh;go_wp2;go_roundw
     case rel=>exact⟨j+1,s'.u7 idx j,by go_num,by omega,HG.out.symm,DY.out,HF'.out.trans XY.out,HI'.out.fr XY.out,MkS.le_trans aQ.out (s'.ZF _ _),by rw[gI];exact du.out,zq3⟩
     case measure=>simp only[intOf];omega
    ·have kA:(t==key)=false:=by simp[ha]
     have kB:(key==[111,116,104,101,114])=true:=by rw[hb];decide
     rw[show XL ks t=none from if_neg hc] at VF;clear ha hb hc Cw;go_wp2_with fail;refine Wh.out.mono ?_;rintro e w3 ⟨rfl,Ke,jx⟩;have DY:=z7 Ke;have XY:=z7 jx;have zq3:=jx.cell Wt nW;clear Ke jx Wh;go_wp2;go_roundw
     case rel=>exact⟨j+1,s'.u7 idx j,by go_num,by omega,HG.out.symm,DY.out,HF'.out.trans XY.out,HI'.out.fr XY.out,MkS.le_trans aQ.out (s'.ZF _ _),by rw[gI];exact du.out,zq3⟩
     case measure=>simp only[intOf];omega
   ·have HG:=z7 (show(zE (j+1)).foldl (Il ks idx key) s=s' by rw[qs.out,HCG.out,if_neg Cw]);have ha:¬t=key:=fun q=>Cw (.inl q)
    have kA:(t==key)=false:=by simp[ha]
    by_cases hb:key=qz
    ·have hc:t∈ks:=Classical.byContradiction fun q=>Cw (.inr ⟨hb,q⟩)
     have kB:(key==[111,116,104,101,114])=true:=by rw[hb];decide
     rw[show XL ks t=some 1 from if_pos hc] at VF;clear ha hb hc Cw;go_wp2;go_roundw
     case rel=>exact⟨j+1,s',by go_num,by omega,HG.out.symm,HM'.out,HF'.out,HI'.out,aQ.out,du.out,Wt⟩
     case measure=>simp only[intOf];omega
    ·have kB:(key==[111,116,104,101,114])=false:=by simpa[qz] using hb
     clear ha hb Cw;go_wp2;go_roundw
     case rel=>exact⟨j+1,s',by go_num,by omega,HG.out.symm,HM'.out,HF'.out,HI'.out,aQ.out,du.out,Wt⟩
     case measure=>simp only[intOf];omega
  ·have fy:=z7 (show s'=R by rw[Wr,show j=6 by omega];exact HR.out);have k3:¬(j:Int)<6:=by omega
   clear Ws hf' nT hP' hle Wr;go_wp2;refine bodyPost_ret (v := .tuple #[]) ?_ rfl ?_
   ·simp[results,results164,go_sem]
   rw[←fy.out];exact⟨rfl,HM'.out,HF'.out⟩
theorem Se(s:MkS)(x:j8)(key:Wd)(a:Nat)(ma:Option Addr)(mn mc:Nat)(b1 c1 i1:Nat)(BV:uz p L s W)(h:SW S p ab am hb hm tb b c idx na nh ks fa W0)(hI:X9 S p W0 L W)(hk:key.length<=17)(hl:ke W0 p i1 b1 c1)(xB:S b1)(qX:S c1)(hx:s.code[i1]? = some x)(hj:x.tg.length=1)(hs:s.sz<=900000)(hf:fa key=some (b1,c1)) :
  Calls prog 164 #[.agg #[xk key,.int .i64 (a:Nat),.slice ma mn mc],.pointer (some ⟨ab,0,none⟩),.pointer (some ⟨hb,0,none⟩),.pointer (some ⟨tb,0,none⟩)] W (I3 p L (s.u7 i1 0) W):=by
 obtain⟨A,hA⟩:=xX (W.alloc (.cells #[xk key,.int .i64 (a:Nat),.slice ma mn mc] 183));have fA:Fr xH xH W A:=by rw[←hA];exact(Fr.refl _ _).alloc _
 have hIA:=hI.al fA (fun _ q=>q.elim);have Sa:=h.at hIA;have af:=BV.fr fA (fun _ q=>q.elim);have cA:=xu W #[xk key,.int .i64 (a:Nat),.slice ma mn mc] 183 (0,0) 0;obtain⟨v,VF,hv⟩:=Sa.ma.look key (by omega);obtain rfl:=hv _ hf;rw[hf] at VF;have c1':=Sa.ca;have bV:s.code.length<=900000:=by unfold MkS.sz at hs;omega
 have Wh:=z7 (Uc p L s i1 0 b1 c1 x A af (hIA.u7 hl xB qX) hx (by omega) (by omega) (by omega));have DX:=z7 fA;subst hA;clear hI h BV fA hIA Sa af hx hf hv hl;go_enter func164,ntmps164;go_wp2_with fail;refine Wh.out.mono ?_;rintro e w3 ⟨rfl,Ke,jx⟩;have DY:=z7 Ke;have XY:=z7 jx;clear Ke jx Wh;go_wp2;refine bodyPost_ret (v := .tuple #[]) ?_ rfl ?_
 ·simp[results,results164,go_sem]
 exact⟨rfl,DY.out,(DX.out.wide (fun _ q=>q.elim)).trans XY.out⟩
end
abbrev XM:=List (Wd×Nat×Nat×Nat)
def XM.fn(al:XM)(k:Wd):Option (Nat×Nat):=(al.lookup k).map (·.2)
def XM.ix(al:XM):List (Wd×Nat):=al.map fun e=>(e.1,e.2.1)
theorem BQ:∀ (al:XM) (k:Wd),al.ix.lookup k=(al.lookup k).map (·.1)
 | [],_=>rfl
 |(k1,i,bc)::al,k=>by
  have:=BQ al k;simp only[XM.ix,List.map_cons,zD] at this ⊢;split<;>simp_all
theorem Gi:∀ (al:XM) (k:Wd) (x:Nat×Nat×Nat),al.lookup k=some x->(k,x)∈al
 | [],_,_,h=>by cases h
 |(k1,y)::al,k,x,h=>by
  simp only[zD] at h;split at h
  ·next hk=>cases h;rw[eq_of_beq hk];exact ze
  ·exact zc _ (Gi al k x h)
theorem Io(al:XM)(m k:Wd)(x:Nat×Nat×Nat)(h:∀ e∈al,e.1≠m):(al++[(m,x)]).lookup k=if m=k then some x else al.lookup k:=by
 induction al with
 | nil =>
  simp only[List.nil_append,zD,List.lookup_nil];by_cases hk:m=k
  ·simp[hk]
  ·rw[if_neg hk,show(k==m)=false by simpa using fun e=>hk e.symm]
 | cons a al ih =>
  obtain⟨k1,y⟩:=a;have h1:k1≠m:=h (k1,y) ze;have ih:=ih (fun e he=>h e (zc _ he));simp only[List.cons_append,zD];by_cases hk:k=k1
  ·subst hk;rw[if_neg (fun e=>h1 e.symm)];simp
  ·rw[show(k==k1)=false by simpa using hk];exact ih
theorem Nw{ks:List Wd}{k:Wd}:(fun x=>if k=x then some 1 else XL ks x)=XL (ks++[k]):=by
 funext x;unfold XL;by_cases hx:k=x
 ·simp[hx]
 ·have:¬x=k:=fun e=>hx e.symm
  simp[hx,this]
structure YC(N p ab am hb hm:Nat)(pre:List Wd)(al:XM)(s:MkS)(L:di)(w:World):Prop where
 ca:w.cell? ⟨ab,0,none⟩=some (.map (some am))
 ma:Zw w am al.length al.fn
 ch:w.cell? ⟨hb,0,none⟩=some (.map (some hm))
 mh:kW 3 w hm pre.length (XL pre)
 lo:N<=ab/\N<=am/\N<=hb/\N<=hm
 out:¬L.has p ab/\¬L.has p am/\¬L.has p hb/\¬L.has p hm
 ne:ab≠am/\ab≠hm/\am≠hb/\am≠hm/\hb≠hm
 lp:∀ e∈al,ke w p e.2.1 e.2.2.1 e.2.2.2/\¬L.has p e.2.2.1/\¬L.has p e.2.2.2/\∃ y,s.code[e.2.1]? = some y/\y.tg.length=1
 ks:∀ e∈al,e.1∈pre
section
variable {N p ab am hb hm:Nat} {pre:List Wd} {al:XM} {s s':MkS} {L L':di} {w w':World}
theorem YC.lt(h:YC N p ab am hb hm pre al s L w):ab<w.heap.size/\am<w.heap.size/\hb<w.heap.size/\hm<w.heap.size:=⟨zx w _ h.ca,h.ma.lt,zx w _ h.ch,h.mh.lt⟩
theorem YC.fr(h:YC N p ab am hb hm pre al s L w)(hf:Fr (L.has p) (L'.has p) w w')(hs:s.le s'):YC N p ab am hb hm pre al s' L' w':=by
 obtain⟨o1,o2,o3,o4⟩:=h.out;obtain⟨l1,l2,l3,l4⟩:=h.lt;have no:∀ g,¬L.has p g->g<w.heap.size->¬L'.has p g:=fun g a b q=>(hf.fp g q).elim a (by omega)
 refine⟨hf.cell h.ca o1,h.ma.fr hf o2,hf.cell h.ch o3,h.mh.fr hf o4,h.lo,⟨no _ o1 l1,no _ o2 l2,no _ o3 l3,no _ o4 l4⟩,h.ne,fun e he=>?_,h.ks⟩;obtain⟨a,b,c,y,d,e2⟩:=h.lp e he;obtain⟨y2,d2,e3⟩:=hs _ y d;exact⟨a.fr hf b c,no _ b a.lt.1,no _ c a.lt.2,y2,d2,e3.trans e2⟩
theorem YC.al'{F F':Nat->Prop}(h:YC N p ab am hb hm pre al s L w)(hf:Fr F F' w w')(hF:∀ g,F g->w.heap.size<=g):YC N p ab am hb hm pre al s L w':=by
 obtain⟨l1,l2,l3,l4⟩:=h.lt;have nf:∀ g,g<w.heap.size->¬F g:=fun g a q=>by have:=hF g q;omega
 refine⟨hf.cell h.ca (nf _ l1),h.ma.fr hf (nf _ l2),hf.cell h.ch (nf _ l3),h.mh.fr hf (nf _ l4),h.lo,h.out,h.ne,fun e he=>?_,h.ks⟩;obtain⟨a,b,c,d⟩:=h.lp e he;exact⟨a.fr hf (nf _ a.lt.1) (nf _ a.lt.2),b,c,d⟩
theorem YC.uk{m:Nat}(h:YC N p ab am hb hm pre al s L w)(hg:w.grownBy w' (some m))(hm:Zc w m=none):∀ e∈al,ke w' p e.2.1 e.2.2.1 e.2.2.2/\¬L.has p e.2.2.1/\¬L.has p e.2.2.2/\∃ y,s.code[e.2.1]? = some y/\y.tg.length=1:=fun e he=>by
 obtain⟨a,b,c,d⟩:=h.lp e he;have hf:Fr (fun k=>k=m) (fun k=>k=m) w w':=⟨hg.os,hg.tape,hg.output,hg.size,fun k hk hn=>hg.block k hk (fun e=>hn (zv e)),fun _ q => .inl q⟩;exact⟨a.fr hf (fun e=>by have:=a.tb;rw[e,hm] at this;cases this) (fun e=>by have:=a.tc;rw[e,hm] at this;cases this),b,c,d⟩
theorem aK{w:World}{b n:Nat}{f:Wd->Option (Nat×Nat)}(h:Zw w b n f):Zc w b=none:=by
 obtain⟨D,⟨es,clock,ho,_⟩,_⟩:=h;simp[Zc,ho]
theorem YC.key{k:Wd}(h:YC N p ab am hb hm pre al s L w)(jI:kW 3 w' hm (pre.length+1) (fun x=>if k=x then some 1 else XL pre x))(hg:w.grownBy w' (some hm)):YC N p ab am hb hm (pre++[k]) al s L w':=by
 have hf:Fr (fun k=>k=hm) (fun k=>k=hm) w w':=⟨hg.os,hg.tape,hg.output,hg.size,fun k hk hn=>hg.block k hk (fun e=>hn (zv e)),fun _ q => .inl q⟩;obtain⟨n1,n2,n3,n4,n5⟩:=h.ne;rw[Nw] at jI;exact⟨hf.cell h.ca n2,h.ma.fr hf n4,hf.cell h.ch n5,by simpa using jI,h.lo,h.out,h.ne,h.uk hg (Yb h.mh),fun e he=>List.mem_append_left _ (h.ks e he)⟩
theorem YC.ask{k:Wd}{i b c:Nat}{y:j8}(h:YC N p ab am hb hm pre al s L w)(hk:k∈pre)(hn:∀ e∈al,e.1≠k)(jI:Zw w' am (al.length+1) (fun x=>if k=x then some (b,c) else al.fn x))(hg:w.grownBy w' (some am))
  (hl:ke w p i b c) (ob:¬L.has p b) (oc:¬L.has p c) (hy:s.code[i]? = some y) (h1:y.tg.length=1):YC N p ab am hb hm pre (al++[(k,i,b,c)]) s L w':=by
 have hf:Fr (fun k=>k=am) (fun k=>k=am) w w':=⟨hg.os,hg.tape,hg.output,hg.size,fun k hk hn=>hg.block k hk (fun e=>hn (zv e)),fun _ q => .inl q⟩;obtain⟨n1,n2,n3,n4,n5⟩:=h.ne;have MW:=aK h.ma;have e1:(fun x=>if k=x then some (b,c) else al.fn x)=XM.fn (al++[(k,i,b,c)]):=by
  funext x;unfold XM.fn;rw[Io al k x _ hn];split<;>rfl
 rw[e1] at jI;refine⟨hf.cell h.ca n1,by simpa using jI,hf.cell h.ch n3.symm,h.mh.fr hf (fun e=>n4 e.symm),h.lo,h.out,h.ne,fun e he=>?_,fun e he=>?_⟩
 ·rcases zS.1 he with he|he
  ·exact h.uk hg MW e he
  ·simp at he;subst he;exact⟨hl.fr hf (fun e=>by have:=hl.tb;rw[e,MW] at this;cases this) (fun e=>by have:=hl.tc;rw[e,MW] at this;cases this),ob,oc,y,hy,h1⟩
 ·rcases zS.1 he with he|he
  ·exact h.ks e he
  ·simp at he;subst he;exact hk
end
def plG(ks:List Wd)(ix:List (Wd×Nat))(t:Nat)(k:Wd)(x:MkS):MkS :=
 match ix.lookup k with
 | some i=>x.u7 i 0
 | none=>MkS.IM ks t k x
def O0(ab am hb hm tb b c:Nat)(al:XM)(g:Nat):Prop:=g=ab\/g=am\/g=hb\/g=hm\/g=tb\/g=b\/g=c\/g=0\/∃ e∈al,g=e.2.2.1\/g=e.2.2.2
theorem pZ{N p ab am hb hm idx b c:Nat}{pre:List Wd}{al:XM}{s:MkS}{L:di}{w wT:World}{x:j8}(h:YC N p ab am hb hm pre al s L w)(hl:ke w p idx b c)(ob:¬L.has p b)(oc:¬L.has p c)(hna:qd w)(hB:0<L.B)(BV:uz p L s w)
  (hx:s.code[idx]? = some x) (wb:x.tg.length=6) (hk:∀ k∈pre,k.length<=17) (hT:w.alloc (.cells #[bM b c] 189)=wT) :
  zuq wT.heap.size p s pre (plG pre al.ix idx) (.func (.func 164) #[] #[.pointer (some ⟨ab,0,none⟩),.pointer (some ⟨hb,0,none⟩),.pointer (some ⟨w.heap.size,0,none⟩)]) (fun L W=>X9 (O0 ab am hb hm w.heap.size b c al) p wT L W)/\X9 (O0 ab am hb hm w.heap.size b c al) p wT L wT:=by
 have Nh:Fr xH xH w wT:=by rw[←hT];exact(Fr.refl _ _).alloc _
 have hcT:=xu w #[bM b c] 189 (0,0) 0;rw[hT] at hcT;have hsT:wT.heap.size=w.heap.size+1:=by rw[←hT];simp
 have hp:=h.al' Nh (fun _ q=>q.elim);obtain⟨l1,l2,l3,l4⟩:=h.lt;obtain⟨o1,o2,o3,o4⟩:=h.out;have ll:=hl.lt;have UP:=BV.base;refine⟨⟨⟨_,_,rfl,fun args w=>by first|rfl|simp[callFunc],fun L' s' W key a ma mn mc Ws hI hle qP JC=>?_⟩,fun L L' W W' h hf=>h.fr hf,fun L W W' F F' h hf hF=>h.al hf hF,fun k x=>?_⟩,fun g hg=>?_⟩
 ·have hP:SW (O0 ab am hb hm w.heap.size b c al) p ab am hb hm w.heap.size b c idx al.length pre.length pre al.fn wT :=
   ⟨hp.ca,hp.ma,hp.ch,hp.mh,hcT,hl.fr Nh id id,fun j hj=>Nh.cell (hna j hj) id,.inl rfl,.inr (.inl rfl),.inr (.inr (.inl rfl)),.inr (.inr (.inr (.inl rfl))),.inr (.inr (.inr (.inr (.inl rfl)))),.inr (.inr (.inr (.inr (.inr (.inl rfl))))),.inr (.inr (.inr (.inr (.inr (.inr (.inl rfl)))))),.inr (.inr (.inr (.inr (.inr (.inr (.inr (.inl rfl))))))) ⟩
  have py:=hk key JC;unfold plG;rw[BQ]
  cases um:al.lookup key with
  | none =>
   obtain⟨y,hy,hyt⟩:=hle _ x hx;exact SA s' y key a ma mn mc Ws hP hI py hy (hyt.trans wb) qP (by unfold XM.fn;rw[um];rfl)
  | some e =>
   obtain⟨i1,b1,c1⟩:=e;have zq4:=Gi al key _ um;obtain⟨q1,q2,q3,y0,q4,q5⟩:=hp.lp _ zq4;obtain⟨y,hy,hyt⟩:=hle _ y0 q4;exact Se s' y key a ma mn mc b1 c1 i1 Ws hP hI py q1 (.inr (.inr (.inr (.inr (.inr (.inr (.inr (.inr ⟨_,zq4,.inl rfl⟩)))))))) (.inr (.inr (.inr (.inr (.inr (.inr (.inr (.inr ⟨_,zq4,.inr rfl⟩)))))))) hy (hyt.trans q5) qP (by unfold XM.fn;rw[um];rfl)
 ·unfold plG;split
  ·exact⟨x.ZF _ _,gI _ _ _⟩
  ·exact MkS.az _ _ _ _
 ·have QT:∀ k,L.has p k->L.B<=k:=BV.lo;rcases hg with rfl|rfl|rfl|rfl|rfl|rfl|rfl|rfl|⟨e,he,rfl|rfl⟩
  ·exact⟨by omega,o1,rfl⟩
  ·exact⟨by omega,o2,rfl⟩
  ·exact⟨by omega,o3,rfl⟩
  ·exact⟨by omega,o4,rfl⟩
  ·exact⟨by omega,fun q=>by have:=BV.lt q;omega,rfl⟩
  ·exact⟨by omega,ob,rfl⟩
  ·exact⟨by omega,oc,rfl⟩
  ·exact⟨by omega,fun q=>by have:=QT _ q;omega,rfl⟩
  ·obtain⟨q1,q2,q3,-⟩:=h.lp e he;exact⟨by have:=q1.lt;omega,q2,rfl⟩
  ·obtain⟨q1,q2,q3,-⟩:=h.lp e he;exact⟨by have:=q1.lt;omega,q3,rfl⟩
theorem Si{p:Nat}{L:di}{s:MkS}{w:World}(h:uz p L s w)(N:Nat)(hN:N<=w.heap.size) :
  ∃ W,W=(((w.alloc (.map #[] 0)).alloc (.cells #[.map (some w.heap.size)] 185)).alloc (.map #[] 0)).alloc (.cells #[.map (some (w.heap.size+2))] 298) /\
   YC N p (w.heap.size+3) (w.heap.size+2) (w.heap.size+1) w.heap.size [] [] s L W/\Fr xH xH w W:=by
 obtain⟨A,hA⟩:=xX (w.alloc (.map #[] 0));have sA:A.heap.size=w.heap.size+1:=by rw[←hA];simp
 have mA:=kW.made 3 w;have fA:Fr xH xH w A:=by rw[←hA];exact(Fr.refl _ _).alloc _
 rw[hA] at mA ⊢;clear hA;obtain⟨B,hB⟩:=xX (A.alloc (.cells #[.map (some w.heap.size)] 185));have sB:B.heap.size=w.heap.size+2:=by rw[←hB];simp[sA]
 have cB:=xu A #[.map (some w.heap.size)] 185 (0,0) 0;have fB:Fr xH xH A B:=by rw[←hB];exact(Fr.refl _ _).alloc _
 rw[hB,sA] at cB;rw[hB];clear hB;obtain⟨C,hC⟩:=xX (B.alloc (.map #[] 0));have mC:=Zw.made B;have sC:C.heap.size=w.heap.size+3:=by rw[←hC];simp[sB]
 have fC:Fr xH xH B C:=by rw[←hC];exact(Fr.refl _ _).alloc _
 rw[hC,sB] at mC;rw[hC];clear hC;have fD:Fr xH xH C (C.alloc (.cells #[.map (some (w.heap.size+2))] 298)):=(Fr.refl _ _).alloc _;have f:=fC.trans fD;have no:∀ g,w.heap.size<=g->¬L.has p g:=fun g hg q=>by have:=h.lt q;omega
 have e0:XL []=fun _=>none:=by funext x;simp[XL]
 refine⟨_,rfl,⟨?_,mC.fr fD id,f.cell cB id,by rw[e0];exact mA.fr (fB.trans f) id,by omega,⟨no _ (by omega),no _ (by omega),no _ (by omega),no _ (by omega)⟩,by omega,(fun e he=>by cases he),(fun e he=>by cases he)⟩,fA.trans (fB.trans f)⟩;rw[←sC];exact xu C #[.map (some (w.heap.size+2))] _ _ _
theorem R8(k:Wd)(h:k.head? = some 61):zF k [61]=true/\zJ k [61]=k.tail:=by
 cases k with
 | nil=>cases h
 | cons c t=>simp at h;subst h;constructor<;>simp[zF,zJ]
theorem R9(k:Wd)(h:¬k.head? = some 61):zF k [61]=false/\zJ k [61]=k:=by
 cases k with
 | nil=>constructor<;>simp[zF,zJ]
 | cons c t =>
  have hc:¬c=61:=fun e=>h (by rw[e];rfl)
  have jJ:¬61=c:=fun e=>hc e.symm
  constructor<;>simp[zF,zJ,List.isPrefixOf,hc,jJ]
theorem Sl(l:Wd)(h:l.length<=9)(hd:l.all xJ=true):xE l<=4000000000:=by
 have hb:∀ (l:Wd) (v:Nat),l.all xJ=true->l.foldl (fun v c=>10*v+(c.toNat - 48)) v<(v+1)*10 ^ l.length:=by
  intro l;induction l with
  | nil=>intro v _;simp
  | cons c t ih =>
   intro v h;simp only[List.all_cons,zk] at h;have hc:=(vR c).1 h.1;have:=ih (10*v+(c.toNat - 48)) h.2;rw[List.foldl_cons,zP];refine zl this ?_;have h3:10*v+(c.toNat - 48)+1<=(v+1)*10:=by omega
   calc (10*v+(c.toNat - 48)+1)*10 ^ t.length<=((v+1)*10)*10 ^ t.length:=Nat.mul_le_mul_right _ h3
    _=(v+1)*10 ^ (t.length+1):=by rw[Nat.pow_succ,Nat.mul_assoc,Nat.mul_comm 10]
 have h1:=hb l 0 hd;have h2:10 ^ l.length<=10 ^ 9:=Nat.pow_le_pow_right (by decide) h;have h3:(10:Nat) ^ 9=1000000000:=by decide
 unfold xE;omega
theorem O1{lo hi:Nat}{w0:World}(b0:Nat)(n:Wd)(a fo:Nat)(of:Wd)(cl:Nat)(bs:Fo)(p:Nat)(L:di)(s:MkS)(w:World)
  (ih:∀ m:Fo,zy m<zy bs->Ia lo hi w0 m) (h:uz p L s w) (he:YB lo hi w0 L.B w) (Uw:fo≠0)
  (XI:xY lo hi w0 [.iface 177 (.pointer (some ⟨b0,0,none⟩))] (.br n a fo of cl bs .nil)) (hc:(Fo.br n a fo of cl bs .nil).YF) (Jp:(Fo.br n a fo of cl bs .nil).wf 2000000=true) (hs:s.sz+(40+bs.cw)<=900000) :
  Calls prog 122 #[.pointer (some ⟨p,0,none⟩),.pointer (some ⟨b0,0,none⟩)] w (MQ p L ((Qv bs (MkS.jU n of bs s) (MkS.qH n of fo bs s)).put 5 0 [] []) w):=by
 have MA:=@run_makeMap prog;have HND:=z7 XI;obtain⟨vt,b',ba,bc,ws,Nl,xB,xF,gh,qX,jJ,Cn,DZ,Mo,Kd,UP,_⟩:=XI
 cases Nl;obtain⟨oA,Wl,Ps,hL,aX,wJ,DN,-⟩:=hc;have ZK:(decide (n.length<=4000001) && decide (fo<3) && bs.uv && decide (bs.len<=2000000) && bs.wf 2000000 && Fo.nil.wf 2000000)=true:=Jp;simp only[zk,decide_eq_true_eq] at ZK;obtain⟨⟨⟨-,IN⟩,qG⟩,-⟩:=ZK;have c0:=xS he.keep gh xB xF;have c1:=xS he.keep qX xB xF;have c2:=xS he.keep Cn xB xF;have c4:=xS he.keep DZ xB xF;have c3:=xS he.keep jJ xB xF;have qP:s.cs.length<=900000/\s.code.length<=900000/\s.pos<=900000:=by unfold MkS.sz at hs;omega
 have HC:=z7 (Vj p L s n w.drew h.drew (by omega) (by omega));have HH:=z7 h;have HE:=z7 he;have Mp:=z7 Kd;have Wn:=z7 UP;have HL:=z7 hL;have Nn:=z7 aX;have HKS:=z7 wJ;have HBC:=z7 DN;have IP:=z7 qG;have oW:=z7 ih;have HS:=z7 hs;obtain⟨M,hM⟩:=xX bs.len;have HM:=z7 hM;rw[hM] at c4 IN;obtain⟨k0,Cs⟩:=xX (s.num n);rw[Cs] at HC;have R7:=z7 Cs;obtain⟨ov,zq5⟩:=xX (xE of);rw[zq5] at c2 Ps;have HOV:=z7 zq5;clear h he Kd UP hL aX wJ DN qG ih hs hM gh qX jJ Cn DZ Mo Cs Jp zq5;go_enter func122,ntmps122;go_wp2_with fail;refine rt (fun W':World=>W'.cell? ⟨b0,0,none⟩=some (xk n)/\W'.cell? ⟨b0,3,none⟩=some (.int .i64 ov)) [0,1,2,3,4,5,6,9,10,11,12] 4 ⟨c0,c2⟩ ?_;(iterate 11 (refine ty ?_;try simp only[pl]))
 refine xq ?_;refine kR 7 (fun J hJ=>?_);go_simp;refine HC.out.mono ?_;rintro e w1 ⟨rfl,L1,Vc,⟨K6,XX⟩,uy⟩;clear HC;have uy:=uy.und;have nb0:¬L.has p b0:=fun q=>by have:=HH.out.lo _ q;have:=HE.out.hB;omega
 have d0:=uy.cell c0 nb0;have d2:=uy.cell c2 nb0;refine hJ.out _ _ ⟨d0,d2⟩ fun _=>?_
 clear hJ J;refine kR 8 (fun J hJ=>?_);go_simp;refine hJ.out _ _ ⟨xQ d0 _,xQ d2 _⟩ fun _=>?_
 clear hJ J;refine Vv [13] 1 ⟨xQ d0 _,xQ d2 _⟩ ?_;refine ty ?_;try simp only[pl]
 refine xq ?_;refine kR 14 (fun J hJ=>?_);go_simp;have DD:=uo.lit w1 [k0] (by simp);have zmq:=Vc.alloc (.cells (Zg [k0]).toArray 3);obtain⟨z1,z2,z3⟩:=vz s n;have hk9:k0<=900000:=by have:=CV s n;have:=R7.out;omega
 have dH:(uq ⟨4,(s.const n).pos,ov,[k0],[]⟩).length=7:=by simp[uq,gB,kG,uY,kJ]
 have hF1:jk (w1.alloc (.cells (Zg [k0]).toArray 3)):=(HE.out.fo.fr uy HH.out.lo HE.out.g1).fr ((Fr.refl xH w1).alloc _) (fun _ q=>q.elim) HE.out.g1;have HP:=z7 (dh p L1 (s.const n) 4 ov [k0] [] (.slice (some ⟨w1.heap.size,0,none⟩) 1 1) (.slice none 0 0) (w1.alloc (.cells (Zg [k0]).toArray 3)) zmq DD (uo.nil _) (fun g hg q=>by cases hg;exact zZ _ (Vc.lt q)) (fun g hg=>by cases hg) (fun g hg=>by cases hg)
  (fun g hg=>by rcases hg with hg|hg<;>cases hg;have:=Vc.base;show L1.B<=w1.heap.size;omega)
  ⟨(by decide:4<12),by show ov<=_;omega,by simp;omega,by simp,by simp,rfl⟩ hF1 (by rw[XX];exact HE.out.g1) (by rw[z2];omega) (by rw[z3];omega) (by rw[dH];omega))
 refine HP.out.mono ?_;rintro e w2 ⟨bx,cx,rfl,-,-,-,L2,jI,⟨j9,JV⟩,vu,-,-⟩;have fA:Fr xH xH w1 (w1.alloc (.cells (Zg [k0]).toArray 3)):=(Fr.refl _ _).alloc _;have F2:Fr (L.has p) (L2.has p) w w2:=(uy.trans (fA.wide (fun _ q=>q.elim))).tr vu (fun q hq=>by
  rcases hq with hq|hq|hq
  ·exact uy.fp q hq
  ·cases hq;exact .inr uy.size
  ·cases hq)
 obtain⟨s2,ue⟩:=xX ((s.const n).put 4 ov [k0] []);have Uf:s2.sz<=s.sz+9:=by rw[←ue,jn,dH];omega
 rw[ue] at jI;have d0:=F2.cell c0 nb0;have d2:=F2.cell c2 nb0;have d4:=F2.cell (a:=⟨b0,4,none⟩) c4 nb0;have d3:=F2.cell (a:=⟨b0,2,none⟩) c3 nb0;refine hJ.out _ _ ⟨d0,d2⟩ fun _=>?_
 clear hJ J;refine bX ?_ _;have fy:=z7 F2;have YZ:=z7 jI;have dv:=z7 ue;obtain⟨W,hW,vH,Xq⟩:=Si (s:=s2) jI w.heap.size F2.size;have c4a:=fun o1 o2 o3 o4=>xQ (xQ (xQ (xQ d4 o1) o2) o3) o4
 have zmk:L2.q=L.q/\L2.B=L.B:=⟨j9.trans K6,JV.trans XX⟩;have HQ:=z7 zmk;clear Vc zmq DD hF1 HP uy vu fA F2 jI ue K6 j9 XX JV zmk dH z1 z2 z3;go_wp2_with fail;rw[show w2.heap.size+1+1+1=w2.heap.size+3 from rfl,show w2.heap.size+1+1=w2.heap.size+2 from rfl,←hW];obtain⟨ab,hab⟩:=xX (w2.heap.size+3);obtain⟨am,ham⟩:=xX (w2.heap.size+2);obtain⟨hb,hhb⟩:=xX (w2.heap.size+1);obtain⟨hm,hhm⟩:=xX w2.heap.size;rw[hab,hhb];rw[hab,ham,hhb,hhm] at vH;obtain⟨R,hR⟩:=xX (MkS.qJ bs s2 []);have HR:=z7 hR;clear hab ham hhb hhm hR hW;go_loopw [36] (fun iv wr=>∃ i us xs r s1 L3 al pre,iv = .int .i64 (i:Nat)/\i<=M/\xY lo hi w0 xs r/\r.uv=true/\us.length=i*3/\ws=us++xs/\i+r.len=M/\bs.keys=pre++r.keys /\
  uz p L3 s1 wr/\(L3.q=L.q/\L3.B=L.B)/\Fr (L.has p) (L3.has p) w wr/\YC w.heap.size p ab am hb hm pre al s1 L3 wr/\MkS.qJ r s1 al.ix=R/\pre.length=i/\al.length<=i/\s1.sz+8*r.keys.length<=899990) (fun iv _=>M - (intOf iv).toNat)
 case atStart =>
  exact⟨0,[],ws,bs,s2,L2,[],[],rfl,zY _,Wn.out,HL.out,rfl,rfl,by have:=HM.out;omega,rfl,YZ.out.fr Xq (fun _ q=>q.elim),HQ.out,fy.out.trans (Xq.wide (fun _ q=>q.elim)),vH,HR.out,rfl,zg _,by have:=HS.out;have:=Fo.YD bs;omega⟩
 case round =>
  clear vH Xq c4a d0 d2 d3 d4;obtain⟨i,us,xs,r,s1,L3,al,pre,rfl,hiM,gp,ZD,Vl,Vn,kS,Qq,Ke,⟨XJ,De⟩,jx,O2,jM,Ip,um,uL⟩:=hrel;have wN:YB lo hi w0 L3.B wr:=by rw[De];exact HE.out.fr jx HH.out.lo
  have DY:=z7 Ke;have HE3:=z7 wN;have XY:=z7 jx;have HPL:=z7 O2;have b8:=z7 jM;have HLR:=z7 ZD;have Cm:=z7 Vl;have Wo:=z7 Vn;have Xj:=z7 kS;have Ct:=z7 Qq;have gC:=z7 uL;have HPR:=z7 Ip;by_cases xD:i<M
  ·cases r with
   | nil=>exfalso;simp[Fo.len] at kS;omega
   | text t r=>cases ZD
   | hash r=>cases ZD
   | put n a r=>cases ZD
   | num n a r=>cases ZD
   | br n a fo of cl bs r=>cases ZD
   | uf k1 a0 m0 r0 =>
    obtain⟨R5,ma,mc,ms,rfl,XH,aq,Qx⟩:=gp;obtain⟨g2,o2,rfl,e0,e1,e2⟩:=Kb wN.keep Mp.out Vl Vn;have Ql:=z7 Qx;have k3:(i:Int)<(M:Int):=by omega
    have k4:decide ((i:Int)<(M:Int))=true:=by simp;omega
    have Np:Fr xH xH wr (wr.alloc (.cells #[xk k1,.int .i64 (a0:Nat),.slice ma m0.len mc] 183)):=(Fr.refl _ _).alloc _;have hpA:=O2.al' Np (fun _ q=>q.elim);have Na:=Xj.out;simp only[Fo.len] at Na;have Ns:=gC.out;simp only[Fo.keys,zP] at Ns;have hkb:k1∈bs.keys:=by rw[Ct.out];simp[Fo.keys]
    have Ch:k1 ∉ pre:=fun q=>by
     have h1:=Nn.out;rw[Ct.out] at h1;exact(zn.1 h1).2.2 k1 q k1 (by simp[Fo.keys]) rfl
    have yd4:=z7 Ch;obtain⟨py,zq7⟩:=HKS.out k1 hkb;have VF:=hpA.mh.KW K5 k1 (by omega);rw[show XL pre k1=none from if_neg Ch] at VF;obtain⟨wp,XZ,Vg,Kl⟩:=hpA.mh.put K5 k1 (by omega) 1 1 rfl (by omega) (by omega);have Kh:=z7 (hpA.key Vg Kl);have Wp:Fr (fun g=>g=hm) (fun g=>g=hm) (wr.alloc (.cells #[xk k1,.int .i64 (a0:Nat),.slice ma m0.len mc] 183)) wp:=⟨Kl.os,Kl.tape,Kl.output,Kl.size,fun k hk hn=>Kl.block k hk (fun e=>hn (zv e)),fun _ q => .inl q⟩;have Ux:=hpA.ch;have nS:=z7 Wp;have kec:wp.cell? ⟨wr.heap.size,0,none⟩=some (xk k1):=Wp.cell (xu _ _ _ _ _) (fun e=>by have:=O2.lt.2.2.2;simp only at e;omega);have Ii:=z7 ((Ke.fr Np (fun _ q=>q.elim)).fr Wp (by rintro g rfl;exact O2.out.2.2.2));have Vo:=z7 ((jx.trans (Np.wide (fun _ q=>q.elim))).over Wp (by rintro g rfl;exact .inr O2.lo.2.2.2));have O3:=Tryz.strings_CutPrefix ⟨k1.toArray⟩ ⟨#[61]⟩ wp;rw[show(zt k1.toArray).data.toList=k1 by simp,show(zt #[61]).data.toList=[61] from rfl] at O3;clear Ke wN jx jM ZD Vl Vn XH aq Qx kS Qq uL Ip Np hpA O2 Ch Vg Kl Wp;by_cases hx:k1.head? = some 61
    ·rw[(R8 k1 hx).1,(R8 k1 hx).2] at O3;have BK:=z7 O3;obtain⟨q1,q2,q3⟩:=zq7 Uw hx;have Qa:=z7 (Pe k1.tail wp q2 q3 q1);have HX:=z7 hx;obtain⟨kv,VA⟩:=xX (xE k1.tail);obtain⟨kt,hkt⟩:=xX k1.tail;have xqu:kv<=4000000000:=by rw[←VA];exact Sl _ q2 q3
     rw[VA,hkt] at Qa;rw[hkt] at BK;have O4:=z7 VA;clear O3 hx zq7 q1 q2 q3 VA hkt;go_wp2_with fail;refine BK.out.mono ?_;rintro e w4 ⟨rfl,rfl⟩;go_wp2_with fail;refine Qa.out.mono ?_;rintro e w5 ⟨rfl,ju⟩;have f5:Fr xH xH w4 w5:=Fr.of ju;clear BK Qa XZ VF Ux;have ca5:=f5.cell Kh.out.ca id;have ke5:=f5.cell kec id;go_wp2_with fail;refine rt (fun W':World=>W'.cell? ⟨ab,0,none⟩=some (.map (some am))/\W'.cell? ⟨wr.heap.size,0,none⟩=some (xk k1)) [0,1,2,3,4] 4 ⟨ca5,ke5⟩ ?_;(iterate 5 (refine ty ?_;try simp only[pl]))
     refine xq ?_;refine kR 5 (fun J hJ=>?_);obtain⟨w6,BV,hk6,bL⟩:=VZ 1 w5.drew (by omega);rw[show((1:Nat):Int)=1 from rfl] at BV;have bL:=bL.und;have ca6:=bL.cell ca5 id;have ke6:=bL.cell ke5 id;go_simp;refine hJ.out _ _ ⟨ca6,ke6⟩ fun _=>?_
     clear hJ J;refine Vv [6] 2 ⟨ca6,ke6⟩ ?_;refine ty ?_;try simp only[pl]
     refine xq ?_;refine kR 7 (fun J hJ=>?_);go_simp;have f46:Fr xH xH w4 w6:=f5.trans bL;have hm6:=Ii.out.fr f46 (fun _ q=>q.elim);have Sm:=Kh.out.al' f46 (fun _ q=>q.elim);have Da:=Ns;unfold MkS.sz at Da;have h8:(uq ⟨7,s1.pos,kv,[],z8 1 0⟩).length=7:=by simp[uq,gB,kG,uY,kJ]
     have he6:YB lo hi w0 L3.B w6:=by rw[De];exact(HE.out.fr Vo.out HH.out.lo).fr f46 (fun _ q=>q.elim)
     have HP:=z7 (dh p L3 s1 7 kv [] (z8 1 0) (.slice none 0 0) (.slice (some ⟨w5.heap.size,0,none⟩) 1 1) w6 hm6 (uo.nil _) hk6 (fun g hg=>by cases hg) (fun g hg q=>by cases hg;have h1:=Ii.out.lt q;have h2:=f5.size;exact absurd h1 (by show ¬w5.heap.size<w4.heap.size;omega)) (fun g hg q=>by cases q)
      (fun g hg=>by rcases hg with hg|hg<;>cases hg;have h1:=Ii.out.base;have h2:=f5.size;show L3.B<=w5.heap.size;omega)
      ⟨(by decide:7<12),by show kv<=_;omega,by simp,by simp,by simp,rfl⟩ he6.fo he6.g1 (by omega) (by omega) (by omega))
     refine HP.out.mono ?_;rintro e w7 ⟨b,c,rfl,yd6,jD,hc7,L4,hm7,⟨hq7,hB7⟩,hf7,nb7,nc7⟩;have f47:Fr (L3.has p) (L4.has p) w4 w7:=(f46.wide (fun _ q=>q.elim)).tr hf7 (fun q hq=>by
      rcases hq with hq|hq|hq
      ·exact .inl hq
      ·cases hq
      ·cases hq;exact .inr f5.size)
     have nk1:¬L3.has p wr.heap.size:=fun q=>by have:=DY.out.lt q;omega
     have ca7:=f47.cell Kh.out.ca Kh.out.out.1;have ke7:=f47.cell kec nk1;have Hx:=Kh.out.fr f47 (MkS.bA s1 7 kv [] (z8 1 0));obtain⟨w8,zmf,zmd,O5⟩:=Hx.ma.put k1 (by omega) (b,c) (by omega);have HP8:=z7 (Hx.ask (k:=k1) (by simp) (fun e he q=>yd4.out (by rw[←q];exact HPL.out.ks e he)) zmd O5 yd6 nb7 nc7 (i:=s1.code.length) (y:=⟨7,s1.pos,kv,[],z8 1 0⟩) (by simp[MkS.put]) (by simp));have hf8:Fr (fun g=>g=am) (fun g=>g=am) w7 w8:=⟨O5.os,O5.tape,O5.output,O5.size,fun k hk hn=>O5.block k hk (fun e=>hn (zv e)),fun _ q => .inl q⟩;have HM8:=z7 (hm7.fr hf8 (by rintro g rfl;exact Hx.out.2.1));have HF8:=z7 ((Vo.out.trans f47).over hf8 (by rintro g rfl;exact .inr Hx.lo.2.1));have ca8:=hf8.cell ca7 Hx.ne.1;have ke8:=hf8.cell ke7 (fun e=>by have:=HPL.out.lt.2.1;have e2:wr.heap.size=am:=e;omega);have hz8:=jn s1 7 kv [] (z8 1 0);refine hJ.out _ _ ⟨ca7,ke7⟩ fun _=>?_
     clear hJ J;refine kR 8 (fun J hJ=>?_);go_simp;refine hJ.out _ _ ⟨ca8,ke8⟩ fun _=>?_
     clear hJ J;refine bX ?_ _;have hq9:=hq7;clear zmf Hx zmd O5 hm7 hf7 f47 f46 hm6 Sm he6 HP BV;go_wp2;go_roundw
     case rel =>
      refine⟨i+1,us++[xk k1,.int .i64 (a0:Nat),.slice ma m0.len mc],R5,r0,s1.put 7 kv [] (z8 1 0),L4,al++[(k1,s1.code.length,b,c)],pre++[k1],by go_num,by omega,Ql.out,HLR.out,by simp[Cm.out];omega,by rw[Wo.out];simp,by omega,by rw[Ct.out];simp[Fo.keys],HM8.out,⟨hq7.trans XJ,hB7.trans De⟩,HF8.out,HP8.out,?_,by simp[HPR.out],by simp;omega,by omega⟩;have:=b8.out;rw[MkS.qJ,if_pos HX.out,O4.out] at this;simpa[XM.ix] using this
     case measure=>simp only[intOf];omega
    ·rw[(R9 k1 hx).1,(R9 k1 hx).2] at O3;have BK:=z7 O3;have HX:=z7 hx;clear O3 hx zq7;go_wp2_with fail;refine BK.out.mono ?_;rintro e w4 ⟨rfl,rfl⟩;clear BK XZ VF Ux;go_wp2;go_roundw
     case rel =>
      refine⟨i+1,us++[xk k1,.int .i64 (a0:Nat),.slice ma m0.len mc],R5,r0,s1,L3,al,pre++[k1],by go_num,by omega,Ql.out,HLR.out,by simp[Cm.out];omega,by rw[Wo.out];simp,by omega,by rw[Ct.out];simp[Fo.keys],Ii.out,⟨XJ,De⟩,Vo.out,Kh.out,?_,by simp[HPR.out],by omega,by omega⟩;have:=b8.out;rw[MkS.qJ,if_neg HX.out] at this;exact this
     case measure=>simp only[intOf];omega
  ·have vv:r.keys=[]/\MkS.qJ r s1 al.ix=(s1,al.ix):=by
    cases r with
    | nil=>exact⟨rfl,rfl⟩
    | text t r=>cases ZD
    | hash r=>cases ZD
    | put n a r=>cases ZD
    | num n a r=>cases ZD
    | br n a fo of cl bs r=>cases ZD
    | uf k0 a0 m0 r0=>exfalso;simp only[Fo.len] at kS;omega
   have pY:MkS.kI n of bs s=(s1,al.ix):=by
    unfold MkS.kI;rw[R7.out,HOV.out,dv.out,HR.out];exact jM.symm.trans vv.2
   have Kw:=z7 pY;have wP:=z7 (show bs.keys=pre by rw[Qq,vv.1];simp);have k3:¬(i:Int)<(M:Int):=by omega
   have k4:decide ((i:Int)<(M:Int))=false:=by simp;omega
   obtain⟨wm,BV,pg,Uz⟩:=VZ 6 wr (by omega);rw[show((6:Nat):Int)=6 from rfl] at BV;have zmb:=Ke.fr Uz (fun _ q=>q.elim);have hem:=wN.fr Uz (fun _ q=>q.elim);have hpm:=O2.al' Uz (fun _ q=>q.elim);have f3m:Fr (L.has p) (L3.has p) w wm:=jx.trans (Uz.wide (fun _ q=>q.elim));have c3m:=jx.cell (a:=⟨b0,2,none⟩) c3 nb0;have HMM:=z7 zmb;have HEM:=z7 hem;have HPM:=z7 hpm;have H3M:=z7 f3m;have HKM:=z7 pg;have HFM:=z7 Uz;have Da:=uL;unfold MkS.sz at Da;have hs9:s1.sz<=899990:=by omega
   obtain⟨op,uI⟩:=xX ((if fo=2 then 9 else 8));have HSS:=z7 (show s1.put op 0 [] (z8 6 0)=MkS.qH n of fo bs s by unfold MkS.qH;rw[pY,uI]);have lwr:=Ke.base.2;clear Ke wN jx O2 jM ZD Vl Vn kS Qq uL gp vv Ip pY zmb hem hpm f3m pg;have zq9:(((fo:Int)==2)=true/\9=op)\/(((fo:Int)==2)=false/\8=op):=by
    by_cases q:fo=2
    ·left;rw[if_pos q] at uI;exact⟨by simp[q],uI⟩
    ·right;rw[if_neg q] at uI;exact⟨by simp;omega,uI⟩
   clear uI;have DS:op<12:=by omega
   have QW:okB (gB op) 0 6=true:=by rcases zq9 with⟨-,rfl⟩|⟨-,rfl⟩<;>rfl
   have Sn:(uq ⟨op,s1.pos,0,[],z8 6 0⟩).length<=1000000:=by rcases zq9 with⟨-,rfl⟩|⟨-,rfl⟩<;>simp[uq,gB,kG,uY]
   have HP:=z7 (dh p L3 s1 op 0 [] (z8 6 0) (.slice none 0 0) (.slice (some ⟨wr.heap.size,0,none⟩) 6 6) wm HMM.out (uo.nil _) HKM.out (fun g hg=>by cases hg) (fun g hg q=>by cases hg;exact zZ _ (DY.out.lt q)) (fun g hg q=>by cases q)
    (fun g hg=>by rcases hg with hg|hg<;>cases hg;have h1:=DY.out.base;show L3.B<=wr.heap.size;omega)
    ⟨DS,by simp,by simp,by simp,by simp,QW⟩ HEM.out.fo HEM.out.g1 (by omega) (by omega) Sn)
   have HI6:=z7 (show ∃ x,(s1.put op 0 [] (z8 6 0)).code[s1.code.length]? = some x/\x.tg.length=6 from⟨_,by simp[MkS.put];rfl,by simp⟩);have aQ:=z7 (MkS.bA s1 op 0 [] (z8 6 0));clear DS QW Sn;rcases zq9 with⟨kf,rfl⟩|⟨kf,rfl⟩;all_goals
    go_wp2_with fail;refine HP.out.mono ?_;rintro e w5 ⟨b,c,rfl,Ic,-,-,L4,JW,⟨hq5,hB5⟩,JA,nb5,nc5⟩;have f35:Fr (L3.has p) (L4.has p) wr w5:=(HFM.out.wide (fun _ q=>q.elim)).tr JA (fun q hq=>by
     rcases hq with hq|hq|hq
     ·exact .inl hq
     ·cases hq
     ·cases hq;exact .inr (zg _))
    have fw5:Fr (L.has p) (L4.has p) w w5:=XY.out.trans f35;have he5:YB lo hi w0 L4.B w5:=by rw[hB5,De];exact HE.out.fr fw5 HH.out.lo
    have Ir:=HPL.out.fr f35 aQ.out;obtain⟨x,hx,wb⟩:=HI6.out;have Q5:∀ k∈pre,k.length<=17:=fun k hk=>(HKS.out k (by rw[wP.out];exact hk)).1
    obtain⟨wT,wR⟩:=xX (w5.alloc (.cells #[bM b c] 189));obtain⟨zqy,hI⟩:=pZ Ir Ic nb5 nc5 he5.na he5.g2 JW hx wb Q5 wR;have Nh:Fr xH xH w5 wT:=by rw[←wR];exact(Fr.refl _ _).alloc _
    have DL:MkS.jU n of bs s=plG pre al.ix s1.code.length:=by
     funext k x;unfold MkS.jU plG;rw[Kw.out,wP.out];rfl
    rw[←DL,HSS.out,←wP.out] at zqy;have hmT:=JW.fr Nh (fun _ q=>q.elim);rw[HSS.out] at hmT;have hzp:=(MkS.Cc n of fo bs s).2;have hgk:=Fo.YD bs;have ZO:=HS.out;have SS:=z7 (Ge b0 n a fo of cl bs p L4 (MkS.qH n of fo bs s) (MkS.jU n of bs s) _ _ wT oW.out hmT (he5.fr Nh (fun _ q=>q.elim)) HND.out HL.out HBC.out IP.out (by rw[HM.out];exact IN) (by omega) zqy hI);have HWT:=z7 (fw5.trans (Nh.wide (fun _ q=>q.elim)));have hz9:(Qv bs (MkS.jU n of bs s) (MkS.qH n of fo bs s)).sz<=900000:=by
     obtain⟨-,q⟩:=MkS.go_le bs (MkS.jU n of bs s) (MkS.qH n of fo bs s) [] (fun k x=>MkS.CW n of bs s k x);unfold Qv;rw[MkS.Zh _ (fun s i=>gI s i 0)];omega
    obtain⟨s9,hs9⟩:=xX (Qv bs (MkS.jU n of bs s) (MkS.qH n of fo bs s));rw[hs9] at SS hz9;have HS9:=z7 hs9;unfold MkS.sz at hz9;clear hs9 zqy hI hmT hx Ir he5 fw5 f35 JA JW Ic DL Q5 Nh;go_wp2_with fail;refine SS.out.mono ?_;rintro e w9 ⟨rfl,L9,hm9,⟨hq9,wW⟩,hf9⟩;have hw9:=HWT.out.trans hf9;have he9:YB lo hi w0 L9.B w9:=by rw[wW,hB5,De];exact HE.out.fr hw9 HH.out.lo
    have KZ:=z7 (dh p L9 s9 5 0 [] [] (.slice none 0 0) (.slice none 0 0) w9 hm9 (uo.nil _) (uo.nil _) (fun g hg=>by cases hg) (fun g hg=>by cases hg) (fun g hg=>by cases hg) (fun g hg=>by rcases hg with hg|hg<;>cases hg)
     ⟨(by decide:5<12),by simp,by simp,by simp,by simp,rfl⟩ he9.fo he9.g1 (by omega) (by omega) (by simp[uq,gB,kG]))
    have HW9:=z7 hw9;clear hm9 hf9 hw9 he9 SS wR;go_wp2_with fail;refine KZ.out.mono ?_;rintro e wX ⟨b9,c9,rfl,-,-,-,LX,hmX,⟨hqX,hBX⟩,hfX,-,-⟩;have HMX:=z7 hmX;have HFX:=z7 hfX;clear hmX hfX KZ;go_wp2;refine bodyPost_ret (v := .tuple #[]) ?_ rfl ?_
    ·simp[results,results122,go_sem]
    rw[HS9.out];refine⟨rfl,LX,HMX.out,⟨by rw[hqX,hq9,hq5,XJ],by rw[hBX,wW,hB5,De]⟩,HW9.out.tr HFX.out (fun q hq=>?_)⟩;rcases hq with hq|hq|hq
    ·exact HW9.out.fp q hq
    ·cases hq
    ·cases hq
section
variable (b:Nat) (t:Wd) (w:World)
theorem pX:(zu (.iface 262 (xk t)) 112 262 true).run prog w = .ok (.tuple #[xk t,.bool true]) w:=by rfl
theorem Sp:(zu (.iface 264 (.agg #[])) 112 262 true).run prog w = .ok (.tuple #[.string ⟨#[]⟩,.bool false]) w:=by rfl
theorem pV:(zu (.iface 264 (.agg #[])) 112 264 true).run prog w = .ok (.tuple #[.agg #[],.bool true]) w:=by rfl
theorem aJ:(zu (.iface 172 (.pointer (some ⟨b,0,none⟩))) 112 262 true).run prog w = .ok (.tuple #[.string ⟨#[]⟩,.bool false]) w:=by rfl
theorem aG:(zu (.iface 172 (.pointer (some ⟨b,0,none⟩))) 112 264 true).run prog w = .ok (.tuple #[.agg #[],.bool false]) w:=by rfl
theorem aF:(zu (.iface 175 (.pointer (some ⟨b,0,none⟩))) 112 262 true).run prog w = .ok (.tuple #[.string ⟨#[]⟩,.bool false]) w:=by rfl
theorem aD:(zu (.iface 175 (.pointer (some ⟨b,0,none⟩))) 112 264 true).run prog w = .ok (.tuple #[.agg #[],.bool false]) w:=by rfl
theorem pU:(zu (.iface 177 (.pointer (some ⟨b,0,none⟩))) 112 262 true).run prog w = .ok (.tuple #[.string ⟨#[]⟩,.bool false]) w:=by rfl
theorem pQ:(zu (.iface 177 (.pointer (some ⟨b,0,none⟩))) 112 264 true).run prog w = .ok (.tuple #[.agg #[],.bool false]) w:=by rfl
end
theorem aB{lo hi:Nat}{w0:World}(f:Fo)(ih:∀ m:Fo,zy m<zy f->Ia lo hi w0 m):Ia lo hi w0 f:=by
 intro p L s w a c vs h he vD kE hm hw hc hl hs;obtain⟨M,hM⟩:=xX f.len;rw[hM];have DW:vs.length=M:=(xY.count f vs kE hm).trans hM;obtain⟨R,hR⟩:=xX (MkS.dS f s);rw[hR];have HH:=z7 h;have HE:=z7 he;have qV:=z7 vD;have YQ:=z7 kE;have HM:=z7 hm;have HC:=z7 hc;have HW:=z7 hw;have HR:=z7 hR;have oW:=z7 ih;have Ci:=z7 DW;have HL:=z7 hM;have HS:=z7 hs;have hL2:M<=2000000:=by omega
 clear h he vD kE hm hc hw hR ih DW hM hs hl;go_enter func80,ntmps80;go_wp2_with fail;go_loopw [13] (fun iv wr=>∃ i us xs r s1 L1,iv = .int .i64 (i:Nat)/\i<=M/\xY lo hi w0 xs r/\r.vG=true/\r.YF/\r.wf 2000000=true/\us.length=i/\vs=us++xs/\i+r.len=M/\zy r<=zy f /\
  uz p L1 s1 wr/\(L1.q=L.q/\L1.B=L.B)/\Fr (L.has p) (L1.has p) w wr/\MkS.dS r s1=R/\s1.sz+r.cw<=900000) (fun iv _=>M - (intOf iv).toNat)
 case atStart=>exact⟨0,[],vs,f,s,L,rfl,zY _,YQ.out,HM.out,HC.out,HW.out,rfl,rfl,by have:=HL.out;omega,zg _,HH.out,⟨rfl,rfl⟩,Fr.refl _ _,HR.out,HS.out⟩
 case round =>
  obtain⟨i,us,xs,r,s1,L1,rfl,hiL,gp,wC,PT,Cl,Vl,wE,kS,qP,Vc,⟨K6,XX⟩,uy,Xv,uL⟩:=hrel;have Cp:YB lo hi w0 L1.B wr:=by rw[XX];exact HE.out.fr uy HH.out.lo
  have HN:=z7 gp;have Kg:=z7 wC;have SN:=z7 PT;have Qz:=z7 Cl;have Mm:=z7 wE;have Cm:=z7 Vl;have Dc:=z7 Vc;have Bv:=z7 Cp;have VD:=z7 uy;have fX:=z7 Xv;have gC:=z7 uL;have Xj:=z7 kS;have du:=z7 qP;clear gp wC PT Cl wE Vl Vc Cp uy Xv uL;by_cases xD:i<M
  ·obtain⟨x0,xt,R4⟩:∃ x0 xt,xs=x0::xt:=by
    cases xs with
    | nil=>have h1:=Ci.out;rw[Mm.out] at h1;have:=Cm.out;simp at h1;omega
    | cons a b=>exact⟨a,b,rfl⟩
   subst R4;obtain⟨g,o,rfl,Ze,ft,xi⟩:=qV.out i (by have:=Ci.out;omega);have JQ:vs[i]'(by have:=Ci.out;omega)=x0:=by
    have h1:vs[i]? = some x0:=by rw[Mm.out,←Cm.out];simp
    rw[zj (by have:=Ci.out;omega)] at h1;exact zv h1
   rw[JQ] at xi;have qX:=xS Bv.out.keep xi Ze ft;have k1:(i:Int)<(M:Int):=by omega
   have k2:decide ((i:Int)<(M:Int))=true:=by simp;omega
   clear xi JQ kS qP;have wa:∀ (x:Value) (xt:List Value) (r':Fo) (s2:MkS) (L2:di) (w2:World),x0=x->vs=us++x::xt->xY lo hi w0 xt r'->r'.vG=true->r'.YF->r'.wf 2000000=true->i+(r'.len+1)=M->zy r'<=zy f->uz p L2 s2 w2->(L2.q=L1.q/\L2.B=L1.B)->Fr (L1.has p) (L2.has p) wr w2->MkS.dS r' s2=R->s2.sz+r'.cw<=900000 ->
     ∃ i' us' xs' r s1 L1,(Value.int .i64 ((i:Int)+1)) = .int .i64 (i':Nat)/\i'<=M/\xY lo hi w0 xs' r/\r.vG=true/\r.YF/\r.wf 2000000=true/\us'.length=i'/\vs=us'++xs'/\i'+r.len=M/\zy r<=zy f /\
      uz p L1 s1 w2/\(L1.q=L.q/\L1.B=L.B)/\Fr (L.has p) (L1.has p) w w2/\MkS.dS r s1=R/\s1.sz+r.cw<=900000 :=
    fun x xt r' s2 L2 w2 e1 e2 e3 e4 e5 e6 e7 e8 e9 e10 e11 e12 e13=>⟨i+1,us++[x],xt,r',s2,L2,by simp,by omega,e3,e4,e5,e6,by simp[Cm.out],by rw[e2];simp,by omega,e8,e9,⟨e10.1.trans K6,e10.2.trans XX⟩,VD.out.trans e11,e12,e13⟩
   have Sr:=z7 wa;clear wa
   cases r with
   | nil =>
    have:=HN.out
    cases this
   | uf k0 a0 m0 r0=>have:=Kg.out;cases this
   | text t r =>
    obtain⟨vt,Nl,gp⟩:=HN.out
    cases Nl;have a1:=pX t;have Ql:=z7 gp;have we:=SN.out;have Da:=gC.out;have aC:=s1.Kj 1 t (.inl rfl);simp only[Fo.cw] at Da;have Gl:=z7 (CU p L1 s1 1 t wr Dc.out (.inl rfl) we.1 (by omega) Bv.out.fo Bv.out.g1);clear gp we;go_wp2_with fail;refine Gl.out.mono ?_;rintro e w2 ⟨rfl,L2,jI,j9,vu⟩;have YZ:=z7 jI;have fy:=z7 vu;clear jI vu Gl;go_wp2;go_roundw
    case rel=>exact Sr.out _ _ r (s1.one 1 t) L2 w2 rfl Mm.out Ql.out Kg.out SN.out.2 Qz.out Xj.out (by have:=du.out;simp at this;omega) YZ.out j9 fy.out fX.out (by omega)
    case measure=>simp only[intOf];omega
   | hash r =>
    obtain⟨vt,Nl,gp⟩:=HN.out
    cases Nl;have a1:=Sp;have a2:=pV;have Ql:=z7 gp;have Da:=gC.out;simp only[Fo.cw] at Da;have ydu:=Da;unfold MkS.sz at ydu;have Np:Fr xH xH wr (wr.alloc (.cells #[] 264)):=(Fr.refl _ _).alloc _;have hx:(uq ⟨6,s1.pos,0,[],[]⟩).length=1:=by simp[uq,gB,kG]
    have Ms:=jn s1 6 0 [] [];have heA:=Bv.out.fr Np (fun _ q=>q.elim);have KZ:=z7 (dh p L1 s1 6 0 [] [] (.slice none 0 0) (.slice none 0 0) (wr.alloc (.cells #[] 264)) (Dc.out.fr Np (fun _ q=>q.elim)) (uo.nil _) (uo.nil _) (fun g hg=>by cases hg) (fun g hg=>by cases hg) (fun g hg=>by cases hg) (fun g hg=>by rcases hg with hg|hg<;>cases hg)
     ⟨(by decide:6<12),by simp,by simp,by simp,by simp,rfl⟩ heA.fo heA.g1 (by omega) (by omega) (by rw[hx];omega))
    have DX:=z7 Np;clear gp Np heA;go_wp2_with fail;refine KZ.out.mono ?_;rintro e w2 ⟨b9,c9,rfl,-,-,-,L2,jI,j9,vu,-,-⟩;have YZ:=z7 jI;have fy:=z7 (show Fr (L1.has p) (L2.has p) wr w2 from(DX.out.wide (fun _ q=>q.elim)).tr vu (fun q hq=>by
     rcases hq with hq|hq|hq
     ·exact .inl hq
     ·cases hq
     ·cases hq))
    clear jI vu KZ;go_wp2;go_roundw
    case rel=>exact Sr.out _ _ r (s1.put 6 0 [] []) L2 w2 rfl Mm.out Ql.out Kg.out SN.out Qz.out Xj.out (by have:=du.out;simp at this;omega) YZ.out j9 fy.out fX.out (by omega)
    case measure=>simp only[intOf];omega
   | put n a r =>
    obtain⟨vt,b0,Nl,xB,xF,gh,-,gp⟩:=HN.out
    cases Nl;have Mn:=xS Bv.out.keep gh xB xF;have a1:=aJ b0;have a2:=aG b0;have a3:=GA b0;have Ql:=z7 gp;have we:=SN.out;have Da:=gC.out;have aC:=s1.Kj 2 n (by omega);simp only[Fo.cw] at Da;have ZK:(decide (n.length<=4000001) && r.wf 2000000)=true:=Qz.out;simp only[zk,decide_eq_true_eq] at ZK;have wM:=z7 ZK.2;have Gl:=z7 (CU p L1 s1 2 n wr Dc.out (by omega) (by have:=we.1;omega) (by omega) Bv.out.fo Bv.out.g1);clear gp we gh ZK;go_wp2_with fail;refine Gl.out.mono ?_;rintro e w2 ⟨rfl,L2,jI,j9,vu⟩;have YZ:=z7 jI;have fy:=z7 vu;clear jI vu Gl;go_wp2;go_roundw
    case rel=>exact Sr.out _ _ r (s1.one 2 n) L2 w2 rfl Mm.out Ql.out Kg.out SN.out.2 wM.out Xj.out (by have:=du.out;simp at this;omega) YZ.out j9 fy.out fX.out (by omega)
    case measure=>simp only[intOf];omega
   | num n a r =>
    obtain⟨vt,b0,Nl,xB,xF,gh,-,gp⟩:=HN.out
    cases Nl;have Mn:=xS Bv.out.keep gh xB xF;have a1:=aF b0;have a2:=aD b0;have a3:=Ga b0;have a4:=Uk b0;have Ql:=z7 gp;have we:=SN.out;have Da:=gC.out;have aC:=s1.Kj 3 n (by omega);simp only[Fo.cw] at Da;have ZK:(decide (n.length<=4000001) && r.wf 2000000)=true:=Qz.out;simp only[zk,decide_eq_true_eq] at ZK;have wM:=z7 ZK.2;have Gl:=z7 (CU p L1 s1 3 n wr Dc.out (by omega) (by have:=we.1;omega) (by omega) Bv.out.fo Bv.out.g1);clear gp we gh ZK;go_wp2_with fail;refine Gl.out.mono ?_;rintro e w2 ⟨rfl,L2,jI,j9,vu⟩;have YZ:=z7 jI;have fy:=z7 vu;clear jI vu Gl;go_wp2;go_roundw
    case rel=>exact Sr.out _ _ r (s1.one 3 n) L2 w2 rfl Mm.out Ql.out Kg.out SN.out.2 wM.out Xj.out (by have:=du.out;simp at this;omega) YZ.out j9 fy.out fX.out (by omega)
    case measure=>simp only[intOf];omega
   | br n a fo of cl bs r =>
    obtain⟨vt,b0,ba,bc,ws,Nl,xB,xF,aE,H7,Df,hd3,hd4,hd5,Kd,UP,gp⟩:=HN.out
    cases Nl;have hh2:=xS Bv.out.keep Df xB xF;have a1:=pU b0;have a2:=pQ b0;have a3:=Bb b0;have a4:=Ku b0;have a5:=Q7 b0;have Ql:=z7 gp;have XI:xY lo hi w0 [.iface 177 (.pointer (some ⟨b0,0,none⟩))] (.br n a fo of cl bs .nil):=⟨[],b0,ba,bc,ws,rfl,xB,xF,aE,H7,Df,hd3,hd4,hd5,Kd,UP,rfl⟩;obtain⟨pK,k2',k3',k4',k5',k6',k7',k8'⟩:=SN.out;have DV:(Fo.br n a fo of cl bs .nil).YF:=⟨pK,k2',k3',k4',k5',k6',k7',trivial⟩;have ZK:(decide (n.length<=4000001) && decide (fo<3) && bs.uv && decide (bs.len<=2000000) && bs.wf 2000000 && r.wf 2000000)=true:=Qz.out;have hwk:(Fo.br n a fo of cl bs .nil).wf 2000000=true:=by
     simp only[zk] at ZK;simp only[Fo.wf,zk];exact⟨ZK.1,trivial⟩
    simp only[zk,decide_eq_true_eq] at ZK;have wM:=z7 ZK.2;have Da:=gC.out;simp only[Fo.cw] at Da;have hih:∀ m:Fo,zy m<zy bs->Ia lo hi w0 m:=fun m hm=>oW.out m (by have:=du.out;simp at this;omega)
    by_cases Uw:fo=0
    ·have kf:((fo:Int)==0)=true:=by simp[Uw]
     have b8:=z7 (show MkS.dS r (Qv bs (MkS.b7 n bs s1) (MkS.ky n bs s1))=R by
      have:=fX.out;unfold MkS.dS at this ⊢;rw[MkS.qx,if_pos Uw] at this;exact this)
     have hzb:(Qv bs (MkS.b7 n bs s1) (MkS.ky n bs s1)).sz+r.cw<=900000:=by
      obtain⟨-,q⟩:=MkS.go_le bs (MkS.b7 n bs s1) (MkS.ky n bs s1) [] (fun k x=>MkS.CT n bs s1 k x);have:=(MkS.Ca n bs s1).2;unfold Qv;rw[MkS.Zh _ (fun s i=>gI s i 0)];omega
     subst Uw;have Mi:=z7 (Cr b0 n a of cl bs p L1 s1 wr hih Dc.out Bv.out XI DV hwk (by omega));clear gp XI DV hwk hih aE H7 Df hd3 hd4 hd5 Kd UP pK k2' k3' k4' k5' k6' k7' k8' ZK;go_wp2_with fail;refine Mi.out.mono ?_;rintro e w2 ⟨rfl,L2,jI,j9,vu⟩;have YZ:=z7 jI;have fy:=z7 vu;clear jI vu Mi;go_wp2;go_roundw
     case rel=>exact Sr.out _ _ r _ L2 w2 rfl Mm.out Ql.out Kg.out SN.out.2.2.2.2.2.2.2 wM.out Xj.out (by have:=du.out;simp at this;omega) YZ.out j9 fy.out b8.out (by omega)
     case measure=>simp only[intOf];omega
    ·have kf:((fo:Int)==0)=false:=by simp;omega
     have b8:=z7 (show MkS.dS r ((Qv bs (MkS.jU n of bs s1) (MkS.qH n of fo bs s1)).put 5 0 [] [])=R by
      have:=fX.out;unfold MkS.dS at this ⊢;rw[MkS.qx,if_neg Uw] at this;exact this)
     have hzb:((Qv bs (MkS.jU n of bs s1) (MkS.qH n of fo bs s1)).put 5 0 [] []).sz+r.cw<=900000:=by
      obtain⟨-,q⟩:=MkS.go_le bs (MkS.jU n of bs s1) (MkS.qH n of fo bs s1) [] (fun k x=>MkS.CW n of bs s1 k x);have:=(MkS.Cc n of fo bs s1).2;have hx:∀ p,(uq ⟨5,p,0,[],[]⟩).length=1:=fun p=>by simp[uq,gB,kG]
      rw[jn,hx];unfold Qv;rw[MkS.Zh _ (fun s i=>gI s i 0)];omega
     have Mi:=z7 (O1 b0 n a fo of cl bs p L1 s1 wr hih Dc.out Bv.out Uw XI DV hwk (by omega));clear gp XI DV hwk hih aE H7 Df hd3 hd4 hd5 Kd UP pK k2' k3' k4' k5' k6' k7' k8' ZK;go_wp2_with fail;refine Mi.out.mono ?_;rintro e w2 ⟨rfl,L2,jI,j9,vu⟩;have YZ:=z7 jI;have fy:=z7 vu;clear jI vu Mi;go_wp2;go_roundw
     case rel=>exact Sr.out _ _ r _ L2 w2 rfl Mm.out Ql.out Kg.out SN.out.2.2.2.2.2.2.2 wM.out Xj.out (by have:=du.out;simp at this;omega) YZ.out j9 fy.out b8.out (by omega)
     case measure=>simp only[intOf];omega
  ·have vv:r = .nil:=by
    have:=Xj.out;have:=Kg.out
    cases r with
    | nil=>rfl
    | uf k a m r=>cases this
    | _=>simp only[Fo.len] at *;omega
   have HX:=z7 (show s1=R by rw[←fX.out,vv];rfl);have k1:¬(i:Int)<(M:Int):=by omega
   have k2:decide ((i:Int)<(M:Int))=false:=by simp;omega
   clear vv;go_wp2;refine bodyPost_ret (v := .tuple #[]) ?_ rfl ?_
   ·simp[results,results80,go_sem]
   rw[←HX.out];exact⟨rfl,L1,Dc.out,⟨K6,XX⟩,VD.out⟩
theorem pJ{lo hi:Nat}{w0:World}:∀ f:Fo,Ia lo hi w0 f:=by
 have key:∀ n (f:Fo),zy f<n->Ia lo hi w0 f:=by
  intro n;induction n with
  | zero=>intro f h;omega
  | succ n ih=>intro f h;exact aB f (fun m hm=>ih m (by omega))
 intro f;exact key _ f (Nat.lt_succ_self _)
def ZX(w:World)(b n:Nat)(f:Nat->Option Nat):Prop :=
 ∃ D:DataW Unit,w.ownsMap prog 3 (plainElem prog 3) b n D/\∀ m:Nat,yv D (.int .i64 (m:Int))=(f m).isSome/\D.atKey (.int .i64 (m:Int)) (.lit (.int .i64 0)) = .lit (.int .i64 (((f m).getD 0:Nat):Int))
theorem ZX.lt{w:World}{b n:Nat}{f:Nat->Option Nat}(h:ZX w b n f):b<w.heap.size:=by
 obtain⟨D,⟨es,clock,ho,_⟩,_⟩:=h;exact(zV.1 ho).1
theorem ZX.keep{w w':World}{b n:Nat}{f:Nat->Option Nat}(h:ZX w b n f)(hb:w'.heap[b]? = w.heap[b]?):ZX w' b n f:=by
 obtain⟨D,⟨es,clock,ho,rest⟩,h2⟩:=h;exact⟨D,⟨es,clock,hb.trans ho,rest⟩,h2⟩
theorem ZX.made(w:World):ZX (w.alloc (.map #[] 0)) w.heap.size 0 (fun _=>none):=⟨.map [],zL w _ _ _,fun m=>⟨rfl,rfl⟩⟩
theorem O6{m:Nat}(hm:m<=4000000000):(Lit.int .i64 (m:Int)).wf=true:=by simp[Lit.wf,IntKind.min,IntKind.max,IntKind.signed,IntKind.bits];omega
theorem ZX.look{w:World}{b n:Nat}{f:Nat->Option Nat}(h:ZX w b n f)(m:Nat)(hm:m<=4000000000) :
  (Instr.lookup 124 (.map (some b)) (.int .i64 (m:Int)) true).run prog w = .ok (.tuple #[.int .i64 (((f m).getD 0:Nat):Int),.bool (f m).isSome]) w:=by
 obtain⟨D,h1,h3⟩:=h;obtain⟨v,ps,vF,hv⟩:=h1.look_ok (yx underlying3) underlying124 (z := .int .i64 0) (by first|rfl|simp[go_sem]) (plainElem_int underlying3 (by decide))
  (key := .int .i64 (m:Int)) (zm underlying3 (O6 hm))
 rw[(h3 m).1] at vF;rw[(h3 m).2] at hv;obtain⟨c,rfl,hc,_⟩:=plainElem_int_inv underlying3 hv;simp only[Prod.mk.injEq,DataW.lit.injEq,Lit.int.injEq] at hc;rw[vF,←hc.1.2]
theorem ZX.put{w:World}{b n:Nat}{f:Nat->Option Nat}(h:ZX w b n f)(m:Nat)(hm:m<=4000000000)(k:Nat)(hk:k<=4000000000)(hn:n<=1000000000) :
  ∃ w',(zR 124 (.map (some b)) (.int .i64 (m:Int)) (.int .i64 (k:Int))).run prog w = .ok () w'/\ZX w' b (n+1) (fun x=>if m=x then some k else f x)/\w.grownBy w' (some b):=by
 obtain⟨D,h1,h3⟩:=h;have hi:=h1.isMap;obtain⟨w',vF,xV,hg⟩:=h1.update (yx underlying3) underlying124 (by unfold maxLen;omega) (key := .int .i64 (m:Int)) (zm underlying3 (O6 hm))
  (plainElem_int underlying3 (q := .i64) (a:=(k:Int)) (O6 hk))
 refine⟨w',vF,⟨_,xV,fun x=>?_⟩,hg⟩;by_cases hx:m=x
 ·subst hx;simp only[↓reduceIte];exact⟨by rw[zO hi (show zf (.int .i64 (m:Int)) from trivial)];simp,by rw[zI hi (show zf (.int .i64 (m:Int)) from trivial)];simp⟩
 ·simp only[hx,↓reduceIte];have xc:(Lit.int .i64 (x:Int)) ≠ .int .i64 (m:Int):=fun q=>hx (by cases q;rfl)
  exact⟨by rw[zM xc];exact(h3 x).1,by rw[zH xc];exact(h3 x).2⟩
def dV(code:List j8):Nat->Nat->Option Nat
 | 0,_=>none
 | k+1,x=>if (code[k]?.map (·.pos))=some x then some k else dV code k x
theorem Ss(t:TypeId)(k e:TypeId)(ht:prog.underlying t=some (.map k e))(n:Nat)(w:World):(yk t (some (.int .i64 (n:Int)))).run prog w = .ok (.map (some w.heap.size)) (w.alloc (.map #[] 0)):=by
 simp[yk,run_underlying ht,asInt,go_sem]
def yb2(p:Nat)(L:di)(s:MkS)(w:World)(e:Ending)(w':World):Prop :=
 e = .returned (.tuple #[])/\∃ mb,w.heap.size<=mb/\w'.cell? ⟨L.q,0,none⟩=some L.vC/\w'.cell? ⟨L.q,1,none⟩=some L.vI/\w'.cell? ⟨L.q,2,none⟩=some (.map (some mb))/\ZX w' mb s.code.length (dV s.code s.code.length)/\Fr (fun g=>g=L.q) (fun g=>g=L.q\/g=mb) w w'
theorem St(p:Nat)(L:di)(s:MkS)(w:World)(h:uz p L s w)(hl:s.code.length<=1000000)(hp:∀ x∈s.code,x.pos<=4000000000) :
  Calls prog 82 #[.pointer (some ⟨L.q,0,none⟩)] w (yb2 p L s w):=by
 have HH:=z7 h;have HP:=z7 hp;obtain⟨ia,ic,Ka⟩:=xd h.cI;obtain⟨n,hn⟩:=xX s.code.length;have q1:=h.q1;rw[Ka,hn] at q1;have q1a:=fun o=>xQ q1 o
 have q2:=h.q2;have q2a:=fun o=>xQ q2 o
 have lq:=dI h.tq;have zqa:∀ o j,(w.alloc o).frozen? ⟨L.q,j,none⟩=false:=fun o j=>(World.frozen?_of_block (Below.heap_alloc _ _ _ lq)).trans (h.zq j)
 have hmh:=Ss 124 _ _ underlying124 n;obtain⟨A,hA⟩:=xX ((w.alloc (.map #[] 0)).setCell ⟨L.q,2,none⟩ (.map (some w.heap.size)));have fA:Fr (fun g=>g=L.q) (fun g=>g=L.q) w A:=by rw[←hA];exact((Fr.refl _ _).alloc _).set _ (.inl rfl)
 have a0:A.cell? ⟨L.q,0,none⟩=some L.vC:=by rw[←hA,xg,if_neg (by simp)];exact xQ h.q0 _
 have a1:A.cell? ⟨L.q,1,none⟩=some L.vI:=by rw[←hA,xg,if_neg (by simp)];exact xQ h.q1 _
 have a2:A.cell? ⟨L.q,2,none⟩=some (.map (some w.heap.size)):=by rw[←hA];exact vB (xQ h.q2 _) _
 have aM:ZX A w.heap.size 0 (fun _=>none):=by
  rw[←hA];exact(ZX.made w).keep (Below.heap_setCell _ _ _ _ (by show w.heap.size≠L.q;omega))
 have xV:w.ownsRow 0 128 5 L.vI n (dm s.code L.rs):=by rw[←hn];exact h.cI
 obtain⟨mb,Hy⟩:=xX w.heap.size;have VB:=z7 xV;have DD:n<=1000000:=by rw[←hn];exact hl
 have HN:=z7 hn;have DX:=z7 fA;have HVI:=z7 Ka;have nI:∀ g,xZ L.vI g->g≠L.q:=fun g hg=>(h.nI hg).2.1
 have ltI:∀ g,xZ L.vI g->g<mb:=fun g hg=>by rw[←Hy];exact ud h.cI hg
 rw[Ka,hn] at a1;rw[Hy] at a2 aM;clear h hp fA xV hn Ka;go_enter func82,ntmps82;go_wp2_with fail;have R6:(w.alloc (.map #[] 0)).setCell ⟨L.q,2,none⟩ (.map (some mb))=A:=by rw[←Hy];exact hA
 rw[R6];have O7:=z7 Hy;clear hA R6 Hy q1 q1a q2 q2a zqa hmh;go_loopw [17] (fun kv wr=>∃ k,kv = .int .i64 (k:Nat)/\k<=n/\ZX wr mb k (dV s.code k)/\Fr (fun g=>g=L.q) (fun g=>g=L.q\/g=mb) w wr/\wr.cell? ⟨L.q,0,none⟩=some L.vC/\wr.cell? ⟨L.q,1,none⟩=some (.slice ia n ic)/\wr.cell? ⟨L.q,2,none⟩=some (.map (some mb))) (fun kv _=>n - (intOf kv).toNat)
 case atStart=>exact⟨0,rfl,zY _,aM,DX.out.tg (fun g hg=>hg.elim .inl (fun e => .inr (by rw[e,O7.out];exact zg _))),a0,a1,a2⟩
 case round =>
  clear aM a0 a1 a2;obtain⟨k,rfl,hk,Vg,hf,c0,c1,c2⟩:=hrel;have HF:=z7 hf;by_cases xD:k<n
  ·obtain⟨x,hx⟩:∃ x,s.code[k]? = some x:=⟨_,zj (by rw[HN.out];exact xD)⟩;obtain⟨r,hr⟩:∃ r,L.rs[k]? = some r:=⟨_,zj (by have:=HH.out.rows.len;have:=HN.out;omega)⟩;obtain⟨I,ic2,hv,-,hI,bV⟩:=xl VB.out (by omega);have Pt:ia=some ⟨I,0,none⟩:=by have:=HVI.out;rw[hv] at this;cases this;rfl
   subst Pt;have rI:xZ L.vI I:=by rw[HVI.out];rfl
   have d1:w.cell? ⟨I,k*5+1,none⟩=some (.int .i64 x.pos):=by
    rw[bV _ (by omega),Vq _ _ HH.out.rows.len k 1 x r hx hr (by omega)];rfl
   have d2:=hf.cell d1 (nI I rI);have hxp:=HP.out x (List.mem_of_getElem? hx);obtain⟨w2,XZ,Nt,ft⟩:=(Vg.keep (w':=wr.drew) rfl).put x.pos hxp k (by omega) (by omega);have jm:(fun y=>if x.pos=y then some k else dV s.code k y)=dV s.code (k+1):=by
    funext y;simp only[dV,hx,Option.map_some,Option.some.injEq]
   rw[jm] at Nt;have vu:Fr (fun g=>g=mb) (fun g=>g=mb) wr w2:=(show Fr (fun g=>g=mb) (fun g=>g=mb) wr.drew w2 from⟨ft.os,ft.tape,ft.output,ft.size,fun k hk hn=>ft.block k hk (fun e=>hn (zv e)),fun _ q => .inl q⟩).und;have hq:L.q≠mb:=by have:=O7.out;omega
   have Ii:=z7 Nt;have fy:=z7 (hf.over vu (by rintro g rfl;exact .inr (by rw[O7.out];exact zg _)));have e0:=vu.cell c0 hq;have e1:=vu.cell c1 hq;have e2:=vu.cell c2 hq;have d3:=vu.cell d2 (show I≠mb by have:=ltI I rI;omega);have k3:(k:Int)<(n:Int):=by omega
   have k4:decide ((k:Int)<(n:Int))=true:=by simp;omega
   clear hf Vg Nt ft vu bV hx hr hv d1;go_wp2_with fail;refine rt (fun W':World=>W'.cell? ⟨L.q,1,none⟩=some (.slice (some ⟨I,0,none⟩) n ic)/\W'.cell? ⟨L.q,2,none⟩=some (.map (some mb))/\W'.cell? ⟨I,k*5+1,none⟩=some (.int .i64 x.pos)) (zE 13) 1 ⟨c1,c2,d2⟩ ?_;(iterate 13 (refine ty ?_;try simp only[pl]))
   refine xq ?_;refine kR 13 (fun J hJ=>?_);go_simp;refine hJ.out _ _ ⟨e1,e2,d3⟩ fun _=>?_
   clear hJ J;refine bX ?_ _;clear XZ;go_wp2;go_roundw
   case rel=>exact⟨k+1,by go_num,by omega,Ii.out,fy.out,e0,e1,e2⟩
   case measure=>simp only[intOf];omega
  ·have UA:k=n:=by omega
   have HK:=z7 (show ZX wr mb s.code.length (dV s.code s.code.length) by rw[HN.out];rw[UA] at Vg;exact Vg);have k3:¬(k:Int)<(n:Int):=by omega
   have k4:decide ((k:Int)<(n:Int))=false:=by simp;omega
   clear hf Vg UA;go_wp2;refine bodyPost_ret (v := .tuple #[]) ?_ rfl ?_
   ·simp[results,results82,go_sem]
   exact⟨rfl,mb,by rw[O7.out];exact zg _,c0,by rw[HVI.out,HN.out];exact c1,c2,HK.out,HF.out⟩
end Go.Proofs.YthpldolmpinnhaaGreatDoor
