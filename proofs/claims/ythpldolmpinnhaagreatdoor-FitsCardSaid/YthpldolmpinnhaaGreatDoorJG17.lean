import Derived.Test.YthpldolmpinnhaaGreatDoorJG16
import Derived.Laws.EntriesVeiled
set_option maxHeartbeats 64000000
open Go.Lib renaming hid→z7,trimPrefix→zJ,hasPrefix→zF
open List renaming replicate→z8,getElem?_eq_getElem→zj,getElem?_append_right→zQ,lookup_cons→zD,range→zE,length_append→zN,length_cons→zP,mem_append→zS,getElem?_eq_some_iff→zW,getElem?_append_left→za,mem_cons_of_mem→zc,mem_cons_self→ze,filter_append→zi,nodup_append→zn,idxOf_append→zo,mem_filter→zw
open SizeOf renaming sizeOf→zy
open Go.World renaming block_lt_of_cell?→zx,ownsMap_made→zL
open Option.some renaming inj→zv
open Go.Instr renaming typeAssert→zu,mapUpdate→zR,makeMap→yk
open Bool renaming and_eq_true→zk
open Nat renaming le_refl→zg,lt_irrefl→zZ,zero_le→zY,le_trans→zX,lt_of_lt_of_le→zl
open Go.WideAt renaming IsKeyLit→zf
open Array renaming getElem?_eq_some_iff→zV,toList_inj→zh
open Go.WideMaps renaming keyOf_string_mk→zU
open Go.Maps renaming string_keyed→zG,atKey_put_other→zH,atKey_put_same→zI,has_put_other→zM,has_put_same→zO,keyOf_int_mk→zm,int_keyed→yx,has→yv
open Go.IntKind renaming signed→zr,bits→yz,min→yu,max→yq
open ByteArray renaming mk→zt
open Go.Builtin renaming len_→yy
open Go.Proofs.Tryz
namespace Go.Proofs.YthpldolmpinnhaaGreatDoor
open Go Go.RowKit
set_option maxRecDepth 10000
theorem Fr.over{F F' G G':Nat->Prop}{w w1 w2:World}(h:Fr F F' w w1)(k:Fr G G' w1 w2)(hg:∀ q,G q->F q\/w.heap.size<=q):Fr F F' w w2 :=
 ⟨k.os.trans h.os,k.tape.trans h.tape,k.output.trans h.output,zX h.size k.size,fun i hi hn=>(k.keep i (zl hi h.size) (fun q=>(hg i q).elim hn (by omega))).trans (h.keep i hi hn),h.fp⟩
structure YS(lo hi:Nat)(w0:World)(B:Nat)(w:World):Prop where
 keep:xr lo hi w0 w
 hB:hi<=B
 fo:gy w
 na:uS w
 g1:2<B
 g2:0<B
theorem YS.fr{lo hi B:Nat}{w0 w w':World}{F F':Nat->Prop}(h:YS lo hi w0 B w)(hf:Fr F F' w w')(hF:∀ k,F k->B<=k):YS lo hi w0 B w':=by
 have hb:=h.hB;have hk:=h.keep;refine⟨⟨zX hk.1 hf.size,fun k a b=>(hf.keep k (by have:=hk.1;omega) (fun q=>by have:=hF k q;omega)).trans (hk.2 k a b)⟩,hb,h.fo.fr hf hF h.g1,fun j hj=>hf.cell (h.na j hj) (fun q=>by have:=hF _ q;have:=h.g2;simp only at *;omega),h.g1,h.g2⟩
def Ip(lo hi:Nat)(w0:World)(f:Fo):Prop:=∀ p L s w a c vs,ux p L s w->YS lo hi w0 L.B w->U6 lo hi w0 a vs->xZ lo hi w0 vs f->f.vD=true->f.wf 2000000=true->f.UW->f.len<=2000000->s.sz+f.cw<=900000 ->
 Calls prog 80 #[.pointer (some ⟨p,0,none⟩),.slice a f.len c] w (MQ p L (MkS.dm f s) w)
structure zuz(N p:Nat)(s0:MkS)(keys:List Wd)(bg:Wd->MkS->MkS)(v:Value)(I:bz->World->Prop):Prop where
 fn:∃ k cap,v = .func (.func k) #[] cap/\(∀ args w,(callFunc k args).run prog w = .ok (.enter k args) w) /\
  ∀ L s W key (a:Nat) ma mn mc,ux p L s W->I L W->s0.le s->s.sz<=900000->key∈keys->Calls prog k (#[.agg #[xg key,.int .i64 (a:Nat),.slice ma mn mc]]++cap) W (Iz p L (bg key s) W)
 fr:∀ L L' W W',I L W->Fr (L.has p) (L'.has p) W W'->I L' W'
 al:∀ L W W' F F',I L W->Fr F F' W W'->(∀ k,F k->N<=k)->I L W'
 le:∀ k s,s.le (bg k s)/\(bg k s).sz=s.sz
def gW(w:World)(p:Nat)(L:bz)(s:MkS)(ls:List Nat)(BL:List (Nat×Nat)):Prop :=
 BL.length=ls.length/\∀ (n i:Nat) (x:Nat×Nat),ls[n]? = some i->BL[n]? = some x->j6 w p i x.1 x.2/\¬L.has p x.1/\¬L.has p x.2/\∃ y,s.code[i]? = some y/\y.tg.length=1
theorem j6.fr{w w':World}{F F':Nat->Prop}{p i b c:Nat}(h:j6 w p i b c)(hf:Fr F F' w w')(h1:¬F b)(h2:¬F c):j6 w' p i b c:=⟨hf.cell h.pb h1,hf.cell h.pc h2,(uO (hf.keep b (zx w _ h.pb) h1)).trans h.tb,(uO (hf.keep c (zx w _ h.pc) h2)).trans h.tc⟩
theorem j6.lt{w:World}{p i b c:Nat}(h:j6 w p i b c):b<w.heap.size/\c<w.heap.size:=⟨zx w _ h.pb,zx w _ h.pc⟩
theorem gW.fr{w w':World}{p:Nat}{L L':bz}{s s':MkS}{ls:List Nat}{BL:List (Nat×Nat)}(h:gW w p L s ls BL)(hf:Fr (L.has p) (L'.has p) w w')(hs:s.le s'):gW w' p L' s' ls BL :=
 ⟨h.1,fun n i x h1 h2=>by
  obtain⟨a,b,c,y,d,e⟩:=h.2 n i x h1 h2;obtain⟨y2,d2,e2⟩:=hs i y d;exact⟨a.fr hf b c,fun q=>(hf.fp _ q).elim b (by have:=a.lt;omega),fun q=>(hf.fp _ q).elim c (by have:=a.lt;omega),y2,d2,e2.trans e⟩⟩
theorem gW.ty{w w':World}{F F':Nat->Prop}{p:Nat}{L:bz}{s:MkS}{ls:List Nat}{BL:List (Nat×Nat)}(h:gW w p L s ls BL)(hf:Fr F F' w w')(hF:∀ k,F k->Vc w k=some 189):gW w' p L s ls BL :=
 ⟨h.1,fun n i x h1 h2=>by
  obtain⟨a,b,c,d⟩:=h.2 n i x h1 h2;exact⟨a.fr hf (fun q=>by have:=hF _ q;rw[a.tb] at this;cases this) (fun q=>by have:=hF _ q;rw[a.tc] at this;cases this),b,c,d⟩⟩
theorem gW.more{w:World}{p:Nat}{L:bz}{s:MkS}{ls:List Nat}{BL:List (Nat×Nat)}{i b c:Nat}{y:jG}(h:gW w p L s ls BL)(hl:j6 w p i b c)(hb:¬L.has p b)(hc:¬L.has p c)(hy:s.code[i]? = some y)(h1:y.tg.length=1) :
  gW w p L s (ls++[i]) (BL++[(b,c)]):=by
 refine⟨by simp[h.1],fun n j x e1 e2=>?_⟩;by_cases hn:n<ls.length
 .rw[za hn] at e1;rw[za (by have:=h.1;omega)] at e2;exact h.2 n j x e1 e2
 .have dN:n=ls.length:=by have:=(zW.1 e1).1;simp at this;omega
  rw[dN,zQ (zg _)] at e1;rw[dN,zQ (by have:=h.1;omega),h.1] at e2;simp at e1 e2;subst e1 e2;exact⟨hl,hb,hc,y,hy,h1⟩
theorem Sl:ZS prog 325 189 .nilFunc 1 8 :=
 ⟨underlying325,info_parts (by kernel_rfl),rfl,by decide,by decide⟩
def aE(BL:List (Nat×Nat)):List Value:=BL.map fun x=>bS x.1 x.2
theorem go_leg(k:Wd)(a:Nat)(m r:Fo)(bg:Wd->MkS->MkS)(s:MkS)(ls:List Nat) :
  MkS.qq (.uz k a m r) bg s ls=MkS.qq r bg ((MkS.dm m (bg k s)).put 11 0 [] [0]) (ls++[(MkS.dm m (bg k s)).code.length]):=rfl
theorem Sm(n:Nat):(madeCells (Value.int .i64 0).cells (n*1)).toList=Zb (z8 n 0):=by
 apply List.ext_getElem
 .simp[madeCells,Zb]
 .intro j h1 h2;simp[madeCells,Zb,Value.cells,Nat.mod_one]
theorem VX(n:Nat)(w:World)(hn:n<=1000000):∃ w',(Instr.makeSlice 39 (.int .i64 (n:Int)) (.int .i64 (n:Int))).run prog w = .ok (.slice (some ⟨w.heap.size,0,none⟩) n n) w'/\qj w' (.slice (some ⟨w.heap.size,0,none⟩) n n) (z8 n 0)/\Fr xI xI w w':=by
 obtain⟨i,hi,hz,h2,h3⟩:=Vj.info;obtain⟨w',hr,ho,hg⟩:=run_makeSlice_full (P:=prog) (w:=w) 0 39 3 i _ 1 Vj.under hi hz h2 .i64 .i64 n (by omega) (by rw[h3];omega) (by unfold maxLen;omega) (zY _);rw[Sm] at ho;refine⟨w',hr,by simpa[qj] using ho,hg.os,hg.tape,hg.output,hg.size,fun k hk _=>hg.block k hk (by simp),fun _ q=>q.elim⟩
theorem KC{lo hi:Nat}{w0 w:World}{ba:Option Addr}{ws us vt:List Value}{k0:Wd}{a0 i ml mc:Nat}{ma:Option Addr}(hk:xr lo hi w0 w)(KB:U6 lo hi w0 ba ws)(Vn:us.length=i*3)(Vp:ws=us++(xg k0 :: .int .i64 (a0:Nat) :: .slice ma ml mc::vt)) :
  ∃ g o,ba=some ⟨g,o,none⟩/\w.cell? ⟨g,o+i*3,none⟩=some (xg k0)/\w.cell? ⟨g,o+i*3+1,none⟩=some (.int .i64 (a0:Nat))/\w.cell? ⟨g,o+i*3+2,none⟩=some (.slice ma ml mc):=by
 have UO:∀ j v,[xg k0,.int .i64 (a0:Nat),.slice ma ml mc][j]? = some v->j<3->ws[i*3+j]? = some v:=by
  intro j v hj h3;rw[Vp,<-Vn,zQ (by omega),Nat.add_sub_cancel_left,<-hj];match j,h3 with
  | 0,_=>rfl
  | 1,_=>rfl
  | 2,_=>rfl
 have hc:∀ j v,ws[i*3+j]? = some v->∃ g o,ba=some ⟨g,o,none⟩/\w.cell? ⟨g,o+(i*3+j),none⟩=some v:=fun j v h=>by
  obtain⟨h1,h2⟩:=zW.1 h;obtain⟨g,o,e,g1,g2,c⟩:=KB _ h1;rw[h2] at c;exact⟨g,o,e,xA hk c g1 g2⟩
 obtain⟨g,o,rfl,c0⟩:=hc 0 _ (UO 0 _ rfl (by omega));obtain⟨g1,o1,e1,c1⟩:=hc 1 _ (UO 1 _ rfl (by omega));obtain⟨g2,o2,e2,c2⟩:=hc 2 _ (UO 2 _ rfl (by omega))
 cases e1
 cases e2;exact⟨g,o,rfl,c0,c1,c2⟩
def Qf(bs:Fo)(bg:Wd->MkS->MkS)(s:MkS):MkS:=(MkS.qq bs bg s []).2.foldl (fun s i=>s.u7 i 0) (MkS.qq bs bg s []).1
theorem Fz{lo hi:Nat}{w0:World}(b0:Nat)(n:Wd)(a fo:Nat)(of:Wd)(cl:Nat)(bs:Fo)(p:Nat)(L:bz)(s:MkS)(bg:Wd->MkS->MkS)(v:Value)(I:bz->World->Prop)(w:World)
  (ih:∀ m:Fo,zy m<zy bs->Ip lo hi w0 m) (h:ux p L s w) (he:YS lo hi w0 L.B w)
  (XQ:xZ lo hi w0 [.iface 177 (.pointer (some ⟨b0,0,none⟩))] (.br n a fo of cl bs .nil)) (hL:bs.uk=true) (hc:bs.UW) (hw:bs.wf 2000000=true) (hn:bs.len<=2000000) (hs:s.sz+bs.gw<=900000)
  (hb:zuz w.heap.size p s bs.keys bg v I) (hI:I L w) :
  Calls prog 161 #[.pointer (some ⟨p,0,none⟩),.pointer (some ⟨b0,0,none⟩),v] w (MQ p L (Qf bs bg s) w):=by
 obtain⟨vt,b',ba,bc,ws,Nw,xG,xJ,ff,qK,jT,Mp,BI,Mr,KB,UR,_⟩:=XQ
 cases Nw;have c4:=xA he.keep BI xG xJ;obtain⟨k,cap,rfl,Dc,vu⟩:=hb.fn;have HH:=z7 h;have HE:=z7 he;have Gu:=z7 KB;have ot:=z7 UR;have HL:=z7 hL;have HC:=z7 hc;have HW:=z7 hw;have HB:=z7 hb;have HI:=z7 hI;have uw:=z7 vu;have om:=z7 ih;have HS:=z7 hs;obtain⟨R,hR⟩:=xX (MkS.qq bs bg s []);have HR:=z7 hR;have hbR:Qf bs bg s=R.2.foldl (fun s i=>s.u7 i 0) R.1:=by unfold Qf;rw[hR]
 rw[hbR];obtain⟨M,hM⟩:=xX bs.len;have HM:=z7 hM;rw[hM] at c4 hn;clear h he KB UR hL hc hw hb hI vu ih hs hR hbR hM ff qK jT Mp BI Mr;go_enter func161,ntmps161;go_wp2_with fail;go_loopw [6,16] (fun lv iv wr=>∃ i us xs r s1 L1 ls BL,iv = .int .i64 (i:Nat)/\i<=M/\xZ lo hi w0 xs r/\r.uk=true/\r.UW/\r.wf 2000000=true/\us.length=i*3/\ws=us++xs/\i+r.len=M/\zy r<=zy bs/\(∀ k∈r.keys,k∈bs.keys) /\
  ux p L1 s1 wr/\(L1.q=L.q/\L1.B=L.B)/\Fr (L.has p) (L1.has p) w wr/\I L1 wr/\s.le s1/\s1.sz+r.gw<=900000/\gW wr p L1 s1 ls BL/\wr.ownsRow 0 189 1 lv ls.length (aE BL)/\(∀ g,xY lv g->w.heap.size<=g/\¬L1.has p g)/\ls.length=i/\MkS.qq r bg s1 ls=R) (fun _ iv _=>M - (intOf iv).toNat)
 case atStart =>
  exact⟨0,[],ws,bs,s,L,[],[],rfl,zY _,ot.out,HL.out,HC.out,HW.out,rfl,rfl,by have:=HM.out;omega,zg _,fun _ q=>q,HH.out,⟨rfl,rfl⟩,Fr.refl _ _,HI.out,s.le_refl,HS.out,⟨rfl,fun n i x q=>by simp at q⟩,World.ownsRow_nil _ _ _ _,(fun g q=>by cases q),rfl,HR.out⟩
 case round =>
  obtain⟨i,us,xs,r,s1,L1,ls,BL,rfl,hiM,fg,ZE,Pp,Hq,Vn,Vp,kR,qc,Qy,Vl,⟨UP,XF⟩,ug,UM,zuy,uH,wF,xi,wB,zux,jc⟩:=hrel;have Ch:YS lo hi w0 L1.B wr:=by rw[XF];exact HE.out.fr ug HH.out.lo
  obtain⟨la,lc,rfl⟩:=xf xi;by_cases xB:i<M
  .cases r with
   | nil=>exfalso;simp[Fo.len] at kR;omega
   | text t r=>cases ZE
   | hash r=>cases ZE
   | put n a r=>cases ZE
   | num n a r=>cases ZE
   | br n a fo of cl bs r=>cases ZE
   | uz k0 a0 m0 r0 =>
    obtain⟨Rk,ma,mc,ms,rfl,XR,aB,Qg⟩:=fg;obtain⟨g2,o2,rfl,e0,e1,e2⟩:=KC Ch.keep Gu.out Vn Vp;have B2:=z7 Vl;have BJ:=z7 Ch;have Ve:=z7 ug;have KD:=z7 UM;have zly:=z7 zuy;have HLP:=z7 wF;have qb:=z7 xi;have pz:=z7 wB;have dp:=z7 jc;have HLR:=z7 ZE;have Sn:=z7 Pp;have Qj:=z7 Hq;have Cs:=z7 Vn;have A6:=z7 Vp;have py:=z7 Qy;have KG:=z7 XR;have HMN:=z7 aB;have Qh:=z7 Qg;have XU:=z7 kR;have dJ:=z7 qc;have gN:=z7 uH;have HLS:=z7 zux;have k3:(i:Int)<(M:Int):=by omega
    have k4:decide ((i:Int)<(M:Int))=true:=by simp;omega
    clear Vl Ch ug UM zuy wF xi wB jc ZE Pp Hq Vn Vp Qy XR aB Qg kR qc uH zux;go_wp2_with fail;obtain⟨wA,hwA⟩:=xX (wr.alloc (.cells #[xg k0,.int .i64 (a0:Nat),.slice ma m0.len mc] 183));have fA:Fr xI xI wr wA:=by rw[<-hwA];exact(Fr.refl _ _).alloc _
    have cA:=xu wr #[xg k0,.int .i64 (a0:Nat),.slice ma m0.len mc] 183 (0,0) 2;rw[hwA] at cA |-
    clear hwA;have aH:=B2.out.fr fA (fun _ q=>q.elim);have JW:k0∈bs.keys:=py.out k0 (by simp[Fo.keys]);have uH:=gN.out;simp only[Fo.gw] at uH;refine(uw.out L1 s1 wA k0 a0 ma m0.len mc aH (HB.out.al _ _ _ _ _ KD.out fA (fun _ q=>q.elim)) zly.out (by omega) JW).mono ?_;rintro e w2 ⟨rfl,jA,vU⟩;obtain⟨AE,hbz⟩:=HB.out.le k0 s1;have nA:¬L1.has p wr.heap.size:=fun q=>zZ _ (B2.out.lt q)
    have c2:=vU.cell cA nA;have f12:Fr (L1.has p) (L1.has p) wr w2:=(fA.wide (fun _ q=>q.elim)).trans vU;have Ct:YS lo hi w0 L1.B w2:=BJ.out.fr f12 B2.out.lo;have Pp:=Sn.out;have ZJ:(decide (k0.length<=4000001) && m0.vD && decide (m0.len<=2000000) && m0.wf 2000000 && r0.wf 2000000)=true:=Qj.out;simp only[zk,decide_eq_true_eq] at ZJ;have zlx:zy m0<zy bs:=by have:=dJ.out;simp at this;omega
    have Sp:=z7 (om.out m0 zlx p L1 (bg k0 s1) w2 ma mc ms jA Ct KG.out HMN.out ZJ.1.1.1.2 ZJ.1.2 Pp.2.1 ZJ.1.1.2 (by omega));have F12:=z7 f12;have wC:=z7 ZJ.2;clear jA vU f12 Ct Pp ZJ zlx cA fA aH;go_wp2_with fail;refine Sp.out.mono ?_;rintro e w3 ⟨rfl,L2,Jz,⟨kh,Kw⟩,gQ⟩;have DO:=z7 Jz;have U3:=z7 gQ;clear Jz gQ Sp c2;obtain⟨w4,BM,dV,Vi⟩:=VX 1 w3 (by omega);rw[show((1:Nat):Int)=1 from rfl] at BM;have J0:=DO.out.fr Vi (fun _ q=>q.elim);have wE:YS lo hi w0 L2.B w3:=by
     have:=(BJ.out.fr F12.out B2.out.lo).fr U3.out B2.out.lo;rw[Kw];exact this
    have he4:YS lo hi w0 L2.B w4:=wE.fr Vi (fun _ q=>q.elim);obtain⟨s2,qf⟩:=xX (MkS.dm m0 (bg k0 s1));rw[qf] at J0 DO;have hmz:=Np m0 (bg k0 s1);rw[qf] at hmz;have hx:(uJ ⟨11,s2.pos,0,[],z8 1 0⟩).length=3:=by simp[uJ,fZ,jZ,jb]
    have Qw:s2.sz<=900000:=by omega
    unfold MkS.sz at Qw;have HP:=z7 (bq p L2 s2 11 0 [] (z8 1 0) (.slice none 0 0) (.slice (some ⟨w3.heap.size,0,none⟩) 1 1) w4 J0 (qj.nil _) dV (fun g hg=>by cases hg) (fun g hg q=>by cases hg;exact zZ _ (DO.out.lt q)) (fun g hg q=>by cases q)
     (fun g hg=>by rcases hg with hg|hg<;>cases hg;have:=DO.out.base;show L2.B<=w3.heap.size;omega)
     ⟨(by decide:11<12),by simp,by simp,by simp,by simp,rfl⟩ he4.fo he4.g1 (by omega) (by omega) (by omega))
    have AG:=z7 Vi;have yf5:=z7 qf;have HMZ:=z7 hmz;clear J0 wE he4 dV Vi hmz hx qf;go_wp2_with fail;refine HP.out.mono ?_;rintro e w5 ⟨b,c,rfl,Ir,jW,Mr,L3,G0,⟨XE,B3⟩,G6,nb5,nc5⟩;have SX:=z7 G0;have SV:=z7 G6;have JR:=z7 Ir;clear HP G0 G6 Ir;have FA:=z7 (show Fr (L1.has p) (L3.has p) wr w5 from(((F12.out.trans U3.out).trans (AG.out.wide (fun _ q=>q.elim))).tr SV.out (fun q hq=>by
     rcases hq with hq|hq|hq
     .exact(F12.out.trans U3.out).fp q hq
     .cases hq
     .cases hq;exact .inr (F12.out.trans U3.out).size)))
    have hro:=FA.out.own qb.out (fun g hg=>(pz.out g hg).2);obtain⟨ln,kR⟩:=xX ls.length;rw[kR] at hro qb pz |-
    have yf6:ln<=2000000:=by have:=HLS.out;omega
    have Gx:=z7 hro;have aD:=z7 kR;clear hro kR;go_wp2_with (at_builtin;refine Uc Sl [_] 1 Gx.out (by omega) ?_);intro v6 w6 K6 ZT;have n3:∀ g,xY (.slice la ln lc) g->¬L3.has p g:=fun g hg q=>(FA.out.fp g q).elim (pz.out g hg).2 (by have:=ui qb.out hg;omega)
    have DW:s1.le s2:=MkS.le_trans (HB.out.le k0 s1).1 HMZ.out.1;have hl3:=MkS.le_trans DW (MkS.Z1 s2 11 0 [] (z8 1 0));have Ms:=gu s2 11 0 [] (z8 1 0);have IY:(uJ ⟨11,s2.pos,0,[],z8 1 0⟩).length=3:=by simp[uJ,fZ,jZ,jb]
    have Mt:=HMZ.out.2;have G1:=z7 (SX.out.fr ZT n3);have G2:=z7 ((Ve.out.trans FA.out).over ZT (fun q hq => .inr (pz.out q hq).1));have G3:=z7 (HB.out.al _ _ _ _ _ (HB.out.fr _ _ _ _ KD.out FA.out) ZT (fun q hq=>(pz.out q hq).1));have G4:=z7 (((HLP.out.fr FA.out hl3).more JR.out nb5 nc5 (i:=s2.code.length) (y:=⟨11,s2.pos,0,[],z8 1 0⟩) (by simp[MkS.put]) (by simp)).ty ZT (fun q hq=>jF Gx.out hq));have G5:=z7 (show ∀ g,xY v6 g->w.heap.size<=g/\¬L3.has p g from fun g hg=>(ZT.fp g hg).elim (fun q=>⟨(pz.out g q).1,n3 g q⟩) (fun q=>⟨zX (Ve.out.trans FA.out).size q,fun e=>by have:=SX.out.lt e;omega⟩));obtain⟨a6,c6,rfl⟩:=xf K6;have th:=z7 K6;clear K6 ZT n3 BM;have hzb:=(HB.out.le k0 s1).2;go_wp2;go_roundw
    case rel =>
     refine⟨i+1,us++[xg k0,.int .i64 (a0:Nat),.slice ma m0.len mc],Rk,r0,s2.put 11 0 [] (z8 1 0),L3,ls++[s2.code.length],BL++[(b,c)],by go_num,by omega,Qh.out,HLR.out,Sn.out.2.2,wC.out,by simp[Cs.out];omega,by rw[A6.out];simp,by have:=XU.out;simp only[Fo.len] at this;omega,by have:=dJ.out;simp at this;omega,fun k hk=>py.out k (by simp[Fo.keys,hk]),G1.out,⟨by rw[XE,kh,UP],by rw[B3,Kw,XF]⟩,G2.out,G3.out,MkS.le_trans zly.out hl3,by omega,G4.out,?_,G5.out,by rw[zN,HLS.out];rfl,?_⟩
     .have:=th.out;rw[<-aD.out] at this |-
      simpa[aE] using this
     .have:=dp.out;rw[go_leg,yf5.out] at this;exact this
    case measure=>simp only[intOf];omega
  .have vg:MkS.qq r bg s1 ls=(s1,ls):=by
    cases r with
    | nil=>rfl
    | text t r=>cases ZE
    | hash r=>cases ZE
    | put n a r=>cases ZE
    | num n a r=>cases ZE
    | br n a fo of cl bs r=>cases ZE
    | uz k0 a0 m0 r0=>exfalso;simp only[Fo.len] at kR;omega
   obtain rfl:(s1,ls)=R:=vg.symm.trans jc;have B2:=z7 Vl;have Ve:=z7 ug;have HLP:=z7 wF;have qb:=z7 xi;have pz:=z7 wB;have gN:=z7 uH;obtain⟨ln,zuq⟩:=xX ls.length;rw[zuq] at qb pz |-
   have yf6:ln<=2000000:=by omega
   have XU:=z7 zuq;clear Vl Ch ug UM zuy wF xi wB jc ZE Pp Hq Vn Vp Qy kR qc uH fg vg zuq zux;go_wp2_with fail;go_loopw [37] (fun jv wr2=>∃ j s2,jv = .int .i64 (j:Nat)/\j<=ln/\ux p L1 s2 wr2/\Fr (L1.has p) (L1.has p) wr wr2/\s2=(ls.take j).foldl (fun s i=>s.u7 i 0) s1/\gW wr2 p L1 s2 ls BL/\s2.sz<=900000) (fun jv _=>ln - (intOf jv).toNat)
   case atStart=>exact⟨0,s1,rfl,zY _,B2.out,Fr.refl _ _,rfl,HLP.out,by have:=gN.out;omega⟩
   case round =>
    obtain⟨j,s2,rfl,hj,jA,vU,qf,Pr,Qw⟩:=hrel;have YH:=z7 jA;have fL:=z7 vU;have nN:=z7 Pr;have bk:=z7 qf;by_cases b8:j<ln
    .obtain⟨ij,hij⟩:∃ ij,ls[j]? = some ij:=⟨_,zj (by have:=XU.out;omega)⟩;obtain⟨⟨b,c⟩,Dn⟩:∃ x,BL[j]? = some x:=⟨_,zj (by have:=XU.out;have:=HLP.out.1;omega)⟩;obtain⟨BN,-,-,y,hy,hy1⟩:=Pr.2 j ij (b,c) hij Dn;have hro:=vU.own qb.out (fun g hg=>(pz.out g hg).2);obtain⟨g,gc,hve,-,-,Zd⟩:=vZ hro (by omega)
     cases hve;have qK:wr.cell? ⟨g,j,none⟩=some (bS b c):=by
      rw[Zd j (by omega)];simp[aE,Dn]
     have zlj:s2.code.length<=1000000:=by unfold MkS.sz at Qw;omega
     have HLA:=z7 (Uo p L1 s2 ij 0 b c y wr jA BN hy (by omega) zlj (by omega));have HIJ:=z7 hij;have k3:(j:Int)<(ln:Int):=by omega
     have k4:decide ((j:Int)<(ln:Int))=true:=by simp;omega
     clear jA vU Pr qf BN hy hro Zd hij Dn;go_wp2_with fail;refine HLA.out.mono ?_;rintro e w3 ⟨rfl,Jz,gQ⟩;have DO:=z7 Jz;have U3:=z7 gQ;clear Jz gQ HLA;go_wp2;go_roundw
     case rel =>
      refine⟨j+1,s2.u7 ij 0,by go_num,by omega,DO.out,fL.out.trans U3.out,?_,nN.out.fr U3.out (s2.ZC _ _),by rw[gP];exact Qw⟩;rw[List.take_add_one,HIJ.out];simp[bk.out]
     case measure=>simp only[intOf];omega
    .have HE2:=z7 (show s2=ls.foldl (fun s i=>s.u7 i 0) s1 by rw[qf,List.take_of_length_le (by have:=XU.out;omega)]);have k3:¬(j:Int)<(ln:Int):=by omega
     have k4:decide ((j:Int)<(ln:Int))=false:=by simp;omega
     clear jA vU Pr qf;go_wp2;refine bodyPost_ret (v := .tuple #[]) ?_ rfl ?_
     .simp[results,results161,go_sem]
     rw[<-HE2.out];exact⟨rfl,L1,YH.out,⟨UP,XF⟩,Ve.out.trans fL.out⟩
def Uf(w:World)(b n:Nat)(f:Wd->Option Nat):Prop :=
 ∃ D:DataW Unit,w.ownsMap prog 9 (plainElem prog 3) b n D/\Maps.size D=n/\∀ m:Wd,yv D (.string m)=(f m).isSome/\D.atKey (.string m) (.lit (.int .i64 0)) = .lit (.int .i64 (((f m).getD 0:Nat):Int))
theorem Uf.g{w:World}{b n:Nat}{f:Wd->Option Nat}(h:Uf w b n f):j5 3 w b n f:=by
 obtain⟨D,h1,-,h3⟩:=h;exact⟨D,h1,h1.isMap,h3⟩
theorem Uf.made(w:World):Uf (w.alloc (.map #[] 0)) w.heap.size 0 (fun _=>none):=⟨.map [],zL w _ _ _,rfl,fun m=>⟨rfl,rfl⟩⟩
theorem Uf.fr{w w':World}{F F':Nat->Prop}{b n:Nat}{f:Wd->Option Nat}(h:Uf w b n f)(hf:Fr F F' w w')(hb:¬F b):Uf w' b n f:=by
 have hl:=h.g.lt;obtain⟨D,⟨es,clock,ho,rest⟩,h2⟩:=h;exact⟨D,⟨es,clock,(hf.keep b hl hb).trans ho,rest⟩,h2⟩
theorem Uf.len{w:World}{b n:Nat}{f:Wd->Option Nat}(h:Uf w b n f)(ty:TypeId):(yy #[185] ty #[.map (some b)]).run prog w = .ok (.int .i64 (n:Nat)) w:=by
 obtain⟨D,h1,rfl,_⟩:=h;exact h1.len underlying185 ty
theorem Uf.put{w:World}{b n:Nat}{f:Wd->Option Nat}(h:Uf w b n f)(m:Wd)(hm:m.length<=5000000)(k:Nat)(hk:k<=1000000000)(hn:n<=1000000000)(hf:f m=none) :
  ∃ w',(zR 185 (.map (some b)) (xg m) (.int .i64 (k:Int))).run prog w = .ok () w'/\Uf w' b (n+1) (fun x=>if m=x then some k else f x)/\w.grownBy w' (some b):=by
 obtain⟨D,h1,h2,h3⟩:=h;have hi:=h1.isMap;have hti:=h1.tidy (zG underlying9);obtain⟨w',vH,xV,hg⟩:=h1.update (zG underlying9) underlying185 (by unfold maxLen;omega) (key:=xg m) (zU (s:=⟨m.toArray⟩) underlying9 (by rw[size_mk];unfold maxLen;omega))
  (plainElem_int underlying3 (q := .i64) (a:=(k:Int)) (by simp[Lit.wf,yu,yq,zr,yz];omega))
 rw[toList_mk] at xV;refine⟨w',vH,⟨_,xV,?_,fun x=>?_⟩,hg⟩
 .rw[Maps.size_put hti,(h3 m).1,hf];simp[h2]
 .by_cases hx:m=x
  .subst hx;simp only[↓reduceIte];exact⟨by rw[zO hi (show zf (.string m) from trivial)];simp,by rw[zI hi (show zf (.string m) from trivial)];simp⟩
  .simp only[hx,↓reduceIte];have vy:(Lit.string x) ≠ .string m:=fun q=>hx (by cases q;rfl)
   exact⟨by rw[zM vy];exact(h3 x).1,by rw[zH vy];exact(h3 x).2⟩
structure Za(N p i4 pb mb:Nat)(kv:Value)(acc:List Nat)(done:List Wd)(L:bz)(w:World):Prop where
 k0:w.cell? ⟨i4,0,none⟩=some (.int .i64 10)
 k1:w.cell? ⟨i4,1,none⟩=some (.int .i64 0)
 k2:w.cell? ⟨i4,2,none⟩=some (.int .i64 0)
 k3:w.cell? ⟨i4,3,none⟩=some kv
 k4:w.cell? ⟨i4,4,none⟩=some (.slice none 0 0)
 z:∀ j,w.frozen? ⟨i4,j,none⟩=false
 pm:w.cell? ⟨pb,0,none⟩=some (.map (some mb))
 mp:Uf w mb done.length (kV done)
 row:qj w kv acc
 lo:N<=i4/\N<=pb/\N<=mb/\∀ g,xY kv g->N<=g
 out:¬L.has p i4/\¬L.has p pb/\¬L.has p mb/\∀ g,xY kv g->¬L.has p g
 ne:i4≠pb/\i4≠mb/\pb≠mb/\¬xY kv i4/\¬xY kv pb/\¬xY kv mb
section
variable {N p i4 pb mb:Nat} {kv:Value} {acc:List Nat} {done:List Wd} {L L':bz} {w w':World}
theorem Za.lt(h:Za N p i4 pb mb kv acc done L w):i4<w.heap.size/\pb<w.heap.size/\mb<w.heap.size:=⟨zx w _ h.k0,zx w _ h.pm,h.mp.g.lt⟩
theorem Za.keep{F F':Nat->Prop}(h:Za N p i4 pb mb kv acc done L w)(hf:Fr F F' w w')(hF:∀ g,(g=i4\/g=pb\/g=mb\/xY kv g)->¬F g)(ho:∀ g,(g=i4\/g=pb\/g=mb\/xY kv g)->¬L'.has p g):Za N p i4 pb mb kv acc done L' w':=by
 have a:=hF i4 (.inl rfl);have b:=hF pb (.inr (.inl rfl));have c:=hF mb (.inr (.inr (.inl rfl)));exact⟨hf.cell h.k0 a,hf.cell h.k1 a,hf.cell h.k2 a,hf.cell h.k3 a,hf.cell h.k4 a,fun j=>(hf.frozen h.lt.1 a).trans (h.z j),hf.cell h.pm b,h.mp.fr hf c,hf.own h.row (fun g hg=>hF g (.inr (.inr (.inr hg)))),h.lo,⟨ho i4 (.inl rfl),ho pb (.inr (.inl rfl)),ho mb (.inr (.inr (.inl rfl))),fun g hg=>ho g (.inr (.inr (.inr hg)))⟩,h.ne⟩
theorem Za.all(h:Za N p i4 pb mb kv acc done L w):∀ g,(g=i4\/g=pb\/g=mb\/xY kv g)->¬L.has p g/\g<w.heap.size/\N<=g:=by
 rintro g (rfl|rfl|rfl|hg)
 .exact⟨h.out.1,h.lt.1,h.lo.1⟩
 .exact⟨h.out.2.1,h.lt.2.1,h.lo.2.1⟩
 .exact⟨h.out.2.2.1,h.lt.2.2,h.lo.2.2.1⟩
 .exact⟨h.out.2.2.2 g hg,ui h.row hg,h.lo.2.2.2 g hg⟩
theorem Za.fr(h:Za N p i4 pb mb kv acc done L w)(hf:Fr (L.has p) (L'.has p) w w'):Za N p i4 pb mb kv acc done L' w' :=
 h.keep hf (fun g hg=>(h.all g hg).1) (fun g hg q=>(hf.fp g q).elim (h.all g hg).1 (by have:=(h.all g hg).2.1;omega))
theorem Za.al{F F':Nat->Prop}(h:Za N p i4 pb mb kv acc done L w)(hf:Fr F F' w w')(hF:∀ g,F g->w.heap.size<=g):Za N p i4 pb mb kv acc done L w' :=
 h.keep hf (fun g hg q=>by have:=hF g q;have:=(h.all g hg).2.1;omega) (fun g hg=>(h.all g hg).1)
theorem Za.key{t:Wd}(h:Za N p i4 pb mb kv acc done L w)(ht:t ∉ done)(hm:Uf w' mb (done.length+1) (fun x=>if t=x then some done.length else kV done x))(hg:w.grownBy w' (some mb)):Za N p i4 pb mb kv acc (done++[t]) L w':=by
 have hf:Fr (fun k=>k=mb) (fun k=>k=mb) w w':=⟨hg.os,hg.tape,hg.output,hg.size,fun k hk hn=>hg.block k hk (fun e=>hn (zv e)),fun _ q => .inl q⟩;obtain⟨n1,n2,n3,n4,n5,n6⟩:=h.ne;rw[Kh ht] at hm;exact⟨hf.cell h.k0 n2,hf.cell h.k1 n2,hf.cell h.k2 n2,hf.cell h.k3 n2,hf.cell h.k4 n2,fun j=>(hf.frozen h.lt.1 n2).trans (h.z j),hf.cell h.pm n3,by simpa using hm,hf.own h.row (fun g hg e=>n6 (e▸hg)),h.lo,h.out,h.ne⟩
theorem Za.num{px:Value}{n:Nat}{w2:World}(h:Za N p i4 pb mb kv acc done L w)(hr:qj w2 px (acc++[n]))(hf:Fr (xY kv) (xY px) w w2)(hL:∀ g,L.has p g->g<w.heap.size)(hN:N<=w.heap.size):Za N p i4 pb mb px (acc++[n]) done L (w2.setCell ⟨i4,3,none⟩ px):=by
 obtain⟨n1,n2,n3,n4,n5,n6⟩:=h.ne;have lv:∀ g,xY px g->xY kv g\/w.heap.size<=g:=hf.fp;have nv:∀ g,g<w.heap.size->¬xY kv g->¬xY px g:=fun g a b c=>(lv g c).elim b (by omega)
 have c:=fun (j:Nat) (v:Value) (hc:w.cell? ⟨i4,j,none⟩=some v) (hj:j≠3)=>(show(w2.setCell ⟨i4,3,none⟩ px).cell? ⟨i4,j,none⟩=some v by rw[xk,if_neg (fun e=>hj (by cases e;rfl))];exact hf.cell hc n4)
 refine⟨c 0 _ h.k0 (by decide),c 1 _ h.k1 (by decide),c 2 _ h.k2 (by decide),uy (hf.cell h.k3 n4) _,c 4 _ h.k4 (by decide),fun j=>by rw[World.frozen?_setCell];exact(hf.frozen h.lt.1 n4).trans (h.z j),uV (hf.cell h.pm n5) _ n1,
  (h.mp.fr hf n6).fr (show Fr (fun g=>g=i4) (fun g=>g=i4) w2 (w2.setCell ⟨i4,3,none⟩ px) from(Fr.refl _ _).set _ (.inl rfl)) (fun e=>n2 e.symm),ownsRow_setCell_other hr (nv _ h.lt.1 n4) _,⟨h.lo.1,h.lo.2.1,h.lo.2.2.1,fun g hg=>(lv g hg).elim (h.lo.2.2.2 g) (by omega)⟩,
  ⟨h.out.1,h.out.2.1,h.out.2.2.1,fun g hg=>(lv g hg).elim (h.out.2.2.2 g) (fun a b=>by have:=hL g b;omega)⟩,n1,n2,n3,nv _ h.lt.1 n4,nv _ h.lt.2.1 n5,nv _ h.lt.2.2 n6⟩
end
structure Qd(N p idx tb b c pb mb n:Nat)(f:Wd->Option Nat)(L:bz)(w:World):Prop where
 t:w.cell? ⟨tb,0,none⟩=some (bS b c)
 l:j6 w p idx b c
 pm:w.cell? ⟨pb,0,none⟩=some (.map (some mb))
 mp:j5 3 w mb n f
 out:¬L.has p tb/\¬L.has p b/\¬L.has p c/\¬L.has p pb/\¬L.has p mb
 lt:tb<N/\b<N/\c<N/\pb<N/\mb<N
section
variable {N p idx tb b c pb mb n:Nat} {f:Wd->Option Nat} {L L':bz} {w w':World}
theorem Qd.keep{F F':Nat->Prop}(h:Qd N p idx tb b c pb mb n f L w)(hf:Fr F F' w w')(hF:∀ g,(g=tb\/g=b\/g=c\/g=pb\/g=mb)->¬F g/\¬L'.has p g):Qd N p idx tb b c pb mb n f L' w':=by
 have h1:=hF tb (.inl rfl);have h2:=hF b (.inr (.inl rfl));have h3:=hF c (.inr (.inr (.inl rfl)));have h4:=hF pb (.inr (.inr (.inr (.inl rfl))));have h5:=hF mb (.inr (.inr (.inr (.inr rfl))));exact⟨hf.cell h.t h1.1,h.l.fr hf h2.1 h3.1,hf.cell h.pm h4.1,h.mp.fr hf h5.1,⟨h1.2,h2.2,h3.2,h4.2,h5.2⟩,h.lt⟩
theorem Qd.all(h:Qd N p idx tb b c pb mb n f L w):∀ g,(g=tb\/g=b\/g=c\/g=pb\/g=mb)->¬L.has p g/\g<N/\g<w.heap.size:=by
 obtain⟨o1,o2,o3,o4,o5⟩:=h.out;obtain⟨l1,l2,l3,l4,l5⟩:=h.lt;rintro g (rfl|rfl|rfl|rfl|rfl)
 .exact⟨o1,l1,zx w _ h.t⟩
 .exact⟨o2,l2,h.l.lt.1⟩
 .exact⟨o3,l3,h.l.lt.2⟩
 .exact⟨o4,l4,zx w _ h.pm⟩
 .exact⟨o5,l5,h.mp.lt⟩
theorem Qd.fr(h:Qd N p idx tb b c pb mb n f L w)(hf:Fr (L.has p) (L'.has p) w w'):Qd N p idx tb b c pb mb n f L' w' :=
 h.keep hf (fun g hg=>⟨(h.all g hg).1,fun q=>(hf.fp g q).elim (h.all g hg).1 (by have:=(h.all g hg).2.2;omega)⟩)
theorem Qd.al{F F':Nat->Prop}(h:Qd N p idx tb b c pb mb n f L w)(hf:Fr F F' w w')(hF:∀ g,F g->N<=g):Qd N p idx tb b c pb mb n f L w' :=
 h.keep hf (fun g hg=>⟨fun q=>by have:=hF g q;have:=(h.all g hg).2.1;omega,(h.all g hg).1⟩)
theorem aI(s:MkS)(x:jG)(key:Wd)(a:Nat)(ma:Option Addr)(mn mc:Nat)(hm:ux p L s w)(h:Qd N p idx tb b c pb mb n f L w)(hk:key.length<=17)(hx:s.code[idx]? = some x)(hj:(f key).getD 0<x.tg.length)(hl:x.tg.length<=1000000)(hs:s.code.length<=900000) :
  Calls prog 162 #[.agg #[xg key,.int .i64 (a:Nat),.slice ma mn mc],.pointer (some ⟨tb,0,none⟩),.pointer (some ⟨pb,0,none⟩)] w (Iz p L (s.u7 idx ((f key).getD 0)) w):=by
 obtain⟨A,hA⟩:=xX (w.alloc (.cells #[xg key,.int .i64 (a:Nat),.slice ma mn mc] 183));have fA:Fr xI xI w A:=by rw[<-hA];exact(Fr.refl _ _).alloc _
 have Rf:=h.keep fA (L':=L) (fun g hg=>⟨id,(h.all g hg).1⟩);have aH:=hm.fr fA (fun _ q=>q.elim);have cA:=xu w #[xg key,.int .i64 (a:Nat),.slice ma mn mc] 183 (0,0) 0;obtain⟨j,hjj⟩:=xX ((f key).getD 0);have VE:=Rf.mp.Kt Ku key (by omega);rw[hjj] at VE hj |-
 have ht:=Rf.t;have hp:=Rf.pm;have HL:=z7 (Uo p L s idx j b c x A aH Rf.l hx hj (by omega) hl);have Rb:=z7 fA;have HX:=z7 hA;subst hA;clear h hm Rf aH hx hj hjj fA;go_enter func162,ntmps162;go_wp2_with fail;refine HL.out.mono ?_;rintro e w2 ⟨rfl,jA,vU⟩;have YH:=z7 jA;have fL:=z7 vU;clear HL jA vU;go_wp2;refine bodyPost_ret (v := .tuple #[]) ?_ rfl ?_
 .simp[results,results162,go_sem]
 exact⟨rfl,YH.out,(Rb.out.wide (fun _ q=>q.elim)).trans fL.out⟩
end
theorem Sr{p:Nat}{L:bz}{s:MkS}{w:World}(h:ux p L s w)(n N:Nat)(hN:N<=w.heap.size) :
  ∃ W,W=(((w.alloc (.cells #[.int .i64 (n:Nat)] 3)).alloc (.cells #[.int .i64 10,.int .i64 0,.int .i64 0,.slice (some ⟨w.heap.size,0,none⟩) 1 1,.slice none 0 0] 128)).alloc (.map #[] 0)).alloc (.cells #[.map (some (w.heap.size+2))] 185) /\
   Za N p (w.heap.size+1) (w.heap.size+3) (w.heap.size+2) (.slice (some ⟨w.heap.size,0,none⟩) 1 1) [n] [] L W/\Fr xI xI w W:=by
 obtain⟨A,hA⟩:=xX (w.alloc (.cells #[.int .i64 (n:Nat)] 3));have sA:A.heap.size=w.heap.size+1:=by rw[<-hA];simp
 have rA:qj A (.slice (some ⟨w.heap.size,0,none⟩) 1 1) [n]:=by rw[<-hA];exact qj.lit w [n] (by simp)
 have fA:Fr xI xI w A:=by rw[<-hA];exact(Fr.refl _ _).alloc _
 rw[hA];clear hA;obtain⟨B,hB⟩:=xX (A.alloc (.cells #[.int .i64 10,.int .i64 0,.int .i64 0,.slice (some ⟨w.heap.size,0,none⟩) 1 1,.slice none 0 0] 128));have cB:=fun j=>xu A #[.int .i64 10,.int .i64 0,.int .i64 0,.slice (some ⟨w.heap.size,0,none⟩) 1 1,.slice none 0 0] 128 (0,0) j
 have zB:∀ j,B.frozen? ⟨w.heap.size+1,j,none⟩=false:=by intro j;rw[<-hB,<-sA];simp
 rw[hB,sA] at cB;have sB:B.heap.size=w.heap.size+2:=by rw[<-hB];simp[sA]
 have fB:Fr xI xI A B:=by rw[<-hB];exact(Fr.refl _ _).alloc _
 rw[hB];clear hB;obtain⟨C,hC⟩:=xX (B.alloc (.map #[] 0));have mC:=Uf.made B;rw[hC,sB] at mC;have sC:C.heap.size=w.heap.size+3:=by rw[<-hC];simp[sB]
 have fC:Fr xI xI B C:=by rw[<-hC];exact(Fr.refl _ _).alloc _
 rw[hC];clear hC;have fD:Fr xI xI C (C.alloc (.cells #[.map (some (w.heap.size+2))] 185)):=(Fr.refl _ _).alloc _;have f:=fC.trans fD;have no:∀ g,w.heap.size<=g->¬L.has p g:=fun g hg q=>by have:=h.lt q;omega
 refine⟨_,rfl,⟨f.cell (cB 0) id,f.cell (cB 1) id,f.cell (cB 2) id,f.cell (cB 3) id,f.cell (cB 4) id,fun j=>(f.frozen (show w.heap.size+1<_ by omega) id).trans (zB j),?_,mC.fr fD id,(fB.trans f).own rA (fun _ _=>id),⟨by omega,by omega,by omega,fun g hg=>by cases hg;exact hN⟩,
  ⟨no _ (by omega),no _ (by omega),no _ (by omega),fun g hg=>no g (by cases hg;exact zg _)⟩,⟨by omega,by omega,by omega,fun e=>?_,fun e=>?_,fun e=>?_⟩⟩,fA.trans (fB.trans f)⟩
 .rw[<-sC];exact xu C #[.map (some (w.heap.size+2))] _ _ _
 all_goals
  have e2:w.heap.size=_:=zv e;omega
theorem aL(ks:List Wd)(k:Wd)(h:k∈ks):(kV (ks.filter (· ≠ qv)++[qv]) k).getD 0=MkS.place ks k/\MkS.place ks k<=(ks.filter (· ≠ qv)).length:=by
 unfold kV MkS.place;by_cases hk:k=qv
 .subst hk;rw[if_pos (by simp),if_pos rfl];have:qv ∉ ks.filter (· ≠ qv):=by simp
  simp[zo,this,List.idxOf_cons]
 .have hm:k∈ks.filter (· ≠ qv):=zw.2 ⟨h,by simp[hk]⟩;rw[if_pos (by simp[h,hk]),if_neg hk,zo,if_pos hm];exact⟨rfl,List.idxOf_le_length⟩
theorem Cw{lo hi:Nat}{w0:World}(b0:Nat)(n:Wd)(a:Nat)(of:Wd)(cl:Nat)(bs:Fo)(p:Nat)(L:bz)(s:MkS)(w:World)
  (ih:∀ m:Fo,zy m<zy bs->Ip lo hi w0 m) (h:ux p L s w) (he:YS lo hi w0 L.B w)
  (XQ:xZ lo hi w0 [.iface 177 (.pointer (some ⟨b0,0,none⟩))] (.br n a 0 of cl bs .nil)) (hc:(Fo.br n a 0 of cl bs .nil).UW) (Vr:(Fo.br n a 0 of cl bs .nil).wf 2000000=true) (hs:s.sz+(40+bs.cw)<=900000) :
  Calls prog 121 #[.pointer (some ⟨p,0,none⟩),.pointer (some ⟨b0,0,none⟩)] w (MQ p L (Qf bs (MkS.bj n bs s) (MkS.kY n bs s)) w):=by
 have GM:=@run_makeMap prog;have HND:=z7 XQ;obtain⟨vt,b',ba,bc,ws,Nw,xG,xJ,ff,qK,jT,Mp,BI,Mr,KB,UR,_⟩:=XQ
 cases Nw;obtain⟨oh,-,-,hL,aN,wV,Dn,-⟩:=hc;have ZJ:(decide (n.length<=4000001) && decide (0<3) && bs.uk && decide (bs.len<=2000000) && bs.wf 2000000 && Fo.nil.wf 2000000)=true:=Vr;simp only[zk,decide_eq_true_eq] at ZJ;obtain⟨⟨⟨-,Dw⟩,qB⟩,-⟩:=ZJ;have c0:=xA he.keep ff xG xJ;have c4:=xA he.keep BI xG xJ;have qc:s.cs.length<=900000/\s.code.length<=900000/\s.pos<=900000:=by unfold MkS.sz at hs;omega
 have HC:=z7 (Vf p L s n w h (by omega) (by omega));have HH:=z7 h;have HE:=z7 he;have Gu:=z7 KB;have ot:=z7 UR;have HL:=z7 hL;have O0:=z7 aN;have HKS:=z7 wV;have HBC:=z7 Dn;have Im:=z7 qB;have om:=z7 ih;have HS:=z7 hs;obtain⟨M,hM⟩:=xX bs.len;have HM:=z7 hM;rw[hM] at c4 Dw;obtain⟨k0,E0⟩:=xX (s.num n);rw[E0] at HC;have RZ:=z7 E0;clear h he KB UR hL aN wV Dn qB ih hs hM ff qK jT Mp BI Mr E0 Vr;go_enter func121,ntmps121;go_wp2_with fail;refine HC.out.mono ?_;rintro e w1 ⟨rfl,L1,Vl,⟨UP,XF⟩,ug⟩;clear HC;obtain⟨W,hW,Sf,GD⟩:=Sr Vl k0 w.heap.size ug.size;have c4:=ug.cell (a:=⟨b0,4,none⟩) c4 (fun q=>by have:=HH.out.lo _ q;have:=HE.out.hB;simp only at *;omega);have c4a:=fun o1 o2 o3 o4=>xQ (xQ (xQ (xQ c4 o1) o2) o3) o4
 obtain⟨R,hR⟩:=xX (MkS.j7 bs (s.const n) [k0]);have HR:=z7 hR;have z1:=(vY s n).1;go_wp2_with fail;rw[<-hW];obtain⟨i4,hi4⟩:=xX (w1.heap.size+1);obtain⟨pb,pq⟩:=xX (w1.heap.size+3);obtain⟨mb,Hk⟩:=xX (w1.heap.size+2);rw[hi4,show i4+1+1=pb by omega];go_loopw [24] (fun iv wr=>∃ i us xs r s1 L2 acc kv done pre,iv = .int .i64 (i:Nat)/\i<=M/\xZ lo hi w0 xs r/\r.uk=true/\us.length=i*3/\ws=us++xs/\i+r.len=M/\bs.keys=pre++r.keys/\done=pre.filter (· ≠ qv) /\
  ux p L2 s1 wr/\(L2.q=L.q/\L2.B=L.B)/\Fr (L.has p) (L2.has p) w wr/\Za w.heap.size p i4 pb mb kv acc done L2 wr/\MkS.j7 r s1 acc=R/\done.length<=i/\(acc.length=done.length+1/\∀ x∈acc,x<=900000)/\s1.sz+r.keys.length<=899990) (fun iv _=>M - (intOf iv).toNat)
 case atStart =>
  rw[hi4,pq,Hk] at Sf;exact⟨0,[],ws,bs,s.const n,L1,[k0],_,[],[],rfl,zY _,ot.out,HL.out,rfl,rfl,by have:=HM.out;omega,rfl,rfl,Vl.fr GD (fun _ q=>q.elim),⟨UP,XF⟩,ug.trans (GD.wide (fun _ q=>q.elim)),Sf,HR.out,zg _,⟨rfl,by have:=CE s n;have:=RZ.out;simp;omega⟩,by have:=HS.out;have:=Fo.YR bs;omega⟩
 case round =>
  clear hW Sf GD Vl ug c4 c4a hR;obtain⟨i,us,xs,r,s1,L2,acc,kv,done,pre,rfl,hiM,fg,ZE,Vn,Vp,kR,Qb,Is,jA,⟨kh,Kw⟩,vU,wH,jc,uo,⟨uN,hax⟩,uH⟩:=hrel;have HAX:=z7 hax;have A7:=z7 uN;have yfy:acc.length<=i+1:=by omega
  clear hax uN;have Ct:YS lo hi w0 L2.B wr:=by rw[Kw];exact HE.out.fr vU HH.out.lo
  have YH:=z7 jA;have HE2:=z7 Ct;have fL:=z7 vU;have aO:=z7 wH;have dp:=z7 jc;have HLR:=z7 ZE;have Cs:=z7 Vn;have A6:=z7 Vp;have XU:=z7 kR;have E7:=z7 Qb;have HDN:=z7 Is;have gN:=z7 uH;by_cases xB:i<M
  .cases r with
   | nil=>exfalso;simp[Fo.len] at kR;omega
   | text t r=>cases ZE
   | hash r=>cases ZE
   | put n a r=>cases ZE
   | num n a r=>cases ZE
   | br n a fo of cl bs r=>cases ZE
   | uz k1 a0 m0 r0 =>
    obtain⟨Rk,ma,mc,ms,rfl,XR,aB,Qg⟩:=fg;obtain⟨g2,o2,rfl,e0,e1,e2⟩:=KC Ct.keep Gu.out Vn Vp;have Qh:=z7 Qg;have k3:(i:Int)<(M:Int):=by omega
    have k4:decide ((i:Int)<(M:Int))=true:=by simp;omega
    clear jA Ct vU jc ZE Vn Vp XR aB Qg kR Qb Is uH;have O3:Fr xI xI wr (wr.alloc (.cells #[xg k1,.int .i64 (a0:Nat),.slice ma m0.len mc] 183)):=(Fr.refl _ _).alloc _;have O4:=aO.out.al O3 (fun _ q=>q.elim);have HSA:=z7 O4;have Rb:=z7 (fL.out.trans (O3.wide (fun _ q=>q.elim)));have HMA:=z7 (YH.out.fr O3 (fun _ q=>q.elim));have Ns:=XU.out;simp only[Fo.len] at Ns;have O5:=gN.out;simp only[Fo.keys,zP] at O5;by_cases hko:k1=qv
    .have kq:(k1==[111,116,104,101,114])=true:=by rw[hko];decide
     have HKO:=z7 hko;clear O3 O4 wH hko;go_wp2;go_roundw
     case rel =>
      refine⟨i+1,us++[xg k1,.int .i64 (a0:Nat),.slice ma m0.len mc],Rk,r0,s1,L2,acc,kv,done,pre++[k1],by go_num,by omega,Qh.out,HLR.out,by simp[Cs.out];omega,by rw[A6.out];simp,by omega,by rw[E7.out];simp[Fo.keys],by rw[HDN.out,zi];simp[HKO.out],HMA.out,⟨kh,Kw⟩,Rb.out,HSA.out,?_,by omega,⟨A7.out,HAX.out⟩,by omega⟩;have:=dp.out;rw[MkS.j7,if_pos HKO.out] at this;exact this
     case measure=>simp only[intOf];omega
    .have kq:(k1==[111,116,104,101,114])=false:=by simpa[qv] using hko
     have HKO:=z7 hko;have hkb:k1∈bs.keys:=by rw[E7.out];simp[Fo.keys]
     have E8:k1 ∉ done:=by
      rw[HDN.out];intro q;have h1:=O0.out;rw[E7.out] at h1;exact(zn.1 h1).2.2 k1 (zw.1 q).1 k1 (by simp[Fo.keys]) rfl
     have pj:=(HKS.out k1 hkb).1;obtain⟨dn,hdn⟩:=xX done.length;have pg:=O4.mp.len;obtain⟨wp,XG,Vd,Jx⟩:=O4.mp.put k1 (by omega) done.length (by omega) (by omega) (by unfold kV;rw[if_neg E8]);have pmA:=O4.pm;have Jb:=z7 (O4.key E8 Vd Jx);have A8:Fr (fun g=>g=mb) (fun g=>g=mb) (wr.alloc (.cells #[xg k1,.int .i64 (a0:Nat),.slice ma m0.len mc] 183)) wp:=⟨Jx.os,Jx.tape,Jx.output,Jx.size,fun k hk hn=>Jx.block k hk (fun e=>hn (zv e)),fun _ q => .inl q⟩;rw[hdn] at pg XG uo;have o6:=z7 A8;have HGP:=z7 (show wp.cell? ⟨wr.heap.size,0,none⟩=some (xg k1) from A8.cell (xu _ _ _ _ _) (fun e=>by have:=aO.out.lt.2.2;simp only at e;omega));clear O3 O4 wH A8 Vd Jx hko;have O6:=HMA.out.fr o6.out (by rintro g rfl;exact aO.out.out.2.2.1);have zld:s1.cs.length<=1000000:=by unfold MkS.sz at O5;omega
     have A5:=z7 (Vf p L2 s1 k1 wp.drew O6.drew (by omega) zld);have It:=z7 O6;obtain⟨kn,Jt⟩:=xX (s1.num k1);rw[Jt] at A5;have Sd:=z7 Jt;have HHL:=z7 (show Fr (L.has p) (L2.has p) w wp from Rb.out.over o6.out (by rintro g rfl;exact .inr aO.out.lo.2.2.1));obtain⟨ac,cc,rfl⟩:=xf Jb.out.row;have k3c:=Jb.out.k3;have kec:=HGP.out;have neb:¬L2.has p wr.heap.size:=fun q=>by have:=YH.out.lt q;omega
     obtain⟨an,han⟩:=xX acc.length;rw[han] at k3c;have yfy:an<=i+1:=by omega
     have xi:=Jb.out.row;rw[show qj wp (.slice ac acc.length cc) acc=wp.ownsRow 0 3 1 (.slice ac acc.length cc) acc.length (Zb acc) from rfl,han] at xi;have qb:=z7 xi;have HAN:=z7 han;clear O6 zld Jt xi han;go_wp2_with fail;clear XG pg pmA;refine rk (fun W':World=>W'.cell? ⟨i4,3,none⟩=some (.slice ac an cc)/\W'.cell? ⟨wr.heap.size,0,none⟩=some (xg k1)) 9 [0,1,2,3,4] 5 ⟨k3c,kec⟩ ?_;(iterate 5 (refine ty ?_;try simp only[pl]))
     refine xq ?_;refine UN 5 (fun J hJ=>?_);go_simp;refine A5.out.mono ?_;rintro e w5 ⟨rfl,L3,G0,⟨XE,B3⟩,G6⟩;have G6:=G6.und;have k5:=G6.cell k3c Jb.out.out.1;have e5:=G6.cell kec neb;have pd:=Jb.out.fr G6;refine hJ.out _ _ ⟨k5,e5⟩ fun _=>?_
     clear hJ J;refine UN 6 (fun J hJ=>?_);go_simp;refine hJ.out _ _ ⟨xQ k5 _,xQ e5 _⟩ fun _=>?_
     clear hJ J;refine UN 7 (fun J hJ=>?_);rw[if_pos (by rfl)];refine XK Vj [_] 1 (G6.own qb.out (fun g hg=>Jb.out.out.2.2.2 g (by rw[HAN.out];exact hg))) (by omega) ?_;intro v6 w6 K6 ZT;rw[HAN.out] at pd;have VC:qj w6 v6 (acc++[kn]):=by
      show World.ownsRow _ _ _ _ _ (acc++[kn]).length _;rw[zN,HAN.out];simpa[Zb] using K6
     have z6:=(ZT.frozen (a:=⟨i4,3,none⟩) pd.lt.1 pd.ne.2.2.2.1).trans (pd.z 3);have pZ:=z7 (pd.num VC ZT (fun g hg=>G0.lt hg) (zX fL.out.size (zX (by simp) (zX o6.out.size G6.size))));have HM6:=z7 (G0.fr ZT (fun g hg=>pd.out.2.2.2 g hg));have HF6:=z7 ((HHL.out.trans G6).over ZT (fun g hg => .inr (pd.lo.2.2.2 g hg)));have k6:=ZT.cell k5 pd.ne.2.2.2.1;have hbo:¬xY (.slice ac an cc) wr.heap.size:=fun q=>by
      have h1:=aO.out.row;have h2:=Jb.out.ne;have:=ui aO.out.row (g:=wr.heap.size) (by rw[HAN.out];exact q);omega
     have e6:=ZT.cell e5 hbo;obtain⟨a6,c6,rfl⟩:=xf K6;clear pd VC K6;go_simp;refine hJ.out _ _ ⟨k6,e6⟩ fun _=>?_
     clear hJ J;refine kX [8] 1 rfl (by intro _ _ d _ _ h;cases d<;>exact h) (by kernel_rfl) (by kernel_rfl) ⟨k6,e6⟩ ?_;refine ty ?_;try simp only[pl]
     refine xq ?_;refine BZ 9 (fun J hJ=>?_);go_simp;refine hJ.out _ _ ?_;clear hJ J;refine BX ?_ _;have fst:∀ u,Fr (fun g=>g=i4) (fun g=>g=i4) w6 (w6.setCell ⟨i4,3,none⟩ u):=fun u=>(Fr.refl _ _).set _ (.inl rfl)
     have HFS:=z7 (fst (.slice a6 (an+1) c6));have HLO:=z7 aO.out.lo;have HOU:=z7 (show ¬L3.has p i4 from pZ.out.out.1);clear G6 ZT G0 k5 e5 k6 e6 fst;go_wp2;go_roundw
     case rel =>
      refine⟨i+1,us++[xg k1,.int .i64 (a0:Nat),.slice ma m0.len mc],Rk,r0,s1.const k1,L3,acc++[kn],_,done++[k1],pre++[k1],by go_num,by omega,Qh.out,HLR.out,by simp[Cs.out];omega,by rw[A6.out];simp,by omega,by rw[E7.out];simp[Fo.keys],?_,HM6.out.fr HFS.out (by rintro g rfl;exact HOU.out),⟨XE.trans kh,B3.trans Kw⟩,HF6.out.over HFS.out (by rintro g rfl;exact .inr HLO.out.1),pZ.out,?_,by simp;omega,⟨by simp[A7.out],?_⟩,?_⟩
      .rw[HDN.out,zi];simp[HKO.out]
      .have:=dp.out;rw[MkS.j7,if_neg HKO.out,Sd.out] at this;exact this
      .intro x hx;rcases zS.1 hx with hx|hx
       .exact HAX.out x hx
       .simp at hx;have:=CE s1 k1;have:=Sd.out;unfold MkS.sz at O5;omega
      .have:=(vY s1 k1).1;omega
     case measure=>simp only[intOf];omega
  .have vg:r.keys=[]/\MkS.j7 r s1 acc=(s1,acc):=by
    cases r with
    | nil=>exact⟨rfl,rfl⟩
    | text t r=>cases ZE
    | hash r=>cases ZE
    | put n a r=>cases ZE
    | num n a r=>cases ZE
    | br n a fo of cl bs r=>cases ZE
    | uz k0 a0 m0 r0=>exfalso;simp only[Fo.len] at kR;omega
   have jh:=z7 (show R=(s1,acc) from jc.symm.trans vg.2);have HK1:=z7 (show bs.keys=pre by rw[Qb,vg.1];simp);have E8:qv ∉ done:=by rw[Is];simp
   obtain⟨dn,hdn⟩:=xX done.length;have pg:=wH.mp.len;obtain⟨wp,XG,Vd,Jx⟩:=wH.mp.put qv (by decide) done.length (by omega) (by omega) (by unfold kV;rw[if_neg E8]);have pmA:=wH.pm;have Jb:=z7 (wH.key E8 Vd Jx);have A8:Fr (fun g=>g=mb) (fun g=>g=mb) wr wp:=⟨Jx.os,Jx.tape,Jx.output,Jx.size,fun k hk hn=>Jx.block k hk (fun e=>hn (zv e)),fun _ q => .inl q⟩;rw[hdn] at pg XG uo;rw[show xg qv = .string ⟨#[111,116,104,101,114]⟩ from rfl] at XG;have xq3:dn<=100000:=by
    have h1:done.length<=bs.keys.length:=by rw[HK1.out,Is];exact List.length_filter_le ..
    have:=Fo.YR bs;have:=HS.out;omega
   have o6:=z7 A8;have k3:¬(i:Int)<(M:Int):=by omega
   have k4:decide ((i:Int)<(M:Int))=false:=by simp;omega
   have pmp:=Jb.out.pm;have wF:=Jb.out.mp.len;rw[zN,hdn] at wF;have xq4:∀ ty,(yy #[185] ty #[.map (some mb)]).run prog wp = .ok (.int .i64 ((dn+1:Nat):Int)) wp:=wF;obtain⟨wm,BM,pY,XV⟩:=VX (dn+1) wp (by omega);have zm0:=z7 hdn;clear jA Ct vU wH jc ZE Vn Vp kR Qb Is uH fg vg Vd Jx A8 wF hdn;rw[show((dn+1:Nat):Int)=(dn:Int)+1 by omega] at BM;have hS:=Jb.out.al XV (fun _ q=>q.elim);obtain⟨ac,ak,Ky⟩:=xf hS.row;have q0:=hS.k0;have q1:=hS.k1;have q2:=hS.k2;have q3:=hS.k3;have q4:=hS.k4;have z4:=hS.z 4;have FP:=o6.out;have nmb:∀ g,L2.has p g->g≠mb:=by rintro g hg rfl;exact aO.out.out.2.2.1 hg
   have fm2:Fr (fun g=>g=mb) (fun g=>g=mb) wr wm:=FP.trans (XV.wide (fun _ q=>q.elim));have zm1:=YH.out.fr fm2 (by rintro g rfl hg;exact nmb _ hg rfl);have hSt:∀ u,Fr (fun g=>g=i4) (fun g=>g=i4) wm (wm.setCell ⟨i4,4,none⟩ u):=fun u=>(Fr.refl _ _).set _ (.inl rfl)
   have DO:=z7 (zm1.fr (hSt (.slice (some ⟨wp.heap.size,0,none⟩) (dn+1) (dn+1))) (by rintro g rfl;exact aO.out.out.1));have HEE:=z7 ((HE2.out.fr fm2 (by rintro g rfl;have:=aO.out.lo.2.2.1;have:=YH.out.base;have:=HH.out.base;omega)).fr (hSt (.slice (some ⟨wp.heap.size,0,none⟩) (dn+1) (dn+1))) (by rintro g rfl;have:=aO.out.lo.1;have:=HH.out.base;omega));have Uh:=z7 hS;have HFM:=z7 XV;have HKM:=z7 pY;rw[Ky] at q3;clear hS FP fm2 zm1 hSt XV pY nmb;go_wp2_with fail;obtain⟨wS,hwS⟩:=xX (wm.setCell ⟨i4,4,none⟩ (.slice (some ⟨wp.heap.size,0,none⟩) (dn+1) (dn+1)));rw[hwS] at DO HEE |-
   have B4:acc.length=dn+1:=by rw[A7.out,zm0.out]
   obtain⟨x0,zm3,Dp⟩:∃ x0 zm3,acc=x0::zm3:=by
    cases acc with
    | nil=>simp at B4
    | cons a b=>exact⟨a,b,rfl⟩
   have hS:=Uh.out;have lwp:∀ g,L2.has p g->g<wp.heap.size:=fun g hg=>by have:=YH.out.lt hg;have:=o6.out.size;omega
   have lkp:∀ g,xY kv g->g<wp.heap.size:=fun g hg=>ui Jb.out.row hg
   have rk1:qj wS kv acc:=by rw[<-hwS];exact ownsRow_setCell_other hS.row hS.ne.2.2.2.1 _
   have rt1:qj wS (.slice (some ⟨wp.heap.size,0,none⟩) (dn+1) (dn+1)) (z8 (dn+1) 0):=by
    rw[<-hwS];exact ownsRow_setCell_other HKM.out (fun e=>by have:=Jb.out.lt.1;have e2:wp.heap.size=i4:=zv e;omega) _
   have dI:Pc ⟨10,s1.pos,0,acc,z8 (dn+1) 0⟩:=by
    refine⟨(by decide:10<12),by simp,fun x hx=>by have:=HAX.out x hx;omega,fun x hx=>by have:=List.eq_of_mem_replicate hx;omega,by show acc.length<=_;omega,?_⟩;show okB [110,42] acc.length (z8 (dn+1) 0).length=true;rw[B4,List.length_replicate];simp[okB]
   have oU:(uJ ⟨10,s1.pos,0,acc,z8 (dn+1) 0⟩).length<=1000000:=by
    rw[Dp,Rv];rw[Dp] at B4;simp at B4;omega
   have B1:=gN.out;unfold MkS.sz at B1;have HP:=z7 (bq p L2 s1 10 0 acc (z8 (dn+1) 0) kv (.slice (some ⟨wp.heap.size,0,none⟩) (dn+1) (dn+1)) wS DO.out rk1 rt1 (fun g hg=>hS.out.2.2.2 g hg) (fun g hg q=>by cases hg;exact zZ _ (lwp _ q)) (fun g hg q=>by cases hg;exact zZ _ (lkp _ q))
    (fun g hg=>by
     have h1:=YH.out.base;have h2:=HH.out.base;have h3:=fL.out.size;have h4:=o6.out.size;rcases hg with hg|hg
     .have:=hS.lo.2.2.2 g hg;omega
     .cases hg;show L2.B<=wp.heap.size;omega) dI HEE.out.fo HEE.out.g1 (by omega) (by omega) oU)
   have hSS:s1.put 10 0 acc (z8 (dn+1) 0)=MkS.kY n bs s:=by
    have h1:MkS.gT n bs s=(s1,acc):=by unfold MkS.gT;rw[RZ.out,HR.out,jh.out]
    unfold MkS.kY;rw[h1,B4]
   have zm4:s1.code.length=(MkS.gT n bs s).1.code.length:=by
    have h1:MkS.gT n bs s=(s1,acc):=by unfold MkS.gT;rw[RZ.out,HR.out,jh.out]
    rw[h1]
   have HSS:=z7 hSS;have HID:=z7 zm4;have HTG:=z7 (show ∃ x,(s1.put 10 0 acc (z8 (dn+1) 0)).code[s1.code.length]? = some x/\x.tg.length=dn+1 from⟨_,by simp[MkS.put];rfl,by simp⟩);have Ud:=z7 (show Fr (fun g=>g=i4) (fun g=>g=i4) wp wS from by rw[<-hwS];exact(HFM.out.wide (fun _ q=>q.elim)).set _ (.inl rfl));clear rk1 rt1 dI oU B1 hSS zm4 hS lwp lkp Dp B4;rw[Ky] at HP;clear hwS;go_wp2_with fail;refine HP.out.mono ?_;rintro e w5 ⟨b,c,rfl,Ir,jW,Mr,L3,G0,⟨XE,B3⟩,G6,nb5,nc5⟩;have SX:=z7 G0;have SV:=z7 G6;have JR:=z7 Ir;clear HP G0 G6 Ir;go_wp2_with fail;obtain⟨wT,wI⟩:=xX (w5.alloc (.cells #[bS b c] 189));have O7:Fr xI xI w5 wT:=by rw[<-wI];exact(Fr.refl _ _).alloc _
   have hcT:=xu w5 #[bS b c] 189 (0,0) 0;have hsT:wT.heap.size=w5.heap.size+1:=by rw[<-wI];simp
   rw[wI] at hcT;have ne:=Jb.out.ne;have lo:=Jb.out.lo;have ou:=Jb.out.out;have lt:=Jb.out.lt;have swr:=fL.out.size;have swp:=o6.out.size;have swS:=Ud.out.size;have sw5:=SV.out.size;have hP:∀ g,g=pb\/g=mb->¬(L2.has p g\/xY kv g\/xY (.slice (some ⟨wp.heap.size,0,none⟩) (dn+1) (dn+1)) g):=by
    rintro g (rfl|rfl) (q|q|q)
    .exact ou.2.1 q
    .exact ne.2.2.2.2.1 q
    .have:wp.heap.size=_:=zv q;omega
    .exact ou.2.2.1 q
    .exact ne.2.2.2.2.2 q
    .have:wp.heap.size=_:=zv q;omega
   rw[<-Ky] at SV;have h3:∀ g,g=pb\/g=mb->¬L3.has p g:=fun g hg q=>(SV.out.fp g q).elim (hP g hg) (fun q=>by rcases hg with rfl|rfl<;>omega)
   have gS:Fr (fun g=>g=i4) (fun g=>g=i4) wp wS:=Ud.out;have FA:Fr (L.has p) (L3.has p) w wT:=((((fL.out.over o6.out (by rintro g rfl;exact .inr lo.2.2.1)).over gS (by rintro g rfl;exact .inr lo.1)).tr SV.out (by
    rintro g (q|q|q)
    .exact fL.out.fp g q
    .exact .inr (lo.2.2.2 g q)
    .have:wp.heap.size=g:=zv q;exact .inr (by omega)))).trans (O7.wide (fun _ q=>q.elim))
   have HI:Qd wT.heap.size p s1.code.length w5.heap.size b c pb mb (done++[qv]).length (kV (done++[qv])) L3 wT:=by
    have l5:=JR.out.lt;refine⟨hcT,JR.out.fr O7 id id,O7.cell (SV.out.cell (gS.cell Jb.out.pm ne.1.symm) (hP pb (.inl rfl))) id,((Jb.out.mp.g.fr gS (fun e=>ne.2.1 e.symm)).fr SV.out (hP mb (.inr rfl))).fr O7 id,
     ⟨fun q=>by have:=SX.out.lt q;omega,nb5,nc5,h3 pb (.inl rfl),h3 mb (.inr rfl)⟩,⟨by omega,by omega,by omega,by omega,by omega⟩⟩
   obtain⟨x,hx,hxt⟩:=HTG.out;have hdd:done=bs.keys.filter (· ≠ qv):=by rw[HK1.out];exact HDN.out
   have wL:L3.B=L.B:=B3.trans Kw;have zm5:zuz wT.heap.size p (MkS.kY n bs s) bs.keys (MkS.bj n bs s) (.func (.func 162) #[] #[.pointer (some ⟨w5.heap.size,0,none⟩),.pointer (some ⟨pb,0,none⟩)]) (fun L W=>Qd wT.heap.size p s1.code.length w5.heap.size b c pb mb (done++[qv]).length (kV (done++[qv])) L W):=by
    refine⟨⟨_,_,rfl,fun args w=>by first|rfl|simp[callFunc],fun L s' W key a ma mn mc hm hI hle qc JW=>?_⟩,fun L L' W W' h hf=>h.fr hf,fun L W W' F F' h hf hF=>h.al hf hF,fun k x=>MkS.Cl n bs s k x⟩;obtain⟨e1,e2⟩:=aL bs.keys key JW;rw[<-hdd] at e1 e2;rw[HSS.out] at hx;obtain⟨y,hy,hyt⟩:=hle _ x hx;have Zd:s'.code.length<=900000:=by unfold MkS.sz at qc;omega
    have:=aI s' y key a ma mn mc hm hI (HKS.out key JW).1 hy (by rw[e1,hyt,hxt];have:=zm0.out;omega) (by rw[hyt,hxt];omega) Zd;rw[e1,HID.out] at this;exact this
   have Ss:=z7 (Fz b0 n a 0 of cl bs p L3 (MkS.kY n bs s) (MkS.bj n bs s) _ _ wT om.out (by have:=SX.out.fr O7 (fun _ q=>q.elim);rw[HSS.out] at this;exact this) (by rw[wL];exact HE.out.fr FA HH.out.lo) HND.out HL.out HBC.out Im.out (by rw[HM.out];exact Dw)
    (by have:=(MkS.Co n bs s).2;have:=Fo.YR bs;have:=HS.out;omega) zm5 HI)
   have Rb:=z7 FA;clear zm5 HI FA hx O7 hcT;rw[wI];refine Ss.out.mono ?_;rintro e w9 ⟨rfl,L4,hm9,⟨hq9,yff⟩,hf9⟩;have HM9:=z7 hm9;have HF9:=z7 hf9;clear hm9 hf9 Ss;go_wp2;refine bodyPost_ret (v := .tuple #[]) ?_ rfl ?_
   .simp[results,results121,go_sem]
   exact⟨rfl,L4,HM9.out,⟨by rw[hq9,XE,kh],by rw[yff,wL]⟩,Rb.out.trans HF9.out⟩
def Xj(S:Nat->Prop)(p:Nat)(W0:World)(L:bz)(W:World):Prop:=∀ g,S g->g<W0.heap.size/\¬L.has p g/\W.heap[g]? = W0.heap[g]?
section
variable {S:Nat->Prop} {p:Nat} {W0 W W':World} {L L':bz}
theorem Xj.lt(h:Xj S p W0 L W){g:Nat}(hg:S g):g<W.heap.size:=by
 obtain⟨a,_,c⟩:=h g hg;rw[Array.getElem?_eq_getElem a] at c;exact(zV.1 c).1
theorem Xj.fr(h:Xj S p W0 L W)(hf:Fr (L.has p) (L'.has p) W W'):Xj S p W0 L' W':=fun g hg=>by
 obtain⟨a,b,c⟩:=h g hg;have:=h.lt hg;exact⟨a,fun q=>(hf.fp g q).elim b (by omega),(hf.keep g this b).trans c⟩
theorem Xj.al{F F':Nat->Prop}(h:Xj S p W0 L W)(hf:Fr F F' W W')(hF:∀ g,F g->W0.heap.size<=g):Xj S p W0 L W':=fun g hg=>by
 obtain⟨a,b,c⟩:=h g hg;exact⟨a,b,(hf.keep g (h.lt hg) (fun q=>by have:=hF g q;omega)).trans c⟩
theorem Xj.cell(h:Xj S p W0 L W){a:Addr}{v:Value}(hc:W0.cell? a=some v)(hg:S a.block):W.cell? a=some v:=(World.cell?_of_block (h _ hg).2.2).trans hc
theorem Xj.u7(h:Xj S p W0 L W){i b c:Nat}(hl:j6 W0 p i b c)(hb:S b)(hc:S c):j6 W p i b c:=⟨h.cell hl.pb hb,h.cell hl.pc hc,(uO (h b hb).2.2).trans hl.tb,(uO (h c hc).2.2).trans hl.tc⟩
end
def fnR:Value->Option (DataW Unit×List MemPlace)
 | .func (.func k) first cap=>match first.toList,cap.toList with
  | [],[.pointer (some ⟨b,0,none⟩),.pointer (some ⟨c,0,none⟩)]=>if k=123 then some (.agg [.lit (.int .i64 (b:Nat)),.lit (.int .i64 (c:Nat))],[]) else none
  | _,_=>none
 | .nilFunc=>some (.agg [],[])
 | _=>none
theorem aP(b c:Nat):fnR (bS b c)=some (.agg [.lit (.int .i64 (b:Nat)),.lit (.int .i64 (c:Nat))],[]):=by simp[fnR,bS]
theorem pX{v:Value}{b c:Nat}{ps:List MemPlace}(h:fnR v=some (.agg [.lit (.int .i64 (b:Nat)),.lit (.int .i64 (c:Nat))],ps)):v=bS b c:=by
 unfold fnR at h;split at h
 .next k first cap =>
  split at h
  .next b' c' h1 h2 =>
   split at h
   .next hk =>
    simp at h;obtain⟨⟨h3,h4⟩,_⟩:=h;have e1:first=#[]:=zh.1 h1;have e2:cap=#[.pointer (some ⟨b',0,none⟩),.pointer (some ⟨c',0,none⟩)]:=zh.1 h2;subst hk e1 e2;have h5:b'=b:=by omega
    have h6:c'=c:=by omega
    rw[h5,h6]
   .cases h
  .cases h
 .simp at h
 .cases h
def Yz(w:World)(b n:Nat)(f:Wd->Option (Nat×Nat)):Prop :=
 ∃ D:DataW Unit,w.ownsMap prog 9 fnR b n D/\∀ m:Wd,yv D (.string m)=(f m).isSome/\∀ x,f m=some x->D.atKey (.string m) (.agg []) = .agg [.lit (.int .i64 (x.1:Nat)),.lit (.int .i64 (x.2:Nat))]
theorem Yz.lt{w:World}{b n:Nat}{f:Wd->Option (Nat×Nat)}(h:Yz w b n f):b<w.heap.size:=by
 obtain⟨D,⟨es,clock,ho,_⟩,_⟩:=h;exact(zV.1 ho).1
theorem Yz.keep{w w':World}{b n:Nat}{f:Wd->Option (Nat×Nat)}(h:Yz w b n f)(hb:w'.heap[b]? = w.heap[b]?):Yz w' b n f:=by
 obtain⟨D,⟨es,clock,ho,rest⟩,h2⟩:=h;exact⟨D,⟨es,clock,hb.trans ho,rest⟩,h2⟩
theorem Yz.fr{w w':World}{F F':Nat->Prop}{b n:Nat}{f:Wd->Option (Nat×Nat)}(h:Yz w b n f)(hf:Fr F F' w w')(hb:¬F b):Yz w' b n f:=h.keep (hf.keep b h.lt hb)
theorem Yz.made(w:World):Yz (w.alloc (.map #[] 0)) w.heap.size 0 (fun _=>none):=⟨.map [],zL w _ _ _,fun m=>⟨rfl,fun x hx=>by cases hx⟩⟩
theorem Yz.look{w:World}{b n:Nat}{f:Wd->Option (Nat×Nat)}(h:Yz w b n f)(m:Wd)(hm:m.length<=5000000) :
  ∃ v,(Instr.lookup 298 (.map (some b)) (xg m) true).run prog w = .ok (.tuple #[v,.bool (f m).isSome]) w/\∀ x,f m=some x->v=bS x.1 x.2:=by
 obtain⟨D,h1,h3⟩:=h;obtain⟨v,ps,vH,hv⟩:=h1.look_ok (zG underlying9) underlying298 (z := .nilFunc) (by first|rfl|simp[go_sem]) (zd := .agg []) (zp:=[]) rfl
  (key:=xg m) (zU (s:=⟨m.toArray⟩) underlying9 (by rw[size_mk];unfold maxLen;omega))
 rw[toList_mk] at vH hv;rw[(h3 m).1] at vH;exact⟨v,vH,fun x hx=>pX (ps:=ps) (by rw[hv,(h3 m).2 x hx])⟩
theorem Yz.put{w:World}{b n:Nat}{f:Wd->Option (Nat×Nat)}(h:Yz w b n f)(m:Wd)(hm:m.length<=5000000)(x:Nat×Nat)(hn:n<=1000000000) :
  ∃ w',(zR 298 (.map (some b)) (xg m) (bS x.1 x.2)).run prog w = .ok () w'/\Yz w' b (n+1) (fun k=>if m=k then some x else f k)/\w.grownBy w' (some b):=by
 obtain⟨D,h1,h3⟩:=h;have hi:=h1.isMap;obtain⟨w',vH,xV,hg⟩:=h1.update (zG underlying9) underlying298 (by unfold maxLen;omega) (key:=xg m) (zU (s:=⟨m.toArray⟩) underlying9 (by rw[size_mk];unfold maxLen;omega)) (aP x.1 x.2);rw[toList_mk] at xV;refine⟨w',vH,⟨_,xV,fun k=>?_⟩,hg⟩;by_cases hx:m=k
 .subst hx;simp only[↓reduceIte];exact⟨by rw[zO hi (show zf (.string m) from trivial)];simp,fun y hy=>by cases hy;rw[zI hi (show zf (.string m) from trivial)]⟩
 .simp only[hx,↓reduceIte];have vy:(Lit.string k) ≠ .string m:=fun q=>hx (by cases q;rfl)
  exact⟨by rw[zM vy];exact(h3 k).1,fun y hy=>by rw[zH vy];exact(h3 k).2 y hy⟩
def XS(ks:List Wd)(k:Wd):Option Nat:=if k∈ks then some 1 else none
def Ih(ks:List Wd)(t:Nat)(key:Wd)(s:MkS)(c:Nat):MkS:=if KQ.getD c []=key\/key=qv/\KQ.getD c [] ∉ ks then s.u7 t c else s
structure St(S:Nat->Prop)(p ab am hb hm tb b c idx na nh:Nat)(ks:List Wd)(fa:Wd->Option (Nat×Nat))(w:World):Prop where
 ca:w.cell? ⟨ab,0,none⟩=some (.map (some am))
 ma:Yz w am na fa
 ch:w.cell? ⟨hb,0,none⟩=some (.map (some hm))
 mh:j5 3 w hm nh (XS ks)
 ct:w.cell? ⟨tb,0,none⟩=some (bS b c)
 l:j6 w p idx b c
 na:uS w
 s:S ab/\S am/\S hb/\S hm/\S tb/\S b/\S c/\S 0
section
variable {S:Nat->Prop} {p ab am hb hm tb b c idx na nh:Nat} {ks:List Wd} {fa:Wd->Option (Nat×Nat)} {W0 W:World} {L L':bz}
theorem St.at(h:St S p ab am hb hm tb b c idx na nh ks fa W0)(hI:Xj S p W0 L W):St S p ab am hb hm tb b c idx na nh ks fa W:=by
 obtain⟨s1,s2,s3,s4,s5,s6,s7,s8⟩:=h.s;exact⟨hI.cell h.ca s1,h.ma.keep (hI _ s2).2.2,hI.cell h.ch s3,h.mh.keep (hI _ s4).2.2,hI.cell h.ct s5,hI.u7 h.l s6 s7,fun j hj=>hI.cell (h.na j hj) s8,h.s⟩
theorem Sh(s:MkS)(x:jG)(key:Wd)(a:Nat)(ma:Option Addr)(mn mc:Nat)(BM:ux p L s W)(h:St S p ab am hb hm tb b c idx na nh ks fa W0)(hI:Xj S p W0 L W)(hk:key.length<=17)(hx:s.code[idx]? = some x)(hj:x.tg.length=6)(hs:s.sz<=900000)(hf:fa key=none) :
  Calls prog 164 #[.agg #[xg key,.int .i64 (a:Nat),.slice ma mn mc],.pointer (some ⟨ab,0,none⟩),.pointer (some ⟨hb,0,none⟩),.pointer (some ⟨tb,0,none⟩)] W (Iz p L (MkS.Il ks idx key s) W):=by
 obtain⟨A,hA⟩:=xX (W.alloc (.cells #[xg key,.int .i64 (a:Nat),.slice ma mn mc] 183));have fA:Fr xI xI W A:=by rw[<-hA];exact(Fr.refl _ _).alloc _
 have hIA:=hI.al fA (fun _ q=>q.elim);have Sw:=h.at hIA;have aH:=BM.fr fA (fun _ q=>q.elim);have cA:=xu W #[xg key,.int .i64 (a:Nat),.slice ma mn mc] 183 (0,0) 0;obtain⟨v,VE,-⟩:=Sw.ma.look key (by omega);rw[hf] at VE;have c1:=Sw.ca;have n0:=Sw.na 0 (by omega);have n1:=Sw.na 1 (by omega);have n2:=Sw.na 2 (by omega);have n3:=Sw.na 3 (by omega);have n4:=Sw.na 4 (by omega);have n5:=Sw.na 5 (by omega);simp only[ZK,List.getD_cons_zero,List.getD_cons_succ] at n0 n1 n2 n3 n4 n5;have hmW:=fun {g:Nat} (hg:L.has p g)=>BM.lt hg
 have HI:=z7 hI;have HH:=z7 h;have HM:=z7 aH;have Rb:=z7 fA;have HIA:=z7 hIA;have HX:=z7 hx;obtain⟨R,hR⟩:=xX (MkS.Il ks idx key s);rw[hR];have HR:=z7 (show(zE 6).foldl (Ih ks idx key) s=R from hR);subst hA;clear hI h BM fA hIA Sw aH hx hR hf;go_enter func164,ntmps164;go_wp2_with fail;go_loopw [20] (fun jv wr=>∃ j s',jv = .int .i64 (j:Nat)/\j<=6/\s'=(zE j).foldl (Ih ks idx key) s/\ux p L s' wr/\Fr (L.has p) (L.has p) W wr/\Xj S p W0 L wr/\s.le s'/\s'.sz=s.sz/\wr.cell? ⟨W.heap.size,0,none⟩=some (xg key)) (fun jv _=>6 - (intOf jv).toNat)
 case atStart=>exact⟨0,s,rfl,by omega,rfl,HM.out,Rb.out.wide (fun _ q=>q.elim),HIA.out,s.le_refl,rfl,cA⟩
 case round =>
  clear cA c1 VE n0 n1 n2 n3 n4 n5;obtain⟨j,s',rfl,hj6,A9,o7,hf',Mh,hle,qc,Az⟩:=hrel;have hP':=HH.out.at Mh;have nW:¬L.has p W.heap.size:=fun q=>by have:=HM.out;have h2:=hmW q;omega
  obtain⟨y,hy,hyt⟩:=hle _ _ HX.out;have HS':=z7 A9;have HM':=z7 o7;have HF':=z7 hf';have HI':=z7 Mh;have aR:=z7 hle;have dJ:=z7 qc;by_cases xB:j<6
  .obtain⟨t,ht⟩:=xX (KQ.getD j []);have Iw:∀ W:World,(Instr.index 138 (.agg #[.string ⟨#[122,101,114,111]⟩,.string ⟨#[111,110,101]⟩,.string ⟨#[116,119,111]⟩,.string ⟨#[102,101,119]⟩,.string ⟨#[109,97,110,121]⟩,.string ⟨#[111,116,104,101,114]⟩]) (.int .i64 (j:Int))).run prog W = .ok (xg t) W:=by
    rw[<-ht];match j,xB with
    | 0,_=>exact fun W=>by kernel_rfl
    | 1,_=>exact fun W=>by kernel_rfl
    | 2,_=>exact fun W=>by kernel_rfl
    | 3,_=>exact fun W=>by kernel_rfl
    | 4,_=>exact fun W=>by kernel_rfl
    | 5,_=>exact fun W=>by kernel_rfl
   have G7:t.length<=5:=by
    rw[<-ht];match j,xB with
    | 0,_=>decide
    | 1,_=>decide
    | 2,_=>decide
    | 3,_=>decide
    | 4,_=>decide
    | 5,_=>decide
   have ch:=hP'.ch;have ct:=hP'.ct;have VE:=hP'.mh.Kt Ku t (by omega);have kz:=z7 (show(zE (j+1)).foldl (Ih ks idx key) s=Ih ks idx key s' j by rw[List.range_succ,List.foldl_append,<-A9];rfl);have HCG:=z7 (show Ih ks idx key s' j=if t=key\/key=qv/\t ∉ ks then s'.u7 idx j else s' by unfold Ih;rw[ht]);have Zd:s'.code.length<=900000:=by unfold MkS.sz at qc hs;omega
   have Ay:=z7 (Uo p L s' idx j b c y wr o7 hP'.l hy (by omega) (by omega) (by omega));have k3:(j:Int)<6:=by omega
   clear o7 hf' Mh hP' hle A9 ht;by_cases E9:t=key\/key=qv/\t ∉ ks
   .have HG:=z7 (show(zE (j+1)).foldl (Ih ks idx key) s=s'.u7 idx j by rw[kz.out,HCG.out,if_pos E9]);rcases (show t=key\/¬t=key/\key=qv/\t ∉ ks by by_cases q:t=key;exact .inl q;exact .inr ⟨q,E9.resolve_left q⟩) with ha|⟨ha,hb,hc⟩
    .have kA:(t==key)=true:=by simp[ha]
     clear ha E9;go_wp2_with fail;refine Ay.out.mono ?_;rintro e w3 ⟨rfl,Jz,gQ⟩;have DO:=z7 Jz;have U3:=z7 gQ;have zud:=gQ.cell Az nW;clear Jz gQ Ay;go_wp2;go_roundw
     case rel=>exact⟨j+1,s'.u7 idx j,by go_num,by omega,HG.out.symm,DO.out,HF'.out.trans U3.out,HI'.out.fr U3.out,MkS.le_trans aR.out (s'.ZC _ _),by rw[gP];exact dJ.out,zud⟩
     case measure=>simp only[intOf];omega
    .have kA:(t==key)=false:=by simp[ha]
     have kB:(key==[111,116,104,101,114])=true:=by rw[hb];decide
     rw[show XS ks t=none from if_neg hc] at VE;clear ha hb hc E9;go_wp2_with fail;refine Ay.out.mono ?_;rintro e w3 ⟨rfl,Jz,gQ⟩;have DO:=z7 Jz;have U3:=z7 gQ;have zud:=gQ.cell Az nW;clear Jz gQ Ay;go_wp2;go_roundw
     case rel=>exact⟨j+1,s'.u7 idx j,by go_num,by omega,HG.out.symm,DO.out,HF'.out.trans U3.out,HI'.out.fr U3.out,MkS.le_trans aR.out (s'.ZC _ _),by rw[gP];exact dJ.out,zud⟩
     case measure=>simp only[intOf];omega
   .have HG:=z7 (show(zE (j+1)).foldl (Ih ks idx key) s=s' by rw[kz.out,HCG.out,if_neg E9]);have ha:¬t=key:=fun q=>E9 (.inl q)
    have kA:(t==key)=false:=by simp[ha]
    by_cases hb:key=qv
    .have hc:t∈ks:=Classical.byContradiction fun q=>E9 (.inr ⟨hb,q⟩)
     have kB:(key==[111,116,104,101,114])=true:=by rw[hb];decide
     rw[show XS ks t=some 1 from if_pos hc] at VE;clear ha hb hc E9;go_wp2;go_roundw
     case rel=>exact⟨j+1,s',by go_num,by omega,HG.out.symm,HM'.out,HF'.out,HI'.out,aR.out,dJ.out,Az⟩
     case measure=>simp only[intOf];omega
    .have kB:(key==[111,116,104,101,114])=false:=by simpa[qv] using hb
     clear ha hb E9;go_wp2;go_roundw
     case rel=>exact⟨j+1,s',by go_num,by omega,HG.out.symm,HM'.out,HF'.out,HI'.out,aR.out,dJ.out,Az⟩
     case measure=>simp only[intOf];omega
  .have fL:=z7 (show s'=R by rw[A9,show j=6 by omega];exact HR.out);have k3:¬(j:Int)<6:=by omega
   clear o7 hf' Mh hP' hle A9;go_wp2;refine bodyPost_ret (v := .tuple #[]) ?_ rfl ?_
   .simp[results,results164,go_sem]
   rw[<-fL.out];exact⟨rfl,HM'.out,HF'.out⟩
theorem T4(s:MkS)(x:jG)(key:Wd)(a:Nat)(ma:Option Addr)(mn mc:Nat)(b1 c1 i1:Nat)(BM:ux p L s W)(h:St S p ab am hb hm tb b c idx na nh ks fa W0)(hI:Xj S p W0 L W)(hk:key.length<=17)(hl:j6 W0 p i1 b1 c1)(xG:S b1)(qK:S c1)(hx:s.code[i1]? = some x)(hj:x.tg.length=1)(hs:s.sz<=900000)(hf:fa key=some (b1,c1)) :
  Calls prog 164 #[.agg #[xg key,.int .i64 (a:Nat),.slice ma mn mc],.pointer (some ⟨ab,0,none⟩),.pointer (some ⟨hb,0,none⟩),.pointer (some ⟨tb,0,none⟩)] W (Iz p L (s.u7 i1 0) W):=by
 obtain⟨A,hA⟩:=xX (W.alloc (.cells #[xg key,.int .i64 (a:Nat),.slice ma mn mc] 183));have fA:Fr xI xI W A:=by rw[<-hA];exact(Fr.refl _ _).alloc _
 have hIA:=hI.al fA (fun _ q=>q.elim);have Sw:=h.at hIA;have aH:=BM.fr fA (fun _ q=>q.elim);have cA:=xu W #[xg key,.int .i64 (a:Nat),.slice ma mn mc] 183 (0,0) 0;obtain⟨v,VE,hv⟩:=Sw.ma.look key (by omega);obtain rfl:=hv _ hf;rw[hf] at VE;have pV:=Sw.ca;have Zd:s.code.length<=900000:=by unfold MkS.sz at hs;omega
 have Ay:=z7 (Uo p L s i1 0 b1 c1 x A aH (hIA.u7 hl xG qK) hx (by omega) (by omega) (by omega));have Rb:=z7 fA;subst hA;clear hI h BM fA hIA Sw aH hx hf hv hl;go_enter func164,ntmps164;go_wp2_with fail;refine Ay.out.mono ?_;rintro e w3 ⟨rfl,Jz,gQ⟩;have DO:=z7 Jz;have U3:=z7 gQ;clear Jz gQ Ay;go_wp2;refine bodyPost_ret (v := .tuple #[]) ?_ rfl ?_
 .simp[results,results164,go_sem]
 exact⟨rfl,DO.out,(Rb.out.wide (fun _ q=>q.elim)).trans U3.out⟩
end
abbrev XT:=List (Wd×Nat×Nat×Nat)
def XT.fn(al:XT)(k:Wd):Option (Nat×Nat):=(al.lookup k).map (·.2)
def XT.ix(al:XT):List (Wd×Nat):=al.map fun e=>(e.1,e.2.1)
theorem BO:∀ (al:XT) (k:Wd),al.ix.lookup k=(al.lookup k).map (·.1)
 | [],_=>rfl
 |(k1,i,bc)::al,k=>by
  have:=BO al k;simp only[XT.ix,List.map_cons,zD] at this |-
  split<;>simp_all
theorem Fy:∀ (al:XT) (k:Wd) (x:Nat×Nat×Nat),al.lookup k=some x->(k,x)∈al
 | [],_,_,h=>by cases h
 |(k1,y)::al,k,x,h=>by
  simp only[zD] at h;split at h
  .next hk=>cases h;rw[eq_of_beq hk];exact ze
  .exact zc _ (Fy al k x h)
theorem L0(al:XT)(m k:Wd)(x:Nat×Nat×Nat)(h:∀ e∈al,e.1≠m):(al++[(m,x)]).lookup k=if m=k then some x else al.lookup k:=by
 induction al with
 | nil =>
  simp only[List.nil_append,zD,List.lookup_nil];by_cases hk:m=k
  .simp[hk]
  .rw[if_neg hk,show(k==m)=false by simpa using fun e=>hk e.symm]
 | cons a al ih =>
  obtain⟨k1,y⟩:=a;have h1:k1≠m:=h (k1,y) ze;have ih:=ih (fun e he=>h e (zc _ he));simp only[List.cons_append,zD];by_cases hk:k=k1
  .subst hk;rw[if_neg (fun e=>h1 e.symm)];simp
  .rw[show(k==k1)=false by simpa using hk];exact ih
theorem O8{ks:List Wd}{k:Wd}:(fun x=>if k=x then some 1 else XS ks x)=XS (ks++[k]):=by
 funext x;unfold XS;by_cases hx:k=x
 .simp[hx]
 .have:¬x=k:=fun e=>hx e.symm
  simp[hx,this]
structure YT(N p ab am hb hm:Nat)(pre:List Wd)(al:XT)(s:MkS)(L:bz)(w:World):Prop where
 ca:w.cell? ⟨ab,0,none⟩=some (.map (some am))
 ma:Yz w am al.length al.fn
 ch:w.cell? ⟨hb,0,none⟩=some (.map (some hm))
 mh:j5 3 w hm pre.length (XS pre)
 lo:N<=ab/\N<=am/\N<=hb/\N<=hm
 out:¬L.has p ab/\¬L.has p am/\¬L.has p hb/\¬L.has p hm
 ne:ab≠am/\ab≠hm/\am≠hb/\am≠hm/\hb≠hm
 lp:∀ e∈al,j6 w p e.2.1 e.2.2.1 e.2.2.2/\¬L.has p e.2.2.1/\¬L.has p e.2.2.2/\∃ y,s.code[e.2.1]? = some y/\y.tg.length=1
 ks:∀ e∈al,e.1∈pre
section
variable {N p ab am hb hm:Nat} {pre:List Wd} {al:XT} {s s':MkS} {L L':bz} {w w':World}
theorem YT.lt(h:YT N p ab am hb hm pre al s L w):ab<w.heap.size/\am<w.heap.size/\hb<w.heap.size/\hm<w.heap.size:=⟨zx w _ h.ca,h.ma.lt,zx w _ h.ch,h.mh.lt⟩
theorem YT.fr(h:YT N p ab am hb hm pre al s L w)(hf:Fr (L.has p) (L'.has p) w w')(hs:s.le s'):YT N p ab am hb hm pre al s' L' w':=by
 obtain⟨o1,o2,o3,o4⟩:=h.out;obtain⟨l1,l2,l3,l4⟩:=h.lt;have no:∀ g,¬L.has p g->g<w.heap.size->¬L'.has p g:=fun g a b q=>(hf.fp g q).elim a (by omega)
 refine⟨hf.cell h.ca o1,h.ma.fr hf o2,hf.cell h.ch o3,h.mh.fr hf o4,h.lo,⟨no _ o1 l1,no _ o2 l2,no _ o3 l3,no _ o4 l4⟩,h.ne,fun e he=>?_,h.ks⟩;obtain⟨a,b,c,y,d,e2⟩:=h.lp e he;obtain⟨y2,d2,e3⟩:=hs _ y d;exact⟨a.fr hf b c,no _ b a.lt.1,no _ c a.lt.2,y2,d2,e3.trans e2⟩
theorem YT.al'{F F':Nat->Prop}(h:YT N p ab am hb hm pre al s L w)(hf:Fr F F' w w')(hF:∀ g,F g->w.heap.size<=g):YT N p ab am hb hm pre al s L w':=by
 obtain⟨l1,l2,l3,l4⟩:=h.lt;have nf:∀ g,g<w.heap.size->¬F g:=fun g a q=>by have:=hF g q;omega
 refine⟨hf.cell h.ca (nf _ l1),h.ma.fr hf (nf _ l2),hf.cell h.ch (nf _ l3),h.mh.fr hf (nf _ l4),h.lo,h.out,h.ne,fun e he=>?_,h.ks⟩;obtain⟨a,b,c,d⟩:=h.lp e he;exact⟨a.fr hf (nf _ a.lt.1) (nf _ a.lt.2),b,c,d⟩
theorem YT.ud{m:Nat}(h:YT N p ab am hb hm pre al s L w)(hg:w.grownBy w' (some m))(hm:Vc w m=none):∀ e∈al,j6 w' p e.2.1 e.2.2.1 e.2.2.2/\¬L.has p e.2.2.1/\¬L.has p e.2.2.2/\∃ y,s.code[e.2.1]? = some y/\y.tg.length=1:=fun e he=>by
 obtain⟨a,b,c,d⟩:=h.lp e he;have hf:Fr (fun k=>k=m) (fun k=>k=m) w w':=⟨hg.os,hg.tape,hg.output,hg.size,fun k hk hn=>hg.block k hk (fun e=>hn (zv e)),fun _ q => .inl q⟩;exact⟨a.fr hf (fun e=>by have:=a.tb;rw[e,hm] at this;cases this) (fun e=>by have:=a.tc;rw[e,hm] at this;cases this),b,c,d⟩
theorem aS{w:World}{b n:Nat}{f:Wd->Option (Nat×Nat)}(h:Yz w b n f):Vc w b=none:=by
 obtain⟨D,⟨es,clock,ho,_⟩,_⟩:=h;simp[Vc,ho]
theorem YT.key{k:Wd}(h:YT N p ab am hb hm pre al s L w)(jA:j5 3 w' hm (pre.length+1) (fun x=>if k=x then some 1 else XS pre x))(hg:w.grownBy w' (some hm)):YT N p ab am hb hm (pre++[k]) al s L w':=by
 have hf:Fr (fun k=>k=hm) (fun k=>k=hm) w w':=⟨hg.os,hg.tape,hg.output,hg.size,fun k hk hn=>hg.block k hk (fun e=>hn (zv e)),fun _ q => .inl q⟩;obtain⟨n1,n2,n3,n4,n5⟩:=h.ne;rw[O8] at jA;exact⟨hf.cell h.ca n2,h.ma.fr hf n4,hf.cell h.ch n5,by simpa using jA,h.lo,h.out,h.ne,h.ud hg (YE h.mh),fun e he=>List.mem_append_left _ (h.ks e he)⟩
theorem YT.ask{k:Wd}{i b c:Nat}{y:jG}(h:YT N p ab am hb hm pre al s L w)(hk:k∈pre)(hn:∀ e∈al,e.1≠k)(jA:Yz w' am (al.length+1) (fun x=>if k=x then some (b,c) else al.fn x))(hg:w.grownBy w' (some am))
  (hl:j6 w p i b c) (ob:¬L.has p b) (oc:¬L.has p c) (hy:s.code[i]? = some y) (h1:y.tg.length=1):YT N p ab am hb hm pre (al++[(k,i,b,c)]) s L w':=by
 have hf:Fr (fun k=>k=am) (fun k=>k=am) w w':=⟨hg.os,hg.tape,hg.output,hg.size,fun k hk hn=>hg.block k hk (fun e=>hn (zv e)),fun _ q => .inl q⟩;obtain⟨n1,n2,n3,n4,n5⟩:=h.ne;have MW:=aS h.ma;have e1:(fun x=>if k=x then some (b,c) else al.fn x)=XT.fn (al++[(k,i,b,c)]):=by
  funext x;unfold XT.fn;rw[L0 al k x _ hn];split<;>rfl
 rw[e1] at jA;refine⟨hf.cell h.ca n1,by simpa using jA,hf.cell h.ch n3.symm,h.mh.fr hf (fun e=>n4 e.symm),h.lo,h.out,h.ne,fun e he=>?_,fun e he=>?_⟩
 .rcases zS.1 he with he|he
  .exact h.ud hg MW e he
  .simp at he;subst he;exact⟨hl.fr hf (fun e=>by have:=hl.tb;rw[e,MW] at this;cases this) (fun e=>by have:=hl.tc;rw[e,MW] at this;cases this),ob,oc,y,hy,h1⟩
 .rcases zS.1 he with he|he
  .exact h.ks e he
  .simp at he;subst he;exact hk
end
def plG(ks:List Wd)(ix:List (Wd×Nat))(t:Nat)(k:Wd)(x:MkS):MkS :=
 match ix.lookup k with
 | some i=>x.u7 i 0
 | none=>MkS.Il ks t k x
def O9(ab am hb hm tb b c:Nat)(al:XT)(g:Nat):Prop:=g=ab\/g=am\/g=hb\/g=hm\/g=tb\/g=b\/g=c\/g=0\/∃ e∈al,g=e.2.2.1\/g=e.2.2.2
theorem pU{N p ab am hb hm idx b c:Nat}{pre:List Wd}{al:XT}{s:MkS}{L:bz}{w wT:World}{x:jG}(h:YT N p ab am hb hm pre al s L w)(hl:j6 w p idx b c)(ob:¬L.has p b)(oc:¬L.has p c)(hna:uS w)(hB:0<L.B)(BM:ux p L s w)
  (hx:s.code[idx]? = some x) (wk:x.tg.length=6) (hk:∀ k∈pre,k.length<=17) (hT:w.alloc (.cells #[bS b c] 189)=wT) :
  zuz wT.heap.size p s pre (plG pre al.ix idx) (.func (.func 164) #[] #[.pointer (some ⟨ab,0,none⟩),.pointer (some ⟨hb,0,none⟩),.pointer (some ⟨w.heap.size,0,none⟩)]) (fun L W=>Xj (O9 ab am hb hm w.heap.size b c al) p wT L W)/\Xj (O9 ab am hb hm w.heap.size b c al) p wT L wT:=by
 have O7:Fr xI xI w wT:=by rw[<-hT];exact(Fr.refl _ _).alloc _
 have hcT:=xu w #[bS b c] 189 (0,0) 0;rw[hT] at hcT;have hsT:wT.heap.size=w.heap.size+1:=by rw[<-hT];simp
 have hp:=h.al' O7 (fun _ q=>q.elim);obtain⟨l1,l2,l3,l4⟩:=h.lt;obtain⟨o1,o2,o3,o4⟩:=h.out;have ll:=hl.lt;have UR:=BM.base;refine⟨⟨⟨_,_,rfl,fun args w=>by first|rfl|simp[callFunc],fun L' s' W key a ma mn mc o7 hI hle qc JW=>?_⟩,fun L L' W W' h hf=>h.fr hf,fun L W W' F F' h hf hF=>h.al hf hF,fun k x=>?_⟩,fun g hg=>?_⟩
 .have hP:St (O9 ab am hb hm w.heap.size b c al) p ab am hb hm w.heap.size b c idx al.length pre.length pre al.fn wT :=
   ⟨hp.ca,hp.ma,hp.ch,hp.mh,hcT,hl.fr O7 id id,fun j hj=>O7.cell (hna j hj) id,.inl rfl,.inr (.inl rfl),.inr (.inr (.inl rfl)),.inr (.inr (.inr (.inl rfl))),.inr (.inr (.inr (.inr (.inl rfl)))),.inr (.inr (.inr (.inr (.inr (.inl rfl))))),.inr (.inr (.inr (.inr (.inr (.inr (.inl rfl)))))),.inr (.inr (.inr (.inr (.inr (.inr (.inr (.inl rfl))))))) ⟩
  have pj:=hk key JW;unfold plG;rw[BO]
  cases uN:al.lookup key with
  | none =>
   obtain⟨y,hy,hyt⟩:=hle _ x hx;exact Sh s' y key a ma mn mc o7 hP hI pj hy (hyt.trans wk) qc (by unfold XT.fn;rw[uN];rfl)
  | some e =>
   obtain⟨i1,b1,c1⟩:=e;have T5:=Fy al key _ uN;obtain⟨q1,q2,q3,y0,q4,q5⟩:=hp.lp _ T5;obtain⟨y,hy,hyt⟩:=hle _ y0 q4;exact T4 s' y key a ma mn mc b1 c1 i1 o7 hP hI pj q1 (.inr (.inr (.inr (.inr (.inr (.inr (.inr (.inr ⟨_,T5,.inl rfl⟩)))))))) (.inr (.inr (.inr (.inr (.inr (.inr (.inr (.inr ⟨_,T5,.inr rfl⟩)))))))) hy (hyt.trans q5) qc (by unfold XT.fn;rw[uN];rfl)
 .unfold plG;split
  .exact⟨x.ZC _ _,gP _ _ _⟩
  .exact MkS.aK _ _ _ _
 .have Hz:∀ k,L.has p k->L.B<=k:=BM.lo;rcases hg with rfl|rfl|rfl|rfl|rfl|rfl|rfl|rfl|⟨e,he,rfl|rfl⟩
  .exact⟨by omega,o1,rfl⟩
  .exact⟨by omega,o2,rfl⟩
  .exact⟨by omega,o3,rfl⟩
  .exact⟨by omega,o4,rfl⟩
  .exact⟨by omega,fun q=>by have:=BM.lt q;omega,rfl⟩
  .exact⟨by omega,ob,rfl⟩
  .exact⟨by omega,oc,rfl⟩
  .exact⟨by omega,fun q=>by have:=Hz _ q;omega,rfl⟩
  .obtain⟨q1,q2,q3,-⟩:=h.lp e he;exact⟨by have:=q1.lt;omega,q2,rfl⟩
  .obtain⟨q1,q2,q3,-⟩:=h.lp e he;exact⟨by have:=q1.lt;omega,q3,rfl⟩
theorem T6{p:Nat}{L:bz}{s:MkS}{w:World}(h:ux p L s w)(N:Nat)(hN:N<=w.heap.size) :
  ∃ W,W=(((w.alloc (.map #[] 0)).alloc (.cells #[.map (some w.heap.size)] 185)).alloc (.map #[] 0)).alloc (.cells #[.map (some (w.heap.size+2))] 298) /\
   YT N p (w.heap.size+3) (w.heap.size+2) (w.heap.size+1) w.heap.size [] [] s L W/\Fr xI xI w W:=by
 obtain⟨A,hA⟩:=xX (w.alloc (.map #[] 0));have sA:A.heap.size=w.heap.size+1:=by rw[<-hA];simp
 have mA:=j5.made 3 w;have fA:Fr xI xI w A:=by rw[<-hA];exact(Fr.refl _ _).alloc _
 rw[hA] at mA |-
 clear hA;obtain⟨B,hB⟩:=xX (A.alloc (.cells #[.map (some w.heap.size)] 185));have sB:B.heap.size=w.heap.size+2:=by rw[<-hB];simp[sA]
 have cB:=xu A #[.map (some w.heap.size)] 185 (0,0) 0;have fB:Fr xI xI A B:=by rw[<-hB];exact(Fr.refl _ _).alloc _
 rw[hB,sA] at cB;rw[hB];clear hB;obtain⟨C,hC⟩:=xX (B.alloc (.map #[] 0));have mC:=Yz.made B;have sC:C.heap.size=w.heap.size+3:=by rw[<-hC];simp[sB]
 have fC:Fr xI xI B C:=by rw[<-hC];exact(Fr.refl _ _).alloc _
 rw[hC,sB] at mC;rw[hC];clear hC;have fD:Fr xI xI C (C.alloc (.cells #[.map (some (w.heap.size+2))] 298)):=(Fr.refl _ _).alloc _;have f:=fC.trans fD;have no:∀ g,w.heap.size<=g->¬L.has p g:=fun g hg q=>by have:=h.lt q;omega
 have e0:XS []=fun _=>none:=by funext x;simp[XS]
 refine⟨_,rfl,⟨?_,mC.fr fD id,f.cell cB id,by rw[e0];exact mA.fr (fB.trans f) id,by omega,⟨no _ (by omega),no _ (by omega),no _ (by omega),no _ (by omega)⟩,by omega,(fun e he=>by cases he),(fun e he=>by cases he)⟩,fA.trans (fB.trans f)⟩;rw[<-sC];exact xu C #[.map (some (w.heap.size+2))] _ _ _
theorem RY(k:Wd)(h:k.head? = some 61):zF k [61]=true/\zJ k [61]=k.tail:=by
 cases k with
 | nil=>cases h
 | cons c t=>simp at h;subst h;constructor<;>simp[zF,zJ]
theorem RX(k:Wd)(h:¬k.head? = some 61):zF k [61]=false/\zJ k [61]=k:=by
 cases k with
 | nil=>constructor<;>simp[zF,zJ]
 | cons c t =>
  have hc:¬c=61:=fun e=>h (by rw[e];rfl)
  have jT:¬61=c:=fun e=>hc e.symm
  constructor<;>simp[zF,zJ,List.isPrefixOf,hc,jT]
theorem T7(l:Wd)(h:l.length<=9)(hd:l.all xF=true):xE l<=4000000000:=by
 have hb:∀ (l:Wd) (v:Nat),l.all xF=true->l.foldl (fun v c=>10*v+(c.toNat - 48)) v<(v+1)*10 ^ l.length:=by
  intro l;induction l with
  | nil=>intro v _;simp
  | cons c t ih =>
   intro v h;simp only[List.all_cons,zk] at h;have hc:=(vW c).1 h.1;have:=ih (10*v+(c.toNat - 48)) h.2;rw[List.foldl_cons,zP];refine zl this ?_;have h3:10*v+(c.toNat - 48)+1<=(v+1)*10:=by omega
   calc (10*v+(c.toNat - 48)+1)*10 ^ t.length<=((v+1)*10)*10 ^ t.length:=Nat.mul_le_mul_right _ h3
    _=(v+1)*10 ^ (t.length+1):=by rw[Nat.pow_succ,Nat.mul_assoc,Nat.mul_comm 10]
 have h1:=hb l 0 hd;have h2:10 ^ l.length<=10 ^ 9:=Nat.pow_le_pow_right (by decide) h;have h3:(10:Nat) ^ 9=1000000000:=by decide
 unfold xE;omega
theorem Oz{lo hi:Nat}{w0:World}(b0:Nat)(n:Wd)(a fo:Nat)(of:Wd)(cl:Nat)(bs:Fo)(p:Nat)(L:bz)(s:MkS)(w:World)
  (ih:∀ m:Fo,zy m<zy bs->Ip lo hi w0 m) (h:ux p L s w) (he:YS lo hi w0 L.B w) (Jj:fo≠0)
  (XQ:xZ lo hi w0 [.iface 177 (.pointer (some ⟨b0,0,none⟩))] (.br n a fo of cl bs .nil)) (hc:(Fo.br n a fo of cl bs .nil).UW) (Vr:(Fo.br n a fo of cl bs .nil).wf 2000000=true) (hs:s.sz+(40+bs.cw)<=900000) :
  Calls prog 122 #[.pointer (some ⟨p,0,none⟩),.pointer (some ⟨b0,0,none⟩)] w (MQ p L ((Qf bs (MkS.jE n of bs s) (MkS.qM n of fo bs s)).put 5 0 [] []) w):=by
 have GM:=@run_makeMap prog;have HND:=z7 XQ;obtain⟨vt,b',ba,bc,ws,Nw,xG,xJ,ff,qK,jT,Mp,BI,Mr,KB,UR,_⟩:=XQ
 cases Nw;obtain⟨oh,A4,R6,hL,aN,wV,Dn,-⟩:=hc;have ZJ:(decide (n.length<=4000001) && decide (fo<3) && bs.uk && decide (bs.len<=2000000) && bs.wf 2000000 && Fo.nil.wf 2000000)=true:=Vr;simp only[zk,decide_eq_true_eq] at ZJ;obtain⟨⟨⟨-,Dw⟩,qB⟩,-⟩:=ZJ;have c0:=xA he.keep ff xG xJ;have c1:=xA he.keep qK xG xJ;have c2:=xA he.keep Mp xG xJ;have c4:=xA he.keep BI xG xJ;have c3:=xA he.keep jT xG xJ;have qc:s.cs.length<=900000/\s.code.length<=900000/\s.pos<=900000:=by unfold MkS.sz at hs;omega
 have HC:=z7 (Vf p L s n w.drew h.drew (by omega) (by omega));have HH:=z7 h;have HE:=z7 he;have Gu:=z7 KB;have ot:=z7 UR;have HL:=z7 hL;have O0:=z7 aN;have HKS:=z7 wV;have HBC:=z7 Dn;have Im:=z7 qB;have om:=z7 ih;have HS:=z7 hs;obtain⟨M,hM⟩:=xX bs.len;have HM:=z7 hM;rw[hM] at c4 Dw;obtain⟨k0,E0⟩:=xX (s.num n);rw[E0] at HC;have RZ:=z7 E0;obtain⟨ov,zub⟩:=xX (xE of);rw[zub] at c2 R6;have HOV:=z7 zub;clear h he KB UR hL aN wV Dn qB ih hs hM ff qK jT Mp BI Mr E0 Vr zub;go_enter func122,ntmps122;go_wp2_with fail;refine rt (fun W':World=>W'.cell? ⟨b0,0,none⟩=some (xg n)/\W'.cell? ⟨b0,3,none⟩=some (.int .i64 ov)) [0,1,2,3,4,5,6,9,10,11,12] 4 ⟨c0,c2⟩ ?_;(iterate 11 (refine ty ?_;try simp only[pl]))
 refine xq ?_;refine jx 7 (fun J hJ=>?_);go_simp;refine HC.out.mono ?_;rintro e w1 ⟨rfl,L1,Vl,⟨UP,XF⟩,ug⟩;clear HC;have ug:=ug.und;have nb0:¬L.has p b0:=fun q=>by have:=HH.out.lo _ q;have:=HE.out.hB;omega
 have d0:=ug.cell c0 nb0;have d2:=ug.cell c2 nb0;refine hJ.out _ _ ⟨d0,d2⟩ fun _=>?_
 clear hJ J;refine jx 8 (fun J hJ=>?_);go_simp;refine hJ.out _ _ ⟨xQ d0 _,xQ d2 _⟩ fun _=>?_
 clear hJ J;refine VA [13] 1 ⟨xQ d0 _,xQ d2 _⟩ ?_;refine ty ?_;try simp only[pl]
 refine xq ?_;refine jx 14 (fun J hJ=>?_);go_simp;have DW:=qj.lit w1 [k0] (by simp);have zmy:=Vl.alloc (.cells (Zb [k0]).toArray 3);obtain⟨z1,z2,z3⟩:=vY s n;have hk9:k0<=900000:=by have:=CE s n;have:=RZ.out;omega
 have dM:(uJ ⟨4,(s.const n).pos,ov,[k0],[]⟩).length=7:=by simp[uJ,fZ,jZ,jb,XJ]
 have hF1:gy (w1.alloc (.cells (Zb [k0]).toArray 3)):=(HE.out.fo.fr ug HH.out.lo HE.out.g1).fr ((Fr.refl xI w1).alloc _) (fun _ q=>q.elim) HE.out.g1;have HP:=z7 (bq p L1 (s.const n) 4 ov [k0] [] (.slice (some ⟨w1.heap.size,0,none⟩) 1 1) (.slice none 0 0) (w1.alloc (.cells (Zb [k0]).toArray 3)) zmy DW (qj.nil _) (fun g hg q=>by cases hg;exact zZ _ (Vl.lt q)) (fun g hg=>by cases hg) (fun g hg=>by cases hg)
  (fun g hg=>by rcases hg with hg|hg<;>cases hg;have:=Vl.base;show L1.B<=w1.heap.size;omega)
  ⟨(by decide:4<12),by show ov<=_;omega,by simp;omega,by simp,by simp,rfl⟩ hF1 (by rw[XF];exact HE.out.g1) (by rw[z2];omega) (by rw[z3];omega) (by rw[dM];omega))
 refine HP.out.mono ?_;rintro e w2 ⟨bx,cx,rfl,-,-,-,L2,jA,⟨kh,Kw⟩,vU,-,-⟩;have fA:Fr xI xI w1 (w1.alloc (.cells (Zb [k0]).toArray 3)):=(Fr.refl _ _).alloc _;have F2:Fr (L.has p) (L2.has p) w w2:=(ug.trans (fA.wide (fun _ q=>q.elim))).tr vU (fun q hq=>by
  rcases hq with hq|hq|hq
  .exact ug.fp q hq
  .cases hq;exact .inr ug.size
  .cases hq)
 obtain⟨s2,qf⟩:=xX ((s.const n).put 4 ov [k0] []);have Qw:s2.sz<=s.sz+9:=by rw[<-qf,gu,dM];omega
 rw[qf] at jA;have d0:=F2.cell c0 nb0;have d2:=F2.cell c2 nb0;have d4:=F2.cell (a:=⟨b0,4,none⟩) c4 nb0;have d3:=F2.cell (a:=⟨b0,2,none⟩) c3 nb0;refine hJ.out _ _ ⟨d0,d2⟩ fun _=>?_
 clear hJ J;refine b7 ?_ _;have fL:=z7 F2;have YH:=z7 jA;have bk:=z7 qf;obtain⟨W,hW,vM,GD⟩:=T6 (s:=s2) jA w.heap.size F2.size;have c4a:=fun o1 o2 o3 o4=>xQ (xQ (xQ (xQ d4 o1) o2) o3) o4
 have zmx:L2.q=L.q/\L2.B=L.B:=⟨kh.trans UP,Kw.trans XF⟩;have HQ:=z7 zmx;clear Vl zmy DW hF1 HP ug vU fA F2 jA qf UP kh XF Kw zmx dM z1 z2 z3;go_wp2_with fail;rw[show w2.heap.size+1+1+1=w2.heap.size+3 from rfl,show w2.heap.size+1+1=w2.heap.size+2 from rfl,<-hW];obtain⟨ab,hab⟩:=xX (w2.heap.size+3);obtain⟨am,ham⟩:=xX (w2.heap.size+2);obtain⟨hb,hhb⟩:=xX (w2.heap.size+1);obtain⟨hm,hhm⟩:=xX w2.heap.size;rw[hab,hhb];rw[hab,ham,hhb,hhm] at vM;obtain⟨R,hR⟩:=xX (MkS.qD bs s2 []);have HR:=z7 hR;clear hab ham hhb hhm hR hW;go_loopw [36] (fun iv wr=>∃ i us xs r s1 L3 al pre,iv = .int .i64 (i:Nat)/\i<=M/\xZ lo hi w0 xs r/\r.uk=true/\us.length=i*3/\ws=us++xs/\i+r.len=M/\bs.keys=pre++r.keys /\
  ux p L3 s1 wr/\(L3.q=L.q/\L3.B=L.B)/\Fr (L.has p) (L3.has p) w wr/\YT w.heap.size p ab am hb hm pre al s1 L3 wr/\MkS.qD r s1 al.ix=R/\pre.length=i/\al.length<=i/\s1.sz+8*r.keys.length<=899990) (fun iv _=>M - (intOf iv).toNat)
 case atStart =>
  exact⟨0,[],ws,bs,s2,L2,[],[],rfl,zY _,ot.out,HL.out,rfl,rfl,by have:=HM.out;omega,rfl,YH.out.fr GD (fun _ q=>q.elim),HQ.out,fL.out.trans (GD.wide (fun _ q=>q.elim)),vM,HR.out,rfl,zg _,by have:=HS.out;have:=Fo.YR bs;omega⟩
 case round =>
  clear vM GD c4a d0 d2 d3 d4;obtain⟨i,us,xs,r,s1,L3,al,pre,rfl,hiM,fg,ZE,Vn,Vp,kR,Qb,Jz,⟨XE,B3⟩,gQ,Oy,jc,L5,uN,uH⟩:=hrel;have wE:YS lo hi w0 L3.B wr:=by rw[B3];exact HE.out.fr gQ HH.out.lo
  have DO:=z7 Jz;have HE3:=z7 wE;have U3:=z7 gQ;have HPL:=z7 Oy;have dp:=z7 jc;have HLR:=z7 ZE;have Cs:=z7 Vn;have A6:=z7 Vp;have XU:=z7 kR;have E7:=z7 Qb;have gN:=z7 uH;have HPR:=z7 L5;by_cases xB:i<M
  .cases r with
   | nil=>exfalso;simp[Fo.len] at kR;omega
   | text t r=>cases ZE
   | hash r=>cases ZE
   | put n a r=>cases ZE
   | num n a r=>cases ZE
   | br n a fo of cl bs r=>cases ZE
   | uz k1 a0 m0 r0 =>
    obtain⟨Rk,ma,mc,ms,rfl,XR,aB,Qg⟩:=fg;obtain⟨g2,o2,rfl,e0,e1,e2⟩:=KC wE.keep Gu.out Vn Vp;have Qh:=z7 Qg;have k3:(i:Int)<(M:Int):=by omega
    have k4:decide ((i:Int)<(M:Int))=true:=by simp;omega
    have O3:Fr xI xI wr (wr.alloc (.cells #[xg k1,.int .i64 (a0:Nat),.slice ma m0.len mc] 183)):=(Fr.refl _ _).alloc _;have hpA:=Oy.al' O3 (fun _ q=>q.elim);have Ns:=XU.out;simp only[Fo.len] at Ns;have O5:=gN.out;simp only[Fo.keys,zP] at O5;have hkb:k1∈bs.keys:=by rw[E7.out];simp[Fo.keys]
    have E8:k1 ∉ pre:=fun q=>by
     have h1:=O0.out;rw[E7.out] at h1;exact(zn.1 h1).2.2 k1 q k1 (by simp[Fo.keys]) rfl
    have yd1:=z7 E8;obtain⟨pj,zq1⟩:=HKS.out k1 hkb;have VE:=hpA.mh.Kt Ku k1 (by omega);rw[show XS pre k1=none from if_neg E8] at VE;obtain⟨wp,XG,Vd,Jx⟩:=hpA.mh.put Ku k1 (by omega) 1 1 rfl (by omega) (by omega);have Jb:=z7 (hpA.key Vd Jx);have A8:Fr (fun g=>g=hm) (fun g=>g=hm) (wr.alloc (.cells #[xg k1,.int .i64 (a0:Nat),.slice ma m0.len mc] 183)) wp:=⟨Jx.os,Jx.tape,Jx.output,Jx.size,fun k hk hn=>Jx.block k hk (fun e=>hn (zv e)),fun _ q => .inl q⟩;have Ux:=hpA.ch;have o6:=z7 A8;have kec:wp.cell? ⟨wr.heap.size,0,none⟩=some (xg k1):=A8.cell (xu _ _ _ _ _) (fun e=>by have:=Oy.lt.2.2.2;simp only at e;omega);have It:=z7 ((Jz.fr O3 (fun _ q=>q.elim)).fr A8 (by rintro g rfl;exact Oy.out.2.2.2));have Ud:=z7 ((gQ.trans (O3.wide (fun _ q=>q.elim))).over A8 (by rintro g rfl;exact .inr Oy.lo.2.2.2));have Ox:=Tryz.strings_CutPrefix ⟨k1.toArray⟩ ⟨#[61]⟩ wp;rw[show(zt k1.toArray).data.toList=k1 by simp,show(zt #[61]).data.toList=[61] from rfl] at Ox;clear Jz wE gQ jc ZE Vn Vp XR aB Qg kR Qb uH L5 O3 hpA Oy E8 Vd Jx A8;by_cases hx:k1.head? = some 61
    .rw[(RY k1 hx).1,(RY k1 hx).2] at Ox;have BP:=z7 Ox;obtain⟨q1,q2,q3⟩:=zq1 Jj hx;have Qs:=z7 (Pw k1.tail wp q2 q3 q1);have HX:=z7 hx;obtain⟨kv,Ky⟩:=xX (xE k1.tail);obtain⟨kt,hkt⟩:=xX k1.tail;have xqz:kv<=4000000000:=by rw[<-Ky];exact T7 _ q2 q3
     rw[Ky,hkt] at Qs;rw[hkt] at BP;have Ov:=z7 Ky;clear Ox hx zq1 q1 q2 q3 Ky hkt;go_wp2_with fail;refine BP.out.mono ?_;rintro e w4 ⟨rfl,rfl⟩;go_wp2_with fail;refine Qs.out.mono ?_;rintro e w5 ⟨rfl,jW⟩;have f5:Fr xI xI w4 w5:=Fr.of jW;clear BP Qs XG VE Ux;have ca5:=f5.cell Jb.out.ca id;have ke5:=f5.cell kec id;go_wp2_with fail;refine rt (fun W':World=>W'.cell? ⟨ab,0,none⟩=some (.map (some am))/\W'.cell? ⟨wr.heap.size,0,none⟩=some (xg k1)) [0,1,2,3,4] 4 ⟨ca5,ke5⟩ ?_;(iterate 5 (refine ty ?_;try simp only[pl]))
     refine xq ?_;refine jx 5 (fun J hJ=>?_);obtain⟨w6,BM,hk6,ZT⟩:=VX 1 w5.drew (by omega);rw[show((1:Nat):Int)=1 from rfl] at BM;have ZT:=ZT.und;have ca6:=ZT.cell ca5 id;have ke6:=ZT.cell ke5 id;go_simp;refine hJ.out _ _ ⟨ca6,ke6⟩ fun _=>?_
     clear hJ J;refine VA [6] 2 ⟨ca6,ke6⟩ ?_;refine ty ?_;try simp only[pl]
     refine xq ?_;refine jx 7 (fun J hJ=>?_);go_simp;have f46:Fr xI xI w4 w6:=f5.trans ZT;have hm6:=It.out.fr f46 (fun _ q=>q.elim);have T8:=Jb.out.al' f46 (fun _ q=>q.elim);have B1:=O5;unfold MkS.sz at B1;have h8:(uJ ⟨7,s1.pos,kv,[],z8 1 0⟩).length=7:=by simp[uJ,fZ,jZ,jb,XJ]
     have he6:YS lo hi w0 L3.B w6:=by rw[B3];exact(HE.out.fr Ud.out HH.out.lo).fr f46 (fun _ q=>q.elim)
     have HP:=z7 (bq p L3 s1 7 kv [] (z8 1 0) (.slice none 0 0) (.slice (some ⟨w5.heap.size,0,none⟩) 1 1) w6 hm6 (qj.nil _) hk6 (fun g hg=>by cases hg) (fun g hg q=>by cases hg;have h1:=It.out.lt q;have h2:=f5.size;exact absurd h1 (by show ¬w5.heap.size<w4.heap.size;omega)) (fun g hg q=>by cases q)
      (fun g hg=>by rcases hg with hg|hg<;>cases hg;have h1:=It.out.base;have h2:=f5.size;show L3.B<=w5.heap.size;omega)
      ⟨(by decide:7<12),by show kv<=_;omega,by simp,by simp,by simp,rfl⟩ he6.fo he6.g1 (by omega) (by omega) (by omega))
     refine HP.out.mono ?_;rintro e w7 ⟨b,c,rfl,yd3,jP,hc7,L4,hm7,⟨hq7,hB7⟩,hf7,nb7,nc7⟩;have f47:Fr (L3.has p) (L4.has p) w4 w7:=(f46.wide (fun _ q=>q.elim)).tr hf7 (fun q hq=>by
      rcases hq with hq|hq|hq
      .exact .inl hq
      .cases hq
      .cases hq;exact .inr f5.size)
     have nk1:¬L3.has p wr.heap.size:=fun q=>by have:=DO.out.lt q;omega
     have ca7:=f47.cell Jb.out.ca Jb.out.out.1;have ke7:=f47.cell kec nk1;have Hj:=Jb.out.fr f47 (MkS.Z1 s1 7 kv [] (z8 1 0));obtain⟨w8,zmk,zmj,Ou⟩:=Hj.ma.put k1 (by omega) (b,c) (by omega);have HP8:=z7 (Hj.ask (k:=k1) (by simp) (fun e he q=>yd1.out (by rw[<-q];exact HPL.out.ks e he)) zmj Ou yd3 nb7 nc7 (i:=s1.code.length) (y:=⟨7,s1.pos,kv,[],z8 1 0⟩) (by simp[MkS.put]) (by simp));have wM:Fr (fun g=>g=am) (fun g=>g=am) w7 w8:=⟨Ou.os,Ou.tape,Ou.output,Ou.size,fun k hk hn=>Ou.block k hk (fun e=>hn (zv e)),fun _ q => .inl q⟩;have HM8:=z7 (hm7.fr wM (by rintro g rfl;exact Hj.out.2.1));have HF8:=z7 ((Ud.out.trans f47).over wM (by rintro g rfl;exact .inr Hj.lo.2.1));have ca8:=wM.cell ca7 Hj.ne.1;have ke8:=wM.cell ke7 (fun e=>by have:=HPL.out.lt.2.1;have e2:wr.heap.size=am:=e;omega);have hz8:=gu s1 7 kv [] (z8 1 0);refine hJ.out _ _ ⟨ca7,ke7⟩ fun _=>?_
     clear hJ J;refine jx 8 (fun J hJ=>?_);go_simp;refine hJ.out _ _ ⟨ca8,ke8⟩ fun _=>?_
     clear hJ J;refine b7 ?_ _;have hq9:=hq7;clear zmk Hj zmj Ou hm7 hf7 f47 f46 hm6 T8 he6 HP BM;go_wp2;go_roundw
     case rel =>
      refine⟨i+1,us++[xg k1,.int .i64 (a0:Nat),.slice ma m0.len mc],Rk,r0,s1.put 7 kv [] (z8 1 0),L4,al++[(k1,s1.code.length,b,c)],pre++[k1],by go_num,by omega,Qh.out,HLR.out,by simp[Cs.out];omega,by rw[A6.out];simp,by omega,by rw[E7.out];simp[Fo.keys],HM8.out,⟨hq7.trans XE,hB7.trans B3⟩,HF8.out,HP8.out,?_,by simp[HPR.out],by simp;omega,by omega⟩;have:=dp.out;rw[MkS.qD,if_pos HX.out,Ov.out] at this;simpa[XT.ix] using this
     case measure=>simp only[intOf];omega
    .rw[(RX k1 hx).1,(RX k1 hx).2] at Ox;have BP:=z7 Ox;have HX:=z7 hx;clear Ox hx zq1;go_wp2_with fail;refine BP.out.mono ?_;rintro e w4 ⟨rfl,rfl⟩;clear BP XG VE Ux;go_wp2;go_roundw
     case rel =>
      refine⟨i+1,us++[xg k1,.int .i64 (a0:Nat),.slice ma m0.len mc],Rk,r0,s1,L3,al,pre++[k1],by go_num,by omega,Qh.out,HLR.out,by simp[Cs.out];omega,by rw[A6.out];simp,by omega,by rw[E7.out];simp[Fo.keys],It.out,⟨XE,B3⟩,Ud.out,Jb.out,?_,by simp[HPR.out],by omega,by omega⟩;have:=dp.out;rw[MkS.qD,if_neg HX.out] at this;exact this
     case measure=>simp only[intOf];omega
  .have vg:r.keys=[]/\MkS.qD r s1 al.ix=(s1,al.ix):=by
    cases r with
    | nil=>exact⟨rfl,rfl⟩
    | text t r=>cases ZE
    | hash r=>cases ZE
    | put n a r=>cases ZE
    | num n a r=>cases ZE
    | br n a fo of cl bs r=>cases ZE
    | uz k0 a0 m0 r0=>exfalso;simp only[Fo.len] at kR;omega
   have pQ:MkS.kP n of bs s=(s1,al.ix):=by
    unfold MkS.kP;rw[RZ.out,HOV.out,bk.out,HR.out];exact jc.symm.trans vg.2
   have JZ:=z7 pQ;have HK1:=z7 (show bs.keys=pre by rw[Qb,vg.1];simp);have k3:¬(i:Int)<(M:Int):=by omega
   have k4:decide ((i:Int)<(M:Int))=false:=by simp;omega
   obtain⟨wm,BM,pY,XV⟩:=VX 6 wr (by omega);rw[show((6:Nat):Int)=6 from rfl] at BM;have zmg:=Jz.fr XV (fun _ q=>q.elim);have hem:=wE.fr XV (fun _ q=>q.elim);have hpm:=Oy.al' XV (fun _ q=>q.elim);have f3m:Fr (L.has p) (L3.has p) w wm:=gQ.trans (XV.wide (fun _ q=>q.elim));have c3m:=gQ.cell (a:=⟨b0,2,none⟩) c3 nb0;have HMM:=z7 zmg;have HEM:=z7 hem;have HPM:=z7 hpm;have H3M:=z7 f3m;have HKM:=z7 pY;have HFM:=z7 XV;have B1:=uH;unfold MkS.sz at B1;have hs9:s1.sz<=899990:=by omega
   obtain⟨op,uM⟩:=xX ((if fo=2 then 9 else 8));have HSS:=z7 (show s1.put op 0 [] (z8 6 0)=MkS.qM n of fo bs s by unfold MkS.qM;rw[pQ,uM]);have lwr:=Jz.base.2;clear Jz wE gQ Oy jc ZE Vn Vp kR Qb uH fg vg L5 pQ zmg hem hpm f3m pY;have zq3:(((fo:Int)==2)=true/\9=op)\/(((fo:Int)==2)=false/\8=op):=by
    by_cases q:fo=2
    .left;rw[if_pos q] at uM;exact⟨by simp[q],uM⟩
    .right;rw[if_neg q] at uM;exact⟨by simp;omega,uM⟩
   clear uM;have Ds:op<12:=by omega
   have X3:okB (fZ op) 0 6=true:=by rcases zq3 with⟨-,rfl⟩|⟨-,rfl⟩<;>rfl
   have T9:(uJ ⟨op,s1.pos,0,[],z8 6 0⟩).length<=1000000:=by rcases zq3 with⟨-,rfl⟩|⟨-,rfl⟩<;>simp[uJ,fZ,jZ,jb]
   have HP:=z7 (bq p L3 s1 op 0 [] (z8 6 0) (.slice none 0 0) (.slice (some ⟨wr.heap.size,0,none⟩) 6 6) wm HMM.out (qj.nil _) HKM.out (fun g hg=>by cases hg) (fun g hg q=>by cases hg;exact zZ _ (DO.out.lt q)) (fun g hg q=>by cases q)
    (fun g hg=>by rcases hg with hg|hg<;>cases hg;have h1:=DO.out.base;show L3.B<=wr.heap.size;omega)
    ⟨Ds,by simp,by simp,by simp,by simp,X3⟩ HEM.out.fo HEM.out.g1 (by omega) (by omega) T9)
   have HI6:=z7 (show ∃ x,(s1.put op 0 [] (z8 6 0)).code[s1.code.length]? = some x/\x.tg.length=6 from⟨_,by simp[MkS.put];rfl,by simp⟩);have aR:=z7 (MkS.Z1 s1 op 0 [] (z8 6 0));clear Ds X3 T9;rcases zq3 with⟨kf,rfl⟩|⟨kf,rfl⟩;all_goals
    go_wp2_with fail;refine HP.out.mono ?_;rintro e w5 ⟨b,c,rfl,Ir,-,-,L4,G0,⟨hq5,hB5⟩,G6,nb5,nc5⟩;have f35:Fr (L3.has p) (L4.has p) wr w5:=(HFM.out.wide (fun _ q=>q.elim)).tr G6 (fun q hq=>by
     rcases hq with hq|hq|hq
     .exact .inl hq
     .cases hq
     .cases hq;exact .inr (zg _))
    have fw5:Fr (L.has p) (L4.has p) w w5:=U3.out.trans f35;have he5:YS lo hi w0 L4.B w5:=by rw[hB5,B3];exact HE.out.fr fw5 HH.out.lo
    have L6:=HPL.out.fr f35 aR.out;obtain⟨x,hx,wk⟩:=HI6.out;have Qy:∀ k∈pre,k.length<=17:=fun k hk=>(HKS.out k (by rw[HK1.out];exact hk)).1
    obtain⟨wT,wI⟩:=xX (w5.alloc (.cells #[bS b c] 189));obtain⟨zq5,hI⟩:=pU L6 Ir nb5 nc5 he5.na he5.g2 G0 hx wk Qy wI;have O7:Fr xI xI w5 wT:=by rw[<-wI];exact(Fr.refl _ _).alloc _
    have Dl:MkS.jE n of bs s=plG pre al.ix s1.code.length:=by
     funext k x;unfold MkS.jE plG;rw[JZ.out,HK1.out];rfl
    rw[<-Dl,HSS.out,<-HK1.out] at zq5;have hmT:=G0.fr O7 (fun _ q=>q.elim);rw[HSS.out] at hmT;have hzp:=(MkS.Cp n of fo bs s).2;have hgk:=Fo.YR bs;have Zc:=HS.out;have Ss:=z7 (Fz b0 n a fo of cl bs p L4 (MkS.qM n of fo bs s) (MkS.jE n of bs s) _ _ wT om.out hmT (he5.fr O7 (fun _ q=>q.elim)) HND.out HL.out HBC.out Im.out (by rw[HM.out];exact Dw) (by omega) zq5 hI);have HWT:=z7 (fw5.trans (O7.wide (fun _ q=>q.elim)));have hz9:(Qf bs (MkS.jE n of bs s) (MkS.qM n of fo bs s)).sz<=900000:=by
     obtain⟨-,q⟩:=MkS.go_le bs (MkS.jE n of bs s) (MkS.qM n of fo bs s) [] (fun k x=>MkS.Cm n of bs s k x);unfold Qf;rw[MkS.Y9 _ (fun s i=>gP s i 0)];omega
    obtain⟨s9,hs9⟩:=xX (Qf bs (MkS.jE n of bs s) (MkS.qM n of fo bs s));rw[hs9] at Ss hz9;have HS9:=z7 hs9;unfold MkS.sz at hz9;clear hs9 zq5 hI hmT hx L6 he5 fw5 f35 G6 G0 Ir Dl Qy O7;go_wp2_with fail;refine Ss.out.mono ?_;rintro e w9 ⟨rfl,L9,hm9,⟨hq9,wL⟩,hf9⟩;have hw9:=HWT.out.trans hf9;have he9:YS lo hi w0 L9.B w9:=by rw[wL,hB5,B3];exact HE.out.fr hw9 HH.out.lo
    have KE:=z7 (bq p L9 s9 5 0 [] [] (.slice none 0 0) (.slice none 0 0) w9 hm9 (qj.nil _) (qj.nil _) (fun g hg=>by cases hg) (fun g hg=>by cases hg) (fun g hg=>by cases hg) (fun g hg=>by rcases hg with hg|hg<;>cases hg)
     ⟨(by decide:5<12),by simp,by simp,by simp,by simp,rfl⟩ he9.fo he9.g1 (by omega) (by omega) (by simp[uJ,fZ,jZ]))
    have HW9:=z7 hw9;clear hm9 hf9 hw9 he9 Ss wI;go_wp2_with fail;refine KE.out.mono ?_;rintro e wX ⟨b9,c9,rfl,-,-,-,LX,hmX,⟨hqX,hBX⟩,hfX,-,-⟩;have HMX:=z7 hmX;have HFX:=z7 hfX;clear hmX hfX KE;go_wp2;refine bodyPost_ret (v := .tuple #[]) ?_ rfl ?_
    .simp[results,results122,go_sem]
    rw[HS9.out];refine⟨rfl,LX,HMX.out,⟨by rw[hqX,hq9,hq5,XE],by rw[hBX,wL,hB5,B3]⟩,HW9.out.tr HFX.out (fun q hq=>?_)⟩;rcases hq with hq|hq|hq
    .exact HW9.out.fp q hq
    .cases hq
    .cases hq
section
variable (b:Nat) (t:Wd) (w:World)
theorem pK:(zu (.iface 262 (xg t)) 112 262 true).run prog w = .ok (.tuple #[xg t,.bool true]) w:=by rfl
theorem Tz:(zu (.iface 264 (.agg #[])) 112 262 true).run prog w = .ok (.tuple #[.string ⟨#[]⟩,.bool false]) w:=by rfl
theorem pJ:(zu (.iface 264 (.agg #[])) 112 264 true).run prog w = .ok (.tuple #[.agg #[],.bool true]) w:=by rfl
theorem aW:(zu (.iface 172 (.pointer (some ⟨b,0,none⟩))) 112 262 true).run prog w = .ok (.tuple #[.string ⟨#[]⟩,.bool false]) w:=by rfl
theorem aA:(zu (.iface 172 (.pointer (some ⟨b,0,none⟩))) 112 264 true).run prog w = .ok (.tuple #[.agg #[],.bool false]) w:=by rfl
theorem aa:(zu (.iface 175 (.pointer (some ⟨b,0,none⟩))) 112 262 true).run prog w = .ok (.tuple #[.string ⟨#[]⟩,.bool false]) w:=by rfl
theorem ae:(zu (.iface 175 (.pointer (some ⟨b,0,none⟩))) 112 264 true).run prog w = .ok (.tuple #[.agg #[],.bool false]) w:=by rfl
theorem pG:(zu (.iface 177 (.pointer (some ⟨b,0,none⟩))) 112 262 true).run prog w = .ok (.tuple #[.string ⟨#[]⟩,.bool false]) w:=by rfl
theorem pF:(zu (.iface 177 (.pointer (some ⟨b,0,none⟩))) 112 264 true).run prog w = .ok (.tuple #[.agg #[],.bool false]) w:=by rfl
end
theorem ai{lo hi:Nat}{w0:World}(f:Fo)(ih:∀ m:Fo,zy m<zy f->Ip lo hi w0 m):Ip lo hi w0 f:=by
 intro p L s w a c vs h he xi ql hm hw hc hl hs;obtain⟨M,hM⟩:=xX f.len;rw[hM];have Dh:vs.length=M:=(xZ.count f vs ql hm).trans hM;obtain⟨R,hR⟩:=xX (MkS.dm f s);rw[hR];have HH:=z7 h;have HE:=z7 he;have qb:=z7 xi;have Y2:=z7 ql;have HM:=z7 hm;have HC:=z7 hc;have HW:=z7 hw;have HR:=z7 hR;have om:=z7 ih;have Cr:=z7 Dh;have HL:=z7 hM;have HS:=z7 hs;have hL2:M<=2000000:=by omega
 clear h he xi ql hm hc hw hR ih Dh hM hs hl;go_enter func80,ntmps80;go_wp2_with fail;go_loopw [13] (fun iv wr=>∃ i us xs r s1 L1,iv = .int .i64 (i:Nat)/\i<=M/\xZ lo hi w0 xs r/\r.vD=true/\r.UW/\r.wf 2000000=true/\us.length=i/\vs=us++xs/\i+r.len=M/\zy r<=zy f /\
  ux p L1 s1 wr/\(L1.q=L.q/\L1.B=L.B)/\Fr (L.has p) (L1.has p) w wr/\MkS.dm r s1=R/\s1.sz+r.cw<=900000) (fun iv _=>M - (intOf iv).toNat)
 case atStart=>exact⟨0,[],vs,f,s,L,rfl,zY _,Y2.out,HM.out,HC.out,HW.out,rfl,rfl,by have:=HL.out;omega,zg _,HH.out,⟨rfl,rfl⟩,Fr.refl _ _,HR.out,HS.out⟩
 case round =>
  obtain⟨i,us,xs,r,s1,L1,rfl,hiL,fg,wJ,Pp,Hq,Vn,wG,kR,qc,Vl,⟨UP,XF⟩,ug,VB,uH⟩:=hrel;have Ch:YS lo hi w0 L1.B wr:=by rw[XF];exact HE.out.fr ug HH.out.lo
  have HN:=z7 fg;have KG:=z7 wJ;have Sn:=z7 Pp;have Qj:=z7 Hq;have Mn:=z7 wG;have Cs:=z7 Vn;have B2:=z7 Vl;have BJ:=z7 Ch;have Ve:=z7 ug;have fI:=z7 VB;have gN:=z7 uH;have XU:=z7 kR;have dJ:=z7 qc;clear fg wJ Pp Hq wG Vn Vl Ch ug VB uH;by_cases xB:i<M
  .obtain⟨x0,xt,Rq⟩:∃ x0 xt,xs=x0::xt:=by
    cases xs with
    | nil=>have h1:=Cr.out;rw[Mn.out] at h1;have:=Cs.out;simp at h1;omega
    | cons a b=>exact⟨a,b,rfl⟩
   subst Rq;obtain⟨g,o,rfl,Zw,je,vQ⟩:=qb.out i (by have:=Cr.out;omega);have JO:vs[i]'(by have:=Cr.out;omega)=x0:=by
    have h1:vs[i]? = some x0:=by rw[Mn.out,<-Cs.out];simp
    rw[zj (by have:=Cr.out;omega)] at h1;exact zv h1
   rw[JO] at vQ;have qK:=xA BJ.out.keep vQ Zw je;have k1:(i:Int)<(M:Int):=by omega
   have k2:decide ((i:Int)<(M:Int))=true:=by simp;omega
   clear vQ JO kR qc;have wN:∀ (x:Value) (xt:List Value) (r':Fo) (s2:MkS) (L2:bz) (w2:World),x0=x->vs=us++x::xt->xZ lo hi w0 xt r'->r'.vD=true->r'.UW->r'.wf 2000000=true->i+(r'.len+1)=M->zy r'<=zy f->ux p L2 s2 w2->(L2.q=L1.q/\L2.B=L1.B)->Fr (L1.has p) (L2.has p) wr w2->MkS.dm r' s2=R->s2.sz+r'.cw<=900000 ->
     ∃ i' us' xs' r s1 L1,(Value.int .i64 ((i:Int)+1)) = .int .i64 (i':Nat)/\i'<=M/\xZ lo hi w0 xs' r/\r.vD=true/\r.UW/\r.wf 2000000=true/\us'.length=i'/\vs=us'++xs'/\i'+r.len=M/\zy r<=zy f /\
      ux p L1 s1 w2/\(L1.q=L.q/\L1.B=L.B)/\Fr (L.has p) (L1.has p) w w2/\MkS.dm r s1=R/\s1.sz+r.cw<=900000 :=
    fun x xt r' s2 L2 w2 e1 e2 e3 e4 e5 e6 e7 e8 e9 e10 e11 e12 e13=>⟨i+1,us++[x],xt,r',s2,L2,by simp,by omega,e3,e4,e5,e6,by simp[Cs.out],by rw[e2];simp,by omega,e8,e9,⟨e10.1.trans UP,e10.2.trans XF⟩,Ve.out.trans e11,e12,e13⟩
   have Ty:=z7 wN;clear wN
   cases r with
   | nil =>
    have:=HN.out
    cases this
   | uz k0 a0 m0 r0=>have:=KG.out;cases this
   | text t r =>
    obtain⟨vt,Nw,fg⟩:=HN.out
    cases Nw;have a1:=pK t;have Qh:=z7 fg;have wO:=Sn.out;have B1:=gN.out;have ar:=s1.KJ 1 t (.inl rfl);simp only[Fo.cw] at B1;have Fx:=z7 (CH p L1 s1 1 t wr B2.out (.inl rfl) wO.1 (by omega) BJ.out.fo BJ.out.g1);clear fg wO;go_wp2_with fail;refine Fx.out.mono ?_;rintro e w2 ⟨rfl,L2,jA,kh,vU⟩;have YH:=z7 jA;have fL:=z7 vU;clear jA vU Fx;go_wp2;go_roundw
    case rel=>exact Ty.out _ _ r (s1.one 1 t) L2 w2 rfl Mn.out Qh.out KG.out Sn.out.2 Qj.out XU.out (by have:=dJ.out;simp at this;omega) YH.out kh fL.out fI.out (by omega)
    case measure=>simp only[intOf];omega
   | hash r =>
    obtain⟨vt,Nw,fg⟩:=HN.out
    cases Nw;have a1:=Tz;have a2:=pJ;have Qh:=z7 fg;have B1:=gN.out;simp only[Fo.cw] at B1;have ydy:=B1;unfold MkS.sz at ydy;have O3:Fr xI xI wr (wr.alloc (.cells #[] 264)):=(Fr.refl _ _).alloc _;have hx:(uJ ⟨6,s1.pos,0,[],[]⟩).length=1:=by simp[uJ,fZ,jZ]
    have Mt:=gu s1 6 0 [] [];have heA:=BJ.out.fr O3 (fun _ q=>q.elim);have KE:=z7 (bq p L1 s1 6 0 [] [] (.slice none 0 0) (.slice none 0 0) (wr.alloc (.cells #[] 264)) (B2.out.fr O3 (fun _ q=>q.elim)) (qj.nil _) (qj.nil _) (fun g hg=>by cases hg) (fun g hg=>by cases hg) (fun g hg=>by cases hg) (fun g hg=>by rcases hg with hg|hg<;>cases hg)
     ⟨(by decide:6<12),by simp,by simp,by simp,by simp,rfl⟩ heA.fo heA.g1 (by omega) (by omega) (by rw[hx];omega))
    have Rb:=z7 O3;clear fg O3 heA;go_wp2_with fail;refine KE.out.mono ?_;rintro e w2 ⟨b9,c9,rfl,-,-,-,L2,jA,kh,vU,-,-⟩;have YH:=z7 jA;have fL:=z7 (show Fr (L1.has p) (L2.has p) wr w2 from(Rb.out.wide (fun _ q=>q.elim)).tr vU (fun q hq=>by
     rcases hq with hq|hq|hq
     .exact .inl hq
     .cases hq
     .cases hq))
    clear jA vU KE;go_wp2;go_roundw
    case rel=>exact Ty.out _ _ r (s1.put 6 0 [] []) L2 w2 rfl Mn.out Qh.out KG.out Sn.out Qj.out XU.out (by have:=dJ.out;simp at this;omega) YH.out kh fL.out fI.out (by omega)
    case measure=>simp only[intOf];omega
   | put n a r =>
    obtain⟨vt,b0,Nw,xG,xJ,ff,-,fg⟩:=HN.out
    cases Nw;have Mo:=xA BJ.out.keep ff xG xJ;have a1:=aW b0;have a2:=aA b0;have a3:=F5 b0;have Qh:=z7 fg;have wO:=Sn.out;have B1:=gN.out;have ar:=s1.KJ 2 n (by omega);simp only[Fo.cw] at B1;have ZJ:(decide (n.length<=4000001) && r.wf 2000000)=true:=Qj.out;simp only[zk,decide_eq_true_eq] at ZJ;have wC:=z7 ZJ.2;have Fx:=z7 (CH p L1 s1 2 n wr B2.out (by omega) (by have:=wO.1;omega) (by omega) BJ.out.fo BJ.out.g1);clear fg wO ff ZJ;go_wp2_with fail;refine Fx.out.mono ?_;rintro e w2 ⟨rfl,L2,jA,kh,vU⟩;have YH:=z7 jA;have fL:=z7 vU;clear jA vU Fx;go_wp2;go_roundw
    case rel=>exact Ty.out _ _ r (s1.one 2 n) L2 w2 rfl Mn.out Qh.out KG.out Sn.out.2 wC.out XU.out (by have:=dJ.out;simp at this;omega) YH.out kh fL.out fI.out (by omega)
    case measure=>simp only[intOf];omega
   | num n a r =>
    obtain⟨vt,b0,Nw,xG,xJ,ff,-,fg⟩:=HN.out
    cases Nw;have Mo:=xA BJ.out.keep ff xG xJ;have a1:=aa b0;have a2:=ae b0;have a3:=F6 b0;have a4:=Uq b0;have Qh:=z7 fg;have wO:=Sn.out;have B1:=gN.out;have ar:=s1.KJ 3 n (by omega);simp only[Fo.cw] at B1;have ZJ:(decide (n.length<=4000001) && r.wf 2000000)=true:=Qj.out;simp only[zk,decide_eq_true_eq] at ZJ;have wC:=z7 ZJ.2;have Fx:=z7 (CH p L1 s1 3 n wr B2.out (by omega) (by have:=wO.1;omega) (by omega) BJ.out.fo BJ.out.g1);clear fg wO ff ZJ;go_wp2_with fail;refine Fx.out.mono ?_;rintro e w2 ⟨rfl,L2,jA,kh,vU⟩;have YH:=z7 jA;have fL:=z7 vU;clear jA vU Fx;go_wp2;go_roundw
    case rel=>exact Ty.out _ _ r (s1.one 3 n) L2 w2 rfl Mn.out Qh.out KG.out Sn.out.2 wC.out XU.out (by have:=dJ.out;simp at this;omega) YH.out kh fL.out fI.out (by omega)
    case measure=>simp only[intOf];omega
   | br n a fo of cl bs r =>
    obtain⟨vt,b0,ba,bc,ws,Nw,xG,xJ,ah,Hy,DI,hd3,hd4,hd5,KB,UR,fg⟩:=HN.out
    cases Nw;have hh2:=xA BJ.out.keep DI xG xJ;have a1:=pG b0;have a2:=pF b0;have a3:=BE b0;have a4:=KU b0;have a5:=Qu b0;have Qh:=z7 fg;have XQ:xZ lo hi w0 [.iface 177 (.pointer (some ⟨b0,0,none⟩))] (.br n a fo of cl bs .nil):=⟨[],b0,ba,bc,ws,rfl,xG,xJ,ah,Hy,DI,hd3,hd4,hd5,KB,UR,rfl⟩;obtain⟨pD,k2',k3',k4',k5',k6',k7',k8'⟩:=Sn.out;have o8:(Fo.br n a fo of cl bs .nil).UW:=⟨pD,k2',k3',k4',k5',k6',k7',trivial⟩;have ZJ:(decide (n.length<=4000001) && decide (fo<3) && bs.uk && decide (bs.len<=2000000) && bs.wf 2000000 && r.wf 2000000)=true:=Qj.out;have hwk:(Fo.br n a fo of cl bs .nil).wf 2000000=true:=by
     simp only[zk] at ZJ;simp only[Fo.wf,zk];exact⟨ZJ.1,trivial⟩
    simp only[zk,decide_eq_true_eq] at ZJ;have wC:=z7 ZJ.2;have B1:=gN.out;simp only[Fo.cw] at B1;have hih:∀ m:Fo,zy m<zy bs->Ip lo hi w0 m:=fun m hm=>om.out m (by have:=dJ.out;simp at this;omega)
    by_cases Jj:fo=0
    .have kf:((fo:Int)==0)=true:=by simp[Jj]
     have dp:=z7 (show MkS.dm r (Qf bs (MkS.bj n bs s1) (MkS.kY n bs s1))=R by
      have:=fI.out;unfold MkS.dm at this |-
      rw[MkS.qq,if_pos Jj] at this;exact this)
     have hzb:(Qf bs (MkS.bj n bs s1) (MkS.kY n bs s1)).sz+r.cw<=900000:=by
      obtain⟨-,q⟩:=MkS.go_le bs (MkS.bj n bs s1) (MkS.kY n bs s1) [] (fun k x=>MkS.Cl n bs s1 k x);have:=(MkS.Co n bs s1).2;unfold Qf;rw[MkS.Y9 _ (fun s i=>gP s i 0)];omega
     subst Jj;have Me:=z7 (Cw b0 n a of cl bs p L1 s1 wr hih B2.out BJ.out XQ o8 hwk (by omega));clear fg XQ o8 hwk hih ah Hy DI hd3 hd4 hd5 KB UR pD k2' k3' k4' k5' k6' k7' k8' ZJ;go_wp2_with fail;refine Me.out.mono ?_;rintro e w2 ⟨rfl,L2,jA,kh,vU⟩;have YH:=z7 jA;have fL:=z7 vU;clear jA vU Me;go_wp2;go_roundw
     case rel=>exact Ty.out _ _ r _ L2 w2 rfl Mn.out Qh.out KG.out Sn.out.2.2.2.2.2.2.2 wC.out XU.out (by have:=dJ.out;simp at this;omega) YH.out kh fL.out dp.out (by omega)
     case measure=>simp only[intOf];omega
    .have kf:((fo:Int)==0)=false:=by simp;omega
     have dp:=z7 (show MkS.dm r ((Qf bs (MkS.jE n of bs s1) (MkS.qM n of fo bs s1)).put 5 0 [] [])=R by
      have:=fI.out;unfold MkS.dm at this |-
      rw[MkS.qq,if_neg Jj] at this;exact this)
     have hzb:((Qf bs (MkS.jE n of bs s1) (MkS.qM n of fo bs s1)).put 5 0 [] []).sz+r.cw<=900000:=by
      obtain⟨-,q⟩:=MkS.go_le bs (MkS.jE n of bs s1) (MkS.qM n of fo bs s1) [] (fun k x=>MkS.Cm n of bs s1 k x);have:=(MkS.Cp n of fo bs s1).2;have hx:∀ p,(uJ ⟨5,p,0,[],[]⟩).length=1:=fun p=>by simp[uJ,fZ,jZ]
      rw[gu,hx];unfold Qf;rw[MkS.Y9 _ (fun s i=>gP s i 0)];omega
     have Me:=z7 (Oz b0 n a fo of cl bs p L1 s1 wr hih B2.out BJ.out Jj XQ o8 hwk (by omega));clear fg XQ o8 hwk hih ah Hy DI hd3 hd4 hd5 KB UR pD k2' k3' k4' k5' k6' k7' k8' ZJ;go_wp2_with fail;refine Me.out.mono ?_;rintro e w2 ⟨rfl,L2,jA,kh,vU⟩;have YH:=z7 jA;have fL:=z7 vU;clear jA vU Me;go_wp2;go_roundw
     case rel=>exact Ty.out _ _ r _ L2 w2 rfl Mn.out Qh.out KG.out Sn.out.2.2.2.2.2.2.2 wC.out XU.out (by have:=dJ.out;simp at this;omega) YH.out kh fL.out dp.out (by omega)
     case measure=>simp only[intOf];omega
  .have vg:r = .nil:=by
    have:=XU.out;have:=KG.out
    cases r with
    | nil=>rfl
    | uz k a m r=>cases this
    | _=>simp only[Fo.len] at *;omega
   have HX:=z7 (show s1=R by rw[<-fI.out,vg];rfl);have k1:¬(i:Int)<(M:Int):=by omega
   have k2:decide ((i:Int)<(M:Int))=false:=by simp;omega
   clear vg;go_wp2;refine bodyPost_ret (v := .tuple #[]) ?_ rfl ?_
   .simp[results,results80,go_sem]
   rw[<-HX.out];exact⟨rfl,L1,B2.out,⟨UP,XF⟩,Ve.out⟩
theorem pB{lo hi:Nat}{w0:World}:∀ f:Fo,Ip lo hi w0 f:=by
 have key:∀ n (f:Fo),zy f<n->Ip lo hi w0 f:=by
  intro n;induction n with
  | zero=>intro f h;omega
  | succ n ih=>intro f h;exact ai f (fun m hm=>ih m (by omega))
 intro f;exact key _ f (Nat.lt_succ_self _)
def ZU(w:World)(b n:Nat)(f:Nat->Option Nat):Prop :=
 ∃ D:DataW Unit,w.ownsMap prog 3 (plainElem prog 3) b n D/\∀ m:Nat,yv D (.int .i64 (m:Int))=(f m).isSome/\D.atKey (.int .i64 (m:Int)) (.lit (.int .i64 0)) = .lit (.int .i64 (((f m).getD 0:Nat):Int))
theorem ZU.lt{w:World}{b n:Nat}{f:Nat->Option Nat}(h:ZU w b n f):b<w.heap.size:=by
 obtain⟨D,⟨es,clock,ho,_⟩,_⟩:=h;exact(zV.1 ho).1
theorem ZU.keep{w w':World}{b n:Nat}{f:Nat->Option Nat}(h:ZU w b n f)(hb:w'.heap[b]? = w.heap[b]?):ZU w' b n f:=by
 obtain⟨D,⟨es,clock,ho,rest⟩,h2⟩:=h;exact⟨D,⟨es,clock,hb.trans ho,rest⟩,h2⟩
theorem ZU.made(w:World):ZU (w.alloc (.map #[] 0)) w.heap.size 0 (fun _=>none):=⟨.map [],zL w _ _ _,fun m=>⟨rfl,rfl⟩⟩
theorem Oq{m:Nat}(hm:m<=4000000000):(Lit.int .i64 (m:Int)).wf=true:=by simp[Lit.wf,IntKind.min,IntKind.max,IntKind.signed,IntKind.bits];omega
theorem ZU.look{w:World}{b n:Nat}{f:Nat->Option Nat}(h:ZU w b n f)(m:Nat)(hm:m<=4000000000) :
  (Instr.lookup 124 (.map (some b)) (.int .i64 (m:Int)) true).run prog w = .ok (.tuple #[.int .i64 (((f m).getD 0:Nat):Int),.bool (f m).isSome]) w:=by
 obtain⟨D,h1,h3⟩:=h;obtain⟨v,ps,vH,hv⟩:=h1.look_ok (yx underlying3) underlying124 (z := .int .i64 0) (by first|rfl|simp[go_sem]) (plainElem_int underlying3 (by decide))
  (key := .int .i64 (m:Int)) (zm underlying3 (Oq hm))
 rw[(h3 m).1] at vH;rw[(h3 m).2] at hv;obtain⟨c,rfl,hc,_⟩:=plainElem_int_inv underlying3 hv;simp only[Prod.mk.injEq,DataW.lit.injEq,Lit.int.injEq] at hc;rw[vH,<-hc.1.2]
theorem ZU.put{w:World}{b n:Nat}{f:Nat->Option Nat}(h:ZU w b n f)(m:Nat)(hm:m<=4000000000)(k:Nat)(hk:k<=4000000000)(hn:n<=1000000000) :
  ∃ w',(zR 124 (.map (some b)) (.int .i64 (m:Int)) (.int .i64 (k:Int))).run prog w = .ok () w'/\ZU w' b (n+1) (fun x=>if m=x then some k else f x)/\w.grownBy w' (some b):=by
 obtain⟨D,h1,h3⟩:=h;have hi:=h1.isMap;obtain⟨w',vH,xV,hg⟩:=h1.update (yx underlying3) underlying124 (by unfold maxLen;omega) (key := .int .i64 (m:Int)) (zm underlying3 (Oq hm))
  (plainElem_int underlying3 (q := .i64) (a:=(k:Int)) (Oq hk))
 refine⟨w',vH,⟨_,xV,fun x=>?_⟩,hg⟩;by_cases hx:m=x
 .subst hx;simp only[↓reduceIte];exact⟨by rw[zO hi (show zf (.int .i64 (m:Int)) from trivial)];simp,by rw[zI hi (show zf (.int .i64 (m:Int)) from trivial)];simp⟩
 .simp only[hx,↓reduceIte];have vy:(Lit.int .i64 (x:Int)) ≠ .int .i64 (m:Int):=fun q=>hx (by cases q;rfl)
  exact⟨by rw[zM vy];exact(h3 x).1,by rw[zH vy];exact(h3 x).2⟩
def dF(code:List jG):Nat->Nat->Option Nat
 | 0,_=>none
 | k+1,x=>if (code[k]?.map (·.pos))=some x then some k else dF code k x
theorem Tx(t:TypeId)(k e:TypeId)(ht:prog.underlying t=some (.map k e))(n:Nat)(w:World):(yk t (some (.int .i64 (n:Int)))).run prog w = .ok (.map (some w.heap.size)) (w.alloc (.map #[] 0)):=by
 simp[yk,run_underlying ht,asInt,go_sem]
def ydb(p:Nat)(L:bz)(s:MkS)(w:World)(e:Ending)(w':World):Prop :=
 e = .returned (.tuple #[])/\∃ mb,w.heap.size<=mb/\w'.cell? ⟨L.q,0,none⟩=some L.vC/\w'.cell? ⟨L.q,1,none⟩=some L.vI/\w'.cell? ⟨L.q,2,none⟩=some (.map (some mb))/\ZU w' mb s.code.length (dF s.code s.code.length)/\Fr (fun g=>g=L.q) (fun g=>g=L.q\/g=mb) w w'
theorem Tv(p:Nat)(L:bz)(s:MkS)(w:World)(h:ux p L s w)(hl:s.code.length<=1000000)(hp:∀ x∈s.code,x.pos<=4000000000) :
  Calls prog 82 #[.pointer (some ⟨L.q,0,none⟩)] w (ydb p L s w):=by
 have HH:=z7 h;have HP:=z7 hp;obtain⟨ia,ic,GF⟩:=xf h.cI;obtain⟨n,hn⟩:=xX s.code.length;have q1:=h.q1;rw[GF,hn] at q1;have q1a:=fun o=>xQ q1 o
 have q2:=h.q2;have q2a:=fun o=>xQ q2 o
 have lq:=bR h.tq;have zqa:∀ o j,(w.alloc o).frozen? ⟨L.q,j,none⟩=false:=fun o j=>(World.frozen?_of_block (Below.heap_alloc _ _ _ lq)).trans (h.zq j)
 have hmh:=Tx 124 _ _ underlying124 n;obtain⟨A,hA⟩:=xX ((w.alloc (.map #[] 0)).setCell ⟨L.q,2,none⟩ (.map (some w.heap.size)));have fA:Fr (fun g=>g=L.q) (fun g=>g=L.q) w A:=by rw[<-hA];exact((Fr.refl _ _).alloc _).set _ (.inl rfl)
 have a0:A.cell? ⟨L.q,0,none⟩=some L.vC:=by rw[<-hA,xk,if_neg (by simp)];exact xQ h.q0 _
 have a1:A.cell? ⟨L.q,1,none⟩=some L.vI:=by rw[<-hA,xk,if_neg (by simp)];exact xQ h.q1 _
 have a2:A.cell? ⟨L.q,2,none⟩=some (.map (some w.heap.size)):=by rw[<-hA];exact uy (xQ h.q2 _) _
 have aM:ZU A w.heap.size 0 (fun _=>none):=by
  rw[<-hA];exact(ZU.made w).keep (Below.heap_setCell _ _ _ _ (by show w.heap.size≠L.q;omega))
 have xV:w.ownsRow 0 128 5 L.vI n (bu s.code L.rs):=by rw[<-hn];exact h.cI
 obtain⟨mb,Hk⟩:=xX w.heap.size;have VH:=z7 xV;have DW:n<=1000000:=by rw[<-hn];exact hl
 have HN:=z7 hn;have Rb:=z7 fA;have HVI:=z7 GF;have nI:∀ g,xY L.vI g->g≠L.q:=fun g hg=>(h.nI hg).2.1
 have ltI:∀ g,xY L.vI g->g<mb:=fun g hg=>by rw[<-Hk];exact ui h.cI hg
 rw[GF,hn] at a1;rw[Hk] at a2 aM;clear h hp fA xV hn GF;go_enter func82,ntmps82;go_wp2_with fail;have Rf:(w.alloc (.map #[] 0)).setCell ⟨L.q,2,none⟩ (.map (some mb))=A:=by rw[<-Hk];exact hA
 rw[Rf];have Ok:=z7 Hk;clear hA Rf Hk q1 q1a q2 q2a zqa hmh;go_loopw [17] (fun kv wr=>∃ k,kv = .int .i64 (k:Nat)/\k<=n/\ZU wr mb k (dF s.code k)/\Fr (fun g=>g=L.q) (fun g=>g=L.q\/g=mb) w wr/\wr.cell? ⟨L.q,0,none⟩=some L.vC/\wr.cell? ⟨L.q,1,none⟩=some (.slice ia n ic)/\wr.cell? ⟨L.q,2,none⟩=some (.map (some mb))) (fun kv _=>n - (intOf kv).toNat)
 case atStart=>exact⟨0,rfl,zY _,aM,Rb.out.tg (fun g hg=>hg.elim .inl (fun e => .inr (by rw[e,Ok.out];exact zg _))),a0,a1,a2⟩
 case round =>
  clear aM a0 a1 a2;obtain⟨k,rfl,hk,Vd,hf,c0,c1,c2⟩:=hrel;have HF:=z7 hf;by_cases xB:k<n
  .obtain⟨x,hx⟩:∃ x,s.code[k]? = some x:=⟨_,zj (by rw[HN.out];exact xB)⟩;obtain⟨r,hr⟩:∃ r,L.rs[k]? = some r:=⟨_,zj (by have:=HH.out.rows.len;have:=HN.out;omega)⟩;obtain⟨I,ic2,hv,-,hI,Zd⟩:=vZ VH.out (by omega);have R7:ia=some ⟨I,0,none⟩:=by have:=HVI.out;rw[hv] at this;cases this;rfl
   subst R7;have rI:xY L.vI I:=by rw[HVI.out];rfl
   have d1:w.cell? ⟨I,k*5+1,none⟩=some (.int .i64 x.pos):=by
    rw[Zd _ (by omega),Ul _ _ HH.out.rows.len k 1 x r hx hr (by omega)];rfl
   have d2:=hf.cell d1 (nI I rI);have hxp:=HP.out x (List.mem_of_getElem? hx);obtain⟨w2,XG,O6,je⟩:=(Vd.keep (w':=wr.drew) rfl).put x.pos hxp k (by omega) (by omega);have gx:(fun y=>if x.pos=y then some k else dF s.code k y)=dF s.code (k+1):=by
    funext y;simp only[dF,hx,Option.map_some,Option.some.injEq]
   rw[gx] at O6;have vU:Fr (fun g=>g=mb) (fun g=>g=mb) wr w2:=(show Fr (fun g=>g=mb) (fun g=>g=mb) wr.drew w2 from⟨je.os,je.tape,je.output,je.size,fun k hk hn=>je.block k hk (fun e=>hn (zv e)),fun _ q => .inl q⟩).und;have hq:L.q≠mb:=by have:=Ok.out;omega
   have It:=z7 O6;have fL:=z7 (hf.over vU (by rintro g rfl;exact .inr (by rw[Ok.out];exact zg _)));have e0:=vU.cell c0 hq;have e1:=vU.cell c1 hq;have e2:=vU.cell c2 hq;have d3:=vU.cell d2 (show I≠mb by have:=ltI I rI;omega);have k3:(k:Int)<(n:Int):=by omega
   have k4:decide ((k:Int)<(n:Int))=true:=by simp;omega
   clear hf Vd O6 je vU Zd hx hr hv d1;go_wp2_with fail;refine rt (fun W':World=>W'.cell? ⟨L.q,1,none⟩=some (.slice (some ⟨I,0,none⟩) n ic)/\W'.cell? ⟨L.q,2,none⟩=some (.map (some mb))/\W'.cell? ⟨I,k*5+1,none⟩=some (.int .i64 x.pos)) (zE 13) 1 ⟨c1,c2,d2⟩ ?_;(iterate 13 (refine ty ?_;try simp only[pl]))
   refine xq ?_;refine jx 13 (fun J hJ=>?_);go_simp;refine hJ.out _ _ ⟨e1,e2,d3⟩ fun _=>?_
   clear hJ J;refine b7 ?_ _;clear XG;go_wp2;go_roundw
   case rel=>exact⟨k+1,by go_num,by omega,It.out,fL.out,e0,e1,e2⟩
   case measure=>simp only[intOf];omega
  .have Jt:k=n:=by omega
   have HK:=z7 (show ZU wr mb s.code.length (dF s.code s.code.length) by rw[HN.out];rw[Jt] at Vd;exact Vd);have k3:¬(k:Int)<(n:Int):=by omega
   have k4:decide ((k:Int)<(n:Int))=false:=by simp;omega
   clear hf Vd Jt;go_wp2;refine bodyPost_ret (v := .tuple #[]) ?_ rfl ?_
   .simp[results,results82,go_sem]
   exact⟨rfl,mb,by rw[Ok.out];exact zg _,c0,by rw[HVI.out,HN.out];exact c1,c2,HK.out,HF.out⟩
end Go.Proofs.YthpldolmpinnhaaGreatDoor
